/- The walk of the Go functions that a law reaches, told as plain functions; a program of this session has written it. No condition beyond the statement's own. -/
import Derived.Test.YtjlbgbiceafdjaaPLerpNumbersx0
import Derived.Test.YtjlbgbiceafdjaaPLerpNumbersx2
import Derived.Test.YtjlbgbiceafdjaaPLerpNumbersx11
namespace Go.Proofs.Ytjlbgbiceafdjaa.PLerpNumbers
open Go.RowKit Go.Proofs.YtjlbgbiceafdjaaW.PrintWords Go.Proofs.YtjlbgbiceafdjaaW.PrintLast Go.Proofs.YtjlbgbiceafdjaaW.PrintMore
attribute [local go_sem] max2_int min2_int max_two min_two max_three min_three max_four min_four   -- for this text's walks alone
set_option linter.unusedVariables false
set_option linter.unusedSimpArgs false

/-! ### marigraphlaw22_LerpNumbers: function 5 -/
mutual
def marigraphlaw22_LerpNumbers.l0 : Nat → List (S41) → Int → Option (Bool)
 | 0, _, _ => none
 | k + 1, x1, x2 => if x2 < 50 then ((marigraphlaw22_at.f k x1 x2).bind fun t325 => (if t325 = true then (marigraphlaw22_LerpNumbers.l1 k x1 x2 0) else (some false))) else ((some (([(⟨0, (⟨(-2147483647), 1⟩ : S39)⟩ : S41), (⟨4294967295, (⟨2147483647, 1⟩ : S39)⟩ : S41)] : List (S41)) : List (S41))).bind fun y329 => ((some (([(⟨0, (⟨0, 1⟩ : S39)⟩ : S41), (⟨4294967295, (⟨1, 1⟩ : S39)⟩ : S41)] : List (S41)) : List (S41))).bind fun y332 => ((marigraphlaw22_at.f k y329 5).bind fun t335 => (if t335 = true then ((marigraphlaw22_at.f k y332 5).bind fun t336 => (if t336 = true then ((marigraphlaw22_at.f k y332 1431655765).bind fun t337 => (if t337 = true then ((marigraphlaw22_at.f k (([(⟨1, (⟨0, 0⟩ : S39)⟩ : S41)] : List (S41))) 1).bind fun t341 => (if t341 = true then ((marigraphlaw22_at.f k (([(⟨5, (⟨0, 1⟩ : S39)⟩ : S41), (⟨4, (⟨0, 1⟩ : S39)⟩ : S41)] : List (S41))) 5).bind fun t345 => (if t345 = true then (if 0 < (y329.length : Int) then (if 1 < (y329.length : Int) then ((marigraphlaw22_between.f k ((rd_T41 y329 0).f0) ((rd_T41 y329 0).f1.f0) ((rd_T41 y329 0).f1.f1) ((rd_T41 y329 1).f0) ((rd_T41 y329 1).f1.f0) ((rd_T41 y329 1).f1.f1) 7).bind fun t348 => (if t348 = true then ((marigraphlaw22_between.f k 0 0 0 ((rd_T41 y329 1).f0) ((rd_T41 y329 1).f1.f0) ((rd_T41 y329 1).f1.f1) 5).bind fun t350 => (if t350 = true then ((marigraphlaw22_known.f k).bind fun t351 => (some t351)) else (some false))) else (some false))) else (none)) else (none)) else (some false))) else (some false))) else (some false))) else (some false))) else (some false)))))
def marigraphlaw22_LerpNumbers.l1 : Nat → List (S41) → Int → Int → Option (Bool)
 | 0, _, _, _ => none
 | k + 1, x1, x2, x3 => if x3 < (x1.length : Int) then (marigraphlaw22_LerpNumbers.l2 k x1 x2 x3 0) else (marigraphlaw22_LerpNumbers.l0 k x1 (wrap64 (x2 + 1)))
def marigraphlaw22_LerpNumbers.l2 : Nat → List (S41) → Int → Int → Int → Option (Bool)
 | 0, _, _, _, _ => none
 | k + 1, x1, x2, x3, x4 => if x4 < (x1.length : Int) then (if 0 ≤ x3 then (if x3 < (x1.length : Int) then (if 0 ≤ x4 then ((marigraphlaw22_between.f k ((rd_T41 x1 x3).f0) ((rd_T41 x1 x3).f1.f0) ((rd_T41 x1 x3).f1.f1) ((rd_T41 x1 x4).f0) ((rd_T41 x1 x4).f1.f0) ((rd_T41 x1 x4).f1.f1) x2).bind fun t328 => (if t328 = true then (marigraphlaw22_LerpNumbers.l2 k x1 x2 x3 (wrap64 (x4 + 1))) else (some false))) else (none)) else (none)) else (none)) else (marigraphlaw22_LerpNumbers.l1 k x1 x2 (wrap64 (x3 + 1)))
end
def marigraphlaw22_LerpNumbers.f (k : Nat)  : Option (Bool) := (marigraphkeep_Samples.f k (([3, 10, 7, 20] : List Int)) (([5, (-3), 12, 7] : List Int)) 4).bind fun t322 => (marigraphlaw22_LerpNumbers.l0 k t322 (-2))
theorem marigraphlaw22_LerpNumbers.mono_l : ∀ k, (∀ y0 y1, LeO (marigraphlaw22_LerpNumbers.l0 k y0 y1) (marigraphlaw22_LerpNumbers.l0 (k + 1) y0 y1)) ∧ (∀ y0 y1 y2, LeO (marigraphlaw22_LerpNumbers.l1 k y0 y1 y2) (marigraphlaw22_LerpNumbers.l1 (k + 1) y0 y1 y2)) ∧ (∀ y0 y1 y2 y3, LeO (marigraphlaw22_LerpNumbers.l2 k y0 y1 y2 y3) (marigraphlaw22_LerpNumbers.l2 (k + 1) y0 y1 y2 y3))
 | 0 => ⟨fun _ _ r h => by simp [marigraphlaw22_LerpNumbers.l0] at h, fun _ _ _ r h => by simp [marigraphlaw22_LerpNumbers.l1] at h, fun _ _ _ _ r h => by simp [marigraphlaw22_LerpNumbers.l2] at h⟩
 | k + 1 => by
  obtain ⟨ih0, ih1, ih2⟩ := marigraphlaw22_LerpNumbers.mono_l k
  refine ⟨?_, ?_, ?_⟩
  ·intro y0 y1
   unfold marigraphlaw22_LerpNumbers.l0
   repeat' first
   | (with_reducible exact ih0 _ _)
   | (with_reducible exact ih1 _ _ _)
   | (with_reducible exact ih2 _ _ _ _)
   | (with_reducible exact marigraphkeep_Samples.mono _ _ _ _)
   | (with_reducible exact marigraphlaw22_at.mono _ _ _)
   | (with_reducible exact marigraphlaw22_between.mono _ _ _ _ _ _ _ _)
   | (with_reducible exact marigraphlaw22_known.mono _)
   | (with_reducible exact LeO.refl _)
   | (with_reducible exact LeO.none _)
   | (with_reducible refine LeO.ite ?_ ?_)
   | (with_reducible refine LeO.bind ?_ (fun _ => ?_))
   | exact ih0 _ _
   | exact ih1 _ _ _
   | exact ih2 _ _ _ _
   | exact marigraphkeep_Samples.mono _ _ _ _
   | exact marigraphlaw22_at.mono _ _ _
   | exact marigraphlaw22_between.mono _ _ _ _ _ _ _ _
   | exact marigraphlaw22_known.mono _
   | exact LeO.none _
   | refine LeO.ite ?_ ?_
   | refine LeO.bind ?_ (fun _ => ?_)
  ·intro y0 y1 y2
   unfold marigraphlaw22_LerpNumbers.l1
   repeat' first
   | (with_reducible exact ih0 _ _)
   | (with_reducible exact ih1 _ _ _)
   | (with_reducible exact ih2 _ _ _ _)
   | (with_reducible exact marigraphkeep_Samples.mono _ _ _ _)
   | (with_reducible exact marigraphlaw22_at.mono _ _ _)
   | (with_reducible exact marigraphlaw22_between.mono _ _ _ _ _ _ _ _)
   | (with_reducible exact marigraphlaw22_known.mono _)
   | (with_reducible exact LeO.refl _)
   | (with_reducible exact LeO.none _)
   | (with_reducible refine LeO.ite ?_ ?_)
   | (with_reducible refine LeO.bind ?_ (fun _ => ?_))
   | exact ih0 _ _
   | exact ih1 _ _ _
   | exact ih2 _ _ _ _
   | exact marigraphkeep_Samples.mono _ _ _ _
   | exact marigraphlaw22_at.mono _ _ _
   | exact marigraphlaw22_between.mono _ _ _ _ _ _ _ _
   | exact marigraphlaw22_known.mono _
   | exact LeO.none _
   | refine LeO.ite ?_ ?_
   | refine LeO.bind ?_ (fun _ => ?_)
  ·intro y0 y1 y2 y3
   unfold marigraphlaw22_LerpNumbers.l2
   repeat' first
   | (with_reducible exact ih0 _ _)
   | (with_reducible exact ih1 _ _ _)
   | (with_reducible exact ih2 _ _ _ _)
   | (with_reducible exact marigraphkeep_Samples.mono _ _ _ _)
   | (with_reducible exact marigraphlaw22_at.mono _ _ _)
   | (with_reducible exact marigraphlaw22_between.mono _ _ _ _ _ _ _ _)
   | (with_reducible exact marigraphlaw22_known.mono _)
   | (with_reducible exact LeO.refl _)
   | (with_reducible exact LeO.none _)
   | (with_reducible refine LeO.ite ?_ ?_)
   | (with_reducible refine LeO.bind ?_ (fun _ => ?_))
   | exact ih0 _ _
   | exact ih1 _ _ _
   | exact ih2 _ _ _ _
   | exact marigraphkeep_Samples.mono _ _ _ _
   | exact marigraphlaw22_at.mono _ _ _
   | exact marigraphlaw22_between.mono _ _ _ _ _ _ _ _
   | exact marigraphlaw22_known.mono _
   | exact LeO.none _
   | refine LeO.ite ?_ ?_
   | refine LeO.bind ?_ (fun _ => ?_)
theorem marigraphlaw22_LerpNumbers.mono : ∀ k, LeO (marigraphlaw22_LerpNumbers.f k ) (marigraphlaw22_LerpNumbers.f (k + 1) ) := by
 intro  k
 obtain ⟨ih0, ih1, ih2⟩ := marigraphlaw22_LerpNumbers.mono_l k
 unfold marigraphlaw22_LerpNumbers.f
 repeat' first
   | (with_reducible exact ih0 _ _)
   | (with_reducible exact ih1 _ _ _)
   | (with_reducible exact ih2 _ _ _ _)
   | (with_reducible exact marigraphkeep_Samples.mono _ _ _ _)
   | (with_reducible exact marigraphlaw22_at.mono _ _ _)
   | (with_reducible exact marigraphlaw22_between.mono _ _ _ _ _ _ _ _)
   | (with_reducible exact marigraphlaw22_known.mono _)
   | (with_reducible exact LeO.refl _)
   | (with_reducible exact LeO.none _)
   | (with_reducible refine LeO.ite ?_ ?_)
   | (with_reducible refine LeO.bind ?_ (fun _ => ?_))
   | exact ih0 _ _
   | exact ih1 _ _ _
   | exact ih2 _ _ _ _
   | exact marigraphkeep_Samples.mono _ _ _ _
   | exact marigraphlaw22_at.mono _ _ _
   | exact marigraphlaw22_between.mono _ _ _ _ _ _ _ _
   | exact marigraphlaw22_known.mono _
   | exact LeO.none _
   | refine LeO.ite ?_ ?_
   | refine LeO.bind ?_ (fun _ => ?_)
def marigraphlaw22_LerpNumbers.T13 : Bool × List (List Nat × List Nat) := (true, [([], []), ([], []), ([0, 1], [0, 1]), ([2], [2]), ([], []), ([], []), ([4, 5], [4, 5]), ([6], [6]), ([], []), ([3, 7, 8], [3, 7, 8]), ([9], [9])])
def marigraphlaw22_LerpNumbers.B13 : List Nat := [0, 0, 3, 7, 0, 0, 48, 112, 0, 511, 1023]
theorem marigraphlaw22_LerpNumbers.tab13 : rtab .any (opsOf Try.f5 13) = marigraphlaw22_LerpNumbers.T13 := by kernel_rfl
theorem marigraphlaw22_LerpNumbers.bits13 : waitsOk marigraphlaw22_LerpNumbers.T13.2 marigraphlaw22_LerpNumbers.B13 = true := by kernel_rfl
def marigraphlaw22_LerpNumbers.T17 : Bool × List (List Nat × List Nat) := (true, [([], []), ([0], [0]), ([1, 1], [1]), ([2], [2]), ([3, 2, 2], [2, 3]), ([2, 4], [2, 4]), ([5, 4], [5]), ([6], [6]), ([7, 6, 6], [6, 7]), ([6, 8], [6, 8]), ([9, 8], [9]), ([10], [10]), ([11, 10], [10, 11]), ([12, 10, 10], [10, 12]), ([10, 13], [10, 13]), ([14, 13], [14]), ([15], [15]), ([16, 15], [15, 16]), ([15], [15]), ([18, 15], [15, 18]), ([17, 19, 15], [15, 17, 19]), ([20, 15, 15], [15, 20]), ([15, 21], [15, 21]), ([22, 21], [22]), ([23], [23]), ([24, 23], [23, 24]), ([25, 23], [23, 25]), ([23], [23]), ([27, 23], [23, 27]), ([28, 23], [23, 28]), ([26, 29, 23, 23], [23, 26, 29]), ([23, 30], [23, 30]), ([31, 30], [31]), ([32], [32]), ([32], [32]), ([34, 32], [32, 34]), ([35, 32], [32, 35]), ([33, 36, 32, 32], [32, 33, 36]), ([32, 37], [32, 37]), ([38, 37], [38]), ([39, 39], [39]), ([39, 40], [39, 40]), ([41, 40, 0, 1, 2, 3, 4, 5, 6, 7, 8, 9, 10, 11, 12, 13, 14, 15, 16, 17, 18, 19, 20, 21, 22, 23, 24, 25, 26, 27, 28, 29, 30, 31, 32, 33, 34, 35, 36, 37, 38, 39, 40, 41], [41])])
def marigraphlaw22_LerpNumbers.B17 : List Nat := [0, 1, 3, 7, 15, 31, 63, 127, 255, 511, 1023, 2047, 4095, 8191, 16383, 32767, 65535, 131071, 65535, 327679, 1048575, 2097151, 4194303, 8388607, 16777215, 33554431, 67108863, 16777215, 150994943, 419430399, 1073741823, 2147483647, 4294967295, 8589934591, 8589934591, 25769803775, 60129542143, 137438953471, 274877906943, 549755813887, 1099511627775, 2199023255551, 4398046511103]
theorem marigraphlaw22_LerpNumbers.tab17 : rtab .any (opsOf Try.f5 17) = marigraphlaw22_LerpNumbers.T17 := by kernel_rfl
theorem marigraphlaw22_LerpNumbers.bits17 : waitsOk marigraphlaw22_LerpNumbers.T17.2 marigraphlaw22_LerpNumbers.B17 = true := by kernel_rfl
set_option maxHeartbeats 8000000 in
set_option maxRecDepth 100000 in
theorem marigraphlaw22_LerpNumbers.calls (k : Nat)  (r : Bool) (w : World) (h : marigraphlaw22_LerpNumbers.f k  = some r) :
  Calls Try.prog 5 #[] w fun e w' => e = .returned (.bool r) ∧ Below w.heap.size w w' := by
 have hu41 := Try.underlying41
 have hu39 := Try.underlying39
 have HB := Aside0.mk (Below.refl w.heap.size w)
 have H : ((marigraphkeep_Samples.f k (([3, 10, 7, 20] : List Int)) (([5, (-3), 12, 7] : List Int)) 4).bind fun t322 => (marigraphlaw22_LerpNumbers.l0 k t322 (-2))) = some r := h
 clear h
 obtain ⟨y316, hy316⟩ : ∃ y_ : List Int, y_ = (([3, 10, 7, 20] : List Int)) := ⟨_, rfl⟩
 replace H : ((marigraphkeep_Samples.f k y316 (([5, (-3), 12, 7] : List Int)) 4).bind fun t322 => (marigraphlaw22_LerpNumbers.l0 k t322 (-2))) = some r := by first | (rw [hy316]; with_reducible exact H) | (have H2_ := (Option.bind_some _ _).symm.trans H; rw [hy316]; with_reducible exact H2_) | (have H2_ := (Option.bind_some _ _).symm.trans H; with_reducible exact H2_) | with_reducible exact H | (rw [hy316]; exact H) | exact H
 have Ny316 := Aside0.mk hy316
 clear hy316
 obtain ⟨y319, hy319⟩ : ∃ y_ : List Int, y_ = (([5, (-3), 12, 7] : List Int)) := ⟨_, rfl⟩
 replace H : ((marigraphkeep_Samples.f k y316 y319 4).bind fun t322 => (marigraphlaw22_LerpNumbers.l0 k t322 (-2))) = some r := by first | (rw [hy319]; with_reducible exact H) | (have H2_ := (Option.bind_some _ _).symm.trans H; rw [hy319]; with_reducible exact H2_) | (have H2_ := (Option.bind_some _ _).symm.trans H; with_reducible exact H2_) | with_reducible exact H | (rw [hy319]; exact H) | exact H
 have Ny319 := Aside0.mk hy319
 clear hy319
 replace H := Option.bind_eq_some_iff.mp H
 obtain ⟨t322, A10, H⟩ := H
 replace H : (marigraphlaw22_LerpNumbers.l0 k t322 (-2)) = some r := H
 have A1 := Aside0.mk A10
 clear A10
 have H' := Aside0.mk H
 clear H
 go_enter Try.func5, Try.ntmps5
 go_wp2_with (first | ((with_reducible refine gate_dst (N := 7) rfl ?_); (try (refine gate_guard (by rfl) ?_; dsimp only)); refine Kd.R_lit (Kd.int .i64) _ 3 ?hg (N := 7) ?hd (xs := ([3, 10, 7, 20] : List Int)) (inner := [.int .i64 3, .int .i64 10, .int .i64 7, .int .i64 20]) (ok := fun _ => True) (okp := fun _ => True) ?hr ?hp (fun _ hk => hk) trivial (Below.refl _ _) (Nat.le_refl _) (by simp) ?_; (case hd => rfl); (case hg => rfl); (case hr => first | (go_simp; done) | (go_simp; rfl)); (case hp => exact (Reps.one (show Kd.M (Kd.int .i64) _ _ _ 3 [.int .i64 3] from rfl) (Reps.one (show Kd.M (Kd.int .i64) _ _ _ 10 [.int .i64 10] from rfl) (Reps.one (show Kd.M (Kd.int .i64) _ _ _ 7 [.int .i64 7] from rfl) (Reps.one (show Kd.M (Kd.int .i64) _ _ _ 20 [.int .i64 20] from rfl) (Reps.none _ _)))))); intro v317 w2 ho3 hb hg_ hnew_; clear hg_ hnew_; (first | rw [← Ny316.out] at ho3 | (simp only [Int.reduceToNat] at ho3; rw [← Ny316.out] at ho3)); have n0_ := Aside0.mk (Kd.R_lower ho3 (below_size (belN HB.out))); have n1_ := Aside0.mk (below_step (belN HB.out) hb); clear HB; have HO318 := n0_; have HB := n1_; clear n0_ n1_; clear hb ho3) | ((with_reducible refine gate_dst (N := 8) rfl ?_); (try (refine gate_guard (by rfl) ?_; dsimp only)); refine Kd.R_lit (Kd.int .i64) _ 3 ?hg (N := 8) ?hd (xs := ([5, (-3), 12, 7] : List Int)) (inner := [.int .i64 5, .int .i64 (-3), .int .i64 12, .int .i64 7]) (ok := fun _ => True) (okp := fun _ => True) ?hr ?hp (fun _ hk => hk) trivial (Below.refl _ _) (Nat.le_refl _) (by simp) ?_; (case hd => rfl); (case hg => rfl); (case hr => first | (go_simp; done) | (go_simp; rfl)); (case hp => exact (Reps.one (show Kd.M (Kd.int .i64) _ _ _ 5 [.int .i64 5] from rfl) (Reps.one (show Kd.M (Kd.int .i64) _ _ _ (-3) [.int .i64 (-3)] from rfl) (Reps.one (show Kd.M (Kd.int .i64) _ _ _ 12 [.int .i64 12] from rfl) (Reps.one (show Kd.M (Kd.int .i64) _ _ _ 7 [.int .i64 7] from rfl) (Reps.none _ _)))))); intro v320 w4 ho5 hb hg_ hnew_; clear hg_ hnew_; (first | rw [← Ny319.out] at ho5 | (simp only [Int.reduceToNat] at ho5; rw [← Ny319.out] at ho5)); have n0_ := Aside0.mk (Kd.R_elder' (rowN HO318.out) (Kd.R_base ho5) hb); have n1_ := Aside0.mk (Kd.R_lower (Kd.R_new' ho5 (Kd.R_lt (rowN HO318.out))) (below_size (belN HB.out))); have n2_ := Aside0.mk (below_step (belN HB.out) hb); clear HO318; clear HB; have HO318 := n0_; have HO321 := n1_; have HB := n2_; clear n0_ n1_ n2_; clear hb ho5; obtain ⟨Ao6, co6, eo6⟩ := Kd.R_slice HO318.out; subst eo6; obtain ⟨Ao7, co7, eo7⟩ := Kd.R_slice HO321.out; subst eo7) | ((with_reducible refine gate_callee (f := 14) rfl ?_); refine goesL_ (some 9) rfl rfl Try.func14 (by kernel_rfl) rfl #[.slice Ao6 y316.length co6, .slice Ao7 y319.length co7, .int .i64 4] rfl argN ?_; (with_reducible refine (marigraphkeep_Samples.calls k _ _ y316 _ _ y319 4 t322 _ ?side1 ?side2 ?side3 ?side4 A1.out).mono ?_); (case side1 => repeat (first | exact (Kd.R_reads' HO318.out).2.2 | (with_reducible refine Kd.C_alloc ?_ _) | (with_reducible refine Kd.C_drewN ?_ _) | (with_reducible refine Kd.C_drew ?_))); (case side2 => exact (Kd.R_reads' HO318.out).2.1); (case side3 => repeat (first | exact (Kd.R_reads' HO321.out).2.2 | (with_reducible refine Kd.C_alloc ?_ _) | (with_reducible refine Kd.C_drewN ?_ _) | (with_reducible refine Kd.C_drew ?_))); (case side4 => exact (Kd.R_reads' HO321.out).2.1); rintro e w8 ⟨v323, rfl, ho0, hb⟩; refine ⟨_, rfl, ?_⟩; have n0_ := Aside0.mk (Kd.R_below (rowN HO318.out) hb); have n1_ := Aside0.mk (Kd.R_below (rowN HO321.out) hb); have n2_ := Aside0.mk (Kd.R_lower ho0 (below_size (belN HB.out))); have n3_ := Aside0.mk (below_step (belN HB.out) hb); clear HO318; clear HO321; clear HB; have HO318 := n0_; have HO321 := n1_; have HO324 := n2_; have HB := n3_; clear n0_ n1_ n2_ n3_; (try clear hb); (try clear hk); (try clear ho0)))
 go_loopg [2] k (fun kq v2 w' => ∃ (x2_1 : Int), v2 = .int .i64 x2_1 ∧ Aside0 (marigraphlaw22_LerpNumbers.l0 kq t322 x2_1 = some r) ∧ Aside0 (kq ≤ k) ∧ Aside0 (Kd.R k41 41 w' w.heap.size (fun _ => True) v323 t322) ∧ Aside0 (Below w.heap.size w w'))
 case atStart => exact ⟨((-2)), (by first | rfl | (simp; done) | (simp [*]; done)), H', ⟨Nat.le_refl _⟩, ⟨(rowN HO324.out)⟩, ⟨(belN HB.out)⟩⟩
 case round =>
  clear H'
  try clear c1
  try clear p2
  try clear c5
  obtain ⟨x2_1, rfl, HA, HK1, HO_1, HB⟩ := hrel
  cases gk with
  | zero => exact absurd HA.out (by simp [marigraphlaw22_LerpNumbers.l0])
  | succ k1 =>
   have H := HA.out
   clear HA
   simp only [marigraphlaw22_LerpNumbers.l0] at H
   by_cases c9 : x2_1 < 50
   ·rw [if_pos c9] at H
    have c9b0 : decide (x2_1 < 50) = true := decide_eq_true c9
    clear c9
    replace H := Option.bind_eq_some_iff.mp H
    obtain ⟨t325, A100, H⟩ := H
    replace H : (if t325 = true then (marigraphlaw22_LerpNumbers.l1 k1 t322 x2_1 0) else (some false)) = some r := H
    have A10 := Aside0.mk A100
    clear A100
    by_cases c11 : t325 = true
    ·subst c11
     have H1 : (marigraphlaw22_LerpNumbers.l1 k1 t322 x2_1 0) = some r := by rw [if_pos rfl] at H; exact H
     clear H
     have H := H1
     clear H1
     have H' := Aside0.mk H
     clear H
     obtain ⟨Ao12, co12, eo12⟩ := Kd.R_slice HO_1.out
     subst eo12
     go_wp2_with (first | ((with_reducible refine gate_callee (f := 15) rfl ?_); refine goesL_ (some 16) rfl rfl Try.func15 (by kernel_rfl) rfl #[.slice Ao12 t322.length co12, .int .i64 x2_1] rfl argN ?_; (with_reducible refine (marigraphlaw22_at.calls k1 _ _ t322 x2_1 true _ ?side1 ?side2 A10.out).mono ?_); (case side1 => repeat (first | exact (Kd.R_reads' HO_1.out).2.2 | (with_reducible refine Kd.C_alloc ?_ _) | (with_reducible refine Kd.C_drewN ?_ _) | (with_reducible refine Kd.C_drew ?_))); (case side2 => exact (Kd.R_reads' HO_1.out).2.1); rintro e w13 ⟨rfl, hb⟩; refine ⟨_, rfl, ?_⟩; have n0_ := Aside0.mk (Kd.R_below (rowN HO_1.out) hb); have n1_ := Aside0.mk (below_step (belN HB.out) hb); clear HO_1; clear HB; have HO_1 := n0_; have HB := n1_; clear n0_ n1_; (try clear hb); (try clear hk)))
     go_loopg [3] k1 (fun kq v3 w' => ∃ (x3_2 : Int), v3 = .int .i64 x3_2 ∧ Aside0 (marigraphlaw22_LerpNumbers.l1 kq t322 x2_1 x3_2 = some r) ∧ Aside0 (kq ≤ k1) ∧ Aside0 (Kd.R k41 41 w' w.heap.size (fun _ => True) (.slice Ao12 t322.length co12) t322) ∧ Aside0 (Below w.heap.size w w'))
     case atStart => exact ⟨(0), (by first | rfl | (simp; done) | (simp [*]; done)), H', ⟨Nat.le_refl _⟩, ⟨(rowN HO_1.out)⟩, ⟨(belN HB.out)⟩⟩
     case round =>
      clear H'
      try clear c1
      try clear p2
      try clear c5
      try clear c9
      try clear c9b0
      try clear c11
      try clear p2
      obtain ⟨x3_2, rfl, HA, HK2, HO_1, HB⟩ := hrel
      cases gk with
      | zero => exact absurd HA.out (by simp [marigraphlaw22_LerpNumbers.l1])
      | succ k2 =>
       have H := HA.out
       clear HA
       simp only [marigraphlaw22_LerpNumbers.l1] at H
       by_cases c14 : x3_2 < (t322.length : Int)
       ·rw [if_pos c14] at H
        have c14b0 : decide (x3_2 < (t322.length : Int)) = true := decide_eq_true c14
        clear c14
        have H' := Aside0.mk H
        clear H
        go_wp2
        go_loopg [4] k2 (fun kq v4 w' => ∃ (x4_3 : Int), v4 = .int .i64 x4_3 ∧ Aside0 (marigraphlaw22_LerpNumbers.l2 kq t322 x2_1 x3_2 x4_3 = some r) ∧ Aside0 (kq ≤ k2) ∧ Aside0 (Kd.R k41 41 w' w.heap.size (fun _ => True) (.slice Ao12 t322.length co12) t322) ∧ Aside0 (Below w.heap.size w w'))
        case atStart => exact ⟨(0), (by first | rfl | (simp; done) | (simp [*]; done)), H', ⟨Nat.le_refl _⟩, ⟨(rowN HO_1.out)⟩, ⟨(belN HB.out)⟩⟩
        case round =>
         clear H'
         try clear c1
         try clear p2
         try clear c5
         try clear c9
         try clear c9b0
         try clear c11
         try clear c14
         try clear c14b0
         try clear p2
         obtain ⟨x4_3, rfl, HA, HK3, HO_1, HB⟩ := hrel
         cases gk with
         | zero => exact absurd HA.out (by simp [marigraphlaw22_LerpNumbers.l2])
         | succ k3 =>
          have H := HA.out
          clear HA
          simp only [marigraphlaw22_LerpNumbers.l2] at H
          by_cases c15 : x4_3 < (t322.length : Int)
          ·rw [if_pos c15] at H
           have c15b0 : decide (x4_3 < (t322.length : Int)) = true := decide_eq_true c15
           clear c15
           by_cases c16 : 0 ≤ x3_2
           ·rw [if_pos c16] at H
            have c16b0 : decide (0 ≤ x3_2) = true := decide_eq_true c16
            clear c16
            by_cases c17 : x3_2 < (t322.length : Int)
            ·rw [if_pos c17] at H
             have c17b0 : decide (x3_2 < (t322.length : Int)) = true := decide_eq_true c17
             clear c17
             by_cases c18 : 0 ≤ x4_3
             ·rw [if_pos c18] at H
              have c18b0 : decide (0 ≤ x4_3) = true := decide_eq_true c18
              clear c18
              replace H := Option.bind_eq_some_iff.mp H
              obtain ⟨t328, A190, H⟩ := H
              replace H : (if t328 = true then (marigraphlaw22_LerpNumbers.l2 k3 t322 x2_1 x3_2 (wrap64 (x4_3 + 1))) else (some false)) = some r := H
              have A19 := Aside0.mk A190
              clear A190
              by_cases c20 : t328 = true
              ·subst c20
               have H1 : (marigraphlaw22_LerpNumbers.l2 k3 t322 x2_1 x3_2 (wrap64 (x4_3 + 1))) = some r := by rw [if_pos rfl] at H; exact H
               clear H
               have H := H1
               clear H1
               have H' := Aside0.mk H
               clear H
               try go_wp2
               have n0_ := Aside0.mk (Kd.R_drew HO_1.out)
               have n1_ := Aside0.mk (below_drew1 HB.out)
               clear HO_1
               clear HB
               have HO_1 := n0_
               have HB := n1_
               clear n0_ n1_
               have p326 : 0 ≤ (x3_2 : Int) := of_decide_eq_true (by first | (with_reducible assumption) | assumption)
               have q326 : x3_2 < (t322.length : Int) := of_decide_eq_true (by first | (with_reducible assumption) | assumption)
               obtain ⟨ad326, e326, hx326_0, hx326_1, hx326_2⟩ := at_T41 (Kd.R_reads' HO_1.out).2.2 x3_2 p326 q326
               cases e326
               replace p326 := eq_true p326
               replace q326 := eq_true q326
               have p327 : 0 ≤ (x4_3 : Int) := of_decide_eq_true (by first | (with_reducible assumption) | assumption)
               have q327 : x4_3 < (t322.length : Int) := of_decide_eq_true (by first | (with_reducible assumption) | assumption)
               obtain ⟨ad327, e327, hx327_0, hx327_1, hx327_2⟩ := at_T41 (Kd.R_reads' HO_1.out).2.2 x4_3 p327 q327
               obtain rfl : ad326 = ad327 := (by injection e327)
               replace p327 := eq_true p327
               replace q327 := eq_true q327
               refine start_ (n := 11) (S := fun w' => w'.cell? (ad326.add ((x3_2).toNat * 3)) = some (.int .i64 ((rd_T41 t322 x3_2).f0)) ∧ w'.cell? ⟨(ad326.add ((x3_2).toNat * 3)).block, (ad326.add ((x3_2).toNat * 3)).off + 1, none⟩ = some (.int .i64 ((rd_T41 t322 x3_2).f1.f0)) ∧ w'.cell? ⟨(ad326.add ((x3_2).toNat * 3)).block, (ad326.add ((x3_2).toNat * 3)).off + 2, none⟩ = some (.int .i64 ((rd_T41 t322 x3_2).f1.f1)) ∧ w'.cell? (ad326.add ((x4_3).toNat * 3)) = some (.int .i64 ((rd_T41 t322 x4_3).f0)) ∧ w'.cell? ⟨(ad326.add ((x4_3).toNat * 3)).block, (ad326.add ((x4_3).toNat * 3)).off + 1, none⟩ = some (.int .i64 ((rd_T41 t322 x4_3).f1.f0)) ∧ w'.cell? ⟨(ad326.add ((x4_3).toNat * 3)).block, (ad326.add ((x4_3).toNat * 3)).off + 2, none⟩ = some (.int .i64 ((rd_T41 t322 x4_3).f1.f1))) (ds := []) #[false, false, false, false, false, false, false, false, false, false, false] (by kernel_rfl) rfl rfl ⟨hx326_0, hx326_1, hx326_2, hx327_0, hx327_1, hx327_2⟩ (fun hHeld => ?_); refine with_tabW marigraphlaw22_LerpNumbers.tab13 marigraphlaw22_LerpNumbers.bits13 (fun HT_ HW_ => ?_)
               generalize wr.drew = w21 at HO_1 HB hx326_0 hx326_1 hx326_2 hx327_0 hx327_1 hx327_2 hHeld ⊢
               refine pA 0 (some 30) (bA 11 1) HT_.out ?_
               refine pA 1 (some 31) (bA 11 3) HT_.out ?_
               refine pA 2 (some 32) (bA 11 7) HT_.out ?_
               refine pA 4 (some 34) (bA 11 23) HT_.out ?_
               refine pA 5 (some 35) (bA 11 55) HT_.out ?_
               refine pA 6 (some 36) (bA 11 119) HT_.out ?_
               refine pA 8 (some 38) (bA 11 375) HT_.out ?_
               refine take_ (i := 3) (N := some 33) (v := ?_) (a' := ?_) (bA 11 383) rfl rfl (take_ofW HT_.out HW_.out (by kernel_rfl)) (fun _ _ _ h => h) (Or.inl ⟨by rfl, ?_⟩) hHeld ?_ ?_
               rotate_left
               ·rintro w' ⟨s0, s1, s2, s3, s4, s5⟩
                go_simp
                with_reducible rfl
               rotate_left
               ·simp only [Act.put, List.setIfInBounds_toArray, List.set_cons_zero, List.set_cons_succ, i64_w, i32_w]
                rfl
               refine take_ (i := 7) (N := some 37) (v := ?_) (a' := ?_) (bA 11 511) rfl rfl (take_ofW HT_.out HW_.out (by kernel_rfl)) (fun _ _ _ h => h) (Or.inl ⟨by rfl, ?_⟩) hHeld ?_ ?_
               rotate_left
               ·rintro w' ⟨s0, s1, s2, s3, s4, s5⟩
                go_simp
                with_reducible rfl
               rotate_left
               ·simp only [Act.put, List.setIfInBounds_toArray, List.set_cons_zero, List.set_cons_succ, i64_w, i32_w]
                rfl
               refine one_ (i := 9) (N := some 39) (bA 11 1023) rfl rfl (one_of HT_.out (by kernel_rfl)) (by decide) (fun K hK => ?_)
               refine goes_ Try.func16 (by kernel_rfl) rfl #[.agg #[.int .i64 ((rd_T41 t322 x3_2).f0), .int .i64 ((rd_T41 t322 x3_2).f1.f0), .int .i64 ((rd_T41 t322 x3_2).f1.f1)], .agg #[.int .i64 ((rd_T41 t322 x4_3).f0), .int .i64 ((rd_T41 t322 x4_3).f1.f0), .int .i64 ((rd_T41 t322 x4_3).f1.f1)], .int .i64 x2_1] (by rfl) rfl rfl argN ?_
               with_reducible refine (marigraphlaw22_between.calls k3 ((rd_T41 t322 x3_2).f0) ((rd_T41 t322 x3_2).f1.f0) ((rd_T41 t322 x3_2).f1.f1) ((rd_T41 t322 x4_3).f0) ((rd_T41 t322 x4_3).f1.f0) ((rd_T41 t322 x4_3).f1.f1) x2_1 true _ A19.out).mono ?_
               rintro e w22 ⟨rfl, hb⟩
               have HS0_ := (hb.cell (World.block_lt_of_cell? _ _ (hHeld.1))).trans (hHeld.1)
               have HS1_ := (hb.cell (World.block_lt_of_cell? _ _ (hHeld.2.1))).trans (hHeld.2.1)
               have HS2_ := (hb.cell (World.block_lt_of_cell? _ _ (hHeld.2.2.1))).trans (hHeld.2.2.1)
               have HS3_ := (hb.cell (World.block_lt_of_cell? _ _ (hHeld.2.2.2.1))).trans (hHeld.2.2.2.1)
               have HS4_ := (hb.cell (World.block_lt_of_cell? _ _ (hHeld.2.2.2.2.1))).trans (hHeld.2.2.2.2.1)
               have HS5_ := (hb.cell (World.block_lt_of_cell? _ _ (hHeld.2.2.2.2.2))).trans (hHeld.2.2.2.2.2)
               refine ⟨_, rfl, ?_⟩
               have n0_ := Aside0.mk (Kd.R_below (rowN HO_1.out) hb)
               have n1_ := Aside0.mk (below_step (belN HB.out) hb)
               clear HO_1
               clear HB
               have HO_1 := n0_
               have HB := n1_
               clear n0_ n1_
               (try clear hb)
               (try clear hk)
               refine hK.out _ _ ⟨HS0_, HS1_, HS2_, HS3_, HS4_, HS5_⟩ (fun hHeld => ?_)
               clear hK K
               refine norm_ (a' := ?_) ?_ ?_
               rotate_left
               ·show Act.put _ (some 39) _ = _
                simp only [Act.put, List.setIfInBounds_toArray, List.set_cons_zero, List.set_cons_succ, i64_w, i32_w]
                rfl
               refine pA 10 (some 40) (bA 11 2047) HT_.out ?_
               refine done_ (done_of HT_.out (by kernel_rfl)) ?_
               try go_wp2
               go_roundg k3
               case measure => have := HK1.out; have := HK2.out; have := HK3.out; omega
               case rel => exact ⟨(wrap64 (x4_3 + 1)), (by first | rfl | (simp; done) | (simp [*]; done)), H', ⟨by have := HK1.out; have := HK2.out; have := HK3.out; omega⟩, ⟨(rowN HO_1.out)⟩, ⟨(belN HB.out)⟩⟩
              ·replace c20 := Bool.eq_false_iff.mpr c20
               subst c20
               have H1 : (some false) = some r := by rw [if_neg (show ¬ (false = true) by decide)] at H; exact H
               clear H
               have H := H1
               clear H1
               obtain rfl := Option.some.inj H
               try go_wp2
               have n0_ := Aside0.mk (Kd.R_drew HO_1.out)
               have n1_ := Aside0.mk (below_drew1 HB.out)
               clear HO_1
               clear HB
               have HO_1 := n0_
               have HB := n1_
               clear n0_ n1_
               have p326 : 0 ≤ (x3_2 : Int) := of_decide_eq_true (by first | (with_reducible assumption) | assumption)
               have q326 : x3_2 < (t322.length : Int) := of_decide_eq_true (by first | (with_reducible assumption) | assumption)
               obtain ⟨ad326, e326, hx326_0, hx326_1, hx326_2⟩ := at_T41 (Kd.R_reads' HO_1.out).2.2 x3_2 p326 q326
               cases e326
               replace p326 := eq_true p326
               replace q326 := eq_true q326
               have p327 : 0 ≤ (x4_3 : Int) := of_decide_eq_true (by first | (with_reducible assumption) | assumption)
               have q327 : x4_3 < (t322.length : Int) := of_decide_eq_true (by first | (with_reducible assumption) | assumption)
               obtain ⟨ad327, e327, hx327_0, hx327_1, hx327_2⟩ := at_T41 (Kd.R_reads' HO_1.out).2.2 x4_3 p327 q327
               obtain rfl : ad326 = ad327 := (by injection e327)
               replace p327 := eq_true p327
               replace q327 := eq_true q327
               refine start_ (n := 11) (S := fun w' => w'.cell? (ad326.add ((x3_2).toNat * 3)) = some (.int .i64 ((rd_T41 t322 x3_2).f0)) ∧ w'.cell? ⟨(ad326.add ((x3_2).toNat * 3)).block, (ad326.add ((x3_2).toNat * 3)).off + 1, none⟩ = some (.int .i64 ((rd_T41 t322 x3_2).f1.f0)) ∧ w'.cell? ⟨(ad326.add ((x3_2).toNat * 3)).block, (ad326.add ((x3_2).toNat * 3)).off + 2, none⟩ = some (.int .i64 ((rd_T41 t322 x3_2).f1.f1)) ∧ w'.cell? (ad326.add ((x4_3).toNat * 3)) = some (.int .i64 ((rd_T41 t322 x4_3).f0)) ∧ w'.cell? ⟨(ad326.add ((x4_3).toNat * 3)).block, (ad326.add ((x4_3).toNat * 3)).off + 1, none⟩ = some (.int .i64 ((rd_T41 t322 x4_3).f1.f0)) ∧ w'.cell? ⟨(ad326.add ((x4_3).toNat * 3)).block, (ad326.add ((x4_3).toNat * 3)).off + 2, none⟩ = some (.int .i64 ((rd_T41 t322 x4_3).f1.f1))) (ds := []) #[false, false, false, false, false, false, false, false, false, false, false] (by kernel_rfl) rfl rfl ⟨hx326_0, hx326_1, hx326_2, hx327_0, hx327_1, hx327_2⟩ (fun hHeld => ?_); refine with_tabW marigraphlaw22_LerpNumbers.tab13 marigraphlaw22_LerpNumbers.bits13 (fun HT_ HW_ => ?_)
               generalize wr.drew = w23 at HO_1 HB hx326_0 hx326_1 hx326_2 hx327_0 hx327_1 hx327_2 hHeld ⊢
               refine pA 0 (some 30) (bA 11 1) HT_.out ?_
               refine pA 1 (some 31) (bA 11 3) HT_.out ?_
               refine pA 2 (some 32) (bA 11 7) HT_.out ?_
               refine pA 4 (some 34) (bA 11 23) HT_.out ?_
               refine pA 5 (some 35) (bA 11 55) HT_.out ?_
               refine pA 6 (some 36) (bA 11 119) HT_.out ?_
               refine pA 8 (some 38) (bA 11 375) HT_.out ?_
               refine take_ (i := 3) (N := some 33) (v := ?_) (a' := ?_) (bA 11 383) rfl rfl (take_ofW HT_.out HW_.out (by kernel_rfl)) (fun _ _ _ h => h) (Or.inl ⟨by rfl, ?_⟩) hHeld ?_ ?_
               rotate_left
               ·rintro w' ⟨s0, s1, s2, s3, s4, s5⟩
                go_simp
                with_reducible rfl
               rotate_left
               ·simp only [Act.put, List.setIfInBounds_toArray, List.set_cons_zero, List.set_cons_succ, i64_w, i32_w]
                rfl
               refine take_ (i := 7) (N := some 37) (v := ?_) (a' := ?_) (bA 11 511) rfl rfl (take_ofW HT_.out HW_.out (by kernel_rfl)) (fun _ _ _ h => h) (Or.inl ⟨by rfl, ?_⟩) hHeld ?_ ?_
               rotate_left
               ·rintro w' ⟨s0, s1, s2, s3, s4, s5⟩
                go_simp
                with_reducible rfl
               rotate_left
               ·simp only [Act.put, List.setIfInBounds_toArray, List.set_cons_zero, List.set_cons_succ, i64_w, i32_w]
                rfl
               refine one_ (i := 9) (N := some 39) (bA 11 1023) rfl rfl (one_of HT_.out (by kernel_rfl)) (by decide) (fun K hK => ?_)
               refine goes_ Try.func16 (by kernel_rfl) rfl #[.agg #[.int .i64 ((rd_T41 t322 x3_2).f0), .int .i64 ((rd_T41 t322 x3_2).f1.f0), .int .i64 ((rd_T41 t322 x3_2).f1.f1)], .agg #[.int .i64 ((rd_T41 t322 x4_3).f0), .int .i64 ((rd_T41 t322 x4_3).f1.f0), .int .i64 ((rd_T41 t322 x4_3).f1.f1)], .int .i64 x2_1] (by rfl) rfl rfl argN ?_
               with_reducible refine (marigraphlaw22_between.calls k3 ((rd_T41 t322 x3_2).f0) ((rd_T41 t322 x3_2).f1.f0) ((rd_T41 t322 x3_2).f1.f1) ((rd_T41 t322 x4_3).f0) ((rd_T41 t322 x4_3).f1.f0) ((rd_T41 t322 x4_3).f1.f1) x2_1 false _ A19.out).mono ?_
               rintro e w24 ⟨rfl, hb⟩
               have HS0_ := (hb.cell (World.block_lt_of_cell? _ _ (hHeld.1))).trans (hHeld.1)
               have HS1_ := (hb.cell (World.block_lt_of_cell? _ _ (hHeld.2.1))).trans (hHeld.2.1)
               have HS2_ := (hb.cell (World.block_lt_of_cell? _ _ (hHeld.2.2.1))).trans (hHeld.2.2.1)
               have HS3_ := (hb.cell (World.block_lt_of_cell? _ _ (hHeld.2.2.2.1))).trans (hHeld.2.2.2.1)
               have HS4_ := (hb.cell (World.block_lt_of_cell? _ _ (hHeld.2.2.2.2.1))).trans (hHeld.2.2.2.2.1)
               have HS5_ := (hb.cell (World.block_lt_of_cell? _ _ (hHeld.2.2.2.2.2))).trans (hHeld.2.2.2.2.2)
               refine ⟨_, rfl, ?_⟩
               have n0_ := Aside0.mk (Kd.R_below (rowN HO_1.out) hb)
               have n1_ := Aside0.mk (below_step (belN HB.out) hb)
               clear HO_1
               clear HB
               have HO_1 := n0_
               have HB := n1_
               clear n0_ n1_
               (try clear hb)
               (try clear hk)
               refine hK.out _ _ ⟨HS0_, HS1_, HS2_, HS3_, HS4_, HS5_⟩ (fun hHeld => ?_)
               clear hK K
               refine norm_ (a' := ?_) ?_ ?_
               rotate_left
               ·show Act.put _ (some 39) _ = _
                simp only [Act.put, List.setIfInBounds_toArray, List.set_cons_zero, List.set_cons_succ, i64_w, i32_w]
                rfl
               refine pA 10 (some 40) (bA 11 2047) HT_.out ?_
               refine done_ (done_of HT_.out (by kernel_rfl)) ?_
               try go_wp2
               go_ret
               exact ⟨by first | rfl | (simp [errW_none, errW_some] <;> rfl) | (simp [*, errW_none, errW_some] <;> rfl), (belN HB.out)⟩
             ·rw [if_neg c18] at H
              exact absurd H (by simp)
            ·rw [if_neg c17] at H
             exact absurd H (by simp)
           ·rw [if_neg c16] at H
            exact absurd H (by simp)
          ·rw [if_neg c15] at H
           have c15b0 : decide (x4_3 < (t322.length : Int)) = false := decide_eq_false c15
           clear c15
           have H' := Aside0.mk H
           clear H
           go_wp2
           go_roundg k3
           case measure => have := HK1.out; have := HK2.out; have := HK3.out; omega
           case rel => exact ⟨(wrap64 (x3_2 + 1)), (by first | rfl | (simp; done) | (simp [*]; done)), H', ⟨by have := HK1.out; have := HK2.out; have := HK3.out; omega⟩, ⟨(rowN HO_1.out)⟩, ⟨(belN HB.out)⟩⟩
       ·rw [if_neg c14] at H
        have c14b0 : decide (x3_2 < (t322.length : Int)) = false := decide_eq_false c14
        clear c14
        have H' := Aside0.mk H
        clear H
        go_wp2
        go_roundg k2
        case measure => have := HK1.out; have := HK2.out; omega
        case rel => exact ⟨(wrap64 (x2_1 + 1)), (by first | rfl | (simp; done) | (simp [*]; done)), H', ⟨by have := HK1.out; have := HK2.out; omega⟩, ⟨(rowN HO_1.out)⟩, ⟨(belN HB.out)⟩⟩
    ·replace c11 := Bool.eq_false_iff.mpr c11
     subst c11
     have H1 : (some false) = some r := by rw [if_neg (show ¬ (false = true) by decide)] at H; exact H
     clear H
     have H := H1
     clear H1
     obtain rfl := Option.some.inj H
     obtain ⟨Ao25, co25, eo25⟩ := Kd.R_slice HO_1.out
     subst eo25
     go_wp2_with (first | ((with_reducible refine gate_callee (f := 15) rfl ?_); refine goesL_ (some 16) rfl rfl Try.func15 (by kernel_rfl) rfl #[.slice Ao25 t322.length co25, .int .i64 x2_1] rfl argN ?_; (with_reducible refine (marigraphlaw22_at.calls k1 _ _ t322 x2_1 false _ ?side1 ?side2 A10.out).mono ?_); (case side1 => repeat (first | exact (Kd.R_reads' HO_1.out).2.2 | (with_reducible refine Kd.C_alloc ?_ _) | (with_reducible refine Kd.C_drewN ?_ _) | (with_reducible refine Kd.C_drew ?_))); (case side2 => exact (Kd.R_reads' HO_1.out).2.1); rintro e w26 ⟨rfl, hb⟩; refine ⟨_, rfl, ?_⟩; have n0_ := Aside0.mk (Kd.R_below (rowN HO_1.out) hb); have n1_ := Aside0.mk (below_step (belN HB.out) hb); clear HO_1; clear HB; have HO_1 := n0_; have HB := n1_; clear n0_ n1_; (try clear hb); (try clear hk)))
     go_ret
     exact ⟨by first | rfl | (simp [errW_none, errW_some] <;> rfl) | (simp [*, errW_none, errW_some] <;> rfl), (belN HB.out)⟩
   ·rw [if_neg c9] at H
    have c9b0 : decide (x2_1 < 50) = false := decide_eq_false c9
    clear c9
    obtain ⟨y329, hy329⟩ : ∃ y_ : List (S41), y_ = (([(⟨0, (⟨(-2147483647), 1⟩ : S39)⟩ : S41), (⟨4294967295, (⟨2147483647, 1⟩ : S39)⟩ : S41)] : List (S41))) := ⟨_, rfl⟩
    replace H : ((some (([(⟨0, (⟨0, 1⟩ : S39)⟩ : S41), (⟨4294967295, (⟨1, 1⟩ : S39)⟩ : S41)] : List (S41)) : List (S41))).bind fun y332 => ((marigraphlaw22_at.f k1 y329 5).bind fun t335 => (if t335 = true then ((marigraphlaw22_at.f k1 y332 5).bind fun t336 => (if t336 = true then ((marigraphlaw22_at.f k1 y332 1431655765).bind fun t337 => (if t337 = true then ((marigraphlaw22_at.f k1 (([(⟨1, (⟨0, 0⟩ : S39)⟩ : S41)] : List (S41))) 1).bind fun t341 => (if t341 = true then ((marigraphlaw22_at.f k1 (([(⟨5, (⟨0, 1⟩ : S39)⟩ : S41), (⟨4, (⟨0, 1⟩ : S39)⟩ : S41)] : List (S41))) 5).bind fun t345 => (if t345 = true then (if 0 < (y329.length : Int) then (if 1 < (y329.length : Int) then ((marigraphlaw22_between.f k1 ((rd_T41 y329 0).f0) ((rd_T41 y329 0).f1.f0) ((rd_T41 y329 0).f1.f1) ((rd_T41 y329 1).f0) ((rd_T41 y329 1).f1.f0) ((rd_T41 y329 1).f1.f1) 7).bind fun t348 => (if t348 = true then ((marigraphlaw22_between.f k1 0 0 0 ((rd_T41 y329 1).f0) ((rd_T41 y329 1).f1.f0) ((rd_T41 y329 1).f1.f1) 5).bind fun t350 => (if t350 = true then ((marigraphlaw22_known.f k1).bind fun t351 => (some t351)) else (some false))) else (some false))) else (none)) else (none)) else (some false))) else (some false))) else (some false))) else (some false))) else (some false)))) = some r := by first | (rw [hy329]; with_reducible exact H) | (have H2_ := (Option.bind_some _ _).symm.trans H; rw [hy329]; with_reducible exact H2_) | (have H2_ := (Option.bind_some _ _).symm.trans H; with_reducible exact H2_) | with_reducible exact H | (rw [hy329]; exact H) | exact H
    have Ny329 := Aside0.mk hy329
    clear hy329
    obtain ⟨y332, hy332⟩ : ∃ y_ : List (S41), y_ = (([(⟨0, (⟨0, 1⟩ : S39)⟩ : S41), (⟨4294967295, (⟨1, 1⟩ : S39)⟩ : S41)] : List (S41))) := ⟨_, rfl⟩
    replace H : ((marigraphlaw22_at.f k1 y329 5).bind fun t335 => (if t335 = true then ((marigraphlaw22_at.f k1 y332 5).bind fun t336 => (if t336 = true then ((marigraphlaw22_at.f k1 y332 1431655765).bind fun t337 => (if t337 = true then ((marigraphlaw22_at.f k1 (([(⟨1, (⟨0, 0⟩ : S39)⟩ : S41)] : List (S41))) 1).bind fun t341 => (if t341 = true then ((marigraphlaw22_at.f k1 (([(⟨5, (⟨0, 1⟩ : S39)⟩ : S41), (⟨4, (⟨0, 1⟩ : S39)⟩ : S41)] : List (S41))) 5).bind fun t345 => (if t345 = true then (if 0 < (y329.length : Int) then (if 1 < (y329.length : Int) then ((marigraphlaw22_between.f k1 ((rd_T41 y329 0).f0) ((rd_T41 y329 0).f1.f0) ((rd_T41 y329 0).f1.f1) ((rd_T41 y329 1).f0) ((rd_T41 y329 1).f1.f0) ((rd_T41 y329 1).f1.f1) 7).bind fun t348 => (if t348 = true then ((marigraphlaw22_between.f k1 0 0 0 ((rd_T41 y329 1).f0) ((rd_T41 y329 1).f1.f0) ((rd_T41 y329 1).f1.f1) 5).bind fun t350 => (if t350 = true then ((marigraphlaw22_known.f k1).bind fun t351 => (some t351)) else (some false))) else (some false))) else (none)) else (none)) else (some false))) else (some false))) else (some false))) else (some false))) else (some false))) = some r := by first | (rw [hy332]; with_reducible exact H) | (have H2_ := (Option.bind_some _ _).symm.trans H; rw [hy332]; with_reducible exact H2_) | (have H2_ := (Option.bind_some _ _).symm.trans H; with_reducible exact H2_) | with_reducible exact H | (rw [hy332]; exact H) | exact H
    have Ny332 := Aside0.mk hy332
    clear hy332
    replace H := Option.bind_eq_some_iff.mp H
    obtain ⟨t335, A270, H⟩ := H
    replace H : (if t335 = true then ((marigraphlaw22_at.f k1 y332 5).bind fun t336 => (if t336 = true then ((marigraphlaw22_at.f k1 y332 1431655765).bind fun t337 => (if t337 = true then ((marigraphlaw22_at.f k1 (([(⟨1, (⟨0, 0⟩ : S39)⟩ : S41)] : List (S41))) 1).bind fun t341 => (if t341 = true then ((marigraphlaw22_at.f k1 (([(⟨5, (⟨0, 1⟩ : S39)⟩ : S41), (⟨4, (⟨0, 1⟩ : S39)⟩ : S41)] : List (S41))) 5).bind fun t345 => (if t345 = true then (if 0 < (y329.length : Int) then (if 1 < (y329.length : Int) then ((marigraphlaw22_between.f k1 ((rd_T41 y329 0).f0) ((rd_T41 y329 0).f1.f0) ((rd_T41 y329 0).f1.f1) ((rd_T41 y329 1).f0) ((rd_T41 y329 1).f1.f0) ((rd_T41 y329 1).f1.f1) 7).bind fun t348 => (if t348 = true then ((marigraphlaw22_between.f k1 0 0 0 ((rd_T41 y329 1).f0) ((rd_T41 y329 1).f1.f0) ((rd_T41 y329 1).f1.f1) 5).bind fun t350 => (if t350 = true then ((marigraphlaw22_known.f k1).bind fun t351 => (some t351)) else (some false))) else (some false))) else (none)) else (none)) else (some false))) else (some false))) else (some false))) else (some false))) else (some false)) = some r := H
    have A27 := Aside0.mk A270
    clear A270
    by_cases c28 : t335 = true
    ·subst c28
     have H1 : ((marigraphlaw22_at.f k1 y332 5).bind fun t336 => (if t336 = true then ((marigraphlaw22_at.f k1 y332 1431655765).bind fun t337 => (if t337 = true then ((marigraphlaw22_at.f k1 (([(⟨1, (⟨0, 0⟩ : S39)⟩ : S41)] : List (S41))) 1).bind fun t341 => (if t341 = true then ((marigraphlaw22_at.f k1 (([(⟨5, (⟨0, 1⟩ : S39)⟩ : S41), (⟨4, (⟨0, 1⟩ : S39)⟩ : S41)] : List (S41))) 5).bind fun t345 => (if t345 = true then (if 0 < (y329.length : Int) then (if 1 < (y329.length : Int) then ((marigraphlaw22_between.f k1 ((rd_T41 y329 0).f0) ((rd_T41 y329 0).f1.f0) ((rd_T41 y329 0).f1.f1) ((rd_T41 y329 1).f0) ((rd_T41 y329 1).f1.f0) ((rd_T41 y329 1).f1.f1) 7).bind fun t348 => (if t348 = true then ((marigraphlaw22_between.f k1 0 0 0 ((rd_T41 y329 1).f0) ((rd_T41 y329 1).f1.f0) ((rd_T41 y329 1).f1.f1) 5).bind fun t350 => (if t350 = true then ((marigraphlaw22_known.f k1).bind fun t351 => (some t351)) else (some false))) else (some false))) else (none)) else (none)) else (some false))) else (some false))) else (some false))) else (some false))) = some r := by rw [if_pos rfl] at H; exact H
     clear H
     have H := H1
     clear H1
     replace H := Option.bind_eq_some_iff.mp H
     obtain ⟨t336, A290, H⟩ := H
     replace H : (if t336 = true then ((marigraphlaw22_at.f k1 y332 1431655765).bind fun t337 => (if t337 = true then ((marigraphlaw22_at.f k1 (([(⟨1, (⟨0, 0⟩ : S39)⟩ : S41)] : List (S41))) 1).bind fun t341 => (if t341 = true then ((marigraphlaw22_at.f k1 (([(⟨5, (⟨0, 1⟩ : S39)⟩ : S41), (⟨4, (⟨0, 1⟩ : S39)⟩ : S41)] : List (S41))) 5).bind fun t345 => (if t345 = true then (if 0 < (y329.length : Int) then (if 1 < (y329.length : Int) then ((marigraphlaw22_between.f k1 ((rd_T41 y329 0).f0) ((rd_T41 y329 0).f1.f0) ((rd_T41 y329 0).f1.f1) ((rd_T41 y329 1).f0) ((rd_T41 y329 1).f1.f0) ((rd_T41 y329 1).f1.f1) 7).bind fun t348 => (if t348 = true then ((marigraphlaw22_between.f k1 0 0 0 ((rd_T41 y329 1).f0) ((rd_T41 y329 1).f1.f0) ((rd_T41 y329 1).f1.f1) 5).bind fun t350 => (if t350 = true then ((marigraphlaw22_known.f k1).bind fun t351 => (some t351)) else (some false))) else (some false))) else (none)) else (none)) else (some false))) else (some false))) else (some false))) else (some false)) = some r := H
     have A29 := Aside0.mk A290
     clear A290
     by_cases c30 : t336 = true
     ·subst c30
      have H1 : ((marigraphlaw22_at.f k1 y332 1431655765).bind fun t337 => (if t337 = true then ((marigraphlaw22_at.f k1 (([(⟨1, (⟨0, 0⟩ : S39)⟩ : S41)] : List (S41))) 1).bind fun t341 => (if t341 = true then ((marigraphlaw22_at.f k1 (([(⟨5, (⟨0, 1⟩ : S39)⟩ : S41), (⟨4, (⟨0, 1⟩ : S39)⟩ : S41)] : List (S41))) 5).bind fun t345 => (if t345 = true then (if 0 < (y329.length : Int) then (if 1 < (y329.length : Int) then ((marigraphlaw22_between.f k1 ((rd_T41 y329 0).f0) ((rd_T41 y329 0).f1.f0) ((rd_T41 y329 0).f1.f1) ((rd_T41 y329 1).f0) ((rd_T41 y329 1).f1.f0) ((rd_T41 y329 1).f1.f1) 7).bind fun t348 => (if t348 = true then ((marigraphlaw22_between.f k1 0 0 0 ((rd_T41 y329 1).f0) ((rd_T41 y329 1).f1.f0) ((rd_T41 y329 1).f1.f1) 5).bind fun t350 => (if t350 = true then ((marigraphlaw22_known.f k1).bind fun t351 => (some t351)) else (some false))) else (some false))) else (none)) else (none)) else (some false))) else (some false))) else (some false))) = some r := by rw [if_pos rfl] at H; exact H
      clear H
      have H := H1
      clear H1
      replace H := Option.bind_eq_some_iff.mp H
      obtain ⟨t337, A310, H⟩ := H
      replace H : (if t337 = true then ((marigraphlaw22_at.f k1 (([(⟨1, (⟨0, 0⟩ : S39)⟩ : S41)] : List (S41))) 1).bind fun t341 => (if t341 = true then ((marigraphlaw22_at.f k1 (([(⟨5, (⟨0, 1⟩ : S39)⟩ : S41), (⟨4, (⟨0, 1⟩ : S39)⟩ : S41)] : List (S41))) 5).bind fun t345 => (if t345 = true then (if 0 < (y329.length : Int) then (if 1 < (y329.length : Int) then ((marigraphlaw22_between.f k1 ((rd_T41 y329 0).f0) ((rd_T41 y329 0).f1.f0) ((rd_T41 y329 0).f1.f1) ((rd_T41 y329 1).f0) ((rd_T41 y329 1).f1.f0) ((rd_T41 y329 1).f1.f1) 7).bind fun t348 => (if t348 = true then ((marigraphlaw22_between.f k1 0 0 0 ((rd_T41 y329 1).f0) ((rd_T41 y329 1).f1.f0) ((rd_T41 y329 1).f1.f1) 5).bind fun t350 => (if t350 = true then ((marigraphlaw22_known.f k1).bind fun t351 => (some t351)) else (some false))) else (some false))) else (none)) else (none)) else (some false))) else (some false))) else (some false)) = some r := H
      have A31 := Aside0.mk A310
      clear A310
      by_cases c32 : t337 = true
      ·subst c32
       have H1 : ((marigraphlaw22_at.f k1 (([(⟨1, (⟨0, 0⟩ : S39)⟩ : S41)] : List (S41))) 1).bind fun t341 => (if t341 = true then ((marigraphlaw22_at.f k1 (([(⟨5, (⟨0, 1⟩ : S39)⟩ : S41), (⟨4, (⟨0, 1⟩ : S39)⟩ : S41)] : List (S41))) 5).bind fun t345 => (if t345 = true then (if 0 < (y329.length : Int) then (if 1 < (y329.length : Int) then ((marigraphlaw22_between.f k1 ((rd_T41 y329 0).f0) ((rd_T41 y329 0).f1.f0) ((rd_T41 y329 0).f1.f1) ((rd_T41 y329 1).f0) ((rd_T41 y329 1).f1.f0) ((rd_T41 y329 1).f1.f1) 7).bind fun t348 => (if t348 = true then ((marigraphlaw22_between.f k1 0 0 0 ((rd_T41 y329 1).f0) ((rd_T41 y329 1).f1.f0) ((rd_T41 y329 1).f1.f1) 5).bind fun t350 => (if t350 = true then ((marigraphlaw22_known.f k1).bind fun t351 => (some t351)) else (some false))) else (some false))) else (none)) else (none)) else (some false))) else (some false))) = some r := by rw [if_pos rfl] at H; exact H
       clear H
       have H := H1
       clear H1
       obtain ⟨y338, hy338⟩ : ∃ y_ : List (S41), y_ = (([(⟨1, (⟨0, 0⟩ : S39)⟩ : S41)] : List (S41))) := ⟨_, rfl⟩
       replace H : ((marigraphlaw22_at.f k1 y338 1).bind fun t341 => (if t341 = true then ((marigraphlaw22_at.f k1 (([(⟨5, (⟨0, 1⟩ : S39)⟩ : S41), (⟨4, (⟨0, 1⟩ : S39)⟩ : S41)] : List (S41))) 5).bind fun t345 => (if t345 = true then (if 0 < (y329.length : Int) then (if 1 < (y329.length : Int) then ((marigraphlaw22_between.f k1 ((rd_T41 y329 0).f0) ((rd_T41 y329 0).f1.f0) ((rd_T41 y329 0).f1.f1) ((rd_T41 y329 1).f0) ((rd_T41 y329 1).f1.f0) ((rd_T41 y329 1).f1.f1) 7).bind fun t348 => (if t348 = true then ((marigraphlaw22_between.f k1 0 0 0 ((rd_T41 y329 1).f0) ((rd_T41 y329 1).f1.f0) ((rd_T41 y329 1).f1.f1) 5).bind fun t350 => (if t350 = true then ((marigraphlaw22_known.f k1).bind fun t351 => (some t351)) else (some false))) else (some false))) else (none)) else (none)) else (some false))) else (some false))) = some r := by first | (rw [hy338]; with_reducible exact H) | (have H2_ := (Option.bind_some _ _).symm.trans H; rw [hy338]; with_reducible exact H2_) | (have H2_ := (Option.bind_some _ _).symm.trans H; with_reducible exact H2_) | with_reducible exact H | (rw [hy338]; exact H) | exact H
       have Ny338 := Aside0.mk hy338
       clear hy338
       replace H := Option.bind_eq_some_iff.mp H
       obtain ⟨t341, A330, H⟩ := H
       replace H : (if t341 = true then ((marigraphlaw22_at.f k1 (([(⟨5, (⟨0, 1⟩ : S39)⟩ : S41), (⟨4, (⟨0, 1⟩ : S39)⟩ : S41)] : List (S41))) 5).bind fun t345 => (if t345 = true then (if 0 < (y329.length : Int) then (if 1 < (y329.length : Int) then ((marigraphlaw22_between.f k1 ((rd_T41 y329 0).f0) ((rd_T41 y329 0).f1.f0) ((rd_T41 y329 0).f1.f1) ((rd_T41 y329 1).f0) ((rd_T41 y329 1).f1.f0) ((rd_T41 y329 1).f1.f1) 7).bind fun t348 => (if t348 = true then ((marigraphlaw22_between.f k1 0 0 0 ((rd_T41 y329 1).f0) ((rd_T41 y329 1).f1.f0) ((rd_T41 y329 1).f1.f1) 5).bind fun t350 => (if t350 = true then ((marigraphlaw22_known.f k1).bind fun t351 => (some t351)) else (some false))) else (some false))) else (none)) else (none)) else (some false))) else (some false)) = some r := H
       have A33 := Aside0.mk A330
       clear A330
       by_cases c34 : t341 = true
       ·subst c34
        have H1 : ((marigraphlaw22_at.f k1 (([(⟨5, (⟨0, 1⟩ : S39)⟩ : S41), (⟨4, (⟨0, 1⟩ : S39)⟩ : S41)] : List (S41))) 5).bind fun t345 => (if t345 = true then (if 0 < (y329.length : Int) then (if 1 < (y329.length : Int) then ((marigraphlaw22_between.f k1 ((rd_T41 y329 0).f0) ((rd_T41 y329 0).f1.f0) ((rd_T41 y329 0).f1.f1) ((rd_T41 y329 1).f0) ((rd_T41 y329 1).f1.f0) ((rd_T41 y329 1).f1.f1) 7).bind fun t348 => (if t348 = true then ((marigraphlaw22_between.f k1 0 0 0 ((rd_T41 y329 1).f0) ((rd_T41 y329 1).f1.f0) ((rd_T41 y329 1).f1.f1) 5).bind fun t350 => (if t350 = true then ((marigraphlaw22_known.f k1).bind fun t351 => (some t351)) else (some false))) else (some false))) else (none)) else (none)) else (some false))) = some r := by rw [if_pos rfl] at H; exact H
        clear H
        have H := H1
        clear H1
        obtain ⟨y342, hy342⟩ : ∃ y_ : List (S41), y_ = (([(⟨5, (⟨0, 1⟩ : S39)⟩ : S41), (⟨4, (⟨0, 1⟩ : S39)⟩ : S41)] : List (S41))) := ⟨_, rfl⟩
        replace H : ((marigraphlaw22_at.f k1 y342 5).bind fun t345 => (if t345 = true then (if 0 < (y329.length : Int) then (if 1 < (y329.length : Int) then ((marigraphlaw22_between.f k1 ((rd_T41 y329 0).f0) ((rd_T41 y329 0).f1.f0) ((rd_T41 y329 0).f1.f1) ((rd_T41 y329 1).f0) ((rd_T41 y329 1).f1.f0) ((rd_T41 y329 1).f1.f1) 7).bind fun t348 => (if t348 = true then ((marigraphlaw22_between.f k1 0 0 0 ((rd_T41 y329 1).f0) ((rd_T41 y329 1).f1.f0) ((rd_T41 y329 1).f1.f1) 5).bind fun t350 => (if t350 = true then ((marigraphlaw22_known.f k1).bind fun t351 => (some t351)) else (some false))) else (some false))) else (none)) else (none)) else (some false))) = some r := by first | (rw [hy342]; with_reducible exact H) | (have H2_ := (Option.bind_some _ _).symm.trans H; rw [hy342]; with_reducible exact H2_) | (have H2_ := (Option.bind_some _ _).symm.trans H; with_reducible exact H2_) | with_reducible exact H | (rw [hy342]; exact H) | exact H
        have Ny342 := Aside0.mk hy342
        clear hy342
        replace H := Option.bind_eq_some_iff.mp H
        obtain ⟨t345, A350, H⟩ := H
        replace H : (if t345 = true then (if 0 < (y329.length : Int) then (if 1 < (y329.length : Int) then ((marigraphlaw22_between.f k1 ((rd_T41 y329 0).f0) ((rd_T41 y329 0).f1.f0) ((rd_T41 y329 0).f1.f1) ((rd_T41 y329 1).f0) ((rd_T41 y329 1).f1.f0) ((rd_T41 y329 1).f1.f1) 7).bind fun t348 => (if t348 = true then ((marigraphlaw22_between.f k1 0 0 0 ((rd_T41 y329 1).f0) ((rd_T41 y329 1).f1.f0) ((rd_T41 y329 1).f1.f1) 5).bind fun t350 => (if t350 = true then ((marigraphlaw22_known.f k1).bind fun t351 => (some t351)) else (some false))) else (some false))) else (none)) else (none)) else (some false)) = some r := H
        have A35 := Aside0.mk A350
        clear A350
        by_cases c36 : t345 = true
        ·subst c36
         have H1 : (if 0 < (y329.length : Int) then (if 1 < (y329.length : Int) then ((marigraphlaw22_between.f k1 ((rd_T41 y329 0).f0) ((rd_T41 y329 0).f1.f0) ((rd_T41 y329 0).f1.f1) ((rd_T41 y329 1).f0) ((rd_T41 y329 1).f1.f0) ((rd_T41 y329 1).f1.f1) 7).bind fun t348 => (if t348 = true then ((marigraphlaw22_between.f k1 0 0 0 ((rd_T41 y329 1).f0) ((rd_T41 y329 1).f1.f0) ((rd_T41 y329 1).f1.f1) 5).bind fun t350 => (if t350 = true then ((marigraphlaw22_known.f k1).bind fun t351 => (some t351)) else (some false))) else (some false))) else (none)) else (none)) = some r := by rw [if_pos rfl] at H; exact H
         clear H
         have H := H1
         clear H1
         by_cases c37 : 0 < (y329.length : Int)
         ·rw [if_pos c37] at H
          have c37b0 : decide (0 < (y329.length : Int)) = true := decide_eq_true c37
          have c37b1 : decide (0 < y329.length) = true := decide_eq_true (by omega)
          clear c37
          by_cases c38 : 1 < (y329.length : Int)
          ·rw [if_pos c38] at H
           have c38b0 : decide (1 < (y329.length : Int)) = true := decide_eq_true c38
           have c38b1 : decide (1 < y329.length) = true := decide_eq_true (by omega)
           clear c38
           replace H := Option.bind_eq_some_iff.mp H
           obtain ⟨t348, A390, H⟩ := H
           replace H : (if t348 = true then ((marigraphlaw22_between.f k1 0 0 0 ((rd_T41 y329 1).f0) ((rd_T41 y329 1).f1.f0) ((rd_T41 y329 1).f1.f1) 5).bind fun t350 => (if t350 = true then ((marigraphlaw22_known.f k1).bind fun t351 => (some t351)) else (some false))) else (some false)) = some r := H
           have A39 := Aside0.mk A390
           clear A390
           by_cases c40 : t348 = true
           ·subst c40
            have H1 : ((marigraphlaw22_between.f k1 0 0 0 ((rd_T41 y329 1).f0) ((rd_T41 y329 1).f1.f0) ((rd_T41 y329 1).f1.f1) 5).bind fun t350 => (if t350 = true then ((marigraphlaw22_known.f k1).bind fun t351 => (some t351)) else (some false))) = some r := by rw [if_pos rfl] at H; exact H
            clear H
            have H := H1
            clear H1
            replace H := Option.bind_eq_some_iff.mp H
            obtain ⟨t350, A410, H⟩ := H
            replace H : (if t350 = true then ((marigraphlaw22_known.f k1).bind fun t351 => (some t351)) else (some false)) = some r := H
            have A41 := Aside0.mk A410
            clear A410
            by_cases c42 : t350 = true
            ·subst c42
             have H1 : ((marigraphlaw22_known.f k1).bind fun t351 => (some t351)) = some r := by rw [if_pos rfl] at H; exact H
             clear H
             have H := H1
             clear H1
             replace H := Option.bind_eq_some_iff.mp H
             obtain ⟨t351, A430, H⟩ := H
             replace H : (some t351) = some r := H
             have A43 := Aside0.mk A430
             clear A430
             obtain rfl := Option.some.inj H
             try go_wp2_with (first | ((with_reducible refine gate_dst (N := 45) rfl ?_); (try (refine gate_guard (by rfl) ?_; dsimp only)); refine Kd.R_lit k41 _ 41 ?hg (N := 45) ?hd (xs := ([(⟨0, (⟨(-2147483647), 1⟩ : S39)⟩ : S41), (⟨4294967295, (⟨2147483647, 1⟩ : S39)⟩ : S41)] : List (S41))) (inner := [.int .i64 0, .int .i64 (-2147483647), .int .i64 1, .int .i64 4294967295, .int .i64 2147483647, .int .i64 1]) (ok := fun _ => True) (okp := fun _ => True) ?hr ?hp (fun _ hk => hk) trivial (Below.refl _ _) (Nat.le_refl _) (by simp) ?_; (case hd => rfl); (case hg => rfl); (case hr => first | (go_simp; done) | (go_simp; rfl)); (case hp => exact (Reps.c3 (show Kd.M k41 _ _ _ (⟨0, (⟨(-2147483647), 1⟩ : S39)⟩ : S41) [.int .i64 0, .int .i64 (-2147483647), .int .i64 1] from (k41_mkM _ _ _ (⟨0, (⟨(-2147483647), 1⟩ : S39)⟩ : S41) )) (Reps.c3 (show Kd.M k41 _ _ _ (⟨4294967295, (⟨2147483647, 1⟩ : S39)⟩ : S41) [.int .i64 4294967295, .int .i64 2147483647, .int .i64 1] from (k41_mkM _ _ _ (⟨4294967295, (⟨2147483647, 1⟩ : S39)⟩ : S41) )) (Reps.none _ _)))); intro v330 w44 ho45 hb hg_ hnew_; clear hg_ hnew_; (first | rw [← Ny329.out] at ho45 | (simp only [Int.reduceToNat] at ho45; rw [← Ny329.out] at ho45)); have n0_ := Aside0.mk (Kd.R_elder' (rowN HO_1.out) (Kd.R_base ho45) hb); have n1_ := Aside0.mk (Kd.R_lower (Kd.R_new' ho45 (Kd.R_lt (rowN HO_1.out))) (below_size (belN HB.out))); have n2_ := Aside0.mk (below_step (belN HB.out) hb); clear HO_1; clear HB; have HO_1 := n0_; have HO331 := n1_; have HB := n2_; clear n0_ n1_ n2_; clear hb ho45) | ((with_reducible refine gate_dst (N := 50) rfl ?_); (try (refine gate_guard (by rfl) ?_; dsimp only)); refine Kd.R_lit k41 _ 41 ?hg (N := 50) ?hd (xs := ([(⟨0, (⟨0, 1⟩ : S39)⟩ : S41), (⟨4294967295, (⟨1, 1⟩ : S39)⟩ : S41)] : List (S41))) (inner := [.int .i64 0, .int .i64 0, .int .i64 1, .int .i64 4294967295, .int .i64 1, .int .i64 1]) (ok := fun _ => True) (okp := fun _ => True) ?hr ?hp (fun _ hk => hk) trivial (Below.refl _ _) (Nat.le_refl _) (by simp) ?_; (case hd => rfl); (case hg => rfl); (case hr => first | (go_simp; done) | (go_simp; rfl)); (case hp => exact (Reps.c3 (show Kd.M k41 _ _ _ (⟨0, (⟨0, 1⟩ : S39)⟩ : S41) [.int .i64 0, .int .i64 0, .int .i64 1] from (k41_mkM _ _ _ (⟨0, (⟨0, 1⟩ : S39)⟩ : S41) )) (Reps.c3 (show Kd.M k41 _ _ _ (⟨4294967295, (⟨1, 1⟩ : S39)⟩ : S41) [.int .i64 4294967295, .int .i64 1, .int .i64 1] from (k41_mkM _ _ _ (⟨4294967295, (⟨1, 1⟩ : S39)⟩ : S41) )) (Reps.none _ _)))); intro v333 w46 ho47 hb hg_ hnew_; clear hg_ hnew_; (first | rw [← Ny332.out] at ho47 | (simp only [Int.reduceToNat] at ho47; rw [← Ny332.out] at ho47)); have n0_ := Aside0.mk (Kd.R_elder' (rowN HO_1.out) (Kd.R_base ho47) hb); have n1_ := Aside0.mk (Kd.R_elder' (rowN HO331.out) (Kd.R_base ho47) hb); have n2_ := Aside0.mk (Kd.R_lower (Kd.R_new' (Kd.R_new' ho47 (Kd.R_lt (rowN HO_1.out))) (Kd.R_lt (rowN HO331.out))) (below_size (belN HB.out))); have n3_ := Aside0.mk (below_step (belN HB.out) hb); clear HO_1; clear HO331; clear HB; have HO_1 := n0_; have HO331 := n1_; have HO334 := n2_; have HB := n3_; clear n0_ n1_ n2_ n3_; clear hb ho47))
             have n0_ := Aside0.mk (Kd.R_drew HO_1.out)
             have n1_ := Aside0.mk (Kd.R_drew HO331.out)
             have n2_ := Aside0.mk (Kd.R_drew HO334.out)
             have n3_ := Aside0.mk (below_drew1 HB.out)
             clear HO_1
             clear HO331
             clear HO334
             clear HB
             have HO_1 := n0_
             have HO331 := n1_
             have HO334 := n2_
             have HB := n3_
             clear n0_ n1_ n2_ n3_
             obtain ⟨Ao49, co49, eo49⟩ := Kd.R_slice HO331.out
             (first | subst eo49 | (injection eo49 with f1_ f2_ f3_; have f4_ := f1_.symm; have f5_ := f3_.symm; clear f1_ f2_ f3_; subst f4_; subst f5_))
             have p346 : 0 ≤ (0 : Int) := (by omega)
             have q346 : 0 < (y329.length : Int) := of_decide_eq_true (by first | (with_reducible assumption) | assumption)
             obtain ⟨ad346, e346, hx346_0, hx346_1, hx346_2⟩ := at_T41 (Kd.R_reads' HO331.out).2.2 0 p346 q346
             cases e346
             have qi346 : (0 < y329.length) = True := eq_true (by omega)
             (try rw [show ((0 : Int)).toNat = 0 from rfl] at hx346_0)
             (try rw [show 0 * 3 = 0 from rfl] at hx346_0)
             (try rw [Addr.add_zero'] at hx346_0)
             (try rw [show ((0 : Int)).toNat = 0 from rfl] at hx346_1)
             (try rw [show 0 * 3 = 0 from rfl] at hx346_1)
             (try rw [Addr.add_zero'] at hx346_1)
             (try rw [show ((0 : Int)).toNat = 0 from rfl] at hx346_2)
             (try rw [show 0 * 3 = 0 from rfl] at hx346_2)
             (try rw [Addr.add_zero'] at hx346_2)
             replace p346 := eq_true p346
             replace q346 := eq_true q346
             have p347 : 0 ≤ (1 : Int) := (by omega)
             have q347 : 1 < (y329.length : Int) := of_decide_eq_true (by first | (with_reducible assumption) | assumption)
             obtain ⟨ad347, e347, hx347_0, hx347_1, hx347_2⟩ := at_T41 (Kd.R_reads' HO331.out).2.2 1 p347 q347
             obtain rfl : ad346 = ad347 := (by injection e347)
             (try simp only [show (1 : Int).toNat = 1 from rfl, Nat.reduceMul, Nat.reduceEqDiff, Go.Addr.add, ↓reduceIte] at hx347_0)
             (try simp only [show (1 : Int).toNat = 1 from rfl, Nat.reduceMul, Nat.reduceEqDiff, Go.Addr.add, ↓reduceIte] at hx347_1)
             (try simp only [show (1 : Int).toNat = 1 from rfl, Nat.reduceMul, Nat.reduceEqDiff, Go.Addr.add, ↓reduceIte] at hx347_2)
             have qi347 : (1 < y329.length) = True := eq_true (by omega)
             (try rw [show ((1 : Int)).toNat = 1 from rfl] at hx347_0)
             (try rw [show 1 * 3 = 3 from rfl] at hx347_0)
             (try rw [show ((1 : Int)).toNat = 1 from rfl] at hx347_1)
             (try rw [show 1 * 3 = 3 from rfl] at hx347_1)
             (try rw [show ((1 : Int)).toNat = 1 from rfl] at hx347_2)
             (try rw [show 1 * 3 = 3 from rfl] at hx347_2)
             replace p347 := eq_true p347
             replace q347 := eq_true q347
             have p349 : 0 ≤ (1 : Int) := (by omega)
             have q349 : 1 < (y329.length : Int) := of_decide_eq_true (by first | (with_reducible assumption) | assumption)
             obtain ⟨ad349, e349, hx349_0, hx349_1, hx349_2⟩ := at_T41 (Kd.R_reads' HO331.out).2.2 1 p349 q349
             obtain rfl : ad346 = ad349 := (by injection e349)
             (try simp only [show (1 : Int).toNat = 1 from rfl, Nat.reduceMul, Nat.reduceEqDiff, Go.Addr.add, ↓reduceIte] at hx349_0)
             (try simp only [show (1 : Int).toNat = 1 from rfl, Nat.reduceMul, Nat.reduceEqDiff, Go.Addr.add, ↓reduceIte] at hx349_1)
             (try simp only [show (1 : Int).toNat = 1 from rfl, Nat.reduceMul, Nat.reduceEqDiff, Go.Addr.add, ↓reduceIte] at hx349_2)
             have qi349 : (1 < y329.length) = True := eq_true (by omega)
             (try rw [show ((1 : Int)).toNat = 1 from rfl] at hx349_0)
             (try rw [show 1 * 3 = 3 from rfl] at hx349_0)
             (try rw [show ((1 : Int)).toNat = 1 from rfl] at hx349_1)
             (try rw [show 1 * 3 = 3 from rfl] at hx349_1)
             (try rw [show ((1 : Int)).toNat = 1 from rfl] at hx349_2)
             (try rw [show 1 * 3 = 3 from rfl] at hx349_2)
             replace p349 := eq_true p349
             replace q349 := eq_true q349
             refine start_ (n := 43) (S := fun w' => w'.cell? ad346 = some (.int .i64 ((rd_T41 y329 0).f0)) ∧ w'.cell? ⟨ad346.block, ad346.off + 1, none⟩ = some (.int .i64 ((rd_T41 y329 0).f1.f0)) ∧ w'.cell? ⟨ad346.block, ad346.off + 2, none⟩ = some (.int .i64 ((rd_T41 y329 0).f1.f1)) ∧ w'.cell? ⟨ad346.block, ad346.off + 3, none⟩ = some (.int .i64 ((rd_T41 y329 1).f0)) ∧ w'.cell? ⟨ad346.block, ad346.off + 3 + 1, none⟩ = some (.int .i64 ((rd_T41 y329 1).f1.f0)) ∧ w'.cell? ⟨ad346.block, ad346.off + 3 + 2, none⟩ = some (.int .i64 ((rd_T41 y329 1).f1.f1)) ∧ w'.cell? ⟨ad346.block, ad346.off + 3, none⟩ = some (.int .i64 ((rd_T41 y329 1).f0)) ∧ w'.cell? ⟨ad346.block, ad346.off + 3 + 1, none⟩ = some (.int .i64 ((rd_T41 y329 1).f1.f0)) ∧ w'.cell? ⟨ad346.block, ad346.off + 3 + 2, none⟩ = some (.int .i64 ((rd_T41 y329 1).f1.f1))) (ds := []) #[false, false, false, false, false, false, false, false, false, false, false, false, false, false, false, false, false, false, false, false, false, false, false, false, false, false, false, false, false, false, false, false, false, false, false, false, false, false, false, false, false, false, false] (by kernel_rfl) rfl rfl ⟨hx346_0, hx346_1, hx346_2, hx347_0, hx347_1, hx347_2, hx349_0, hx349_1, hx349_2⟩ (fun hHeld => ?_); refine with_tabW marigraphlaw22_LerpNumbers.tab17 marigraphlaw22_LerpNumbers.bits17 (fun HT_ HW_ => ?_)
             generalize w46.drew = w48 at HO_1 HO331 HO334 HB hx346_0 hx346_1 hx346_2 hx347_0 hx347_1 hx347_2 hx349_0 hx349_1 hx349_2 hHeld ⊢
             refine pA 0 (some 51) (bA 43 1) HT_.out ?_
             refine one_ (i := 1) (N := some 52) (bA 43 3) rfl rfl (one_of HT_.out (by kernel_rfl)) (by decide) (fun K hK => ?_)
             refine goes_ Try.func15 (by kernel_rfl) rfl #[.slice (some ad346) y329.length co49, .int .i64 5] (by rfl) rfl rfl argN ?_
             with_reducible refine (marigraphlaw22_at.calls k1 _ _ y329 5 true _ ?side1 ?side2 A27.out).mono ?_
             (case side1 => repeat (first | exact (Kd.R_reads' HO331.out).2.2 | (with_reducible refine Kd.C_alloc ?_ _) | (with_reducible refine Kd.C_drewN ?_ _) | (with_reducible refine Kd.C_drew ?_)))
             (case side2 => exact (Kd.R_reads' HO331.out).2.1)
             rintro e w50 ⟨rfl, hb⟩
             have HS0_ := (hb.cell (World.block_lt_of_cell? _ _ (hHeld.1))).trans (hHeld.1)
             have HS1_ := (hb.cell (World.block_lt_of_cell? _ _ (hHeld.2.1))).trans (hHeld.2.1)
             have HS2_ := (hb.cell (World.block_lt_of_cell? _ _ (hHeld.2.2.1))).trans (hHeld.2.2.1)
             have HS3_ := (hb.cell (World.block_lt_of_cell? _ _ (hHeld.2.2.2.1))).trans (hHeld.2.2.2.1)
             have HS4_ := (hb.cell (World.block_lt_of_cell? _ _ (hHeld.2.2.2.2.1))).trans (hHeld.2.2.2.2.1)
             have HS5_ := (hb.cell (World.block_lt_of_cell? _ _ (hHeld.2.2.2.2.2.1))).trans (hHeld.2.2.2.2.2.1)
             have HS6_ := (hb.cell (World.block_lt_of_cell? _ _ (hHeld.2.2.2.2.2.2.1))).trans (hHeld.2.2.2.2.2.2.1)
             have HS7_ := (hb.cell (World.block_lt_of_cell? _ _ (hHeld.2.2.2.2.2.2.2.1))).trans (hHeld.2.2.2.2.2.2.2.1)
             have HS8_ := (hb.cell (World.block_lt_of_cell? _ _ (hHeld.2.2.2.2.2.2.2.2))).trans (hHeld.2.2.2.2.2.2.2.2)
             refine ⟨_, rfl, ?_⟩
             have n0_ := Aside0.mk (Kd.R_below (rowN HO_1.out) hb)
             have n1_ := Aside0.mk (Kd.R_below (rowN HO331.out) hb)
             have n2_ := Aside0.mk (Kd.R_below (rowN HO334.out) hb)
             have n3_ := Aside0.mk (below_step (belN HB.out) hb)
             clear HO_1
             clear HO331
             clear HO334
             clear HB
             have HO_1 := n0_
             have HO331 := n1_
             have HO334 := n2_
             have HB := n3_
             clear n0_ n1_ n2_ n3_
             (try clear hb)
             (try clear hk)
             obtain ⟨Ao51, co51, eo51⟩ := Kd.R_slice HO334.out
             (first | subst eo51 | (injection eo51 with f1_ f2_ f3_; have f4_ := f1_.symm; have f5_ := f3_.symm; clear f1_ f2_ f3_; subst f4_; subst f5_))
             refine hK.out _ _ ⟨HS0_, HS1_, HS2_, HS3_, HS4_, HS5_, HS6_, HS7_, HS8_⟩ (fun hHeld => ?_)
             clear hK K
             refine norm_ (a' := ?_) ?_ ?_
             rotate_left
             ·show Act.put _ (some 52) _ = _
              simp only [Act.put, List.setIfInBounds_toArray, List.set_cons_zero, List.set_cons_succ, i64_w, i32_w]
              rfl
             refine pA 2 (some 53) (bA 43 7) HT_.out ?_
             refine pA 3 (some 54) (bA 43 15) HT_.out ?_
             refine one_ (i := 4) (N := some 55) (bA 43 31) rfl rfl (one_of HT_.out (by kernel_rfl)) (by decide) (fun K hK => ?_)
             refine goes_ Try.func15 (by kernel_rfl) rfl #[.slice Ao51 y332.length co51, .int .i64 5] (by rfl) rfl rfl argN ?_
             with_reducible refine (marigraphlaw22_at.calls k1 _ _ y332 5 true _ ?side1 ?side2 A29.out).mono ?_
             (case side1 => repeat (first | exact (Kd.R_reads' HO334.out).2.2 | (with_reducible refine Kd.C_alloc ?_ _) | (with_reducible refine Kd.C_drewN ?_ _) | (with_reducible refine Kd.C_drew ?_)))
             (case side2 => exact (Kd.R_reads' HO334.out).2.1)
             rintro e w52 ⟨rfl, hb⟩
             have HS0_ := (hb.cell (World.block_lt_of_cell? _ _ (hHeld.1))).trans (hHeld.1)
             have HS1_ := (hb.cell (World.block_lt_of_cell? _ _ (hHeld.2.1))).trans (hHeld.2.1)
             have HS2_ := (hb.cell (World.block_lt_of_cell? _ _ (hHeld.2.2.1))).trans (hHeld.2.2.1)
             have HS3_ := (hb.cell (World.block_lt_of_cell? _ _ (hHeld.2.2.2.1))).trans (hHeld.2.2.2.1)
             have HS4_ := (hb.cell (World.block_lt_of_cell? _ _ (hHeld.2.2.2.2.1))).trans (hHeld.2.2.2.2.1)
             have HS5_ := (hb.cell (World.block_lt_of_cell? _ _ (hHeld.2.2.2.2.2.1))).trans (hHeld.2.2.2.2.2.1)
             have HS6_ := (hb.cell (World.block_lt_of_cell? _ _ (hHeld.2.2.2.2.2.2.1))).trans (hHeld.2.2.2.2.2.2.1)
             have HS7_ := (hb.cell (World.block_lt_of_cell? _ _ (hHeld.2.2.2.2.2.2.2.1))).trans (hHeld.2.2.2.2.2.2.2.1)
             have HS8_ := (hb.cell (World.block_lt_of_cell? _ _ (hHeld.2.2.2.2.2.2.2.2))).trans (hHeld.2.2.2.2.2.2.2.2)
             refine ⟨_, rfl, ?_⟩
             have n0_ := Aside0.mk (Kd.R_below (rowN HO_1.out) hb)
             have n1_ := Aside0.mk (Kd.R_below (rowN HO331.out) hb)
             have n2_ := Aside0.mk (Kd.R_below (rowN HO334.out) hb)
             have n3_ := Aside0.mk (below_step (belN HB.out) hb)
             clear HO_1
             clear HO331
             clear HO334
             clear HB
             have HO_1 := n0_
             have HO331 := n1_
             have HO334 := n2_
             have HB := n3_
             clear n0_ n1_ n2_ n3_
             (try clear hb)
             (try clear hk)
             refine hK.out _ _ ⟨HS0_, HS1_, HS2_, HS3_, HS4_, HS5_, HS6_, HS7_, HS8_⟩ (fun hHeld => ?_)
             clear hK K
             refine norm_ (a' := ?_) ?_ ?_
             rotate_left
             ·show Act.put _ (some 55) _ = _
              simp only [Act.put, List.setIfInBounds_toArray, List.set_cons_zero, List.set_cons_succ, i64_w, i32_w]
              rfl
             refine pA 5 (some 56) (bA 43 63) HT_.out ?_
             refine pA 6 (some 57) (bA 43 127) HT_.out ?_
             refine pA 7 (some 58) (bA 43 255) HT_.out ?_
             refine one_ (i := 8) (N := some 59) (bA 43 511) rfl rfl (one_of HT_.out (by kernel_rfl)) (by decide) (fun K hK => ?_)
             refine goes_ Try.func15 (by kernel_rfl) rfl #[.slice Ao51 y332.length co51, .int .i64 1431655765] (by rfl) rfl rfl argN ?_
             with_reducible refine (marigraphlaw22_at.calls k1 _ _ y332 1431655765 true _ ?side1 ?side2 A31.out).mono ?_
             (case side1 => repeat (first | exact (Kd.R_reads' HO334.out).2.2 | (with_reducible refine Kd.C_alloc ?_ _) | (with_reducible refine Kd.C_drewN ?_ _) | (with_reducible refine Kd.C_drew ?_)))
             (case side2 => exact (Kd.R_reads' HO334.out).2.1)
             rintro e w53 ⟨rfl, hb⟩
             have HS0_ := (hb.cell (World.block_lt_of_cell? _ _ (hHeld.1))).trans (hHeld.1)
             have HS1_ := (hb.cell (World.block_lt_of_cell? _ _ (hHeld.2.1))).trans (hHeld.2.1)
             have HS2_ := (hb.cell (World.block_lt_of_cell? _ _ (hHeld.2.2.1))).trans (hHeld.2.2.1)
             have HS3_ := (hb.cell (World.block_lt_of_cell? _ _ (hHeld.2.2.2.1))).trans (hHeld.2.2.2.1)
             have HS4_ := (hb.cell (World.block_lt_of_cell? _ _ (hHeld.2.2.2.2.1))).trans (hHeld.2.2.2.2.1)
             have HS5_ := (hb.cell (World.block_lt_of_cell? _ _ (hHeld.2.2.2.2.2.1))).trans (hHeld.2.2.2.2.2.1)
             have HS6_ := (hb.cell (World.block_lt_of_cell? _ _ (hHeld.2.2.2.2.2.2.1))).trans (hHeld.2.2.2.2.2.2.1)
             have HS7_ := (hb.cell (World.block_lt_of_cell? _ _ (hHeld.2.2.2.2.2.2.2.1))).trans (hHeld.2.2.2.2.2.2.2.1)
             have HS8_ := (hb.cell (World.block_lt_of_cell? _ _ (hHeld.2.2.2.2.2.2.2.2))).trans (hHeld.2.2.2.2.2.2.2.2)
             refine ⟨_, rfl, ?_⟩
             have n0_ := Aside0.mk (Kd.R_below (rowN HO_1.out) hb)
             have n1_ := Aside0.mk (Kd.R_below (rowN HO331.out) hb)
             have n2_ := Aside0.mk (Kd.R_below (rowN HO334.out) hb)
             have n3_ := Aside0.mk (below_step (belN HB.out) hb)
             clear HO_1
             clear HO331
             clear HO334
             clear HB
             have HO_1 := n0_
             have HO331 := n1_
             have HO334 := n2_
             have HB := n3_
             clear n0_ n1_ n2_ n3_
             (try clear hb)
             (try clear hk)
             refine hK.out _ _ ⟨HS0_, HS1_, HS2_, HS3_, HS4_, HS5_, HS6_, HS7_, HS8_⟩ (fun hHeld => ?_)
             clear hK K
             refine norm_ (a' := ?_) ?_ ?_
             rotate_left
             ·show Act.put _ (some 59) _ = _
              simp only [Act.put, List.setIfInBounds_toArray, List.set_cons_zero, List.set_cons_succ, i64_w, i32_w]
              rfl
             refine pA 9 (some 60) (bA 43 1023) HT_.out ?_
             refine pA 10 (some 61) (bA 43 2047) HT_.out ?_
             refine pA 11 (some 62) (bA 43 4095) HT_.out ?_
             refine one_ (i := 12) (N := some 63) (bA 43 8191) rfl rfl (one_of HT_.out (by kernel_rfl)) (by decide) (fun K hK => ?_)
             refine Kd.R_lit_step k41 _ 41 ?hg (N := 63) ?hd (xs := ([(⟨1, (⟨0, 0⟩ : S39)⟩ : S41)] : List (S41))) (inner := [.int .i64 1, .int .i64 0, .int .i64 0]) (ok := fun _ => True) (okp := fun _ => True) ?hr ?hp (fun _ hk => hk) trivial (Below.refl _ _) (Nat.le_refl _) (by simp) ?_; (case hd => rfl); (case hg => rfl); (case hr => first | (go_simp; done) | (go_simp; rfl)); (case hp => exact (Reps.c3 (show Kd.M k41 _ _ _ (⟨1, (⟨0, 0⟩ : S39)⟩ : S41) [.int .i64 1, .int .i64 0, .int .i64 0] from (k41_mkM _ _ _ (⟨1, (⟨0, 0⟩ : S39)⟩ : S41) )) (Reps.none _ _)))
             intro v339 w54 ho55 hb hg_ hnew_
             have HS0_ := (hb.cell (World.block_lt_of_cell? _ _ (hHeld.1))).trans (hHeld.1)
             have HS1_ := (hb.cell (World.block_lt_of_cell? _ _ (hHeld.2.1))).trans (hHeld.2.1)
             have HS2_ := (hb.cell (World.block_lt_of_cell? _ _ (hHeld.2.2.1))).trans (hHeld.2.2.1)
             have HS3_ := (hb.cell (World.block_lt_of_cell? _ _ (hHeld.2.2.2.1))).trans (hHeld.2.2.2.1)
             have HS4_ := (hb.cell (World.block_lt_of_cell? _ _ (hHeld.2.2.2.2.1))).trans (hHeld.2.2.2.2.1)
             have HS5_ := (hb.cell (World.block_lt_of_cell? _ _ (hHeld.2.2.2.2.2.1))).trans (hHeld.2.2.2.2.2.1)
             have HS6_ := (hb.cell (World.block_lt_of_cell? _ _ (hHeld.2.2.2.2.2.2.1))).trans (hHeld.2.2.2.2.2.2.1)
             have HS7_ := (hb.cell (World.block_lt_of_cell? _ _ (hHeld.2.2.2.2.2.2.2.1))).trans (hHeld.2.2.2.2.2.2.2.1)
             have HS8_ := (hb.cell (World.block_lt_of_cell? _ _ (hHeld.2.2.2.2.2.2.2.2))).trans (hHeld.2.2.2.2.2.2.2.2)
             clear hg_ hnew_
             (first | rw [← Ny338.out] at ho55 | (simp only [Int.reduceToNat] at ho55; rw [← Ny338.out] at ho55))
             have n0_ := Aside0.mk (Kd.R_elder' (rowN HO_1.out) (Kd.R_base ho55) hb)
             have n1_ := Aside0.mk (Kd.R_elder' (rowN HO331.out) (Kd.R_base ho55) hb)
             have n2_ := Aside0.mk (Kd.R_elder' (rowN HO334.out) (Kd.R_base ho55) hb)
             have n3_ := Aside0.mk (Kd.R_lower (Kd.R_new' (Kd.R_new' (Kd.R_new' ho55 (Kd.R_lt (rowN HO_1.out))) (Kd.R_lt (rowN HO331.out))) (Kd.R_lt (rowN HO334.out))) (below_size (belN HB.out)))
             have n4_ := Aside0.mk (below_step (belN HB.out) hb)
             clear HO_1
             clear HO331
             clear HO334
             clear HB
             have HO_1 := n0_
             have HO331 := n1_
             have HO334 := n2_
             have HO340 := n3_
             have HB := n4_
             clear n0_ n1_ n2_ n3_ n4_
             clear hb ho55
             obtain ⟨Ao56, co56, eo56⟩ := Kd.R_slice HO340.out
             (first | subst eo56 | (injection eo56 with f1_ f2_ f3_; have f4_ := f1_.symm; have f5_ := f3_.symm; clear f1_ f2_ f3_; subst f4_; subst f5_))
             refine hK.out _ _ ⟨HS0_, HS1_, HS2_, HS3_, HS4_, HS5_, HS6_, HS7_, HS8_⟩ (fun hHeld => ?_)
             clear hK K
             refine norm_ (a' := ?_) ?_ ?_
             rotate_left
             ·show Act.put _ (some 63) _ = _
              simp only [Act.put, List.setIfInBounds_toArray, List.set_cons_zero, List.set_cons_succ, i64_w, i32_w]
              rfl
             refine one_ (i := 13) (N := some 64) (bA 43 16383) rfl rfl (one_of HT_.out (by kernel_rfl)) (by decide) (fun K hK => ?_)
             refine goes_ Try.func15 (by kernel_rfl) rfl #[.slice Ao56 y338.length co56, .int .i64 1] (by rfl) rfl rfl argN ?_
             with_reducible refine (marigraphlaw22_at.calls k1 _ _ y338 1 true _ ?side1 ?side2 A33.out).mono ?_
             (case side1 => repeat (first | exact (Kd.R_reads' HO340.out).2.2 | (with_reducible refine Kd.C_alloc ?_ _) | (with_reducible refine Kd.C_drewN ?_ _) | (with_reducible refine Kd.C_drew ?_)))
             (case side2 => exact (Kd.R_reads' HO340.out).2.1)
             rintro e w57 ⟨rfl, hb⟩
             have HS0_ := (hb.cell (World.block_lt_of_cell? _ _ (hHeld.1))).trans (hHeld.1)
             have HS1_ := (hb.cell (World.block_lt_of_cell? _ _ (hHeld.2.1))).trans (hHeld.2.1)
             have HS2_ := (hb.cell (World.block_lt_of_cell? _ _ (hHeld.2.2.1))).trans (hHeld.2.2.1)
             have HS3_ := (hb.cell (World.block_lt_of_cell? _ _ (hHeld.2.2.2.1))).trans (hHeld.2.2.2.1)
             have HS4_ := (hb.cell (World.block_lt_of_cell? _ _ (hHeld.2.2.2.2.1))).trans (hHeld.2.2.2.2.1)
             have HS5_ := (hb.cell (World.block_lt_of_cell? _ _ (hHeld.2.2.2.2.2.1))).trans (hHeld.2.2.2.2.2.1)
             have HS6_ := (hb.cell (World.block_lt_of_cell? _ _ (hHeld.2.2.2.2.2.2.1))).trans (hHeld.2.2.2.2.2.2.1)
             have HS7_ := (hb.cell (World.block_lt_of_cell? _ _ (hHeld.2.2.2.2.2.2.2.1))).trans (hHeld.2.2.2.2.2.2.2.1)
             have HS8_ := (hb.cell (World.block_lt_of_cell? _ _ (hHeld.2.2.2.2.2.2.2.2))).trans (hHeld.2.2.2.2.2.2.2.2)
             refine ⟨_, rfl, ?_⟩
             have n0_ := Aside0.mk (Kd.R_below (rowN HO_1.out) hb)
             have n1_ := Aside0.mk (Kd.R_below (rowN HO331.out) hb)
             have n2_ := Aside0.mk (Kd.R_below (rowN HO334.out) hb)
             have n3_ := Aside0.mk (Kd.R_below (rowN HO340.out) hb)
             have n4_ := Aside0.mk (below_step (belN HB.out) hb)
             clear HO_1
             clear HO331
             clear HO334
             clear HO340
             clear HB
             have HO_1 := n0_
             have HO331 := n1_
             have HO334 := n2_
             have HO340 := n3_
             have HB := n4_
             clear n0_ n1_ n2_ n3_ n4_
             (try clear hb)
             (try clear hk)
             refine hK.out _ _ ⟨HS0_, HS1_, HS2_, HS3_, HS4_, HS5_, HS6_, HS7_, HS8_⟩ (fun hHeld => ?_)
             clear hK K
             refine norm_ (a' := ?_) ?_ ?_
             rotate_left
             ·show Act.put _ (some 64) _ = _
              simp only [Act.put, List.setIfInBounds_toArray, List.set_cons_zero, List.set_cons_succ, i64_w, i32_w]
              rfl
             refine pA 14 (some 65) (bA 43 32767) HT_.out ?_
             refine pA 15 (some 66) (bA 43 65535) HT_.out ?_
             refine pA 16 (some 67) (bA 43 131071) HT_.out ?_
             refine pA 17 (some 68) (bA 43 262143) HT_.out ?_
             refine pA 18 (some 69) (bA 43 524287) HT_.out ?_
             refine pA 19 (some 70) (bA 43 1048575) HT_.out ?_
             refine one_ (i := 20) (N := some 71) (bA 43 2097151) rfl rfl (one_of HT_.out (by kernel_rfl)) (by decide) (fun K hK => ?_)
             refine Kd.R_lit_step k41 _ 41 ?hg (N := 71) ?hd (xs := ([(⟨5, (⟨0, 1⟩ : S39)⟩ : S41), (⟨4, (⟨0, 1⟩ : S39)⟩ : S41)] : List (S41))) (inner := [.int .i64 5, .int .i64 0, .int .i64 1, .int .i64 4, .int .i64 0, .int .i64 1]) (ok := fun _ => True) (okp := fun _ => True) ?hr ?hp (fun _ hk => hk) trivial (Below.refl _ _) (Nat.le_refl _) (by simp) ?_; (case hd => rfl); (case hg => rfl); (case hr => first | (go_simp; done) | (go_simp; rfl)); (case hp => exact (Reps.c3 (show Kd.M k41 _ _ _ (⟨5, (⟨0, 1⟩ : S39)⟩ : S41) [.int .i64 5, .int .i64 0, .int .i64 1] from (k41_mkM _ _ _ (⟨5, (⟨0, 1⟩ : S39)⟩ : S41) )) (Reps.c3 (show Kd.M k41 _ _ _ (⟨4, (⟨0, 1⟩ : S39)⟩ : S41) [.int .i64 4, .int .i64 0, .int .i64 1] from (k41_mkM _ _ _ (⟨4, (⟨0, 1⟩ : S39)⟩ : S41) )) (Reps.none _ _))))
             intro v343 w58 ho59 hb hg_ hnew_
             have HS0_ := (hb.cell (World.block_lt_of_cell? _ _ (hHeld.1))).trans (hHeld.1)
             have HS1_ := (hb.cell (World.block_lt_of_cell? _ _ (hHeld.2.1))).trans (hHeld.2.1)
             have HS2_ := (hb.cell (World.block_lt_of_cell? _ _ (hHeld.2.2.1))).trans (hHeld.2.2.1)
             have HS3_ := (hb.cell (World.block_lt_of_cell? _ _ (hHeld.2.2.2.1))).trans (hHeld.2.2.2.1)
             have HS4_ := (hb.cell (World.block_lt_of_cell? _ _ (hHeld.2.2.2.2.1))).trans (hHeld.2.2.2.2.1)
             have HS5_ := (hb.cell (World.block_lt_of_cell? _ _ (hHeld.2.2.2.2.2.1))).trans (hHeld.2.2.2.2.2.1)
             have HS6_ := (hb.cell (World.block_lt_of_cell? _ _ (hHeld.2.2.2.2.2.2.1))).trans (hHeld.2.2.2.2.2.2.1)
             have HS7_ := (hb.cell (World.block_lt_of_cell? _ _ (hHeld.2.2.2.2.2.2.2.1))).trans (hHeld.2.2.2.2.2.2.2.1)
             have HS8_ := (hb.cell (World.block_lt_of_cell? _ _ (hHeld.2.2.2.2.2.2.2.2))).trans (hHeld.2.2.2.2.2.2.2.2)
             clear hg_ hnew_
             (first | rw [← Ny342.out] at ho59 | (simp only [Int.reduceToNat] at ho59; rw [← Ny342.out] at ho59))
             have n0_ := Aside0.mk (Kd.R_elder' (rowN HO_1.out) (Kd.R_base ho59) hb)
             have n1_ := Aside0.mk (Kd.R_elder' (rowN HO331.out) (Kd.R_base ho59) hb)
             have n2_ := Aside0.mk (Kd.R_elder' (rowN HO334.out) (Kd.R_base ho59) hb)
             have n3_ := Aside0.mk (Kd.R_elder' (rowN HO340.out) (Kd.R_base ho59) hb)
             have n4_ := Aside0.mk (Kd.R_lower (Kd.R_new' (Kd.R_new' (Kd.R_new' (Kd.R_new' ho59 (Kd.R_lt (rowN HO_1.out))) (Kd.R_lt (rowN HO331.out))) (Kd.R_lt (rowN HO334.out))) (Kd.R_lt (rowN HO340.out))) (below_size (belN HB.out)))
             have n5_ := Aside0.mk (below_step (belN HB.out) hb)
             clear HO_1
             clear HO331
             clear HO334
             clear HO340
             clear HB
             have HO_1 := n0_
             have HO331 := n1_
             have HO334 := n2_
             have HO340 := n3_
             have HO344 := n4_
             have HB := n5_
             clear n0_ n1_ n2_ n3_ n4_ n5_
             clear hb ho59
             obtain ⟨Ao60, co60, eo60⟩ := Kd.R_slice HO344.out
             (first | subst eo60 | (injection eo60 with f1_ f2_ f3_; have f4_ := f1_.symm; have f5_ := f3_.symm; clear f1_ f2_ f3_; subst f4_; subst f5_))
             refine hK.out _ _ ⟨HS0_, HS1_, HS2_, HS3_, HS4_, HS5_, HS6_, HS7_, HS8_⟩ (fun hHeld => ?_)
             clear hK K
             refine norm_ (a' := ?_) ?_ ?_
             rotate_left
             ·show Act.put _ (some 71) _ = _
              simp only [Act.put, List.setIfInBounds_toArray, List.set_cons_zero, List.set_cons_succ, i64_w, i32_w]
              rfl
             refine one_ (i := 21) (N := some 72) (bA 43 4194303) rfl rfl (one_of HT_.out (by kernel_rfl)) (by decide) (fun K hK => ?_)
             refine goes_ Try.func15 (by kernel_rfl) rfl #[.slice Ao60 y342.length co60, .int .i64 5] (by rfl) rfl rfl argN ?_
             with_reducible refine (marigraphlaw22_at.calls k1 _ _ y342 5 true _ ?side1 ?side2 A35.out).mono ?_
             (case side1 => repeat (first | exact (Kd.R_reads' HO344.out).2.2 | (with_reducible refine Kd.C_alloc ?_ _) | (with_reducible refine Kd.C_drewN ?_ _) | (with_reducible refine Kd.C_drew ?_)))
             (case side2 => exact (Kd.R_reads' HO344.out).2.1)
             rintro e w61 ⟨rfl, hb⟩
             have HS0_ := (hb.cell (World.block_lt_of_cell? _ _ (hHeld.1))).trans (hHeld.1)
             have HS1_ := (hb.cell (World.block_lt_of_cell? _ _ (hHeld.2.1))).trans (hHeld.2.1)
             have HS2_ := (hb.cell (World.block_lt_of_cell? _ _ (hHeld.2.2.1))).trans (hHeld.2.2.1)
             have HS3_ := (hb.cell (World.block_lt_of_cell? _ _ (hHeld.2.2.2.1))).trans (hHeld.2.2.2.1)
             have HS4_ := (hb.cell (World.block_lt_of_cell? _ _ (hHeld.2.2.2.2.1))).trans (hHeld.2.2.2.2.1)
             have HS5_ := (hb.cell (World.block_lt_of_cell? _ _ (hHeld.2.2.2.2.2.1))).trans (hHeld.2.2.2.2.2.1)
             have HS6_ := (hb.cell (World.block_lt_of_cell? _ _ (hHeld.2.2.2.2.2.2.1))).trans (hHeld.2.2.2.2.2.2.1)
             have HS7_ := (hb.cell (World.block_lt_of_cell? _ _ (hHeld.2.2.2.2.2.2.2.1))).trans (hHeld.2.2.2.2.2.2.2.1)
             have HS8_ := (hb.cell (World.block_lt_of_cell? _ _ (hHeld.2.2.2.2.2.2.2.2))).trans (hHeld.2.2.2.2.2.2.2.2)
             refine ⟨_, rfl, ?_⟩
             have n0_ := Aside0.mk (Kd.R_below (rowN HO_1.out) hb)
             have n1_ := Aside0.mk (Kd.R_below (rowN HO331.out) hb)
             have n2_ := Aside0.mk (Kd.R_below (rowN HO334.out) hb)
             have n3_ := Aside0.mk (Kd.R_below (rowN HO340.out) hb)
             have n4_ := Aside0.mk (Kd.R_below (rowN HO344.out) hb)
             have n5_ := Aside0.mk (below_step (belN HB.out) hb)
             clear HO_1
             clear HO331
             clear HO334
             clear HO340
             clear HO344
             clear HB
             have HO_1 := n0_
             have HO331 := n1_
             have HO334 := n2_
             have HO340 := n3_
             have HO344 := n4_
             have HB := n5_
             clear n0_ n1_ n2_ n3_ n4_ n5_
             (try clear hb)
             (try clear hk)
             refine hK.out _ _ ⟨HS0_, HS1_, HS2_, HS3_, HS4_, HS5_, HS6_, HS7_, HS8_⟩ (fun hHeld => ?_)
             clear hK K
             refine norm_ (a' := ?_) ?_ ?_
             rotate_left
             ·show Act.put _ (some 72) _ = _
              simp only [Act.put, List.setIfInBounds_toArray, List.set_cons_zero, List.set_cons_succ, i64_w, i32_w]
              rfl
             refine pA 22 (some 73) (bA 43 8388607) HT_.out ?_
             refine pA 23 (some 74) (bA 43 16777215) HT_.out ?_
             refine pA 24 (some 75) (bA 43 33554431) HT_.out ?_
             refine pA 25 (some 76) (bA 43 67108863) HT_.out ?_
             refine pA 27 (some 78) (bA 43 201326591) HT_.out ?_
             refine pA 28 (some 79) (bA 43 469762047) HT_.out ?_
             refine take_ (i := 26) (N := some 77) (v := ?_) (a' := ?_) (bA 43 536870911) rfl rfl (take_ofW HT_.out HW_.out (by kernel_rfl)) (fun _ _ _ h => h) (Or.inl ⟨by rfl, ?_⟩) hHeld ?_ ?_
             rotate_left
             ·rintro w' ⟨s0, s1, s2, s3, s4, s5, s6, s7, s8⟩
              go_simp
              with_reducible rfl
             rotate_left
             ·simp only [Act.put, List.setIfInBounds_toArray, List.set_cons_zero, List.set_cons_succ, i64_w, i32_w]
              rfl
             refine take_ (i := 29) (N := some 80) (v := ?_) (a' := ?_) (bA 43 1073741823) rfl rfl (take_ofW HT_.out HW_.out (by kernel_rfl)) (fun _ _ _ h => h) (Or.inl ⟨by rfl, ?_⟩) hHeld ?_ ?_
             rotate_left
             ·rintro w' ⟨s0, s1, s2, s3, s4, s5, s6, s7, s8⟩
              go_simp
              with_reducible rfl
             rotate_left
             ·simp only [Act.put, List.setIfInBounds_toArray, List.set_cons_zero, List.set_cons_succ, i64_w, i32_w]
              rfl
             refine one_ (i := 30) (N := some 81) (bA 43 2147483647) rfl rfl (one_of HT_.out (by kernel_rfl)) (by decide) (fun K hK => ?_)
             refine goes_ Try.func16 (by kernel_rfl) rfl #[.agg #[.int .i64 ((rd_T41 y329 0).f0), .int .i64 ((rd_T41 y329 0).f1.f0), .int .i64 ((rd_T41 y329 0).f1.f1)], .agg #[.int .i64 ((rd_T41 y329 1).f0), .int .i64 ((rd_T41 y329 1).f1.f0), .int .i64 ((rd_T41 y329 1).f1.f1)], .int .i64 7] (by rfl) rfl rfl argN ?_
             with_reducible refine (marigraphlaw22_between.calls k1 ((rd_T41 y329 0).f0) ((rd_T41 y329 0).f1.f0) ((rd_T41 y329 0).f1.f1) ((rd_T41 y329 1).f0) ((rd_T41 y329 1).f1.f0) ((rd_T41 y329 1).f1.f1) 7 true _ A39.out).mono ?_
             rintro e w62 ⟨rfl, hb⟩
             have HS0_ := (hb.cell (World.block_lt_of_cell? _ _ (hHeld.1))).trans (hHeld.1)
             have HS1_ := (hb.cell (World.block_lt_of_cell? _ _ (hHeld.2.1))).trans (hHeld.2.1)
             have HS2_ := (hb.cell (World.block_lt_of_cell? _ _ (hHeld.2.2.1))).trans (hHeld.2.2.1)
             have HS3_ := (hb.cell (World.block_lt_of_cell? _ _ (hHeld.2.2.2.1))).trans (hHeld.2.2.2.1)
             have HS4_ := (hb.cell (World.block_lt_of_cell? _ _ (hHeld.2.2.2.2.1))).trans (hHeld.2.2.2.2.1)
             have HS5_ := (hb.cell (World.block_lt_of_cell? _ _ (hHeld.2.2.2.2.2.1))).trans (hHeld.2.2.2.2.2.1)
             have HS6_ := (hb.cell (World.block_lt_of_cell? _ _ (hHeld.2.2.2.2.2.2.1))).trans (hHeld.2.2.2.2.2.2.1)
             have HS7_ := (hb.cell (World.block_lt_of_cell? _ _ (hHeld.2.2.2.2.2.2.2.1))).trans (hHeld.2.2.2.2.2.2.2.1)
             have HS8_ := (hb.cell (World.block_lt_of_cell? _ _ (hHeld.2.2.2.2.2.2.2.2))).trans (hHeld.2.2.2.2.2.2.2.2)
             refine ⟨_, rfl, ?_⟩
             have n0_ := Aside0.mk (Kd.R_below (rowN HO_1.out) hb)
             have n1_ := Aside0.mk (Kd.R_below (rowN HO331.out) hb)
             have n2_ := Aside0.mk (Kd.R_below (rowN HO334.out) hb)
             have n3_ := Aside0.mk (Kd.R_below (rowN HO340.out) hb)
             have n4_ := Aside0.mk (Kd.R_below (rowN HO344.out) hb)
             have n5_ := Aside0.mk (below_step (belN HB.out) hb)
             clear HO_1
             clear HO331
             clear HO334
             clear HO340
             clear HO344
             clear HB
             have HO_1 := n0_
             have HO331 := n1_
             have HO334 := n2_
             have HO340 := n3_
             have HO344 := n4_
             have HB := n5_
             clear n0_ n1_ n2_ n3_ n4_ n5_
             (try clear hb)
             (try clear hk)
             refine hK.out _ _ ⟨HS0_, HS1_, HS2_, HS3_, HS4_, HS5_, HS6_, HS7_, HS8_⟩ (fun hHeld => ?_)
             clear hK K
             refine norm_ (a' := ?_) ?_ ?_
             rotate_left
             ·show Act.put _ (some 81) _ = _
              simp only [Act.put, List.setIfInBounds_toArray, List.set_cons_zero, List.set_cons_succ, i64_w, i32_w]
              rfl
             refine pA 31 (some 82) (bA 43 4294967295) HT_.out ?_
             refine pA 32 (some 83) (bA 43 8589934591) HT_.out ?_
             refine pA 33 (some 84) (bA 43 17179869183) HT_.out ?_
             refine pA 34 (some 85) (bA 43 34359738367) HT_.out ?_
             refine pA 35 (some 86) (bA 43 68719476735) HT_.out ?_
             refine take_ (i := 36) (N := some 87) (v := ?_) (a' := ?_) (bA 43 137438953471) rfl rfl (take_ofW HT_.out HW_.out (by kernel_rfl)) (fun _ _ _ h => h) (Or.inl ⟨by rfl, ?_⟩) hHeld ?_ ?_
             rotate_left
             ·rintro w' ⟨s0, s1, s2, s3, s4, s5, s6, s7, s8⟩
              go_simp
              with_reducible rfl
             rotate_left
             ·simp only [Act.put, List.setIfInBounds_toArray, List.set_cons_zero, List.set_cons_succ, i64_w, i32_w]
              rfl
             refine one_ (i := 37) (N := some 88) (bA 43 274877906943) rfl rfl (one_of HT_.out (by kernel_rfl)) (by decide) (fun K hK => ?_)
             refine goes_ Try.func16 (by kernel_rfl) rfl #[.agg #[.int .i64 0, .int .i64 0, .int .i64 0], .agg #[.int .i64 ((rd_T41 y329 1).f0), .int .i64 ((rd_T41 y329 1).f1.f0), .int .i64 ((rd_T41 y329 1).f1.f1)], .int .i64 5] (by rfl) rfl rfl argN ?_
             with_reducible refine (marigraphlaw22_between.calls k1 0 0 0 ((rd_T41 y329 1).f0) ((rd_T41 y329 1).f1.f0) ((rd_T41 y329 1).f1.f1) 5 true _ A41.out).mono ?_
             rintro e w63 ⟨rfl, hb⟩
             have HS0_ := (hb.cell (World.block_lt_of_cell? _ _ (hHeld.1))).trans (hHeld.1)
             have HS1_ := (hb.cell (World.block_lt_of_cell? _ _ (hHeld.2.1))).trans (hHeld.2.1)
             have HS2_ := (hb.cell (World.block_lt_of_cell? _ _ (hHeld.2.2.1))).trans (hHeld.2.2.1)
             have HS3_ := (hb.cell (World.block_lt_of_cell? _ _ (hHeld.2.2.2.1))).trans (hHeld.2.2.2.1)
             have HS4_ := (hb.cell (World.block_lt_of_cell? _ _ (hHeld.2.2.2.2.1))).trans (hHeld.2.2.2.2.1)
             have HS5_ := (hb.cell (World.block_lt_of_cell? _ _ (hHeld.2.2.2.2.2.1))).trans (hHeld.2.2.2.2.2.1)
             have HS6_ := (hb.cell (World.block_lt_of_cell? _ _ (hHeld.2.2.2.2.2.2.1))).trans (hHeld.2.2.2.2.2.2.1)
             have HS7_ := (hb.cell (World.block_lt_of_cell? _ _ (hHeld.2.2.2.2.2.2.2.1))).trans (hHeld.2.2.2.2.2.2.2.1)
             have HS8_ := (hb.cell (World.block_lt_of_cell? _ _ (hHeld.2.2.2.2.2.2.2.2))).trans (hHeld.2.2.2.2.2.2.2.2)
             refine ⟨_, rfl, ?_⟩
             have n0_ := Aside0.mk (Kd.R_below (rowN HO_1.out) hb)
             have n1_ := Aside0.mk (Kd.R_below (rowN HO331.out) hb)
             have n2_ := Aside0.mk (Kd.R_below (rowN HO334.out) hb)
             have n3_ := Aside0.mk (Kd.R_below (rowN HO340.out) hb)
             have n4_ := Aside0.mk (Kd.R_below (rowN HO344.out) hb)
             have n5_ := Aside0.mk (below_step (belN HB.out) hb)
             clear HO_1
             clear HO331
             clear HO334
             clear HO340
             clear HO344
             clear HB
             have HO_1 := n0_
             have HO331 := n1_
             have HO334 := n2_
             have HO340 := n3_
             have HO344 := n4_
             have HB := n5_
             clear n0_ n1_ n2_ n3_ n4_ n5_
             (try clear hb)
             (try clear hk)
             refine hK.out _ _ ⟨HS0_, HS1_, HS2_, HS3_, HS4_, HS5_, HS6_, HS7_, HS8_⟩ (fun hHeld => ?_)
             clear hK K
             refine norm_ (a' := ?_) ?_ ?_
             rotate_left
             ·show Act.put _ (some 88) _ = _
              simp only [Act.put, List.setIfInBounds_toArray, List.set_cons_zero, List.set_cons_succ, i64_w, i32_w]
              rfl
             refine pA 38 (some 89) (bA 43 549755813887) HT_.out ?_
             refine pA 39 (some 90) (bA 43 1099511627775) HT_.out ?_
             refine one_ (i := 40) (N := some 91) (bA 43 2199023255551) rfl rfl (one_of HT_.out (by kernel_rfl)) (by decide) (fun K hK => ?_)
             refine goes_ Try.func17 (by kernel_rfl) rfl #[] (by rfl) rfl rfl argN ?_
             with_reducible refine (marigraphlaw22_known.calls k1  t351 _ A43.out).mono ?_
             rintro e w64 ⟨rfl, hb⟩
             have HS0_ := (hb.cell (World.block_lt_of_cell? _ _ (hHeld.1))).trans (hHeld.1)
             have HS1_ := (hb.cell (World.block_lt_of_cell? _ _ (hHeld.2.1))).trans (hHeld.2.1)
             have HS2_ := (hb.cell (World.block_lt_of_cell? _ _ (hHeld.2.2.1))).trans (hHeld.2.2.1)
             have HS3_ := (hb.cell (World.block_lt_of_cell? _ _ (hHeld.2.2.2.1))).trans (hHeld.2.2.2.1)
             have HS4_ := (hb.cell (World.block_lt_of_cell? _ _ (hHeld.2.2.2.2.1))).trans (hHeld.2.2.2.2.1)
             have HS5_ := (hb.cell (World.block_lt_of_cell? _ _ (hHeld.2.2.2.2.2.1))).trans (hHeld.2.2.2.2.2.1)
             have HS6_ := (hb.cell (World.block_lt_of_cell? _ _ (hHeld.2.2.2.2.2.2.1))).trans (hHeld.2.2.2.2.2.2.1)
             have HS7_ := (hb.cell (World.block_lt_of_cell? _ _ (hHeld.2.2.2.2.2.2.2.1))).trans (hHeld.2.2.2.2.2.2.2.1)
             have HS8_ := (hb.cell (World.block_lt_of_cell? _ _ (hHeld.2.2.2.2.2.2.2.2))).trans (hHeld.2.2.2.2.2.2.2.2)
             refine ⟨_, rfl, ?_⟩
             have n0_ := Aside0.mk (Kd.R_below (rowN HO_1.out) hb)
             have n1_ := Aside0.mk (Kd.R_below (rowN HO331.out) hb)
             have n2_ := Aside0.mk (Kd.R_below (rowN HO334.out) hb)
             have n3_ := Aside0.mk (Kd.R_below (rowN HO340.out) hb)
             have n4_ := Aside0.mk (Kd.R_below (rowN HO344.out) hb)
             have n5_ := Aside0.mk (below_step (belN HB.out) hb)
             clear HO_1
             clear HO331
             clear HO334
             clear HO340
             clear HO344
             clear HB
             have HO_1 := n0_
             have HO331 := n1_
             have HO334 := n2_
             have HO340 := n3_
             have HO344 := n4_
             have HB := n5_
             clear n0_ n1_ n2_ n3_ n4_ n5_
             (try clear hb)
             (try clear hk)
             refine hK.out _ _ ⟨HS0_, HS1_, HS2_, HS3_, HS4_, HS5_, HS6_, HS7_, HS8_⟩ (fun hHeld => ?_)
             clear hK K
             refine norm_ (a' := ?_) ?_ ?_
             rotate_left
             ·show Act.put _ (some 91) _ = _
              simp only [Act.put, List.setIfInBounds_toArray, List.set_cons_zero, List.set_cons_succ, i64_w, i32_w]
              rfl
             refine pA 41 (some 92) (bA 43 4398046511103) HT_.out ?_
             refine pA 42 (some 0) (bA 43 8796093022207) HT_.out ?_
             refine done_ (done_of HT_.out (by kernel_rfl)) ?_
             try go_wp2
             go_ret
             exact ⟨by first | rfl | (simp [errW_none, errW_some] <;> rfl) | (simp [*, errW_none, errW_some] <;> rfl), (belN HB.out)⟩
            ·replace c42 := Bool.eq_false_iff.mpr c42
             subst c42
             have H1 : (some false) = some r := by rw [if_neg (show ¬ (false = true) by decide)] at H; exact H
             clear H
             have H := H1
             clear H1
             obtain rfl := Option.some.inj H
             try go_wp2_with (first | ((with_reducible refine gate_dst (N := 45) rfl ?_); (try (refine gate_guard (by rfl) ?_; dsimp only)); refine Kd.R_lit k41 _ 41 ?hg (N := 45) ?hd (xs := ([(⟨0, (⟨(-2147483647), 1⟩ : S39)⟩ : S41), (⟨4294967295, (⟨2147483647, 1⟩ : S39)⟩ : S41)] : List (S41))) (inner := [.int .i64 0, .int .i64 (-2147483647), .int .i64 1, .int .i64 4294967295, .int .i64 2147483647, .int .i64 1]) (ok := fun _ => True) (okp := fun _ => True) ?hr ?hp (fun _ hk => hk) trivial (Below.refl _ _) (Nat.le_refl _) (by simp) ?_; (case hd => rfl); (case hg => rfl); (case hr => first | (go_simp; done) | (go_simp; rfl)); (case hp => exact (Reps.c3 (show Kd.M k41 _ _ _ (⟨0, (⟨(-2147483647), 1⟩ : S39)⟩ : S41) [.int .i64 0, .int .i64 (-2147483647), .int .i64 1] from (k41_mkM _ _ _ (⟨0, (⟨(-2147483647), 1⟩ : S39)⟩ : S41) )) (Reps.c3 (show Kd.M k41 _ _ _ (⟨4294967295, (⟨2147483647, 1⟩ : S39)⟩ : S41) [.int .i64 4294967295, .int .i64 2147483647, .int .i64 1] from (k41_mkM _ _ _ (⟨4294967295, (⟨2147483647, 1⟩ : S39)⟩ : S41) )) (Reps.none _ _)))); intro v330 w65 ho66 hb hg_ hnew_; clear hg_ hnew_; (first | rw [← Ny329.out] at ho66 | (simp only [Int.reduceToNat] at ho66; rw [← Ny329.out] at ho66)); have n0_ := Aside0.mk (Kd.R_elder' (rowN HO_1.out) (Kd.R_base ho66) hb); have n1_ := Aside0.mk (Kd.R_lower (Kd.R_new' ho66 (Kd.R_lt (rowN HO_1.out))) (below_size (belN HB.out))); have n2_ := Aside0.mk (below_step (belN HB.out) hb); clear HO_1; clear HB; have HO_1 := n0_; have HO331 := n1_; have HB := n2_; clear n0_ n1_ n2_; clear hb ho66) | ((with_reducible refine gate_dst (N := 50) rfl ?_); (try (refine gate_guard (by rfl) ?_; dsimp only)); refine Kd.R_lit k41 _ 41 ?hg (N := 50) ?hd (xs := ([(⟨0, (⟨0, 1⟩ : S39)⟩ : S41), (⟨4294967295, (⟨1, 1⟩ : S39)⟩ : S41)] : List (S41))) (inner := [.int .i64 0, .int .i64 0, .int .i64 1, .int .i64 4294967295, .int .i64 1, .int .i64 1]) (ok := fun _ => True) (okp := fun _ => True) ?hr ?hp (fun _ hk => hk) trivial (Below.refl _ _) (Nat.le_refl _) (by simp) ?_; (case hd => rfl); (case hg => rfl); (case hr => first | (go_simp; done) | (go_simp; rfl)); (case hp => exact (Reps.c3 (show Kd.M k41 _ _ _ (⟨0, (⟨0, 1⟩ : S39)⟩ : S41) [.int .i64 0, .int .i64 0, .int .i64 1] from (k41_mkM _ _ _ (⟨0, (⟨0, 1⟩ : S39)⟩ : S41) )) (Reps.c3 (show Kd.M k41 _ _ _ (⟨4294967295, (⟨1, 1⟩ : S39)⟩ : S41) [.int .i64 4294967295, .int .i64 1, .int .i64 1] from (k41_mkM _ _ _ (⟨4294967295, (⟨1, 1⟩ : S39)⟩ : S41) )) (Reps.none _ _)))); intro v333 w67 ho68 hb hg_ hnew_; clear hg_ hnew_; (first | rw [← Ny332.out] at ho68 | (simp only [Int.reduceToNat] at ho68; rw [← Ny332.out] at ho68)); have n0_ := Aside0.mk (Kd.R_elder' (rowN HO_1.out) (Kd.R_base ho68) hb); have n1_ := Aside0.mk (Kd.R_elder' (rowN HO331.out) (Kd.R_base ho68) hb); have n2_ := Aside0.mk (Kd.R_lower (Kd.R_new' (Kd.R_new' ho68 (Kd.R_lt (rowN HO_1.out))) (Kd.R_lt (rowN HO331.out))) (below_size (belN HB.out))); have n3_ := Aside0.mk (below_step (belN HB.out) hb); clear HO_1; clear HO331; clear HB; have HO_1 := n0_; have HO331 := n1_; have HO334 := n2_; have HB := n3_; clear n0_ n1_ n2_ n3_; clear hb ho68))
             have n0_ := Aside0.mk (Kd.R_drew HO_1.out)
             have n1_ := Aside0.mk (Kd.R_drew HO331.out)
             have n2_ := Aside0.mk (Kd.R_drew HO334.out)
             have n3_ := Aside0.mk (below_drew1 HB.out)
             clear HO_1
             clear HO331
             clear HO334
             clear HB
             have HO_1 := n0_
             have HO331 := n1_
             have HO334 := n2_
             have HB := n3_
             clear n0_ n1_ n2_ n3_
             obtain ⟨Ao70, co70, eo70⟩ := Kd.R_slice HO331.out
             (first | subst eo70 | (injection eo70 with f1_ f2_ f3_; have f4_ := f1_.symm; have f5_ := f3_.symm; clear f1_ f2_ f3_; subst f4_; subst f5_))
             have p346 : 0 ≤ (0 : Int) := (by omega)
             have q346 : 0 < (y329.length : Int) := of_decide_eq_true (by first | (with_reducible assumption) | assumption)
             obtain ⟨ad346, e346, hx346_0, hx346_1, hx346_2⟩ := at_T41 (Kd.R_reads' HO331.out).2.2 0 p346 q346
             cases e346
             have qi346 : (0 < y329.length) = True := eq_true (by omega)
             (try rw [show ((0 : Int)).toNat = 0 from rfl] at hx346_0)
             (try rw [show 0 * 3 = 0 from rfl] at hx346_0)
             (try rw [Addr.add_zero'] at hx346_0)
             (try rw [show ((0 : Int)).toNat = 0 from rfl] at hx346_1)
             (try rw [show 0 * 3 = 0 from rfl] at hx346_1)
             (try rw [Addr.add_zero'] at hx346_1)
             (try rw [show ((0 : Int)).toNat = 0 from rfl] at hx346_2)
             (try rw [show 0 * 3 = 0 from rfl] at hx346_2)
             (try rw [Addr.add_zero'] at hx346_2)
             replace p346 := eq_true p346
             replace q346 := eq_true q346
             have p347 : 0 ≤ (1 : Int) := (by omega)
             have q347 : 1 < (y329.length : Int) := of_decide_eq_true (by first | (with_reducible assumption) | assumption)
             obtain ⟨ad347, e347, hx347_0, hx347_1, hx347_2⟩ := at_T41 (Kd.R_reads' HO331.out).2.2 1 p347 q347
             obtain rfl : ad346 = ad347 := (by injection e347)
             (try simp only [show (1 : Int).toNat = 1 from rfl, Nat.reduceMul, Nat.reduceEqDiff, Go.Addr.add, ↓reduceIte] at hx347_0)
             (try simp only [show (1 : Int).toNat = 1 from rfl, Nat.reduceMul, Nat.reduceEqDiff, Go.Addr.add, ↓reduceIte] at hx347_1)
             (try simp only [show (1 : Int).toNat = 1 from rfl, Nat.reduceMul, Nat.reduceEqDiff, Go.Addr.add, ↓reduceIte] at hx347_2)
             have qi347 : (1 < y329.length) = True := eq_true (by omega)
             (try rw [show ((1 : Int)).toNat = 1 from rfl] at hx347_0)
             (try rw [show 1 * 3 = 3 from rfl] at hx347_0)
             (try rw [show ((1 : Int)).toNat = 1 from rfl] at hx347_1)
             (try rw [show 1 * 3 = 3 from rfl] at hx347_1)
             (try rw [show ((1 : Int)).toNat = 1 from rfl] at hx347_2)
             (try rw [show 1 * 3 = 3 from rfl] at hx347_2)
             replace p347 := eq_true p347
             replace q347 := eq_true q347
             have p349 : 0 ≤ (1 : Int) := (by omega)
             have q349 : 1 < (y329.length : Int) := of_decide_eq_true (by first | (with_reducible assumption) | assumption)
             obtain ⟨ad349, e349, hx349_0, hx349_1, hx349_2⟩ := at_T41 (Kd.R_reads' HO331.out).2.2 1 p349 q349
             obtain rfl : ad346 = ad349 := (by injection e349)
             (try simp only [show (1 : Int).toNat = 1 from rfl, Nat.reduceMul, Nat.reduceEqDiff, Go.Addr.add, ↓reduceIte] at hx349_0)
             (try simp only [show (1 : Int).toNat = 1 from rfl, Nat.reduceMul, Nat.reduceEqDiff, Go.Addr.add, ↓reduceIte] at hx349_1)
             (try simp only [show (1 : Int).toNat = 1 from rfl, Nat.reduceMul, Nat.reduceEqDiff, Go.Addr.add, ↓reduceIte] at hx349_2)
             have qi349 : (1 < y329.length) = True := eq_true (by omega)
             (try rw [show ((1 : Int)).toNat = 1 from rfl] at hx349_0)
             (try rw [show 1 * 3 = 3 from rfl] at hx349_0)
             (try rw [show ((1 : Int)).toNat = 1 from rfl] at hx349_1)
             (try rw [show 1 * 3 = 3 from rfl] at hx349_1)
             (try rw [show ((1 : Int)).toNat = 1 from rfl] at hx349_2)
             (try rw [show 1 * 3 = 3 from rfl] at hx349_2)
             replace p349 := eq_true p349
             replace q349 := eq_true q349
             refine start_ (n := 43) (S := fun w' => w'.cell? ad346 = some (.int .i64 ((rd_T41 y329 0).f0)) ∧ w'.cell? ⟨ad346.block, ad346.off + 1, none⟩ = some (.int .i64 ((rd_T41 y329 0).f1.f0)) ∧ w'.cell? ⟨ad346.block, ad346.off + 2, none⟩ = some (.int .i64 ((rd_T41 y329 0).f1.f1)) ∧ w'.cell? ⟨ad346.block, ad346.off + 3, none⟩ = some (.int .i64 ((rd_T41 y329 1).f0)) ∧ w'.cell? ⟨ad346.block, ad346.off + 3 + 1, none⟩ = some (.int .i64 ((rd_T41 y329 1).f1.f0)) ∧ w'.cell? ⟨ad346.block, ad346.off + 3 + 2, none⟩ = some (.int .i64 ((rd_T41 y329 1).f1.f1)) ∧ w'.cell? ⟨ad346.block, ad346.off + 3, none⟩ = some (.int .i64 ((rd_T41 y329 1).f0)) ∧ w'.cell? ⟨ad346.block, ad346.off + 3 + 1, none⟩ = some (.int .i64 ((rd_T41 y329 1).f1.f0)) ∧ w'.cell? ⟨ad346.block, ad346.off + 3 + 2, none⟩ = some (.int .i64 ((rd_T41 y329 1).f1.f1))) (ds := []) #[false, false, false, false, false, false, false, false, false, false, false, false, false, false, false, false, false, false, false, false, false, false, false, false, false, false, false, false, false, false, false, false, false, false, false, false, false, false, false, false, false, false, false] (by kernel_rfl) rfl rfl ⟨hx346_0, hx346_1, hx346_2, hx347_0, hx347_1, hx347_2, hx349_0, hx349_1, hx349_2⟩ (fun hHeld => ?_); refine with_tabW marigraphlaw22_LerpNumbers.tab17 marigraphlaw22_LerpNumbers.bits17 (fun HT_ HW_ => ?_)
             generalize w67.drew = w69 at HO_1 HO331 HO334 HB hx346_0 hx346_1 hx346_2 hx347_0 hx347_1 hx347_2 hx349_0 hx349_1 hx349_2 hHeld ⊢
             refine pA 0 (some 51) (bA 43 1) HT_.out ?_
             refine one_ (i := 1) (N := some 52) (bA 43 3) rfl rfl (one_of HT_.out (by kernel_rfl)) (by decide) (fun K hK => ?_)
             refine goes_ Try.func15 (by kernel_rfl) rfl #[.slice (some ad346) y329.length co70, .int .i64 5] (by rfl) rfl rfl argN ?_
             with_reducible refine (marigraphlaw22_at.calls k1 _ _ y329 5 true _ ?side1 ?side2 A27.out).mono ?_
             (case side1 => repeat (first | exact (Kd.R_reads' HO331.out).2.2 | (with_reducible refine Kd.C_alloc ?_ _) | (with_reducible refine Kd.C_drewN ?_ _) | (with_reducible refine Kd.C_drew ?_)))
             (case side2 => exact (Kd.R_reads' HO331.out).2.1)
             rintro e w71 ⟨rfl, hb⟩
             have HS0_ := (hb.cell (World.block_lt_of_cell? _ _ (hHeld.1))).trans (hHeld.1)
             have HS1_ := (hb.cell (World.block_lt_of_cell? _ _ (hHeld.2.1))).trans (hHeld.2.1)
             have HS2_ := (hb.cell (World.block_lt_of_cell? _ _ (hHeld.2.2.1))).trans (hHeld.2.2.1)
             have HS3_ := (hb.cell (World.block_lt_of_cell? _ _ (hHeld.2.2.2.1))).trans (hHeld.2.2.2.1)
             have HS4_ := (hb.cell (World.block_lt_of_cell? _ _ (hHeld.2.2.2.2.1))).trans (hHeld.2.2.2.2.1)
             have HS5_ := (hb.cell (World.block_lt_of_cell? _ _ (hHeld.2.2.2.2.2.1))).trans (hHeld.2.2.2.2.2.1)
             have HS6_ := (hb.cell (World.block_lt_of_cell? _ _ (hHeld.2.2.2.2.2.2.1))).trans (hHeld.2.2.2.2.2.2.1)
             have HS7_ := (hb.cell (World.block_lt_of_cell? _ _ (hHeld.2.2.2.2.2.2.2.1))).trans (hHeld.2.2.2.2.2.2.2.1)
             have HS8_ := (hb.cell (World.block_lt_of_cell? _ _ (hHeld.2.2.2.2.2.2.2.2))).trans (hHeld.2.2.2.2.2.2.2.2)
             refine ⟨_, rfl, ?_⟩
             have n0_ := Aside0.mk (Kd.R_below (rowN HO_1.out) hb)
             have n1_ := Aside0.mk (Kd.R_below (rowN HO331.out) hb)
             have n2_ := Aside0.mk (Kd.R_below (rowN HO334.out) hb)
             have n3_ := Aside0.mk (below_step (belN HB.out) hb)
             clear HO_1
             clear HO331
             clear HO334
             clear HB
             have HO_1 := n0_
             have HO331 := n1_
             have HO334 := n2_
             have HB := n3_
             clear n0_ n1_ n2_ n3_
             (try clear hb)
             (try clear hk)
             obtain ⟨Ao72, co72, eo72⟩ := Kd.R_slice HO334.out
             (first | subst eo72 | (injection eo72 with f1_ f2_ f3_; have f4_ := f1_.symm; have f5_ := f3_.symm; clear f1_ f2_ f3_; subst f4_; subst f5_))
             refine hK.out _ _ ⟨HS0_, HS1_, HS2_, HS3_, HS4_, HS5_, HS6_, HS7_, HS8_⟩ (fun hHeld => ?_)
             clear hK K
             refine norm_ (a' := ?_) ?_ ?_
             rotate_left
             ·show Act.put _ (some 52) _ = _
              simp only [Act.put, List.setIfInBounds_toArray, List.set_cons_zero, List.set_cons_succ, i64_w, i32_w]
              rfl
             refine pA 2 (some 53) (bA 43 7) HT_.out ?_
             refine pA 3 (some 54) (bA 43 15) HT_.out ?_
             refine one_ (i := 4) (N := some 55) (bA 43 31) rfl rfl (one_of HT_.out (by kernel_rfl)) (by decide) (fun K hK => ?_)
             refine goes_ Try.func15 (by kernel_rfl) rfl #[.slice Ao72 y332.length co72, .int .i64 5] (by rfl) rfl rfl argN ?_
             with_reducible refine (marigraphlaw22_at.calls k1 _ _ y332 5 true _ ?side1 ?side2 A29.out).mono ?_
             (case side1 => repeat (first | exact (Kd.R_reads' HO334.out).2.2 | (with_reducible refine Kd.C_alloc ?_ _) | (with_reducible refine Kd.C_drewN ?_ _) | (with_reducible refine Kd.C_drew ?_)))
             (case side2 => exact (Kd.R_reads' HO334.out).2.1)
             rintro e w73 ⟨rfl, hb⟩
             have HS0_ := (hb.cell (World.block_lt_of_cell? _ _ (hHeld.1))).trans (hHeld.1)
             have HS1_ := (hb.cell (World.block_lt_of_cell? _ _ (hHeld.2.1))).trans (hHeld.2.1)
             have HS2_ := (hb.cell (World.block_lt_of_cell? _ _ (hHeld.2.2.1))).trans (hHeld.2.2.1)
             have HS3_ := (hb.cell (World.block_lt_of_cell? _ _ (hHeld.2.2.2.1))).trans (hHeld.2.2.2.1)
             have HS4_ := (hb.cell (World.block_lt_of_cell? _ _ (hHeld.2.2.2.2.1))).trans (hHeld.2.2.2.2.1)
             have HS5_ := (hb.cell (World.block_lt_of_cell? _ _ (hHeld.2.2.2.2.2.1))).trans (hHeld.2.2.2.2.2.1)
             have HS6_ := (hb.cell (World.block_lt_of_cell? _ _ (hHeld.2.2.2.2.2.2.1))).trans (hHeld.2.2.2.2.2.2.1)
             have HS7_ := (hb.cell (World.block_lt_of_cell? _ _ (hHeld.2.2.2.2.2.2.2.1))).trans (hHeld.2.2.2.2.2.2.2.1)
             have HS8_ := (hb.cell (World.block_lt_of_cell? _ _ (hHeld.2.2.2.2.2.2.2.2))).trans (hHeld.2.2.2.2.2.2.2.2)
             refine ⟨_, rfl, ?_⟩
             have n0_ := Aside0.mk (Kd.R_below (rowN HO_1.out) hb)
             have n1_ := Aside0.mk (Kd.R_below (rowN HO331.out) hb)
             have n2_ := Aside0.mk (Kd.R_below (rowN HO334.out) hb)
             have n3_ := Aside0.mk (below_step (belN HB.out) hb)
             clear HO_1
             clear HO331
             clear HO334
             clear HB
             have HO_1 := n0_
             have HO331 := n1_
             have HO334 := n2_
             have HB := n3_
             clear n0_ n1_ n2_ n3_
             (try clear hb)
             (try clear hk)
             refine hK.out _ _ ⟨HS0_, HS1_, HS2_, HS3_, HS4_, HS5_, HS6_, HS7_, HS8_⟩ (fun hHeld => ?_)
             clear hK K
             refine norm_ (a' := ?_) ?_ ?_
             rotate_left
             ·show Act.put _ (some 55) _ = _
              simp only [Act.put, List.setIfInBounds_toArray, List.set_cons_zero, List.set_cons_succ, i64_w, i32_w]
              rfl
             refine pA 5 (some 56) (bA 43 63) HT_.out ?_
             refine pA 6 (some 57) (bA 43 127) HT_.out ?_
             refine pA 7 (some 58) (bA 43 255) HT_.out ?_
             refine one_ (i := 8) (N := some 59) (bA 43 511) rfl rfl (one_of HT_.out (by kernel_rfl)) (by decide) (fun K hK => ?_)
             refine goes_ Try.func15 (by kernel_rfl) rfl #[.slice Ao72 y332.length co72, .int .i64 1431655765] (by rfl) rfl rfl argN ?_
             with_reducible refine (marigraphlaw22_at.calls k1 _ _ y332 1431655765 true _ ?side1 ?side2 A31.out).mono ?_
             (case side1 => repeat (first | exact (Kd.R_reads' HO334.out).2.2 | (with_reducible refine Kd.C_alloc ?_ _) | (with_reducible refine Kd.C_drewN ?_ _) | (with_reducible refine Kd.C_drew ?_)))
             (case side2 => exact (Kd.R_reads' HO334.out).2.1)
             rintro e w74 ⟨rfl, hb⟩
             have HS0_ := (hb.cell (World.block_lt_of_cell? _ _ (hHeld.1))).trans (hHeld.1)
             have HS1_ := (hb.cell (World.block_lt_of_cell? _ _ (hHeld.2.1))).trans (hHeld.2.1)
             have HS2_ := (hb.cell (World.block_lt_of_cell? _ _ (hHeld.2.2.1))).trans (hHeld.2.2.1)
             have HS3_ := (hb.cell (World.block_lt_of_cell? _ _ (hHeld.2.2.2.1))).trans (hHeld.2.2.2.1)
             have HS4_ := (hb.cell (World.block_lt_of_cell? _ _ (hHeld.2.2.2.2.1))).trans (hHeld.2.2.2.2.1)
             have HS5_ := (hb.cell (World.block_lt_of_cell? _ _ (hHeld.2.2.2.2.2.1))).trans (hHeld.2.2.2.2.2.1)
             have HS6_ := (hb.cell (World.block_lt_of_cell? _ _ (hHeld.2.2.2.2.2.2.1))).trans (hHeld.2.2.2.2.2.2.1)
             have HS7_ := (hb.cell (World.block_lt_of_cell? _ _ (hHeld.2.2.2.2.2.2.2.1))).trans (hHeld.2.2.2.2.2.2.2.1)
             have HS8_ := (hb.cell (World.block_lt_of_cell? _ _ (hHeld.2.2.2.2.2.2.2.2))).trans (hHeld.2.2.2.2.2.2.2.2)
             refine ⟨_, rfl, ?_⟩
             have n0_ := Aside0.mk (Kd.R_below (rowN HO_1.out) hb)
             have n1_ := Aside0.mk (Kd.R_below (rowN HO331.out) hb)
             have n2_ := Aside0.mk (Kd.R_below (rowN HO334.out) hb)
             have n3_ := Aside0.mk (below_step (belN HB.out) hb)
             clear HO_1
             clear HO331
             clear HO334
             clear HB
             have HO_1 := n0_
             have HO331 := n1_
             have HO334 := n2_
             have HB := n3_
             clear n0_ n1_ n2_ n3_
             (try clear hb)
             (try clear hk)
             refine hK.out _ _ ⟨HS0_, HS1_, HS2_, HS3_, HS4_, HS5_, HS6_, HS7_, HS8_⟩ (fun hHeld => ?_)
             clear hK K
             refine norm_ (a' := ?_) ?_ ?_
             rotate_left
             ·show Act.put _ (some 59) _ = _
              simp only [Act.put, List.setIfInBounds_toArray, List.set_cons_zero, List.set_cons_succ, i64_w, i32_w]
              rfl
             refine pA 9 (some 60) (bA 43 1023) HT_.out ?_
             refine pA 10 (some 61) (bA 43 2047) HT_.out ?_
             refine pA 11 (some 62) (bA 43 4095) HT_.out ?_
             refine one_ (i := 12) (N := some 63) (bA 43 8191) rfl rfl (one_of HT_.out (by kernel_rfl)) (by decide) (fun K hK => ?_)
             refine Kd.R_lit_step k41 _ 41 ?hg (N := 63) ?hd (xs := ([(⟨1, (⟨0, 0⟩ : S39)⟩ : S41)] : List (S41))) (inner := [.int .i64 1, .int .i64 0, .int .i64 0]) (ok := fun _ => True) (okp := fun _ => True) ?hr ?hp (fun _ hk => hk) trivial (Below.refl _ _) (Nat.le_refl _) (by simp) ?_; (case hd => rfl); (case hg => rfl); (case hr => first | (go_simp; done) | (go_simp; rfl)); (case hp => exact (Reps.c3 (show Kd.M k41 _ _ _ (⟨1, (⟨0, 0⟩ : S39)⟩ : S41) [.int .i64 1, .int .i64 0, .int .i64 0] from (k41_mkM _ _ _ (⟨1, (⟨0, 0⟩ : S39)⟩ : S41) )) (Reps.none _ _)))
             intro v339 w75 ho76 hb hg_ hnew_
             have HS0_ := (hb.cell (World.block_lt_of_cell? _ _ (hHeld.1))).trans (hHeld.1)
             have HS1_ := (hb.cell (World.block_lt_of_cell? _ _ (hHeld.2.1))).trans (hHeld.2.1)
             have HS2_ := (hb.cell (World.block_lt_of_cell? _ _ (hHeld.2.2.1))).trans (hHeld.2.2.1)
             have HS3_ := (hb.cell (World.block_lt_of_cell? _ _ (hHeld.2.2.2.1))).trans (hHeld.2.2.2.1)
             have HS4_ := (hb.cell (World.block_lt_of_cell? _ _ (hHeld.2.2.2.2.1))).trans (hHeld.2.2.2.2.1)
             have HS5_ := (hb.cell (World.block_lt_of_cell? _ _ (hHeld.2.2.2.2.2.1))).trans (hHeld.2.2.2.2.2.1)
             have HS6_ := (hb.cell (World.block_lt_of_cell? _ _ (hHeld.2.2.2.2.2.2.1))).trans (hHeld.2.2.2.2.2.2.1)
             have HS7_ := (hb.cell (World.block_lt_of_cell? _ _ (hHeld.2.2.2.2.2.2.2.1))).trans (hHeld.2.2.2.2.2.2.2.1)
             have HS8_ := (hb.cell (World.block_lt_of_cell? _ _ (hHeld.2.2.2.2.2.2.2.2))).trans (hHeld.2.2.2.2.2.2.2.2)
             clear hg_ hnew_
             (first | rw [← Ny338.out] at ho76 | (simp only [Int.reduceToNat] at ho76; rw [← Ny338.out] at ho76))
             have n0_ := Aside0.mk (Kd.R_elder' (rowN HO_1.out) (Kd.R_base ho76) hb)
             have n1_ := Aside0.mk (Kd.R_elder' (rowN HO331.out) (Kd.R_base ho76) hb)
             have n2_ := Aside0.mk (Kd.R_elder' (rowN HO334.out) (Kd.R_base ho76) hb)
             have n3_ := Aside0.mk (Kd.R_lower (Kd.R_new' (Kd.R_new' (Kd.R_new' ho76 (Kd.R_lt (rowN HO_1.out))) (Kd.R_lt (rowN HO331.out))) (Kd.R_lt (rowN HO334.out))) (below_size (belN HB.out)))
             have n4_ := Aside0.mk (below_step (belN HB.out) hb)
             clear HO_1
             clear HO331
             clear HO334
             clear HB
             have HO_1 := n0_
             have HO331 := n1_
             have HO334 := n2_
             have HO340 := n3_
             have HB := n4_
             clear n0_ n1_ n2_ n3_ n4_
             clear hb ho76
             obtain ⟨Ao77, co77, eo77⟩ := Kd.R_slice HO340.out
             (first | subst eo77 | (injection eo77 with f1_ f2_ f3_; have f4_ := f1_.symm; have f5_ := f3_.symm; clear f1_ f2_ f3_; subst f4_; subst f5_))
             refine hK.out _ _ ⟨HS0_, HS1_, HS2_, HS3_, HS4_, HS5_, HS6_, HS7_, HS8_⟩ (fun hHeld => ?_)
             clear hK K
             refine norm_ (a' := ?_) ?_ ?_
             rotate_left
             ·show Act.put _ (some 63) _ = _
              simp only [Act.put, List.setIfInBounds_toArray, List.set_cons_zero, List.set_cons_succ, i64_w, i32_w]
              rfl
             refine one_ (i := 13) (N := some 64) (bA 43 16383) rfl rfl (one_of HT_.out (by kernel_rfl)) (by decide) (fun K hK => ?_)
             refine goes_ Try.func15 (by kernel_rfl) rfl #[.slice Ao77 y338.length co77, .int .i64 1] (by rfl) rfl rfl argN ?_
             with_reducible refine (marigraphlaw22_at.calls k1 _ _ y338 1 true _ ?side1 ?side2 A33.out).mono ?_
             (case side1 => repeat (first | exact (Kd.R_reads' HO340.out).2.2 | (with_reducible refine Kd.C_alloc ?_ _) | (with_reducible refine Kd.C_drewN ?_ _) | (with_reducible refine Kd.C_drew ?_)))
             (case side2 => exact (Kd.R_reads' HO340.out).2.1)
             rintro e w78 ⟨rfl, hb⟩
             have HS0_ := (hb.cell (World.block_lt_of_cell? _ _ (hHeld.1))).trans (hHeld.1)
             have HS1_ := (hb.cell (World.block_lt_of_cell? _ _ (hHeld.2.1))).trans (hHeld.2.1)
             have HS2_ := (hb.cell (World.block_lt_of_cell? _ _ (hHeld.2.2.1))).trans (hHeld.2.2.1)
             have HS3_ := (hb.cell (World.block_lt_of_cell? _ _ (hHeld.2.2.2.1))).trans (hHeld.2.2.2.1)
             have HS4_ := (hb.cell (World.block_lt_of_cell? _ _ (hHeld.2.2.2.2.1))).trans (hHeld.2.2.2.2.1)
             have HS5_ := (hb.cell (World.block_lt_of_cell? _ _ (hHeld.2.2.2.2.2.1))).trans (hHeld.2.2.2.2.2.1)
             have HS6_ := (hb.cell (World.block_lt_of_cell? _ _ (hHeld.2.2.2.2.2.2.1))).trans (hHeld.2.2.2.2.2.2.1)
             have HS7_ := (hb.cell (World.block_lt_of_cell? _ _ (hHeld.2.2.2.2.2.2.2.1))).trans (hHeld.2.2.2.2.2.2.2.1)
             have HS8_ := (hb.cell (World.block_lt_of_cell? _ _ (hHeld.2.2.2.2.2.2.2.2))).trans (hHeld.2.2.2.2.2.2.2.2)
             refine ⟨_, rfl, ?_⟩
             have n0_ := Aside0.mk (Kd.R_below (rowN HO_1.out) hb)
             have n1_ := Aside0.mk (Kd.R_below (rowN HO331.out) hb)
             have n2_ := Aside0.mk (Kd.R_below (rowN HO334.out) hb)
             have n3_ := Aside0.mk (Kd.R_below (rowN HO340.out) hb)
             have n4_ := Aside0.mk (below_step (belN HB.out) hb)
             clear HO_1
             clear HO331
             clear HO334
             clear HO340
             clear HB
             have HO_1 := n0_
             have HO331 := n1_
             have HO334 := n2_
             have HO340 := n3_
             have HB := n4_
             clear n0_ n1_ n2_ n3_ n4_
             (try clear hb)
             (try clear hk)
             refine hK.out _ _ ⟨HS0_, HS1_, HS2_, HS3_, HS4_, HS5_, HS6_, HS7_, HS8_⟩ (fun hHeld => ?_)
             clear hK K
             refine norm_ (a' := ?_) ?_ ?_
             rotate_left
             ·show Act.put _ (some 64) _ = _
              simp only [Act.put, List.setIfInBounds_toArray, List.set_cons_zero, List.set_cons_succ, i64_w, i32_w]
              rfl
             refine pA 14 (some 65) (bA 43 32767) HT_.out ?_
             refine pA 15 (some 66) (bA 43 65535) HT_.out ?_
             refine pA 16 (some 67) (bA 43 131071) HT_.out ?_
             refine pA 17 (some 68) (bA 43 262143) HT_.out ?_
             refine pA 18 (some 69) (bA 43 524287) HT_.out ?_
             refine pA 19 (some 70) (bA 43 1048575) HT_.out ?_
             refine one_ (i := 20) (N := some 71) (bA 43 2097151) rfl rfl (one_of HT_.out (by kernel_rfl)) (by decide) (fun K hK => ?_)
             refine Kd.R_lit_step k41 _ 41 ?hg (N := 71) ?hd (xs := ([(⟨5, (⟨0, 1⟩ : S39)⟩ : S41), (⟨4, (⟨0, 1⟩ : S39)⟩ : S41)] : List (S41))) (inner := [.int .i64 5, .int .i64 0, .int .i64 1, .int .i64 4, .int .i64 0, .int .i64 1]) (ok := fun _ => True) (okp := fun _ => True) ?hr ?hp (fun _ hk => hk) trivial (Below.refl _ _) (Nat.le_refl _) (by simp) ?_; (case hd => rfl); (case hg => rfl); (case hr => first | (go_simp; done) | (go_simp; rfl)); (case hp => exact (Reps.c3 (show Kd.M k41 _ _ _ (⟨5, (⟨0, 1⟩ : S39)⟩ : S41) [.int .i64 5, .int .i64 0, .int .i64 1] from (k41_mkM _ _ _ (⟨5, (⟨0, 1⟩ : S39)⟩ : S41) )) (Reps.c3 (show Kd.M k41 _ _ _ (⟨4, (⟨0, 1⟩ : S39)⟩ : S41) [.int .i64 4, .int .i64 0, .int .i64 1] from (k41_mkM _ _ _ (⟨4, (⟨0, 1⟩ : S39)⟩ : S41) )) (Reps.none _ _))))
             intro v343 w79 ho80 hb hg_ hnew_
             have HS0_ := (hb.cell (World.block_lt_of_cell? _ _ (hHeld.1))).trans (hHeld.1)
             have HS1_ := (hb.cell (World.block_lt_of_cell? _ _ (hHeld.2.1))).trans (hHeld.2.1)
             have HS2_ := (hb.cell (World.block_lt_of_cell? _ _ (hHeld.2.2.1))).trans (hHeld.2.2.1)
             have HS3_ := (hb.cell (World.block_lt_of_cell? _ _ (hHeld.2.2.2.1))).trans (hHeld.2.2.2.1)
             have HS4_ := (hb.cell (World.block_lt_of_cell? _ _ (hHeld.2.2.2.2.1))).trans (hHeld.2.2.2.2.1)
             have HS5_ := (hb.cell (World.block_lt_of_cell? _ _ (hHeld.2.2.2.2.2.1))).trans (hHeld.2.2.2.2.2.1)
             have HS6_ := (hb.cell (World.block_lt_of_cell? _ _ (hHeld.2.2.2.2.2.2.1))).trans (hHeld.2.2.2.2.2.2.1)
             have HS7_ := (hb.cell (World.block_lt_of_cell? _ _ (hHeld.2.2.2.2.2.2.2.1))).trans (hHeld.2.2.2.2.2.2.2.1)
             have HS8_ := (hb.cell (World.block_lt_of_cell? _ _ (hHeld.2.2.2.2.2.2.2.2))).trans (hHeld.2.2.2.2.2.2.2.2)
             clear hg_ hnew_
             (first | rw [← Ny342.out] at ho80 | (simp only [Int.reduceToNat] at ho80; rw [← Ny342.out] at ho80))
             have n0_ := Aside0.mk (Kd.R_elder' (rowN HO_1.out) (Kd.R_base ho80) hb)
             have n1_ := Aside0.mk (Kd.R_elder' (rowN HO331.out) (Kd.R_base ho80) hb)
             have n2_ := Aside0.mk (Kd.R_elder' (rowN HO334.out) (Kd.R_base ho80) hb)
             have n3_ := Aside0.mk (Kd.R_elder' (rowN HO340.out) (Kd.R_base ho80) hb)
             have n4_ := Aside0.mk (Kd.R_lower (Kd.R_new' (Kd.R_new' (Kd.R_new' (Kd.R_new' ho80 (Kd.R_lt (rowN HO_1.out))) (Kd.R_lt (rowN HO331.out))) (Kd.R_lt (rowN HO334.out))) (Kd.R_lt (rowN HO340.out))) (below_size (belN HB.out)))
             have n5_ := Aside0.mk (below_step (belN HB.out) hb)
             clear HO_1
             clear HO331
             clear HO334
             clear HO340
             clear HB
             have HO_1 := n0_
             have HO331 := n1_
             have HO334 := n2_
             have HO340 := n3_
             have HO344 := n4_
             have HB := n5_
             clear n0_ n1_ n2_ n3_ n4_ n5_
             clear hb ho80
             obtain ⟨Ao81, co81, eo81⟩ := Kd.R_slice HO344.out
             (first | subst eo81 | (injection eo81 with f1_ f2_ f3_; have f4_ := f1_.symm; have f5_ := f3_.symm; clear f1_ f2_ f3_; subst f4_; subst f5_))
             refine hK.out _ _ ⟨HS0_, HS1_, HS2_, HS3_, HS4_, HS5_, HS6_, HS7_, HS8_⟩ (fun hHeld => ?_)
             clear hK K
             refine norm_ (a' := ?_) ?_ ?_
             rotate_left
             ·show Act.put _ (some 71) _ = _
              simp only [Act.put, List.setIfInBounds_toArray, List.set_cons_zero, List.set_cons_succ, i64_w, i32_w]
              rfl
             refine one_ (i := 21) (N := some 72) (bA 43 4194303) rfl rfl (one_of HT_.out (by kernel_rfl)) (by decide) (fun K hK => ?_)
             refine goes_ Try.func15 (by kernel_rfl) rfl #[.slice Ao81 y342.length co81, .int .i64 5] (by rfl) rfl rfl argN ?_
             with_reducible refine (marigraphlaw22_at.calls k1 _ _ y342 5 true _ ?side1 ?side2 A35.out).mono ?_
             (case side1 => repeat (first | exact (Kd.R_reads' HO344.out).2.2 | (with_reducible refine Kd.C_alloc ?_ _) | (with_reducible refine Kd.C_drewN ?_ _) | (with_reducible refine Kd.C_drew ?_)))
             (case side2 => exact (Kd.R_reads' HO344.out).2.1)
             rintro e w82 ⟨rfl, hb⟩
             have HS0_ := (hb.cell (World.block_lt_of_cell? _ _ (hHeld.1))).trans (hHeld.1)
             have HS1_ := (hb.cell (World.block_lt_of_cell? _ _ (hHeld.2.1))).trans (hHeld.2.1)
             have HS2_ := (hb.cell (World.block_lt_of_cell? _ _ (hHeld.2.2.1))).trans (hHeld.2.2.1)
             have HS3_ := (hb.cell (World.block_lt_of_cell? _ _ (hHeld.2.2.2.1))).trans (hHeld.2.2.2.1)
             have HS4_ := (hb.cell (World.block_lt_of_cell? _ _ (hHeld.2.2.2.2.1))).trans (hHeld.2.2.2.2.1)
             have HS5_ := (hb.cell (World.block_lt_of_cell? _ _ (hHeld.2.2.2.2.2.1))).trans (hHeld.2.2.2.2.2.1)
             have HS6_ := (hb.cell (World.block_lt_of_cell? _ _ (hHeld.2.2.2.2.2.2.1))).trans (hHeld.2.2.2.2.2.2.1)
             have HS7_ := (hb.cell (World.block_lt_of_cell? _ _ (hHeld.2.2.2.2.2.2.2.1))).trans (hHeld.2.2.2.2.2.2.2.1)
             have HS8_ := (hb.cell (World.block_lt_of_cell? _ _ (hHeld.2.2.2.2.2.2.2.2))).trans (hHeld.2.2.2.2.2.2.2.2)
             refine ⟨_, rfl, ?_⟩
             have n0_ := Aside0.mk (Kd.R_below (rowN HO_1.out) hb)
             have n1_ := Aside0.mk (Kd.R_below (rowN HO331.out) hb)
             have n2_ := Aside0.mk (Kd.R_below (rowN HO334.out) hb)
             have n3_ := Aside0.mk (Kd.R_below (rowN HO340.out) hb)
             have n4_ := Aside0.mk (Kd.R_below (rowN HO344.out) hb)
             have n5_ := Aside0.mk (below_step (belN HB.out) hb)
             clear HO_1
             clear HO331
             clear HO334
             clear HO340
             clear HO344
             clear HB
             have HO_1 := n0_
             have HO331 := n1_
             have HO334 := n2_
             have HO340 := n3_
             have HO344 := n4_
             have HB := n5_
             clear n0_ n1_ n2_ n3_ n4_ n5_
             (try clear hb)
             (try clear hk)
             refine hK.out _ _ ⟨HS0_, HS1_, HS2_, HS3_, HS4_, HS5_, HS6_, HS7_, HS8_⟩ (fun hHeld => ?_)
             clear hK K
             refine norm_ (a' := ?_) ?_ ?_
             rotate_left
             ·show Act.put _ (some 72) _ = _
              simp only [Act.put, List.setIfInBounds_toArray, List.set_cons_zero, List.set_cons_succ, i64_w, i32_w]
              rfl
             refine pA 22 (some 73) (bA 43 8388607) HT_.out ?_
             refine pA 23 (some 74) (bA 43 16777215) HT_.out ?_
             refine pA 24 (some 75) (bA 43 33554431) HT_.out ?_
             refine pA 25 (some 76) (bA 43 67108863) HT_.out ?_
             refine pA 27 (some 78) (bA 43 201326591) HT_.out ?_
             refine pA 28 (some 79) (bA 43 469762047) HT_.out ?_
             refine take_ (i := 26) (N := some 77) (v := ?_) (a' := ?_) (bA 43 536870911) rfl rfl (take_ofW HT_.out HW_.out (by kernel_rfl)) (fun _ _ _ h => h) (Or.inl ⟨by rfl, ?_⟩) hHeld ?_ ?_
             rotate_left
             ·rintro w' ⟨s0, s1, s2, s3, s4, s5, s6, s7, s8⟩
              go_simp
              with_reducible rfl
             rotate_left
             ·simp only [Act.put, List.setIfInBounds_toArray, List.set_cons_zero, List.set_cons_succ, i64_w, i32_w]
              rfl
             refine take_ (i := 29) (N := some 80) (v := ?_) (a' := ?_) (bA 43 1073741823) rfl rfl (take_ofW HT_.out HW_.out (by kernel_rfl)) (fun _ _ _ h => h) (Or.inl ⟨by rfl, ?_⟩) hHeld ?_ ?_
             rotate_left
             ·rintro w' ⟨s0, s1, s2, s3, s4, s5, s6, s7, s8⟩
              go_simp
              with_reducible rfl
             rotate_left
             ·simp only [Act.put, List.setIfInBounds_toArray, List.set_cons_zero, List.set_cons_succ, i64_w, i32_w]
              rfl
             refine one_ (i := 30) (N := some 81) (bA 43 2147483647) rfl rfl (one_of HT_.out (by kernel_rfl)) (by decide) (fun K hK => ?_)
             refine goes_ Try.func16 (by kernel_rfl) rfl #[.agg #[.int .i64 ((rd_T41 y329 0).f0), .int .i64 ((rd_T41 y329 0).f1.f0), .int .i64 ((rd_T41 y329 0).f1.f1)], .agg #[.int .i64 ((rd_T41 y329 1).f0), .int .i64 ((rd_T41 y329 1).f1.f0), .int .i64 ((rd_T41 y329 1).f1.f1)], .int .i64 7] (by rfl) rfl rfl argN ?_
             with_reducible refine (marigraphlaw22_between.calls k1 ((rd_T41 y329 0).f0) ((rd_T41 y329 0).f1.f0) ((rd_T41 y329 0).f1.f1) ((rd_T41 y329 1).f0) ((rd_T41 y329 1).f1.f0) ((rd_T41 y329 1).f1.f1) 7 true _ A39.out).mono ?_
             rintro e w83 ⟨rfl, hb⟩
             have HS0_ := (hb.cell (World.block_lt_of_cell? _ _ (hHeld.1))).trans (hHeld.1)
             have HS1_ := (hb.cell (World.block_lt_of_cell? _ _ (hHeld.2.1))).trans (hHeld.2.1)
             have HS2_ := (hb.cell (World.block_lt_of_cell? _ _ (hHeld.2.2.1))).trans (hHeld.2.2.1)
             have HS3_ := (hb.cell (World.block_lt_of_cell? _ _ (hHeld.2.2.2.1))).trans (hHeld.2.2.2.1)
             have HS4_ := (hb.cell (World.block_lt_of_cell? _ _ (hHeld.2.2.2.2.1))).trans (hHeld.2.2.2.2.1)
             have HS5_ := (hb.cell (World.block_lt_of_cell? _ _ (hHeld.2.2.2.2.2.1))).trans (hHeld.2.2.2.2.2.1)
             have HS6_ := (hb.cell (World.block_lt_of_cell? _ _ (hHeld.2.2.2.2.2.2.1))).trans (hHeld.2.2.2.2.2.2.1)
             have HS7_ := (hb.cell (World.block_lt_of_cell? _ _ (hHeld.2.2.2.2.2.2.2.1))).trans (hHeld.2.2.2.2.2.2.2.1)
             have HS8_ := (hb.cell (World.block_lt_of_cell? _ _ (hHeld.2.2.2.2.2.2.2.2))).trans (hHeld.2.2.2.2.2.2.2.2)
             refine ⟨_, rfl, ?_⟩
             have n0_ := Aside0.mk (Kd.R_below (rowN HO_1.out) hb)
             have n1_ := Aside0.mk (Kd.R_below (rowN HO331.out) hb)
             have n2_ := Aside0.mk (Kd.R_below (rowN HO334.out) hb)
             have n3_ := Aside0.mk (Kd.R_below (rowN HO340.out) hb)
             have n4_ := Aside0.mk (Kd.R_below (rowN HO344.out) hb)
             have n5_ := Aside0.mk (below_step (belN HB.out) hb)
             clear HO_1
             clear HO331
             clear HO334
             clear HO340
             clear HO344
             clear HB
             have HO_1 := n0_
             have HO331 := n1_
             have HO334 := n2_
             have HO340 := n3_
             have HO344 := n4_
             have HB := n5_
             clear n0_ n1_ n2_ n3_ n4_ n5_
             (try clear hb)
             (try clear hk)
             refine hK.out _ _ ⟨HS0_, HS1_, HS2_, HS3_, HS4_, HS5_, HS6_, HS7_, HS8_⟩ (fun hHeld => ?_)
             clear hK K
             refine norm_ (a' := ?_) ?_ ?_
             rotate_left
             ·show Act.put _ (some 81) _ = _
              simp only [Act.put, List.setIfInBounds_toArray, List.set_cons_zero, List.set_cons_succ, i64_w, i32_w]
              rfl
             refine pA 31 (some 82) (bA 43 4294967295) HT_.out ?_
             refine pA 32 (some 83) (bA 43 8589934591) HT_.out ?_
             refine pA 33 (some 84) (bA 43 17179869183) HT_.out ?_
             refine pA 34 (some 85) (bA 43 34359738367) HT_.out ?_
             refine pA 35 (some 86) (bA 43 68719476735) HT_.out ?_
             refine take_ (i := 36) (N := some 87) (v := ?_) (a' := ?_) (bA 43 137438953471) rfl rfl (take_ofW HT_.out HW_.out (by kernel_rfl)) (fun _ _ _ h => h) (Or.inl ⟨by rfl, ?_⟩) hHeld ?_ ?_
             rotate_left
             ·rintro w' ⟨s0, s1, s2, s3, s4, s5, s6, s7, s8⟩
              go_simp
              with_reducible rfl
             rotate_left
             ·simp only [Act.put, List.setIfInBounds_toArray, List.set_cons_zero, List.set_cons_succ, i64_w, i32_w]
              rfl
             refine one_ (i := 37) (N := some 88) (bA 43 274877906943) rfl rfl (one_of HT_.out (by kernel_rfl)) (by decide) (fun K hK => ?_)
             refine goes_ Try.func16 (by kernel_rfl) rfl #[.agg #[.int .i64 0, .int .i64 0, .int .i64 0], .agg #[.int .i64 ((rd_T41 y329 1).f0), .int .i64 ((rd_T41 y329 1).f1.f0), .int .i64 ((rd_T41 y329 1).f1.f1)], .int .i64 5] (by rfl) rfl rfl argN ?_
             with_reducible refine (marigraphlaw22_between.calls k1 0 0 0 ((rd_T41 y329 1).f0) ((rd_T41 y329 1).f1.f0) ((rd_T41 y329 1).f1.f1) 5 false _ A41.out).mono ?_
             rintro e w84 ⟨rfl, hb⟩
             have HS0_ := (hb.cell (World.block_lt_of_cell? _ _ (hHeld.1))).trans (hHeld.1)
             have HS1_ := (hb.cell (World.block_lt_of_cell? _ _ (hHeld.2.1))).trans (hHeld.2.1)
             have HS2_ := (hb.cell (World.block_lt_of_cell? _ _ (hHeld.2.2.1))).trans (hHeld.2.2.1)
             have HS3_ := (hb.cell (World.block_lt_of_cell? _ _ (hHeld.2.2.2.1))).trans (hHeld.2.2.2.1)
             have HS4_ := (hb.cell (World.block_lt_of_cell? _ _ (hHeld.2.2.2.2.1))).trans (hHeld.2.2.2.2.1)
             have HS5_ := (hb.cell (World.block_lt_of_cell? _ _ (hHeld.2.2.2.2.2.1))).trans (hHeld.2.2.2.2.2.1)
             have HS6_ := (hb.cell (World.block_lt_of_cell? _ _ (hHeld.2.2.2.2.2.2.1))).trans (hHeld.2.2.2.2.2.2.1)
             have HS7_ := (hb.cell (World.block_lt_of_cell? _ _ (hHeld.2.2.2.2.2.2.2.1))).trans (hHeld.2.2.2.2.2.2.2.1)
             have HS8_ := (hb.cell (World.block_lt_of_cell? _ _ (hHeld.2.2.2.2.2.2.2.2))).trans (hHeld.2.2.2.2.2.2.2.2)
             refine ⟨_, rfl, ?_⟩
             have n0_ := Aside0.mk (Kd.R_below (rowN HO_1.out) hb)
             have n1_ := Aside0.mk (Kd.R_below (rowN HO331.out) hb)
             have n2_ := Aside0.mk (Kd.R_below (rowN HO334.out) hb)
             have n3_ := Aside0.mk (Kd.R_below (rowN HO340.out) hb)
             have n4_ := Aside0.mk (Kd.R_below (rowN HO344.out) hb)
             have n5_ := Aside0.mk (below_step (belN HB.out) hb)
             clear HO_1
             clear HO331
             clear HO334
             clear HO340
             clear HO344
             clear HB
             have HO_1 := n0_
             have HO331 := n1_
             have HO334 := n2_
             have HO340 := n3_
             have HO344 := n4_
             have HB := n5_
             clear n0_ n1_ n2_ n3_ n4_ n5_
             (try clear hb)
             (try clear hk)
             refine hK.out _ _ ⟨HS0_, HS1_, HS2_, HS3_, HS4_, HS5_, HS6_, HS7_, HS8_⟩ (fun hHeld => ?_)
             clear hK K
             refine norm_ (a' := ?_) ?_ ?_
             rotate_left
             ·show Act.put _ (some 88) _ = _
              simp only [Act.put, List.setIfInBounds_toArray, List.set_cons_zero, List.set_cons_succ, i64_w, i32_w]
              rfl
             refine pA 38 (some 89) (bA 43 549755813887) HT_.out ?_
             refine pA 39 (some 90) (bA 43 1099511627775) HT_.out ?_
             refine pU 40 (some 91) (bA 43 2199023255551) HT_.out ?_
             refine pA 41 (some 92) (bA 43 4398046511103) HT_.out ?_
             refine pA 42 (some 0) (bA 43 8796093022207) HT_.out ?_
             refine done_ (done_of HT_.out (by kernel_rfl)) ?_
             try go_wp2
             go_ret
             exact ⟨by first | rfl | (simp [errW_none, errW_some] <;> rfl) | (simp [*, errW_none, errW_some] <;> rfl), (belN HB.out)⟩
           ·replace c40 := Bool.eq_false_iff.mpr c40
            subst c40
            have H1 : (some false) = some r := by rw [if_neg (show ¬ (false = true) by decide)] at H; exact H
            clear H
            have H := H1
            clear H1
            obtain rfl := Option.some.inj H
            try go_wp2_with (first | ((with_reducible refine gate_dst (N := 45) rfl ?_); (try (refine gate_guard (by rfl) ?_; dsimp only)); refine Kd.R_lit k41 _ 41 ?hg (N := 45) ?hd (xs := ([(⟨0, (⟨(-2147483647), 1⟩ : S39)⟩ : S41), (⟨4294967295, (⟨2147483647, 1⟩ : S39)⟩ : S41)] : List (S41))) (inner := [.int .i64 0, .int .i64 (-2147483647), .int .i64 1, .int .i64 4294967295, .int .i64 2147483647, .int .i64 1]) (ok := fun _ => True) (okp := fun _ => True) ?hr ?hp (fun _ hk => hk) trivial (Below.refl _ _) (Nat.le_refl _) (by simp) ?_; (case hd => rfl); (case hg => rfl); (case hr => first | (go_simp; done) | (go_simp; rfl)); (case hp => exact (Reps.c3 (show Kd.M k41 _ _ _ (⟨0, (⟨(-2147483647), 1⟩ : S39)⟩ : S41) [.int .i64 0, .int .i64 (-2147483647), .int .i64 1] from (k41_mkM _ _ _ (⟨0, (⟨(-2147483647), 1⟩ : S39)⟩ : S41) )) (Reps.c3 (show Kd.M k41 _ _ _ (⟨4294967295, (⟨2147483647, 1⟩ : S39)⟩ : S41) [.int .i64 4294967295, .int .i64 2147483647, .int .i64 1] from (k41_mkM _ _ _ (⟨4294967295, (⟨2147483647, 1⟩ : S39)⟩ : S41) )) (Reps.none _ _)))); intro v330 w85 ho86 hb hg_ hnew_; clear hg_ hnew_; (first | rw [← Ny329.out] at ho86 | (simp only [Int.reduceToNat] at ho86; rw [← Ny329.out] at ho86)); have n0_ := Aside0.mk (Kd.R_elder' (rowN HO_1.out) (Kd.R_base ho86) hb); have n1_ := Aside0.mk (Kd.R_lower (Kd.R_new' ho86 (Kd.R_lt (rowN HO_1.out))) (below_size (belN HB.out))); have n2_ := Aside0.mk (below_step (belN HB.out) hb); clear HO_1; clear HB; have HO_1 := n0_; have HO331 := n1_; have HB := n2_; clear n0_ n1_ n2_; clear hb ho86) | ((with_reducible refine gate_dst (N := 50) rfl ?_); (try (refine gate_guard (by rfl) ?_; dsimp only)); refine Kd.R_lit k41 _ 41 ?hg (N := 50) ?hd (xs := ([(⟨0, (⟨0, 1⟩ : S39)⟩ : S41), (⟨4294967295, (⟨1, 1⟩ : S39)⟩ : S41)] : List (S41))) (inner := [.int .i64 0, .int .i64 0, .int .i64 1, .int .i64 4294967295, .int .i64 1, .int .i64 1]) (ok := fun _ => True) (okp := fun _ => True) ?hr ?hp (fun _ hk => hk) trivial (Below.refl _ _) (Nat.le_refl _) (by simp) ?_; (case hd => rfl); (case hg => rfl); (case hr => first | (go_simp; done) | (go_simp; rfl)); (case hp => exact (Reps.c3 (show Kd.M k41 _ _ _ (⟨0, (⟨0, 1⟩ : S39)⟩ : S41) [.int .i64 0, .int .i64 0, .int .i64 1] from (k41_mkM _ _ _ (⟨0, (⟨0, 1⟩ : S39)⟩ : S41) )) (Reps.c3 (show Kd.M k41 _ _ _ (⟨4294967295, (⟨1, 1⟩ : S39)⟩ : S41) [.int .i64 4294967295, .int .i64 1, .int .i64 1] from (k41_mkM _ _ _ (⟨4294967295, (⟨1, 1⟩ : S39)⟩ : S41) )) (Reps.none _ _)))); intro v333 w87 ho88 hb hg_ hnew_; clear hg_ hnew_; (first | rw [← Ny332.out] at ho88 | (simp only [Int.reduceToNat] at ho88; rw [← Ny332.out] at ho88)); have n0_ := Aside0.mk (Kd.R_elder' (rowN HO_1.out) (Kd.R_base ho88) hb); have n1_ := Aside0.mk (Kd.R_elder' (rowN HO331.out) (Kd.R_base ho88) hb); have n2_ := Aside0.mk (Kd.R_lower (Kd.R_new' (Kd.R_new' ho88 (Kd.R_lt (rowN HO_1.out))) (Kd.R_lt (rowN HO331.out))) (below_size (belN HB.out))); have n3_ := Aside0.mk (below_step (belN HB.out) hb); clear HO_1; clear HO331; clear HB; have HO_1 := n0_; have HO331 := n1_; have HO334 := n2_; have HB := n3_; clear n0_ n1_ n2_ n3_; clear hb ho88))
            have n0_ := Aside0.mk (Kd.R_drew HO_1.out)
            have n1_ := Aside0.mk (Kd.R_drew HO331.out)
            have n2_ := Aside0.mk (Kd.R_drew HO334.out)
            have n3_ := Aside0.mk (below_drew1 HB.out)
            clear HO_1
            clear HO331
            clear HO334
            clear HB
            have HO_1 := n0_
            have HO331 := n1_
            have HO334 := n2_
            have HB := n3_
            clear n0_ n1_ n2_ n3_
            obtain ⟨Ao90, co90, eo90⟩ := Kd.R_slice HO331.out
            (first | subst eo90 | (injection eo90 with f1_ f2_ f3_; have f4_ := f1_.symm; have f5_ := f3_.symm; clear f1_ f2_ f3_; subst f4_; subst f5_))
            have p346 : 0 ≤ (0 : Int) := (by omega)
            have q346 : 0 < (y329.length : Int) := of_decide_eq_true (by first | (with_reducible assumption) | assumption)
            obtain ⟨ad346, e346, hx346_0, hx346_1, hx346_2⟩ := at_T41 (Kd.R_reads' HO331.out).2.2 0 p346 q346
            cases e346
            have qi346 : (0 < y329.length) = True := eq_true (by omega)
            (try rw [show ((0 : Int)).toNat = 0 from rfl] at hx346_0)
            (try rw [show 0 * 3 = 0 from rfl] at hx346_0)
            (try rw [Addr.add_zero'] at hx346_0)
            (try rw [show ((0 : Int)).toNat = 0 from rfl] at hx346_1)
            (try rw [show 0 * 3 = 0 from rfl] at hx346_1)
            (try rw [Addr.add_zero'] at hx346_1)
            (try rw [show ((0 : Int)).toNat = 0 from rfl] at hx346_2)
            (try rw [show 0 * 3 = 0 from rfl] at hx346_2)
            (try rw [Addr.add_zero'] at hx346_2)
            replace p346 := eq_true p346
            replace q346 := eq_true q346
            have p347 : 0 ≤ (1 : Int) := (by omega)
            have q347 : 1 < (y329.length : Int) := of_decide_eq_true (by first | (with_reducible assumption) | assumption)
            obtain ⟨ad347, e347, hx347_0, hx347_1, hx347_2⟩ := at_T41 (Kd.R_reads' HO331.out).2.2 1 p347 q347
            obtain rfl : ad346 = ad347 := (by injection e347)
            (try simp only [show (1 : Int).toNat = 1 from rfl, Nat.reduceMul, Nat.reduceEqDiff, Go.Addr.add, ↓reduceIte] at hx347_0)
            (try simp only [show (1 : Int).toNat = 1 from rfl, Nat.reduceMul, Nat.reduceEqDiff, Go.Addr.add, ↓reduceIte] at hx347_1)
            (try simp only [show (1 : Int).toNat = 1 from rfl, Nat.reduceMul, Nat.reduceEqDiff, Go.Addr.add, ↓reduceIte] at hx347_2)
            have qi347 : (1 < y329.length) = True := eq_true (by omega)
            (try rw [show ((1 : Int)).toNat = 1 from rfl] at hx347_0)
            (try rw [show 1 * 3 = 3 from rfl] at hx347_0)
            (try rw [show ((1 : Int)).toNat = 1 from rfl] at hx347_1)
            (try rw [show 1 * 3 = 3 from rfl] at hx347_1)
            (try rw [show ((1 : Int)).toNat = 1 from rfl] at hx347_2)
            (try rw [show 1 * 3 = 3 from rfl] at hx347_2)
            replace p347 := eq_true p347
            replace q347 := eq_true q347
            refine start_ (n := 43) (S := fun w' => w'.cell? ad346 = some (.int .i64 ((rd_T41 y329 0).f0)) ∧ w'.cell? ⟨ad346.block, ad346.off + 1, none⟩ = some (.int .i64 ((rd_T41 y329 0).f1.f0)) ∧ w'.cell? ⟨ad346.block, ad346.off + 2, none⟩ = some (.int .i64 ((rd_T41 y329 0).f1.f1)) ∧ w'.cell? ⟨ad346.block, ad346.off + 3, none⟩ = some (.int .i64 ((rd_T41 y329 1).f0)) ∧ w'.cell? ⟨ad346.block, ad346.off + 3 + 1, none⟩ = some (.int .i64 ((rd_T41 y329 1).f1.f0)) ∧ w'.cell? ⟨ad346.block, ad346.off + 3 + 2, none⟩ = some (.int .i64 ((rd_T41 y329 1).f1.f1))) (ds := []) #[false, false, false, false, false, false, false, false, false, false, false, false, false, false, false, false, false, false, false, false, false, false, false, false, false, false, false, false, false, false, false, false, false, false, false, false, false, false, false, false, false, false, false] (by kernel_rfl) rfl rfl ⟨hx346_0, hx346_1, hx346_2, hx347_0, hx347_1, hx347_2⟩ (fun hHeld => ?_); refine with_tabW marigraphlaw22_LerpNumbers.tab17 marigraphlaw22_LerpNumbers.bits17 (fun HT_ HW_ => ?_)
            generalize w87.drew = w89 at HO_1 HO331 HO334 HB hx346_0 hx346_1 hx346_2 hx347_0 hx347_1 hx347_2 hHeld ⊢
            refine pA 0 (some 51) (bA 43 1) HT_.out ?_
            refine one_ (i := 1) (N := some 52) (bA 43 3) rfl rfl (one_of HT_.out (by kernel_rfl)) (by decide) (fun K hK => ?_)
            refine goes_ Try.func15 (by kernel_rfl) rfl #[.slice (some ad346) y329.length co90, .int .i64 5] (by rfl) rfl rfl argN ?_
            with_reducible refine (marigraphlaw22_at.calls k1 _ _ y329 5 true _ ?side1 ?side2 A27.out).mono ?_
            (case side1 => repeat (first | exact (Kd.R_reads' HO331.out).2.2 | (with_reducible refine Kd.C_alloc ?_ _) | (with_reducible refine Kd.C_drewN ?_ _) | (with_reducible refine Kd.C_drew ?_)))
            (case side2 => exact (Kd.R_reads' HO331.out).2.1)
            rintro e w91 ⟨rfl, hb⟩
            have HS0_ := (hb.cell (World.block_lt_of_cell? _ _ (hHeld.1))).trans (hHeld.1)
            have HS1_ := (hb.cell (World.block_lt_of_cell? _ _ (hHeld.2.1))).trans (hHeld.2.1)
            have HS2_ := (hb.cell (World.block_lt_of_cell? _ _ (hHeld.2.2.1))).trans (hHeld.2.2.1)
            have HS3_ := (hb.cell (World.block_lt_of_cell? _ _ (hHeld.2.2.2.1))).trans (hHeld.2.2.2.1)
            have HS4_ := (hb.cell (World.block_lt_of_cell? _ _ (hHeld.2.2.2.2.1))).trans (hHeld.2.2.2.2.1)
            have HS5_ := (hb.cell (World.block_lt_of_cell? _ _ (hHeld.2.2.2.2.2))).trans (hHeld.2.2.2.2.2)
            refine ⟨_, rfl, ?_⟩
            have n0_ := Aside0.mk (Kd.R_below (rowN HO_1.out) hb)
            have n1_ := Aside0.mk (Kd.R_below (rowN HO331.out) hb)
            have n2_ := Aside0.mk (Kd.R_below (rowN HO334.out) hb)
            have n3_ := Aside0.mk (below_step (belN HB.out) hb)
            clear HO_1
            clear HO331
            clear HO334
            clear HB
            have HO_1 := n0_
            have HO331 := n1_
            have HO334 := n2_
            have HB := n3_
            clear n0_ n1_ n2_ n3_
            (try clear hb)
            (try clear hk)
            obtain ⟨Ao92, co92, eo92⟩ := Kd.R_slice HO334.out
            (first | subst eo92 | (injection eo92 with f1_ f2_ f3_; have f4_ := f1_.symm; have f5_ := f3_.symm; clear f1_ f2_ f3_; subst f4_; subst f5_))
            refine hK.out _ _ ⟨HS0_, HS1_, HS2_, HS3_, HS4_, HS5_⟩ (fun hHeld => ?_)
            clear hK K
            refine norm_ (a' := ?_) ?_ ?_
            rotate_left
            ·show Act.put _ (some 52) _ = _
             simp only [Act.put, List.setIfInBounds_toArray, List.set_cons_zero, List.set_cons_succ, i64_w, i32_w]
             rfl
            refine pA 2 (some 53) (bA 43 7) HT_.out ?_
            refine pA 3 (some 54) (bA 43 15) HT_.out ?_
            refine one_ (i := 4) (N := some 55) (bA 43 31) rfl rfl (one_of HT_.out (by kernel_rfl)) (by decide) (fun K hK => ?_)
            refine goes_ Try.func15 (by kernel_rfl) rfl #[.slice Ao92 y332.length co92, .int .i64 5] (by rfl) rfl rfl argN ?_
            with_reducible refine (marigraphlaw22_at.calls k1 _ _ y332 5 true _ ?side1 ?side2 A29.out).mono ?_
            (case side1 => repeat (first | exact (Kd.R_reads' HO334.out).2.2 | (with_reducible refine Kd.C_alloc ?_ _) | (with_reducible refine Kd.C_drewN ?_ _) | (with_reducible refine Kd.C_drew ?_)))
            (case side2 => exact (Kd.R_reads' HO334.out).2.1)
            rintro e w93 ⟨rfl, hb⟩
            have HS0_ := (hb.cell (World.block_lt_of_cell? _ _ (hHeld.1))).trans (hHeld.1)
            have HS1_ := (hb.cell (World.block_lt_of_cell? _ _ (hHeld.2.1))).trans (hHeld.2.1)
            have HS2_ := (hb.cell (World.block_lt_of_cell? _ _ (hHeld.2.2.1))).trans (hHeld.2.2.1)
            have HS3_ := (hb.cell (World.block_lt_of_cell? _ _ (hHeld.2.2.2.1))).trans (hHeld.2.2.2.1)
            have HS4_ := (hb.cell (World.block_lt_of_cell? _ _ (hHeld.2.2.2.2.1))).trans (hHeld.2.2.2.2.1)
            have HS5_ := (hb.cell (World.block_lt_of_cell? _ _ (hHeld.2.2.2.2.2))).trans (hHeld.2.2.2.2.2)
            refine ⟨_, rfl, ?_⟩
            have n0_ := Aside0.mk (Kd.R_below (rowN HO_1.out) hb)
            have n1_ := Aside0.mk (Kd.R_below (rowN HO331.out) hb)
            have n2_ := Aside0.mk (Kd.R_below (rowN HO334.out) hb)
            have n3_ := Aside0.mk (below_step (belN HB.out) hb)
            clear HO_1
            clear HO331
            clear HO334
            clear HB
            have HO_1 := n0_
            have HO331 := n1_
            have HO334 := n2_
            have HB := n3_
            clear n0_ n1_ n2_ n3_
            (try clear hb)
            (try clear hk)
            refine hK.out _ _ ⟨HS0_, HS1_, HS2_, HS3_, HS4_, HS5_⟩ (fun hHeld => ?_)
            clear hK K
            refine norm_ (a' := ?_) ?_ ?_
            rotate_left
            ·show Act.put _ (some 55) _ = _
             simp only [Act.put, List.setIfInBounds_toArray, List.set_cons_zero, List.set_cons_succ, i64_w, i32_w]
             rfl
            refine pA 5 (some 56) (bA 43 63) HT_.out ?_
            refine pA 6 (some 57) (bA 43 127) HT_.out ?_
            refine pA 7 (some 58) (bA 43 255) HT_.out ?_
            refine one_ (i := 8) (N := some 59) (bA 43 511) rfl rfl (one_of HT_.out (by kernel_rfl)) (by decide) (fun K hK => ?_)
            refine goes_ Try.func15 (by kernel_rfl) rfl #[.slice Ao92 y332.length co92, .int .i64 1431655765] (by rfl) rfl rfl argN ?_
            with_reducible refine (marigraphlaw22_at.calls k1 _ _ y332 1431655765 true _ ?side1 ?side2 A31.out).mono ?_
            (case side1 => repeat (first | exact (Kd.R_reads' HO334.out).2.2 | (with_reducible refine Kd.C_alloc ?_ _) | (with_reducible refine Kd.C_drewN ?_ _) | (with_reducible refine Kd.C_drew ?_)))
            (case side2 => exact (Kd.R_reads' HO334.out).2.1)
            rintro e w94 ⟨rfl, hb⟩
            have HS0_ := (hb.cell (World.block_lt_of_cell? _ _ (hHeld.1))).trans (hHeld.1)
            have HS1_ := (hb.cell (World.block_lt_of_cell? _ _ (hHeld.2.1))).trans (hHeld.2.1)
            have HS2_ := (hb.cell (World.block_lt_of_cell? _ _ (hHeld.2.2.1))).trans (hHeld.2.2.1)
            have HS3_ := (hb.cell (World.block_lt_of_cell? _ _ (hHeld.2.2.2.1))).trans (hHeld.2.2.2.1)
            have HS4_ := (hb.cell (World.block_lt_of_cell? _ _ (hHeld.2.2.2.2.1))).trans (hHeld.2.2.2.2.1)
            have HS5_ := (hb.cell (World.block_lt_of_cell? _ _ (hHeld.2.2.2.2.2))).trans (hHeld.2.2.2.2.2)
            refine ⟨_, rfl, ?_⟩
            have n0_ := Aside0.mk (Kd.R_below (rowN HO_1.out) hb)
            have n1_ := Aside0.mk (Kd.R_below (rowN HO331.out) hb)
            have n2_ := Aside0.mk (Kd.R_below (rowN HO334.out) hb)
            have n3_ := Aside0.mk (below_step (belN HB.out) hb)
            clear HO_1
            clear HO331
            clear HO334
            clear HB
            have HO_1 := n0_
            have HO331 := n1_
            have HO334 := n2_
            have HB := n3_
            clear n0_ n1_ n2_ n3_
            (try clear hb)
            (try clear hk)
            refine hK.out _ _ ⟨HS0_, HS1_, HS2_, HS3_, HS4_, HS5_⟩ (fun hHeld => ?_)
            clear hK K
            refine norm_ (a' := ?_) ?_ ?_
            rotate_left
            ·show Act.put _ (some 59) _ = _
             simp only [Act.put, List.setIfInBounds_toArray, List.set_cons_zero, List.set_cons_succ, i64_w, i32_w]
             rfl
            refine pA 9 (some 60) (bA 43 1023) HT_.out ?_
            refine pA 10 (some 61) (bA 43 2047) HT_.out ?_
            refine pA 11 (some 62) (bA 43 4095) HT_.out ?_
            refine one_ (i := 12) (N := some 63) (bA 43 8191) rfl rfl (one_of HT_.out (by kernel_rfl)) (by decide) (fun K hK => ?_)
            refine Kd.R_lit_step k41 _ 41 ?hg (N := 63) ?hd (xs := ([(⟨1, (⟨0, 0⟩ : S39)⟩ : S41)] : List (S41))) (inner := [.int .i64 1, .int .i64 0, .int .i64 0]) (ok := fun _ => True) (okp := fun _ => True) ?hr ?hp (fun _ hk => hk) trivial (Below.refl _ _) (Nat.le_refl _) (by simp) ?_; (case hd => rfl); (case hg => rfl); (case hr => first | (go_simp; done) | (go_simp; rfl)); (case hp => exact (Reps.c3 (show Kd.M k41 _ _ _ (⟨1, (⟨0, 0⟩ : S39)⟩ : S41) [.int .i64 1, .int .i64 0, .int .i64 0] from (k41_mkM _ _ _ (⟨1, (⟨0, 0⟩ : S39)⟩ : S41) )) (Reps.none _ _)))
            intro v339 w95 ho96 hb hg_ hnew_
            have HS0_ := (hb.cell (World.block_lt_of_cell? _ _ (hHeld.1))).trans (hHeld.1)
            have HS1_ := (hb.cell (World.block_lt_of_cell? _ _ (hHeld.2.1))).trans (hHeld.2.1)
            have HS2_ := (hb.cell (World.block_lt_of_cell? _ _ (hHeld.2.2.1))).trans (hHeld.2.2.1)
            have HS3_ := (hb.cell (World.block_lt_of_cell? _ _ (hHeld.2.2.2.1))).trans (hHeld.2.2.2.1)
            have HS4_ := (hb.cell (World.block_lt_of_cell? _ _ (hHeld.2.2.2.2.1))).trans (hHeld.2.2.2.2.1)
            have HS5_ := (hb.cell (World.block_lt_of_cell? _ _ (hHeld.2.2.2.2.2))).trans (hHeld.2.2.2.2.2)
            clear hg_ hnew_
            (first | rw [← Ny338.out] at ho96 | (simp only [Int.reduceToNat] at ho96; rw [← Ny338.out] at ho96))
            have n0_ := Aside0.mk (Kd.R_elder' (rowN HO_1.out) (Kd.R_base ho96) hb)
            have n1_ := Aside0.mk (Kd.R_elder' (rowN HO331.out) (Kd.R_base ho96) hb)
            have n2_ := Aside0.mk (Kd.R_elder' (rowN HO334.out) (Kd.R_base ho96) hb)
            have n3_ := Aside0.mk (Kd.R_lower (Kd.R_new' (Kd.R_new' (Kd.R_new' ho96 (Kd.R_lt (rowN HO_1.out))) (Kd.R_lt (rowN HO331.out))) (Kd.R_lt (rowN HO334.out))) (below_size (belN HB.out)))
            have n4_ := Aside0.mk (below_step (belN HB.out) hb)
            clear HO_1
            clear HO331
            clear HO334
            clear HB
            have HO_1 := n0_
            have HO331 := n1_
            have HO334 := n2_
            have HO340 := n3_
            have HB := n4_
            clear n0_ n1_ n2_ n3_ n4_
            clear hb ho96
            obtain ⟨Ao97, co97, eo97⟩ := Kd.R_slice HO340.out
            (first | subst eo97 | (injection eo97 with f1_ f2_ f3_; have f4_ := f1_.symm; have f5_ := f3_.symm; clear f1_ f2_ f3_; subst f4_; subst f5_))
            refine hK.out _ _ ⟨HS0_, HS1_, HS2_, HS3_, HS4_, HS5_⟩ (fun hHeld => ?_)
            clear hK K
            refine norm_ (a' := ?_) ?_ ?_
            rotate_left
            ·show Act.put _ (some 63) _ = _
             simp only [Act.put, List.setIfInBounds_toArray, List.set_cons_zero, List.set_cons_succ, i64_w, i32_w]
             rfl
            refine one_ (i := 13) (N := some 64) (bA 43 16383) rfl rfl (one_of HT_.out (by kernel_rfl)) (by decide) (fun K hK => ?_)
            refine goes_ Try.func15 (by kernel_rfl) rfl #[.slice Ao97 y338.length co97, .int .i64 1] (by rfl) rfl rfl argN ?_
            with_reducible refine (marigraphlaw22_at.calls k1 _ _ y338 1 true _ ?side1 ?side2 A33.out).mono ?_
            (case side1 => repeat (first | exact (Kd.R_reads' HO340.out).2.2 | (with_reducible refine Kd.C_alloc ?_ _) | (with_reducible refine Kd.C_drewN ?_ _) | (with_reducible refine Kd.C_drew ?_)))
            (case side2 => exact (Kd.R_reads' HO340.out).2.1)
            rintro e w98 ⟨rfl, hb⟩
            have HS0_ := (hb.cell (World.block_lt_of_cell? _ _ (hHeld.1))).trans (hHeld.1)
            have HS1_ := (hb.cell (World.block_lt_of_cell? _ _ (hHeld.2.1))).trans (hHeld.2.1)
            have HS2_ := (hb.cell (World.block_lt_of_cell? _ _ (hHeld.2.2.1))).trans (hHeld.2.2.1)
            have HS3_ := (hb.cell (World.block_lt_of_cell? _ _ (hHeld.2.2.2.1))).trans (hHeld.2.2.2.1)
            have HS4_ := (hb.cell (World.block_lt_of_cell? _ _ (hHeld.2.2.2.2.1))).trans (hHeld.2.2.2.2.1)
            have HS5_ := (hb.cell (World.block_lt_of_cell? _ _ (hHeld.2.2.2.2.2))).trans (hHeld.2.2.2.2.2)
            refine ⟨_, rfl, ?_⟩
            have n0_ := Aside0.mk (Kd.R_below (rowN HO_1.out) hb)
            have n1_ := Aside0.mk (Kd.R_below (rowN HO331.out) hb)
            have n2_ := Aside0.mk (Kd.R_below (rowN HO334.out) hb)
            have n3_ := Aside0.mk (Kd.R_below (rowN HO340.out) hb)
            have n4_ := Aside0.mk (below_step (belN HB.out) hb)
            clear HO_1
            clear HO331
            clear HO334
            clear HO340
            clear HB
            have HO_1 := n0_
            have HO331 := n1_
            have HO334 := n2_
            have HO340 := n3_
            have HB := n4_
            clear n0_ n1_ n2_ n3_ n4_
            (try clear hb)
            (try clear hk)
            refine hK.out _ _ ⟨HS0_, HS1_, HS2_, HS3_, HS4_, HS5_⟩ (fun hHeld => ?_)
            clear hK K
            refine norm_ (a' := ?_) ?_ ?_
            rotate_left
            ·show Act.put _ (some 64) _ = _
             simp only [Act.put, List.setIfInBounds_toArray, List.set_cons_zero, List.set_cons_succ, i64_w, i32_w]
             rfl
            refine pA 14 (some 65) (bA 43 32767) HT_.out ?_
            refine pA 15 (some 66) (bA 43 65535) HT_.out ?_
            refine pA 16 (some 67) (bA 43 131071) HT_.out ?_
            refine pA 17 (some 68) (bA 43 262143) HT_.out ?_
            refine pA 18 (some 69) (bA 43 524287) HT_.out ?_
            refine pA 19 (some 70) (bA 43 1048575) HT_.out ?_
            refine one_ (i := 20) (N := some 71) (bA 43 2097151) rfl rfl (one_of HT_.out (by kernel_rfl)) (by decide) (fun K hK => ?_)
            refine Kd.R_lit_step k41 _ 41 ?hg (N := 71) ?hd (xs := ([(⟨5, (⟨0, 1⟩ : S39)⟩ : S41), (⟨4, (⟨0, 1⟩ : S39)⟩ : S41)] : List (S41))) (inner := [.int .i64 5, .int .i64 0, .int .i64 1, .int .i64 4, .int .i64 0, .int .i64 1]) (ok := fun _ => True) (okp := fun _ => True) ?hr ?hp (fun _ hk => hk) trivial (Below.refl _ _) (Nat.le_refl _) (by simp) ?_; (case hd => rfl); (case hg => rfl); (case hr => first | (go_simp; done) | (go_simp; rfl)); (case hp => exact (Reps.c3 (show Kd.M k41 _ _ _ (⟨5, (⟨0, 1⟩ : S39)⟩ : S41) [.int .i64 5, .int .i64 0, .int .i64 1] from (k41_mkM _ _ _ (⟨5, (⟨0, 1⟩ : S39)⟩ : S41) )) (Reps.c3 (show Kd.M k41 _ _ _ (⟨4, (⟨0, 1⟩ : S39)⟩ : S41) [.int .i64 4, .int .i64 0, .int .i64 1] from (k41_mkM _ _ _ (⟨4, (⟨0, 1⟩ : S39)⟩ : S41) )) (Reps.none _ _))))
            intro v343 w99 ho100 hb hg_ hnew_
            have HS0_ := (hb.cell (World.block_lt_of_cell? _ _ (hHeld.1))).trans (hHeld.1)
            have HS1_ := (hb.cell (World.block_lt_of_cell? _ _ (hHeld.2.1))).trans (hHeld.2.1)
            have HS2_ := (hb.cell (World.block_lt_of_cell? _ _ (hHeld.2.2.1))).trans (hHeld.2.2.1)
            have HS3_ := (hb.cell (World.block_lt_of_cell? _ _ (hHeld.2.2.2.1))).trans (hHeld.2.2.2.1)
            have HS4_ := (hb.cell (World.block_lt_of_cell? _ _ (hHeld.2.2.2.2.1))).trans (hHeld.2.2.2.2.1)
            have HS5_ := (hb.cell (World.block_lt_of_cell? _ _ (hHeld.2.2.2.2.2))).trans (hHeld.2.2.2.2.2)
            clear hg_ hnew_
            (first | rw [← Ny342.out] at ho100 | (simp only [Int.reduceToNat] at ho100; rw [← Ny342.out] at ho100))
            have n0_ := Aside0.mk (Kd.R_elder' (rowN HO_1.out) (Kd.R_base ho100) hb)
            have n1_ := Aside0.mk (Kd.R_elder' (rowN HO331.out) (Kd.R_base ho100) hb)
            have n2_ := Aside0.mk (Kd.R_elder' (rowN HO334.out) (Kd.R_base ho100) hb)
            have n3_ := Aside0.mk (Kd.R_elder' (rowN HO340.out) (Kd.R_base ho100) hb)
            have n4_ := Aside0.mk (Kd.R_lower (Kd.R_new' (Kd.R_new' (Kd.R_new' (Kd.R_new' ho100 (Kd.R_lt (rowN HO_1.out))) (Kd.R_lt (rowN HO331.out))) (Kd.R_lt (rowN HO334.out))) (Kd.R_lt (rowN HO340.out))) (below_size (belN HB.out)))
            have n5_ := Aside0.mk (below_step (belN HB.out) hb)
            clear HO_1
            clear HO331
            clear HO334
            clear HO340
            clear HB
            have HO_1 := n0_
            have HO331 := n1_
            have HO334 := n2_
            have HO340 := n3_
            have HO344 := n4_
            have HB := n5_
            clear n0_ n1_ n2_ n3_ n4_ n5_
            clear hb ho100
            obtain ⟨Ao101, co101, eo101⟩ := Kd.R_slice HO344.out
            (first | subst eo101 | (injection eo101 with f1_ f2_ f3_; have f4_ := f1_.symm; have f5_ := f3_.symm; clear f1_ f2_ f3_; subst f4_; subst f5_))
            refine hK.out _ _ ⟨HS0_, HS1_, HS2_, HS3_, HS4_, HS5_⟩ (fun hHeld => ?_)
            clear hK K
            refine norm_ (a' := ?_) ?_ ?_
            rotate_left
            ·show Act.put _ (some 71) _ = _
             simp only [Act.put, List.setIfInBounds_toArray, List.set_cons_zero, List.set_cons_succ, i64_w, i32_w]
             rfl
            refine one_ (i := 21) (N := some 72) (bA 43 4194303) rfl rfl (one_of HT_.out (by kernel_rfl)) (by decide) (fun K hK => ?_)
            refine goes_ Try.func15 (by kernel_rfl) rfl #[.slice Ao101 y342.length co101, .int .i64 5] (by rfl) rfl rfl argN ?_
            with_reducible refine (marigraphlaw22_at.calls k1 _ _ y342 5 true _ ?side1 ?side2 A35.out).mono ?_
            (case side1 => repeat (first | exact (Kd.R_reads' HO344.out).2.2 | (with_reducible refine Kd.C_alloc ?_ _) | (with_reducible refine Kd.C_drewN ?_ _) | (with_reducible refine Kd.C_drew ?_)))
            (case side2 => exact (Kd.R_reads' HO344.out).2.1)
            rintro e w102 ⟨rfl, hb⟩
            have HS0_ := (hb.cell (World.block_lt_of_cell? _ _ (hHeld.1))).trans (hHeld.1)
            have HS1_ := (hb.cell (World.block_lt_of_cell? _ _ (hHeld.2.1))).trans (hHeld.2.1)
            have HS2_ := (hb.cell (World.block_lt_of_cell? _ _ (hHeld.2.2.1))).trans (hHeld.2.2.1)
            have HS3_ := (hb.cell (World.block_lt_of_cell? _ _ (hHeld.2.2.2.1))).trans (hHeld.2.2.2.1)
            have HS4_ := (hb.cell (World.block_lt_of_cell? _ _ (hHeld.2.2.2.2.1))).trans (hHeld.2.2.2.2.1)
            have HS5_ := (hb.cell (World.block_lt_of_cell? _ _ (hHeld.2.2.2.2.2))).trans (hHeld.2.2.2.2.2)
            refine ⟨_, rfl, ?_⟩
            have n0_ := Aside0.mk (Kd.R_below (rowN HO_1.out) hb)
            have n1_ := Aside0.mk (Kd.R_below (rowN HO331.out) hb)
            have n2_ := Aside0.mk (Kd.R_below (rowN HO334.out) hb)
            have n3_ := Aside0.mk (Kd.R_below (rowN HO340.out) hb)
            have n4_ := Aside0.mk (Kd.R_below (rowN HO344.out) hb)
            have n5_ := Aside0.mk (below_step (belN HB.out) hb)
            clear HO_1
            clear HO331
            clear HO334
            clear HO340
            clear HO344
            clear HB
            have HO_1 := n0_
            have HO331 := n1_
            have HO334 := n2_
            have HO340 := n3_
            have HO344 := n4_
            have HB := n5_
            clear n0_ n1_ n2_ n3_ n4_ n5_
            (try clear hb)
            (try clear hk)
            refine hK.out _ _ ⟨HS0_, HS1_, HS2_, HS3_, HS4_, HS5_⟩ (fun hHeld => ?_)
            clear hK K
            refine norm_ (a' := ?_) ?_ ?_
            rotate_left
            ·show Act.put _ (some 72) _ = _
             simp only [Act.put, List.setIfInBounds_toArray, List.set_cons_zero, List.set_cons_succ, i64_w, i32_w]
             rfl
            refine pA 22 (some 73) (bA 43 8388607) HT_.out ?_
            refine pA 23 (some 74) (bA 43 16777215) HT_.out ?_
            refine pA 24 (some 75) (bA 43 33554431) HT_.out ?_
            refine pA 25 (some 76) (bA 43 67108863) HT_.out ?_
            refine pA 27 (some 78) (bA 43 201326591) HT_.out ?_
            refine pA 28 (some 79) (bA 43 469762047) HT_.out ?_
            refine take_ (i := 26) (N := some 77) (v := ?_) (a' := ?_) (bA 43 536870911) rfl rfl (take_ofW HT_.out HW_.out (by kernel_rfl)) (fun _ _ _ h => h) (Or.inl ⟨by rfl, ?_⟩) hHeld ?_ ?_
            rotate_left
            ·rintro w' ⟨s0, s1, s2, s3, s4, s5⟩
             go_simp
             with_reducible rfl
            rotate_left
            ·simp only [Act.put, List.setIfInBounds_toArray, List.set_cons_zero, List.set_cons_succ, i64_w, i32_w]
             rfl
            refine take_ (i := 29) (N := some 80) (v := ?_) (a' := ?_) (bA 43 1073741823) rfl rfl (take_ofW HT_.out HW_.out (by kernel_rfl)) (fun _ _ _ h => h) (Or.inl ⟨by rfl, ?_⟩) hHeld ?_ ?_
            rotate_left
            ·rintro w' ⟨s0, s1, s2, s3, s4, s5⟩
             go_simp
             with_reducible rfl
            rotate_left
            ·simp only [Act.put, List.setIfInBounds_toArray, List.set_cons_zero, List.set_cons_succ, i64_w, i32_w]
             rfl
            refine one_ (i := 30) (N := some 81) (bA 43 2147483647) rfl rfl (one_of HT_.out (by kernel_rfl)) (by decide) (fun K hK => ?_)
            refine goes_ Try.func16 (by kernel_rfl) rfl #[.agg #[.int .i64 ((rd_T41 y329 0).f0), .int .i64 ((rd_T41 y329 0).f1.f0), .int .i64 ((rd_T41 y329 0).f1.f1)], .agg #[.int .i64 ((rd_T41 y329 1).f0), .int .i64 ((rd_T41 y329 1).f1.f0), .int .i64 ((rd_T41 y329 1).f1.f1)], .int .i64 7] (by rfl) rfl rfl argN ?_
            with_reducible refine (marigraphlaw22_between.calls k1 ((rd_T41 y329 0).f0) ((rd_T41 y329 0).f1.f0) ((rd_T41 y329 0).f1.f1) ((rd_T41 y329 1).f0) ((rd_T41 y329 1).f1.f0) ((rd_T41 y329 1).f1.f1) 7 false _ A39.out).mono ?_
            rintro e w103 ⟨rfl, hb⟩
            have HS0_ := (hb.cell (World.block_lt_of_cell? _ _ (hHeld.1))).trans (hHeld.1)
            have HS1_ := (hb.cell (World.block_lt_of_cell? _ _ (hHeld.2.1))).trans (hHeld.2.1)
            have HS2_ := (hb.cell (World.block_lt_of_cell? _ _ (hHeld.2.2.1))).trans (hHeld.2.2.1)
            have HS3_ := (hb.cell (World.block_lt_of_cell? _ _ (hHeld.2.2.2.1))).trans (hHeld.2.2.2.1)
            have HS4_ := (hb.cell (World.block_lt_of_cell? _ _ (hHeld.2.2.2.2.1))).trans (hHeld.2.2.2.2.1)
            have HS5_ := (hb.cell (World.block_lt_of_cell? _ _ (hHeld.2.2.2.2.2))).trans (hHeld.2.2.2.2.2)
            refine ⟨_, rfl, ?_⟩
            have n0_ := Aside0.mk (Kd.R_below (rowN HO_1.out) hb)
            have n1_ := Aside0.mk (Kd.R_below (rowN HO331.out) hb)
            have n2_ := Aside0.mk (Kd.R_below (rowN HO334.out) hb)
            have n3_ := Aside0.mk (Kd.R_below (rowN HO340.out) hb)
            have n4_ := Aside0.mk (Kd.R_below (rowN HO344.out) hb)
            have n5_ := Aside0.mk (below_step (belN HB.out) hb)
            clear HO_1
            clear HO331
            clear HO334
            clear HO340
            clear HO344
            clear HB
            have HO_1 := n0_
            have HO331 := n1_
            have HO334 := n2_
            have HO340 := n3_
            have HO344 := n4_
            have HB := n5_
            clear n0_ n1_ n2_ n3_ n4_ n5_
            (try clear hb)
            (try clear hk)
            refine hK.out _ _ ⟨HS0_, HS1_, HS2_, HS3_, HS4_, HS5_⟩ (fun hHeld => ?_)
            clear hK K
            refine norm_ (a' := ?_) ?_ ?_
            rotate_left
            ·show Act.put _ (some 81) _ = _
             simp only [Act.put, List.setIfInBounds_toArray, List.set_cons_zero, List.set_cons_succ, i64_w, i32_w]
             rfl
            refine pA 31 (some 82) (bA 43 4294967295) HT_.out ?_
            refine pA 32 (some 83) (bA 43 8589934591) HT_.out ?_
            refine pU 33 (some 84) (bA 43 17179869183) HT_.out ?_
            refine pU 34 (some 85) (bA 43 34359738367) HT_.out ?_
            refine pU 35 (some 86) (bA 43 68719476735) HT_.out ?_
            refine pU 36 (some 87) (bA 43 137438953471) HT_.out ?_
            refine pU 37 (some 88) (bA 43 274877906943) HT_.out ?_
            refine pA 38 (some 89) (bA 43 549755813887) HT_.out ?_
            refine pA 39 (some 90) (bA 43 1099511627775) HT_.out ?_
            refine pU 40 (some 91) (bA 43 2199023255551) HT_.out ?_
            refine pA 41 (some 92) (bA 43 4398046511103) HT_.out ?_
            refine pA 42 (some 0) (bA 43 8796093022207) HT_.out ?_
            refine done_ (done_of HT_.out (by kernel_rfl)) ?_
            try go_wp2
            go_ret
            exact ⟨by first | rfl | (simp [errW_none, errW_some] <;> rfl) | (simp [*, errW_none, errW_some] <;> rfl), (belN HB.out)⟩
          ·rw [if_neg c38] at H
           exact absurd H (by simp)
         ·rw [if_neg c37] at H
          exact absurd H (by simp)
        ·replace c36 := Bool.eq_false_iff.mpr c36
         subst c36
         have H1 : (some false) = some r := by rw [if_neg (show ¬ (false = true) by decide)] at H; exact H
         clear H
         have H := H1
         clear H1
         obtain rfl := Option.some.inj H
         try go_wp2_with (first | ((with_reducible refine gate_dst (N := 45) rfl ?_); (try (refine gate_guard (by rfl) ?_; dsimp only)); refine Kd.R_lit k41 _ 41 ?hg (N := 45) ?hd (xs := ([(⟨0, (⟨(-2147483647), 1⟩ : S39)⟩ : S41), (⟨4294967295, (⟨2147483647, 1⟩ : S39)⟩ : S41)] : List (S41))) (inner := [.int .i64 0, .int .i64 (-2147483647), .int .i64 1, .int .i64 4294967295, .int .i64 2147483647, .int .i64 1]) (ok := fun _ => True) (okp := fun _ => True) ?hr ?hp (fun _ hk => hk) trivial (Below.refl _ _) (Nat.le_refl _) (by simp) ?_; (case hd => rfl); (case hg => rfl); (case hr => first | (go_simp; done) | (go_simp; rfl)); (case hp => exact (Reps.c3 (show Kd.M k41 _ _ _ (⟨0, (⟨(-2147483647), 1⟩ : S39)⟩ : S41) [.int .i64 0, .int .i64 (-2147483647), .int .i64 1] from (k41_mkM _ _ _ (⟨0, (⟨(-2147483647), 1⟩ : S39)⟩ : S41) )) (Reps.c3 (show Kd.M k41 _ _ _ (⟨4294967295, (⟨2147483647, 1⟩ : S39)⟩ : S41) [.int .i64 4294967295, .int .i64 2147483647, .int .i64 1] from (k41_mkM _ _ _ (⟨4294967295, (⟨2147483647, 1⟩ : S39)⟩ : S41) )) (Reps.none _ _)))); intro v330 w104 ho105 hb hg_ hnew_; clear hg_ hnew_; (first | rw [← Ny329.out] at ho105 | (simp only [Int.reduceToNat] at ho105; rw [← Ny329.out] at ho105)); have n0_ := Aside0.mk (Kd.R_elder' (rowN HO_1.out) (Kd.R_base ho105) hb); have n1_ := Aside0.mk (Kd.R_lower (Kd.R_new' ho105 (Kd.R_lt (rowN HO_1.out))) (below_size (belN HB.out))); have n2_ := Aside0.mk (below_step (belN HB.out) hb); clear HO_1; clear HB; have HO_1 := n0_; have HO331 := n1_; have HB := n2_; clear n0_ n1_ n2_; clear hb ho105) | ((with_reducible refine gate_dst (N := 50) rfl ?_); (try (refine gate_guard (by rfl) ?_; dsimp only)); refine Kd.R_lit k41 _ 41 ?hg (N := 50) ?hd (xs := ([(⟨0, (⟨0, 1⟩ : S39)⟩ : S41), (⟨4294967295, (⟨1, 1⟩ : S39)⟩ : S41)] : List (S41))) (inner := [.int .i64 0, .int .i64 0, .int .i64 1, .int .i64 4294967295, .int .i64 1, .int .i64 1]) (ok := fun _ => True) (okp := fun _ => True) ?hr ?hp (fun _ hk => hk) trivial (Below.refl _ _) (Nat.le_refl _) (by simp) ?_; (case hd => rfl); (case hg => rfl); (case hr => first | (go_simp; done) | (go_simp; rfl)); (case hp => exact (Reps.c3 (show Kd.M k41 _ _ _ (⟨0, (⟨0, 1⟩ : S39)⟩ : S41) [.int .i64 0, .int .i64 0, .int .i64 1] from (k41_mkM _ _ _ (⟨0, (⟨0, 1⟩ : S39)⟩ : S41) )) (Reps.c3 (show Kd.M k41 _ _ _ (⟨4294967295, (⟨1, 1⟩ : S39)⟩ : S41) [.int .i64 4294967295, .int .i64 1, .int .i64 1] from (k41_mkM _ _ _ (⟨4294967295, (⟨1, 1⟩ : S39)⟩ : S41) )) (Reps.none _ _)))); intro v333 w106 ho107 hb hg_ hnew_; clear hg_ hnew_; (first | rw [← Ny332.out] at ho107 | (simp only [Int.reduceToNat] at ho107; rw [← Ny332.out] at ho107)); have n0_ := Aside0.mk (Kd.R_elder' (rowN HO_1.out) (Kd.R_base ho107) hb); have n1_ := Aside0.mk (Kd.R_elder' (rowN HO331.out) (Kd.R_base ho107) hb); have n2_ := Aside0.mk (Kd.R_lower (Kd.R_new' (Kd.R_new' ho107 (Kd.R_lt (rowN HO_1.out))) (Kd.R_lt (rowN HO331.out))) (below_size (belN HB.out))); have n3_ := Aside0.mk (below_step (belN HB.out) hb); clear HO_1; clear HO331; clear HB; have HO_1 := n0_; have HO331 := n1_; have HO334 := n2_; have HB := n3_; clear n0_ n1_ n2_ n3_; clear hb ho107))
         have n0_ := Aside0.mk (Kd.R_drew HO_1.out)
         have n1_ := Aside0.mk (Kd.R_drew HO331.out)
         have n2_ := Aside0.mk (Kd.R_drew HO334.out)
         have n3_ := Aside0.mk (below_drew1 HB.out)
         clear HO_1
         clear HO331
         clear HO334
         clear HB
         have HO_1 := n0_
         have HO331 := n1_
         have HO334 := n2_
         have HB := n3_
         clear n0_ n1_ n2_ n3_
         obtain ⟨Ao109, co109, eo109⟩ := Kd.R_slice HO331.out
         (first | subst eo109 | (injection eo109 with f1_ f2_ f3_; have f4_ := f1_.symm; have f5_ := f3_.symm; clear f1_ f2_ f3_; subst f4_; subst f5_))
         refine start_ (n := 43) (S := fun w' => True) (ds := []) #[false, false, false, false, false, false, false, false, false, false, false, false, false, false, false, false, false, false, false, false, false, false, false, false, false, false, false, false, false, false, false, false, false, false, false, false, false, false, false, false, false, false, false] (by kernel_rfl) rfl rfl trivial (fun hHeld => ?_); refine with_tabW marigraphlaw22_LerpNumbers.tab17 marigraphlaw22_LerpNumbers.bits17 (fun HT_ HW_ => ?_)
         generalize w106.drew = w108 at HO_1 HO331 HO334 HB hHeld ⊢
         refine pA 0 (some 51) (bA 43 1) HT_.out ?_
         refine one_ (i := 1) (N := some 52) (bA 43 3) rfl rfl (one_of HT_.out (by kernel_rfl)) (by decide) (fun K hK => ?_)
         refine goes_ Try.func15 (by kernel_rfl) rfl #[.slice Ao109 y329.length co109, .int .i64 5] (by rfl) rfl rfl argN ?_
         with_reducible refine (marigraphlaw22_at.calls k1 _ _ y329 5 true _ ?side1 ?side2 A27.out).mono ?_
         (case side1 => repeat (first | exact (Kd.R_reads' HO331.out).2.2 | (with_reducible refine Kd.C_alloc ?_ _) | (with_reducible refine Kd.C_drewN ?_ _) | (with_reducible refine Kd.C_drew ?_)))
         (case side2 => exact (Kd.R_reads' HO331.out).2.1)
         rintro e w110 ⟨rfl, hb⟩
         refine ⟨_, rfl, ?_⟩
         have n0_ := Aside0.mk (Kd.R_below (rowN HO_1.out) hb)
         have n1_ := Aside0.mk (Kd.R_below (rowN HO331.out) hb)
         have n2_ := Aside0.mk (Kd.R_below (rowN HO334.out) hb)
         have n3_ := Aside0.mk (below_step (belN HB.out) hb)
         clear HO_1
         clear HO331
         clear HO334
         clear HB
         have HO_1 := n0_
         have HO331 := n1_
         have HO334 := n2_
         have HB := n3_
         clear n0_ n1_ n2_ n3_
         (try clear hb)
         (try clear hk)
         obtain ⟨Ao111, co111, eo111⟩ := Kd.R_slice HO334.out
         (first | subst eo111 | (injection eo111 with f1_ f2_ f3_; have f4_ := f1_.symm; have f5_ := f3_.symm; clear f1_ f2_ f3_; subst f4_; subst f5_))
         refine hK.out _ _ trivial (fun hHeld => ?_)
         clear hK K
         refine norm_ (a' := ?_) ?_ ?_
         rotate_left
         ·show Act.put _ (some 52) _ = _
          simp only [Act.put, List.setIfInBounds_toArray, List.set_cons_zero, List.set_cons_succ, i64_w, i32_w]
          rfl
         refine pA 2 (some 53) (bA 43 7) HT_.out ?_
         refine pA 3 (some 54) (bA 43 15) HT_.out ?_
         refine one_ (i := 4) (N := some 55) (bA 43 31) rfl rfl (one_of HT_.out (by kernel_rfl)) (by decide) (fun K hK => ?_)
         refine goes_ Try.func15 (by kernel_rfl) rfl #[.slice Ao111 y332.length co111, .int .i64 5] (by rfl) rfl rfl argN ?_
         with_reducible refine (marigraphlaw22_at.calls k1 _ _ y332 5 true _ ?side1 ?side2 A29.out).mono ?_
         (case side1 => repeat (first | exact (Kd.R_reads' HO334.out).2.2 | (with_reducible refine Kd.C_alloc ?_ _) | (with_reducible refine Kd.C_drewN ?_ _) | (with_reducible refine Kd.C_drew ?_)))
         (case side2 => exact (Kd.R_reads' HO334.out).2.1)
         rintro e w112 ⟨rfl, hb⟩
         refine ⟨_, rfl, ?_⟩
         have n0_ := Aside0.mk (Kd.R_below (rowN HO_1.out) hb)
         have n1_ := Aside0.mk (Kd.R_below (rowN HO331.out) hb)
         have n2_ := Aside0.mk (Kd.R_below (rowN HO334.out) hb)
         have n3_ := Aside0.mk (below_step (belN HB.out) hb)
         clear HO_1
         clear HO331
         clear HO334
         clear HB
         have HO_1 := n0_
         have HO331 := n1_
         have HO334 := n2_
         have HB := n3_
         clear n0_ n1_ n2_ n3_
         (try clear hb)
         (try clear hk)
         refine hK.out _ _ trivial (fun hHeld => ?_)
         clear hK K
         refine norm_ (a' := ?_) ?_ ?_
         rotate_left
         ·show Act.put _ (some 55) _ = _
          simp only [Act.put, List.setIfInBounds_toArray, List.set_cons_zero, List.set_cons_succ, i64_w, i32_w]
          rfl
         refine pA 5 (some 56) (bA 43 63) HT_.out ?_
         refine pA 6 (some 57) (bA 43 127) HT_.out ?_
         refine pA 7 (some 58) (bA 43 255) HT_.out ?_
         refine one_ (i := 8) (N := some 59) (bA 43 511) rfl rfl (one_of HT_.out (by kernel_rfl)) (by decide) (fun K hK => ?_)
         refine goes_ Try.func15 (by kernel_rfl) rfl #[.slice Ao111 y332.length co111, .int .i64 1431655765] (by rfl) rfl rfl argN ?_
         with_reducible refine (marigraphlaw22_at.calls k1 _ _ y332 1431655765 true _ ?side1 ?side2 A31.out).mono ?_
         (case side1 => repeat (first | exact (Kd.R_reads' HO334.out).2.2 | (with_reducible refine Kd.C_alloc ?_ _) | (with_reducible refine Kd.C_drewN ?_ _) | (with_reducible refine Kd.C_drew ?_)))
         (case side2 => exact (Kd.R_reads' HO334.out).2.1)
         rintro e w113 ⟨rfl, hb⟩
         refine ⟨_, rfl, ?_⟩
         have n0_ := Aside0.mk (Kd.R_below (rowN HO_1.out) hb)
         have n1_ := Aside0.mk (Kd.R_below (rowN HO331.out) hb)
         have n2_ := Aside0.mk (Kd.R_below (rowN HO334.out) hb)
         have n3_ := Aside0.mk (below_step (belN HB.out) hb)
         clear HO_1
         clear HO331
         clear HO334
         clear HB
         have HO_1 := n0_
         have HO331 := n1_
         have HO334 := n2_
         have HB := n3_
         clear n0_ n1_ n2_ n3_
         (try clear hb)
         (try clear hk)
         refine hK.out _ _ trivial (fun hHeld => ?_)
         clear hK K
         refine norm_ (a' := ?_) ?_ ?_
         rotate_left
         ·show Act.put _ (some 59) _ = _
          simp only [Act.put, List.setIfInBounds_toArray, List.set_cons_zero, List.set_cons_succ, i64_w, i32_w]
          rfl
         refine pA 9 (some 60) (bA 43 1023) HT_.out ?_
         refine pA 10 (some 61) (bA 43 2047) HT_.out ?_
         refine pA 11 (some 62) (bA 43 4095) HT_.out ?_
         refine one_ (i := 12) (N := some 63) (bA 43 8191) rfl rfl (one_of HT_.out (by kernel_rfl)) (by decide) (fun K hK => ?_)
         refine Kd.R_lit_step k41 _ 41 ?hg (N := 63) ?hd (xs := ([(⟨1, (⟨0, 0⟩ : S39)⟩ : S41)] : List (S41))) (inner := [.int .i64 1, .int .i64 0, .int .i64 0]) (ok := fun _ => True) (okp := fun _ => True) ?hr ?hp (fun _ hk => hk) trivial (Below.refl _ _) (Nat.le_refl _) (by simp) ?_; (case hd => rfl); (case hg => rfl); (case hr => first | (go_simp; done) | (go_simp; rfl)); (case hp => exact (Reps.c3 (show Kd.M k41 _ _ _ (⟨1, (⟨0, 0⟩ : S39)⟩ : S41) [.int .i64 1, .int .i64 0, .int .i64 0] from (k41_mkM _ _ _ (⟨1, (⟨0, 0⟩ : S39)⟩ : S41) )) (Reps.none _ _)))
         intro v339 w114 ho115 hb hg_ hnew_
         clear hg_ hnew_
         (first | rw [← Ny338.out] at ho115 | (simp only [Int.reduceToNat] at ho115; rw [← Ny338.out] at ho115))
         have n0_ := Aside0.mk (Kd.R_elder' (rowN HO_1.out) (Kd.R_base ho115) hb)
         have n1_ := Aside0.mk (Kd.R_elder' (rowN HO331.out) (Kd.R_base ho115) hb)
         have n2_ := Aside0.mk (Kd.R_elder' (rowN HO334.out) (Kd.R_base ho115) hb)
         have n3_ := Aside0.mk (Kd.R_lower (Kd.R_new' (Kd.R_new' (Kd.R_new' ho115 (Kd.R_lt (rowN HO_1.out))) (Kd.R_lt (rowN HO331.out))) (Kd.R_lt (rowN HO334.out))) (below_size (belN HB.out)))
         have n4_ := Aside0.mk (below_step (belN HB.out) hb)
         clear HO_1
         clear HO331
         clear HO334
         clear HB
         have HO_1 := n0_
         have HO331 := n1_
         have HO334 := n2_
         have HO340 := n3_
         have HB := n4_
         clear n0_ n1_ n2_ n3_ n4_
         clear hb ho115
         obtain ⟨Ao116, co116, eo116⟩ := Kd.R_slice HO340.out
         (first | subst eo116 | (injection eo116 with f1_ f2_ f3_; have f4_ := f1_.symm; have f5_ := f3_.symm; clear f1_ f2_ f3_; subst f4_; subst f5_))
         refine hK.out _ _ trivial (fun hHeld => ?_)
         clear hK K
         refine norm_ (a' := ?_) ?_ ?_
         rotate_left
         ·show Act.put _ (some 63) _ = _
          simp only [Act.put, List.setIfInBounds_toArray, List.set_cons_zero, List.set_cons_succ, i64_w, i32_w]
          rfl
         refine one_ (i := 13) (N := some 64) (bA 43 16383) rfl rfl (one_of HT_.out (by kernel_rfl)) (by decide) (fun K hK => ?_)
         refine goes_ Try.func15 (by kernel_rfl) rfl #[.slice Ao116 y338.length co116, .int .i64 1] (by rfl) rfl rfl argN ?_
         with_reducible refine (marigraphlaw22_at.calls k1 _ _ y338 1 true _ ?side1 ?side2 A33.out).mono ?_
         (case side1 => repeat (first | exact (Kd.R_reads' HO340.out).2.2 | (with_reducible refine Kd.C_alloc ?_ _) | (with_reducible refine Kd.C_drewN ?_ _) | (with_reducible refine Kd.C_drew ?_)))
         (case side2 => exact (Kd.R_reads' HO340.out).2.1)
         rintro e w117 ⟨rfl, hb⟩
         refine ⟨_, rfl, ?_⟩
         have n0_ := Aside0.mk (Kd.R_below (rowN HO_1.out) hb)
         have n1_ := Aside0.mk (Kd.R_below (rowN HO331.out) hb)
         have n2_ := Aside0.mk (Kd.R_below (rowN HO334.out) hb)
         have n3_ := Aside0.mk (Kd.R_below (rowN HO340.out) hb)
         have n4_ := Aside0.mk (below_step (belN HB.out) hb)
         clear HO_1
         clear HO331
         clear HO334
         clear HO340
         clear HB
         have HO_1 := n0_
         have HO331 := n1_
         have HO334 := n2_
         have HO340 := n3_
         have HB := n4_
         clear n0_ n1_ n2_ n3_ n4_
         (try clear hb)
         (try clear hk)
         refine hK.out _ _ trivial (fun hHeld => ?_)
         clear hK K
         refine norm_ (a' := ?_) ?_ ?_
         rotate_left
         ·show Act.put _ (some 64) _ = _
          simp only [Act.put, List.setIfInBounds_toArray, List.set_cons_zero, List.set_cons_succ, i64_w, i32_w]
          rfl
         refine pA 14 (some 65) (bA 43 32767) HT_.out ?_
         refine pA 15 (some 66) (bA 43 65535) HT_.out ?_
         refine pA 16 (some 67) (bA 43 131071) HT_.out ?_
         refine pA 17 (some 68) (bA 43 262143) HT_.out ?_
         refine pA 18 (some 69) (bA 43 524287) HT_.out ?_
         refine pA 19 (some 70) (bA 43 1048575) HT_.out ?_
         refine one_ (i := 20) (N := some 71) (bA 43 2097151) rfl rfl (one_of HT_.out (by kernel_rfl)) (by decide) (fun K hK => ?_)
         refine Kd.R_lit_step k41 _ 41 ?hg (N := 71) ?hd (xs := ([(⟨5, (⟨0, 1⟩ : S39)⟩ : S41), (⟨4, (⟨0, 1⟩ : S39)⟩ : S41)] : List (S41))) (inner := [.int .i64 5, .int .i64 0, .int .i64 1, .int .i64 4, .int .i64 0, .int .i64 1]) (ok := fun _ => True) (okp := fun _ => True) ?hr ?hp (fun _ hk => hk) trivial (Below.refl _ _) (Nat.le_refl _) (by simp) ?_; (case hd => rfl); (case hg => rfl); (case hr => first | (go_simp; done) | (go_simp; rfl)); (case hp => exact (Reps.c3 (show Kd.M k41 _ _ _ (⟨5, (⟨0, 1⟩ : S39)⟩ : S41) [.int .i64 5, .int .i64 0, .int .i64 1] from (k41_mkM _ _ _ (⟨5, (⟨0, 1⟩ : S39)⟩ : S41) )) (Reps.c3 (show Kd.M k41 _ _ _ (⟨4, (⟨0, 1⟩ : S39)⟩ : S41) [.int .i64 4, .int .i64 0, .int .i64 1] from (k41_mkM _ _ _ (⟨4, (⟨0, 1⟩ : S39)⟩ : S41) )) (Reps.none _ _))))
         intro v343 w118 ho119 hb hg_ hnew_
         clear hg_ hnew_
         (first | rw [← Ny342.out] at ho119 | (simp only [Int.reduceToNat] at ho119; rw [← Ny342.out] at ho119))
         have n0_ := Aside0.mk (Kd.R_elder' (rowN HO_1.out) (Kd.R_base ho119) hb)
         have n1_ := Aside0.mk (Kd.R_elder' (rowN HO331.out) (Kd.R_base ho119) hb)
         have n2_ := Aside0.mk (Kd.R_elder' (rowN HO334.out) (Kd.R_base ho119) hb)
         have n3_ := Aside0.mk (Kd.R_elder' (rowN HO340.out) (Kd.R_base ho119) hb)
         have n4_ := Aside0.mk (Kd.R_lower (Kd.R_new' (Kd.R_new' (Kd.R_new' (Kd.R_new' ho119 (Kd.R_lt (rowN HO_1.out))) (Kd.R_lt (rowN HO331.out))) (Kd.R_lt (rowN HO334.out))) (Kd.R_lt (rowN HO340.out))) (below_size (belN HB.out)))
         have n5_ := Aside0.mk (below_step (belN HB.out) hb)
         clear HO_1
         clear HO331
         clear HO334
         clear HO340
         clear HB
         have HO_1 := n0_
         have HO331 := n1_
         have HO334 := n2_
         have HO340 := n3_
         have HO344 := n4_
         have HB := n5_
         clear n0_ n1_ n2_ n3_ n4_ n5_
         clear hb ho119
         obtain ⟨Ao120, co120, eo120⟩ := Kd.R_slice HO344.out
         (first | subst eo120 | (injection eo120 with f1_ f2_ f3_; have f4_ := f1_.symm; have f5_ := f3_.symm; clear f1_ f2_ f3_; subst f4_; subst f5_))
         refine hK.out _ _ trivial (fun hHeld => ?_)
         clear hK K
         refine norm_ (a' := ?_) ?_ ?_
         rotate_left
         ·show Act.put _ (some 71) _ = _
          simp only [Act.put, List.setIfInBounds_toArray, List.set_cons_zero, List.set_cons_succ, i64_w, i32_w]
          rfl
         refine one_ (i := 21) (N := some 72) (bA 43 4194303) rfl rfl (one_of HT_.out (by kernel_rfl)) (by decide) (fun K hK => ?_)
         refine goes_ Try.func15 (by kernel_rfl) rfl #[.slice Ao120 y342.length co120, .int .i64 5] (by rfl) rfl rfl argN ?_
         with_reducible refine (marigraphlaw22_at.calls k1 _ _ y342 5 false _ ?side1 ?side2 A35.out).mono ?_
         (case side1 => repeat (first | exact (Kd.R_reads' HO344.out).2.2 | (with_reducible refine Kd.C_alloc ?_ _) | (with_reducible refine Kd.C_drewN ?_ _) | (with_reducible refine Kd.C_drew ?_)))
         (case side2 => exact (Kd.R_reads' HO344.out).2.1)
         rintro e w121 ⟨rfl, hb⟩
         refine ⟨_, rfl, ?_⟩
         have n0_ := Aside0.mk (Kd.R_below (rowN HO_1.out) hb)
         have n1_ := Aside0.mk (Kd.R_below (rowN HO331.out) hb)
         have n2_ := Aside0.mk (Kd.R_below (rowN HO334.out) hb)
         have n3_ := Aside0.mk (Kd.R_below (rowN HO340.out) hb)
         have n4_ := Aside0.mk (Kd.R_below (rowN HO344.out) hb)
         have n5_ := Aside0.mk (below_step (belN HB.out) hb)
         clear HO_1
         clear HO331
         clear HO334
         clear HO340
         clear HO344
         clear HB
         have HO_1 := n0_
         have HO331 := n1_
         have HO334 := n2_
         have HO340 := n3_
         have HO344 := n4_
         have HB := n5_
         clear n0_ n1_ n2_ n3_ n4_ n5_
         (try clear hb)
         (try clear hk)
         refine hK.out _ _ trivial (fun hHeld => ?_)
         clear hK K
         refine norm_ (a' := ?_) ?_ ?_
         rotate_left
         ·show Act.put _ (some 72) _ = _
          simp only [Act.put, List.setIfInBounds_toArray, List.set_cons_zero, List.set_cons_succ, i64_w, i32_w]
          rfl
         refine pA 22 (some 73) (bA 43 8388607) HT_.out ?_
         refine pA 23 (some 74) (bA 43 16777215) HT_.out ?_
         refine pU 24 (some 75) (bA 43 33554431) HT_.out ?_
         refine pU 25 (some 76) (bA 43 67108863) HT_.out ?_
         refine pU 26 (some 77) (bA 43 134217727) HT_.out ?_
         refine pU 27 (some 78) (bA 43 268435455) HT_.out ?_
         refine pU 28 (some 79) (bA 43 536870911) HT_.out ?_
         refine pU 29 (some 80) (bA 43 1073741823) HT_.out ?_
         refine pU 30 (some 81) (bA 43 2147483647) HT_.out ?_
         refine pA 31 (some 82) (bA 43 4294967295) HT_.out ?_
         refine pA 32 (some 83) (bA 43 8589934591) HT_.out ?_
         refine pU 33 (some 84) (bA 43 17179869183) HT_.out ?_
         refine pU 34 (some 85) (bA 43 34359738367) HT_.out ?_
         refine pU 35 (some 86) (bA 43 68719476735) HT_.out ?_
         refine pU 36 (some 87) (bA 43 137438953471) HT_.out ?_
         refine pU 37 (some 88) (bA 43 274877906943) HT_.out ?_
         refine pA 38 (some 89) (bA 43 549755813887) HT_.out ?_
         refine pA 39 (some 90) (bA 43 1099511627775) HT_.out ?_
         refine pU 40 (some 91) (bA 43 2199023255551) HT_.out ?_
         refine pA 41 (some 92) (bA 43 4398046511103) HT_.out ?_
         refine pA 42 (some 0) (bA 43 8796093022207) HT_.out ?_
         refine done_ (done_of HT_.out (by kernel_rfl)) ?_
         try go_wp2
         go_ret
         exact ⟨by first | rfl | (simp [errW_none, errW_some] <;> rfl) | (simp [*, errW_none, errW_some] <;> rfl), (belN HB.out)⟩
       ·replace c34 := Bool.eq_false_iff.mpr c34
        subst c34
        have H1 : (some false) = some r := by rw [if_neg (show ¬ (false = true) by decide)] at H; exact H
        clear H
        have H := H1
        clear H1
        obtain rfl := Option.some.inj H
        try go_wp2_with (first | ((with_reducible refine gate_dst (N := 45) rfl ?_); (try (refine gate_guard (by rfl) ?_; dsimp only)); refine Kd.R_lit k41 _ 41 ?hg (N := 45) ?hd (xs := ([(⟨0, (⟨(-2147483647), 1⟩ : S39)⟩ : S41), (⟨4294967295, (⟨2147483647, 1⟩ : S39)⟩ : S41)] : List (S41))) (inner := [.int .i64 0, .int .i64 (-2147483647), .int .i64 1, .int .i64 4294967295, .int .i64 2147483647, .int .i64 1]) (ok := fun _ => True) (okp := fun _ => True) ?hr ?hp (fun _ hk => hk) trivial (Below.refl _ _) (Nat.le_refl _) (by simp) ?_; (case hd => rfl); (case hg => rfl); (case hr => first | (go_simp; done) | (go_simp; rfl)); (case hp => exact (Reps.c3 (show Kd.M k41 _ _ _ (⟨0, (⟨(-2147483647), 1⟩ : S39)⟩ : S41) [.int .i64 0, .int .i64 (-2147483647), .int .i64 1] from (k41_mkM _ _ _ (⟨0, (⟨(-2147483647), 1⟩ : S39)⟩ : S41) )) (Reps.c3 (show Kd.M k41 _ _ _ (⟨4294967295, (⟨2147483647, 1⟩ : S39)⟩ : S41) [.int .i64 4294967295, .int .i64 2147483647, .int .i64 1] from (k41_mkM _ _ _ (⟨4294967295, (⟨2147483647, 1⟩ : S39)⟩ : S41) )) (Reps.none _ _)))); intro v330 w122 ho123 hb hg_ hnew_; clear hg_ hnew_; (first | rw [← Ny329.out] at ho123 | (simp only [Int.reduceToNat] at ho123; rw [← Ny329.out] at ho123)); have n0_ := Aside0.mk (Kd.R_elder' (rowN HO_1.out) (Kd.R_base ho123) hb); have n1_ := Aside0.mk (Kd.R_lower (Kd.R_new' ho123 (Kd.R_lt (rowN HO_1.out))) (below_size (belN HB.out))); have n2_ := Aside0.mk (below_step (belN HB.out) hb); clear HO_1; clear HB; have HO_1 := n0_; have HO331 := n1_; have HB := n2_; clear n0_ n1_ n2_; clear hb ho123) | ((with_reducible refine gate_dst (N := 50) rfl ?_); (try (refine gate_guard (by rfl) ?_; dsimp only)); refine Kd.R_lit k41 _ 41 ?hg (N := 50) ?hd (xs := ([(⟨0, (⟨0, 1⟩ : S39)⟩ : S41), (⟨4294967295, (⟨1, 1⟩ : S39)⟩ : S41)] : List (S41))) (inner := [.int .i64 0, .int .i64 0, .int .i64 1, .int .i64 4294967295, .int .i64 1, .int .i64 1]) (ok := fun _ => True) (okp := fun _ => True) ?hr ?hp (fun _ hk => hk) trivial (Below.refl _ _) (Nat.le_refl _) (by simp) ?_; (case hd => rfl); (case hg => rfl); (case hr => first | (go_simp; done) | (go_simp; rfl)); (case hp => exact (Reps.c3 (show Kd.M k41 _ _ _ (⟨0, (⟨0, 1⟩ : S39)⟩ : S41) [.int .i64 0, .int .i64 0, .int .i64 1] from (k41_mkM _ _ _ (⟨0, (⟨0, 1⟩ : S39)⟩ : S41) )) (Reps.c3 (show Kd.M k41 _ _ _ (⟨4294967295, (⟨1, 1⟩ : S39)⟩ : S41) [.int .i64 4294967295, .int .i64 1, .int .i64 1] from (k41_mkM _ _ _ (⟨4294967295, (⟨1, 1⟩ : S39)⟩ : S41) )) (Reps.none _ _)))); intro v333 w124 ho125 hb hg_ hnew_; clear hg_ hnew_; (first | rw [← Ny332.out] at ho125 | (simp only [Int.reduceToNat] at ho125; rw [← Ny332.out] at ho125)); have n0_ := Aside0.mk (Kd.R_elder' (rowN HO_1.out) (Kd.R_base ho125) hb); have n1_ := Aside0.mk (Kd.R_elder' (rowN HO331.out) (Kd.R_base ho125) hb); have n2_ := Aside0.mk (Kd.R_lower (Kd.R_new' (Kd.R_new' ho125 (Kd.R_lt (rowN HO_1.out))) (Kd.R_lt (rowN HO331.out))) (below_size (belN HB.out))); have n3_ := Aside0.mk (below_step (belN HB.out) hb); clear HO_1; clear HO331; clear HB; have HO_1 := n0_; have HO331 := n1_; have HO334 := n2_; have HB := n3_; clear n0_ n1_ n2_ n3_; clear hb ho125))
        have n0_ := Aside0.mk (Kd.R_drew HO_1.out)
        have n1_ := Aside0.mk (Kd.R_drew HO331.out)
        have n2_ := Aside0.mk (Kd.R_drew HO334.out)
        have n3_ := Aside0.mk (below_drew1 HB.out)
        clear HO_1
        clear HO331
        clear HO334
        clear HB
        have HO_1 := n0_
        have HO331 := n1_
        have HO334 := n2_
        have HB := n3_
        clear n0_ n1_ n2_ n3_
        obtain ⟨Ao127, co127, eo127⟩ := Kd.R_slice HO331.out
        (first | subst eo127 | (injection eo127 with f1_ f2_ f3_; have f4_ := f1_.symm; have f5_ := f3_.symm; clear f1_ f2_ f3_; subst f4_; subst f5_))
        refine start_ (n := 43) (S := fun w' => True) (ds := []) #[false, false, false, false, false, false, false, false, false, false, false, false, false, false, false, false, false, false, false, false, false, false, false, false, false, false, false, false, false, false, false, false, false, false, false, false, false, false, false, false, false, false, false] (by kernel_rfl) rfl rfl trivial (fun hHeld => ?_); refine with_tabW marigraphlaw22_LerpNumbers.tab17 marigraphlaw22_LerpNumbers.bits17 (fun HT_ HW_ => ?_)
        generalize w124.drew = w126 at HO_1 HO331 HO334 HB hHeld ⊢
        refine pA 0 (some 51) (bA 43 1) HT_.out ?_
        refine one_ (i := 1) (N := some 52) (bA 43 3) rfl rfl (one_of HT_.out (by kernel_rfl)) (by decide) (fun K hK => ?_)
        refine goes_ Try.func15 (by kernel_rfl) rfl #[.slice Ao127 y329.length co127, .int .i64 5] (by rfl) rfl rfl argN ?_
        with_reducible refine (marigraphlaw22_at.calls k1 _ _ y329 5 true _ ?side1 ?side2 A27.out).mono ?_
        (case side1 => repeat (first | exact (Kd.R_reads' HO331.out).2.2 | (with_reducible refine Kd.C_alloc ?_ _) | (with_reducible refine Kd.C_drewN ?_ _) | (with_reducible refine Kd.C_drew ?_)))
        (case side2 => exact (Kd.R_reads' HO331.out).2.1)
        rintro e w128 ⟨rfl, hb⟩
        refine ⟨_, rfl, ?_⟩
        have n0_ := Aside0.mk (Kd.R_below (rowN HO_1.out) hb)
        have n1_ := Aside0.mk (Kd.R_below (rowN HO331.out) hb)
        have n2_ := Aside0.mk (Kd.R_below (rowN HO334.out) hb)
        have n3_ := Aside0.mk (below_step (belN HB.out) hb)
        clear HO_1
        clear HO331
        clear HO334
        clear HB
        have HO_1 := n0_
        have HO331 := n1_
        have HO334 := n2_
        have HB := n3_
        clear n0_ n1_ n2_ n3_
        (try clear hb)
        (try clear hk)
        obtain ⟨Ao129, co129, eo129⟩ := Kd.R_slice HO334.out
        (first | subst eo129 | (injection eo129 with f1_ f2_ f3_; have f4_ := f1_.symm; have f5_ := f3_.symm; clear f1_ f2_ f3_; subst f4_; subst f5_))
        refine hK.out _ _ trivial (fun hHeld => ?_)
        clear hK K
        refine norm_ (a' := ?_) ?_ ?_
        rotate_left
        ·show Act.put _ (some 52) _ = _
         simp only [Act.put, List.setIfInBounds_toArray, List.set_cons_zero, List.set_cons_succ, i64_w, i32_w]
         rfl
        refine pA 2 (some 53) (bA 43 7) HT_.out ?_
        refine pA 3 (some 54) (bA 43 15) HT_.out ?_
        refine one_ (i := 4) (N := some 55) (bA 43 31) rfl rfl (one_of HT_.out (by kernel_rfl)) (by decide) (fun K hK => ?_)
        refine goes_ Try.func15 (by kernel_rfl) rfl #[.slice Ao129 y332.length co129, .int .i64 5] (by rfl) rfl rfl argN ?_
        with_reducible refine (marigraphlaw22_at.calls k1 _ _ y332 5 true _ ?side1 ?side2 A29.out).mono ?_
        (case side1 => repeat (first | exact (Kd.R_reads' HO334.out).2.2 | (with_reducible refine Kd.C_alloc ?_ _) | (with_reducible refine Kd.C_drewN ?_ _) | (with_reducible refine Kd.C_drew ?_)))
        (case side2 => exact (Kd.R_reads' HO334.out).2.1)
        rintro e w130 ⟨rfl, hb⟩
        refine ⟨_, rfl, ?_⟩
        have n0_ := Aside0.mk (Kd.R_below (rowN HO_1.out) hb)
        have n1_ := Aside0.mk (Kd.R_below (rowN HO331.out) hb)
        have n2_ := Aside0.mk (Kd.R_below (rowN HO334.out) hb)
        have n3_ := Aside0.mk (below_step (belN HB.out) hb)
        clear HO_1
        clear HO331
        clear HO334
        clear HB
        have HO_1 := n0_
        have HO331 := n1_
        have HO334 := n2_
        have HB := n3_
        clear n0_ n1_ n2_ n3_
        (try clear hb)
        (try clear hk)
        refine hK.out _ _ trivial (fun hHeld => ?_)
        clear hK K
        refine norm_ (a' := ?_) ?_ ?_
        rotate_left
        ·show Act.put _ (some 55) _ = _
         simp only [Act.put, List.setIfInBounds_toArray, List.set_cons_zero, List.set_cons_succ, i64_w, i32_w]
         rfl
        refine pA 5 (some 56) (bA 43 63) HT_.out ?_
        refine pA 6 (some 57) (bA 43 127) HT_.out ?_
        refine pA 7 (some 58) (bA 43 255) HT_.out ?_
        refine one_ (i := 8) (N := some 59) (bA 43 511) rfl rfl (one_of HT_.out (by kernel_rfl)) (by decide) (fun K hK => ?_)
        refine goes_ Try.func15 (by kernel_rfl) rfl #[.slice Ao129 y332.length co129, .int .i64 1431655765] (by rfl) rfl rfl argN ?_
        with_reducible refine (marigraphlaw22_at.calls k1 _ _ y332 1431655765 true _ ?side1 ?side2 A31.out).mono ?_
        (case side1 => repeat (first | exact (Kd.R_reads' HO334.out).2.2 | (with_reducible refine Kd.C_alloc ?_ _) | (with_reducible refine Kd.C_drewN ?_ _) | (with_reducible refine Kd.C_drew ?_)))
        (case side2 => exact (Kd.R_reads' HO334.out).2.1)
        rintro e w131 ⟨rfl, hb⟩
        refine ⟨_, rfl, ?_⟩
        have n0_ := Aside0.mk (Kd.R_below (rowN HO_1.out) hb)
        have n1_ := Aside0.mk (Kd.R_below (rowN HO331.out) hb)
        have n2_ := Aside0.mk (Kd.R_below (rowN HO334.out) hb)
        have n3_ := Aside0.mk (below_step (belN HB.out) hb)
        clear HO_1
        clear HO331
        clear HO334
        clear HB
        have HO_1 := n0_
        have HO331 := n1_
        have HO334 := n2_
        have HB := n3_
        clear n0_ n1_ n2_ n3_
        (try clear hb)
        (try clear hk)
        refine hK.out _ _ trivial (fun hHeld => ?_)
        clear hK K
        refine norm_ (a' := ?_) ?_ ?_
        rotate_left
        ·show Act.put _ (some 59) _ = _
         simp only [Act.put, List.setIfInBounds_toArray, List.set_cons_zero, List.set_cons_succ, i64_w, i32_w]
         rfl
        refine pA 9 (some 60) (bA 43 1023) HT_.out ?_
        refine pA 10 (some 61) (bA 43 2047) HT_.out ?_
        refine pA 11 (some 62) (bA 43 4095) HT_.out ?_
        refine one_ (i := 12) (N := some 63) (bA 43 8191) rfl rfl (one_of HT_.out (by kernel_rfl)) (by decide) (fun K hK => ?_)
        refine Kd.R_lit_step k41 _ 41 ?hg (N := 63) ?hd (xs := ([(⟨1, (⟨0, 0⟩ : S39)⟩ : S41)] : List (S41))) (inner := [.int .i64 1, .int .i64 0, .int .i64 0]) (ok := fun _ => True) (okp := fun _ => True) ?hr ?hp (fun _ hk => hk) trivial (Below.refl _ _) (Nat.le_refl _) (by simp) ?_; (case hd => rfl); (case hg => rfl); (case hr => first | (go_simp; done) | (go_simp; rfl)); (case hp => exact (Reps.c3 (show Kd.M k41 _ _ _ (⟨1, (⟨0, 0⟩ : S39)⟩ : S41) [.int .i64 1, .int .i64 0, .int .i64 0] from (k41_mkM _ _ _ (⟨1, (⟨0, 0⟩ : S39)⟩ : S41) )) (Reps.none _ _)))
        intro v339 w132 ho133 hb hg_ hnew_
        clear hg_ hnew_
        (first | rw [← Ny338.out] at ho133 | (simp only [Int.reduceToNat] at ho133; rw [← Ny338.out] at ho133))
        have n0_ := Aside0.mk (Kd.R_elder' (rowN HO_1.out) (Kd.R_base ho133) hb)
        have n1_ := Aside0.mk (Kd.R_elder' (rowN HO331.out) (Kd.R_base ho133) hb)
        have n2_ := Aside0.mk (Kd.R_elder' (rowN HO334.out) (Kd.R_base ho133) hb)
        have n3_ := Aside0.mk (Kd.R_lower (Kd.R_new' (Kd.R_new' (Kd.R_new' ho133 (Kd.R_lt (rowN HO_1.out))) (Kd.R_lt (rowN HO331.out))) (Kd.R_lt (rowN HO334.out))) (below_size (belN HB.out)))
        have n4_ := Aside0.mk (below_step (belN HB.out) hb)
        clear HO_1
        clear HO331
        clear HO334
        clear HB
        have HO_1 := n0_
        have HO331 := n1_
        have HO334 := n2_
        have HO340 := n3_
        have HB := n4_
        clear n0_ n1_ n2_ n3_ n4_
        clear hb ho133
        obtain ⟨Ao134, co134, eo134⟩ := Kd.R_slice HO340.out
        (first | subst eo134 | (injection eo134 with f1_ f2_ f3_; have f4_ := f1_.symm; have f5_ := f3_.symm; clear f1_ f2_ f3_; subst f4_; subst f5_))
        refine hK.out _ _ trivial (fun hHeld => ?_)
        clear hK K
        refine norm_ (a' := ?_) ?_ ?_
        rotate_left
        ·show Act.put _ (some 63) _ = _
         simp only [Act.put, List.setIfInBounds_toArray, List.set_cons_zero, List.set_cons_succ, i64_w, i32_w]
         rfl
        refine one_ (i := 13) (N := some 64) (bA 43 16383) rfl rfl (one_of HT_.out (by kernel_rfl)) (by decide) (fun K hK => ?_)
        refine goes_ Try.func15 (by kernel_rfl) rfl #[.slice Ao134 y338.length co134, .int .i64 1] (by rfl) rfl rfl argN ?_
        with_reducible refine (marigraphlaw22_at.calls k1 _ _ y338 1 false _ ?side1 ?side2 A33.out).mono ?_
        (case side1 => repeat (first | exact (Kd.R_reads' HO340.out).2.2 | (with_reducible refine Kd.C_alloc ?_ _) | (with_reducible refine Kd.C_drewN ?_ _) | (with_reducible refine Kd.C_drew ?_)))
        (case side2 => exact (Kd.R_reads' HO340.out).2.1)
        rintro e w135 ⟨rfl, hb⟩
        refine ⟨_, rfl, ?_⟩
        have n0_ := Aside0.mk (Kd.R_below (rowN HO_1.out) hb)
        have n1_ := Aside0.mk (Kd.R_below (rowN HO331.out) hb)
        have n2_ := Aside0.mk (Kd.R_below (rowN HO334.out) hb)
        have n3_ := Aside0.mk (Kd.R_below (rowN HO340.out) hb)
        have n4_ := Aside0.mk (below_step (belN HB.out) hb)
        clear HO_1
        clear HO331
        clear HO334
        clear HO340
        clear HB
        have HO_1 := n0_
        have HO331 := n1_
        have HO334 := n2_
        have HO340 := n3_
        have HB := n4_
        clear n0_ n1_ n2_ n3_ n4_
        (try clear hb)
        (try clear hk)
        refine hK.out _ _ trivial (fun hHeld => ?_)
        clear hK K
        refine norm_ (a' := ?_) ?_ ?_
        rotate_left
        ·show Act.put _ (some 64) _ = _
         simp only [Act.put, List.setIfInBounds_toArray, List.set_cons_zero, List.set_cons_succ, i64_w, i32_w]
         rfl
        refine pA 14 (some 65) (bA 43 32767) HT_.out ?_
        refine pA 15 (some 66) (bA 43 65535) HT_.out ?_
        refine pU 16 (some 67) (bA 43 131071) HT_.out ?_
        refine pU 17 (some 68) (bA 43 262143) HT_.out ?_
        refine pU 18 (some 69) (bA 43 524287) HT_.out ?_
        refine pU 19 (some 70) (bA 43 1048575) HT_.out ?_
        refine pU 20 (some 71) (bA 43 2097151) HT_.out ?_
        refine pU 21 (some 72) (bA 43 4194303) HT_.out ?_
        refine pA 22 (some 73) (bA 43 8388607) HT_.out ?_
        refine pA 23 (some 74) (bA 43 16777215) HT_.out ?_
        refine pU 24 (some 75) (bA 43 33554431) HT_.out ?_
        refine pU 25 (some 76) (bA 43 67108863) HT_.out ?_
        refine pU 26 (some 77) (bA 43 134217727) HT_.out ?_
        refine pU 27 (some 78) (bA 43 268435455) HT_.out ?_
        refine pU 28 (some 79) (bA 43 536870911) HT_.out ?_
        refine pU 29 (some 80) (bA 43 1073741823) HT_.out ?_
        refine pU 30 (some 81) (bA 43 2147483647) HT_.out ?_
        refine pA 31 (some 82) (bA 43 4294967295) HT_.out ?_
        refine pA 32 (some 83) (bA 43 8589934591) HT_.out ?_
        refine pU 33 (some 84) (bA 43 17179869183) HT_.out ?_
        refine pU 34 (some 85) (bA 43 34359738367) HT_.out ?_
        refine pU 35 (some 86) (bA 43 68719476735) HT_.out ?_
        refine pU 36 (some 87) (bA 43 137438953471) HT_.out ?_
        refine pU 37 (some 88) (bA 43 274877906943) HT_.out ?_
        refine pA 38 (some 89) (bA 43 549755813887) HT_.out ?_
        refine pA 39 (some 90) (bA 43 1099511627775) HT_.out ?_
        refine pU 40 (some 91) (bA 43 2199023255551) HT_.out ?_
        refine pA 41 (some 92) (bA 43 4398046511103) HT_.out ?_
        refine pA 42 (some 0) (bA 43 8796093022207) HT_.out ?_
        refine done_ (done_of HT_.out (by kernel_rfl)) ?_
        try go_wp2
        go_ret
        exact ⟨by first | rfl | (simp [errW_none, errW_some] <;> rfl) | (simp [*, errW_none, errW_some] <;> rfl), (belN HB.out)⟩
      ·replace c32 := Bool.eq_false_iff.mpr c32
       subst c32
       have H1 : (some false) = some r := by rw [if_neg (show ¬ (false = true) by decide)] at H; exact H
       clear H
       have H := H1
       clear H1
       obtain rfl := Option.some.inj H
       try go_wp2_with (first | ((with_reducible refine gate_dst (N := 45) rfl ?_); (try (refine gate_guard (by rfl) ?_; dsimp only)); refine Kd.R_lit k41 _ 41 ?hg (N := 45) ?hd (xs := ([(⟨0, (⟨(-2147483647), 1⟩ : S39)⟩ : S41), (⟨4294967295, (⟨2147483647, 1⟩ : S39)⟩ : S41)] : List (S41))) (inner := [.int .i64 0, .int .i64 (-2147483647), .int .i64 1, .int .i64 4294967295, .int .i64 2147483647, .int .i64 1]) (ok := fun _ => True) (okp := fun _ => True) ?hr ?hp (fun _ hk => hk) trivial (Below.refl _ _) (Nat.le_refl _) (by simp) ?_; (case hd => rfl); (case hg => rfl); (case hr => first | (go_simp; done) | (go_simp; rfl)); (case hp => exact (Reps.c3 (show Kd.M k41 _ _ _ (⟨0, (⟨(-2147483647), 1⟩ : S39)⟩ : S41) [.int .i64 0, .int .i64 (-2147483647), .int .i64 1] from (k41_mkM _ _ _ (⟨0, (⟨(-2147483647), 1⟩ : S39)⟩ : S41) )) (Reps.c3 (show Kd.M k41 _ _ _ (⟨4294967295, (⟨2147483647, 1⟩ : S39)⟩ : S41) [.int .i64 4294967295, .int .i64 2147483647, .int .i64 1] from (k41_mkM _ _ _ (⟨4294967295, (⟨2147483647, 1⟩ : S39)⟩ : S41) )) (Reps.none _ _)))); intro v330 w136 ho137 hb hg_ hnew_; clear hg_ hnew_; (first | rw [← Ny329.out] at ho137 | (simp only [Int.reduceToNat] at ho137; rw [← Ny329.out] at ho137)); have n0_ := Aside0.mk (Kd.R_elder' (rowN HO_1.out) (Kd.R_base ho137) hb); have n1_ := Aside0.mk (Kd.R_lower (Kd.R_new' ho137 (Kd.R_lt (rowN HO_1.out))) (below_size (belN HB.out))); have n2_ := Aside0.mk (below_step (belN HB.out) hb); clear HO_1; clear HB; have HO_1 := n0_; have HO331 := n1_; have HB := n2_; clear n0_ n1_ n2_; clear hb ho137) | ((with_reducible refine gate_dst (N := 50) rfl ?_); (try (refine gate_guard (by rfl) ?_; dsimp only)); refine Kd.R_lit k41 _ 41 ?hg (N := 50) ?hd (xs := ([(⟨0, (⟨0, 1⟩ : S39)⟩ : S41), (⟨4294967295, (⟨1, 1⟩ : S39)⟩ : S41)] : List (S41))) (inner := [.int .i64 0, .int .i64 0, .int .i64 1, .int .i64 4294967295, .int .i64 1, .int .i64 1]) (ok := fun _ => True) (okp := fun _ => True) ?hr ?hp (fun _ hk => hk) trivial (Below.refl _ _) (Nat.le_refl _) (by simp) ?_; (case hd => rfl); (case hg => rfl); (case hr => first | (go_simp; done) | (go_simp; rfl)); (case hp => exact (Reps.c3 (show Kd.M k41 _ _ _ (⟨0, (⟨0, 1⟩ : S39)⟩ : S41) [.int .i64 0, .int .i64 0, .int .i64 1] from (k41_mkM _ _ _ (⟨0, (⟨0, 1⟩ : S39)⟩ : S41) )) (Reps.c3 (show Kd.M k41 _ _ _ (⟨4294967295, (⟨1, 1⟩ : S39)⟩ : S41) [.int .i64 4294967295, .int .i64 1, .int .i64 1] from (k41_mkM _ _ _ (⟨4294967295, (⟨1, 1⟩ : S39)⟩ : S41) )) (Reps.none _ _)))); intro v333 w138 ho139 hb hg_ hnew_; clear hg_ hnew_; (first | rw [← Ny332.out] at ho139 | (simp only [Int.reduceToNat] at ho139; rw [← Ny332.out] at ho139)); have n0_ := Aside0.mk (Kd.R_elder' (rowN HO_1.out) (Kd.R_base ho139) hb); have n1_ := Aside0.mk (Kd.R_elder' (rowN HO331.out) (Kd.R_base ho139) hb); have n2_ := Aside0.mk (Kd.R_lower (Kd.R_new' (Kd.R_new' ho139 (Kd.R_lt (rowN HO_1.out))) (Kd.R_lt (rowN HO331.out))) (below_size (belN HB.out))); have n3_ := Aside0.mk (below_step (belN HB.out) hb); clear HO_1; clear HO331; clear HB; have HO_1 := n0_; have HO331 := n1_; have HO334 := n2_; have HB := n3_; clear n0_ n1_ n2_ n3_; clear hb ho139))
       have n0_ := Aside0.mk (Kd.R_drew HO_1.out)
       have n1_ := Aside0.mk (Kd.R_drew HO331.out)
       have n2_ := Aside0.mk (Kd.R_drew HO334.out)
       have n3_ := Aside0.mk (below_drew1 HB.out)
       clear HO_1
       clear HO331
       clear HO334
       clear HB
       have HO_1 := n0_
       have HO331 := n1_
       have HO334 := n2_
       have HB := n3_
       clear n0_ n1_ n2_ n3_
       obtain ⟨Ao141, co141, eo141⟩ := Kd.R_slice HO331.out
       (first | subst eo141 | (injection eo141 with f1_ f2_ f3_; have f4_ := f1_.symm; have f5_ := f3_.symm; clear f1_ f2_ f3_; subst f4_; subst f5_))
       refine start_ (n := 43) (S := fun w' => True) (ds := []) #[false, false, false, false, false, false, false, false, false, false, false, false, false, false, false, false, false, false, false, false, false, false, false, false, false, false, false, false, false, false, false, false, false, false, false, false, false, false, false, false, false, false, false] (by kernel_rfl) rfl rfl trivial (fun hHeld => ?_); refine with_tabW marigraphlaw22_LerpNumbers.tab17 marigraphlaw22_LerpNumbers.bits17 (fun HT_ HW_ => ?_)
       generalize w138.drew = w140 at HO_1 HO331 HO334 HB hHeld ⊢
       refine pA 0 (some 51) (bA 43 1) HT_.out ?_
       refine one_ (i := 1) (N := some 52) (bA 43 3) rfl rfl (one_of HT_.out (by kernel_rfl)) (by decide) (fun K hK => ?_)
       refine goes_ Try.func15 (by kernel_rfl) rfl #[.slice Ao141 y329.length co141, .int .i64 5] (by rfl) rfl rfl argN ?_
       with_reducible refine (marigraphlaw22_at.calls k1 _ _ y329 5 true _ ?side1 ?side2 A27.out).mono ?_
       (case side1 => repeat (first | exact (Kd.R_reads' HO331.out).2.2 | (with_reducible refine Kd.C_alloc ?_ _) | (with_reducible refine Kd.C_drewN ?_ _) | (with_reducible refine Kd.C_drew ?_)))
       (case side2 => exact (Kd.R_reads' HO331.out).2.1)
       rintro e w142 ⟨rfl, hb⟩
       refine ⟨_, rfl, ?_⟩
       have n0_ := Aside0.mk (Kd.R_below (rowN HO_1.out) hb)
       have n1_ := Aside0.mk (Kd.R_below (rowN HO331.out) hb)
       have n2_ := Aside0.mk (Kd.R_below (rowN HO334.out) hb)
       have n3_ := Aside0.mk (below_step (belN HB.out) hb)
       clear HO_1
       clear HO331
       clear HO334
       clear HB
       have HO_1 := n0_
       have HO331 := n1_
       have HO334 := n2_
       have HB := n3_
       clear n0_ n1_ n2_ n3_
       (try clear hb)
       (try clear hk)
       obtain ⟨Ao143, co143, eo143⟩ := Kd.R_slice HO334.out
       (first | subst eo143 | (injection eo143 with f1_ f2_ f3_; have f4_ := f1_.symm; have f5_ := f3_.symm; clear f1_ f2_ f3_; subst f4_; subst f5_))
       refine hK.out _ _ trivial (fun hHeld => ?_)
       clear hK K
       refine norm_ (a' := ?_) ?_ ?_
       rotate_left
       ·show Act.put _ (some 52) _ = _
        simp only [Act.put, List.setIfInBounds_toArray, List.set_cons_zero, List.set_cons_succ, i64_w, i32_w]
        rfl
       refine pA 2 (some 53) (bA 43 7) HT_.out ?_
       refine pA 3 (some 54) (bA 43 15) HT_.out ?_
       refine one_ (i := 4) (N := some 55) (bA 43 31) rfl rfl (one_of HT_.out (by kernel_rfl)) (by decide) (fun K hK => ?_)
       refine goes_ Try.func15 (by kernel_rfl) rfl #[.slice Ao143 y332.length co143, .int .i64 5] (by rfl) rfl rfl argN ?_
       with_reducible refine (marigraphlaw22_at.calls k1 _ _ y332 5 true _ ?side1 ?side2 A29.out).mono ?_
       (case side1 => repeat (first | exact (Kd.R_reads' HO334.out).2.2 | (with_reducible refine Kd.C_alloc ?_ _) | (with_reducible refine Kd.C_drewN ?_ _) | (with_reducible refine Kd.C_drew ?_)))
       (case side2 => exact (Kd.R_reads' HO334.out).2.1)
       rintro e w144 ⟨rfl, hb⟩
       refine ⟨_, rfl, ?_⟩
       have n0_ := Aside0.mk (Kd.R_below (rowN HO_1.out) hb)
       have n1_ := Aside0.mk (Kd.R_below (rowN HO331.out) hb)
       have n2_ := Aside0.mk (Kd.R_below (rowN HO334.out) hb)
       have n3_ := Aside0.mk (below_step (belN HB.out) hb)
       clear HO_1
       clear HO331
       clear HO334
       clear HB
       have HO_1 := n0_
       have HO331 := n1_
       have HO334 := n2_
       have HB := n3_
       clear n0_ n1_ n2_ n3_
       (try clear hb)
       (try clear hk)
       refine hK.out _ _ trivial (fun hHeld => ?_)
       clear hK K
       refine norm_ (a' := ?_) ?_ ?_
       rotate_left
       ·show Act.put _ (some 55) _ = _
        simp only [Act.put, List.setIfInBounds_toArray, List.set_cons_zero, List.set_cons_succ, i64_w, i32_w]
        rfl
       refine pA 5 (some 56) (bA 43 63) HT_.out ?_
       refine pA 6 (some 57) (bA 43 127) HT_.out ?_
       refine pA 7 (some 58) (bA 43 255) HT_.out ?_
       refine one_ (i := 8) (N := some 59) (bA 43 511) rfl rfl (one_of HT_.out (by kernel_rfl)) (by decide) (fun K hK => ?_)
       refine goes_ Try.func15 (by kernel_rfl) rfl #[.slice Ao143 y332.length co143, .int .i64 1431655765] (by rfl) rfl rfl argN ?_
       with_reducible refine (marigraphlaw22_at.calls k1 _ _ y332 1431655765 false _ ?side1 ?side2 A31.out).mono ?_
       (case side1 => repeat (first | exact (Kd.R_reads' HO334.out).2.2 | (with_reducible refine Kd.C_alloc ?_ _) | (with_reducible refine Kd.C_drewN ?_ _) | (with_reducible refine Kd.C_drew ?_)))
       (case side2 => exact (Kd.R_reads' HO334.out).2.1)
       rintro e w145 ⟨rfl, hb⟩
       refine ⟨_, rfl, ?_⟩
       have n0_ := Aside0.mk (Kd.R_below (rowN HO_1.out) hb)
       have n1_ := Aside0.mk (Kd.R_below (rowN HO331.out) hb)
       have n2_ := Aside0.mk (Kd.R_below (rowN HO334.out) hb)
       have n3_ := Aside0.mk (below_step (belN HB.out) hb)
       clear HO_1
       clear HO331
       clear HO334
       clear HB
       have HO_1 := n0_
       have HO331 := n1_
       have HO334 := n2_
       have HB := n3_
       clear n0_ n1_ n2_ n3_
       (try clear hb)
       (try clear hk)
       refine hK.out _ _ trivial (fun hHeld => ?_)
       clear hK K
       refine norm_ (a' := ?_) ?_ ?_
       rotate_left
       ·show Act.put _ (some 59) _ = _
        simp only [Act.put, List.setIfInBounds_toArray, List.set_cons_zero, List.set_cons_succ, i64_w, i32_w]
        rfl
       refine pA 9 (some 60) (bA 43 1023) HT_.out ?_
       refine pA 10 (some 61) (bA 43 2047) HT_.out ?_
       refine pU 11 (some 62) (bA 43 4095) HT_.out ?_
       refine pU 12 (some 63) (bA 43 8191) HT_.out ?_
       refine pU 13 (some 64) (bA 43 16383) HT_.out ?_
       refine pA 14 (some 65) (bA 43 32767) HT_.out ?_
       refine pA 15 (some 66) (bA 43 65535) HT_.out ?_
       refine pU 16 (some 67) (bA 43 131071) HT_.out ?_
       refine pU 17 (some 68) (bA 43 262143) HT_.out ?_
       refine pU 18 (some 69) (bA 43 524287) HT_.out ?_
       refine pU 19 (some 70) (bA 43 1048575) HT_.out ?_
       refine pU 20 (some 71) (bA 43 2097151) HT_.out ?_
       refine pU 21 (some 72) (bA 43 4194303) HT_.out ?_
       refine pA 22 (some 73) (bA 43 8388607) HT_.out ?_
       refine pA 23 (some 74) (bA 43 16777215) HT_.out ?_
       refine pU 24 (some 75) (bA 43 33554431) HT_.out ?_
       refine pU 25 (some 76) (bA 43 67108863) HT_.out ?_
       refine pU 26 (some 77) (bA 43 134217727) HT_.out ?_
       refine pU 27 (some 78) (bA 43 268435455) HT_.out ?_
       refine pU 28 (some 79) (bA 43 536870911) HT_.out ?_
       refine pU 29 (some 80) (bA 43 1073741823) HT_.out ?_
       refine pU 30 (some 81) (bA 43 2147483647) HT_.out ?_
       refine pA 31 (some 82) (bA 43 4294967295) HT_.out ?_
       refine pA 32 (some 83) (bA 43 8589934591) HT_.out ?_
       refine pU 33 (some 84) (bA 43 17179869183) HT_.out ?_
       refine pU 34 (some 85) (bA 43 34359738367) HT_.out ?_
       refine pU 35 (some 86) (bA 43 68719476735) HT_.out ?_
       refine pU 36 (some 87) (bA 43 137438953471) HT_.out ?_
       refine pU 37 (some 88) (bA 43 274877906943) HT_.out ?_
       refine pA 38 (some 89) (bA 43 549755813887) HT_.out ?_
       refine pA 39 (some 90) (bA 43 1099511627775) HT_.out ?_
       refine pU 40 (some 91) (bA 43 2199023255551) HT_.out ?_
       refine pA 41 (some 92) (bA 43 4398046511103) HT_.out ?_
       refine pA 42 (some 0) (bA 43 8796093022207) HT_.out ?_
       refine done_ (done_of HT_.out (by kernel_rfl)) ?_
       try go_wp2
       go_ret
       exact ⟨by first | rfl | (simp [errW_none, errW_some] <;> rfl) | (simp [*, errW_none, errW_some] <;> rfl), (belN HB.out)⟩
     ·replace c30 := Bool.eq_false_iff.mpr c30
      subst c30
      have H1 : (some false) = some r := by rw [if_neg (show ¬ (false = true) by decide)] at H; exact H
      clear H
      have H := H1
      clear H1
      obtain rfl := Option.some.inj H
      try go_wp2_with (first | ((with_reducible refine gate_dst (N := 45) rfl ?_); (try (refine gate_guard (by rfl) ?_; dsimp only)); refine Kd.R_lit k41 _ 41 ?hg (N := 45) ?hd (xs := ([(⟨0, (⟨(-2147483647), 1⟩ : S39)⟩ : S41), (⟨4294967295, (⟨2147483647, 1⟩ : S39)⟩ : S41)] : List (S41))) (inner := [.int .i64 0, .int .i64 (-2147483647), .int .i64 1, .int .i64 4294967295, .int .i64 2147483647, .int .i64 1]) (ok := fun _ => True) (okp := fun _ => True) ?hr ?hp (fun _ hk => hk) trivial (Below.refl _ _) (Nat.le_refl _) (by simp) ?_; (case hd => rfl); (case hg => rfl); (case hr => first | (go_simp; done) | (go_simp; rfl)); (case hp => exact (Reps.c3 (show Kd.M k41 _ _ _ (⟨0, (⟨(-2147483647), 1⟩ : S39)⟩ : S41) [.int .i64 0, .int .i64 (-2147483647), .int .i64 1] from (k41_mkM _ _ _ (⟨0, (⟨(-2147483647), 1⟩ : S39)⟩ : S41) )) (Reps.c3 (show Kd.M k41 _ _ _ (⟨4294967295, (⟨2147483647, 1⟩ : S39)⟩ : S41) [.int .i64 4294967295, .int .i64 2147483647, .int .i64 1] from (k41_mkM _ _ _ (⟨4294967295, (⟨2147483647, 1⟩ : S39)⟩ : S41) )) (Reps.none _ _)))); intro v330 w146 ho147 hb hg_ hnew_; clear hg_ hnew_; (first | rw [← Ny329.out] at ho147 | (simp only [Int.reduceToNat] at ho147; rw [← Ny329.out] at ho147)); have n0_ := Aside0.mk (Kd.R_elder' (rowN HO_1.out) (Kd.R_base ho147) hb); have n1_ := Aside0.mk (Kd.R_lower (Kd.R_new' ho147 (Kd.R_lt (rowN HO_1.out))) (below_size (belN HB.out))); have n2_ := Aside0.mk (below_step (belN HB.out) hb); clear HO_1; clear HB; have HO_1 := n0_; have HO331 := n1_; have HB := n2_; clear n0_ n1_ n2_; clear hb ho147) | ((with_reducible refine gate_dst (N := 50) rfl ?_); (try (refine gate_guard (by rfl) ?_; dsimp only)); refine Kd.R_lit k41 _ 41 ?hg (N := 50) ?hd (xs := ([(⟨0, (⟨0, 1⟩ : S39)⟩ : S41), (⟨4294967295, (⟨1, 1⟩ : S39)⟩ : S41)] : List (S41))) (inner := [.int .i64 0, .int .i64 0, .int .i64 1, .int .i64 4294967295, .int .i64 1, .int .i64 1]) (ok := fun _ => True) (okp := fun _ => True) ?hr ?hp (fun _ hk => hk) trivial (Below.refl _ _) (Nat.le_refl _) (by simp) ?_; (case hd => rfl); (case hg => rfl); (case hr => first | (go_simp; done) | (go_simp; rfl)); (case hp => exact (Reps.c3 (show Kd.M k41 _ _ _ (⟨0, (⟨0, 1⟩ : S39)⟩ : S41) [.int .i64 0, .int .i64 0, .int .i64 1] from (k41_mkM _ _ _ (⟨0, (⟨0, 1⟩ : S39)⟩ : S41) )) (Reps.c3 (show Kd.M k41 _ _ _ (⟨4294967295, (⟨1, 1⟩ : S39)⟩ : S41) [.int .i64 4294967295, .int .i64 1, .int .i64 1] from (k41_mkM _ _ _ (⟨4294967295, (⟨1, 1⟩ : S39)⟩ : S41) )) (Reps.none _ _)))); intro v333 w148 ho149 hb hg_ hnew_; clear hg_ hnew_; (first | rw [← Ny332.out] at ho149 | (simp only [Int.reduceToNat] at ho149; rw [← Ny332.out] at ho149)); have n0_ := Aside0.mk (Kd.R_elder' (rowN HO_1.out) (Kd.R_base ho149) hb); have n1_ := Aside0.mk (Kd.R_elder' (rowN HO331.out) (Kd.R_base ho149) hb); have n2_ := Aside0.mk (Kd.R_lower (Kd.R_new' (Kd.R_new' ho149 (Kd.R_lt (rowN HO_1.out))) (Kd.R_lt (rowN HO331.out))) (below_size (belN HB.out))); have n3_ := Aside0.mk (below_step (belN HB.out) hb); clear HO_1; clear HO331; clear HB; have HO_1 := n0_; have HO331 := n1_; have HO334 := n2_; have HB := n3_; clear n0_ n1_ n2_ n3_; clear hb ho149))
      have n0_ := Aside0.mk (Kd.R_drew HO_1.out)
      have n1_ := Aside0.mk (Kd.R_drew HO331.out)
      have n2_ := Aside0.mk (Kd.R_drew HO334.out)
      have n3_ := Aside0.mk (below_drew1 HB.out)
      clear HO_1
      clear HO331
      clear HO334
      clear HB
      have HO_1 := n0_
      have HO331 := n1_
      have HO334 := n2_
      have HB := n3_
      clear n0_ n1_ n2_ n3_
      obtain ⟨Ao151, co151, eo151⟩ := Kd.R_slice HO331.out
      (first | subst eo151 | (injection eo151 with f1_ f2_ f3_; have f4_ := f1_.symm; have f5_ := f3_.symm; clear f1_ f2_ f3_; subst f4_; subst f5_))
      refine start_ (n := 43) (S := fun w' => True) (ds := []) #[false, false, false, false, false, false, false, false, false, false, false, false, false, false, false, false, false, false, false, false, false, false, false, false, false, false, false, false, false, false, false, false, false, false, false, false, false, false, false, false, false, false, false] (by kernel_rfl) rfl rfl trivial (fun hHeld => ?_); refine with_tabW marigraphlaw22_LerpNumbers.tab17 marigraphlaw22_LerpNumbers.bits17 (fun HT_ HW_ => ?_)
      generalize w148.drew = w150 at HO_1 HO331 HO334 HB hHeld ⊢
      refine pA 0 (some 51) (bA 43 1) HT_.out ?_
      refine one_ (i := 1) (N := some 52) (bA 43 3) rfl rfl (one_of HT_.out (by kernel_rfl)) (by decide) (fun K hK => ?_)
      refine goes_ Try.func15 (by kernel_rfl) rfl #[.slice Ao151 y329.length co151, .int .i64 5] (by rfl) rfl rfl argN ?_
      with_reducible refine (marigraphlaw22_at.calls k1 _ _ y329 5 true _ ?side1 ?side2 A27.out).mono ?_
      (case side1 => repeat (first | exact (Kd.R_reads' HO331.out).2.2 | (with_reducible refine Kd.C_alloc ?_ _) | (with_reducible refine Kd.C_drewN ?_ _) | (with_reducible refine Kd.C_drew ?_)))
      (case side2 => exact (Kd.R_reads' HO331.out).2.1)
      rintro e w152 ⟨rfl, hb⟩
      refine ⟨_, rfl, ?_⟩
      have n0_ := Aside0.mk (Kd.R_below (rowN HO_1.out) hb)
      have n1_ := Aside0.mk (Kd.R_below (rowN HO331.out) hb)
      have n2_ := Aside0.mk (Kd.R_below (rowN HO334.out) hb)
      have n3_ := Aside0.mk (below_step (belN HB.out) hb)
      clear HO_1
      clear HO331
      clear HO334
      clear HB
      have HO_1 := n0_
      have HO331 := n1_
      have HO334 := n2_
      have HB := n3_
      clear n0_ n1_ n2_ n3_
      (try clear hb)
      (try clear hk)
      obtain ⟨Ao153, co153, eo153⟩ := Kd.R_slice HO334.out
      (first | subst eo153 | (injection eo153 with f1_ f2_ f3_; have f4_ := f1_.symm; have f5_ := f3_.symm; clear f1_ f2_ f3_; subst f4_; subst f5_))
      refine hK.out _ _ trivial (fun hHeld => ?_)
      clear hK K
      refine norm_ (a' := ?_) ?_ ?_
      rotate_left
      ·show Act.put _ (some 52) _ = _
       simp only [Act.put, List.setIfInBounds_toArray, List.set_cons_zero, List.set_cons_succ, i64_w, i32_w]
       rfl
      refine pA 2 (some 53) (bA 43 7) HT_.out ?_
      refine pA 3 (some 54) (bA 43 15) HT_.out ?_
      refine one_ (i := 4) (N := some 55) (bA 43 31) rfl rfl (one_of HT_.out (by kernel_rfl)) (by decide) (fun K hK => ?_)
      refine goes_ Try.func15 (by kernel_rfl) rfl #[.slice Ao153 y332.length co153, .int .i64 5] (by rfl) rfl rfl argN ?_
      with_reducible refine (marigraphlaw22_at.calls k1 _ _ y332 5 false _ ?side1 ?side2 A29.out).mono ?_
      (case side1 => repeat (first | exact (Kd.R_reads' HO334.out).2.2 | (with_reducible refine Kd.C_alloc ?_ _) | (with_reducible refine Kd.C_drewN ?_ _) | (with_reducible refine Kd.C_drew ?_)))
      (case side2 => exact (Kd.R_reads' HO334.out).2.1)
      rintro e w154 ⟨rfl, hb⟩
      refine ⟨_, rfl, ?_⟩
      have n0_ := Aside0.mk (Kd.R_below (rowN HO_1.out) hb)
      have n1_ := Aside0.mk (Kd.R_below (rowN HO331.out) hb)
      have n2_ := Aside0.mk (Kd.R_below (rowN HO334.out) hb)
      have n3_ := Aside0.mk (below_step (belN HB.out) hb)
      clear HO_1
      clear HO331
      clear HO334
      clear HB
      have HO_1 := n0_
      have HO331 := n1_
      have HO334 := n2_
      have HB := n3_
      clear n0_ n1_ n2_ n3_
      (try clear hb)
      (try clear hk)
      refine hK.out _ _ trivial (fun hHeld => ?_)
      clear hK K
      refine norm_ (a' := ?_) ?_ ?_
      rotate_left
      ·show Act.put _ (some 55) _ = _
       simp only [Act.put, List.setIfInBounds_toArray, List.set_cons_zero, List.set_cons_succ, i64_w, i32_w]
       rfl
      refine pA 5 (some 56) (bA 43 63) HT_.out ?_
      refine pA 6 (some 57) (bA 43 127) HT_.out ?_
      refine pU 7 (some 58) (bA 43 255) HT_.out ?_
      refine pU 8 (some 59) (bA 43 511) HT_.out ?_
      refine pA 9 (some 60) (bA 43 1023) HT_.out ?_
      refine pA 10 (some 61) (bA 43 2047) HT_.out ?_
      refine pU 11 (some 62) (bA 43 4095) HT_.out ?_
      refine pU 12 (some 63) (bA 43 8191) HT_.out ?_
      refine pU 13 (some 64) (bA 43 16383) HT_.out ?_
      refine pA 14 (some 65) (bA 43 32767) HT_.out ?_
      refine pA 15 (some 66) (bA 43 65535) HT_.out ?_
      refine pU 16 (some 67) (bA 43 131071) HT_.out ?_
      refine pU 17 (some 68) (bA 43 262143) HT_.out ?_
      refine pU 18 (some 69) (bA 43 524287) HT_.out ?_
      refine pU 19 (some 70) (bA 43 1048575) HT_.out ?_
      refine pU 20 (some 71) (bA 43 2097151) HT_.out ?_
      refine pU 21 (some 72) (bA 43 4194303) HT_.out ?_
      refine pA 22 (some 73) (bA 43 8388607) HT_.out ?_
      refine pA 23 (some 74) (bA 43 16777215) HT_.out ?_
      refine pU 24 (some 75) (bA 43 33554431) HT_.out ?_
      refine pU 25 (some 76) (bA 43 67108863) HT_.out ?_
      refine pU 26 (some 77) (bA 43 134217727) HT_.out ?_
      refine pU 27 (some 78) (bA 43 268435455) HT_.out ?_
      refine pU 28 (some 79) (bA 43 536870911) HT_.out ?_
      refine pU 29 (some 80) (bA 43 1073741823) HT_.out ?_
      refine pU 30 (some 81) (bA 43 2147483647) HT_.out ?_
      refine pA 31 (some 82) (bA 43 4294967295) HT_.out ?_
      refine pA 32 (some 83) (bA 43 8589934591) HT_.out ?_
      refine pU 33 (some 84) (bA 43 17179869183) HT_.out ?_
      refine pU 34 (some 85) (bA 43 34359738367) HT_.out ?_
      refine pU 35 (some 86) (bA 43 68719476735) HT_.out ?_
      refine pU 36 (some 87) (bA 43 137438953471) HT_.out ?_
      refine pU 37 (some 88) (bA 43 274877906943) HT_.out ?_
      refine pA 38 (some 89) (bA 43 549755813887) HT_.out ?_
      refine pA 39 (some 90) (bA 43 1099511627775) HT_.out ?_
      refine pU 40 (some 91) (bA 43 2199023255551) HT_.out ?_
      refine pA 41 (some 92) (bA 43 4398046511103) HT_.out ?_
      refine pA 42 (some 0) (bA 43 8796093022207) HT_.out ?_
      refine done_ (done_of HT_.out (by kernel_rfl)) ?_
      try go_wp2
      go_ret
      exact ⟨by first | rfl | (simp [errW_none, errW_some] <;> rfl) | (simp [*, errW_none, errW_some] <;> rfl), (belN HB.out)⟩
    ·replace c28 := Bool.eq_false_iff.mpr c28
     subst c28
     have H1 : (some false) = some r := by rw [if_neg (show ¬ (false = true) by decide)] at H; exact H
     clear H
     have H := H1
     clear H1
     obtain rfl := Option.some.inj H
     try go_wp2_with (first | ((with_reducible refine gate_dst (N := 45) rfl ?_); (try (refine gate_guard (by rfl) ?_; dsimp only)); refine Kd.R_lit k41 _ 41 ?hg (N := 45) ?hd (xs := ([(⟨0, (⟨(-2147483647), 1⟩ : S39)⟩ : S41), (⟨4294967295, (⟨2147483647, 1⟩ : S39)⟩ : S41)] : List (S41))) (inner := [.int .i64 0, .int .i64 (-2147483647), .int .i64 1, .int .i64 4294967295, .int .i64 2147483647, .int .i64 1]) (ok := fun _ => True) (okp := fun _ => True) ?hr ?hp (fun _ hk => hk) trivial (Below.refl _ _) (Nat.le_refl _) (by simp) ?_; (case hd => rfl); (case hg => rfl); (case hr => first | (go_simp; done) | (go_simp; rfl)); (case hp => exact (Reps.c3 (show Kd.M k41 _ _ _ (⟨0, (⟨(-2147483647), 1⟩ : S39)⟩ : S41) [.int .i64 0, .int .i64 (-2147483647), .int .i64 1] from (k41_mkM _ _ _ (⟨0, (⟨(-2147483647), 1⟩ : S39)⟩ : S41) )) (Reps.c3 (show Kd.M k41 _ _ _ (⟨4294967295, (⟨2147483647, 1⟩ : S39)⟩ : S41) [.int .i64 4294967295, .int .i64 2147483647, .int .i64 1] from (k41_mkM _ _ _ (⟨4294967295, (⟨2147483647, 1⟩ : S39)⟩ : S41) )) (Reps.none _ _)))); intro v330 w155 ho156 hb hg_ hnew_; clear hg_ hnew_; (first | rw [← Ny329.out] at ho156 | (simp only [Int.reduceToNat] at ho156; rw [← Ny329.out] at ho156)); have n0_ := Aside0.mk (Kd.R_elder' (rowN HO_1.out) (Kd.R_base ho156) hb); have n1_ := Aside0.mk (Kd.R_lower (Kd.R_new' ho156 (Kd.R_lt (rowN HO_1.out))) (below_size (belN HB.out))); have n2_ := Aside0.mk (below_step (belN HB.out) hb); clear HO_1; clear HB; have HO_1 := n0_; have HO331 := n1_; have HB := n2_; clear n0_ n1_ n2_; clear hb ho156) | ((with_reducible refine gate_dst (N := 50) rfl ?_); (try (refine gate_guard (by rfl) ?_; dsimp only)); refine Kd.R_lit k41 _ 41 ?hg (N := 50) ?hd (xs := ([(⟨0, (⟨0, 1⟩ : S39)⟩ : S41), (⟨4294967295, (⟨1, 1⟩ : S39)⟩ : S41)] : List (S41))) (inner := [.int .i64 0, .int .i64 0, .int .i64 1, .int .i64 4294967295, .int .i64 1, .int .i64 1]) (ok := fun _ => True) (okp := fun _ => True) ?hr ?hp (fun _ hk => hk) trivial (Below.refl _ _) (Nat.le_refl _) (by simp) ?_; (case hd => rfl); (case hg => rfl); (case hr => first | (go_simp; done) | (go_simp; rfl)); (case hp => exact (Reps.c3 (show Kd.M k41 _ _ _ (⟨0, (⟨0, 1⟩ : S39)⟩ : S41) [.int .i64 0, .int .i64 0, .int .i64 1] from (k41_mkM _ _ _ (⟨0, (⟨0, 1⟩ : S39)⟩ : S41) )) (Reps.c3 (show Kd.M k41 _ _ _ (⟨4294967295, (⟨1, 1⟩ : S39)⟩ : S41) [.int .i64 4294967295, .int .i64 1, .int .i64 1] from (k41_mkM _ _ _ (⟨4294967295, (⟨1, 1⟩ : S39)⟩ : S41) )) (Reps.none _ _)))); intro v333 w157 ho158 hb hg_ hnew_; clear hg_ hnew_; (first | rw [← Ny332.out] at ho158 | (simp only [Int.reduceToNat] at ho158; rw [← Ny332.out] at ho158)); have n0_ := Aside0.mk (Kd.R_elder' (rowN HO_1.out) (Kd.R_base ho158) hb); have n1_ := Aside0.mk (Kd.R_elder' (rowN HO331.out) (Kd.R_base ho158) hb); have n2_ := Aside0.mk (Kd.R_lower (Kd.R_new' (Kd.R_new' ho158 (Kd.R_lt (rowN HO_1.out))) (Kd.R_lt (rowN HO331.out))) (below_size (belN HB.out))); have n3_ := Aside0.mk (below_step (belN HB.out) hb); clear HO_1; clear HO331; clear HB; have HO_1 := n0_; have HO331 := n1_; have HO334 := n2_; have HB := n3_; clear n0_ n1_ n2_ n3_; clear hb ho158))
     have n0_ := Aside0.mk (Kd.R_drew HO_1.out)
     have n1_ := Aside0.mk (Kd.R_drew HO331.out)
     have n2_ := Aside0.mk (Kd.R_drew HO334.out)
     have n3_ := Aside0.mk (below_drew1 HB.out)
     clear HO_1
     clear HO331
     clear HO334
     clear HB
     have HO_1 := n0_
     have HO331 := n1_
     have HO334 := n2_
     have HB := n3_
     clear n0_ n1_ n2_ n3_
     obtain ⟨Ao160, co160, eo160⟩ := Kd.R_slice HO331.out
     (first | subst eo160 | (injection eo160 with f1_ f2_ f3_; have f4_ := f1_.symm; have f5_ := f3_.symm; clear f1_ f2_ f3_; subst f4_; subst f5_))
     refine start_ (n := 43) (S := fun w' => True) (ds := []) #[false, false, false, false, false, false, false, false, false, false, false, false, false, false, false, false, false, false, false, false, false, false, false, false, false, false, false, false, false, false, false, false, false, false, false, false, false, false, false, false, false, false, false] (by kernel_rfl) rfl rfl trivial (fun hHeld => ?_); refine with_tabW marigraphlaw22_LerpNumbers.tab17 marigraphlaw22_LerpNumbers.bits17 (fun HT_ HW_ => ?_)
     generalize w157.drew = w159 at HO_1 HO331 HO334 HB hHeld ⊢
     refine pA 0 (some 51) (bA 43 1) HT_.out ?_
     refine one_ (i := 1) (N := some 52) (bA 43 3) rfl rfl (one_of HT_.out (by kernel_rfl)) (by decide) (fun K hK => ?_)
     refine goes_ Try.func15 (by kernel_rfl) rfl #[.slice Ao160 y329.length co160, .int .i64 5] (by rfl) rfl rfl argN ?_
     with_reducible refine (marigraphlaw22_at.calls k1 _ _ y329 5 false _ ?side1 ?side2 A27.out).mono ?_
     (case side1 => repeat (first | exact (Kd.R_reads' HO331.out).2.2 | (with_reducible refine Kd.C_alloc ?_ _) | (with_reducible refine Kd.C_drewN ?_ _) | (with_reducible refine Kd.C_drew ?_)))
     (case side2 => exact (Kd.R_reads' HO331.out).2.1)
     rintro e w161 ⟨rfl, hb⟩
     refine ⟨_, rfl, ?_⟩
     have n0_ := Aside0.mk (Kd.R_below (rowN HO_1.out) hb)
     have n1_ := Aside0.mk (Kd.R_below (rowN HO331.out) hb)
     have n2_ := Aside0.mk (Kd.R_below (rowN HO334.out) hb)
     have n3_ := Aside0.mk (below_step (belN HB.out) hb)
     clear HO_1
     clear HO331
     clear HO334
     clear HB
     have HO_1 := n0_
     have HO331 := n1_
     have HO334 := n2_
     have HB := n3_
     clear n0_ n1_ n2_ n3_
     (try clear hb)
     (try clear hk)
     refine hK.out _ _ trivial (fun hHeld => ?_)
     clear hK K
     refine norm_ (a' := ?_) ?_ ?_
     rotate_left
     ·show Act.put _ (some 52) _ = _
      simp only [Act.put, List.setIfInBounds_toArray, List.set_cons_zero, List.set_cons_succ, i64_w, i32_w]
      rfl
     refine pA 2 (some 53) (bA 43 7) HT_.out ?_
     refine pU 3 (some 54) (bA 43 15) HT_.out ?_
     refine pU 4 (some 55) (bA 43 31) HT_.out ?_
     refine pA 5 (some 56) (bA 43 63) HT_.out ?_
     refine pA 6 (some 57) (bA 43 127) HT_.out ?_
     refine pU 7 (some 58) (bA 43 255) HT_.out ?_
     refine pU 8 (some 59) (bA 43 511) HT_.out ?_
     refine pA 9 (some 60) (bA 43 1023) HT_.out ?_
     refine pA 10 (some 61) (bA 43 2047) HT_.out ?_
     refine pU 11 (some 62) (bA 43 4095) HT_.out ?_
     refine pU 12 (some 63) (bA 43 8191) HT_.out ?_
     refine pU 13 (some 64) (bA 43 16383) HT_.out ?_
     refine pA 14 (some 65) (bA 43 32767) HT_.out ?_
     refine pA 15 (some 66) (bA 43 65535) HT_.out ?_
     refine pU 16 (some 67) (bA 43 131071) HT_.out ?_
     refine pU 17 (some 68) (bA 43 262143) HT_.out ?_
     refine pU 18 (some 69) (bA 43 524287) HT_.out ?_
     refine pU 19 (some 70) (bA 43 1048575) HT_.out ?_
     refine pU 20 (some 71) (bA 43 2097151) HT_.out ?_
     refine pU 21 (some 72) (bA 43 4194303) HT_.out ?_
     refine pA 22 (some 73) (bA 43 8388607) HT_.out ?_
     refine pA 23 (some 74) (bA 43 16777215) HT_.out ?_
     refine pU 24 (some 75) (bA 43 33554431) HT_.out ?_
     refine pU 25 (some 76) (bA 43 67108863) HT_.out ?_
     refine pU 26 (some 77) (bA 43 134217727) HT_.out ?_
     refine pU 27 (some 78) (bA 43 268435455) HT_.out ?_
     refine pU 28 (some 79) (bA 43 536870911) HT_.out ?_
     refine pU 29 (some 80) (bA 43 1073741823) HT_.out ?_
     refine pU 30 (some 81) (bA 43 2147483647) HT_.out ?_
     refine pA 31 (some 82) (bA 43 4294967295) HT_.out ?_
     refine pA 32 (some 83) (bA 43 8589934591) HT_.out ?_
     refine pU 33 (some 84) (bA 43 17179869183) HT_.out ?_
     refine pU 34 (some 85) (bA 43 34359738367) HT_.out ?_
     refine pU 35 (some 86) (bA 43 68719476735) HT_.out ?_
     refine pU 36 (some 87) (bA 43 137438953471) HT_.out ?_
     refine pU 37 (some 88) (bA 43 274877906943) HT_.out ?_
     refine pA 38 (some 89) (bA 43 549755813887) HT_.out ?_
     refine pA 39 (some 90) (bA 43 1099511627775) HT_.out ?_
     refine pU 40 (some 91) (bA 43 2199023255551) HT_.out ?_
     refine pA 41 (some 92) (bA 43 4398046511103) HT_.out ?_
     refine pA 42 (some 0) (bA 43 8796093022207) HT_.out ?_
     refine done_ (done_of HT_.out (by kernel_rfl)) ?_
     try go_wp2
     go_ret
     exact ⟨by first | rfl | (simp [errW_none, errW_some] <;> rfl) | (simp [*, errW_none, errW_some] <;> rfl), (belN HB.out)⟩

/-- THE ONE PURE STATEMENT of marigraphlaw22_LerpNumbers: yours. -/
def marigraphlaw22_LerpNumbers.Pure : Prop := ∃ k, marigraphlaw22_LerpNumbers.f k  = some true
theorem marigraphlaw22_LerpNumbers.walk (P : marigraphlaw22_LerpNumbers.Pure)  (w : World)  :
  Calls Try.prog 5 #[] w fun e w' => e = .returned (.bool true) ∧ Below w.heap.size w w' := by
 obtain ⟨k, h⟩ := P
 refine (marigraphlaw22_LerpNumbers.calls k  true w h).mono ?_
 rintro e w' ⟨rfl, hd⟩
 exact ⟨rfl, hd⟩

end Go.Proofs.Ytjlbgbiceafdjaa.PLerpNumbers

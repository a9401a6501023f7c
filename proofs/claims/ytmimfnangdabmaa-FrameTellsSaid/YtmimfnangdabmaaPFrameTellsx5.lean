/- The walk of the Go functions that a law reaches, told as plain functions; a program of this session has written it. No condition beyond the statement's own. -/
import Derived.Test.YtmimfnangdabmaaPFrameTellsx0
import Derived.Test.YtmimfnangdabmaaPFrameTellsx1
import Derived.Test.YtmimfnangdabmaaPFrameTellsx2
import Derived.Test.YtmimfnangdabmaaPFrameTellsx3
import Derived.Test.YtmimfnangdabmaaPFrameTellsx4
namespace Go.Proofs.Ytmimfnangdabmaa.PFrameTells
open Go.RowKit Go.Proofs.YtmimfnangdabmaaW.PrintWords Go.Proofs.YtmimfnangdabmaaW.PrintLast Go.Proofs.YtmimfnangdabmaaW.PrintMore
attribute [local go_sem] max2_int min2_int max_two min_two max_three min_three max_four min_four   -- for this text's walks alone
set_option linter.unusedVariables false
set_option linter.unusedSimpArgs false

/-! ### marigraphlaw4_FrameTells: function 3 -/
def marigraphlaw4_FrameTells.j0 : Nat → List Int → Int → List Int → List Int → Option (Bool)
 | 0, _, _, _, _ => none
 | k + 1, x1, x4, x11, x12 => (marigraphbook_Roomy_byte.f (cutI x1 100) 165).bind fun t261 => ((marigraphkeep_Cut.f x11 50).bind fun t264 => ((frame_Put.f k (cutI x1 100) t264).bind fun bt267 => ((marigraphlaw4_all.f k x11).bind fun t271 => (if t271 = true then ((marigraphlaw4_all.f k x12).bind fun t272 => (if t272 = true then ((marigraphbook_Within.f k x4 0 (x11.length : Int)).bind fun t273 => (if 0 ≤ t273 then (if t273 ≤ (x11.length : Int) then ((marigraphlaw4_all.f k (x11.take (t273 : Int).toNat)).bind fun t279 => (if t279 = true then (if 0 ≤ ((cutI x1 100).length : Int) then (if ((cutI x1 100).length : Int) ≤ (t261.length : Int) then ((marigraphlaw4_all.f k (t261.take (((cutI x1 100).length : Int) : Int).toNat)).bind fun t285 => (if t285 = true then (if bt267.2 = 0 then ((marigraphkeep_Cut.f x11 50).bind fun t286 => ((marigraphref4_Put.f k (cutI x1 100) t286).bind fun t289 => (if (strOfNums bt267.1).toList = (strOfNums t289).toList then ((marigraphbook_Intact_byte.f k t261 (cutI x1 100) 165).bind fun t292 => (if t292 = true then ((marigraphlaw4_known.f k).bind fun t293 => (some t293)) else (some false))) else (some false)))) else (some false)) else (some false))) else (none)) else (none)) else (some false))) else (none)) else (none))) else (some false))) else (some false)))))
def marigraphlaw4_FrameTells.f (k : Nat) (l0 : List (List Int)) (l1 : List Int) (a2 : Int) (a3 : Int) (a4 : Int) : Option (Bool) := (marigraphlaw4_few.f k l0 8 60).bind fun t245 => ((marigraphlaw4_row.f k t245).bind fun t248 => ((some (([] : List Int) : List Int)).bind fun y251 => (if y251.length + t248.length < 140737488355328 then ((some (y251 ++ t248 : List Int)).bind fun y254 => (if (y254.length : Int) > 0 then ((marigraphbook_Within.f k a2 0 (wrap64 ((y254.length : Int) - 1))).bind fun t257 => (if 0 ≤ t257 then (if t257 < (y254.length : Int) then (marigraphlaw4_FrameTells.j0 k l1 a4 t248 (y254.set (t257 : Int).toNat (Go.bits .xor .u8 (rd y254 t257) a3))) else (none)) else (none))) else (marigraphlaw4_FrameTells.j0 k l1 a4 t248 y254))) else (none))))
theorem marigraphlaw4_FrameTells.mono_l : ∀ k, (∀ y0 y1 y2 y3, LeO (marigraphlaw4_FrameTells.j0 k y0 y1 y2 y3) (marigraphlaw4_FrameTells.j0 (k + 1) y0 y1 y2 y3))
 | 0 => fun _ _ _ _ r h => by simp [marigraphlaw4_FrameTells.j0] at h
 | k + 1 => by
  have ih0 := marigraphlaw4_FrameTells.mono_l k
  ·intro y0 y1 y2 y3
   unfold marigraphlaw4_FrameTells.j0
   repeat' first
   | (with_reducible exact ih0 _ _ _ _)
   | (with_reducible exact frame_Put.mono _ _ _)
   | (with_reducible exact marigraphbook_Intact_byte.mono _ _ _ _)
   | (with_reducible exact marigraphbook_Within.mono _ _ _ _)
   | (with_reducible exact marigraphlaw4_all.mono _ _)
   | (with_reducible exact marigraphlaw4_few.mono _ _ _ _)
   | (with_reducible exact marigraphlaw4_known.mono _)
   | (with_reducible exact marigraphlaw4_row.mono _ _)
   | (with_reducible exact marigraphref4_Put.mono _ _ _)
   | (with_reducible exact LeO.refl _)
   | (with_reducible exact LeO.none _)
   | (with_reducible refine LeO.ite ?_ ?_)
   | (with_reducible refine LeO.bind ?_ (fun _ => ?_))
   | exact ih0 _ _ _ _
   | exact frame_Put.mono _ _ _
   | exact marigraphbook_Intact_byte.mono _ _ _ _
   | exact marigraphbook_Within.mono _ _ _ _
   | exact marigraphlaw4_all.mono _ _
   | exact marigraphlaw4_few.mono _ _ _ _
   | exact marigraphlaw4_known.mono _
   | exact marigraphlaw4_row.mono _ _
   | exact marigraphref4_Put.mono _ _ _
   | exact LeO.none _
   | refine LeO.ite ?_ ?_
   | refine LeO.bind ?_ (fun _ => ?_)
theorem marigraphlaw4_FrameTells.mono : ∀ a0 a1 a2 a3 a4 k, LeO (marigraphlaw4_FrameTells.f k a0 a1 a2 a3 a4) (marigraphlaw4_FrameTells.f (k + 1) a0 a1 a2 a3 a4) := by
 intro a0 a1 a2 a3 a4 k
 have ih0 := marigraphlaw4_FrameTells.mono_l k
 unfold marigraphlaw4_FrameTells.f
 repeat' first
   | (with_reducible exact ih0 _ _ _ _)
   | (with_reducible exact frame_Put.mono _ _ _)
   | (with_reducible exact marigraphbook_Intact_byte.mono _ _ _ _)
   | (with_reducible exact marigraphbook_Within.mono _ _ _ _)
   | (with_reducible exact marigraphlaw4_all.mono _ _)
   | (with_reducible exact marigraphlaw4_few.mono _ _ _ _)
   | (with_reducible exact marigraphlaw4_known.mono _)
   | (with_reducible exact marigraphlaw4_row.mono _ _)
   | (with_reducible exact marigraphref4_Put.mono _ _ _)
   | (with_reducible exact LeO.refl _)
   | (with_reducible exact LeO.none _)
   | (with_reducible refine LeO.ite ?_ ?_)
   | (with_reducible refine LeO.bind ?_ (fun _ => ?_))
   | exact ih0 _ _ _ _
   | exact frame_Put.mono _ _ _
   | exact marigraphbook_Intact_byte.mono _ _ _ _
   | exact marigraphbook_Within.mono _ _ _ _
   | exact marigraphlaw4_all.mono _ _
   | exact marigraphlaw4_few.mono _ _ _ _
   | exact marigraphlaw4_known.mono _
   | exact marigraphlaw4_row.mono _ _
   | exact marigraphref4_Put.mono _ _ _
   | exact LeO.none _
   | refine LeO.ite ?_ ?_
   | refine LeO.bind ?_ (fun _ => ?_)
def marigraphlaw4_FrameTells.T9 : Bool × List (List Nat × List Nat) := (true, [([], []), ([0], [0]), ([1, 1], [1]), ([2], [2]), ([3, 2, 2], [2, 3]), ([2, 4], [2, 4]), ([5, 4], [5]), ([6], [6]), ([6], [6]), ([6], [6]), ([9, 6], [6, 9]), ([8, 10, 6, 6], [6, 8, 10]), ([7, 11, 6], [6, 7, 11]), ([12, 11, 6], [6, 12]), ([6, 13], [6, 13]), ([14, 13], [14]), ([15], [15]), ([15], [15]), ([17, 15], [15, 17]), ([16, 18, 15], [15, 16, 18]), ([19, 15, 15], [15, 19]), ([15, 20], [15, 20]), ([21, 20], [21]), ([22], [22]), ([23, 22], [22, 23]), ([22, 24], [22, 24]), ([25, 22], [25]), ([26], [26]), ([27, 26], [26, 27]), ([26], [26]), ([26], [26]), ([30, 26, 26], [26, 30]), ([29, 31, 31, 26], [26, 29, 31]), ([32, 26], [26, 32]), ([28, 33, 26], [26, 28, 33]), ([26, 34], [26, 34]), ([35, 32], [35]), ([36], [36]), ([36], [36]), ([37, 38, 36, 36], [36, 37, 38]), ([36, 39], [36, 39]), ([40, 39], [40]), ([41, 41], [41]), ([41, 42], [41, 42]), ([43, 42, 0, 1, 2, 3, 4, 5, 6, 7, 8, 9, 10, 11, 12, 13, 14, 15, 16, 17, 18, 19, 20, 21, 22, 23, 24, 25, 26, 27, 28, 29, 30, 31, 32, 33, 34, 35, 36, 37, 38, 39, 40, 41, 42, 43], [43])])
def marigraphlaw4_FrameTells.B9 : List Nat := [0, 1, 3, 7, 15, 31, 63, 127, 127, 127, 639, 1919, 4095, 8191, 16383, 32767, 65535, 65535, 196607, 524287, 1048575, 2097151, 4194303, 8388607, 16777215, 33554431, 67108863, 134217727, 268435455, 134217727, 134217727, 1207959551, 3892314111, 8187281407, 17179869183, 34359738367, 68719476735, 137438953471, 137438953471, 549755813887, 1099511627775, 2199023255551, 4398046511103, 8796093022207, 17592186044415]
theorem marigraphlaw4_FrameTells.tab9 : rtab .any (opsOf Try.f3 9) = marigraphlaw4_FrameTells.T9 := by kernel_rfl
theorem marigraphlaw4_FrameTells.bits9 : waitsOk marigraphlaw4_FrameTells.T9.2 marigraphlaw4_FrameTells.B9 = true := by kernel_rfl
set_option maxHeartbeats 8000000 in
set_option maxRecDepth 100000 in
theorem marigraphlaw4_FrameTells.calls (k : Nat) (A0 : Option Addr) (c0 : Nat) (l0 : List (List Int)) (A1 : Option Addr) (c1 : Nat) (l1 : List Int) (a2 : Int) (a3 : Int) (a4 : Int) (r : Bool) (w : World) (hr0 : Kd.C (Kd.slice 5 (Kd.int .u8)) w A0 l0.length l0) (hc0 : l0.length ≤ c0) (hr1 : Kd.C (Kd.int .u8) w A1 l1.length l1) (hc1 : l1.length ≤ c1) (h : marigraphlaw4_FrameTells.f k l0 l1 a2 a3 a4 = some r) :
  Calls Try.prog 3 #[.slice A0 l0.length c0, .slice A1 l1.length c1, .int .i64 a2, .int .u8 a3, .int .i64 a4] w fun e w' => e = .returned (.bool r) ∧ Below w.heap.size w w' := by
 have HR0 := Aside0.mk hr0
 have HC0 := Aside0.mk hc0
 clear hr0 hc0
 have HR1 := Aside0.mk hr1
 have HC1 := Aside0.mk hc1
 clear hr1 hc1
 have HB := Aside0.mk (Below.refl w.heap.size w)
 have H : ((marigraphlaw4_few.f k l0 8 60).bind fun t245 => ((marigraphlaw4_row.f k t245).bind fun t248 => ((some (([] : List Int) : List Int)).bind fun y251 => (if y251.length + t248.length < 140737488355328 then ((some (y251 ++ t248 : List Int)).bind fun y254 => (if (y254.length : Int) > 0 then ((marigraphbook_Within.f k a2 0 (wrap64 ((y254.length : Int) - 1))).bind fun t257 => (if 0 ≤ t257 then (if t257 < (y254.length : Int) then (marigraphlaw4_FrameTells.j0 k l1 a4 t248 (y254.set (t257 : Int).toNat (Go.bits .xor .u8 (rd y254 t257) a3))) else (none)) else (none))) else (marigraphlaw4_FrameTells.j0 k l1 a4 t248 y254))) else (none))))) = some r := h
 clear h
 replace H := Option.bind_eq_some_iff.mp H
 obtain ⟨t245, A60, H⟩ := H
 replace H : ((marigraphlaw4_row.f k t245).bind fun t248 => ((some (([] : List Int) : List Int)).bind fun y251 => (if y251.length + t248.length < 140737488355328 then ((some (y251 ++ t248 : List Int)).bind fun y254 => (if (y254.length : Int) > 0 then ((marigraphbook_Within.f k a2 0 (wrap64 ((y254.length : Int) - 1))).bind fun t257 => (if 0 ≤ t257 then (if t257 < (y254.length : Int) then (marigraphlaw4_FrameTells.j0 k l1 a4 t248 (y254.set (t257 : Int).toNat (Go.bits .xor .u8 (rd y254 t257) a3))) else (none)) else (none))) else (marigraphlaw4_FrameTells.j0 k l1 a4 t248 y254))) else (none)))) = some r := H
 have A6 := Aside0.mk A60
 clear A60
 replace H := Option.bind_eq_some_iff.mp H
 obtain ⟨t248, A70, H⟩ := H
 replace H : ((some (([] : List Int) : List Int)).bind fun y251 => (if y251.length + t248.length < 140737488355328 then ((some (y251 ++ t248 : List Int)).bind fun y254 => (if (y254.length : Int) > 0 then ((marigraphbook_Within.f k a2 0 (wrap64 ((y254.length : Int) - 1))).bind fun t257 => (if 0 ≤ t257 then (if t257 < (y254.length : Int) then (marigraphlaw4_FrameTells.j0 k l1 a4 t248 (y254.set (t257 : Int).toNat (Go.bits .xor .u8 (rd y254 t257) a3))) else (none)) else (none))) else (marigraphlaw4_FrameTells.j0 k l1 a4 t248 y254))) else (none))) = some r := H
 have A7 := Aside0.mk A70
 clear A70
 obtain ⟨y251, hy251⟩ : ∃ y_ : List Int, y_ = (([] : List Int)) := ⟨_, rfl⟩
 replace H : (if y251.length + t248.length < 140737488355328 then ((some (y251 ++ t248 : List Int)).bind fun y254 => (if (y254.length : Int) > 0 then ((marigraphbook_Within.f k a2 0 (wrap64 ((y254.length : Int) - 1))).bind fun t257 => (if 0 ≤ t257 then (if t257 < (y254.length : Int) then (marigraphlaw4_FrameTells.j0 k l1 a4 t248 (y254.set (t257 : Int).toNat (Go.bits .xor .u8 (rd y254 t257) a3))) else (none)) else (none))) else (marigraphlaw4_FrameTells.j0 k l1 a4 t248 y254))) else (none)) = some r := by first | (rw [hy251]; with_reducible exact H) | (have H2_ := (Option.bind_some _ _).symm.trans H; rw [hy251]; with_reducible exact H2_) | (have H2_ := (Option.bind_some _ _).symm.trans H; with_reducible exact H2_) | with_reducible exact H | (rw [hy251]; exact H) | exact H
 have Ny251 := Aside0.mk hy251
 clear hy251
 by_cases c8 : y251.length + t248.length < 140737488355328
 ·rw [if_pos c8] at H
  have LMc8 := Aside0.mk c8
  clear c8
  obtain ⟨y254, hy254⟩ : ∃ y_ : List Int, y_ = (y251 ++ t248) := ⟨_, rfl⟩
  replace H : (if (y254.length : Int) > 0 then ((marigraphbook_Within.f k a2 0 (wrap64 ((y254.length : Int) - 1))).bind fun t257 => (if 0 ≤ t257 then (if t257 < (y254.length : Int) then (marigraphlaw4_FrameTells.j0 k l1 a4 t248 (y254.set (t257 : Int).toNat (Go.bits .xor .u8 (rd y254 t257) a3))) else (none)) else (none))) else (marigraphlaw4_FrameTells.j0 k l1 a4 t248 y254)) = some r := by first | (rw [hy254]; with_reducible exact H) | (have H2_ := (Option.bind_some _ _).symm.trans H; rw [hy254]; with_reducible exact H2_) | (have H2_ := (Option.bind_some _ _).symm.trans H; with_reducible exact H2_) | with_reducible exact H | (rw [hy254]; exact H) | exact H
  have Ny254 := Aside0.mk hy254
  clear hy254
  have HC9 := Aside0.mk H
  clear H
  go_enter Try.func3, Try.ntmps3
  go_upto_if 25 with (first | ((with_reducible refine gate_callee (f := 11) rfl ?_); refine goesL_ (some 17) rfl rfl Try.func11 (by kernel_rfl) rfl #[.slice A0 l0.length c0, .int .i64 8, .int .i64 60] rfl argN ?_; (with_reducible refine (marigraphlaw4_few.calls k (fun k_ => k_ < w.heap.size) _ _ l0 8 60 t245 _ ?side1 A6.out).mono ?_); (case side1 => exact Kd.V_mk HC0.out (Kd.F_below (Kd.C_F (Kd.heap_slice 5 (Kd.heap_int .u8)) HR0.out) (belN HB.out))); rintro e w10 ⟨v246, rfl, ho0, hb⟩; refine ⟨_, rfl, ?_⟩; have n0_ := Aside0.mk (Kd.N_lower (Kd.N_mono (ok' := fun k_ => True) ho0 (fun k_ hk_ => trivial)) (below_size (belN HB.out))); have n1_ := Aside0.mk (below_step (belN HB.out) hb); clear HB; have HO247 := n0_; have HB := n1_; clear n0_ n1_; (try clear hb); (try clear hk); (try clear ho0); obtain ⟨Ao11, co11, eo11⟩ := Kd.N_slice HO247.out; subst eo11) | ((with_reducible refine gate_callee (f := 12) rfl ?_); refine goesL_ (some 19) rfl rfl Try.func12 (by kernel_rfl) rfl #[.slice Ao11 t245.length co11] rfl argN ?_; (with_reducible refine (marigraphlaw4_row.calls k _ _ t245 t248 _ ?side1 ?side2 A7.out).mono ?_); (case side1 => repeat (first | exact (Kd.N_reads' HO247.out).2.2 | (with_reducible refine Kd.C_alloc ?_ _) | (with_reducible refine Kd.C_drewN ?_ _) | (with_reducible refine Kd.C_drew ?_))); (case side2 => exact (Kd.N_reads' HO247.out).2.1); rintro e w12 ⟨v249, rfl, ho0, hb⟩; refine ⟨_, rfl, ?_⟩; have n0_ := Aside0.mk (Kd.N_elder' (by (with_reducible repeat (first | apply Kd.N_alloc | apply Kd.N_drewN | apply Kd.N_drew)); exact HO247.out) (Kd.R_base ho0) hb); have n1_ := Aside0.mk (Kd.R_lower ho0 (below_size (belN HB.out))); have n2_ := Aside0.mk (below_step (belN HB.out) hb); clear HO247; clear HB; have HO247 := n0_; have HO250 := n1_; have HB := n2_; clear n0_ n1_ n2_; (try clear hb); (try clear hk); (try clear ho0)) | ((with_reducible refine gate_dst (N := 20) rfl ?_); (try (refine gate_guard (by rfl) ?_; dsimp only)); refine Kd.R_lit (Kd.int .u8) _ 5 ?hg (N := 20) ?hd (xs := ([] : List Int)) (inner := []) (ok := fun _ => True) (okp := fun _ => True) ?hr ?hp (fun _ hk => hk) trivial (Below.refl _ _) (Nat.le_refl _) (by simp) ?_; (case hd => rfl); (case hg => rfl); (case hr => first | (go_simp; done) | (go_simp; rfl)); (case hp => exact (Reps.none _ _)); intro v252 w13 ho14 hb hg_ hnew_; clear hg_ hnew_; (first | rw [← Ny251.out] at ho14 | (simp only [Int.reduceToNat] at ho14; rw [← Ny251.out] at ho14)); have n0_ := Aside0.mk (Kd.N_elder' (by (with_reducible repeat (first | apply Kd.N_alloc | apply Kd.N_drewN | apply Kd.N_drew)); exact HO247.out) (Kd.R_base ho14) hb); have n1_ := Aside0.mk (Kd.R_elder' (rowN HO250.out) (Kd.R_base ho14) hb); have n2_ := Aside0.mk (Kd.R_lower (Kd.R_new' ho14 (Kd.R_lt (rowN HO250.out))) (below_size (belN HB.out))); have n3_ := Aside0.mk (below_step (belN HB.out) hb); clear HO247; clear HO250; clear HB; have HO247 := n0_; have HO250 := n1_; have HO253 := n2_; have HB := n3_; clear n0_ n1_ n2_ n3_; clear hb ho14; obtain ⟨Ao16, co16, eo16⟩ := Kd.R_slice HO250.out; subst eo16) | ((with_reducible refine gate_builtin (b := .append) (xs := #[.tmp 20, .tmp 21]) rfl ?_); (try (refine gate_guard (by rfl) ?_; dsimp only)); at_builtin; refine Kd.R_append_rows (Kd.int .u8) (w0 := w) w.heap.size rfl (.tmp 20) (.tmp 21) 23 5 (.int .u8 0) 1 rfl Try.underlying23 info5 rfl (by decide) (by omega) v252 y251 t248 _ _ _ (fun k_ => some k_ ≠ (.slice Ao16 t248.length co16 : Value).ownBlock) (fun _ => False) rfl rfl ?aO ?aR (fun _ _ h => h) (fun _ h => h.elim) ?aF ?aB ?aS ?aL ?_; (case aR => repeat (first | exact (Kd.R_reads' HO250.out).2.2 | (with_reducible refine Kd.C_alloc ?_ _) | (with_reducible refine Kd.C_drewN ?_ _) | (with_reducible refine Kd.C_drew ?_))); (case aB => exact (belN HB.out)); (case aF => exact (fun k_ hk => Kd.fresh' (Kd.R_lt (rowN HO250.out)) k_ hk)); (case aO => exact (by (with_reducible repeat (first | apply Kd.R_alloc | apply Kd.R_drewN | apply Kd.R_drew)); exact Kd.R_mono HO253.out (fun _ hk => hk.2))); (case aS => exact (below_size (belN HB.out))); (case aL => have := LMc8.out; omega); intro v255 w15 ho hb hg hat; rw [← Ny254.out] at ho; have n0_ := Aside0.mk (Kd.N_afterv (ok := (fun k_ => some k_ ≠ (.slice Ao16 t248.length co16 : Value).ownBlock)) (by (with_reducible repeat (first | apply Kd.N_alloc | apply Kd.N_drewN | apply Kd.N_drew)); exact Kd.N_mono HO247.out (fun _ hk => ⟨hk.1.2, hk.2⟩)) hg hat); have n1_ := Aside0.mk (Kd.R_after (ok := (fun _ => True)) (rowN HO250.out) hg hat); have n2_ := Aside0.mk (hb); have n3_ := Aside0.mk (ho); clear HO247; clear HO250; clear HB; clear HO253; have HO247 := n0_; have HO250 := n1_; have HB := n2_; have HO256 := n3_; clear n0_ n1_ n2_ n3_; clear ho hb hg hat; obtain ⟨Ao17, co17, eo17⟩ := Kd.R_slice HO256.out; subst eo17))
  (try simp only [Act.put, List.setIfInBounds_toArray, List.set_cons_zero, List.set_cons_succ])
  go_cut [] (fun wc => ∃ (kq : Nat) (x12_8 : List Int), Aside0 (marigraphlaw4_FrameTells.j0 kq l1 a4 t248 x12_8 = some r) ∧ Aside0 (kq ≤ k) ∧ Aside0 (Kd.R (Kd.int .u8) 5 wc w.heap.size (fun k_ => some k_ ≠ ((.slice Ao17 y254.length co17) : Value).ownBlock) (.slice Ao16 t248.length co16) t248) ∧ Aside0 (Kd.R (Kd.int .u8) 5 wc w.heap.size (fun k_ => some k_ ≠ ((.slice Ao16 t248.length co16) : Value).ownBlock) (.slice Ao17 y254.length co17) x12_8) ∧ Aside0 (Below w.heap.size w wc))
  case first =>
   have H := HC9.out
   clear HC9
   by_cases c18 : (y254.length : Int) > 0
   ·rw [if_pos c18] at H
    have c18b0 : decide (0 < (y254.length : Int)) = true := decide_eq_true c18
    have c18b1 : decide (0 < y254.length) = true := decide_eq_true (by omega)
    clear c18
    (first | rw [c18b0] | rw [c18b1] | (simp only [i64_w, i32_w]; rw [c18b0]) | skip)
    replace H := Option.bind_eq_some_iff.mp H
    obtain ⟨t257, A190, H⟩ := H
    replace H : (if 0 ≤ t257 then (if t257 < (y254.length : Int) then (marigraphlaw4_FrameTells.j0 k l1 a4 t248 (y254.set (t257 : Int).toNat (Go.bits .xor .u8 (rd y254 t257) a3))) else (none)) else (none)) = some r := H
    have A19 := Aside0.mk A190
    clear A190
    by_cases c20 : 0 ≤ t257
    ·rw [if_pos c20] at H
     have c20b0 : decide (0 ≤ t257) = true := decide_eq_true c20
     clear c20
     by_cases c21 : t257 < (y254.length : Int)
     ·rw [if_pos c21] at H
      have c21b0 : decide (t257 < (y254.length : Int)) = true := decide_eq_true c21
      clear c21
      obtain ⟨y259, hy259⟩ : ∃ y_ : List Int, y_ = (y254.set (t257 : Int).toNat (Go.bits .xor .u8 (rd y254 t257) a3)) := ⟨_, rfl⟩
      replace H : (marigraphlaw4_FrameTells.j0 k l1 a4 t248 y259) = some r := by first | (rw [hy259]; with_reducible exact H) | (have H2_ := (Option.bind_some _ _).symm.trans H; rw [hy259]; with_reducible exact H2_) | (have H2_ := (Option.bind_some _ _).symm.trans H; with_reducible exact H2_) | with_reducible exact H | (rw [hy259]; exact H) | exact H
      have Ny259 := Aside0.mk hy259
      clear hy259
      have H' := Aside0.mk H
      clear H
      go_wp2_with (first | ((with_reducible refine gate_callee (f := 13) rfl ?_); refine goesL_ (some 31) rfl rfl Try.func13 (by kernel_rfl) rfl #[.int .i64 a2, .int .i64 0, .int .i64 (wrap64 ((y254.length : Int) - 1))] rfl argN ?_; (with_reducible refine (marigraphbook_Within.calls k a2 0 (wrap64 ((y254.length : Int) - 1)) t257 _ A19.out).mono ?_); rintro e w' ⟨rfl, ⟨nd, rfl⟩⟩; refine ⟨_, rfl, ?_⟩; (try (rw [drewN_self w15]; generalize hq_ : World.drewN w15 _ = w15; have n0_ := Aside0.mk (Kd.N_at hq_ HO247.out); have n1_ := Aside0.mk (Kd.R_at hq_ HO250.out); have n2_ := Aside0.mk (Kd.R_at hq_ HO256.out); have n3_ := Aside0.mk (below_at hq_ HB.out); clear hq_ HO247 HO250 HO256 HB; have HO247 := n0_; have HO250 := n1_; have HO256 := n2_; have HB := n3_; clear n0_ n1_ n2_ n3_)); have p258 : 0 ≤ (t257 : Int) := of_decide_eq_true (by first | (with_reducible assumption) | assumption); have q258 : t257 < (y254.length : Int) := of_decide_eq_true (by first | (with_reducible assumption) | assumption); obtain ⟨ad258, e258, hx258_0⟩ := Kd.at_int (Kd.R_reads' HO256.out).2.2 t257 p258 q258; cases e258; replace p258 := eq_true p258; replace q258 := eq_true q258; have p22 : 0 ≤ (t257 : Int) := of_decide_eq_true (by first | (with_reducible assumption) | assumption); have q22 : (t257 : Int) < ((y254.length : Int) : Int) := of_decide_eq_true (by first | (with_reducible assumption) | assumption); obtain ⟨go22, co22, eo22, gb22, gl22, cl22, HG22⟩ := Kd.R_form HO256.out (by omega); (first | cases eo22 | (injection eo22 with ea_ en_ ec_; (first | subst ea_ | (injection ea_ with ea_; subst ea_)); subst ec_; clear en_)); have GB22 := Aside0.mk gb22; have GG22 := Aside0.mk HG22; clear gb22 gl22 HG22; (first | simp only [add_plain] at hx258_0 | skip); obtain ⟨hx22_0, hf22_0⟩ := Kd.R_celln 0 HO256.out (t257 : Int) p22 q22; replace p22 := eq_true p22; replace q22 := eq_true q22; obtain ⟨hy23_, hz23_⟩ := Kd.R_celln 0 HO256.out (t257 : Int) (of_decide_eq_true (by first | (with_reducible assumption) | assumption)) (of_decide_eq_true (by first | (with_reducible assumption) | assumption)); have HP23 := Kd.R_putg HO256.out (t257 : Int) (Go.bits .xor .u8 (rd y254 t257) a3)) | ((with_reducible refine gate_store (t := 5) (p := 36) rfl ?_); refine store_event (t := 5) (p := 36) (v := ?vo_w24) (w1 := (w15.setCell ⟨go22, (t257 : Int).toNat, none⟩ (.int .u8 (Go.bits .xor .u8 (rd y254 t257) a3)))) ?hg ?ho ?hn ?hr ?_; (case ho => rfl); (case hg => rfl); (case hn => rfl); (case hr => first | (go_simp; done) | (go_simp; rfl)); intro w24 hw; have hg : w15.grownBy w24 (some go22) := (by rw [hw]; exact HP23.2); have hp_ : Kd.R (Kd.int .u8) 5 w24 w.heap.size (fun k_ => some k_ ≠ (.slice Ao16 t248.length co16 : Value).ownBlock) (.slice (some ⟨go22, 0, none⟩) y254.length co17) y259 := (by rw [hw, Ny259.out]; exact HP23.1); clear HP23; have n0_ := Aside0.mk (Kd.N_afterv (v := (.slice (some ⟨go22, 0, none⟩) y254.length co17)) (v1 := (.slice (some ⟨go22, 0, none⟩) y254.length co17)) (ok := (fun k_ => some k_ ≠ (.slice Ao16 t248.length co16 : Value).ownBlock)) (by (with_reducible repeat (first | apply Kd.N_alloc | apply Kd.N_drewN | apply Kd.N_drew)); exact HO247.out) hg (.inl rfl)); have n1_ := Aside0.mk (Kd.R_after (v := (.slice (some ⟨go22, 0, none⟩) y254.length co17)) (v1 := (.slice (some ⟨go22, 0, none⟩) y254.length co17)) (ok := (fun _ => True)) (rowN HO250.out) hg (.inl rfl)); have n2_ := Aside0.mk (hp_); have n3_ := Aside0.mk ((by rw [hw]; exact below_set (HB.out) GB22.out : Below w.heap.size w w24)); clear HO247; clear HO250; clear HO256; clear HB; have HO247 := n0_; have HO250 := n1_; have HO256 := n2_; have HB := n3_; clear n0_ n1_ n2_ n3_; clear hg hw hp_))
      go_meet
      case rel => exact ⟨_, (y259), H', ⟨by first | omega | exact Nat.le_refl _⟩, ⟨by (with_reducible repeat (first | apply Kd.R_alloc | apply Kd.R_drewN | apply Kd.R_drew)); exact Kd.R_mono HO250.out (fun _ hk => hk.2)⟩, ⟨(rowN HO256.out)⟩, ⟨(belN HB.out)⟩⟩
     ·rw [if_neg c21] at H
      exact absurd H (by simp)
    ·rw [if_neg c20] at H
     exact absurd H (by simp)
   ·rw [if_neg c18] at H
    have c18b0 : decide (0 < (y254.length : Int)) = false := decide_eq_false c18
    have c18b1 : decide (0 < y254.length) = false := decide_eq_false (by omega)
    clear c18
    (first | rw [c18b0] | rw [c18b1] | (simp only [i64_w, i32_w]; rw [c18b0]) | skip)
    have H' := Aside0.mk H
    clear H
    go_wp2
    go_meet
    case rel => exact ⟨_, (y254), H', ⟨by first | omega | exact Nat.le_refl _⟩, ⟨by (with_reducible repeat (first | apply Kd.R_alloc | apply Kd.R_drewN | apply Kd.R_drew)); exact Kd.R_mono HO250.out (fun _ hk => hk.2)⟩, ⟨(rowN HO256.out)⟩, ⟨(belN HB.out)⟩⟩
  case rest =>
   clear HC9
   try clear c1
   try clear c2
   try clear p2
   try clear q2
   try clear hx2
   try clear c3
   try clear p6
   try clear c8
   try clear c11
   try clear c12
   try clear c13
   try clear c18
   try clear c18b0
   try clear c18b1
   try clear c20
   try clear c20b0
   try clear c21
   try clear c21b0
   try clear p22
   try clear q22
   try clear hx22
   try clear hf22
   try clear hx22_0
   try clear hx258_0
   try clear p22
   try clear p258
   try clear q22
   try clear q258
   obtain ⟨kq, x12_8, HA, HJ8, HO_11, HO_12, HB⟩ := hcut
   have hl12_8 := (Kd.R_reads' HO_12.out).1
   rw [hl12_8] at HO_12
   (try simp only [hl12_8])
   (try simp only [hl12_8] at HO_11)
   cases kq with
   | zero => exact absurd HA.out (by simp [marigraphlaw4_FrameTells.j0])
   | succ kj8 =>
    have H := HA.out
    clear HA
    simp only [marigraphlaw4_FrameTells.j0] at H
    replace H := Option.bind_eq_some_iff.mp H
    obtain ⟨t261, A250, H⟩ := H
    replace H : ((marigraphkeep_Cut.f t248 50).bind fun t264 => ((frame_Put.f kj8 (cutI l1 100) t264).bind fun bt267 => ((marigraphlaw4_all.f kj8 t248).bind fun t271 => (if t271 = true then ((marigraphlaw4_all.f kj8 x12_8).bind fun t272 => (if t272 = true then ((marigraphbook_Within.f kj8 a4 0 (t248.length : Int)).bind fun t273 => (if 0 ≤ t273 then (if t273 ≤ (t248.length : Int) then ((marigraphlaw4_all.f kj8 (t248.take (t273 : Int).toNat)).bind fun t279 => (if t279 = true then (if 0 ≤ ((cutI l1 100).length : Int) then (if ((cutI l1 100).length : Int) ≤ (t261.length : Int) then ((marigraphlaw4_all.f kj8 (t261.take (((cutI l1 100).length : Int) : Int).toNat)).bind fun t285 => (if t285 = true then (if bt267.2 = 0 then ((marigraphkeep_Cut.f t248 50).bind fun t286 => ((marigraphref4_Put.f kj8 (cutI l1 100) t286).bind fun t289 => (if (strOfNums bt267.1).toList = (strOfNums t289).toList then ((marigraphbook_Intact_byte.f kj8 t261 (cutI l1 100) 165).bind fun t292 => (if t292 = true then ((marigraphlaw4_known.f kj8).bind fun t293 => (some t293)) else (some false))) else (some false)))) else (some false)) else (some false))) else (none)) else (none)) else (some false))) else (none)) else (none))) else (some false))) else (some false))))) = some r := H
    have A25 := Aside0.mk A250
    clear A250
    replace H := Option.bind_eq_some_iff.mp H
    obtain ⟨t264, A260, H⟩ := H
    replace H : ((frame_Put.f kj8 (cutI l1 100) t264).bind fun bt267 => ((marigraphlaw4_all.f kj8 t248).bind fun t271 => (if t271 = true then ((marigraphlaw4_all.f kj8 x12_8).bind fun t272 => (if t272 = true then ((marigraphbook_Within.f kj8 a4 0 (t248.length : Int)).bind fun t273 => (if 0 ≤ t273 then (if t273 ≤ (t248.length : Int) then ((marigraphlaw4_all.f kj8 (t248.take (t273 : Int).toNat)).bind fun t279 => (if t279 = true then (if 0 ≤ ((cutI l1 100).length : Int) then (if ((cutI l1 100).length : Int) ≤ (t261.length : Int) then ((marigraphlaw4_all.f kj8 (t261.take (((cutI l1 100).length : Int) : Int).toNat)).bind fun t285 => (if t285 = true then (if bt267.2 = 0 then ((marigraphkeep_Cut.f t248 50).bind fun t286 => ((marigraphref4_Put.f kj8 (cutI l1 100) t286).bind fun t289 => (if (strOfNums bt267.1).toList = (strOfNums t289).toList then ((marigraphbook_Intact_byte.f kj8 t261 (cutI l1 100) 165).bind fun t292 => (if t292 = true then ((marigraphlaw4_known.f kj8).bind fun t293 => (some t293)) else (some false))) else (some false)))) else (some false)) else (some false))) else (none)) else (none)) else (some false))) else (none)) else (none))) else (some false))) else (some false)))) = some r := H
    have A26 := Aside0.mk A260
    clear A260
    replace H := Option.bind_eq_some_iff.mp H
    obtain ⟨⟨t267, t268⟩, A270, H⟩ := H
    replace H : ((marigraphlaw4_all.f kj8 t248).bind fun t271 => (if t271 = true then ((marigraphlaw4_all.f kj8 x12_8).bind fun t272 => (if t272 = true then ((marigraphbook_Within.f kj8 a4 0 (t248.length : Int)).bind fun t273 => (if 0 ≤ t273 then (if t273 ≤ (t248.length : Int) then ((marigraphlaw4_all.f kj8 (t248.take (t273 : Int).toNat)).bind fun t279 => (if t279 = true then (if 0 ≤ ((cutI l1 100).length : Int) then (if ((cutI l1 100).length : Int) ≤ (t261.length : Int) then ((marigraphlaw4_all.f kj8 (t261.take (((cutI l1 100).length : Int) : Int).toNat)).bind fun t285 => (if t285 = true then (if t268 = 0 then ((marigraphkeep_Cut.f t248 50).bind fun t286 => ((marigraphref4_Put.f kj8 (cutI l1 100) t286).bind fun t289 => (if (strOfNums t267).toList = (strOfNums t289).toList then ((marigraphbook_Intact_byte.f kj8 t261 (cutI l1 100) 165).bind fun t292 => (if t292 = true then ((marigraphlaw4_known.f kj8).bind fun t293 => (some t293)) else (some false))) else (some false)))) else (some false)) else (some false))) else (none)) else (none)) else (some false))) else (none)) else (none))) else (some false))) else (some false))) = some r := H
    have A27 := Aside0.mk A270
    clear A270
    replace H := Option.bind_eq_some_iff.mp H
    obtain ⟨t271, A280, H⟩ := H
    replace H : (if t271 = true then ((marigraphlaw4_all.f kj8 x12_8).bind fun t272 => (if t272 = true then ((marigraphbook_Within.f kj8 a4 0 (t248.length : Int)).bind fun t273 => (if 0 ≤ t273 then (if t273 ≤ (t248.length : Int) then ((marigraphlaw4_all.f kj8 (t248.take (t273 : Int).toNat)).bind fun t279 => (if t279 = true then (if 0 ≤ ((cutI l1 100).length : Int) then (if ((cutI l1 100).length : Int) ≤ (t261.length : Int) then ((marigraphlaw4_all.f kj8 (t261.take (((cutI l1 100).length : Int) : Int).toNat)).bind fun t285 => (if t285 = true then (if t268 = 0 then ((marigraphkeep_Cut.f t248 50).bind fun t286 => ((marigraphref4_Put.f kj8 (cutI l1 100) t286).bind fun t289 => (if (strOfNums t267).toList = (strOfNums t289).toList then ((marigraphbook_Intact_byte.f kj8 t261 (cutI l1 100) 165).bind fun t292 => (if t292 = true then ((marigraphlaw4_known.f kj8).bind fun t293 => (some t293)) else (some false))) else (some false)))) else (some false)) else (some false))) else (none)) else (none)) else (some false))) else (none)) else (none))) else (some false))) else (some false)) = some r := H
    have A28 := Aside0.mk A280
    clear A280
    by_cases c29 : t271 = true
    ·subst c29
     have H1 : ((marigraphlaw4_all.f kj8 x12_8).bind fun t272 => (if t272 = true then ((marigraphbook_Within.f kj8 a4 0 (t248.length : Int)).bind fun t273 => (if 0 ≤ t273 then (if t273 ≤ (t248.length : Int) then ((marigraphlaw4_all.f kj8 (t248.take (t273 : Int).toNat)).bind fun t279 => (if t279 = true then (if 0 ≤ ((cutI l1 100).length : Int) then (if ((cutI l1 100).length : Int) ≤ (t261.length : Int) then ((marigraphlaw4_all.f kj8 (t261.take (((cutI l1 100).length : Int) : Int).toNat)).bind fun t285 => (if t285 = true then (if t268 = 0 then ((marigraphkeep_Cut.f t248 50).bind fun t286 => ((marigraphref4_Put.f kj8 (cutI l1 100) t286).bind fun t289 => (if (strOfNums t267).toList = (strOfNums t289).toList then ((marigraphbook_Intact_byte.f kj8 t261 (cutI l1 100) 165).bind fun t292 => (if t292 = true then ((marigraphlaw4_known.f kj8).bind fun t293 => (some t293)) else (some false))) else (some false)))) else (some false)) else (some false))) else (none)) else (none)) else (some false))) else (none)) else (none))) else (some false))) = some r := by rw [if_pos rfl] at H; exact H
     clear H
     have H := H1
     clear H1
     replace H := Option.bind_eq_some_iff.mp H
     obtain ⟨t272, A300, H⟩ := H
     replace H : (if t272 = true then ((marigraphbook_Within.f kj8 a4 0 (t248.length : Int)).bind fun t273 => (if 0 ≤ t273 then (if t273 ≤ (t248.length : Int) then ((marigraphlaw4_all.f kj8 (t248.take (t273 : Int).toNat)).bind fun t279 => (if t279 = true then (if 0 ≤ ((cutI l1 100).length : Int) then (if ((cutI l1 100).length : Int) ≤ (t261.length : Int) then ((marigraphlaw4_all.f kj8 (t261.take (((cutI l1 100).length : Int) : Int).toNat)).bind fun t285 => (if t285 = true then (if t268 = 0 then ((marigraphkeep_Cut.f t248 50).bind fun t286 => ((marigraphref4_Put.f kj8 (cutI l1 100) t286).bind fun t289 => (if (strOfNums t267).toList = (strOfNums t289).toList then ((marigraphbook_Intact_byte.f kj8 t261 (cutI l1 100) 165).bind fun t292 => (if t292 = true then ((marigraphlaw4_known.f kj8).bind fun t293 => (some t293)) else (some false))) else (some false)))) else (some false)) else (some false))) else (none)) else (none)) else (some false))) else (none)) else (none))) else (some false)) = some r := H
     have A30 := Aside0.mk A300
     clear A300
     by_cases c31 : t272 = true
     ·subst c31
      have H1 : ((marigraphbook_Within.f kj8 a4 0 (t248.length : Int)).bind fun t273 => (if 0 ≤ t273 then (if t273 ≤ (t248.length : Int) then ((marigraphlaw4_all.f kj8 (t248.take (t273 : Int).toNat)).bind fun t279 => (if t279 = true then (if 0 ≤ ((cutI l1 100).length : Int) then (if ((cutI l1 100).length : Int) ≤ (t261.length : Int) then ((marigraphlaw4_all.f kj8 (t261.take (((cutI l1 100).length : Int) : Int).toNat)).bind fun t285 => (if t285 = true then (if t268 = 0 then ((marigraphkeep_Cut.f t248 50).bind fun t286 => ((marigraphref4_Put.f kj8 (cutI l1 100) t286).bind fun t289 => (if (strOfNums t267).toList = (strOfNums t289).toList then ((marigraphbook_Intact_byte.f kj8 t261 (cutI l1 100) 165).bind fun t292 => (if t292 = true then ((marigraphlaw4_known.f kj8).bind fun t293 => (some t293)) else (some false))) else (some false)))) else (some false)) else (some false))) else (none)) else (none)) else (some false))) else (none)) else (none))) = some r := by rw [if_pos rfl] at H; exact H
      clear H
      have H := H1
      clear H1
      replace H := Option.bind_eq_some_iff.mp H
      obtain ⟨t273, A320, H⟩ := H
      replace H : (if 0 ≤ t273 then (if t273 ≤ (t248.length : Int) then ((marigraphlaw4_all.f kj8 (t248.take (t273 : Int).toNat)).bind fun t279 => (if t279 = true then (if 0 ≤ ((cutI l1 100).length : Int) then (if ((cutI l1 100).length : Int) ≤ (t261.length : Int) then ((marigraphlaw4_all.f kj8 (t261.take (((cutI l1 100).length : Int) : Int).toNat)).bind fun t285 => (if t285 = true then (if t268 = 0 then ((marigraphkeep_Cut.f t248 50).bind fun t286 => ((marigraphref4_Put.f kj8 (cutI l1 100) t286).bind fun t289 => (if (strOfNums t267).toList = (strOfNums t289).toList then ((marigraphbook_Intact_byte.f kj8 t261 (cutI l1 100) 165).bind fun t292 => (if t292 = true then ((marigraphlaw4_known.f kj8).bind fun t293 => (some t293)) else (some false))) else (some false)))) else (some false)) else (some false))) else (none)) else (none)) else (some false))) else (none)) else (none)) = some r := H
      have A32 := Aside0.mk A320
      clear A320
      by_cases c33 : 0 ≤ t273
      ·rw [if_pos c33] at H
       have c33b0 := eq_true c33
       have c33b1 : decide (0 ≤ t273) = true := decide_eq_true c33
       clear c33
       by_cases c34 : t273 ≤ (t248.length : Int)
       ·rw [if_pos c34] at H
        have c34b0 := eq_true c34
        have c34b1 : decide (t273 ≤ (t248.length : Int)) = true := decide_eq_true c34
        clear c34
        obtain ⟨y274, hy274⟩ : ∃ y_ : List Int, y_ = (t248.take (t273 : Int).toNat) := ⟨_, rfl⟩
        replace H : ((marigraphlaw4_all.f kj8 y274).bind fun t279 => (if t279 = true then (if 0 ≤ ((cutI l1 100).length : Int) then (if ((cutI l1 100).length : Int) ≤ (t261.length : Int) then ((marigraphlaw4_all.f kj8 (t261.take (((cutI l1 100).length : Int) : Int).toNat)).bind fun t285 => (if t285 = true then (if t268 = 0 then ((marigraphkeep_Cut.f t248 50).bind fun t286 => ((marigraphref4_Put.f kj8 (cutI l1 100) t286).bind fun t289 => (if (strOfNums t267).toList = (strOfNums t289).toList then ((marigraphbook_Intact_byte.f kj8 t261 (cutI l1 100) 165).bind fun t292 => (if t292 = true then ((marigraphlaw4_known.f kj8).bind fun t293 => (some t293)) else (some false))) else (some false)))) else (some false)) else (some false))) else (none)) else (none)) else (some false))) = some r := by first | (rw [hy274]; with_reducible exact H) | (have H2_ := (Option.bind_some _ _).symm.trans H; rw [hy274]; with_reducible exact H2_) | (have H2_ := (Option.bind_some _ _).symm.trans H; with_reducible exact H2_) | with_reducible exact H | (rw [hy274]; exact H) | exact H
        have Ny274 := Aside0.mk hy274
        clear hy274
        replace H := Option.bind_eq_some_iff.mp H
        obtain ⟨t279, A350, H⟩ := H
        replace H : (if t279 = true then (if 0 ≤ ((cutI l1 100).length : Int) then (if ((cutI l1 100).length : Int) ≤ (t261.length : Int) then ((marigraphlaw4_all.f kj8 (t261.take (((cutI l1 100).length : Int) : Int).toNat)).bind fun t285 => (if t285 = true then (if t268 = 0 then ((marigraphkeep_Cut.f t248 50).bind fun t286 => ((marigraphref4_Put.f kj8 (cutI l1 100) t286).bind fun t289 => (if (strOfNums t267).toList = (strOfNums t289).toList then ((marigraphbook_Intact_byte.f kj8 t261 (cutI l1 100) 165).bind fun t292 => (if t292 = true then ((marigraphlaw4_known.f kj8).bind fun t293 => (some t293)) else (some false))) else (some false)))) else (some false)) else (some false))) else (none)) else (none)) else (some false)) = some r := H
        have A35 := Aside0.mk A350
        clear A350
        by_cases c36 : t279 = true
        ·subst c36
         have H1 : (if 0 ≤ ((cutI l1 100).length : Int) then (if ((cutI l1 100).length : Int) ≤ (t261.length : Int) then ((marigraphlaw4_all.f kj8 (t261.take (((cutI l1 100).length : Int) : Int).toNat)).bind fun t285 => (if t285 = true then (if t268 = 0 then ((marigraphkeep_Cut.f t248 50).bind fun t286 => ((marigraphref4_Put.f kj8 (cutI l1 100) t286).bind fun t289 => (if (strOfNums t267).toList = (strOfNums t289).toList then ((marigraphbook_Intact_byte.f kj8 t261 (cutI l1 100) 165).bind fun t292 => (if t292 = true then ((marigraphlaw4_known.f kj8).bind fun t293 => (some t293)) else (some false))) else (some false)))) else (some false)) else (some false))) else (none)) else (none)) = some r := by rw [if_pos rfl] at H; exact H
         clear H
         have H := H1
         clear H1
         by_cases c37 : 0 ≤ ((cutI l1 100).length : Int)
         ·rw [if_pos c37] at H
          have c37b0 := eq_true c37
          have c37b1 : decide (0 ≤ ((cutI l1 100).length : Int)) = true := decide_eq_true c37
          clear c37
          by_cases c38 : ((cutI l1 100).length : Int) ≤ (t261.length : Int)
          ·rw [if_pos c38] at H
           have c38b0 := eq_true c38
           have c38b1 : decide (((cutI l1 100).length : Int) ≤ (t261.length : Int)) = true := decide_eq_true c38
           clear c38
           obtain ⟨y280, hy280⟩ : ∃ y_ : List Int, y_ = (t261.take (((cutI l1 100).length : Int) : Int).toNat) := ⟨_, rfl⟩
           replace H : ((marigraphlaw4_all.f kj8 y280).bind fun t285 => (if t285 = true then (if t268 = 0 then ((marigraphkeep_Cut.f t248 50).bind fun t286 => ((marigraphref4_Put.f kj8 (cutI l1 100) t286).bind fun t289 => (if (strOfNums t267).toList = (strOfNums t289).toList then ((marigraphbook_Intact_byte.f kj8 t261 (cutI l1 100) 165).bind fun t292 => (if t292 = true then ((marigraphlaw4_known.f kj8).bind fun t293 => (some t293)) else (some false))) else (some false)))) else (some false)) else (some false))) = some r := by first | (rw [hy280]; with_reducible exact H) | (have H2_ := (Option.bind_some _ _).symm.trans H; rw [hy280]; with_reducible exact H2_) | (have H2_ := (Option.bind_some _ _).symm.trans H; with_reducible exact H2_) | with_reducible exact H | (rw [hy280]; exact H) | exact H
           have Ny280 := Aside0.mk hy280
           clear hy280
           replace H := Option.bind_eq_some_iff.mp H
           obtain ⟨t285, A390, H⟩ := H
           replace H : (if t285 = true then (if t268 = 0 then ((marigraphkeep_Cut.f t248 50).bind fun t286 => ((marigraphref4_Put.f kj8 (cutI l1 100) t286).bind fun t289 => (if (strOfNums t267).toList = (strOfNums t289).toList then ((marigraphbook_Intact_byte.f kj8 t261 (cutI l1 100) 165).bind fun t292 => (if t292 = true then ((marigraphlaw4_known.f kj8).bind fun t293 => (some t293)) else (some false))) else (some false)))) else (some false)) else (some false)) = some r := H
           have A39 := Aside0.mk A390
           clear A390
           by_cases c40 : t285 = true
           ·subst c40
            have H1 : (if t268 = 0 then ((marigraphkeep_Cut.f t248 50).bind fun t286 => ((marigraphref4_Put.f kj8 (cutI l1 100) t286).bind fun t289 => (if (strOfNums t267).toList = (strOfNums t289).toList then ((marigraphbook_Intact_byte.f kj8 t261 (cutI l1 100) 165).bind fun t292 => (if t292 = true then ((marigraphlaw4_known.f kj8).bind fun t293 => (some t293)) else (some false))) else (some false)))) else (some false)) = some r := by rw [if_pos rfl] at H; exact H
            clear H
            have H := H1
            clear H1
            by_cases c41 : t268 = 0
            ·rw [if_pos c41] at H
             have c41b0 : (t268 == 0) = true := beq_iff_eq.mpr c41
             have c41b1 : (t268 != 0) = false := bne_eq_false_iff_eq.mpr c41
             clear c41
             replace H := Option.bind_eq_some_iff.mp H
             obtain ⟨t286, A420, H⟩ := H
             replace H : ((marigraphref4_Put.f kj8 (cutI l1 100) t286).bind fun t289 => (if (strOfNums t267).toList = (strOfNums t289).toList then ((marigraphbook_Intact_byte.f kj8 t261 (cutI l1 100) 165).bind fun t292 => (if t292 = true then ((marigraphlaw4_known.f kj8).bind fun t293 => (some t293)) else (some false))) else (some false))) = some r := H
             have A42 := Aside0.mk A420
             clear A420
             replace H := Option.bind_eq_some_iff.mp H
             obtain ⟨t289, A430, H⟩ := H
             replace H : (if (strOfNums t267).toList = (strOfNums t289).toList then ((marigraphbook_Intact_byte.f kj8 t261 (cutI l1 100) 165).bind fun t292 => (if t292 = true then ((marigraphlaw4_known.f kj8).bind fun t293 => (some t293)) else (some false))) else (some false)) = some r := H
             have A43 := Aside0.mk A430
             clear A430
             by_cases c44 : (strOfNums t267).toList = (strOfNums t289).toList
             ·rw [if_pos c44] at H
              have c44b0 : ((strOfNums t267).toList == (strOfNums t289).toList) = true := beq_iff_eq.mpr c44
              have c44b1 : ((strOfNums t267).toList != (strOfNums t289).toList) = false := bne_eq_false_iff_eq.mpr c44
              clear c44
              replace H := Option.bind_eq_some_iff.mp H
              obtain ⟨t292, A450, H⟩ := H
              replace H : (if t292 = true then ((marigraphlaw4_known.f kj8).bind fun t293 => (some t293)) else (some false)) = some r := H
              have A45 := Aside0.mk A450
              clear A450
              by_cases c46 : t292 = true
              ·subst c46
               have H1 : ((marigraphlaw4_known.f kj8).bind fun t293 => (some t293)) = some r := by rw [if_pos rfl] at H; exact H
               clear H
               have H := H1
               clear H1
               replace H := Option.bind_eq_some_iff.mp H
               obtain ⟨t293, A470, H⟩ := H
               replace H : (some t293) = some r := H
               have A47 := Aside0.mk A470
               clear A470
               obtain rfl := Option.some.inj H
               have HR260 := Aside0.mk (cutI_C (n := 100) HR1.out)
               have HC260 := Aside0.mk (cutI_le (n := 100) HC1.out)
               try go_wp2_with (first | ((with_reducible refine gate_callee (f := 14) rfl ?_); refine goesL_ (some 38) rfl rfl Try.func14 (by kernel_rfl) rfl #[.slice A1 l1.length c1, .int .i64 100] rfl (by (try simp only [List.map_toArray, List.map_cons, List.map_nil]); first | done | rfl) ?_; (with_reducible refine (marigraphkeep_Cut.callsR A1 c1 l1 100 100 _ HC1.out rfl).mono ?_); rintro e w' ⟨rfl, ⟨nd, rfl⟩⟩; refine ⟨_, rfl, ?_⟩) | ((with_reducible refine gate_callee (f := 15) rfl ?_); refine goesL_ (some 40) rfl rfl Try.func15 (by kernel_rfl) rfl #[.slice A1 (cutI l1 100).length c1, .int .u8 165] rfl argN ?_; (with_reducible refine (marigraphbook_Roomy_byte.calls _ _ (cutI l1 100) 165 t261 _ ?side1 ?side2 A25.out).mono ?_); (case side1 => repeat (first | exact (Kd.C_below HR260.out (belN HB.out)) | (with_reducible refine Kd.C_alloc ?_ _) | (with_reducible refine Kd.C_drewN ?_ _) | (with_reducible refine Kd.C_drew ?_))); (case side2 => exact HC260.out); rintro e w48 ⟨v262, rfl, ho0, hb⟩; refine ⟨_, rfl, ?_⟩; have n0_ := Aside0.mk (Kd.R_elder' (rowN HO_11.out) (Kd.R_base ho0) hb); have n1_ := Aside0.mk (Kd.R_elder' (rowN HO_12.out) (Kd.R_base ho0) hb); have n2_ := Aside0.mk (Kd.R_lower (Kd.R_new' (Kd.R_new' ho0 (Kd.R_lt (rowN HO_11.out))) (Kd.R_lt (rowN HO_12.out))) (below_size (belN HB.out))); have n3_ := Aside0.mk (below_step (belN HB.out) hb); clear HO_11; clear HO_12; clear HB; have HO_11 := n0_; have HO_12 := n1_; have HO263 := n2_; have HB := n3_; clear n0_ n1_ n2_ n3_; (try clear hb); (try clear hk); (try clear ho0)) | ((with_reducible refine gate_callee (f := 14) rfl ?_); refine goesL_ (some 44) rfl rfl Try.func14 (by kernel_rfl) rfl #[.slice Ao16 t248.length co16, .int .i64 50] rfl argN ?_; (with_reducible refine (marigraphkeep_Cut.calls (fun k_ => some k_ = (.slice Ao16 t248.length co16 : Value).ownBlock) _ _ t248 50 t264 _ ?side1 A26.out).mono ?_); (case side1 => exact Kd.R_V (Kd.R_tight rfl (HO_11.out))); rintro e w49 ⟨v265, rfl, ho0, hb⟩; refine ⟨_, rfl, ?_⟩; have n0_ := Aside0.mk (Kd.R_below (rowN HO_11.out) hb); have n1_ := Aside0.mk (Kd.R_below (rowN HO_12.out) hb); have n2_ := Aside0.mk (Kd.R_below (rowN HO263.out) hb); have n3_ := Aside0.mk (Kd.V_lower (Kd.V_mono (ok' := fun k_ => some k_ ≠ (.slice Ao17 x12_8.length co17 : Value).ownBlock ∧ some k_ ≠ (v262 : Value).ownBlock) ho0 (fun k_ hk_ => ⟨Or.elim hk_ (fun hs_ => ((HO_11.out).1 k_ hs_.symm).1) (fun hn_ => (Kd.fresh' (Kd.R_lt (rowN HO_12.out)) k_ hn_)), Or.elim hk_ (fun hs_ => ((HO_11.out).1 k_ hs_.symm).2) (fun hn_ => (Kd.fresh' (Kd.R_lt (rowN HO263.out)) k_ hn_))⟩)) (below_size (belN HB.out))); have n4_ := Aside0.mk (below_step (belN HB.out) hb); clear HO_11; clear HO_12; clear HO263; clear HB; have HO_11 := n0_; have HO_12 := n1_; have HO263 := n2_; have HO266 := n3_; have HB := n4_; clear n0_ n1_ n2_ n3_ n4_; (try clear hb); (try clear hk); (try clear ho0); obtain ⟨Ao50, co50, eo50⟩ := Kd.V_slice HO266.out; subst eo50) | ((with_reducible refine gate_callee (f := 16) rfl ?_); refine goesL_ (some 45) rfl rfl Try.func16 (by kernel_rfl) rfl #[.slice A1 (cutI l1 100).length c1, .slice Ao50 t264.length co50] rfl argN ?_; (with_reducible refine (frame_Put.calls kj8 _ _ (cutI l1 100) _ _ t264 t267 t268 _ ?side1 ?side2 ?side3 ?side4 A27.out).mono ?_); (case side1 => repeat (first | exact (Kd.C_below HR260.out HB.out) | (with_reducible refine Kd.C_alloc ?_ _) | (with_reducible refine Kd.C_drewN ?_ _) | (with_reducible refine Kd.C_drew ?_))); (case side2 => exact HC260.out); (case side3 => repeat (first | exact (Kd.V_reads' HO266.out).2.2 | (with_reducible refine Kd.C_alloc ?_ _) | (with_reducible refine Kd.C_drewN ?_ _) | (with_reducible refine Kd.C_drew ?_))); (case side4 => exact (Kd.V_reads' HO266.out).2.1); rintro e w51 ⟨v269, rfl, ho0, hb⟩; refine ⟨_, rfl, ?_⟩; have n0_ := Aside0.mk (Kd.R_elder' (rowN HO_11.out) (Kd.R_base ho0) hb); have n1_ := Aside0.mk (Kd.R_elder' (rowN HO_12.out) (Kd.R_base ho0) hb); have n2_ := Aside0.mk (Kd.R_elder' (rowN HO263.out) (Kd.R_base ho0) hb); have n3_ := Aside0.mk (Kd.V_elder' (by (with_reducible repeat (first | apply Kd.V_alloc | apply Kd.V_drewN | apply Kd.V_drew)); exact HO266.out) (Kd.R_base ho0) hb); have n4_ := Aside0.mk (Kd.R_lower (Kd.R_new' (Kd.R_new' (Kd.R_new' ho0 (Kd.R_lt (rowN HO_11.out))) (Kd.R_lt (rowN HO_12.out))) (Kd.R_lt (rowN HO263.out))) (below_size (belN HB.out))); have n5_ := Aside0.mk (below_step (belN HB.out) hb); clear HO_11; clear HO_12; clear HO263; clear HO266; clear HB; have HO_11 := n0_; have HO_12 := n1_; have HO263 := n2_; have HO266 := n3_; have HO270 := n4_; have HB := n5_; clear n0_ n1_ n2_ n3_ n4_ n5_; (try clear hb); (try clear hk); (try clear ho0); obtain ⟨Ao52, co52, eo52⟩ := Kd.R_slice HO263.out; subst eo52))
               have n0_ := Aside0.mk (Kd.R_drew HO_11.out)
               have n1_ := Aside0.mk (Kd.R_drew HO_12.out)
               have n2_ := Aside0.mk (Kd.R_drew HO263.out)
               have n3_ := Aside0.mk (Kd.V_drew HO266.out)
               have n4_ := Aside0.mk (Kd.R_drew HO270.out)
               have n5_ := Aside0.mk (below_drew1 HB.out)
               clear HO_11
               clear HO_12
               clear HO263
               clear HO266
               clear HO270
               clear HB
               have HO_11 := n0_
               have HO_12 := n1_
               have HO263 := n2_
               have HO266 := n3_
               have HO270 := n4_
               have HB := n5_
               clear n0_ n1_ n2_ n3_ n4_ n5_
               refine start_ (n := 45) (S := fun w' => (convert 23 9 (v269)).run Try.prog w' = .ok (.string (strOfNums t267)) w') (ds := []) #[false, false, false, false, false, false, false, false, false, false, false, false, false, false, false, false, false, false, false, false, false, false, false, false, false, false, false, false, false, false, false, false, false, false, false, false, false, false, false, false, false, false, false, false, false] (by kernel_rfl) rfl rfl ((own_string (P := Try.prog) Try.underlying23 Try.underlying5 Try.underlying9 (Kd.own_of_R HO270.out))) (fun hHeld => ?_); refine with_tabW marigraphlaw4_FrameTells.tab9 marigraphlaw4_FrameTells.bits9 (fun HT_ HW_ => ?_)
               generalize w51.drew = w53 at HO_11 HO_12 HO263 HO266 HO270 HB hHeld ⊢
               have HV60 := HO270
               refine pA 0 (some 48) (bA 45 1) HT_.out ?_
               refine one_ (i := 1) (N := some 49) (bA 45 3) rfl rfl (one_of HT_.out (by kernel_rfl)) (by decide) (fun K hK => ?_)
               refine goes_ Try.func17 (by kernel_rfl) rfl #[.slice Ao16 t248.length co16] (by rfl) rfl rfl argN ?_
               with_reducible refine (marigraphlaw4_all.calls kj8 _ _ t248 true _ ?side1 ?side2 A28.out).mono ?_
               (case side1 => repeat (first | exact (Kd.R_reads' HO_11.out).2.2 | (with_reducible refine Kd.C_alloc ?_ _) | (with_reducible refine Kd.C_drewN ?_ _) | (with_reducible refine Kd.C_drew ?_)))
               (case side2 => exact (Kd.R_reads' HO_11.out).2.1)
               rintro e w54 ⟨rfl, hb⟩
               have HV60 := Aside0.mk (Kd.R_below (rowN HV60.out) hb)
               refine ⟨_, rfl, ?_⟩
               have n0_ := Aside0.mk (Kd.R_below (rowN HO_11.out) hb)
               have n1_ := Aside0.mk (Kd.R_below (rowN HO_12.out) hb)
               have n2_ := Aside0.mk (Kd.R_below (rowN HO263.out) hb)
               have n3_ := Aside0.mk (Kd.V_below (by (with_reducible repeat (first | apply Kd.V_alloc | apply Kd.V_drewN | apply Kd.V_drew)); exact HO266.out) hb)
               have n4_ := Aside0.mk (Kd.R_below (rowN HO270.out) hb)
               have n5_ := Aside0.mk (below_step (belN HB.out) hb)
               clear HO_11
               clear HO_12
               clear HO263
               clear HO266
               clear HO270
               clear HB
               have HO_11 := n0_
               have HO_12 := n1_
               have HO263 := n2_
               have HO266 := n3_
               have HO270 := n4_
               have HB := n5_
               clear n0_ n1_ n2_ n3_ n4_ n5_
               (try clear hb)
               (try clear hk)
               refine hK.out _ _ ((own_string (P := Try.prog) Try.underlying23 Try.underlying5 Try.underlying9 (Kd.own_of_R (rowN HV60.out)))) (fun hHeld => ?_)
               clear hK K
               refine norm_ (a' := ?_) ?_ ?_
               rotate_left
               ·show Act.put _ (some 49) _ = _
                simp only [Act.put, List.setIfInBounds_toArray, List.set_cons_zero, List.set_cons_succ, i64_w, i32_w]
                rfl
               refine pA 2 (some 50) (bA 45 7) HT_.out ?_
               refine pA 3 (some 51) (bA 45 15) HT_.out ?_
               refine one_ (i := 4) (N := some 52) (bA 45 31) rfl rfl (one_of HT_.out (by kernel_rfl)) (by decide) (fun K hK => ?_)
               refine goes_ Try.func17 (by kernel_rfl) rfl #[.slice Ao17 x12_8.length co17] (by rfl) rfl rfl argN ?_
               with_reducible refine (marigraphlaw4_all.calls kj8 _ _ x12_8 true _ ?side1 ?side2 A30.out).mono ?_
               (case side1 => repeat (first | exact (Kd.R_reads' HO_12.out).2.2 | (with_reducible refine Kd.C_alloc ?_ _) | (with_reducible refine Kd.C_drewN ?_ _) | (with_reducible refine Kd.C_drew ?_)))
               (case side2 => exact (Kd.R_reads' HO_12.out).2.1)
               rintro e w55 ⟨rfl, hb⟩
               have HV60 := Aside0.mk (Kd.R_below (rowN HV60.out) hb)
               refine ⟨_, rfl, ?_⟩
               have n0_ := Aside0.mk (Kd.R_below (rowN HO_11.out) hb)
               have n1_ := Aside0.mk (Kd.R_below (rowN HO_12.out) hb)
               have n2_ := Aside0.mk (Kd.R_below (rowN HO263.out) hb)
               have n3_ := Aside0.mk (Kd.V_below (by (with_reducible repeat (first | apply Kd.V_alloc | apply Kd.V_drewN | apply Kd.V_drew)); exact HO266.out) hb)
               have n4_ := Aside0.mk (Kd.R_below (rowN HO270.out) hb)
               have n5_ := Aside0.mk (below_step (belN HB.out) hb)
               clear HO_11
               clear HO_12
               clear HO263
               clear HO266
               clear HO270
               clear HB
               have HO_11 := n0_
               have HO_12 := n1_
               have HO263 := n2_
               have HO266 := n3_
               have HO270 := n4_
               have HB := n5_
               clear n0_ n1_ n2_ n3_ n4_ n5_
               (try clear hb)
               (try clear hk)
               refine hK.out _ _ ((own_string (P := Try.prog) Try.underlying23 Try.underlying5 Try.underlying9 (Kd.own_of_R (rowN HV60.out)))) (fun hHeld => ?_)
               clear hK K
               refine norm_ (a' := ?_) ?_ ?_
               rotate_left
               ·show Act.put _ (some 52) _ = _
                simp only [Act.put, List.setIfInBounds_toArray, List.set_cons_zero, List.set_cons_succ, i64_w, i32_w]
                rfl
               refine pA 5 (some 53) (bA 45 63) HT_.out ?_
               refine pA 6 (some 54) (bA 45 127) HT_.out ?_
               refine pA 7 (some 55) (bA 45 255) HT_.out ?_
               refine pA 8 (some 56) (bA 45 511) HT_.out ?_
               refine pA 9 (some 57) (bA 45 1023) HT_.out ?_
               refine pA 10 (some 58) (bA 45 2047) HT_.out ?_
               refine one_ (i := 11) (N := some 59) (bA 45 4095) rfl rfl (one_of HT_.out (by kernel_rfl)) (by decide) (fun K hK => ?_)
               refine goes_ Try.func13 (by kernel_rfl) rfl #[.int .i64 a4, .int .i64 0, .int .i64 (t248.length : Int)] (by rfl) rfl rfl argN ?_
               with_reducible refine (marigraphbook_Within.calls kj8 a4 0 (t248.length : Int) t273 _ A32.out).mono ?_
               rintro e w' ⟨rfl, ⟨nd, rfl⟩⟩
               refine ⟨_, rfl, ?_⟩
               have q56 : (t273 : Int) ≤ ((t248.length : Int) : Int) := of_decide_eq_true (by first | (with_reducible assumption) | assumption)
               obtain ⟨i056, hi056, _, hsz56, _⟩ := info_parts info5
               have hroom56 : t248.length ≤ co16 := (Kd.R_reads' HO_11.out).2.1
               have hC56 : Kd.F (Kd.int .u8) _ _ Ao16 t248.length t248 := (Kd.V_at (base := w.heap.size) (Kd.R_V HO_11.out)).2.2
               have hcut56 := cut_to (P := Try.prog) 23 5 .i64 Try.underlying23 hi056 Ao16 t248.length co16 t273 (of_decide_eq_true (by first | (with_reducible assumption) | assumption)) q56 hroom56
               have hr56 := Kd.F_take (m := (t273 : Int).toNat) hC56 (by omega)
               have hy56 : y274.length = (t273 : Int).toNat := (by rw [Ny274.out, List.length_take]; omega)
               rw [← Ny274.out] at hr56
               rw [← hy56] at hcut56
               have HO278 := Aside0.mk (show Kd.V (Kd.int .u8) 5 _ w.heap.size _ (.slice Ao16 y274.length co16) y274 from Kd.V_mk (by omega) hr56)
               have HC278 := Aside0.mk (show y274.length ≤ co16 from by omega)
               clear hr56 hC56 hroom56 hi056 hsz56
               have KY56 := Aside0.mk hy56
               clear hy56
               replace q56 := eq_true q56
               refine hK.out _ _ ((own_string (P := Try.prog) Try.underlying23 Try.underlying5 Try.underlying9 (Kd.own_of_R (rowN HV60.out)))) (fun hHeld => ?_)
               clear hK K
               refine norm_ (a' := ?_) ?_ ?_
               rotate_left
               ·show Act.put _ (some 59) _ = _
                simp only [Act.put, List.setIfInBounds_toArray, List.set_cons_zero, List.set_cons_succ, i64_w, i32_w]
                rfl
               refine pA 12 (some 60) (bA 45 8191) HT_.out ?_
               refine one_ (i := 13) (N := some 61) (bA 45 16383) rfl rfl (one_of HT_.out (by kernel_rfl)) (by decide) (fun K hK => ?_)
               refine goes_ Try.func17 (by kernel_rfl) rfl #[.slice Ao16 y274.length co16] (by rfl) rfl rfl argN ?_
               with_reducible refine (marigraphlaw4_all.calls kj8 _ _ y274 true _ ?side1 ?side2 A35.out).mono ?_
               (case side1 => repeat (first | exact (Kd.V_reads' HO278.out).2.2 | (with_reducible refine Kd.C_alloc ?_ _) | (with_reducible refine Kd.C_drewN ?_ _) | (with_reducible refine Kd.C_drew ?_)))
               (case side2 => exact (Kd.V_reads' HO278.out).2.1)
               rintro e w57 ⟨rfl, hb⟩
               have HV60 := Aside0.mk (Kd.R_below (rowN HV60.out) hb)
               refine ⟨_, rfl, ?_⟩
               have n0_ := Aside0.mk (Kd.R_below (rowN HO_11.out) hb)
               have n1_ := Aside0.mk (Kd.R_below (rowN HO_12.out) hb)
               have n2_ := Aside0.mk (Kd.R_below (rowN HO263.out) hb)
               have n3_ := Aside0.mk (Kd.V_below (by (with_reducible repeat (first | apply Kd.V_alloc | apply Kd.V_drewN | apply Kd.V_drew)); exact HO266.out) hb)
               have n4_ := Aside0.mk (Kd.R_below (rowN HO270.out) hb)
               have n5_ := Aside0.mk (Kd.V_below (by (with_reducible repeat (first | apply Kd.V_alloc | apply Kd.V_drewN | apply Kd.V_drew)); exact HO278.out) hb)
               have n6_ := Aside0.mk (below_step (belN HB.out) hb)
               clear HO_11
               clear HO_12
               clear HO263
               clear HO266
               clear HO270
               clear HO278
               clear HB
               have HO_11 := n0_
               have HO_12 := n1_
               have HO263 := n2_
               have HO266 := n3_
               have HO270 := n4_
               have HO278 := n5_
               have HB := n6_
               clear n0_ n1_ n2_ n3_ n4_ n5_ n6_
               (try clear hb)
               (try clear hk)
               have q58 : (((cutI l1 100).length : Int) : Int) ≤ ((t261.length : Int) : Int) := of_decide_eq_true (by first | (with_reducible assumption) | assumption)
               obtain ⟨i058, hi058, _, hsz58, _⟩ := info_parts info5
               have hroom58 : t261.length ≤ co52 := (Kd.R_reads' HO263.out).2.1
               have hC58 : Kd.F (Kd.int .u8) _ _ Ao52 t261.length t261 := (Kd.V_at (base := w.heap.size) (Kd.R_V HO263.out)).2.2
               have hcut58 := cut_to (P := Try.prog) 23 5 .i64 Try.underlying23 hi058 Ao52 t261.length co52 ((cutI l1 100).length : Int) (of_decide_eq_true (by first | (with_reducible assumption) | assumption)) q58 hroom58
               have hr58 := Kd.F_take (m := (((cutI l1 100).length : Int) : Int).toNat) hC58 (by omega)
               have hy58 : y280.length = (((cutI l1 100).length : Int) : Int).toNat := (by rw [Ny280.out, List.length_take]; omega)
               rw [← Ny280.out] at hr58
               rw [← hy58] at hcut58
               have HO284 := Aside0.mk (show Kd.V (Kd.int .u8) 5 _ w.heap.size _ (.slice Ao52 y280.length co52) y280 from Kd.V_mk (by omega) hr58)
               have HC284 := Aside0.mk (show y280.length ≤ co52 from by omega)
               clear hr58 hC58 hroom58 hi058 hsz58
               have KY58 := Aside0.mk hy58
               clear hy58
               replace q58 := eq_true q58
               refine hK.out _ _ ((own_string (P := Try.prog) Try.underlying23 Try.underlying5 Try.underlying9 (Kd.own_of_R (rowN HV60.out)))) (fun hHeld => ?_)
               clear hK K
               refine norm_ (a' := ?_) ?_ ?_
               rotate_left
               ·show Act.put _ (some 61) _ = _
                simp only [Act.put, List.setIfInBounds_toArray, List.set_cons_zero, List.set_cons_succ, i64_w, i32_w]
                rfl
               refine pA 14 (some 62) (bA 45 32767) HT_.out ?_
               refine pA 15 (some 63) (bA 45 65535) HT_.out ?_
               refine pA 16 (some 64) (bA 45 131071) HT_.out ?_
               refine pA 17 (some 65) (bA 45 262143) HT_.out ?_
               refine pA 18 (some 66) (bA 45 524287) HT_.out ?_
               refine pA 19 (some 67) (bA 45 1048575) HT_.out ?_
               refine one_ (i := 20) (N := some 68) (bA 45 2097151) rfl rfl (one_of HT_.out (by kernel_rfl)) (by decide) (fun K hK => ?_)
               refine goes_ Try.func17 (by kernel_rfl) rfl #[.slice Ao52 y280.length co52] (by rfl) rfl rfl argN ?_
               with_reducible refine (marigraphlaw4_all.calls kj8 _ _ y280 true _ ?side1 ?side2 A39.out).mono ?_
               (case side1 => repeat (first | exact (Kd.V_reads' HO284.out).2.2 | (with_reducible refine Kd.C_alloc ?_ _) | (with_reducible refine Kd.C_drewN ?_ _) | (with_reducible refine Kd.C_drew ?_)))
               (case side2 => exact (Kd.V_reads' HO284.out).2.1)
               rintro e w59 ⟨rfl, hb⟩
               have HV60 := Aside0.mk (Kd.R_below (rowN HV60.out) hb)
               refine ⟨_, rfl, ?_⟩
               have n0_ := Aside0.mk (Kd.R_below (rowN HO_11.out) hb)
               have n1_ := Aside0.mk (Kd.R_below (rowN HO_12.out) hb)
               have n2_ := Aside0.mk (Kd.R_below (rowN HO263.out) hb)
               have n3_ := Aside0.mk (Kd.V_below (by (with_reducible repeat (first | apply Kd.V_alloc | apply Kd.V_drewN | apply Kd.V_drew)); exact HO266.out) hb)
               have n4_ := Aside0.mk (Kd.R_below (rowN HO270.out) hb)
               have n5_ := Aside0.mk (Kd.V_below (by (with_reducible repeat (first | apply Kd.V_alloc | apply Kd.V_drewN | apply Kd.V_drew)); exact HO278.out) hb)
               have n6_ := Aside0.mk (Kd.V_below (by (with_reducible repeat (first | apply Kd.V_alloc | apply Kd.V_drewN | apply Kd.V_drew)); exact HO284.out) hb)
               have n7_ := Aside0.mk (below_step (belN HB.out) hb)
               clear HO_11
               clear HO_12
               clear HO263
               clear HO266
               clear HO270
               clear HO278
               clear HO284
               clear HB
               have HO_11 := n0_
               have HO_12 := n1_
               have HO263 := n2_
               have HO266 := n3_
               have HO270 := n4_
               have HO278 := n5_
               have HO284 := n6_
               have HB := n7_
               clear n0_ n1_ n2_ n3_ n4_ n5_ n6_ n7_
               (try clear hb)
               (try clear hk)
               refine hK.out _ _ ((own_string (P := Try.prog) Try.underlying23 Try.underlying5 Try.underlying9 (Kd.own_of_R (rowN HV60.out)))) (fun hHeld => ?_)
               clear hK K
               refine norm_ (a' := ?_) ?_ ?_
               rotate_left
               ·show Act.put _ (some 68) _ = _
                simp only [Act.put, List.setIfInBounds_toArray, List.set_cons_zero, List.set_cons_succ, i64_w, i32_w]
                rfl
               refine pA 21 (some 69) (bA 45 4194303) HT_.out ?_
               refine pA 22 (some 70) (bA 45 8388607) HT_.out ?_
               refine pA 23 (some 71) (bA 45 16777215) HT_.out ?_
               refine pA 24 (some 72) (bA 45 33554431) HT_.out ?_
               refine pA 25 (some 73) (bA 45 67108863) HT_.out ?_
               refine pA 26 (some 74) (bA 45 134217727) HT_.out ?_
               refine pA 27 (some 75) (bA 45 268435455) HT_.out ?_
               refine pA 29 (some 77) (bA 45 805306367) HT_.out ?_
               refine pA 30 (some 78) (bA 45 1879048191) HT_.out ?_
               refine take_ (i := 28) (N := some 76) (v := ?_) (a' := ?_) (bA 45 2147483647) rfl rfl (take_ofW HT_.out HW_.out (by kernel_rfl)) (fun _ _ _ h => h) (Or.inl ⟨by rfl, ?_⟩) hHeld ?_ ?_
               rotate_left
               ·intro w' s0
                go_simp
                with_reducible rfl
               rotate_left
               ·simp only [Act.put, List.setIfInBounds_toArray, List.set_cons_zero, List.set_cons_succ, i64_w, i32_w]
                rfl
               refine one_ (i := 31) (N := some 79) (bA 45 4294967295) rfl rfl (one_of HT_.out (by kernel_rfl)) (by decide) (fun K hK => ?_)
               refine goes_ Try.func14 (by kernel_rfl) rfl #[.slice Ao16 t248.length co16, .int .i64 50] (by rfl) rfl rfl argN ?_
               with_reducible refine (marigraphkeep_Cut.calls (fun k_ => some k_ = (.slice Ao16 t248.length co16 : Value).ownBlock) _ _ t248 50 t286 _ ?side1 A42.out).mono ?_
               (case side1 => exact Kd.R_V (Kd.R_tight rfl (HO_11.out)))
               rintro e w61 ⟨v287, rfl, ho0, hb⟩
               have HV60 := Aside0.mk (Kd.R_below (rowN HV60.out) hb)
               refine ⟨_, rfl, ?_⟩
               have n0_ := Aside0.mk (Kd.R_below (rowN HO_11.out) hb)
               have n1_ := Aside0.mk (Kd.R_below (rowN HO_12.out) hb)
               have n2_ := Aside0.mk (Kd.R_below (rowN HO263.out) hb)
               have n3_ := Aside0.mk (Kd.V_below (by (with_reducible repeat (first | apply Kd.V_alloc | apply Kd.V_drewN | apply Kd.V_drew)); exact HO266.out) hb)
               have n4_ := Aside0.mk (Kd.R_below (rowN HO270.out) hb)
               have n5_ := Aside0.mk (Kd.V_below (by (with_reducible repeat (first | apply Kd.V_alloc | apply Kd.V_drewN | apply Kd.V_drew)); exact HO278.out) hb)
               have n6_ := Aside0.mk (Kd.V_below (by (with_reducible repeat (first | apply Kd.V_alloc | apply Kd.V_drewN | apply Kd.V_drew)); exact HO284.out) hb)
               have n7_ := Aside0.mk (Kd.V_lower (Kd.V_mono (ok' := fun k_ => some k_ ≠ (.slice Ao17 x12_8.length co17 : Value).ownBlock ∧ some k_ ≠ (.slice Ao52 t261.length co52 : Value).ownBlock ∧ some k_ ≠ (v269 : Value).ownBlock) ho0 (fun k_ hk_ => ⟨Or.elim hk_ (fun hs_ => ((HO_11.out).1 k_ hs_.symm).1.1) (fun hn_ => (Kd.fresh' (Kd.R_lt (rowN HO_12.out)) k_ hn_)), Or.elim hk_ (fun hs_ => ((HO_11.out).1 k_ hs_.symm).1.2) (fun hn_ => (Kd.fresh' (Kd.R_lt (rowN HO263.out)) k_ hn_)), Or.elim hk_ (fun hs_ => ((HO_11.out).1 k_ hs_.symm).2) (fun hn_ => (Kd.fresh' (Kd.R_lt (rowN HO270.out)) k_ hn_))⟩)) (below_size (belN HB.out)))
               have n8_ := Aside0.mk (below_step (belN HB.out) hb)
               clear HO_11
               clear HO_12
               clear HO263
               clear HO266
               clear HO270
               clear HO278
               clear HO284
               clear HB
               have HO_11 := n0_
               have HO_12 := n1_
               have HO263 := n2_
               have HO266 := n3_
               have HO270 := n4_
               have HO278 := n5_
               have HO284 := n6_
               have HO288 := n7_
               have HB := n8_
               clear n0_ n1_ n2_ n3_ n4_ n5_ n6_ n7_ n8_
               (try clear hb)
               (try clear hk)
               (try clear ho0)
               obtain ⟨Ao62, co62, eo62⟩ := Kd.V_slice HO288.out
               (first | subst eo62 | (injection eo62 with f1_ f2_ f3_; have f4_ := f1_.symm; have f5_ := f3_.symm; clear f1_ f2_ f3_; subst f4_; subst f5_))
               refine hK.out _ _ ((own_string (P := Try.prog) Try.underlying23 Try.underlying5 Try.underlying9 (Kd.own_of_R (rowN HV60.out)))) (fun hHeld => ?_)
               clear hK K
               refine norm_ (a' := ?_) ?_ ?_
               rotate_left
               ·show Act.put _ (some 79) _ = _
                simp only [Act.put, List.setIfInBounds_toArray, List.set_cons_zero, List.set_cons_succ, i64_w, i32_w]
                rfl
               refine one_ (i := 32) (N := some 80) (bA 45 8589934591) rfl rfl (one_of HT_.out (by kernel_rfl)) (by decide) (fun K hK => ?_)
               refine goes_ Try.func18 (by kernel_rfl) rfl #[.slice A1 (cutI l1 100).length c1, .slice Ao62 t286.length co62] (by rfl) rfl rfl argN ?_
               with_reducible refine (marigraphref4_Put.calls kj8 _ _ (cutI l1 100) _ _ t286 t289 _ ?side1 ?side2 ?side3 ?side4 A43.out).mono ?_
               (case side1 => repeat (first | exact (Kd.C_below HR260.out HB.out) | (with_reducible refine Kd.C_alloc ?_ _) | (with_reducible refine Kd.C_drewN ?_ _) | (with_reducible refine Kd.C_drew ?_)))
               (case side2 => exact HC260.out)
               (case side3 => repeat (first | exact (Kd.V_reads' HO288.out).2.2 | (with_reducible refine Kd.C_alloc ?_ _) | (with_reducible refine Kd.C_drewN ?_ _) | (with_reducible refine Kd.C_drew ?_)))
               (case side4 => exact (Kd.V_reads' HO288.out).2.1)
               rintro e w63 ⟨v290, rfl, ho0, hb⟩
               have HV60 := Aside0.mk (Kd.R_below (rowN HV60.out) hb)
               refine ⟨_, rfl, ?_⟩
               have n0_ := Aside0.mk (Kd.R_elder' (rowN HO_11.out) (Kd.R_base ho0) hb)
               have n1_ := Aside0.mk (Kd.R_elder' (rowN HO_12.out) (Kd.R_base ho0) hb)
               have n2_ := Aside0.mk (Kd.R_elder' (rowN HO263.out) (Kd.R_base ho0) hb)
               have n3_ := Aside0.mk (Kd.V_elder' (by (with_reducible repeat (first | apply Kd.V_alloc | apply Kd.V_drewN | apply Kd.V_drew)); exact HO266.out) (Kd.R_base ho0) hb)
               have n4_ := Aside0.mk (Kd.R_elder' (rowN HO270.out) (Kd.R_base ho0) hb)
               have n5_ := Aside0.mk (Kd.V_elder' (by (with_reducible repeat (first | apply Kd.V_alloc | apply Kd.V_drewN | apply Kd.V_drew)); exact HO278.out) (Kd.R_base ho0) hb)
               have n6_ := Aside0.mk (Kd.V_elder' (by (with_reducible repeat (first | apply Kd.V_alloc | apply Kd.V_drewN | apply Kd.V_drew)); exact HO284.out) (Kd.R_base ho0) hb)
               have n7_ := Aside0.mk (Kd.V_elder' (by (with_reducible repeat (first | apply Kd.V_alloc | apply Kd.V_drewN | apply Kd.V_drew)); exact HO288.out) (Kd.R_base ho0) hb)
               have n8_ := Aside0.mk (Kd.R_lower (Kd.R_new' (Kd.R_new' (Kd.R_new' (Kd.R_new' ho0 (Kd.R_lt (rowN HO_11.out))) (Kd.R_lt (rowN HO_12.out))) (Kd.R_lt (rowN HO263.out))) (Kd.R_lt (rowN HO270.out))) (below_size (belN HB.out)))
               have n9_ := Aside0.mk (below_step (belN HB.out) hb)
               clear HO_11
               clear HO_12
               clear HO263
               clear HO266
               clear HO270
               clear HO278
               clear HO284
               clear HO288
               clear HB
               have HO_11 := n0_
               have HO_12 := n1_
               have HO263 := n2_
               have HO266 := n3_
               have HO270 := n4_
               have HO278 := n5_
               have HO284 := n6_
               have HO288 := n7_
               have HO291 := n8_
               have HB := n9_
               clear n0_ n1_ n2_ n3_ n4_ n5_ n6_ n7_ n8_ n9_
               (try clear hb)
               (try clear hk)
               (try clear ho0)
               refine hK.out _ _ ((own_string (P := Try.prog) Try.underlying23 Try.underlying5 Try.underlying9 (Kd.own_of_R (rowN HV60.out)))) (fun hHeld => ?_)
               clear hK K
               refine norm_ (a' := ?_) ?_ ?_
               rotate_left
               ·show Act.put _ (some 80) _ = _
                simp only [Act.put, List.setIfInBounds_toArray, List.set_cons_zero, List.set_cons_succ, i64_w, i32_w]
                rfl
               refine one_ (i := 33) (N := some 81) (bA 45 17179869183) rfl rfl (one_of HT_.out (by kernel_rfl)) (by decide) (fun K hK => ?_)
               have hcv64 := own_string (P := Try.prog) Try.underlying23 Try.underlying5 Try.underlying9 (Kd.own_of_R HO291.out)
               refine value_ (w1 := ?_) (v := ?_) (by rfl) rfl ?_ ?_
               rotate_left 2
               ·go_simp
                constructor
                ·rfl
                ·rfl
               clear hcv64
               refine hK.out _ _ ((own_string (P := Try.prog) Try.underlying23 Try.underlying5 Try.underlying9 (Kd.own_of_R (rowN HV60.out)))) (fun hHeld => ?_)
               clear hK K
               refine norm_ (a' := ?_) ?_ ?_
               rotate_left
               ·show Act.put _ (some 81) _ = _
                simp only [Act.put, List.setIfInBounds_toArray, List.set_cons_zero, List.set_cons_succ, i64_w, i32_w]
                rfl
               refine pA 34 (some 82) (bA 45 34359738367) HT_.out ?_
               refine pA 35 (some 83) (bA 45 68719476735) HT_.out ?_
               refine pA 36 (some 84) (bA 45 137438953471) HT_.out ?_
               refine pA 37 (some 85) (bA 45 274877906943) HT_.out ?_
               refine pA 38 (some 86) (bA 45 549755813887) HT_.out ?_
               refine one_ (i := 39) (N := some 87) (bA 45 1099511627775) rfl rfl (one_of HT_.out (by kernel_rfl)) (by decide) (fun K hK => ?_)
               refine goes_ Try.func19 (by kernel_rfl) rfl #[.slice Ao52 t261.length co52, .slice A1 (cutI l1 100).length c1, .int .u8 165] (by rfl) rfl rfl argN ?_
               with_reducible refine (marigraphbook_Intact_byte.calls kj8 _ _ t261 _ _ (cutI l1 100) 165 true _ ?side1 ?side2 ?side3 ?side4 A45.out).mono ?_
               (case side1 => repeat (first | exact (Kd.R_reads' HO263.out).2.2 | (with_reducible refine Kd.C_alloc ?_ _) | (with_reducible refine Kd.C_drewN ?_ _) | (with_reducible refine Kd.C_drew ?_)))
               (case side2 => exact (Kd.R_reads' HO263.out).2.1)
               (case side3 => repeat (first | exact (Kd.C_below HR260.out HB.out) | (with_reducible refine Kd.C_alloc ?_ _) | (with_reducible refine Kd.C_drewN ?_ _) | (with_reducible refine Kd.C_drew ?_)))
               (case side4 => exact HC260.out)
               rintro e w' ⟨rfl, ⟨nd, rfl⟩⟩
               refine ⟨_, rfl, ?_⟩
               refine hK.out _ _ ((own_string (P := Try.prog) Try.underlying23 Try.underlying5 Try.underlying9 (Kd.own_of_R (rowN HV60.out)))) (fun hHeld => ?_)
               clear hK K
               refine norm_ (a' := ?_) ?_ ?_
               rotate_left
               ·show Act.put _ (some 87) _ = _
                simp only [Act.put, List.setIfInBounds_toArray, List.set_cons_zero, List.set_cons_succ, i64_w, i32_w]
                rfl
               refine pA 40 (some 88) (bA 45 2199023255551) HT_.out ?_
               refine pA 41 (some 89) (bA 45 4398046511103) HT_.out ?_
               refine one_ (i := 42) (N := some 90) (bA 45 8796093022207) rfl rfl (one_of HT_.out (by kernel_rfl)) (by decide) (fun K hK => ?_)
               refine goes_ Try.func20 (by kernel_rfl) rfl #[] (by rfl) rfl rfl argN ?_
               with_reducible refine (marigraphlaw4_known.calls kj8  t293 _ A47.out).mono ?_
               rintro e w66 ⟨rfl, hb⟩
               have HV60 := Aside0.mk (Kd.R_below (rowN HV60.out) hb)
               refine ⟨_, rfl, ?_⟩
               have n0_ := Aside0.mk (Kd.R_below (rowN HO_11.out) hb)
               have n1_ := Aside0.mk (Kd.R_below (rowN HO_12.out) hb)
               have n2_ := Aside0.mk (Kd.R_below (rowN HO263.out) hb)
               have n3_ := Aside0.mk (Kd.V_below (by (with_reducible repeat (first | apply Kd.V_alloc | apply Kd.V_drewN | apply Kd.V_drew)); exact HO266.out) hb)
               have n4_ := Aside0.mk (Kd.R_below (rowN HO270.out) hb)
               have n5_ := Aside0.mk (Kd.V_below (by (with_reducible repeat (first | apply Kd.V_alloc | apply Kd.V_drewN | apply Kd.V_drew)); exact HO278.out) hb)
               have n6_ := Aside0.mk (Kd.V_below (by (with_reducible repeat (first | apply Kd.V_alloc | apply Kd.V_drewN | apply Kd.V_drew)); exact HO284.out) hb)
               have n7_ := Aside0.mk (Kd.V_below (by (with_reducible repeat (first | apply Kd.V_alloc | apply Kd.V_drewN | apply Kd.V_drew)); exact HO288.out) hb)
               have n8_ := Aside0.mk (Kd.R_below (rowN HO291.out) hb)
               have n9_ := Aside0.mk (below_step (belN HB.out) hb)
               clear HO_11
               clear HO_12
               clear HO263
               clear HO266
               clear HO270
               clear HO278
               clear HO284
               clear HO288
               clear HO291
               clear HB
               have HO_11 := n0_
               have HO_12 := n1_
               have HO263 := n2_
               have HO266 := n3_
               have HO270 := n4_
               have HO278 := n5_
               have HO284 := n6_
               have HO288 := n7_
               have HO291 := n8_
               have HB := n9_
               clear n0_ n1_ n2_ n3_ n4_ n5_ n6_ n7_ n8_ n9_
               (try clear hb)
               (try clear hk)
               refine hK.out _ _ ((own_string (P := Try.prog) Try.underlying23 Try.underlying5 Try.underlying9 (Kd.own_of_R (rowN HV60.out)))) (fun hHeld => ?_)
               clear hK K
               refine norm_ (a' := ?_) ?_ ?_
               rotate_left
               ·show Act.put _ (some 90) _ = _
                simp only [Act.put, List.setIfInBounds_toArray, List.set_cons_zero, List.set_cons_succ, i64_w, i32_w]
                rfl
               refine pA 43 (some 91) (bA 45 17592186044415) HT_.out ?_
               refine pA 44 (some 10) (bA 45 35184372088831) HT_.out ?_
               refine done_ (done_of HT_.out (by kernel_rfl)) ?_
               try go_wp2
               go_ret
               exact ⟨by first | rfl | (simp [errW_none, errW_some] <;> rfl) | (simp [*, errW_none, errW_some] <;> rfl), (belN HB.out)⟩
              ·replace c46 := Bool.eq_false_iff.mpr c46
               subst c46
               have H1 : (some false) = some r := by rw [if_neg (show ¬ (false = true) by decide)] at H; exact H
               clear H
               have H := H1
               clear H1
               obtain rfl := Option.some.inj H
               have HR260 := Aside0.mk (cutI_C (n := 100) HR1.out)
               have HC260 := Aside0.mk (cutI_le (n := 100) HC1.out)
               try go_wp2_with (first | ((with_reducible refine gate_callee (f := 14) rfl ?_); refine goesL_ (some 38) rfl rfl Try.func14 (by kernel_rfl) rfl #[.slice A1 l1.length c1, .int .i64 100] rfl (by (try simp only [List.map_toArray, List.map_cons, List.map_nil]); first | done | rfl) ?_; (with_reducible refine (marigraphkeep_Cut.callsR A1 c1 l1 100 100 _ HC1.out rfl).mono ?_); rintro e w' ⟨rfl, ⟨nd, rfl⟩⟩; refine ⟨_, rfl, ?_⟩) | ((with_reducible refine gate_callee (f := 15) rfl ?_); refine goesL_ (some 40) rfl rfl Try.func15 (by kernel_rfl) rfl #[.slice A1 (cutI l1 100).length c1, .int .u8 165] rfl argN ?_; (with_reducible refine (marigraphbook_Roomy_byte.calls _ _ (cutI l1 100) 165 t261 _ ?side1 ?side2 A25.out).mono ?_); (case side1 => repeat (first | exact (Kd.C_below HR260.out (belN HB.out)) | (with_reducible refine Kd.C_alloc ?_ _) | (with_reducible refine Kd.C_drewN ?_ _) | (with_reducible refine Kd.C_drew ?_))); (case side2 => exact HC260.out); rintro e w67 ⟨v262, rfl, ho0, hb⟩; refine ⟨_, rfl, ?_⟩; have n0_ := Aside0.mk (Kd.R_elder' (rowN HO_11.out) (Kd.R_base ho0) hb); have n1_ := Aside0.mk (Kd.R_elder' (rowN HO_12.out) (Kd.R_base ho0) hb); have n2_ := Aside0.mk (Kd.R_lower (Kd.R_new' (Kd.R_new' ho0 (Kd.R_lt (rowN HO_11.out))) (Kd.R_lt (rowN HO_12.out))) (below_size (belN HB.out))); have n3_ := Aside0.mk (below_step (belN HB.out) hb); clear HO_11; clear HO_12; clear HB; have HO_11 := n0_; have HO_12 := n1_; have HO263 := n2_; have HB := n3_; clear n0_ n1_ n2_ n3_; (try clear hb); (try clear hk); (try clear ho0)) | ((with_reducible refine gate_callee (f := 14) rfl ?_); refine goesL_ (some 44) rfl rfl Try.func14 (by kernel_rfl) rfl #[.slice Ao16 t248.length co16, .int .i64 50] rfl argN ?_; (with_reducible refine (marigraphkeep_Cut.calls (fun k_ => some k_ = (.slice Ao16 t248.length co16 : Value).ownBlock) _ _ t248 50 t264 _ ?side1 A26.out).mono ?_); (case side1 => exact Kd.R_V (Kd.R_tight rfl (HO_11.out))); rintro e w68 ⟨v265, rfl, ho0, hb⟩; refine ⟨_, rfl, ?_⟩; have n0_ := Aside0.mk (Kd.R_below (rowN HO_11.out) hb); have n1_ := Aside0.mk (Kd.R_below (rowN HO_12.out) hb); have n2_ := Aside0.mk (Kd.R_below (rowN HO263.out) hb); have n3_ := Aside0.mk (Kd.V_lower (Kd.V_mono (ok' := fun k_ => some k_ ≠ (.slice Ao17 x12_8.length co17 : Value).ownBlock ∧ some k_ ≠ (v262 : Value).ownBlock) ho0 (fun k_ hk_ => ⟨Or.elim hk_ (fun hs_ => ((HO_11.out).1 k_ hs_.symm).1) (fun hn_ => (Kd.fresh' (Kd.R_lt (rowN HO_12.out)) k_ hn_)), Or.elim hk_ (fun hs_ => ((HO_11.out).1 k_ hs_.symm).2) (fun hn_ => (Kd.fresh' (Kd.R_lt (rowN HO263.out)) k_ hn_))⟩)) (below_size (belN HB.out))); have n4_ := Aside0.mk (below_step (belN HB.out) hb); clear HO_11; clear HO_12; clear HO263; clear HB; have HO_11 := n0_; have HO_12 := n1_; have HO263 := n2_; have HO266 := n3_; have HB := n4_; clear n0_ n1_ n2_ n3_ n4_; (try clear hb); (try clear hk); (try clear ho0); obtain ⟨Ao69, co69, eo69⟩ := Kd.V_slice HO266.out; subst eo69) | ((with_reducible refine gate_callee (f := 16) rfl ?_); refine goesL_ (some 45) rfl rfl Try.func16 (by kernel_rfl) rfl #[.slice A1 (cutI l1 100).length c1, .slice Ao69 t264.length co69] rfl argN ?_; (with_reducible refine (frame_Put.calls kj8 _ _ (cutI l1 100) _ _ t264 t267 t268 _ ?side1 ?side2 ?side3 ?side4 A27.out).mono ?_); (case side1 => repeat (first | exact (Kd.C_below HR260.out HB.out) | (with_reducible refine Kd.C_alloc ?_ _) | (with_reducible refine Kd.C_drewN ?_ _) | (with_reducible refine Kd.C_drew ?_))); (case side2 => exact HC260.out); (case side3 => repeat (first | exact (Kd.V_reads' HO266.out).2.2 | (with_reducible refine Kd.C_alloc ?_ _) | (with_reducible refine Kd.C_drewN ?_ _) | (with_reducible refine Kd.C_drew ?_))); (case side4 => exact (Kd.V_reads' HO266.out).2.1); rintro e w70 ⟨v269, rfl, ho0, hb⟩; refine ⟨_, rfl, ?_⟩; have n0_ := Aside0.mk (Kd.R_elder' (rowN HO_11.out) (Kd.R_base ho0) hb); have n1_ := Aside0.mk (Kd.R_elder' (rowN HO_12.out) (Kd.R_base ho0) hb); have n2_ := Aside0.mk (Kd.R_elder' (rowN HO263.out) (Kd.R_base ho0) hb); have n3_ := Aside0.mk (Kd.V_elder' (by (with_reducible repeat (first | apply Kd.V_alloc | apply Kd.V_drewN | apply Kd.V_drew)); exact HO266.out) (Kd.R_base ho0) hb); have n4_ := Aside0.mk (Kd.R_lower (Kd.R_new' (Kd.R_new' (Kd.R_new' ho0 (Kd.R_lt (rowN HO_11.out))) (Kd.R_lt (rowN HO_12.out))) (Kd.R_lt (rowN HO263.out))) (below_size (belN HB.out))); have n5_ := Aside0.mk (below_step (belN HB.out) hb); clear HO_11; clear HO_12; clear HO263; clear HO266; clear HB; have HO_11 := n0_; have HO_12 := n1_; have HO263 := n2_; have HO266 := n3_; have HO270 := n4_; have HB := n5_; clear n0_ n1_ n2_ n3_ n4_ n5_; (try clear hb); (try clear hk); (try clear ho0); obtain ⟨Ao71, co71, eo71⟩ := Kd.R_slice HO263.out; subst eo71))
               have n0_ := Aside0.mk (Kd.R_drew HO_11.out)
               have n1_ := Aside0.mk (Kd.R_drew HO_12.out)
               have n2_ := Aside0.mk (Kd.R_drew HO263.out)
               have n3_ := Aside0.mk (Kd.V_drew HO266.out)
               have n4_ := Aside0.mk (Kd.R_drew HO270.out)
               have n5_ := Aside0.mk (below_drew1 HB.out)
               clear HO_11
               clear HO_12
               clear HO263
               clear HO266
               clear HO270
               clear HB
               have HO_11 := n0_
               have HO_12 := n1_
               have HO263 := n2_
               have HO266 := n3_
               have HO270 := n4_
               have HB := n5_
               clear n0_ n1_ n2_ n3_ n4_ n5_
               refine start_ (n := 45) (S := fun w' => (convert 23 9 (v269)).run Try.prog w' = .ok (.string (strOfNums t267)) w') (ds := []) #[false, false, false, false, false, false, false, false, false, false, false, false, false, false, false, false, false, false, false, false, false, false, false, false, false, false, false, false, false, false, false, false, false, false, false, false, false, false, false, false, false, false, false, false, false] (by kernel_rfl) rfl rfl ((own_string (P := Try.prog) Try.underlying23 Try.underlying5 Try.underlying9 (Kd.own_of_R HO270.out))) (fun hHeld => ?_); refine with_tabW marigraphlaw4_FrameTells.tab9 marigraphlaw4_FrameTells.bits9 (fun HT_ HW_ => ?_)
               generalize w70.drew = w72 at HO_11 HO_12 HO263 HO266 HO270 HB hHeld ⊢
               have HV79 := HO270
               refine pA 0 (some 48) (bA 45 1) HT_.out ?_
               refine one_ (i := 1) (N := some 49) (bA 45 3) rfl rfl (one_of HT_.out (by kernel_rfl)) (by decide) (fun K hK => ?_)
               refine goes_ Try.func17 (by kernel_rfl) rfl #[.slice Ao16 t248.length co16] (by rfl) rfl rfl argN ?_
               with_reducible refine (marigraphlaw4_all.calls kj8 _ _ t248 true _ ?side1 ?side2 A28.out).mono ?_
               (case side1 => repeat (first | exact (Kd.R_reads' HO_11.out).2.2 | (with_reducible refine Kd.C_alloc ?_ _) | (with_reducible refine Kd.C_drewN ?_ _) | (with_reducible refine Kd.C_drew ?_)))
               (case side2 => exact (Kd.R_reads' HO_11.out).2.1)
               rintro e w73 ⟨rfl, hb⟩
               have HV79 := Aside0.mk (Kd.R_below (rowN HV79.out) hb)
               refine ⟨_, rfl, ?_⟩
               have n0_ := Aside0.mk (Kd.R_below (rowN HO_11.out) hb)
               have n1_ := Aside0.mk (Kd.R_below (rowN HO_12.out) hb)
               have n2_ := Aside0.mk (Kd.R_below (rowN HO263.out) hb)
               have n3_ := Aside0.mk (Kd.V_below (by (with_reducible repeat (first | apply Kd.V_alloc | apply Kd.V_drewN | apply Kd.V_drew)); exact HO266.out) hb)
               have n4_ := Aside0.mk (Kd.R_below (rowN HO270.out) hb)
               have n5_ := Aside0.mk (below_step (belN HB.out) hb)
               clear HO_11
               clear HO_12
               clear HO263
               clear HO266
               clear HO270
               clear HB
               have HO_11 := n0_
               have HO_12 := n1_
               have HO263 := n2_
               have HO266 := n3_
               have HO270 := n4_
               have HB := n5_
               clear n0_ n1_ n2_ n3_ n4_ n5_
               (try clear hb)
               (try clear hk)
               refine hK.out _ _ ((own_string (P := Try.prog) Try.underlying23 Try.underlying5 Try.underlying9 (Kd.own_of_R (rowN HV79.out)))) (fun hHeld => ?_)
               clear hK K
               refine norm_ (a' := ?_) ?_ ?_
               rotate_left
               ·show Act.put _ (some 49) _ = _
                simp only [Act.put, List.setIfInBounds_toArray, List.set_cons_zero, List.set_cons_succ, i64_w, i32_w]
                rfl
               refine pA 2 (some 50) (bA 45 7) HT_.out ?_
               refine pA 3 (some 51) (bA 45 15) HT_.out ?_
               refine one_ (i := 4) (N := some 52) (bA 45 31) rfl rfl (one_of HT_.out (by kernel_rfl)) (by decide) (fun K hK => ?_)
               refine goes_ Try.func17 (by kernel_rfl) rfl #[.slice Ao17 x12_8.length co17] (by rfl) rfl rfl argN ?_
               with_reducible refine (marigraphlaw4_all.calls kj8 _ _ x12_8 true _ ?side1 ?side2 A30.out).mono ?_
               (case side1 => repeat (first | exact (Kd.R_reads' HO_12.out).2.2 | (with_reducible refine Kd.C_alloc ?_ _) | (with_reducible refine Kd.C_drewN ?_ _) | (with_reducible refine Kd.C_drew ?_)))
               (case side2 => exact (Kd.R_reads' HO_12.out).2.1)
               rintro e w74 ⟨rfl, hb⟩
               have HV79 := Aside0.mk (Kd.R_below (rowN HV79.out) hb)
               refine ⟨_, rfl, ?_⟩
               have n0_ := Aside0.mk (Kd.R_below (rowN HO_11.out) hb)
               have n1_ := Aside0.mk (Kd.R_below (rowN HO_12.out) hb)
               have n2_ := Aside0.mk (Kd.R_below (rowN HO263.out) hb)
               have n3_ := Aside0.mk (Kd.V_below (by (with_reducible repeat (first | apply Kd.V_alloc | apply Kd.V_drewN | apply Kd.V_drew)); exact HO266.out) hb)
               have n4_ := Aside0.mk (Kd.R_below (rowN HO270.out) hb)
               have n5_ := Aside0.mk (below_step (belN HB.out) hb)
               clear HO_11
               clear HO_12
               clear HO263
               clear HO266
               clear HO270
               clear HB
               have HO_11 := n0_
               have HO_12 := n1_
               have HO263 := n2_
               have HO266 := n3_
               have HO270 := n4_
               have HB := n5_
               clear n0_ n1_ n2_ n3_ n4_ n5_
               (try clear hb)
               (try clear hk)
               refine hK.out _ _ ((own_string (P := Try.prog) Try.underlying23 Try.underlying5 Try.underlying9 (Kd.own_of_R (rowN HV79.out)))) (fun hHeld => ?_)
               clear hK K
               refine norm_ (a' := ?_) ?_ ?_
               rotate_left
               ·show Act.put _ (some 52) _ = _
                simp only [Act.put, List.setIfInBounds_toArray, List.set_cons_zero, List.set_cons_succ, i64_w, i32_w]
                rfl
               refine pA 5 (some 53) (bA 45 63) HT_.out ?_
               refine pA 6 (some 54) (bA 45 127) HT_.out ?_
               refine pA 7 (some 55) (bA 45 255) HT_.out ?_
               refine pA 8 (some 56) (bA 45 511) HT_.out ?_
               refine pA 9 (some 57) (bA 45 1023) HT_.out ?_
               refine pA 10 (some 58) (bA 45 2047) HT_.out ?_
               refine one_ (i := 11) (N := some 59) (bA 45 4095) rfl rfl (one_of HT_.out (by kernel_rfl)) (by decide) (fun K hK => ?_)
               refine goes_ Try.func13 (by kernel_rfl) rfl #[.int .i64 a4, .int .i64 0, .int .i64 (t248.length : Int)] (by rfl) rfl rfl argN ?_
               with_reducible refine (marigraphbook_Within.calls kj8 a4 0 (t248.length : Int) t273 _ A32.out).mono ?_
               rintro e w' ⟨rfl, ⟨nd, rfl⟩⟩
               refine ⟨_, rfl, ?_⟩
               have q75 : (t273 : Int) ≤ ((t248.length : Int) : Int) := of_decide_eq_true (by first | (with_reducible assumption) | assumption)
               obtain ⟨i075, hi075, _, hsz75, _⟩ := info_parts info5
               have hroom75 : t248.length ≤ co16 := (Kd.R_reads' HO_11.out).2.1
               have hC75 : Kd.F (Kd.int .u8) _ _ Ao16 t248.length t248 := (Kd.V_at (base := w.heap.size) (Kd.R_V HO_11.out)).2.2
               have hcut75 := cut_to (P := Try.prog) 23 5 .i64 Try.underlying23 hi075 Ao16 t248.length co16 t273 (of_decide_eq_true (by first | (with_reducible assumption) | assumption)) q75 hroom75
               have hr75 := Kd.F_take (m := (t273 : Int).toNat) hC75 (by omega)
               have hy75 : y274.length = (t273 : Int).toNat := (by rw [Ny274.out, List.length_take]; omega)
               rw [← Ny274.out] at hr75
               rw [← hy75] at hcut75
               have HO278 := Aside0.mk (show Kd.V (Kd.int .u8) 5 _ w.heap.size _ (.slice Ao16 y274.length co16) y274 from Kd.V_mk (by omega) hr75)
               have HC278 := Aside0.mk (show y274.length ≤ co16 from by omega)
               clear hr75 hC75 hroom75 hi075 hsz75
               have KY75 := Aside0.mk hy75
               clear hy75
               replace q75 := eq_true q75
               refine hK.out _ _ ((own_string (P := Try.prog) Try.underlying23 Try.underlying5 Try.underlying9 (Kd.own_of_R (rowN HV79.out)))) (fun hHeld => ?_)
               clear hK K
               refine norm_ (a' := ?_) ?_ ?_
               rotate_left
               ·show Act.put _ (some 59) _ = _
                simp only [Act.put, List.setIfInBounds_toArray, List.set_cons_zero, List.set_cons_succ, i64_w, i32_w]
                rfl
               refine pA 12 (some 60) (bA 45 8191) HT_.out ?_
               refine one_ (i := 13) (N := some 61) (bA 45 16383) rfl rfl (one_of HT_.out (by kernel_rfl)) (by decide) (fun K hK => ?_)
               refine goes_ Try.func17 (by kernel_rfl) rfl #[.slice Ao16 y274.length co16] (by rfl) rfl rfl argN ?_
               with_reducible refine (marigraphlaw4_all.calls kj8 _ _ y274 true _ ?side1 ?side2 A35.out).mono ?_
               (case side1 => repeat (first | exact (Kd.V_reads' HO278.out).2.2 | (with_reducible refine Kd.C_alloc ?_ _) | (with_reducible refine Kd.C_drewN ?_ _) | (with_reducible refine Kd.C_drew ?_)))
               (case side2 => exact (Kd.V_reads' HO278.out).2.1)
               rintro e w76 ⟨rfl, hb⟩
               have HV79 := Aside0.mk (Kd.R_below (rowN HV79.out) hb)
               refine ⟨_, rfl, ?_⟩
               have n0_ := Aside0.mk (Kd.R_below (rowN HO_11.out) hb)
               have n1_ := Aside0.mk (Kd.R_below (rowN HO_12.out) hb)
               have n2_ := Aside0.mk (Kd.R_below (rowN HO263.out) hb)
               have n3_ := Aside0.mk (Kd.V_below (by (with_reducible repeat (first | apply Kd.V_alloc | apply Kd.V_drewN | apply Kd.V_drew)); exact HO266.out) hb)
               have n4_ := Aside0.mk (Kd.R_below (rowN HO270.out) hb)
               have n5_ := Aside0.mk (Kd.V_below (by (with_reducible repeat (first | apply Kd.V_alloc | apply Kd.V_drewN | apply Kd.V_drew)); exact HO278.out) hb)
               have n6_ := Aside0.mk (below_step (belN HB.out) hb)
               clear HO_11
               clear HO_12
               clear HO263
               clear HO266
               clear HO270
               clear HO278
               clear HB
               have HO_11 := n0_
               have HO_12 := n1_
               have HO263 := n2_
               have HO266 := n3_
               have HO270 := n4_
               have HO278 := n5_
               have HB := n6_
               clear n0_ n1_ n2_ n3_ n4_ n5_ n6_
               (try clear hb)
               (try clear hk)
               have q77 : (((cutI l1 100).length : Int) : Int) ≤ ((t261.length : Int) : Int) := of_decide_eq_true (by first | (with_reducible assumption) | assumption)
               obtain ⟨i077, hi077, _, hsz77, _⟩ := info_parts info5
               have hroom77 : t261.length ≤ co71 := (Kd.R_reads' HO263.out).2.1
               have hC77 : Kd.F (Kd.int .u8) _ _ Ao71 t261.length t261 := (Kd.V_at (base := w.heap.size) (Kd.R_V HO263.out)).2.2
               have hcut77 := cut_to (P := Try.prog) 23 5 .i64 Try.underlying23 hi077 Ao71 t261.length co71 ((cutI l1 100).length : Int) (of_decide_eq_true (by first | (with_reducible assumption) | assumption)) q77 hroom77
               have hr77 := Kd.F_take (m := (((cutI l1 100).length : Int) : Int).toNat) hC77 (by omega)
               have hy77 : y280.length = (((cutI l1 100).length : Int) : Int).toNat := (by rw [Ny280.out, List.length_take]; omega)
               rw [← Ny280.out] at hr77
               rw [← hy77] at hcut77
               have HO284 := Aside0.mk (show Kd.V (Kd.int .u8) 5 _ w.heap.size _ (.slice Ao71 y280.length co71) y280 from Kd.V_mk (by omega) hr77)
               have HC284 := Aside0.mk (show y280.length ≤ co71 from by omega)
               clear hr77 hC77 hroom77 hi077 hsz77
               have KY77 := Aside0.mk hy77
               clear hy77
               replace q77 := eq_true q77
               refine hK.out _ _ ((own_string (P := Try.prog) Try.underlying23 Try.underlying5 Try.underlying9 (Kd.own_of_R (rowN HV79.out)))) (fun hHeld => ?_)
               clear hK K
               refine norm_ (a' := ?_) ?_ ?_
               rotate_left
               ·show Act.put _ (some 61) _ = _
                simp only [Act.put, List.setIfInBounds_toArray, List.set_cons_zero, List.set_cons_succ, i64_w, i32_w]
                rfl
               refine pA 14 (some 62) (bA 45 32767) HT_.out ?_
               refine pA 15 (some 63) (bA 45 65535) HT_.out ?_
               refine pA 16 (some 64) (bA 45 131071) HT_.out ?_
               refine pA 17 (some 65) (bA 45 262143) HT_.out ?_
               refine pA 18 (some 66) (bA 45 524287) HT_.out ?_
               refine pA 19 (some 67) (bA 45 1048575) HT_.out ?_
               refine one_ (i := 20) (N := some 68) (bA 45 2097151) rfl rfl (one_of HT_.out (by kernel_rfl)) (by decide) (fun K hK => ?_)
               refine goes_ Try.func17 (by kernel_rfl) rfl #[.slice Ao71 y280.length co71] (by rfl) rfl rfl argN ?_
               with_reducible refine (marigraphlaw4_all.calls kj8 _ _ y280 true _ ?side1 ?side2 A39.out).mono ?_
               (case side1 => repeat (first | exact (Kd.V_reads' HO284.out).2.2 | (with_reducible refine Kd.C_alloc ?_ _) | (with_reducible refine Kd.C_drewN ?_ _) | (with_reducible refine Kd.C_drew ?_)))
               (case side2 => exact (Kd.V_reads' HO284.out).2.1)
               rintro e w78 ⟨rfl, hb⟩
               have HV79 := Aside0.mk (Kd.R_below (rowN HV79.out) hb)
               refine ⟨_, rfl, ?_⟩
               have n0_ := Aside0.mk (Kd.R_below (rowN HO_11.out) hb)
               have n1_ := Aside0.mk (Kd.R_below (rowN HO_12.out) hb)
               have n2_ := Aside0.mk (Kd.R_below (rowN HO263.out) hb)
               have n3_ := Aside0.mk (Kd.V_below (by (with_reducible repeat (first | apply Kd.V_alloc | apply Kd.V_drewN | apply Kd.V_drew)); exact HO266.out) hb)
               have n4_ := Aside0.mk (Kd.R_below (rowN HO270.out) hb)
               have n5_ := Aside0.mk (Kd.V_below (by (with_reducible repeat (first | apply Kd.V_alloc | apply Kd.V_drewN | apply Kd.V_drew)); exact HO278.out) hb)
               have n6_ := Aside0.mk (Kd.V_below (by (with_reducible repeat (first | apply Kd.V_alloc | apply Kd.V_drewN | apply Kd.V_drew)); exact HO284.out) hb)
               have n7_ := Aside0.mk (below_step (belN HB.out) hb)
               clear HO_11
               clear HO_12
               clear HO263
               clear HO266
               clear HO270
               clear HO278
               clear HO284
               clear HB
               have HO_11 := n0_
               have HO_12 := n1_
               have HO263 := n2_
               have HO266 := n3_
               have HO270 := n4_
               have HO278 := n5_
               have HO284 := n6_
               have HB := n7_
               clear n0_ n1_ n2_ n3_ n4_ n5_ n6_ n7_
               (try clear hb)
               (try clear hk)
               refine hK.out _ _ ((own_string (P := Try.prog) Try.underlying23 Try.underlying5 Try.underlying9 (Kd.own_of_R (rowN HV79.out)))) (fun hHeld => ?_)
               clear hK K
               refine norm_ (a' := ?_) ?_ ?_
               rotate_left
               ·show Act.put _ (some 68) _ = _
                simp only [Act.put, List.setIfInBounds_toArray, List.set_cons_zero, List.set_cons_succ, i64_w, i32_w]
                rfl
               refine pA 21 (some 69) (bA 45 4194303) HT_.out ?_
               refine pA 22 (some 70) (bA 45 8388607) HT_.out ?_
               refine pA 23 (some 71) (bA 45 16777215) HT_.out ?_
               refine pA 24 (some 72) (bA 45 33554431) HT_.out ?_
               refine pA 25 (some 73) (bA 45 67108863) HT_.out ?_
               refine pA 26 (some 74) (bA 45 134217727) HT_.out ?_
               refine pA 27 (some 75) (bA 45 268435455) HT_.out ?_
               refine pA 29 (some 77) (bA 45 805306367) HT_.out ?_
               refine pA 30 (some 78) (bA 45 1879048191) HT_.out ?_
               refine take_ (i := 28) (N := some 76) (v := ?_) (a' := ?_) (bA 45 2147483647) rfl rfl (take_ofW HT_.out HW_.out (by kernel_rfl)) (fun _ _ _ h => h) (Or.inl ⟨by rfl, ?_⟩) hHeld ?_ ?_
               rotate_left
               ·intro w' s0
                go_simp
                with_reducible rfl
               rotate_left
               ·simp only [Act.put, List.setIfInBounds_toArray, List.set_cons_zero, List.set_cons_succ, i64_w, i32_w]
                rfl
               refine one_ (i := 31) (N := some 79) (bA 45 4294967295) rfl rfl (one_of HT_.out (by kernel_rfl)) (by decide) (fun K hK => ?_)
               refine goes_ Try.func14 (by kernel_rfl) rfl #[.slice Ao16 t248.length co16, .int .i64 50] (by rfl) rfl rfl argN ?_
               with_reducible refine (marigraphkeep_Cut.calls (fun k_ => some k_ = (.slice Ao16 t248.length co16 : Value).ownBlock) _ _ t248 50 t286 _ ?side1 A42.out).mono ?_
               (case side1 => exact Kd.R_V (Kd.R_tight rfl (HO_11.out)))
               rintro e w80 ⟨v287, rfl, ho0, hb⟩
               have HV79 := Aside0.mk (Kd.R_below (rowN HV79.out) hb)
               refine ⟨_, rfl, ?_⟩
               have n0_ := Aside0.mk (Kd.R_below (rowN HO_11.out) hb)
               have n1_ := Aside0.mk (Kd.R_below (rowN HO_12.out) hb)
               have n2_ := Aside0.mk (Kd.R_below (rowN HO263.out) hb)
               have n3_ := Aside0.mk (Kd.V_below (by (with_reducible repeat (first | apply Kd.V_alloc | apply Kd.V_drewN | apply Kd.V_drew)); exact HO266.out) hb)
               have n4_ := Aside0.mk (Kd.R_below (rowN HO270.out) hb)
               have n5_ := Aside0.mk (Kd.V_below (by (with_reducible repeat (first | apply Kd.V_alloc | apply Kd.V_drewN | apply Kd.V_drew)); exact HO278.out) hb)
               have n6_ := Aside0.mk (Kd.V_below (by (with_reducible repeat (first | apply Kd.V_alloc | apply Kd.V_drewN | apply Kd.V_drew)); exact HO284.out) hb)
               have n7_ := Aside0.mk (Kd.V_lower (Kd.V_mono (ok' := fun k_ => some k_ ≠ (.slice Ao17 x12_8.length co17 : Value).ownBlock ∧ some k_ ≠ (.slice Ao71 t261.length co71 : Value).ownBlock ∧ some k_ ≠ (v269 : Value).ownBlock) ho0 (fun k_ hk_ => ⟨Or.elim hk_ (fun hs_ => ((HO_11.out).1 k_ hs_.symm).1.1) (fun hn_ => (Kd.fresh' (Kd.R_lt (rowN HO_12.out)) k_ hn_)), Or.elim hk_ (fun hs_ => ((HO_11.out).1 k_ hs_.symm).1.2) (fun hn_ => (Kd.fresh' (Kd.R_lt (rowN HO263.out)) k_ hn_)), Or.elim hk_ (fun hs_ => ((HO_11.out).1 k_ hs_.symm).2) (fun hn_ => (Kd.fresh' (Kd.R_lt (rowN HO270.out)) k_ hn_))⟩)) (below_size (belN HB.out)))
               have n8_ := Aside0.mk (below_step (belN HB.out) hb)
               clear HO_11
               clear HO_12
               clear HO263
               clear HO266
               clear HO270
               clear HO278
               clear HO284
               clear HB
               have HO_11 := n0_
               have HO_12 := n1_
               have HO263 := n2_
               have HO266 := n3_
               have HO270 := n4_
               have HO278 := n5_
               have HO284 := n6_
               have HO288 := n7_
               have HB := n8_
               clear n0_ n1_ n2_ n3_ n4_ n5_ n6_ n7_ n8_
               (try clear hb)
               (try clear hk)
               (try clear ho0)
               obtain ⟨Ao81, co81, eo81⟩ := Kd.V_slice HO288.out
               (first | subst eo81 | (injection eo81 with f1_ f2_ f3_; have f4_ := f1_.symm; have f5_ := f3_.symm; clear f1_ f2_ f3_; subst f4_; subst f5_))
               refine hK.out _ _ ((own_string (P := Try.prog) Try.underlying23 Try.underlying5 Try.underlying9 (Kd.own_of_R (rowN HV79.out)))) (fun hHeld => ?_)
               clear hK K
               refine norm_ (a' := ?_) ?_ ?_
               rotate_left
               ·show Act.put _ (some 79) _ = _
                simp only [Act.put, List.setIfInBounds_toArray, List.set_cons_zero, List.set_cons_succ, i64_w, i32_w]
                rfl
               refine one_ (i := 32) (N := some 80) (bA 45 8589934591) rfl rfl (one_of HT_.out (by kernel_rfl)) (by decide) (fun K hK => ?_)
               refine goes_ Try.func18 (by kernel_rfl) rfl #[.slice A1 (cutI l1 100).length c1, .slice Ao81 t286.length co81] (by rfl) rfl rfl argN ?_
               with_reducible refine (marigraphref4_Put.calls kj8 _ _ (cutI l1 100) _ _ t286 t289 _ ?side1 ?side2 ?side3 ?side4 A43.out).mono ?_
               (case side1 => repeat (first | exact (Kd.C_below HR260.out HB.out) | (with_reducible refine Kd.C_alloc ?_ _) | (with_reducible refine Kd.C_drewN ?_ _) | (with_reducible refine Kd.C_drew ?_)))
               (case side2 => exact HC260.out)
               (case side3 => repeat (first | exact (Kd.V_reads' HO288.out).2.2 | (with_reducible refine Kd.C_alloc ?_ _) | (with_reducible refine Kd.C_drewN ?_ _) | (with_reducible refine Kd.C_drew ?_)))
               (case side4 => exact (Kd.V_reads' HO288.out).2.1)
               rintro e w82 ⟨v290, rfl, ho0, hb⟩
               have HV79 := Aside0.mk (Kd.R_below (rowN HV79.out) hb)
               refine ⟨_, rfl, ?_⟩
               have n0_ := Aside0.mk (Kd.R_elder' (rowN HO_11.out) (Kd.R_base ho0) hb)
               have n1_ := Aside0.mk (Kd.R_elder' (rowN HO_12.out) (Kd.R_base ho0) hb)
               have n2_ := Aside0.mk (Kd.R_elder' (rowN HO263.out) (Kd.R_base ho0) hb)
               have n3_ := Aside0.mk (Kd.V_elder' (by (with_reducible repeat (first | apply Kd.V_alloc | apply Kd.V_drewN | apply Kd.V_drew)); exact HO266.out) (Kd.R_base ho0) hb)
               have n4_ := Aside0.mk (Kd.R_elder' (rowN HO270.out) (Kd.R_base ho0) hb)
               have n5_ := Aside0.mk (Kd.V_elder' (by (with_reducible repeat (first | apply Kd.V_alloc | apply Kd.V_drewN | apply Kd.V_drew)); exact HO278.out) (Kd.R_base ho0) hb)
               have n6_ := Aside0.mk (Kd.V_elder' (by (with_reducible repeat (first | apply Kd.V_alloc | apply Kd.V_drewN | apply Kd.V_drew)); exact HO284.out) (Kd.R_base ho0) hb)
               have n7_ := Aside0.mk (Kd.V_elder' (by (with_reducible repeat (first | apply Kd.V_alloc | apply Kd.V_drewN | apply Kd.V_drew)); exact HO288.out) (Kd.R_base ho0) hb)
               have n8_ := Aside0.mk (Kd.R_lower (Kd.R_new' (Kd.R_new' (Kd.R_new' (Kd.R_new' ho0 (Kd.R_lt (rowN HO_11.out))) (Kd.R_lt (rowN HO_12.out))) (Kd.R_lt (rowN HO263.out))) (Kd.R_lt (rowN HO270.out))) (below_size (belN HB.out)))
               have n9_ := Aside0.mk (below_step (belN HB.out) hb)
               clear HO_11
               clear HO_12
               clear HO263
               clear HO266
               clear HO270
               clear HO278
               clear HO284
               clear HO288
               clear HB
               have HO_11 := n0_
               have HO_12 := n1_
               have HO263 := n2_
               have HO266 := n3_
               have HO270 := n4_
               have HO278 := n5_
               have HO284 := n6_
               have HO288 := n7_
               have HO291 := n8_
               have HB := n9_
               clear n0_ n1_ n2_ n3_ n4_ n5_ n6_ n7_ n8_ n9_
               (try clear hb)
               (try clear hk)
               (try clear ho0)
               refine hK.out _ _ ((own_string (P := Try.prog) Try.underlying23 Try.underlying5 Try.underlying9 (Kd.own_of_R (rowN HV79.out)))) (fun hHeld => ?_)
               clear hK K
               refine norm_ (a' := ?_) ?_ ?_
               rotate_left
               ·show Act.put _ (some 80) _ = _
                simp only [Act.put, List.setIfInBounds_toArray, List.set_cons_zero, List.set_cons_succ, i64_w, i32_w]
                rfl
               refine one_ (i := 33) (N := some 81) (bA 45 17179869183) rfl rfl (one_of HT_.out (by kernel_rfl)) (by decide) (fun K hK => ?_)
               have hcv83 := own_string (P := Try.prog) Try.underlying23 Try.underlying5 Try.underlying9 (Kd.own_of_R HO291.out)
               refine value_ (w1 := ?_) (v := ?_) (by rfl) rfl ?_ ?_
               rotate_left 2
               ·go_simp
                constructor
                ·rfl
                ·rfl
               clear hcv83
               refine hK.out _ _ ((own_string (P := Try.prog) Try.underlying23 Try.underlying5 Try.underlying9 (Kd.own_of_R (rowN HV79.out)))) (fun hHeld => ?_)
               clear hK K
               refine norm_ (a' := ?_) ?_ ?_
               rotate_left
               ·show Act.put _ (some 81) _ = _
                simp only [Act.put, List.setIfInBounds_toArray, List.set_cons_zero, List.set_cons_succ, i64_w, i32_w]
                rfl
               refine pA 34 (some 82) (bA 45 34359738367) HT_.out ?_
               refine pA 35 (some 83) (bA 45 68719476735) HT_.out ?_
               refine pA 36 (some 84) (bA 45 137438953471) HT_.out ?_
               refine pA 37 (some 85) (bA 45 274877906943) HT_.out ?_
               refine pA 38 (some 86) (bA 45 549755813887) HT_.out ?_
               refine one_ (i := 39) (N := some 87) (bA 45 1099511627775) rfl rfl (one_of HT_.out (by kernel_rfl)) (by decide) (fun K hK => ?_)
               refine goes_ Try.func19 (by kernel_rfl) rfl #[.slice Ao71 t261.length co71, .slice A1 (cutI l1 100).length c1, .int .u8 165] (by rfl) rfl rfl argN ?_
               with_reducible refine (marigraphbook_Intact_byte.calls kj8 _ _ t261 _ _ (cutI l1 100) 165 false _ ?side1 ?side2 ?side3 ?side4 A45.out).mono ?_
               (case side1 => repeat (first | exact (Kd.R_reads' HO263.out).2.2 | (with_reducible refine Kd.C_alloc ?_ _) | (with_reducible refine Kd.C_drewN ?_ _) | (with_reducible refine Kd.C_drew ?_)))
               (case side2 => exact (Kd.R_reads' HO263.out).2.1)
               (case side3 => repeat (first | exact (Kd.C_below HR260.out HB.out) | (with_reducible refine Kd.C_alloc ?_ _) | (with_reducible refine Kd.C_drewN ?_ _) | (with_reducible refine Kd.C_drew ?_)))
               (case side4 => exact HC260.out)
               rintro e w' ⟨rfl, ⟨nd, rfl⟩⟩
               refine ⟨_, rfl, ?_⟩
               refine hK.out _ _ ((own_string (P := Try.prog) Try.underlying23 Try.underlying5 Try.underlying9 (Kd.own_of_R (rowN HV79.out)))) (fun hHeld => ?_)
               clear hK K
               refine norm_ (a' := ?_) ?_ ?_
               rotate_left
               ·show Act.put _ (some 87) _ = _
                simp only [Act.put, List.setIfInBounds_toArray, List.set_cons_zero, List.set_cons_succ, i64_w, i32_w]
                rfl
               refine pA 40 (some 88) (bA 45 2199023255551) HT_.out ?_
               refine pA 41 (some 89) (bA 45 4398046511103) HT_.out ?_
               refine pU 42 (some 90) (bA 45 8796093022207) HT_.out ?_
               refine pA 43 (some 91) (bA 45 17592186044415) HT_.out ?_
               refine pA 44 (some 10) (bA 45 35184372088831) HT_.out ?_
               refine done_ (done_of HT_.out (by kernel_rfl)) ?_
               try go_wp2
               go_ret
               exact ⟨by first | rfl | (simp [errW_none, errW_some] <;> rfl) | (simp [*, errW_none, errW_some] <;> rfl), (belN HB.out)⟩
             ·rw [if_neg c44] at H
              have c44b0 : ((strOfNums t267).toList == (strOfNums t289).toList) = false := beq_eq_false_iff_ne.mpr c44
              have c44b1 : ((strOfNums t267).toList != (strOfNums t289).toList) = true := bne_iff_ne.mpr c44
              obtain rfl := Option.some.inj H
              have HR260 := Aside0.mk (cutI_C (n := 100) HR1.out)
              have HC260 := Aside0.mk (cutI_le (n := 100) HC1.out)
              try go_wp2_with (first | ((with_reducible refine gate_callee (f := 14) rfl ?_); refine goesL_ (some 38) rfl rfl Try.func14 (by kernel_rfl) rfl #[.slice A1 l1.length c1, .int .i64 100] rfl (by (try simp only [List.map_toArray, List.map_cons, List.map_nil]); first | done | rfl) ?_; (with_reducible refine (marigraphkeep_Cut.callsR A1 c1 l1 100 100 _ HC1.out rfl).mono ?_); rintro e w' ⟨rfl, ⟨nd, rfl⟩⟩; refine ⟨_, rfl, ?_⟩) | ((with_reducible refine gate_callee (f := 15) rfl ?_); refine goesL_ (some 40) rfl rfl Try.func15 (by kernel_rfl) rfl #[.slice A1 (cutI l1 100).length c1, .int .u8 165] rfl argN ?_; (with_reducible refine (marigraphbook_Roomy_byte.calls _ _ (cutI l1 100) 165 t261 _ ?side1 ?side2 A25.out).mono ?_); (case side1 => repeat (first | exact (Kd.C_below HR260.out (belN HB.out)) | (with_reducible refine Kd.C_alloc ?_ _) | (with_reducible refine Kd.C_drewN ?_ _) | (with_reducible refine Kd.C_drew ?_))); (case side2 => exact HC260.out); rintro e w85 ⟨v262, rfl, ho0, hb⟩; refine ⟨_, rfl, ?_⟩; have n0_ := Aside0.mk (Kd.R_elder' (rowN HO_11.out) (Kd.R_base ho0) hb); have n1_ := Aside0.mk (Kd.R_elder' (rowN HO_12.out) (Kd.R_base ho0) hb); have n2_ := Aside0.mk (Kd.R_lower (Kd.R_new' (Kd.R_new' ho0 (Kd.R_lt (rowN HO_11.out))) (Kd.R_lt (rowN HO_12.out))) (below_size (belN HB.out))); have n3_ := Aside0.mk (below_step (belN HB.out) hb); clear HO_11; clear HO_12; clear HB; have HO_11 := n0_; have HO_12 := n1_; have HO263 := n2_; have HB := n3_; clear n0_ n1_ n2_ n3_; (try clear hb); (try clear hk); (try clear ho0)) | ((with_reducible refine gate_callee (f := 14) rfl ?_); refine goesL_ (some 44) rfl rfl Try.func14 (by kernel_rfl) rfl #[.slice Ao16 t248.length co16, .int .i64 50] rfl argN ?_; (with_reducible refine (marigraphkeep_Cut.calls (fun k_ => some k_ = (.slice Ao16 t248.length co16 : Value).ownBlock) _ _ t248 50 t264 _ ?side1 A26.out).mono ?_); (case side1 => exact Kd.R_V (Kd.R_tight rfl (HO_11.out))); rintro e w86 ⟨v265, rfl, ho0, hb⟩; refine ⟨_, rfl, ?_⟩; have n0_ := Aside0.mk (Kd.R_below (rowN HO_11.out) hb); have n1_ := Aside0.mk (Kd.R_below (rowN HO_12.out) hb); have n2_ := Aside0.mk (Kd.R_below (rowN HO263.out) hb); have n3_ := Aside0.mk (Kd.V_lower (Kd.V_mono (ok' := fun k_ => some k_ ≠ (.slice Ao17 x12_8.length co17 : Value).ownBlock ∧ some k_ ≠ (v262 : Value).ownBlock) ho0 (fun k_ hk_ => ⟨Or.elim hk_ (fun hs_ => ((HO_11.out).1 k_ hs_.symm).1) (fun hn_ => (Kd.fresh' (Kd.R_lt (rowN HO_12.out)) k_ hn_)), Or.elim hk_ (fun hs_ => ((HO_11.out).1 k_ hs_.symm).2) (fun hn_ => (Kd.fresh' (Kd.R_lt (rowN HO263.out)) k_ hn_))⟩)) (below_size (belN HB.out))); have n4_ := Aside0.mk (below_step (belN HB.out) hb); clear HO_11; clear HO_12; clear HO263; clear HB; have HO_11 := n0_; have HO_12 := n1_; have HO263 := n2_; have HO266 := n3_; have HB := n4_; clear n0_ n1_ n2_ n3_ n4_; (try clear hb); (try clear hk); (try clear ho0); obtain ⟨Ao87, co87, eo87⟩ := Kd.V_slice HO266.out; subst eo87) | ((with_reducible refine gate_callee (f := 16) rfl ?_); refine goesL_ (some 45) rfl rfl Try.func16 (by kernel_rfl) rfl #[.slice A1 (cutI l1 100).length c1, .slice Ao87 t264.length co87] rfl argN ?_; (with_reducible refine (frame_Put.calls kj8 _ _ (cutI l1 100) _ _ t264 t267 t268 _ ?side1 ?side2 ?side3 ?side4 A27.out).mono ?_); (case side1 => repeat (first | exact (Kd.C_below HR260.out HB.out) | (with_reducible refine Kd.C_alloc ?_ _) | (with_reducible refine Kd.C_drewN ?_ _) | (with_reducible refine Kd.C_drew ?_))); (case side2 => exact HC260.out); (case side3 => repeat (first | exact (Kd.V_reads' HO266.out).2.2 | (with_reducible refine Kd.C_alloc ?_ _) | (with_reducible refine Kd.C_drewN ?_ _) | (with_reducible refine Kd.C_drew ?_))); (case side4 => exact (Kd.V_reads' HO266.out).2.1); rintro e w88 ⟨v269, rfl, ho0, hb⟩; refine ⟨_, rfl, ?_⟩; have n0_ := Aside0.mk (Kd.R_elder' (rowN HO_11.out) (Kd.R_base ho0) hb); have n1_ := Aside0.mk (Kd.R_elder' (rowN HO_12.out) (Kd.R_base ho0) hb); have n2_ := Aside0.mk (Kd.R_elder' (rowN HO263.out) (Kd.R_base ho0) hb); have n3_ := Aside0.mk (Kd.V_elder' (by (with_reducible repeat (first | apply Kd.V_alloc | apply Kd.V_drewN | apply Kd.V_drew)); exact HO266.out) (Kd.R_base ho0) hb); have n4_ := Aside0.mk (Kd.R_lower (Kd.R_new' (Kd.R_new' (Kd.R_new' ho0 (Kd.R_lt (rowN HO_11.out))) (Kd.R_lt (rowN HO_12.out))) (Kd.R_lt (rowN HO263.out))) (below_size (belN HB.out))); have n5_ := Aside0.mk (below_step (belN HB.out) hb); clear HO_11; clear HO_12; clear HO263; clear HO266; clear HB; have HO_11 := n0_; have HO_12 := n1_; have HO263 := n2_; have HO266 := n3_; have HO270 := n4_; have HB := n5_; clear n0_ n1_ n2_ n3_ n4_ n5_; (try clear hb); (try clear hk); (try clear ho0)))
              have n0_ := Aside0.mk (Kd.R_drew HO_11.out)
              have n1_ := Aside0.mk (Kd.R_drew HO_12.out)
              have n2_ := Aside0.mk (Kd.R_drew HO263.out)
              have n3_ := Aside0.mk (Kd.V_drew HO266.out)
              have n4_ := Aside0.mk (Kd.R_drew HO270.out)
              have n5_ := Aside0.mk (below_drew1 HB.out)
              clear HO_11
              clear HO_12
              clear HO263
              clear HO266
              clear HO270
              clear HB
              have HO_11 := n0_
              have HO_12 := n1_
              have HO263 := n2_
              have HO266 := n3_
              have HO270 := n4_
              have HB := n5_
              clear n0_ n1_ n2_ n3_ n4_ n5_
              refine start_ (n := 45) (S := fun w' => (convert 23 9 (v269)).run Try.prog w' = .ok (.string (strOfNums t267)) w') (ds := []) #[false, false, false, false, false, false, false, false, false, false, false, false, false, false, false, false, false, false, false, false, false, false, false, false, false, false, false, false, false, false, false, false, false, false, false, false, false, false, false, false, false, false, false, false, false] (by kernel_rfl) rfl rfl ((own_string (P := Try.prog) Try.underlying23 Try.underlying5 Try.underlying9 (Kd.own_of_R HO270.out))) (fun hHeld => ?_); refine with_tabW marigraphlaw4_FrameTells.tab9 marigraphlaw4_FrameTells.bits9 (fun HT_ HW_ => ?_)
              generalize w88.drew = w89 at HO_11 HO_12 HO263 HO266 HO270 HB hHeld ⊢
              have HV97 := HO270
              refine pA 0 (some 48) (bA 45 1) HT_.out ?_
              refine one_ (i := 1) (N := some 49) (bA 45 3) rfl rfl (one_of HT_.out (by kernel_rfl)) (by decide) (fun K hK => ?_)
              refine goes_ Try.func17 (by kernel_rfl) rfl #[.slice Ao16 t248.length co16] (by rfl) rfl rfl argN ?_
              with_reducible refine (marigraphlaw4_all.calls kj8 _ _ t248 true _ ?side1 ?side2 A28.out).mono ?_
              (case side1 => repeat (first | exact (Kd.R_reads' HO_11.out).2.2 | (with_reducible refine Kd.C_alloc ?_ _) | (with_reducible refine Kd.C_drewN ?_ _) | (with_reducible refine Kd.C_drew ?_)))
              (case side2 => exact (Kd.R_reads' HO_11.out).2.1)
              rintro e w90 ⟨rfl, hb⟩
              have HV97 := Aside0.mk (Kd.R_below (rowN HV97.out) hb)
              refine ⟨_, rfl, ?_⟩
              have n0_ := Aside0.mk (Kd.R_below (rowN HO_11.out) hb)
              have n1_ := Aside0.mk (Kd.R_below (rowN HO_12.out) hb)
              have n2_ := Aside0.mk (Kd.R_below (rowN HO263.out) hb)
              have n3_ := Aside0.mk (Kd.V_below (by (with_reducible repeat (first | apply Kd.V_alloc | apply Kd.V_drewN | apply Kd.V_drew)); exact HO266.out) hb)
              have n4_ := Aside0.mk (Kd.R_below (rowN HO270.out) hb)
              have n5_ := Aside0.mk (below_step (belN HB.out) hb)
              clear HO_11
              clear HO_12
              clear HO263
              clear HO266
              clear HO270
              clear HB
              have HO_11 := n0_
              have HO_12 := n1_
              have HO263 := n2_
              have HO266 := n3_
              have HO270 := n4_
              have HB := n5_
              clear n0_ n1_ n2_ n3_ n4_ n5_
              (try clear hb)
              (try clear hk)
              refine hK.out _ _ ((own_string (P := Try.prog) Try.underlying23 Try.underlying5 Try.underlying9 (Kd.own_of_R (rowN HV97.out)))) (fun hHeld => ?_)
              clear hK K
              refine norm_ (a' := ?_) ?_ ?_
              rotate_left
              ·show Act.put _ (some 49) _ = _
               simp only [Act.put, List.setIfInBounds_toArray, List.set_cons_zero, List.set_cons_succ, i64_w, i32_w]
               rfl
              refine pA 2 (some 50) (bA 45 7) HT_.out ?_
              refine pA 3 (some 51) (bA 45 15) HT_.out ?_
              refine one_ (i := 4) (N := some 52) (bA 45 31) rfl rfl (one_of HT_.out (by kernel_rfl)) (by decide) (fun K hK => ?_)
              refine goes_ Try.func17 (by kernel_rfl) rfl #[.slice Ao17 x12_8.length co17] (by rfl) rfl rfl argN ?_
              with_reducible refine (marigraphlaw4_all.calls kj8 _ _ x12_8 true _ ?side1 ?side2 A30.out).mono ?_
              (case side1 => repeat (first | exact (Kd.R_reads' HO_12.out).2.2 | (with_reducible refine Kd.C_alloc ?_ _) | (with_reducible refine Kd.C_drewN ?_ _) | (with_reducible refine Kd.C_drew ?_)))
              (case side2 => exact (Kd.R_reads' HO_12.out).2.1)
              rintro e w91 ⟨rfl, hb⟩
              have HV97 := Aside0.mk (Kd.R_below (rowN HV97.out) hb)
              refine ⟨_, rfl, ?_⟩
              have n0_ := Aside0.mk (Kd.R_below (rowN HO_11.out) hb)
              have n1_ := Aside0.mk (Kd.R_below (rowN HO_12.out) hb)
              have n2_ := Aside0.mk (Kd.R_below (rowN HO263.out) hb)
              have n3_ := Aside0.mk (Kd.V_below (by (with_reducible repeat (first | apply Kd.V_alloc | apply Kd.V_drewN | apply Kd.V_drew)); exact HO266.out) hb)
              have n4_ := Aside0.mk (Kd.R_below (rowN HO270.out) hb)
              have n5_ := Aside0.mk (below_step (belN HB.out) hb)
              clear HO_11
              clear HO_12
              clear HO263
              clear HO266
              clear HO270
              clear HB
              have HO_11 := n0_
              have HO_12 := n1_
              have HO263 := n2_
              have HO266 := n3_
              have HO270 := n4_
              have HB := n5_
              clear n0_ n1_ n2_ n3_ n4_ n5_
              (try clear hb)
              (try clear hk)
              refine hK.out _ _ ((own_string (P := Try.prog) Try.underlying23 Try.underlying5 Try.underlying9 (Kd.own_of_R (rowN HV97.out)))) (fun hHeld => ?_)
              clear hK K
              refine norm_ (a' := ?_) ?_ ?_
              rotate_left
              ·show Act.put _ (some 52) _ = _
               simp only [Act.put, List.setIfInBounds_toArray, List.set_cons_zero, List.set_cons_succ, i64_w, i32_w]
               rfl
              refine pA 5 (some 53) (bA 45 63) HT_.out ?_
              refine pA 6 (some 54) (bA 45 127) HT_.out ?_
              refine pA 7 (some 55) (bA 45 255) HT_.out ?_
              refine pA 8 (some 56) (bA 45 511) HT_.out ?_
              refine pA 9 (some 57) (bA 45 1023) HT_.out ?_
              refine pA 10 (some 58) (bA 45 2047) HT_.out ?_
              refine one_ (i := 11) (N := some 59) (bA 45 4095) rfl rfl (one_of HT_.out (by kernel_rfl)) (by decide) (fun K hK => ?_)
              refine goes_ Try.func13 (by kernel_rfl) rfl #[.int .i64 a4, .int .i64 0, .int .i64 (t248.length : Int)] (by rfl) rfl rfl argN ?_
              with_reducible refine (marigraphbook_Within.calls kj8 a4 0 (t248.length : Int) t273 _ A32.out).mono ?_
              rintro e w' ⟨rfl, ⟨nd, rfl⟩⟩
              refine ⟨_, rfl, ?_⟩
              have q92 : (t273 : Int) ≤ ((t248.length : Int) : Int) := of_decide_eq_true (by first | (with_reducible assumption) | assumption)
              obtain ⟨i092, hi092, _, hsz92, _⟩ := info_parts info5
              have hroom92 : t248.length ≤ co16 := (Kd.R_reads' HO_11.out).2.1
              have hC92 : Kd.F (Kd.int .u8) _ _ Ao16 t248.length t248 := (Kd.V_at (base := w.heap.size) (Kd.R_V HO_11.out)).2.2
              have hcut92 := cut_to (P := Try.prog) 23 5 .i64 Try.underlying23 hi092 Ao16 t248.length co16 t273 (of_decide_eq_true (by first | (with_reducible assumption) | assumption)) q92 hroom92
              have hr92 := Kd.F_take (m := (t273 : Int).toNat) hC92 (by omega)
              have hy92 : y274.length = (t273 : Int).toNat := (by rw [Ny274.out, List.length_take]; omega)
              rw [← Ny274.out] at hr92
              rw [← hy92] at hcut92
              have HO278 := Aside0.mk (show Kd.V (Kd.int .u8) 5 _ w.heap.size _ (.slice Ao16 y274.length co16) y274 from Kd.V_mk (by omega) hr92)
              have HC278 := Aside0.mk (show y274.length ≤ co16 from by omega)
              clear hr92 hC92 hroom92 hi092 hsz92
              have KY92 := Aside0.mk hy92
              clear hy92
              replace q92 := eq_true q92
              refine hK.out _ _ ((own_string (P := Try.prog) Try.underlying23 Try.underlying5 Try.underlying9 (Kd.own_of_R (rowN HV97.out)))) (fun hHeld => ?_)
              clear hK K
              refine norm_ (a' := ?_) ?_ ?_
              rotate_left
              ·show Act.put _ (some 59) _ = _
               simp only [Act.put, List.setIfInBounds_toArray, List.set_cons_zero, List.set_cons_succ, i64_w, i32_w]
               rfl
              refine pA 12 (some 60) (bA 45 8191) HT_.out ?_
              refine one_ (i := 13) (N := some 61) (bA 45 16383) rfl rfl (one_of HT_.out (by kernel_rfl)) (by decide) (fun K hK => ?_)
              refine goes_ Try.func17 (by kernel_rfl) rfl #[.slice Ao16 y274.length co16] (by rfl) rfl rfl argN ?_
              with_reducible refine (marigraphlaw4_all.calls kj8 _ _ y274 true _ ?side1 ?side2 A35.out).mono ?_
              (case side1 => repeat (first | exact (Kd.V_reads' HO278.out).2.2 | (with_reducible refine Kd.C_alloc ?_ _) | (with_reducible refine Kd.C_drewN ?_ _) | (with_reducible refine Kd.C_drew ?_)))
              (case side2 => exact (Kd.V_reads' HO278.out).2.1)
              rintro e w93 ⟨rfl, hb⟩
              have HV97 := Aside0.mk (Kd.R_below (rowN HV97.out) hb)
              refine ⟨_, rfl, ?_⟩
              have n0_ := Aside0.mk (Kd.R_below (rowN HO_11.out) hb)
              have n1_ := Aside0.mk (Kd.R_below (rowN HO_12.out) hb)
              have n2_ := Aside0.mk (Kd.R_below (rowN HO263.out) hb)
              have n3_ := Aside0.mk (Kd.V_below (by (with_reducible repeat (first | apply Kd.V_alloc | apply Kd.V_drewN | apply Kd.V_drew)); exact HO266.out) hb)
              have n4_ := Aside0.mk (Kd.R_below (rowN HO270.out) hb)
              have n5_ := Aside0.mk (Kd.V_below (by (with_reducible repeat (first | apply Kd.V_alloc | apply Kd.V_drewN | apply Kd.V_drew)); exact HO278.out) hb)
              have n6_ := Aside0.mk (below_step (belN HB.out) hb)
              clear HO_11
              clear HO_12
              clear HO263
              clear HO266
              clear HO270
              clear HO278
              clear HB
              have HO_11 := n0_
              have HO_12 := n1_
              have HO263 := n2_
              have HO266 := n3_
              have HO270 := n4_
              have HO278 := n5_
              have HB := n6_
              clear n0_ n1_ n2_ n3_ n4_ n5_ n6_
              (try clear hb)
              (try clear hk)
              obtain ⟨Ao95, co95, eo95⟩ := Kd.R_slice HO263.out
              (first | subst eo95 | (injection eo95 with f1_ f2_ f3_; have f4_ := f1_.symm; have f5_ := f3_.symm; clear f1_ f2_ f3_; subst f4_; subst f5_))
              have q94 : (((cutI l1 100).length : Int) : Int) ≤ ((t261.length : Int) : Int) := of_decide_eq_true (by first | (with_reducible assumption) | assumption)
              obtain ⟨i094, hi094, _, hsz94, _⟩ := info_parts info5
              have hroom94 : t261.length ≤ co95 := (Kd.R_reads' HO263.out).2.1
              have hC94 : Kd.F (Kd.int .u8) _ _ Ao95 t261.length t261 := (Kd.V_at (base := w.heap.size) (Kd.R_V HO263.out)).2.2
              have hcut94 := cut_to (P := Try.prog) 23 5 .i64 Try.underlying23 hi094 Ao95 t261.length co95 ((cutI l1 100).length : Int) (of_decide_eq_true (by first | (with_reducible assumption) | assumption)) q94 hroom94
              have hr94 := Kd.F_take (m := (((cutI l1 100).length : Int) : Int).toNat) hC94 (by omega)
              have hy94 : y280.length = (((cutI l1 100).length : Int) : Int).toNat := (by rw [Ny280.out, List.length_take]; omega)
              rw [← Ny280.out] at hr94
              rw [← hy94] at hcut94
              have HO284 := Aside0.mk (show Kd.V (Kd.int .u8) 5 _ w.heap.size _ (.slice Ao95 y280.length co95) y280 from Kd.V_mk (by omega) hr94)
              have HC284 := Aside0.mk (show y280.length ≤ co95 from by omega)
              clear hr94 hC94 hroom94 hi094 hsz94
              have KY94 := Aside0.mk hy94
              clear hy94
              replace q94 := eq_true q94
              refine hK.out _ _ ((own_string (P := Try.prog) Try.underlying23 Try.underlying5 Try.underlying9 (Kd.own_of_R (rowN HV97.out)))) (fun hHeld => ?_)
              clear hK K
              refine norm_ (a' := ?_) ?_ ?_
              rotate_left
              ·show Act.put _ (some 61) _ = _
               simp only [Act.put, List.setIfInBounds_toArray, List.set_cons_zero, List.set_cons_succ, i64_w, i32_w]
               rfl
              refine pA 14 (some 62) (bA 45 32767) HT_.out ?_
              refine pA 15 (some 63) (bA 45 65535) HT_.out ?_
              refine pA 16 (some 64) (bA 45 131071) HT_.out ?_
              refine pA 17 (some 65) (bA 45 262143) HT_.out ?_
              refine pA 18 (some 66) (bA 45 524287) HT_.out ?_
              refine pA 19 (some 67) (bA 45 1048575) HT_.out ?_
              refine one_ (i := 20) (N := some 68) (bA 45 2097151) rfl rfl (one_of HT_.out (by kernel_rfl)) (by decide) (fun K hK => ?_)
              refine goes_ Try.func17 (by kernel_rfl) rfl #[.slice Ao95 y280.length co95] (by rfl) rfl rfl argN ?_
              with_reducible refine (marigraphlaw4_all.calls kj8 _ _ y280 true _ ?side1 ?side2 A39.out).mono ?_
              (case side1 => repeat (first | exact (Kd.V_reads' HO284.out).2.2 | (with_reducible refine Kd.C_alloc ?_ _) | (with_reducible refine Kd.C_drewN ?_ _) | (with_reducible refine Kd.C_drew ?_)))
              (case side2 => exact (Kd.V_reads' HO284.out).2.1)
              rintro e w96 ⟨rfl, hb⟩
              have HV97 := Aside0.mk (Kd.R_below (rowN HV97.out) hb)
              refine ⟨_, rfl, ?_⟩
              have n0_ := Aside0.mk (Kd.R_below (rowN HO_11.out) hb)
              have n1_ := Aside0.mk (Kd.R_below (rowN HO_12.out) hb)
              have n2_ := Aside0.mk (Kd.R_below (rowN HO263.out) hb)
              have n3_ := Aside0.mk (Kd.V_below (by (with_reducible repeat (first | apply Kd.V_alloc | apply Kd.V_drewN | apply Kd.V_drew)); exact HO266.out) hb)
              have n4_ := Aside0.mk (Kd.R_below (rowN HO270.out) hb)
              have n5_ := Aside0.mk (Kd.V_below (by (with_reducible repeat (first | apply Kd.V_alloc | apply Kd.V_drewN | apply Kd.V_drew)); exact HO278.out) hb)
              have n6_ := Aside0.mk (Kd.V_below (by (with_reducible repeat (first | apply Kd.V_alloc | apply Kd.V_drewN | apply Kd.V_drew)); exact HO284.out) hb)
              have n7_ := Aside0.mk (below_step (belN HB.out) hb)
              clear HO_11
              clear HO_12
              clear HO263
              clear HO266
              clear HO270
              clear HO278
              clear HO284
              clear HB
              have HO_11 := n0_
              have HO_12 := n1_
              have HO263 := n2_
              have HO266 := n3_
              have HO270 := n4_
              have HO278 := n5_
              have HO284 := n6_
              have HB := n7_
              clear n0_ n1_ n2_ n3_ n4_ n5_ n6_ n7_
              (try clear hb)
              (try clear hk)
              refine hK.out _ _ ((own_string (P := Try.prog) Try.underlying23 Try.underlying5 Try.underlying9 (Kd.own_of_R (rowN HV97.out)))) (fun hHeld => ?_)
              clear hK K
              refine norm_ (a' := ?_) ?_ ?_
              rotate_left
              ·show Act.put _ (some 68) _ = _
               simp only [Act.put, List.setIfInBounds_toArray, List.set_cons_zero, List.set_cons_succ, i64_w, i32_w]
               rfl
              refine pA 21 (some 69) (bA 45 4194303) HT_.out ?_
              refine pA 22 (some 70) (bA 45 8388607) HT_.out ?_
              refine pA 23 (some 71) (bA 45 16777215) HT_.out ?_
              refine pA 24 (some 72) (bA 45 33554431) HT_.out ?_
              refine pA 25 (some 73) (bA 45 67108863) HT_.out ?_
              refine pA 26 (some 74) (bA 45 134217727) HT_.out ?_
              refine pA 27 (some 75) (bA 45 268435455) HT_.out ?_
              refine pA 29 (some 77) (bA 45 805306367) HT_.out ?_
              refine pA 30 (some 78) (bA 45 1879048191) HT_.out ?_
              refine take_ (i := 28) (N := some 76) (v := ?_) (a' := ?_) (bA 45 2147483647) rfl rfl (take_ofW HT_.out HW_.out (by kernel_rfl)) (fun _ _ _ h => h) (Or.inl ⟨by rfl, ?_⟩) hHeld ?_ ?_
              rotate_left
              ·intro w' s0
               go_simp
               with_reducible rfl
              rotate_left
              ·simp only [Act.put, List.setIfInBounds_toArray, List.set_cons_zero, List.set_cons_succ, i64_w, i32_w]
               rfl
              refine one_ (i := 31) (N := some 79) (bA 45 4294967295) rfl rfl (one_of HT_.out (by kernel_rfl)) (by decide) (fun K hK => ?_)
              refine goes_ Try.func14 (by kernel_rfl) rfl #[.slice Ao16 t248.length co16, .int .i64 50] (by rfl) rfl rfl argN ?_
              with_reducible refine (marigraphkeep_Cut.calls (fun k_ => some k_ = (.slice Ao16 t248.length co16 : Value).ownBlock) _ _ t248 50 t286 _ ?side1 A42.out).mono ?_
              (case side1 => exact Kd.R_V (Kd.R_tight rfl (HO_11.out)))
              rintro e w98 ⟨v287, rfl, ho0, hb⟩
              have HV97 := Aside0.mk (Kd.R_below (rowN HV97.out) hb)
              refine ⟨_, rfl, ?_⟩
              have n0_ := Aside0.mk (Kd.R_below (rowN HO_11.out) hb)
              have n1_ := Aside0.mk (Kd.R_below (rowN HO_12.out) hb)
              have n2_ := Aside0.mk (Kd.R_below (rowN HO263.out) hb)
              have n3_ := Aside0.mk (Kd.V_below (by (with_reducible repeat (first | apply Kd.V_alloc | apply Kd.V_drewN | apply Kd.V_drew)); exact HO266.out) hb)
              have n4_ := Aside0.mk (Kd.R_below (rowN HO270.out) hb)
              have n5_ := Aside0.mk (Kd.V_below (by (with_reducible repeat (first | apply Kd.V_alloc | apply Kd.V_drewN | apply Kd.V_drew)); exact HO278.out) hb)
              have n6_ := Aside0.mk (Kd.V_below (by (with_reducible repeat (first | apply Kd.V_alloc | apply Kd.V_drewN | apply Kd.V_drew)); exact HO284.out) hb)
              have n7_ := Aside0.mk (Kd.V_lower (Kd.V_mono (ok' := fun k_ => some k_ ≠ (.slice Ao17 x12_8.length co17 : Value).ownBlock ∧ some k_ ≠ (.slice Ao95 t261.length co95 : Value).ownBlock ∧ some k_ ≠ (v269 : Value).ownBlock) ho0 (fun k_ hk_ => ⟨Or.elim hk_ (fun hs_ => ((HO_11.out).1 k_ hs_.symm).1.1) (fun hn_ => (Kd.fresh' (Kd.R_lt (rowN HO_12.out)) k_ hn_)), Or.elim hk_ (fun hs_ => ((HO_11.out).1 k_ hs_.symm).1.2) (fun hn_ => (Kd.fresh' (Kd.R_lt (rowN HO263.out)) k_ hn_)), Or.elim hk_ (fun hs_ => ((HO_11.out).1 k_ hs_.symm).2) (fun hn_ => (Kd.fresh' (Kd.R_lt (rowN HO270.out)) k_ hn_))⟩)) (below_size (belN HB.out)))
              have n8_ := Aside0.mk (below_step (belN HB.out) hb)
              clear HO_11
              clear HO_12
              clear HO263
              clear HO266
              clear HO270
              clear HO278
              clear HO284
              clear HB
              have HO_11 := n0_
              have HO_12 := n1_
              have HO263 := n2_
              have HO266 := n3_
              have HO270 := n4_
              have HO278 := n5_
              have HO284 := n6_
              have HO288 := n7_
              have HB := n8_
              clear n0_ n1_ n2_ n3_ n4_ n5_ n6_ n7_ n8_
              (try clear hb)
              (try clear hk)
              (try clear ho0)
              obtain ⟨Ao99, co99, eo99⟩ := Kd.V_slice HO288.out
              (first | subst eo99 | (injection eo99 with f1_ f2_ f3_; have f4_ := f1_.symm; have f5_ := f3_.symm; clear f1_ f2_ f3_; subst f4_; subst f5_))
              refine hK.out _ _ ((own_string (P := Try.prog) Try.underlying23 Try.underlying5 Try.underlying9 (Kd.own_of_R (rowN HV97.out)))) (fun hHeld => ?_)
              clear hK K
              refine norm_ (a' := ?_) ?_ ?_
              rotate_left
              ·show Act.put _ (some 79) _ = _
               simp only [Act.put, List.setIfInBounds_toArray, List.set_cons_zero, List.set_cons_succ, i64_w, i32_w]
               rfl
              refine one_ (i := 32) (N := some 80) (bA 45 8589934591) rfl rfl (one_of HT_.out (by kernel_rfl)) (by decide) (fun K hK => ?_)
              refine goes_ Try.func18 (by kernel_rfl) rfl #[.slice A1 (cutI l1 100).length c1, .slice Ao99 t286.length co99] (by rfl) rfl rfl argN ?_
              with_reducible refine (marigraphref4_Put.calls kj8 _ _ (cutI l1 100) _ _ t286 t289 _ ?side1 ?side2 ?side3 ?side4 A43.out).mono ?_
              (case side1 => repeat (first | exact (Kd.C_below HR260.out HB.out) | (with_reducible refine Kd.C_alloc ?_ _) | (with_reducible refine Kd.C_drewN ?_ _) | (with_reducible refine Kd.C_drew ?_)))
              (case side2 => exact HC260.out)
              (case side3 => repeat (first | exact (Kd.V_reads' HO288.out).2.2 | (with_reducible refine Kd.C_alloc ?_ _) | (with_reducible refine Kd.C_drewN ?_ _) | (with_reducible refine Kd.C_drew ?_)))
              (case side4 => exact (Kd.V_reads' HO288.out).2.1)
              rintro e w100 ⟨v290, rfl, ho0, hb⟩
              have HV97 := Aside0.mk (Kd.R_below (rowN HV97.out) hb)
              refine ⟨_, rfl, ?_⟩
              have n0_ := Aside0.mk (Kd.R_elder' (rowN HO_11.out) (Kd.R_base ho0) hb)
              have n1_ := Aside0.mk (Kd.R_elder' (rowN HO_12.out) (Kd.R_base ho0) hb)
              have n2_ := Aside0.mk (Kd.R_elder' (rowN HO263.out) (Kd.R_base ho0) hb)
              have n3_ := Aside0.mk (Kd.V_elder' (by (with_reducible repeat (first | apply Kd.V_alloc | apply Kd.V_drewN | apply Kd.V_drew)); exact HO266.out) (Kd.R_base ho0) hb)
              have n4_ := Aside0.mk (Kd.R_elder' (rowN HO270.out) (Kd.R_base ho0) hb)
              have n5_ := Aside0.mk (Kd.V_elder' (by (with_reducible repeat (first | apply Kd.V_alloc | apply Kd.V_drewN | apply Kd.V_drew)); exact HO278.out) (Kd.R_base ho0) hb)
              have n6_ := Aside0.mk (Kd.V_elder' (by (with_reducible repeat (first | apply Kd.V_alloc | apply Kd.V_drewN | apply Kd.V_drew)); exact HO284.out) (Kd.R_base ho0) hb)
              have n7_ := Aside0.mk (Kd.V_elder' (by (with_reducible repeat (first | apply Kd.V_alloc | apply Kd.V_drewN | apply Kd.V_drew)); exact HO288.out) (Kd.R_base ho0) hb)
              have n8_ := Aside0.mk (Kd.R_lower (Kd.R_new' (Kd.R_new' (Kd.R_new' (Kd.R_new' ho0 (Kd.R_lt (rowN HO_11.out))) (Kd.R_lt (rowN HO_12.out))) (Kd.R_lt (rowN HO263.out))) (Kd.R_lt (rowN HO270.out))) (below_size (belN HB.out)))
              have n9_ := Aside0.mk (below_step (belN HB.out) hb)
              clear HO_11
              clear HO_12
              clear HO263
              clear HO266
              clear HO270
              clear HO278
              clear HO284
              clear HO288
              clear HB
              have HO_11 := n0_
              have HO_12 := n1_
              have HO263 := n2_
              have HO266 := n3_
              have HO270 := n4_
              have HO278 := n5_
              have HO284 := n6_
              have HO288 := n7_
              have HO291 := n8_
              have HB := n9_
              clear n0_ n1_ n2_ n3_ n4_ n5_ n6_ n7_ n8_ n9_
              (try clear hb)
              (try clear hk)
              (try clear ho0)
              refine hK.out _ _ ((own_string (P := Try.prog) Try.underlying23 Try.underlying5 Try.underlying9 (Kd.own_of_R (rowN HV97.out)))) (fun hHeld => ?_)
              clear hK K
              refine norm_ (a' := ?_) ?_ ?_
              rotate_left
              ·show Act.put _ (some 80) _ = _
               simp only [Act.put, List.setIfInBounds_toArray, List.set_cons_zero, List.set_cons_succ, i64_w, i32_w]
               rfl
              refine one_ (i := 33) (N := some 81) (bA 45 17179869183) rfl rfl (one_of HT_.out (by kernel_rfl)) (by decide) (fun K hK => ?_)
              have hcv101 := own_string (P := Try.prog) Try.underlying23 Try.underlying5 Try.underlying9 (Kd.own_of_R HO291.out)
              refine value_ (w1 := ?_) (v := ?_) (by rfl) rfl ?_ ?_
              rotate_left 2
              ·go_simp
               constructor
               ·rfl
               ·rfl
              clear hcv101
              refine hK.out _ _ ((own_string (P := Try.prog) Try.underlying23 Try.underlying5 Try.underlying9 (Kd.own_of_R (rowN HV97.out)))) (fun hHeld => ?_)
              clear hK K
              refine norm_ (a' := ?_) ?_ ?_
              rotate_left
              ·show Act.put _ (some 81) _ = _
               simp only [Act.put, List.setIfInBounds_toArray, List.set_cons_zero, List.set_cons_succ, i64_w, i32_w]
               rfl
              refine pA 34 (some 82) (bA 45 34359738367) HT_.out ?_
              refine pA 35 (some 83) (bA 45 68719476735) HT_.out ?_
              refine pA 36 (some 84) (bA 45 137438953471) HT_.out ?_
              refine pU 37 (some 85) (bA 45 274877906943) HT_.out ?_
              refine pU 38 (some 86) (bA 45 549755813887) HT_.out ?_
              refine pU 39 (some 87) (bA 45 1099511627775) HT_.out ?_
              refine pA 40 (some 88) (bA 45 2199023255551) HT_.out ?_
              refine pA 41 (some 89) (bA 45 4398046511103) HT_.out ?_
              refine pU 42 (some 90) (bA 45 8796093022207) HT_.out ?_
              refine pA 43 (some 91) (bA 45 17592186044415) HT_.out ?_
              refine pA 44 (some 10) (bA 45 35184372088831) HT_.out ?_
              refine done_ (done_of HT_.out (by kernel_rfl)) ?_
              try go_wp2
              go_ret
              exact ⟨by first | rfl | (simp [errW_none, errW_some] <;> rfl) | (simp [*, errW_none, errW_some] <;> rfl), (belN HB.out)⟩
            ·rw [if_neg c41] at H
             have c41b0 : (t268 == 0) = false := beq_eq_false_iff_ne.mpr c41
             have c41b1 : (t268 != 0) = true := bne_iff_ne.mpr c41
             obtain rfl := Option.some.inj H
             have HR260 := Aside0.mk (cutI_C (n := 100) HR1.out)
             have HC260 := Aside0.mk (cutI_le (n := 100) HC1.out)
             try go_wp2_with (first | ((with_reducible refine gate_callee (f := 14) rfl ?_); refine goesL_ (some 38) rfl rfl Try.func14 (by kernel_rfl) rfl #[.slice A1 l1.length c1, .int .i64 100] rfl (by (try simp only [List.map_toArray, List.map_cons, List.map_nil]); first | done | rfl) ?_; (with_reducible refine (marigraphkeep_Cut.callsR A1 c1 l1 100 100 _ HC1.out rfl).mono ?_); rintro e w' ⟨rfl, ⟨nd, rfl⟩⟩; refine ⟨_, rfl, ?_⟩) | ((with_reducible refine gate_callee (f := 15) rfl ?_); refine goesL_ (some 40) rfl rfl Try.func15 (by kernel_rfl) rfl #[.slice A1 (cutI l1 100).length c1, .int .u8 165] rfl argN ?_; (with_reducible refine (marigraphbook_Roomy_byte.calls _ _ (cutI l1 100) 165 t261 _ ?side1 ?side2 A25.out).mono ?_); (case side1 => repeat (first | exact (Kd.C_below HR260.out (belN HB.out)) | (with_reducible refine Kd.C_alloc ?_ _) | (with_reducible refine Kd.C_drewN ?_ _) | (with_reducible refine Kd.C_drew ?_))); (case side2 => exact HC260.out); rintro e w103 ⟨v262, rfl, ho0, hb⟩; refine ⟨_, rfl, ?_⟩; have n0_ := Aside0.mk (Kd.R_elder' (rowN HO_11.out) (Kd.R_base ho0) hb); have n1_ := Aside0.mk (Kd.R_elder' (rowN HO_12.out) (Kd.R_base ho0) hb); have n2_ := Aside0.mk (Kd.R_lower (Kd.R_new' (Kd.R_new' ho0 (Kd.R_lt (rowN HO_11.out))) (Kd.R_lt (rowN HO_12.out))) (below_size (belN HB.out))); have n3_ := Aside0.mk (below_step (belN HB.out) hb); clear HO_11; clear HO_12; clear HB; have HO_11 := n0_; have HO_12 := n1_; have HO263 := n2_; have HB := n3_; clear n0_ n1_ n2_ n3_; (try clear hb); (try clear hk); (try clear ho0)) | ((with_reducible refine gate_callee (f := 14) rfl ?_); refine goesL_ (some 44) rfl rfl Try.func14 (by kernel_rfl) rfl #[.slice Ao16 t248.length co16, .int .i64 50] rfl argN ?_; (with_reducible refine (marigraphkeep_Cut.calls (fun k_ => some k_ = (.slice Ao16 t248.length co16 : Value).ownBlock) _ _ t248 50 t264 _ ?side1 A26.out).mono ?_); (case side1 => exact Kd.R_V (Kd.R_tight rfl (HO_11.out))); rintro e w104 ⟨v265, rfl, ho0, hb⟩; refine ⟨_, rfl, ?_⟩; have n0_ := Aside0.mk (Kd.R_below (rowN HO_11.out) hb); have n1_ := Aside0.mk (Kd.R_below (rowN HO_12.out) hb); have n2_ := Aside0.mk (Kd.R_below (rowN HO263.out) hb); have n3_ := Aside0.mk (Kd.V_lower (Kd.V_mono (ok' := fun k_ => some k_ ≠ (.slice Ao17 x12_8.length co17 : Value).ownBlock ∧ some k_ ≠ (v262 : Value).ownBlock) ho0 (fun k_ hk_ => ⟨Or.elim hk_ (fun hs_ => ((HO_11.out).1 k_ hs_.symm).1) (fun hn_ => (Kd.fresh' (Kd.R_lt (rowN HO_12.out)) k_ hn_)), Or.elim hk_ (fun hs_ => ((HO_11.out).1 k_ hs_.symm).2) (fun hn_ => (Kd.fresh' (Kd.R_lt (rowN HO263.out)) k_ hn_))⟩)) (below_size (belN HB.out))); have n4_ := Aside0.mk (below_step (belN HB.out) hb); clear HO_11; clear HO_12; clear HO263; clear HB; have HO_11 := n0_; have HO_12 := n1_; have HO263 := n2_; have HO266 := n3_; have HB := n4_; clear n0_ n1_ n2_ n3_ n4_; (try clear hb); (try clear hk); (try clear ho0); obtain ⟨Ao105, co105, eo105⟩ := Kd.V_slice HO266.out; subst eo105) | ((with_reducible refine gate_callee (f := 16) rfl ?_); refine goesL_ (some 45) rfl rfl Try.func16 (by kernel_rfl) rfl #[.slice A1 (cutI l1 100).length c1, .slice Ao105 t264.length co105] rfl argN ?_; (with_reducible refine (frame_Put.calls kj8 _ _ (cutI l1 100) _ _ t264 t267 t268 _ ?side1 ?side2 ?side3 ?side4 A27.out).mono ?_); (case side1 => repeat (first | exact (Kd.C_below HR260.out HB.out) | (with_reducible refine Kd.C_alloc ?_ _) | (with_reducible refine Kd.C_drewN ?_ _) | (with_reducible refine Kd.C_drew ?_))); (case side2 => exact HC260.out); (case side3 => repeat (first | exact (Kd.V_reads' HO266.out).2.2 | (with_reducible refine Kd.C_alloc ?_ _) | (with_reducible refine Kd.C_drewN ?_ _) | (with_reducible refine Kd.C_drew ?_))); (case side4 => exact (Kd.V_reads' HO266.out).2.1); rintro e w106 ⟨v269, rfl, ho0, hb⟩; refine ⟨_, rfl, ?_⟩; have n0_ := Aside0.mk (Kd.R_elder' (rowN HO_11.out) (Kd.R_base ho0) hb); have n1_ := Aside0.mk (Kd.R_elder' (rowN HO_12.out) (Kd.R_base ho0) hb); have n2_ := Aside0.mk (Kd.R_elder' (rowN HO263.out) (Kd.R_base ho0) hb); have n3_ := Aside0.mk (Kd.V_elder' (by (with_reducible repeat (first | apply Kd.V_alloc | apply Kd.V_drewN | apply Kd.V_drew)); exact HO266.out) (Kd.R_base ho0) hb); have n4_ := Aside0.mk (Kd.R_lower (Kd.R_new' (Kd.R_new' (Kd.R_new' ho0 (Kd.R_lt (rowN HO_11.out))) (Kd.R_lt (rowN HO_12.out))) (Kd.R_lt (rowN HO263.out))) (below_size (belN HB.out))); have n5_ := Aside0.mk (below_step (belN HB.out) hb); clear HO_11; clear HO_12; clear HO263; clear HO266; clear HB; have HO_11 := n0_; have HO_12 := n1_; have HO263 := n2_; have HO266 := n3_; have HO270 := n4_; have HB := n5_; clear n0_ n1_ n2_ n3_ n4_ n5_; (try clear hb); (try clear hk); (try clear ho0)))
             have n0_ := Aside0.mk (Kd.R_drew HO_11.out)
             have n1_ := Aside0.mk (Kd.R_drew HO_12.out)
             have n2_ := Aside0.mk (Kd.R_drew HO263.out)
             have n3_ := Aside0.mk (Kd.V_drew HO266.out)
             have n4_ := Aside0.mk (Kd.R_drew HO270.out)
             have n5_ := Aside0.mk (below_drew1 HB.out)
             clear HO_11
             clear HO_12
             clear HO263
             clear HO266
             clear HO270
             clear HB
             have HO_11 := n0_
             have HO_12 := n1_
             have HO263 := n2_
             have HO266 := n3_
             have HO270 := n4_
             have HB := n5_
             clear n0_ n1_ n2_ n3_ n4_ n5_
             refine start_ (n := 45) (S := fun w' => True) (ds := []) #[false, false, false, false, false, false, false, false, false, false, false, false, false, false, false, false, false, false, false, false, false, false, false, false, false, false, false, false, false, false, false, false, false, false, false, false, false, false, false, false, false, false, false, false, false] (by kernel_rfl) rfl rfl trivial (fun hHeld => ?_); refine with_tabW marigraphlaw4_FrameTells.tab9 marigraphlaw4_FrameTells.bits9 (fun HT_ HW_ => ?_)
             generalize w106.drew = w107 at HO_11 HO_12 HO263 HO266 HO270 HB hHeld ⊢
             refine pA 0 (some 48) (bA 45 1) HT_.out ?_
             refine one_ (i := 1) (N := some 49) (bA 45 3) rfl rfl (one_of HT_.out (by kernel_rfl)) (by decide) (fun K hK => ?_)
             refine goes_ Try.func17 (by kernel_rfl) rfl #[.slice Ao16 t248.length co16] (by rfl) rfl rfl argN ?_
             with_reducible refine (marigraphlaw4_all.calls kj8 _ _ t248 true _ ?side1 ?side2 A28.out).mono ?_
             (case side1 => repeat (first | exact (Kd.R_reads' HO_11.out).2.2 | (with_reducible refine Kd.C_alloc ?_ _) | (with_reducible refine Kd.C_drewN ?_ _) | (with_reducible refine Kd.C_drew ?_)))
             (case side2 => exact (Kd.R_reads' HO_11.out).2.1)
             rintro e w108 ⟨rfl, hb⟩
             refine ⟨_, rfl, ?_⟩
             have n0_ := Aside0.mk (Kd.R_below (rowN HO_11.out) hb)
             have n1_ := Aside0.mk (Kd.R_below (rowN HO_12.out) hb)
             have n2_ := Aside0.mk (Kd.R_below (rowN HO263.out) hb)
             have n3_ := Aside0.mk (Kd.V_below (by (with_reducible repeat (first | apply Kd.V_alloc | apply Kd.V_drewN | apply Kd.V_drew)); exact HO266.out) hb)
             have n4_ := Aside0.mk (Kd.R_below (rowN HO270.out) hb)
             have n5_ := Aside0.mk (below_step (belN HB.out) hb)
             clear HO_11
             clear HO_12
             clear HO263
             clear HO266
             clear HO270
             clear HB
             have HO_11 := n0_
             have HO_12 := n1_
             have HO263 := n2_
             have HO266 := n3_
             have HO270 := n4_
             have HB := n5_
             clear n0_ n1_ n2_ n3_ n4_ n5_
             (try clear hb)
             (try clear hk)
             refine hK.out _ _ trivial (fun hHeld => ?_)
             clear hK K
             refine norm_ (a' := ?_) ?_ ?_
             rotate_left
             ·show Act.put _ (some 49) _ = _
              simp only [Act.put, List.setIfInBounds_toArray, List.set_cons_zero, List.set_cons_succ, i64_w, i32_w]
              rfl
             refine pA 2 (some 50) (bA 45 7) HT_.out ?_
             refine pA 3 (some 51) (bA 45 15) HT_.out ?_
             refine one_ (i := 4) (N := some 52) (bA 45 31) rfl rfl (one_of HT_.out (by kernel_rfl)) (by decide) (fun K hK => ?_)
             refine goes_ Try.func17 (by kernel_rfl) rfl #[.slice Ao17 x12_8.length co17] (by rfl) rfl rfl argN ?_
             with_reducible refine (marigraphlaw4_all.calls kj8 _ _ x12_8 true _ ?side1 ?side2 A30.out).mono ?_
             (case side1 => repeat (first | exact (Kd.R_reads' HO_12.out).2.2 | (with_reducible refine Kd.C_alloc ?_ _) | (with_reducible refine Kd.C_drewN ?_ _) | (with_reducible refine Kd.C_drew ?_)))
             (case side2 => exact (Kd.R_reads' HO_12.out).2.1)
             rintro e w109 ⟨rfl, hb⟩
             refine ⟨_, rfl, ?_⟩
             have n0_ := Aside0.mk (Kd.R_below (rowN HO_11.out) hb)
             have n1_ := Aside0.mk (Kd.R_below (rowN HO_12.out) hb)
             have n2_ := Aside0.mk (Kd.R_below (rowN HO263.out) hb)
             have n3_ := Aside0.mk (Kd.V_below (by (with_reducible repeat (first | apply Kd.V_alloc | apply Kd.V_drewN | apply Kd.V_drew)); exact HO266.out) hb)
             have n4_ := Aside0.mk (Kd.R_below (rowN HO270.out) hb)
             have n5_ := Aside0.mk (below_step (belN HB.out) hb)
             clear HO_11
             clear HO_12
             clear HO263
             clear HO266
             clear HO270
             clear HB
             have HO_11 := n0_
             have HO_12 := n1_
             have HO263 := n2_
             have HO266 := n3_
             have HO270 := n4_
             have HB := n5_
             clear n0_ n1_ n2_ n3_ n4_ n5_
             (try clear hb)
             (try clear hk)
             refine hK.out _ _ trivial (fun hHeld => ?_)
             clear hK K
             refine norm_ (a' := ?_) ?_ ?_
             rotate_left
             ·show Act.put _ (some 52) _ = _
              simp only [Act.put, List.setIfInBounds_toArray, List.set_cons_zero, List.set_cons_succ, i64_w, i32_w]
              rfl
             refine pA 5 (some 53) (bA 45 63) HT_.out ?_
             refine pA 6 (some 54) (bA 45 127) HT_.out ?_
             refine pA 7 (some 55) (bA 45 255) HT_.out ?_
             refine pA 8 (some 56) (bA 45 511) HT_.out ?_
             refine pA 9 (some 57) (bA 45 1023) HT_.out ?_
             refine pA 10 (some 58) (bA 45 2047) HT_.out ?_
             refine one_ (i := 11) (N := some 59) (bA 45 4095) rfl rfl (one_of HT_.out (by kernel_rfl)) (by decide) (fun K hK => ?_)
             refine goes_ Try.func13 (by kernel_rfl) rfl #[.int .i64 a4, .int .i64 0, .int .i64 (t248.length : Int)] (by rfl) rfl rfl argN ?_
             with_reducible refine (marigraphbook_Within.calls kj8 a4 0 (t248.length : Int) t273 _ A32.out).mono ?_
             rintro e w' ⟨rfl, ⟨nd, rfl⟩⟩
             refine ⟨_, rfl, ?_⟩
             have q110 : (t273 : Int) ≤ ((t248.length : Int) : Int) := of_decide_eq_true (by first | (with_reducible assumption) | assumption)
             obtain ⟨i0110, hi0110, _, hsz110, _⟩ := info_parts info5
             have hroom110 : t248.length ≤ co16 := (Kd.R_reads' HO_11.out).2.1
             have hC110 : Kd.F (Kd.int .u8) _ _ Ao16 t248.length t248 := (Kd.V_at (base := w.heap.size) (Kd.R_V HO_11.out)).2.2
             have hcut110 := cut_to (P := Try.prog) 23 5 .i64 Try.underlying23 hi0110 Ao16 t248.length co16 t273 (of_decide_eq_true (by first | (with_reducible assumption) | assumption)) q110 hroom110
             have hr110 := Kd.F_take (m := (t273 : Int).toNat) hC110 (by omega)
             have hy110 : y274.length = (t273 : Int).toNat := (by rw [Ny274.out, List.length_take]; omega)
             rw [← Ny274.out] at hr110
             rw [← hy110] at hcut110
             have HO278 := Aside0.mk (show Kd.V (Kd.int .u8) 5 _ w.heap.size _ (.slice Ao16 y274.length co16) y274 from Kd.V_mk (by omega) hr110)
             have HC278 := Aside0.mk (show y274.length ≤ co16 from by omega)
             clear hr110 hC110 hroom110 hi0110 hsz110
             have KY110 := Aside0.mk hy110
             clear hy110
             replace q110 := eq_true q110
             refine hK.out _ _ trivial (fun hHeld => ?_)
             clear hK K
             refine norm_ (a' := ?_) ?_ ?_
             rotate_left
             ·show Act.put _ (some 59) _ = _
              simp only [Act.put, List.setIfInBounds_toArray, List.set_cons_zero, List.set_cons_succ, i64_w, i32_w]
              rfl
             refine pA 12 (some 60) (bA 45 8191) HT_.out ?_
             refine one_ (i := 13) (N := some 61) (bA 45 16383) rfl rfl (one_of HT_.out (by kernel_rfl)) (by decide) (fun K hK => ?_)
             refine goes_ Try.func17 (by kernel_rfl) rfl #[.slice Ao16 y274.length co16] (by rfl) rfl rfl argN ?_
             with_reducible refine (marigraphlaw4_all.calls kj8 _ _ y274 true _ ?side1 ?side2 A35.out).mono ?_
             (case side1 => repeat (first | exact (Kd.V_reads' HO278.out).2.2 | (with_reducible refine Kd.C_alloc ?_ _) | (with_reducible refine Kd.C_drewN ?_ _) | (with_reducible refine Kd.C_drew ?_)))
             (case side2 => exact (Kd.V_reads' HO278.out).2.1)
             rintro e w111 ⟨rfl, hb⟩
             refine ⟨_, rfl, ?_⟩
             have n0_ := Aside0.mk (Kd.R_below (rowN HO_11.out) hb)
             have n1_ := Aside0.mk (Kd.R_below (rowN HO_12.out) hb)
             have n2_ := Aside0.mk (Kd.R_below (rowN HO263.out) hb)
             have n3_ := Aside0.mk (Kd.V_below (by (with_reducible repeat (first | apply Kd.V_alloc | apply Kd.V_drewN | apply Kd.V_drew)); exact HO266.out) hb)
             have n4_ := Aside0.mk (Kd.R_below (rowN HO270.out) hb)
             have n5_ := Aside0.mk (Kd.V_below (by (with_reducible repeat (first | apply Kd.V_alloc | apply Kd.V_drewN | apply Kd.V_drew)); exact HO278.out) hb)
             have n6_ := Aside0.mk (below_step (belN HB.out) hb)
             clear HO_11
             clear HO_12
             clear HO263
             clear HO266
             clear HO270
             clear HO278
             clear HB
             have HO_11 := n0_
             have HO_12 := n1_
             have HO263 := n2_
             have HO266 := n3_
             have HO270 := n4_
             have HO278 := n5_
             have HB := n6_
             clear n0_ n1_ n2_ n3_ n4_ n5_ n6_
             (try clear hb)
             (try clear hk)
             obtain ⟨Ao113, co113, eo113⟩ := Kd.R_slice HO263.out
             (first | subst eo113 | (injection eo113 with f1_ f2_ f3_; have f4_ := f1_.symm; have f5_ := f3_.symm; clear f1_ f2_ f3_; subst f4_; subst f5_))
             have q112 : (((cutI l1 100).length : Int) : Int) ≤ ((t261.length : Int) : Int) := of_decide_eq_true (by first | (with_reducible assumption) | assumption)
             obtain ⟨i0112, hi0112, _, hsz112, _⟩ := info_parts info5
             have hroom112 : t261.length ≤ co113 := (Kd.R_reads' HO263.out).2.1
             have hC112 : Kd.F (Kd.int .u8) _ _ Ao113 t261.length t261 := (Kd.V_at (base := w.heap.size) (Kd.R_V HO263.out)).2.2
             have hcut112 := cut_to (P := Try.prog) 23 5 .i64 Try.underlying23 hi0112 Ao113 t261.length co113 ((cutI l1 100).length : Int) (of_decide_eq_true (by first | (with_reducible assumption) | assumption)) q112 hroom112
             have hr112 := Kd.F_take (m := (((cutI l1 100).length : Int) : Int).toNat) hC112 (by omega)
             have hy112 : y280.length = (((cutI l1 100).length : Int) : Int).toNat := (by rw [Ny280.out, List.length_take]; omega)
             rw [← Ny280.out] at hr112
             rw [← hy112] at hcut112
             have HO284 := Aside0.mk (show Kd.V (Kd.int .u8) 5 _ w.heap.size _ (.slice Ao113 y280.length co113) y280 from Kd.V_mk (by omega) hr112)
             have HC284 := Aside0.mk (show y280.length ≤ co113 from by omega)
             clear hr112 hC112 hroom112 hi0112 hsz112
             have KY112 := Aside0.mk hy112
             clear hy112
             replace q112 := eq_true q112
             refine hK.out _ _ trivial (fun hHeld => ?_)
             clear hK K
             refine norm_ (a' := ?_) ?_ ?_
             rotate_left
             ·show Act.put _ (some 61) _ = _
              simp only [Act.put, List.setIfInBounds_toArray, List.set_cons_zero, List.set_cons_succ, i64_w, i32_w]
              rfl
             refine pA 14 (some 62) (bA 45 32767) HT_.out ?_
             refine pA 15 (some 63) (bA 45 65535) HT_.out ?_
             refine pA 16 (some 64) (bA 45 131071) HT_.out ?_
             refine pA 17 (some 65) (bA 45 262143) HT_.out ?_
             refine pA 18 (some 66) (bA 45 524287) HT_.out ?_
             refine pA 19 (some 67) (bA 45 1048575) HT_.out ?_
             refine one_ (i := 20) (N := some 68) (bA 45 2097151) rfl rfl (one_of HT_.out (by kernel_rfl)) (by decide) (fun K hK => ?_)
             refine goes_ Try.func17 (by kernel_rfl) rfl #[.slice Ao113 y280.length co113] (by rfl) rfl rfl argN ?_
             with_reducible refine (marigraphlaw4_all.calls kj8 _ _ y280 true _ ?side1 ?side2 A39.out).mono ?_
             (case side1 => repeat (first | exact (Kd.V_reads' HO284.out).2.2 | (with_reducible refine Kd.C_alloc ?_ _) | (with_reducible refine Kd.C_drewN ?_ _) | (with_reducible refine Kd.C_drew ?_)))
             (case side2 => exact (Kd.V_reads' HO284.out).2.1)
             rintro e w114 ⟨rfl, hb⟩
             refine ⟨_, rfl, ?_⟩
             have n0_ := Aside0.mk (Kd.R_below (rowN HO_11.out) hb)
             have n1_ := Aside0.mk (Kd.R_below (rowN HO_12.out) hb)
             have n2_ := Aside0.mk (Kd.R_below (rowN HO263.out) hb)
             have n3_ := Aside0.mk (Kd.V_below (by (with_reducible repeat (first | apply Kd.V_alloc | apply Kd.V_drewN | apply Kd.V_drew)); exact HO266.out) hb)
             have n4_ := Aside0.mk (Kd.R_below (rowN HO270.out) hb)
             have n5_ := Aside0.mk (Kd.V_below (by (with_reducible repeat (first | apply Kd.V_alloc | apply Kd.V_drewN | apply Kd.V_drew)); exact HO278.out) hb)
             have n6_ := Aside0.mk (Kd.V_below (by (with_reducible repeat (first | apply Kd.V_alloc | apply Kd.V_drewN | apply Kd.V_drew)); exact HO284.out) hb)
             have n7_ := Aside0.mk (below_step (belN HB.out) hb)
             clear HO_11
             clear HO_12
             clear HO263
             clear HO266
             clear HO270
             clear HO278
             clear HO284
             clear HB
             have HO_11 := n0_
             have HO_12 := n1_
             have HO263 := n2_
             have HO266 := n3_
             have HO270 := n4_
             have HO278 := n5_
             have HO284 := n6_
             have HB := n7_
             clear n0_ n1_ n2_ n3_ n4_ n5_ n6_ n7_
             (try clear hb)
             (try clear hk)
             refine hK.out _ _ trivial (fun hHeld => ?_)
             clear hK K
             refine norm_ (a' := ?_) ?_ ?_
             rotate_left
             ·show Act.put _ (some 68) _ = _
              simp only [Act.put, List.setIfInBounds_toArray, List.set_cons_zero, List.set_cons_succ, i64_w, i32_w]
              rfl
             refine pA 21 (some 69) (bA 45 4194303) HT_.out ?_
             refine pA 22 (some 70) (bA 45 8388607) HT_.out ?_
             refine pA 23 (some 71) (bA 45 16777215) HT_.out ?_
             refine pA 24 (some 72) (bA 45 33554431) HT_.out ?_
             refine pA 25 (some 73) (bA 45 67108863) HT_.out ?_
             refine pA 26 (some 74) (bA 45 134217727) HT_.out ?_
             refine pU 27 (some 75) (bA 45 268435455) HT_.out ?_
             refine pU 28 (some 76) (bA 45 536870911) HT_.out ?_
             refine pU 29 (some 77) (bA 45 1073741823) HT_.out ?_
             refine pU 30 (some 78) (bA 45 2147483647) HT_.out ?_
             refine pU 31 (some 79) (bA 45 4294967295) HT_.out ?_
             refine pU 32 (some 80) (bA 45 8589934591) HT_.out ?_
             refine pU 33 (some 81) (bA 45 17179869183) HT_.out ?_
             refine pU 34 (some 82) (bA 45 34359738367) HT_.out ?_
             refine pA 35 (some 83) (bA 45 68719476735) HT_.out ?_
             refine pA 36 (some 84) (bA 45 137438953471) HT_.out ?_
             refine pU 37 (some 85) (bA 45 274877906943) HT_.out ?_
             refine pU 38 (some 86) (bA 45 549755813887) HT_.out ?_
             refine pU 39 (some 87) (bA 45 1099511627775) HT_.out ?_
             refine pA 40 (some 88) (bA 45 2199023255551) HT_.out ?_
             refine pA 41 (some 89) (bA 45 4398046511103) HT_.out ?_
             refine pU 42 (some 90) (bA 45 8796093022207) HT_.out ?_
             refine pA 43 (some 91) (bA 45 17592186044415) HT_.out ?_
             refine pA 44 (some 10) (bA 45 35184372088831) HT_.out ?_
             refine done_ (done_of HT_.out (by kernel_rfl)) ?_
             try go_wp2
             go_ret
             exact ⟨by first | rfl | (simp [errW_none, errW_some] <;> rfl) | (simp [*, errW_none, errW_some] <;> rfl), (belN HB.out)⟩
           ·replace c40 := Bool.eq_false_iff.mpr c40
            subst c40
            have H1 : (some false) = some r := by rw [if_neg (show ¬ (false = true) by decide)] at H; exact H
            clear H
            have H := H1
            clear H1
            obtain rfl := Option.some.inj H
            have HR260 := Aside0.mk (cutI_C (n := 100) HR1.out)
            have HC260 := Aside0.mk (cutI_le (n := 100) HC1.out)
            try go_wp2_with (first | ((with_reducible refine gate_callee (f := 14) rfl ?_); refine goesL_ (some 38) rfl rfl Try.func14 (by kernel_rfl) rfl #[.slice A1 l1.length c1, .int .i64 100] rfl (by (try simp only [List.map_toArray, List.map_cons, List.map_nil]); first | done | rfl) ?_; (with_reducible refine (marigraphkeep_Cut.callsR A1 c1 l1 100 100 _ HC1.out rfl).mono ?_); rintro e w' ⟨rfl, ⟨nd, rfl⟩⟩; refine ⟨_, rfl, ?_⟩) | ((with_reducible refine gate_callee (f := 15) rfl ?_); refine goesL_ (some 40) rfl rfl Try.func15 (by kernel_rfl) rfl #[.slice A1 (cutI l1 100).length c1, .int .u8 165] rfl argN ?_; (with_reducible refine (marigraphbook_Roomy_byte.calls _ _ (cutI l1 100) 165 t261 _ ?side1 ?side2 A25.out).mono ?_); (case side1 => repeat (first | exact (Kd.C_below HR260.out (belN HB.out)) | (with_reducible refine Kd.C_alloc ?_ _) | (with_reducible refine Kd.C_drewN ?_ _) | (with_reducible refine Kd.C_drew ?_))); (case side2 => exact HC260.out); rintro e w115 ⟨v262, rfl, ho0, hb⟩; refine ⟨_, rfl, ?_⟩; have n0_ := Aside0.mk (Kd.R_elder' (rowN HO_11.out) (Kd.R_base ho0) hb); have n1_ := Aside0.mk (Kd.R_elder' (rowN HO_12.out) (Kd.R_base ho0) hb); have n2_ := Aside0.mk (Kd.R_lower (Kd.R_new' (Kd.R_new' ho0 (Kd.R_lt (rowN HO_11.out))) (Kd.R_lt (rowN HO_12.out))) (below_size (belN HB.out))); have n3_ := Aside0.mk (below_step (belN HB.out) hb); clear HO_11; clear HO_12; clear HB; have HO_11 := n0_; have HO_12 := n1_; have HO263 := n2_; have HB := n3_; clear n0_ n1_ n2_ n3_; (try clear hb); (try clear hk); (try clear ho0)) | ((with_reducible refine gate_callee (f := 14) rfl ?_); refine goesL_ (some 44) rfl rfl Try.func14 (by kernel_rfl) rfl #[.slice Ao16 t248.length co16, .int .i64 50] rfl argN ?_; (with_reducible refine (marigraphkeep_Cut.calls (fun k_ => some k_ = (.slice Ao16 t248.length co16 : Value).ownBlock) _ _ t248 50 t264 _ ?side1 A26.out).mono ?_); (case side1 => exact Kd.R_V (Kd.R_tight rfl (HO_11.out))); rintro e w116 ⟨v265, rfl, ho0, hb⟩; refine ⟨_, rfl, ?_⟩; have n0_ := Aside0.mk (Kd.R_below (rowN HO_11.out) hb); have n1_ := Aside0.mk (Kd.R_below (rowN HO_12.out) hb); have n2_ := Aside0.mk (Kd.R_below (rowN HO263.out) hb); have n3_ := Aside0.mk (Kd.V_lower (Kd.V_mono (ok' := fun k_ => some k_ ≠ (.slice Ao17 x12_8.length co17 : Value).ownBlock ∧ some k_ ≠ (v262 : Value).ownBlock) ho0 (fun k_ hk_ => ⟨Or.elim hk_ (fun hs_ => ((HO_11.out).1 k_ hs_.symm).1) (fun hn_ => (Kd.fresh' (Kd.R_lt (rowN HO_12.out)) k_ hn_)), Or.elim hk_ (fun hs_ => ((HO_11.out).1 k_ hs_.symm).2) (fun hn_ => (Kd.fresh' (Kd.R_lt (rowN HO263.out)) k_ hn_))⟩)) (below_size (belN HB.out))); have n4_ := Aside0.mk (below_step (belN HB.out) hb); clear HO_11; clear HO_12; clear HO263; clear HB; have HO_11 := n0_; have HO_12 := n1_; have HO263 := n2_; have HO266 := n3_; have HB := n4_; clear n0_ n1_ n2_ n3_ n4_; (try clear hb); (try clear hk); (try clear ho0); obtain ⟨Ao117, co117, eo117⟩ := Kd.V_slice HO266.out; subst eo117) | ((with_reducible refine gate_callee (f := 16) rfl ?_); refine goesL_ (some 45) rfl rfl Try.func16 (by kernel_rfl) rfl #[.slice A1 (cutI l1 100).length c1, .slice Ao117 t264.length co117] rfl argN ?_; (with_reducible refine (frame_Put.calls kj8 _ _ (cutI l1 100) _ _ t264 t267 t268 _ ?side1 ?side2 ?side3 ?side4 A27.out).mono ?_); (case side1 => repeat (first | exact (Kd.C_below HR260.out HB.out) | (with_reducible refine Kd.C_alloc ?_ _) | (with_reducible refine Kd.C_drewN ?_ _) | (with_reducible refine Kd.C_drew ?_))); (case side2 => exact HC260.out); (case side3 => repeat (first | exact (Kd.V_reads' HO266.out).2.2 | (with_reducible refine Kd.C_alloc ?_ _) | (with_reducible refine Kd.C_drewN ?_ _) | (with_reducible refine Kd.C_drew ?_))); (case side4 => exact (Kd.V_reads' HO266.out).2.1); rintro e w118 ⟨v269, rfl, ho0, hb⟩; refine ⟨_, rfl, ?_⟩; have n0_ := Aside0.mk (Kd.R_elder' (rowN HO_11.out) (Kd.R_base ho0) hb); have n1_ := Aside0.mk (Kd.R_elder' (rowN HO_12.out) (Kd.R_base ho0) hb); have n2_ := Aside0.mk (Kd.R_elder' (rowN HO263.out) (Kd.R_base ho0) hb); have n3_ := Aside0.mk (Kd.V_elder' (by (with_reducible repeat (first | apply Kd.V_alloc | apply Kd.V_drewN | apply Kd.V_drew)); exact HO266.out) (Kd.R_base ho0) hb); have n4_ := Aside0.mk (Kd.R_lower (Kd.R_new' (Kd.R_new' (Kd.R_new' ho0 (Kd.R_lt (rowN HO_11.out))) (Kd.R_lt (rowN HO_12.out))) (Kd.R_lt (rowN HO263.out))) (below_size (belN HB.out))); have n5_ := Aside0.mk (below_step (belN HB.out) hb); clear HO_11; clear HO_12; clear HO263; clear HO266; clear HB; have HO_11 := n0_; have HO_12 := n1_; have HO263 := n2_; have HO266 := n3_; have HO270 := n4_; have HB := n5_; clear n0_ n1_ n2_ n3_ n4_ n5_; (try clear hb); (try clear hk); (try clear ho0)))
            have n0_ := Aside0.mk (Kd.R_drew HO_11.out)
            have n1_ := Aside0.mk (Kd.R_drew HO_12.out)
            have n2_ := Aside0.mk (Kd.R_drew HO263.out)
            have n3_ := Aside0.mk (Kd.V_drew HO266.out)
            have n4_ := Aside0.mk (Kd.R_drew HO270.out)
            have n5_ := Aside0.mk (below_drew1 HB.out)
            clear HO_11
            clear HO_12
            clear HO263
            clear HO266
            clear HO270
            clear HB
            have HO_11 := n0_
            have HO_12 := n1_
            have HO263 := n2_
            have HO266 := n3_
            have HO270 := n4_
            have HB := n5_
            clear n0_ n1_ n2_ n3_ n4_ n5_
            refine start_ (n := 45) (S := fun w' => True) (ds := []) #[false, false, false, false, false, false, false, false, false, false, false, false, false, false, false, false, false, false, false, false, false, false, false, false, false, false, false, false, false, false, false, false, false, false, false, false, false, false, false, false, false, false, false, false, false] (by kernel_rfl) rfl rfl trivial (fun hHeld => ?_); refine with_tabW marigraphlaw4_FrameTells.tab9 marigraphlaw4_FrameTells.bits9 (fun HT_ HW_ => ?_)
            generalize w118.drew = w119 at HO_11 HO_12 HO263 HO266 HO270 HB hHeld ⊢
            refine pA 0 (some 48) (bA 45 1) HT_.out ?_
            refine one_ (i := 1) (N := some 49) (bA 45 3) rfl rfl (one_of HT_.out (by kernel_rfl)) (by decide) (fun K hK => ?_)
            refine goes_ Try.func17 (by kernel_rfl) rfl #[.slice Ao16 t248.length co16] (by rfl) rfl rfl argN ?_
            with_reducible refine (marigraphlaw4_all.calls kj8 _ _ t248 true _ ?side1 ?side2 A28.out).mono ?_
            (case side1 => repeat (first | exact (Kd.R_reads' HO_11.out).2.2 | (with_reducible refine Kd.C_alloc ?_ _) | (with_reducible refine Kd.C_drewN ?_ _) | (with_reducible refine Kd.C_drew ?_)))
            (case side2 => exact (Kd.R_reads' HO_11.out).2.1)
            rintro e w120 ⟨rfl, hb⟩
            refine ⟨_, rfl, ?_⟩
            have n0_ := Aside0.mk (Kd.R_below (rowN HO_11.out) hb)
            have n1_ := Aside0.mk (Kd.R_below (rowN HO_12.out) hb)
            have n2_ := Aside0.mk (Kd.R_below (rowN HO263.out) hb)
            have n3_ := Aside0.mk (Kd.V_below (by (with_reducible repeat (first | apply Kd.V_alloc | apply Kd.V_drewN | apply Kd.V_drew)); exact HO266.out) hb)
            have n4_ := Aside0.mk (Kd.R_below (rowN HO270.out) hb)
            have n5_ := Aside0.mk (below_step (belN HB.out) hb)
            clear HO_11
            clear HO_12
            clear HO263
            clear HO266
            clear HO270
            clear HB
            have HO_11 := n0_
            have HO_12 := n1_
            have HO263 := n2_
            have HO266 := n3_
            have HO270 := n4_
            have HB := n5_
            clear n0_ n1_ n2_ n3_ n4_ n5_
            (try clear hb)
            (try clear hk)
            refine hK.out _ _ trivial (fun hHeld => ?_)
            clear hK K
            refine norm_ (a' := ?_) ?_ ?_
            rotate_left
            ·show Act.put _ (some 49) _ = _
             simp only [Act.put, List.setIfInBounds_toArray, List.set_cons_zero, List.set_cons_succ, i64_w, i32_w]
             rfl
            refine pA 2 (some 50) (bA 45 7) HT_.out ?_
            refine pA 3 (some 51) (bA 45 15) HT_.out ?_
            refine one_ (i := 4) (N := some 52) (bA 45 31) rfl rfl (one_of HT_.out (by kernel_rfl)) (by decide) (fun K hK => ?_)
            refine goes_ Try.func17 (by kernel_rfl) rfl #[.slice Ao17 x12_8.length co17] (by rfl) rfl rfl argN ?_
            with_reducible refine (marigraphlaw4_all.calls kj8 _ _ x12_8 true _ ?side1 ?side2 A30.out).mono ?_
            (case side1 => repeat (first | exact (Kd.R_reads' HO_12.out).2.2 | (with_reducible refine Kd.C_alloc ?_ _) | (with_reducible refine Kd.C_drewN ?_ _) | (with_reducible refine Kd.C_drew ?_)))
            (case side2 => exact (Kd.R_reads' HO_12.out).2.1)
            rintro e w121 ⟨rfl, hb⟩
            refine ⟨_, rfl, ?_⟩
            have n0_ := Aside0.mk (Kd.R_below (rowN HO_11.out) hb)
            have n1_ := Aside0.mk (Kd.R_below (rowN HO_12.out) hb)
            have n2_ := Aside0.mk (Kd.R_below (rowN HO263.out) hb)
            have n3_ := Aside0.mk (Kd.V_below (by (with_reducible repeat (first | apply Kd.V_alloc | apply Kd.V_drewN | apply Kd.V_drew)); exact HO266.out) hb)
            have n4_ := Aside0.mk (Kd.R_below (rowN HO270.out) hb)
            have n5_ := Aside0.mk (below_step (belN HB.out) hb)
            clear HO_11
            clear HO_12
            clear HO263
            clear HO266
            clear HO270
            clear HB
            have HO_11 := n0_
            have HO_12 := n1_
            have HO263 := n2_
            have HO266 := n3_
            have HO270 := n4_
            have HB := n5_
            clear n0_ n1_ n2_ n3_ n4_ n5_
            (try clear hb)
            (try clear hk)
            refine hK.out _ _ trivial (fun hHeld => ?_)
            clear hK K
            refine norm_ (a' := ?_) ?_ ?_
            rotate_left
            ·show Act.put _ (some 52) _ = _
             simp only [Act.put, List.setIfInBounds_toArray, List.set_cons_zero, List.set_cons_succ, i64_w, i32_w]
             rfl
            refine pA 5 (some 53) (bA 45 63) HT_.out ?_
            refine pA 6 (some 54) (bA 45 127) HT_.out ?_
            refine pA 7 (some 55) (bA 45 255) HT_.out ?_
            refine pA 8 (some 56) (bA 45 511) HT_.out ?_
            refine pA 9 (some 57) (bA 45 1023) HT_.out ?_
            refine pA 10 (some 58) (bA 45 2047) HT_.out ?_
            refine one_ (i := 11) (N := some 59) (bA 45 4095) rfl rfl (one_of HT_.out (by kernel_rfl)) (by decide) (fun K hK => ?_)
            refine goes_ Try.func13 (by kernel_rfl) rfl #[.int .i64 a4, .int .i64 0, .int .i64 (t248.length : Int)] (by rfl) rfl rfl argN ?_
            with_reducible refine (marigraphbook_Within.calls kj8 a4 0 (t248.length : Int) t273 _ A32.out).mono ?_
            rintro e w' ⟨rfl, ⟨nd, rfl⟩⟩
            refine ⟨_, rfl, ?_⟩
            have q122 : (t273 : Int) ≤ ((t248.length : Int) : Int) := of_decide_eq_true (by first | (with_reducible assumption) | assumption)
            obtain ⟨i0122, hi0122, _, hsz122, _⟩ := info_parts info5
            have hroom122 : t248.length ≤ co16 := (Kd.R_reads' HO_11.out).2.1
            have hC122 : Kd.F (Kd.int .u8) _ _ Ao16 t248.length t248 := (Kd.V_at (base := w.heap.size) (Kd.R_V HO_11.out)).2.2
            have hcut122 := cut_to (P := Try.prog) 23 5 .i64 Try.underlying23 hi0122 Ao16 t248.length co16 t273 (of_decide_eq_true (by first | (with_reducible assumption) | assumption)) q122 hroom122
            have hr122 := Kd.F_take (m := (t273 : Int).toNat) hC122 (by omega)
            have hy122 : y274.length = (t273 : Int).toNat := (by rw [Ny274.out, List.length_take]; omega)
            rw [← Ny274.out] at hr122
            rw [← hy122] at hcut122
            have HO278 := Aside0.mk (show Kd.V (Kd.int .u8) 5 _ w.heap.size _ (.slice Ao16 y274.length co16) y274 from Kd.V_mk (by omega) hr122)
            have HC278 := Aside0.mk (show y274.length ≤ co16 from by omega)
            clear hr122 hC122 hroom122 hi0122 hsz122
            have KY122 := Aside0.mk hy122
            clear hy122
            replace q122 := eq_true q122
            refine hK.out _ _ trivial (fun hHeld => ?_)
            clear hK K
            refine norm_ (a' := ?_) ?_ ?_
            rotate_left
            ·show Act.put _ (some 59) _ = _
             simp only [Act.put, List.setIfInBounds_toArray, List.set_cons_zero, List.set_cons_succ, i64_w, i32_w]
             rfl
            refine pA 12 (some 60) (bA 45 8191) HT_.out ?_
            refine one_ (i := 13) (N := some 61) (bA 45 16383) rfl rfl (one_of HT_.out (by kernel_rfl)) (by decide) (fun K hK => ?_)
            refine goes_ Try.func17 (by kernel_rfl) rfl #[.slice Ao16 y274.length co16] (by rfl) rfl rfl argN ?_
            with_reducible refine (marigraphlaw4_all.calls kj8 _ _ y274 true _ ?side1 ?side2 A35.out).mono ?_
            (case side1 => repeat (first | exact (Kd.V_reads' HO278.out).2.2 | (with_reducible refine Kd.C_alloc ?_ _) | (with_reducible refine Kd.C_drewN ?_ _) | (with_reducible refine Kd.C_drew ?_)))
            (case side2 => exact (Kd.V_reads' HO278.out).2.1)
            rintro e w123 ⟨rfl, hb⟩
            refine ⟨_, rfl, ?_⟩
            have n0_ := Aside0.mk (Kd.R_below (rowN HO_11.out) hb)
            have n1_ := Aside0.mk (Kd.R_below (rowN HO_12.out) hb)
            have n2_ := Aside0.mk (Kd.R_below (rowN HO263.out) hb)
            have n3_ := Aside0.mk (Kd.V_below (by (with_reducible repeat (first | apply Kd.V_alloc | apply Kd.V_drewN | apply Kd.V_drew)); exact HO266.out) hb)
            have n4_ := Aside0.mk (Kd.R_below (rowN HO270.out) hb)
            have n5_ := Aside0.mk (Kd.V_below (by (with_reducible repeat (first | apply Kd.V_alloc | apply Kd.V_drewN | apply Kd.V_drew)); exact HO278.out) hb)
            have n6_ := Aside0.mk (below_step (belN HB.out) hb)
            clear HO_11
            clear HO_12
            clear HO263
            clear HO266
            clear HO270
            clear HO278
            clear HB
            have HO_11 := n0_
            have HO_12 := n1_
            have HO263 := n2_
            have HO266 := n3_
            have HO270 := n4_
            have HO278 := n5_
            have HB := n6_
            clear n0_ n1_ n2_ n3_ n4_ n5_ n6_
            (try clear hb)
            (try clear hk)
            obtain ⟨Ao125, co125, eo125⟩ := Kd.R_slice HO263.out
            (first | subst eo125 | (injection eo125 with f1_ f2_ f3_; have f4_ := f1_.symm; have f5_ := f3_.symm; clear f1_ f2_ f3_; subst f4_; subst f5_))
            have q124 : (((cutI l1 100).length : Int) : Int) ≤ ((t261.length : Int) : Int) := of_decide_eq_true (by first | (with_reducible assumption) | assumption)
            obtain ⟨i0124, hi0124, _, hsz124, _⟩ := info_parts info5
            have hroom124 : t261.length ≤ co125 := (Kd.R_reads' HO263.out).2.1
            have hC124 : Kd.F (Kd.int .u8) _ _ Ao125 t261.length t261 := (Kd.V_at (base := w.heap.size) (Kd.R_V HO263.out)).2.2
            have hcut124 := cut_to (P := Try.prog) 23 5 .i64 Try.underlying23 hi0124 Ao125 t261.length co125 ((cutI l1 100).length : Int) (of_decide_eq_true (by first | (with_reducible assumption) | assumption)) q124 hroom124
            have hr124 := Kd.F_take (m := (((cutI l1 100).length : Int) : Int).toNat) hC124 (by omega)
            have hy124 : y280.length = (((cutI l1 100).length : Int) : Int).toNat := (by rw [Ny280.out, List.length_take]; omega)
            rw [← Ny280.out] at hr124
            rw [← hy124] at hcut124
            have HO284 := Aside0.mk (show Kd.V (Kd.int .u8) 5 _ w.heap.size _ (.slice Ao125 y280.length co125) y280 from Kd.V_mk (by omega) hr124)
            have HC284 := Aside0.mk (show y280.length ≤ co125 from by omega)
            clear hr124 hC124 hroom124 hi0124 hsz124
            have KY124 := Aside0.mk hy124
            clear hy124
            replace q124 := eq_true q124
            refine hK.out _ _ trivial (fun hHeld => ?_)
            clear hK K
            refine norm_ (a' := ?_) ?_ ?_
            rotate_left
            ·show Act.put _ (some 61) _ = _
             simp only [Act.put, List.setIfInBounds_toArray, List.set_cons_zero, List.set_cons_succ, i64_w, i32_w]
             rfl
            refine pA 14 (some 62) (bA 45 32767) HT_.out ?_
            refine pA 15 (some 63) (bA 45 65535) HT_.out ?_
            refine pA 16 (some 64) (bA 45 131071) HT_.out ?_
            refine pA 17 (some 65) (bA 45 262143) HT_.out ?_
            refine pA 18 (some 66) (bA 45 524287) HT_.out ?_
            refine pA 19 (some 67) (bA 45 1048575) HT_.out ?_
            refine one_ (i := 20) (N := some 68) (bA 45 2097151) rfl rfl (one_of HT_.out (by kernel_rfl)) (by decide) (fun K hK => ?_)
            refine goes_ Try.func17 (by kernel_rfl) rfl #[.slice Ao125 y280.length co125] (by rfl) rfl rfl argN ?_
            with_reducible refine (marigraphlaw4_all.calls kj8 _ _ y280 false _ ?side1 ?side2 A39.out).mono ?_
            (case side1 => repeat (first | exact (Kd.V_reads' HO284.out).2.2 | (with_reducible refine Kd.C_alloc ?_ _) | (with_reducible refine Kd.C_drewN ?_ _) | (with_reducible refine Kd.C_drew ?_)))
            (case side2 => exact (Kd.V_reads' HO284.out).2.1)
            rintro e w126 ⟨rfl, hb⟩
            refine ⟨_, rfl, ?_⟩
            have n0_ := Aside0.mk (Kd.R_below (rowN HO_11.out) hb)
            have n1_ := Aside0.mk (Kd.R_below (rowN HO_12.out) hb)
            have n2_ := Aside0.mk (Kd.R_below (rowN HO263.out) hb)
            have n3_ := Aside0.mk (Kd.V_below (by (with_reducible repeat (first | apply Kd.V_alloc | apply Kd.V_drewN | apply Kd.V_drew)); exact HO266.out) hb)
            have n4_ := Aside0.mk (Kd.R_below (rowN HO270.out) hb)
            have n5_ := Aside0.mk (Kd.V_below (by (with_reducible repeat (first | apply Kd.V_alloc | apply Kd.V_drewN | apply Kd.V_drew)); exact HO278.out) hb)
            have n6_ := Aside0.mk (Kd.V_below (by (with_reducible repeat (first | apply Kd.V_alloc | apply Kd.V_drewN | apply Kd.V_drew)); exact HO284.out) hb)
            have n7_ := Aside0.mk (below_step (belN HB.out) hb)
            clear HO_11
            clear HO_12
            clear HO263
            clear HO266
            clear HO270
            clear HO278
            clear HO284
            clear HB
            have HO_11 := n0_
            have HO_12 := n1_
            have HO263 := n2_
            have HO266 := n3_
            have HO270 := n4_
            have HO278 := n5_
            have HO284 := n6_
            have HB := n7_
            clear n0_ n1_ n2_ n3_ n4_ n5_ n6_ n7_
            (try clear hb)
            (try clear hk)
            refine hK.out _ _ trivial (fun hHeld => ?_)
            clear hK K
            refine norm_ (a' := ?_) ?_ ?_
            rotate_left
            ·show Act.put _ (some 68) _ = _
             simp only [Act.put, List.setIfInBounds_toArray, List.set_cons_zero, List.set_cons_succ, i64_w, i32_w]
             rfl
            refine pA 21 (some 69) (bA 45 4194303) HT_.out ?_
            refine pA 22 (some 70) (bA 45 8388607) HT_.out ?_
            refine pU 23 (some 71) (bA 45 16777215) HT_.out ?_
            refine pU 24 (some 72) (bA 45 33554431) HT_.out ?_
            refine pA 25 (some 73) (bA 45 67108863) HT_.out ?_
            refine pA 26 (some 74) (bA 45 134217727) HT_.out ?_
            refine pU 27 (some 75) (bA 45 268435455) HT_.out ?_
            refine pU 28 (some 76) (bA 45 536870911) HT_.out ?_
            refine pU 29 (some 77) (bA 45 1073741823) HT_.out ?_
            refine pU 30 (some 78) (bA 45 2147483647) HT_.out ?_
            refine pU 31 (some 79) (bA 45 4294967295) HT_.out ?_
            refine pU 32 (some 80) (bA 45 8589934591) HT_.out ?_
            refine pU 33 (some 81) (bA 45 17179869183) HT_.out ?_
            refine pU 34 (some 82) (bA 45 34359738367) HT_.out ?_
            refine pA 35 (some 83) (bA 45 68719476735) HT_.out ?_
            refine pA 36 (some 84) (bA 45 137438953471) HT_.out ?_
            refine pU 37 (some 85) (bA 45 274877906943) HT_.out ?_
            refine pU 38 (some 86) (bA 45 549755813887) HT_.out ?_
            refine pU 39 (some 87) (bA 45 1099511627775) HT_.out ?_
            refine pA 40 (some 88) (bA 45 2199023255551) HT_.out ?_
            refine pA 41 (some 89) (bA 45 4398046511103) HT_.out ?_
            refine pU 42 (some 90) (bA 45 8796093022207) HT_.out ?_
            refine pA 43 (some 91) (bA 45 17592186044415) HT_.out ?_
            refine pA 44 (some 10) (bA 45 35184372088831) HT_.out ?_
            refine done_ (done_of HT_.out (by kernel_rfl)) ?_
            try go_wp2
            go_ret
            exact ⟨by first | rfl | (simp [errW_none, errW_some] <;> rfl) | (simp [*, errW_none, errW_some] <;> rfl), (belN HB.out)⟩
          ·rw [if_neg c38] at H
           exact absurd H (by simp)
         ·rw [if_neg c37] at H
          exact absurd H (by simp)
        ·replace c36 := Bool.eq_false_iff.mpr c36
         subst c36
         have H1 : (some false) = some r := by rw [if_neg (show ¬ (false = true) by decide)] at H; exact H
         clear H
         have H := H1
         clear H1
         obtain rfl := Option.some.inj H
         have HR260 := Aside0.mk (cutI_C (n := 100) HR1.out)
         have HC260 := Aside0.mk (cutI_le (n := 100) HC1.out)
         try go_wp2_with (first | ((with_reducible refine gate_callee (f := 14) rfl ?_); refine goesL_ (some 38) rfl rfl Try.func14 (by kernel_rfl) rfl #[.slice A1 l1.length c1, .int .i64 100] rfl (by (try simp only [List.map_toArray, List.map_cons, List.map_nil]); first | done | rfl) ?_; (with_reducible refine (marigraphkeep_Cut.callsR A1 c1 l1 100 100 _ HC1.out rfl).mono ?_); rintro e w' ⟨rfl, ⟨nd, rfl⟩⟩; refine ⟨_, rfl, ?_⟩) | ((with_reducible refine gate_callee (f := 15) rfl ?_); refine goesL_ (some 40) rfl rfl Try.func15 (by kernel_rfl) rfl #[.slice A1 (cutI l1 100).length c1, .int .u8 165] rfl argN ?_; (with_reducible refine (marigraphbook_Roomy_byte.calls _ _ (cutI l1 100) 165 t261 _ ?side1 ?side2 A25.out).mono ?_); (case side1 => repeat (first | exact (Kd.C_below HR260.out (belN HB.out)) | (with_reducible refine Kd.C_alloc ?_ _) | (with_reducible refine Kd.C_drewN ?_ _) | (with_reducible refine Kd.C_drew ?_))); (case side2 => exact HC260.out); rintro e w127 ⟨v262, rfl, ho0, hb⟩; refine ⟨_, rfl, ?_⟩; have n0_ := Aside0.mk (Kd.R_elder' (rowN HO_11.out) (Kd.R_base ho0) hb); have n1_ := Aside0.mk (Kd.R_elder' (rowN HO_12.out) (Kd.R_base ho0) hb); have n2_ := Aside0.mk (Kd.R_lower (Kd.R_new' (Kd.R_new' ho0 (Kd.R_lt (rowN HO_11.out))) (Kd.R_lt (rowN HO_12.out))) (below_size (belN HB.out))); have n3_ := Aside0.mk (below_step (belN HB.out) hb); clear HO_11; clear HO_12; clear HB; have HO_11 := n0_; have HO_12 := n1_; have HO263 := n2_; have HB := n3_; clear n0_ n1_ n2_ n3_; (try clear hb); (try clear hk); (try clear ho0)) | ((with_reducible refine gate_callee (f := 14) rfl ?_); refine goesL_ (some 44) rfl rfl Try.func14 (by kernel_rfl) rfl #[.slice Ao16 t248.length co16, .int .i64 50] rfl argN ?_; (with_reducible refine (marigraphkeep_Cut.calls (fun k_ => some k_ = (.slice Ao16 t248.length co16 : Value).ownBlock) _ _ t248 50 t264 _ ?side1 A26.out).mono ?_); (case side1 => exact Kd.R_V (Kd.R_tight rfl (HO_11.out))); rintro e w128 ⟨v265, rfl, ho0, hb⟩; refine ⟨_, rfl, ?_⟩; have n0_ := Aside0.mk (Kd.R_below (rowN HO_11.out) hb); have n1_ := Aside0.mk (Kd.R_below (rowN HO_12.out) hb); have n2_ := Aside0.mk (Kd.R_below (rowN HO263.out) hb); have n3_ := Aside0.mk (Kd.V_lower (Kd.V_mono (ok' := fun k_ => some k_ ≠ (.slice Ao17 x12_8.length co17 : Value).ownBlock ∧ some k_ ≠ (v262 : Value).ownBlock) ho0 (fun k_ hk_ => ⟨Or.elim hk_ (fun hs_ => ((HO_11.out).1 k_ hs_.symm).1) (fun hn_ => (Kd.fresh' (Kd.R_lt (rowN HO_12.out)) k_ hn_)), Or.elim hk_ (fun hs_ => ((HO_11.out).1 k_ hs_.symm).2) (fun hn_ => (Kd.fresh' (Kd.R_lt (rowN HO263.out)) k_ hn_))⟩)) (below_size (belN HB.out))); have n4_ := Aside0.mk (below_step (belN HB.out) hb); clear HO_11; clear HO_12; clear HO263; clear HB; have HO_11 := n0_; have HO_12 := n1_; have HO263 := n2_; have HO266 := n3_; have HB := n4_; clear n0_ n1_ n2_ n3_ n4_; (try clear hb); (try clear hk); (try clear ho0); obtain ⟨Ao129, co129, eo129⟩ := Kd.V_slice HO266.out; subst eo129) | ((with_reducible refine gate_callee (f := 16) rfl ?_); refine goesL_ (some 45) rfl rfl Try.func16 (by kernel_rfl) rfl #[.slice A1 (cutI l1 100).length c1, .slice Ao129 t264.length co129] rfl argN ?_; (with_reducible refine (frame_Put.calls kj8 _ _ (cutI l1 100) _ _ t264 t267 t268 _ ?side1 ?side2 ?side3 ?side4 A27.out).mono ?_); (case side1 => repeat (first | exact (Kd.C_below HR260.out HB.out) | (with_reducible refine Kd.C_alloc ?_ _) | (with_reducible refine Kd.C_drewN ?_ _) | (with_reducible refine Kd.C_drew ?_))); (case side2 => exact HC260.out); (case side3 => repeat (first | exact (Kd.V_reads' HO266.out).2.2 | (with_reducible refine Kd.C_alloc ?_ _) | (with_reducible refine Kd.C_drewN ?_ _) | (with_reducible refine Kd.C_drew ?_))); (case side4 => exact (Kd.V_reads' HO266.out).2.1); rintro e w130 ⟨v269, rfl, ho0, hb⟩; refine ⟨_, rfl, ?_⟩; have n0_ := Aside0.mk (Kd.R_elder' (rowN HO_11.out) (Kd.R_base ho0) hb); have n1_ := Aside0.mk (Kd.R_elder' (rowN HO_12.out) (Kd.R_base ho0) hb); have n2_ := Aside0.mk (Kd.R_elder' (rowN HO263.out) (Kd.R_base ho0) hb); have n3_ := Aside0.mk (Kd.V_elder' (by (with_reducible repeat (first | apply Kd.V_alloc | apply Kd.V_drewN | apply Kd.V_drew)); exact HO266.out) (Kd.R_base ho0) hb); have n4_ := Aside0.mk (Kd.R_lower (Kd.R_new' (Kd.R_new' (Kd.R_new' ho0 (Kd.R_lt (rowN HO_11.out))) (Kd.R_lt (rowN HO_12.out))) (Kd.R_lt (rowN HO263.out))) (below_size (belN HB.out))); have n5_ := Aside0.mk (below_step (belN HB.out) hb); clear HO_11; clear HO_12; clear HO263; clear HO266; clear HB; have HO_11 := n0_; have HO_12 := n1_; have HO263 := n2_; have HO266 := n3_; have HO270 := n4_; have HB := n5_; clear n0_ n1_ n2_ n3_ n4_ n5_; (try clear hb); (try clear hk); (try clear ho0)))
         have n0_ := Aside0.mk (Kd.R_drew HO_11.out)
         have n1_ := Aside0.mk (Kd.R_drew HO_12.out)
         have n2_ := Aside0.mk (Kd.R_drew HO263.out)
         have n3_ := Aside0.mk (Kd.V_drew HO266.out)
         have n4_ := Aside0.mk (Kd.R_drew HO270.out)
         have n5_ := Aside0.mk (below_drew1 HB.out)
         clear HO_11
         clear HO_12
         clear HO263
         clear HO266
         clear HO270
         clear HB
         have HO_11 := n0_
         have HO_12 := n1_
         have HO263 := n2_
         have HO266 := n3_
         have HO270 := n4_
         have HB := n5_
         clear n0_ n1_ n2_ n3_ n4_ n5_
         refine start_ (n := 45) (S := fun w' => True) (ds := []) #[false, false, false, false, false, false, false, false, false, false, false, false, false, false, false, false, false, false, false, false, false, false, false, false, false, false, false, false, false, false, false, false, false, false, false, false, false, false, false, false, false, false, false, false, false] (by kernel_rfl) rfl rfl trivial (fun hHeld => ?_); refine with_tabW marigraphlaw4_FrameTells.tab9 marigraphlaw4_FrameTells.bits9 (fun HT_ HW_ => ?_)
         generalize w130.drew = w131 at HO_11 HO_12 HO263 HO266 HO270 HB hHeld ⊢
         refine pA 0 (some 48) (bA 45 1) HT_.out ?_
         refine one_ (i := 1) (N := some 49) (bA 45 3) rfl rfl (one_of HT_.out (by kernel_rfl)) (by decide) (fun K hK => ?_)
         refine goes_ Try.func17 (by kernel_rfl) rfl #[.slice Ao16 t248.length co16] (by rfl) rfl rfl argN ?_
         with_reducible refine (marigraphlaw4_all.calls kj8 _ _ t248 true _ ?side1 ?side2 A28.out).mono ?_
         (case side1 => repeat (first | exact (Kd.R_reads' HO_11.out).2.2 | (with_reducible refine Kd.C_alloc ?_ _) | (with_reducible refine Kd.C_drewN ?_ _) | (with_reducible refine Kd.C_drew ?_)))
         (case side2 => exact (Kd.R_reads' HO_11.out).2.1)
         rintro e w132 ⟨rfl, hb⟩
         refine ⟨_, rfl, ?_⟩
         have n0_ := Aside0.mk (Kd.R_below (rowN HO_11.out) hb)
         have n1_ := Aside0.mk (Kd.R_below (rowN HO_12.out) hb)
         have n2_ := Aside0.mk (Kd.R_below (rowN HO263.out) hb)
         have n3_ := Aside0.mk (Kd.V_below (by (with_reducible repeat (first | apply Kd.V_alloc | apply Kd.V_drewN | apply Kd.V_drew)); exact HO266.out) hb)
         have n4_ := Aside0.mk (Kd.R_below (rowN HO270.out) hb)
         have n5_ := Aside0.mk (below_step (belN HB.out) hb)
         clear HO_11
         clear HO_12
         clear HO263
         clear HO266
         clear HO270
         clear HB
         have HO_11 := n0_
         have HO_12 := n1_
         have HO263 := n2_
         have HO266 := n3_
         have HO270 := n4_
         have HB := n5_
         clear n0_ n1_ n2_ n3_ n4_ n5_
         (try clear hb)
         (try clear hk)
         refine hK.out _ _ trivial (fun hHeld => ?_)
         clear hK K
         refine norm_ (a' := ?_) ?_ ?_
         rotate_left
         ·show Act.put _ (some 49) _ = _
          simp only [Act.put, List.setIfInBounds_toArray, List.set_cons_zero, List.set_cons_succ, i64_w, i32_w]
          rfl
         refine pA 2 (some 50) (bA 45 7) HT_.out ?_
         refine pA 3 (some 51) (bA 45 15) HT_.out ?_
         refine one_ (i := 4) (N := some 52) (bA 45 31) rfl rfl (one_of HT_.out (by kernel_rfl)) (by decide) (fun K hK => ?_)
         refine goes_ Try.func17 (by kernel_rfl) rfl #[.slice Ao17 x12_8.length co17] (by rfl) rfl rfl argN ?_
         with_reducible refine (marigraphlaw4_all.calls kj8 _ _ x12_8 true _ ?side1 ?side2 A30.out).mono ?_
         (case side1 => repeat (first | exact (Kd.R_reads' HO_12.out).2.2 | (with_reducible refine Kd.C_alloc ?_ _) | (with_reducible refine Kd.C_drewN ?_ _) | (with_reducible refine Kd.C_drew ?_)))
         (case side2 => exact (Kd.R_reads' HO_12.out).2.1)
         rintro e w133 ⟨rfl, hb⟩
         refine ⟨_, rfl, ?_⟩
         have n0_ := Aside0.mk (Kd.R_below (rowN HO_11.out) hb)
         have n1_ := Aside0.mk (Kd.R_below (rowN HO_12.out) hb)
         have n2_ := Aside0.mk (Kd.R_below (rowN HO263.out) hb)
         have n3_ := Aside0.mk (Kd.V_below (by (with_reducible repeat (first | apply Kd.V_alloc | apply Kd.V_drewN | apply Kd.V_drew)); exact HO266.out) hb)
         have n4_ := Aside0.mk (Kd.R_below (rowN HO270.out) hb)
         have n5_ := Aside0.mk (below_step (belN HB.out) hb)
         clear HO_11
         clear HO_12
         clear HO263
         clear HO266
         clear HO270
         clear HB
         have HO_11 := n0_
         have HO_12 := n1_
         have HO263 := n2_
         have HO266 := n3_
         have HO270 := n4_
         have HB := n5_
         clear n0_ n1_ n2_ n3_ n4_ n5_
         (try clear hb)
         (try clear hk)
         refine hK.out _ _ trivial (fun hHeld => ?_)
         clear hK K
         refine norm_ (a' := ?_) ?_ ?_
         rotate_left
         ·show Act.put _ (some 52) _ = _
          simp only [Act.put, List.setIfInBounds_toArray, List.set_cons_zero, List.set_cons_succ, i64_w, i32_w]
          rfl
         refine pA 5 (some 53) (bA 45 63) HT_.out ?_
         refine pA 6 (some 54) (bA 45 127) HT_.out ?_
         refine pA 7 (some 55) (bA 45 255) HT_.out ?_
         refine pA 8 (some 56) (bA 45 511) HT_.out ?_
         refine pA 9 (some 57) (bA 45 1023) HT_.out ?_
         refine pA 10 (some 58) (bA 45 2047) HT_.out ?_
         refine one_ (i := 11) (N := some 59) (bA 45 4095) rfl rfl (one_of HT_.out (by kernel_rfl)) (by decide) (fun K hK => ?_)
         refine goes_ Try.func13 (by kernel_rfl) rfl #[.int .i64 a4, .int .i64 0, .int .i64 (t248.length : Int)] (by rfl) rfl rfl argN ?_
         with_reducible refine (marigraphbook_Within.calls kj8 a4 0 (t248.length : Int) t273 _ A32.out).mono ?_
         rintro e w' ⟨rfl, ⟨nd, rfl⟩⟩
         refine ⟨_, rfl, ?_⟩
         have q134 : (t273 : Int) ≤ ((t248.length : Int) : Int) := of_decide_eq_true (by first | (with_reducible assumption) | assumption)
         obtain ⟨i0134, hi0134, _, hsz134, _⟩ := info_parts info5
         have hroom134 : t248.length ≤ co16 := (Kd.R_reads' HO_11.out).2.1
         have hC134 : Kd.F (Kd.int .u8) _ _ Ao16 t248.length t248 := (Kd.V_at (base := w.heap.size) (Kd.R_V HO_11.out)).2.2
         have hcut134 := cut_to (P := Try.prog) 23 5 .i64 Try.underlying23 hi0134 Ao16 t248.length co16 t273 (of_decide_eq_true (by first | (with_reducible assumption) | assumption)) q134 hroom134
         have hr134 := Kd.F_take (m := (t273 : Int).toNat) hC134 (by omega)
         have hy134 : y274.length = (t273 : Int).toNat := (by rw [Ny274.out, List.length_take]; omega)
         rw [← Ny274.out] at hr134
         rw [← hy134] at hcut134
         have HO278 := Aside0.mk (show Kd.V (Kd.int .u8) 5 _ w.heap.size _ (.slice Ao16 y274.length co16) y274 from Kd.V_mk (by omega) hr134)
         have HC278 := Aside0.mk (show y274.length ≤ co16 from by omega)
         clear hr134 hC134 hroom134 hi0134 hsz134
         have KY134 := Aside0.mk hy134
         clear hy134
         replace q134 := eq_true q134
         refine hK.out _ _ trivial (fun hHeld => ?_)
         clear hK K
         refine norm_ (a' := ?_) ?_ ?_
         rotate_left
         ·show Act.put _ (some 59) _ = _
          simp only [Act.put, List.setIfInBounds_toArray, List.set_cons_zero, List.set_cons_succ, i64_w, i32_w]
          rfl
         refine pA 12 (some 60) (bA 45 8191) HT_.out ?_
         refine one_ (i := 13) (N := some 61) (bA 45 16383) rfl rfl (one_of HT_.out (by kernel_rfl)) (by decide) (fun K hK => ?_)
         refine goes_ Try.func17 (by kernel_rfl) rfl #[.slice Ao16 y274.length co16] (by rfl) rfl rfl argN ?_
         with_reducible refine (marigraphlaw4_all.calls kj8 _ _ y274 false _ ?side1 ?side2 A35.out).mono ?_
         (case side1 => repeat (first | exact (Kd.V_reads' HO278.out).2.2 | (with_reducible refine Kd.C_alloc ?_ _) | (with_reducible refine Kd.C_drewN ?_ _) | (with_reducible refine Kd.C_drew ?_)))
         (case side2 => exact (Kd.V_reads' HO278.out).2.1)
         rintro e w135 ⟨rfl, hb⟩
         refine ⟨_, rfl, ?_⟩
         have n0_ := Aside0.mk (Kd.R_below (rowN HO_11.out) hb)
         have n1_ := Aside0.mk (Kd.R_below (rowN HO_12.out) hb)
         have n2_ := Aside0.mk (Kd.R_below (rowN HO263.out) hb)
         have n3_ := Aside0.mk (Kd.V_below (by (with_reducible repeat (first | apply Kd.V_alloc | apply Kd.V_drewN | apply Kd.V_drew)); exact HO266.out) hb)
         have n4_ := Aside0.mk (Kd.R_below (rowN HO270.out) hb)
         have n5_ := Aside0.mk (Kd.V_below (by (with_reducible repeat (first | apply Kd.V_alloc | apply Kd.V_drewN | apply Kd.V_drew)); exact HO278.out) hb)
         have n6_ := Aside0.mk (below_step (belN HB.out) hb)
         clear HO_11
         clear HO_12
         clear HO263
         clear HO266
         clear HO270
         clear HO278
         clear HB
         have HO_11 := n0_
         have HO_12 := n1_
         have HO263 := n2_
         have HO266 := n3_
         have HO270 := n4_
         have HO278 := n5_
         have HB := n6_
         clear n0_ n1_ n2_ n3_ n4_ n5_ n6_
         (try clear hb)
         (try clear hk)
         refine hK.out _ _ trivial (fun hHeld => ?_)
         clear hK K
         refine norm_ (a' := ?_) ?_ ?_
         rotate_left
         ·show Act.put _ (some 61) _ = _
          simp only [Act.put, List.setIfInBounds_toArray, List.set_cons_zero, List.set_cons_succ, i64_w, i32_w]
          rfl
         refine pA 14 (some 62) (bA 45 32767) HT_.out ?_
         refine pA 15 (some 63) (bA 45 65535) HT_.out ?_
         refine pU 16 (some 64) (bA 45 131071) HT_.out ?_
         refine pU 17 (some 65) (bA 45 262143) HT_.out ?_
         refine pU 18 (some 66) (bA 45 524287) HT_.out ?_
         refine pU 19 (some 67) (bA 45 1048575) HT_.out ?_
         refine pU 20 (some 68) (bA 45 2097151) HT_.out ?_
         refine pA 21 (some 69) (bA 45 4194303) HT_.out ?_
         refine pA 22 (some 70) (bA 45 8388607) HT_.out ?_
         refine pU 23 (some 71) (bA 45 16777215) HT_.out ?_
         refine pU 24 (some 72) (bA 45 33554431) HT_.out ?_
         refine pA 25 (some 73) (bA 45 67108863) HT_.out ?_
         refine pA 26 (some 74) (bA 45 134217727) HT_.out ?_
         refine pU 27 (some 75) (bA 45 268435455) HT_.out ?_
         refine pU 28 (some 76) (bA 45 536870911) HT_.out ?_
         refine pU 29 (some 77) (bA 45 1073741823) HT_.out ?_
         refine pU 30 (some 78) (bA 45 2147483647) HT_.out ?_
         refine pU 31 (some 79) (bA 45 4294967295) HT_.out ?_
         refine pU 32 (some 80) (bA 45 8589934591) HT_.out ?_
         refine pU 33 (some 81) (bA 45 17179869183) HT_.out ?_
         refine pU 34 (some 82) (bA 45 34359738367) HT_.out ?_
         refine pA 35 (some 83) (bA 45 68719476735) HT_.out ?_
         refine pA 36 (some 84) (bA 45 137438953471) HT_.out ?_
         refine pU 37 (some 85) (bA 45 274877906943) HT_.out ?_
         refine pU 38 (some 86) (bA 45 549755813887) HT_.out ?_
         refine pU 39 (some 87) (bA 45 1099511627775) HT_.out ?_
         refine pA 40 (some 88) (bA 45 2199023255551) HT_.out ?_
         refine pA 41 (some 89) (bA 45 4398046511103) HT_.out ?_
         refine pU 42 (some 90) (bA 45 8796093022207) HT_.out ?_
         refine pA 43 (some 91) (bA 45 17592186044415) HT_.out ?_
         refine pA 44 (some 10) (bA 45 35184372088831) HT_.out ?_
         refine done_ (done_of HT_.out (by kernel_rfl)) ?_
         try go_wp2
         go_ret
         exact ⟨by first | rfl | (simp [errW_none, errW_some] <;> rfl) | (simp [*, errW_none, errW_some] <;> rfl), (belN HB.out)⟩
       ·rw [if_neg c34] at H
        exact absurd H (by simp)
      ·rw [if_neg c33] at H
       exact absurd H (by simp)
     ·replace c31 := Bool.eq_false_iff.mpr c31
      subst c31
      have H1 : (some false) = some r := by rw [if_neg (show ¬ (false = true) by decide)] at H; exact H
      clear H
      have H := H1
      clear H1
      obtain rfl := Option.some.inj H
      have HR260 := Aside0.mk (cutI_C (n := 100) HR1.out)
      have HC260 := Aside0.mk (cutI_le (n := 100) HC1.out)
      try go_wp2_with (first | ((with_reducible refine gate_callee (f := 14) rfl ?_); refine goesL_ (some 38) rfl rfl Try.func14 (by kernel_rfl) rfl #[.slice A1 l1.length c1, .int .i64 100] rfl (by (try simp only [List.map_toArray, List.map_cons, List.map_nil]); first | done | rfl) ?_; (with_reducible refine (marigraphkeep_Cut.callsR A1 c1 l1 100 100 _ HC1.out rfl).mono ?_); rintro e w' ⟨rfl, ⟨nd, rfl⟩⟩; refine ⟨_, rfl, ?_⟩) | ((with_reducible refine gate_callee (f := 15) rfl ?_); refine goesL_ (some 40) rfl rfl Try.func15 (by kernel_rfl) rfl #[.slice A1 (cutI l1 100).length c1, .int .u8 165] rfl argN ?_; (with_reducible refine (marigraphbook_Roomy_byte.calls _ _ (cutI l1 100) 165 t261 _ ?side1 ?side2 A25.out).mono ?_); (case side1 => repeat (first | exact (Kd.C_below HR260.out (belN HB.out)) | (with_reducible refine Kd.C_alloc ?_ _) | (with_reducible refine Kd.C_drewN ?_ _) | (with_reducible refine Kd.C_drew ?_))); (case side2 => exact HC260.out); rintro e w136 ⟨v262, rfl, ho0, hb⟩; refine ⟨_, rfl, ?_⟩; have n0_ := Aside0.mk (Kd.R_elder' (rowN HO_11.out) (Kd.R_base ho0) hb); have n1_ := Aside0.mk (Kd.R_elder' (rowN HO_12.out) (Kd.R_base ho0) hb); have n2_ := Aside0.mk (Kd.R_lower (Kd.R_new' (Kd.R_new' ho0 (Kd.R_lt (rowN HO_11.out))) (Kd.R_lt (rowN HO_12.out))) (below_size (belN HB.out))); have n3_ := Aside0.mk (below_step (belN HB.out) hb); clear HO_11; clear HO_12; clear HB; have HO_11 := n0_; have HO_12 := n1_; have HO263 := n2_; have HB := n3_; clear n0_ n1_ n2_ n3_; (try clear hb); (try clear hk); (try clear ho0)) | ((with_reducible refine gate_callee (f := 14) rfl ?_); refine goesL_ (some 44) rfl rfl Try.func14 (by kernel_rfl) rfl #[.slice Ao16 t248.length co16, .int .i64 50] rfl argN ?_; (with_reducible refine (marigraphkeep_Cut.calls (fun k_ => some k_ = (.slice Ao16 t248.length co16 : Value).ownBlock) _ _ t248 50 t264 _ ?side1 A26.out).mono ?_); (case side1 => exact Kd.R_V (Kd.R_tight rfl (HO_11.out))); rintro e w137 ⟨v265, rfl, ho0, hb⟩; refine ⟨_, rfl, ?_⟩; have n0_ := Aside0.mk (Kd.R_below (rowN HO_11.out) hb); have n1_ := Aside0.mk (Kd.R_below (rowN HO_12.out) hb); have n2_ := Aside0.mk (Kd.R_below (rowN HO263.out) hb); have n3_ := Aside0.mk (Kd.V_lower (Kd.V_mono (ok' := fun k_ => some k_ ≠ (.slice Ao17 x12_8.length co17 : Value).ownBlock ∧ some k_ ≠ (v262 : Value).ownBlock) ho0 (fun k_ hk_ => ⟨Or.elim hk_ (fun hs_ => ((HO_11.out).1 k_ hs_.symm).1) (fun hn_ => (Kd.fresh' (Kd.R_lt (rowN HO_12.out)) k_ hn_)), Or.elim hk_ (fun hs_ => ((HO_11.out).1 k_ hs_.symm).2) (fun hn_ => (Kd.fresh' (Kd.R_lt (rowN HO263.out)) k_ hn_))⟩)) (below_size (belN HB.out))); have n4_ := Aside0.mk (below_step (belN HB.out) hb); clear HO_11; clear HO_12; clear HO263; clear HB; have HO_11 := n0_; have HO_12 := n1_; have HO263 := n2_; have HO266 := n3_; have HB := n4_; clear n0_ n1_ n2_ n3_ n4_; (try clear hb); (try clear hk); (try clear ho0); obtain ⟨Ao138, co138, eo138⟩ := Kd.V_slice HO266.out; subst eo138) | ((with_reducible refine gate_callee (f := 16) rfl ?_); refine goesL_ (some 45) rfl rfl Try.func16 (by kernel_rfl) rfl #[.slice A1 (cutI l1 100).length c1, .slice Ao138 t264.length co138] rfl argN ?_; (with_reducible refine (frame_Put.calls kj8 _ _ (cutI l1 100) _ _ t264 t267 t268 _ ?side1 ?side2 ?side3 ?side4 A27.out).mono ?_); (case side1 => repeat (first | exact (Kd.C_below HR260.out HB.out) | (with_reducible refine Kd.C_alloc ?_ _) | (with_reducible refine Kd.C_drewN ?_ _) | (with_reducible refine Kd.C_drew ?_))); (case side2 => exact HC260.out); (case side3 => repeat (first | exact (Kd.V_reads' HO266.out).2.2 | (with_reducible refine Kd.C_alloc ?_ _) | (with_reducible refine Kd.C_drewN ?_ _) | (with_reducible refine Kd.C_drew ?_))); (case side4 => exact (Kd.V_reads' HO266.out).2.1); rintro e w139 ⟨v269, rfl, ho0, hb⟩; refine ⟨_, rfl, ?_⟩; have n0_ := Aside0.mk (Kd.R_elder' (rowN HO_11.out) (Kd.R_base ho0) hb); have n1_ := Aside0.mk (Kd.R_elder' (rowN HO_12.out) (Kd.R_base ho0) hb); have n2_ := Aside0.mk (Kd.R_elder' (rowN HO263.out) (Kd.R_base ho0) hb); have n3_ := Aside0.mk (Kd.V_elder' (by (with_reducible repeat (first | apply Kd.V_alloc | apply Kd.V_drewN | apply Kd.V_drew)); exact HO266.out) (Kd.R_base ho0) hb); have n4_ := Aside0.mk (Kd.R_lower (Kd.R_new' (Kd.R_new' (Kd.R_new' ho0 (Kd.R_lt (rowN HO_11.out))) (Kd.R_lt (rowN HO_12.out))) (Kd.R_lt (rowN HO263.out))) (below_size (belN HB.out))); have n5_ := Aside0.mk (below_step (belN HB.out) hb); clear HO_11; clear HO_12; clear HO263; clear HO266; clear HB; have HO_11 := n0_; have HO_12 := n1_; have HO263 := n2_; have HO266 := n3_; have HO270 := n4_; have HB := n5_; clear n0_ n1_ n2_ n3_ n4_ n5_; (try clear hb); (try clear hk); (try clear ho0)))
      have n0_ := Aside0.mk (Kd.R_drew HO_11.out)
      have n1_ := Aside0.mk (Kd.R_drew HO_12.out)
      have n2_ := Aside0.mk (Kd.R_drew HO263.out)
      have n3_ := Aside0.mk (Kd.V_drew HO266.out)
      have n4_ := Aside0.mk (Kd.R_drew HO270.out)
      have n5_ := Aside0.mk (below_drew1 HB.out)
      clear HO_11
      clear HO_12
      clear HO263
      clear HO266
      clear HO270
      clear HB
      have HO_11 := n0_
      have HO_12 := n1_
      have HO263 := n2_
      have HO266 := n3_
      have HO270 := n4_
      have HB := n5_
      clear n0_ n1_ n2_ n3_ n4_ n5_
      refine start_ (n := 45) (S := fun w' => True) (ds := []) #[false, false, false, false, false, false, false, false, false, false, false, false, false, false, false, false, false, false, false, false, false, false, false, false, false, false, false, false, false, false, false, false, false, false, false, false, false, false, false, false, false, false, false, false, false] (by kernel_rfl) rfl rfl trivial (fun hHeld => ?_); refine with_tabW marigraphlaw4_FrameTells.tab9 marigraphlaw4_FrameTells.bits9 (fun HT_ HW_ => ?_)
      generalize w139.drew = w140 at HO_11 HO_12 HO263 HO266 HO270 HB hHeld ⊢
      refine pA 0 (some 48) (bA 45 1) HT_.out ?_
      refine one_ (i := 1) (N := some 49) (bA 45 3) rfl rfl (one_of HT_.out (by kernel_rfl)) (by decide) (fun K hK => ?_)
      refine goes_ Try.func17 (by kernel_rfl) rfl #[.slice Ao16 t248.length co16] (by rfl) rfl rfl argN ?_
      with_reducible refine (marigraphlaw4_all.calls kj8 _ _ t248 true _ ?side1 ?side2 A28.out).mono ?_
      (case side1 => repeat (first | exact (Kd.R_reads' HO_11.out).2.2 | (with_reducible refine Kd.C_alloc ?_ _) | (with_reducible refine Kd.C_drewN ?_ _) | (with_reducible refine Kd.C_drew ?_)))
      (case side2 => exact (Kd.R_reads' HO_11.out).2.1)
      rintro e w141 ⟨rfl, hb⟩
      refine ⟨_, rfl, ?_⟩
      have n0_ := Aside0.mk (Kd.R_below (rowN HO_11.out) hb)
      have n1_ := Aside0.mk (Kd.R_below (rowN HO_12.out) hb)
      have n2_ := Aside0.mk (Kd.R_below (rowN HO263.out) hb)
      have n3_ := Aside0.mk (Kd.V_below (by (with_reducible repeat (first | apply Kd.V_alloc | apply Kd.V_drewN | apply Kd.V_drew)); exact HO266.out) hb)
      have n4_ := Aside0.mk (Kd.R_below (rowN HO270.out) hb)
      have n5_ := Aside0.mk (below_step (belN HB.out) hb)
      clear HO_11
      clear HO_12
      clear HO263
      clear HO266
      clear HO270
      clear HB
      have HO_11 := n0_
      have HO_12 := n1_
      have HO263 := n2_
      have HO266 := n3_
      have HO270 := n4_
      have HB := n5_
      clear n0_ n1_ n2_ n3_ n4_ n5_
      (try clear hb)
      (try clear hk)
      refine hK.out _ _ trivial (fun hHeld => ?_)
      clear hK K
      refine norm_ (a' := ?_) ?_ ?_
      rotate_left
      ·show Act.put _ (some 49) _ = _
       simp only [Act.put, List.setIfInBounds_toArray, List.set_cons_zero, List.set_cons_succ, i64_w, i32_w]
       rfl
      refine pA 2 (some 50) (bA 45 7) HT_.out ?_
      refine pA 3 (some 51) (bA 45 15) HT_.out ?_
      refine one_ (i := 4) (N := some 52) (bA 45 31) rfl rfl (one_of HT_.out (by kernel_rfl)) (by decide) (fun K hK => ?_)
      refine goes_ Try.func17 (by kernel_rfl) rfl #[.slice Ao17 x12_8.length co17] (by rfl) rfl rfl argN ?_
      with_reducible refine (marigraphlaw4_all.calls kj8 _ _ x12_8 false _ ?side1 ?side2 A30.out).mono ?_
      (case side1 => repeat (first | exact (Kd.R_reads' HO_12.out).2.2 | (with_reducible refine Kd.C_alloc ?_ _) | (with_reducible refine Kd.C_drewN ?_ _) | (with_reducible refine Kd.C_drew ?_)))
      (case side2 => exact (Kd.R_reads' HO_12.out).2.1)
      rintro e w142 ⟨rfl, hb⟩
      refine ⟨_, rfl, ?_⟩
      have n0_ := Aside0.mk (Kd.R_below (rowN HO_11.out) hb)
      have n1_ := Aside0.mk (Kd.R_below (rowN HO_12.out) hb)
      have n2_ := Aside0.mk (Kd.R_below (rowN HO263.out) hb)
      have n3_ := Aside0.mk (Kd.V_below (by (with_reducible repeat (first | apply Kd.V_alloc | apply Kd.V_drewN | apply Kd.V_drew)); exact HO266.out) hb)
      have n4_ := Aside0.mk (Kd.R_below (rowN HO270.out) hb)
      have n5_ := Aside0.mk (below_step (belN HB.out) hb)
      clear HO_11
      clear HO_12
      clear HO263
      clear HO266
      clear HO270
      clear HB
      have HO_11 := n0_
      have HO_12 := n1_
      have HO263 := n2_
      have HO266 := n3_
      have HO270 := n4_
      have HB := n5_
      clear n0_ n1_ n2_ n3_ n4_ n5_
      (try clear hb)
      (try clear hk)
      refine hK.out _ _ trivial (fun hHeld => ?_)
      clear hK K
      refine norm_ (a' := ?_) ?_ ?_
      rotate_left
      ·show Act.put _ (some 52) _ = _
       simp only [Act.put, List.setIfInBounds_toArray, List.set_cons_zero, List.set_cons_succ, i64_w, i32_w]
       rfl
      refine pA 5 (some 53) (bA 45 63) HT_.out ?_
      refine pA 6 (some 54) (bA 45 127) HT_.out ?_
      refine pU 7 (some 55) (bA 45 255) HT_.out ?_
      refine pU 8 (some 56) (bA 45 511) HT_.out ?_
      refine pU 9 (some 57) (bA 45 1023) HT_.out ?_
      refine pU 10 (some 58) (bA 45 2047) HT_.out ?_
      refine pU 11 (some 59) (bA 45 4095) HT_.out ?_
      refine pU 12 (some 60) (bA 45 8191) HT_.out ?_
      refine pU 13 (some 61) (bA 45 16383) HT_.out ?_
      refine pA 14 (some 62) (bA 45 32767) HT_.out ?_
      refine pA 15 (some 63) (bA 45 65535) HT_.out ?_
      refine pU 16 (some 64) (bA 45 131071) HT_.out ?_
      refine pU 17 (some 65) (bA 45 262143) HT_.out ?_
      refine pU 18 (some 66) (bA 45 524287) HT_.out ?_
      refine pU 19 (some 67) (bA 45 1048575) HT_.out ?_
      refine pU 20 (some 68) (bA 45 2097151) HT_.out ?_
      refine pA 21 (some 69) (bA 45 4194303) HT_.out ?_
      refine pA 22 (some 70) (bA 45 8388607) HT_.out ?_
      refine pU 23 (some 71) (bA 45 16777215) HT_.out ?_
      refine pU 24 (some 72) (bA 45 33554431) HT_.out ?_
      refine pA 25 (some 73) (bA 45 67108863) HT_.out ?_
      refine pA 26 (some 74) (bA 45 134217727) HT_.out ?_
      refine pU 27 (some 75) (bA 45 268435455) HT_.out ?_
      refine pU 28 (some 76) (bA 45 536870911) HT_.out ?_
      refine pU 29 (some 77) (bA 45 1073741823) HT_.out ?_
      refine pU 30 (some 78) (bA 45 2147483647) HT_.out ?_
      refine pU 31 (some 79) (bA 45 4294967295) HT_.out ?_
      refine pU 32 (some 80) (bA 45 8589934591) HT_.out ?_
      refine pU 33 (some 81) (bA 45 17179869183) HT_.out ?_
      refine pU 34 (some 82) (bA 45 34359738367) HT_.out ?_
      refine pA 35 (some 83) (bA 45 68719476735) HT_.out ?_
      refine pA 36 (some 84) (bA 45 137438953471) HT_.out ?_
      refine pU 37 (some 85) (bA 45 274877906943) HT_.out ?_
      refine pU 38 (some 86) (bA 45 549755813887) HT_.out ?_
      refine pU 39 (some 87) (bA 45 1099511627775) HT_.out ?_
      refine pA 40 (some 88) (bA 45 2199023255551) HT_.out ?_
      refine pA 41 (some 89) (bA 45 4398046511103) HT_.out ?_
      refine pU 42 (some 90) (bA 45 8796093022207) HT_.out ?_
      refine pA 43 (some 91) (bA 45 17592186044415) HT_.out ?_
      refine pA 44 (some 10) (bA 45 35184372088831) HT_.out ?_
      refine done_ (done_of HT_.out (by kernel_rfl)) ?_
      try go_wp2
      go_ret
      exact ⟨by first | rfl | (simp [errW_none, errW_some] <;> rfl) | (simp [*, errW_none, errW_some] <;> rfl), (belN HB.out)⟩
    ·replace c29 := Bool.eq_false_iff.mpr c29
     subst c29
     have H1 : (some false) = some r := by rw [if_neg (show ¬ (false = true) by decide)] at H; exact H
     clear H
     have H := H1
     clear H1
     obtain rfl := Option.some.inj H
     have HR260 := Aside0.mk (cutI_C (n := 100) HR1.out)
     have HC260 := Aside0.mk (cutI_le (n := 100) HC1.out)
     try go_wp2_with (first | ((with_reducible refine gate_callee (f := 14) rfl ?_); refine goesL_ (some 38) rfl rfl Try.func14 (by kernel_rfl) rfl #[.slice A1 l1.length c1, .int .i64 100] rfl (by (try simp only [List.map_toArray, List.map_cons, List.map_nil]); first | done | rfl) ?_; (with_reducible refine (marigraphkeep_Cut.callsR A1 c1 l1 100 100 _ HC1.out rfl).mono ?_); rintro e w' ⟨rfl, ⟨nd, rfl⟩⟩; refine ⟨_, rfl, ?_⟩) | ((with_reducible refine gate_callee (f := 15) rfl ?_); refine goesL_ (some 40) rfl rfl Try.func15 (by kernel_rfl) rfl #[.slice A1 (cutI l1 100).length c1, .int .u8 165] rfl argN ?_; (with_reducible refine (marigraphbook_Roomy_byte.calls _ _ (cutI l1 100) 165 t261 _ ?side1 ?side2 A25.out).mono ?_); (case side1 => repeat (first | exact (Kd.C_below HR260.out (belN HB.out)) | (with_reducible refine Kd.C_alloc ?_ _) | (with_reducible refine Kd.C_drewN ?_ _) | (with_reducible refine Kd.C_drew ?_))); (case side2 => exact HC260.out); rintro e w143 ⟨v262, rfl, ho0, hb⟩; refine ⟨_, rfl, ?_⟩; have n0_ := Aside0.mk (Kd.R_elder' (rowN HO_11.out) (Kd.R_base ho0) hb); have n1_ := Aside0.mk (Kd.R_elder' (rowN HO_12.out) (Kd.R_base ho0) hb); have n2_ := Aside0.mk (Kd.R_lower (Kd.R_new' (Kd.R_new' ho0 (Kd.R_lt (rowN HO_11.out))) (Kd.R_lt (rowN HO_12.out))) (below_size (belN HB.out))); have n3_ := Aside0.mk (below_step (belN HB.out) hb); clear HO_11; clear HO_12; clear HB; have HO_11 := n0_; have HO_12 := n1_; have HO263 := n2_; have HB := n3_; clear n0_ n1_ n2_ n3_; (try clear hb); (try clear hk); (try clear ho0)) | ((with_reducible refine gate_callee (f := 14) rfl ?_); refine goesL_ (some 44) rfl rfl Try.func14 (by kernel_rfl) rfl #[.slice Ao16 t248.length co16, .int .i64 50] rfl argN ?_; (with_reducible refine (marigraphkeep_Cut.calls (fun k_ => some k_ = (.slice Ao16 t248.length co16 : Value).ownBlock) _ _ t248 50 t264 _ ?side1 A26.out).mono ?_); (case side1 => exact Kd.R_V (Kd.R_tight rfl (HO_11.out))); rintro e w144 ⟨v265, rfl, ho0, hb⟩; refine ⟨_, rfl, ?_⟩; have n0_ := Aside0.mk (Kd.R_below (rowN HO_11.out) hb); have n1_ := Aside0.mk (Kd.R_below (rowN HO_12.out) hb); have n2_ := Aside0.mk (Kd.R_below (rowN HO263.out) hb); have n3_ := Aside0.mk (Kd.V_lower (Kd.V_mono (ok' := fun k_ => some k_ ≠ (.slice Ao17 x12_8.length co17 : Value).ownBlock ∧ some k_ ≠ (v262 : Value).ownBlock) ho0 (fun k_ hk_ => ⟨Or.elim hk_ (fun hs_ => ((HO_11.out).1 k_ hs_.symm).1) (fun hn_ => (Kd.fresh' (Kd.R_lt (rowN HO_12.out)) k_ hn_)), Or.elim hk_ (fun hs_ => ((HO_11.out).1 k_ hs_.symm).2) (fun hn_ => (Kd.fresh' (Kd.R_lt (rowN HO263.out)) k_ hn_))⟩)) (below_size (belN HB.out))); have n4_ := Aside0.mk (below_step (belN HB.out) hb); clear HO_11; clear HO_12; clear HO263; clear HB; have HO_11 := n0_; have HO_12 := n1_; have HO263 := n2_; have HO266 := n3_; have HB := n4_; clear n0_ n1_ n2_ n3_ n4_; (try clear hb); (try clear hk); (try clear ho0); obtain ⟨Ao145, co145, eo145⟩ := Kd.V_slice HO266.out; subst eo145) | ((with_reducible refine gate_callee (f := 16) rfl ?_); refine goesL_ (some 45) rfl rfl Try.func16 (by kernel_rfl) rfl #[.slice A1 (cutI l1 100).length c1, .slice Ao145 t264.length co145] rfl argN ?_; (with_reducible refine (frame_Put.calls kj8 _ _ (cutI l1 100) _ _ t264 t267 t268 _ ?side1 ?side2 ?side3 ?side4 A27.out).mono ?_); (case side1 => repeat (first | exact (Kd.C_below HR260.out HB.out) | (with_reducible refine Kd.C_alloc ?_ _) | (with_reducible refine Kd.C_drewN ?_ _) | (with_reducible refine Kd.C_drew ?_))); (case side2 => exact HC260.out); (case side3 => repeat (first | exact (Kd.V_reads' HO266.out).2.2 | (with_reducible refine Kd.C_alloc ?_ _) | (with_reducible refine Kd.C_drewN ?_ _) | (with_reducible refine Kd.C_drew ?_))); (case side4 => exact (Kd.V_reads' HO266.out).2.1); rintro e w146 ⟨v269, rfl, ho0, hb⟩; refine ⟨_, rfl, ?_⟩; have n0_ := Aside0.mk (Kd.R_elder' (rowN HO_11.out) (Kd.R_base ho0) hb); have n1_ := Aside0.mk (Kd.R_elder' (rowN HO_12.out) (Kd.R_base ho0) hb); have n2_ := Aside0.mk (Kd.R_elder' (rowN HO263.out) (Kd.R_base ho0) hb); have n3_ := Aside0.mk (Kd.V_elder' (by (with_reducible repeat (first | apply Kd.V_alloc | apply Kd.V_drewN | apply Kd.V_drew)); exact HO266.out) (Kd.R_base ho0) hb); have n4_ := Aside0.mk (Kd.R_lower (Kd.R_new' (Kd.R_new' (Kd.R_new' ho0 (Kd.R_lt (rowN HO_11.out))) (Kd.R_lt (rowN HO_12.out))) (Kd.R_lt (rowN HO263.out))) (below_size (belN HB.out))); have n5_ := Aside0.mk (below_step (belN HB.out) hb); clear HO_11; clear HO_12; clear HO263; clear HO266; clear HB; have HO_11 := n0_; have HO_12 := n1_; have HO263 := n2_; have HO266 := n3_; have HO270 := n4_; have HB := n5_; clear n0_ n1_ n2_ n3_ n4_ n5_; (try clear hb); (try clear hk); (try clear ho0)))
     have n0_ := Aside0.mk (Kd.R_drew HO_11.out)
     have n1_ := Aside0.mk (Kd.R_drew HO_12.out)
     have n2_ := Aside0.mk (Kd.R_drew HO263.out)
     have n3_ := Aside0.mk (Kd.V_drew HO266.out)
     have n4_ := Aside0.mk (Kd.R_drew HO270.out)
     have n5_ := Aside0.mk (below_drew1 HB.out)
     clear HO_11
     clear HO_12
     clear HO263
     clear HO266
     clear HO270
     clear HB
     have HO_11 := n0_
     have HO_12 := n1_
     have HO263 := n2_
     have HO266 := n3_
     have HO270 := n4_
     have HB := n5_
     clear n0_ n1_ n2_ n3_ n4_ n5_
     refine start_ (n := 45) (S := fun w' => True) (ds := []) #[false, false, false, false, false, false, false, false, false, false, false, false, false, false, false, false, false, false, false, false, false, false, false, false, false, false, false, false, false, false, false, false, false, false, false, false, false, false, false, false, false, false, false, false, false] (by kernel_rfl) rfl rfl trivial (fun hHeld => ?_); refine with_tabW marigraphlaw4_FrameTells.tab9 marigraphlaw4_FrameTells.bits9 (fun HT_ HW_ => ?_)
     generalize w146.drew = w147 at HO_11 HO_12 HO263 HO266 HO270 HB hHeld ⊢
     refine pA 0 (some 48) (bA 45 1) HT_.out ?_
     refine one_ (i := 1) (N := some 49) (bA 45 3) rfl rfl (one_of HT_.out (by kernel_rfl)) (by decide) (fun K hK => ?_)
     refine goes_ Try.func17 (by kernel_rfl) rfl #[.slice Ao16 t248.length co16] (by rfl) rfl rfl argN ?_
     with_reducible refine (marigraphlaw4_all.calls kj8 _ _ t248 false _ ?side1 ?side2 A28.out).mono ?_
     (case side1 => repeat (first | exact (Kd.R_reads' HO_11.out).2.2 | (with_reducible refine Kd.C_alloc ?_ _) | (with_reducible refine Kd.C_drewN ?_ _) | (with_reducible refine Kd.C_drew ?_)))
     (case side2 => exact (Kd.R_reads' HO_11.out).2.1)
     rintro e w148 ⟨rfl, hb⟩
     refine ⟨_, rfl, ?_⟩
     have n0_ := Aside0.mk (Kd.R_below (rowN HO_11.out) hb)
     have n1_ := Aside0.mk (Kd.R_below (rowN HO_12.out) hb)
     have n2_ := Aside0.mk (Kd.R_below (rowN HO263.out) hb)
     have n3_ := Aside0.mk (Kd.V_below (by (with_reducible repeat (first | apply Kd.V_alloc | apply Kd.V_drewN | apply Kd.V_drew)); exact HO266.out) hb)
     have n4_ := Aside0.mk (Kd.R_below (rowN HO270.out) hb)
     have n5_ := Aside0.mk (below_step (belN HB.out) hb)
     clear HO_11
     clear HO_12
     clear HO263
     clear HO266
     clear HO270
     clear HB
     have HO_11 := n0_
     have HO_12 := n1_
     have HO263 := n2_
     have HO266 := n3_
     have HO270 := n4_
     have HB := n5_
     clear n0_ n1_ n2_ n3_ n4_ n5_
     (try clear hb)
     (try clear hk)
     refine hK.out _ _ trivial (fun hHeld => ?_)
     clear hK K
     refine norm_ (a' := ?_) ?_ ?_
     rotate_left
     ·show Act.put _ (some 49) _ = _
      simp only [Act.put, List.setIfInBounds_toArray, List.set_cons_zero, List.set_cons_succ, i64_w, i32_w]
      rfl
     refine pA 2 (some 50) (bA 45 7) HT_.out ?_
     refine pU 3 (some 51) (bA 45 15) HT_.out ?_
     refine pU 4 (some 52) (bA 45 31) HT_.out ?_
     refine pA 5 (some 53) (bA 45 63) HT_.out ?_
     refine pA 6 (some 54) (bA 45 127) HT_.out ?_
     refine pU 7 (some 55) (bA 45 255) HT_.out ?_
     refine pU 8 (some 56) (bA 45 511) HT_.out ?_
     refine pU 9 (some 57) (bA 45 1023) HT_.out ?_
     refine pU 10 (some 58) (bA 45 2047) HT_.out ?_
     refine pU 11 (some 59) (bA 45 4095) HT_.out ?_
     refine pU 12 (some 60) (bA 45 8191) HT_.out ?_
     refine pU 13 (some 61) (bA 45 16383) HT_.out ?_
     refine pA 14 (some 62) (bA 45 32767) HT_.out ?_
     refine pA 15 (some 63) (bA 45 65535) HT_.out ?_
     refine pU 16 (some 64) (bA 45 131071) HT_.out ?_
     refine pU 17 (some 65) (bA 45 262143) HT_.out ?_
     refine pU 18 (some 66) (bA 45 524287) HT_.out ?_
     refine pU 19 (some 67) (bA 45 1048575) HT_.out ?_
     refine pU 20 (some 68) (bA 45 2097151) HT_.out ?_
     refine pA 21 (some 69) (bA 45 4194303) HT_.out ?_
     refine pA 22 (some 70) (bA 45 8388607) HT_.out ?_
     refine pU 23 (some 71) (bA 45 16777215) HT_.out ?_
     refine pU 24 (some 72) (bA 45 33554431) HT_.out ?_
     refine pA 25 (some 73) (bA 45 67108863) HT_.out ?_
     refine pA 26 (some 74) (bA 45 134217727) HT_.out ?_
     refine pU 27 (some 75) (bA 45 268435455) HT_.out ?_
     refine pU 28 (some 76) (bA 45 536870911) HT_.out ?_
     refine pU 29 (some 77) (bA 45 1073741823) HT_.out ?_
     refine pU 30 (some 78) (bA 45 2147483647) HT_.out ?_
     refine pU 31 (some 79) (bA 45 4294967295) HT_.out ?_
     refine pU 32 (some 80) (bA 45 8589934591) HT_.out ?_
     refine pU 33 (some 81) (bA 45 17179869183) HT_.out ?_
     refine pU 34 (some 82) (bA 45 34359738367) HT_.out ?_
     refine pA 35 (some 83) (bA 45 68719476735) HT_.out ?_
     refine pA 36 (some 84) (bA 45 137438953471) HT_.out ?_
     refine pU 37 (some 85) (bA 45 274877906943) HT_.out ?_
     refine pU 38 (some 86) (bA 45 549755813887) HT_.out ?_
     refine pU 39 (some 87) (bA 45 1099511627775) HT_.out ?_
     refine pA 40 (some 88) (bA 45 2199023255551) HT_.out ?_
     refine pA 41 (some 89) (bA 45 4398046511103) HT_.out ?_
     refine pU 42 (some 90) (bA 45 8796093022207) HT_.out ?_
     refine pA 43 (some 91) (bA 45 17592186044415) HT_.out ?_
     refine pA 44 (some 10) (bA 45 35184372088831) HT_.out ?_
     refine done_ (done_of HT_.out (by kernel_rfl)) ?_
     try go_wp2
     go_ret
     exact ⟨by first | rfl | (simp [errW_none, errW_some] <;> rfl) | (simp [*, errW_none, errW_some] <;> rfl), (belN HB.out)⟩
 ·rw [if_neg c8] at H
  exact absurd H (by simp)

end Go.Proofs.Ytmimfnangdabmaa.PFrameTells

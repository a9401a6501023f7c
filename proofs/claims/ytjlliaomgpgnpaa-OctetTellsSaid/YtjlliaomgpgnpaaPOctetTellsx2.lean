/- The walk of the Go functions that a law reaches, told as plain functions; a program of this session has written it. No condition beyond the statement's own. -/
import Derived.Test.YtjlliaomgpgnpaaPOctetTellsx0
import Derived.Test.YtjlliaomgpgnpaaPOctetTellsx1
namespace Go.Proofs.Ytjlliaomgpgnpaa.POctetTells
open Go.RowKit Go.Proofs.YtjlliaomgpgnpaaW.PrintWords Go.Proofs.YtjlliaomgpgnpaaW.PrintLast Go.Proofs.YtjlliaomgpgnpaaW.PrintMore
attribute [local go_sem] max2_int min2_int max_two min_two max_three min_three max_four min_four   -- for this text's walks alone
set_option linter.unusedVariables false
set_option linter.unusedSimpArgs false

/-! ### marigraphref2_Put: function 21 -/
def marigraphref2_Put.l0 : Nat → Int → List Int → Int → Option (List Int)
 | 0, _, _, _ => none
 | k + 1, x1, x7, x8 => if x8 ≥ 0 then (if 0 ≤ (IntKind.u64.wrap (wrap64 (8 * x8))) then (if x7.length < 140737488355328 then (marigraphref2_Put.l0 k x1 (x7 ++ [(shr .u64 x1 (IntKind.u64.wrap (wrap64 (8 * x8)))) % 256]) (wrap64 (x8 - 1))) else (none)) else (none)) else (some x7)
def marigraphref2_Put.f (k : Nat) (l0 : List Int) (a1 : Int) (a2 : Int) : Option (List Int) := (some (([] : List Int) : List Int)).bind fun y111 => (if y111.length + l0.length < 140737488355328 then (marigraphref2_Put.l0 k a1 (y111 ++ l0) ((mx (mn a2 8) 0) - 1)) else (none))
theorem marigraphref2_Put.mono_l : ∀ k, (∀ y0 y1 y2, LeO (marigraphref2_Put.l0 k y0 y1 y2) (marigraphref2_Put.l0 (k + 1) y0 y1 y2))
 | 0 => fun _ _ _ r h => by simp [marigraphref2_Put.l0] at h
 | k + 1 => by
  have ih0 := marigraphref2_Put.mono_l k
  ·intro y0 y1 y2
   unfold marigraphref2_Put.l0
   repeat' first
   | (with_reducible exact ih0 _ _ _)
   | (with_reducible exact LeO.refl _)
   | (with_reducible exact LeO.none _)
   | (with_reducible refine LeO.ite ?_ ?_)
   | (with_reducible refine LeO.bind ?_ (fun _ => ?_))
   | exact ih0 _ _ _
   | exact LeO.none _
   | refine LeO.ite ?_ ?_
   | refine LeO.bind ?_ (fun _ => ?_)
theorem marigraphref2_Put.mono : ∀ a0 a1 a2 k, LeO (marigraphref2_Put.f k a0 a1 a2) (marigraphref2_Put.f (k + 1) a0 a1 a2) := by
 intro a0 a1 a2 k
 have ih0 := marigraphref2_Put.mono_l k
 unfold marigraphref2_Put.f
 repeat' first
   | (with_reducible exact ih0 _ _ _)
   | (with_reducible exact LeO.refl _)
   | (with_reducible exact LeO.none _)
   | (with_reducible refine LeO.ite ?_ ?_)
   | (with_reducible refine LeO.bind ?_ (fun _ => ?_))
   | exact ih0 _ _ _
   | exact LeO.none _
   | refine LeO.ite ?_ ?_
   | refine LeO.bind ?_ (fun _ => ?_)
set_option maxHeartbeats 8000000 in
set_option maxRecDepth 100000 in
theorem marigraphref2_Put.calls (k : Nat) (A0 : Option Addr) (c0 : Nat) (l0 : List Int) (a1 : Int) (a2 : Int) (r : List Int) (w : World) (hr0 : Kd.C (Kd.int .u8) w A0 l0.length l0) (hc0 : l0.length ≤ c0) (h : marigraphref2_Put.f k l0 a1 a2 = some r) :
  Calls Try.prog 21 #[.slice A0 l0.length c0, .int .u64 a1, .int .i64 a2] w fun e w' => ∃ v0_ : Value, e = .returned (v0_) ∧ Kd.R (Kd.int .u8) 5 w' w.heap.size (fun _ => True) v0_ r ∧ Below w.heap.size w w' := by
 have HR0 := Aside0.mk hr0
 have HC0 := Aside0.mk hc0
 clear hr0 hc0
 have HB := Aside0.mk (Below.refl w.heap.size w)
 have H : ((some (([] : List Int) : List Int)).bind fun y111 => (if y111.length + l0.length < 140737488355328 then (marigraphref2_Put.l0 k a1 (y111 ++ l0) ((mx (mn a2 8) 0) - 1)) else (none))) = some r := h
 clear h
 obtain ⟨y111, hy111⟩ : ∃ y_ : List Int, y_ = (([] : List Int)) := ⟨_, rfl⟩
 replace H : (if y111.length + l0.length < 140737488355328 then (marigraphref2_Put.l0 k a1 (y111 ++ l0) ((mx (mn a2 8) 0) - 1)) else (none)) = some r := by first | (rw [hy111]; with_reducible exact H) | (have H2_ := (Option.bind_some _ _).symm.trans H; rw [hy111]; with_reducible exact H2_) | (have H2_ := (Option.bind_some _ _).symm.trans H; with_reducible exact H2_) | with_reducible exact H | (rw [hy111]; exact H) | exact H
 have Ny111 := Aside0.mk hy111
 clear hy111
 by_cases c4 : y111.length + l0.length < 140737488355328
 ·rw [if_pos c4] at H
  have LMc4 := Aside0.mk c4
  clear c4
  obtain ⟨y114, hy114⟩ : ∃ y_ : List Int, y_ = (y111 ++ l0) := ⟨_, rfl⟩
  replace H : (marigraphref2_Put.l0 k a1 y114 ((mx (mn a2 8) 0) - 1)) = some r := by first | (rw [hy114]; with_reducible exact H) | (have H2_ := (Option.bind_some _ _).symm.trans H; rw [hy114]; with_reducible exact H2_) | (have H2_ := (Option.bind_some _ _).symm.trans H; with_reducible exact H2_) | with_reducible exact H | (rw [hy114]; exact H) | exact H
  have Ny114 := Aside0.mk hy114
  clear hy114
  obtain ⟨ji5, hji5⟩ : ∃ j_ : Int, (mn a2 8) = j_ := ⟨_, rfl⟩
  replace H : (marigraphref2_Put.l0 k a1 y114 ((mx (ji5) 0) - 1)) = some r := by first | (rw [hji5] at H; exact H) | (simp only [hji5] at H ⊢; exact H)
  (try (have hji5h : ji5 ≤ 8 := by (rw [← hji5]; unfold mn; (repeat' split) <;> omega)))
  (try (have hji5g : ji5 ≤ 64 := by omega))
  have hji5_ : (if 8 < a2 then 8 else a2) = ji5 := hji5
  obtain ⟨ji6, hji6⟩ : ∃ j_ : Int, (mx (ji5) 0) = j_ := ⟨_, rfl⟩
  replace H : (marigraphref2_Put.l0 k a1 y114 ((ji6) - 1)) = some r := by first | (rw [hji6] at H; exact H) | (simp only [hji6] at H ⊢; exact H)
  have hji6_ : (if (ji5) < 0 then 0 else (ji5)) = ji6 := hji6
  have H' := Aside0.mk H
  clear H
  go_enter Try.func21, Try.ntmps21
  go_wp2_with (first | ((with_reducible refine gate_dst (N := 9) rfl ?_); refine Kd.R_lit (Kd.int .u8) _ 5 ?hg (N := 9) ?hd (xs := ([] : List Int)) (inner := []) (ok := fun _ => True) (okp := fun _ => True) ?hr ?hp (fun _ hk => hk) trivial (Below.refl _ _) (Nat.le_refl _) (by simp) ?_; (case hd => rfl); (case hg => rfl); (case hr => first | (go_simp; done) | (go_simp; rfl)); (case hp => exact (Reps.none _ _)); intro v112 w7 ho8 hb hg_ hnew_; clear hg_ hnew_; (first | rw [← Ny111.out] at ho8 | (simp only [Int.reduceToNat] at ho8; rw [← Ny111.out] at ho8)); have n0_ := Aside0.mk (Kd.R_lower ho8 (below_size (belN HB.out))); have n1_ := Aside0.mk (below_step (belN HB.out) hb); clear HB; have HO113 := n0_; have HB := n1_; clear n0_ n1_; clear hb ho8) | ((with_reducible refine gate_builtin (b := .append) (xs := #[.tmp 9, .tmp 10]) rfl ?_); at_builtin; refine Kd.R_append_rows (Kd.int .u8) (w0 := w) w.heap.size rfl (.tmp 9) (.tmp 10) 30 5 (.int .u8 0) 1 rfl Try.underlying30 info5 rfl (by decide) (by omega) v112 y111 l0 _ _ _ (fun _ => True) (fun _ => False) rfl rfl ?aO ?aR (fun _ _ h => h) (fun _ h => h.elim) ?aF ?aB ?aS ?aL ?_; (case aR => repeat (first | exact (Kd.C_below HR0.out HB.out) | (with_reducible refine Kd.C_alloc ?_ _) | (with_reducible refine Kd.C_drewN ?_ _) | (with_reducible refine Kd.C_drew ?_))); (case aB => exact (belN HB.out)); (case aF => exact (fun _ _ => trivial)); (case aO => exact (rowN HO113.out)); (case aS => exact (below_size (belN HB.out))); (case aL => have := LMc4.out; omega); intro v115 w9 ho hb hg hat; rw [← Ny114.out] at ho; have n0_ := Aside0.mk (hb); have n1_ := Aside0.mk (ho); clear HB; clear HO113; have HB := n0_; have HO116 := n1_; clear n0_ n1_; clear ho hb hg hat))
  go_loopg [7, 8] k (fun kq v7 v8 w' => ∃ (x7_1 : List Int) (x8_1 : Int), v8 = .int .i64 x8_1 ∧ Aside0 (marigraphref2_Put.l0 kq a1 x7_1 x8_1 = some r) ∧ Aside0 (kq ≤ k) ∧ Aside0 (Kd.R (Kd.int .u8) 5 w' w.heap.size (fun _ => True) v7 x7_1) ∧ Aside0 (Below w.heap.size w w'))
  case atStart => exact ⟨(y114), ((ji6) - 1), (by first | rfl | (simp; done) | (simp only [← hji6] <;> (first | rfl | simp)) | (simp [*]; done)), H', ⟨Nat.le_refl _⟩, ⟨(rowN HO116.out)⟩, ⟨(belN HB.out)⟩⟩
  case round =>
   clear H'
   try clear c2
   try clear p2
   try clear c4
   obtain ⟨x7_1, x8_1, rfl, HA, HK1, HO_7, HB⟩ := hrel
   cases gk with
   | zero => exact absurd HA.out (by simp [marigraphref2_Put.l0])
   | succ k1 =>
    have H := HA.out
    clear HA
    simp only [marigraphref2_Put.l0] at H
    by_cases c10 : x8_1 ≥ 0
    ·rw [if_pos c10] at H
     have c10b0 : decide (0 ≤ x8_1) = true := decide_eq_true c10
     clear c10
     obtain ⟨ji11, hji11⟩ : ∃ j_ : Int, (IntKind.u64.wrap (wrap64 (8 * x8_1))) = j_ := ⟨_, rfl⟩
     replace H : (if 0 ≤ (ji11) then (if x7_1.length < 140737488355328 then (marigraphref2_Put.l0 k1 a1 (x7_1 ++ [(shr .u64 a1 (ji11)) % 256]) (wrap64 (x8_1 - 1))) else (none)) else (none)) = some r := by first | (rw [hji11] at H; exact H) | (simp only [hji11] at H ⊢; exact H)
     by_cases c12 : 0 ≤ (ji11)
     ·rw [if_pos c12] at H
      have c12b0 := eq_true c12
      have c12b1 : decide (0 ≤ (ji11)) = true := decide_eq_true c12
      clear c12
      obtain ⟨ji13, hji13⟩ : ∃ j_ : Int, (shr .u64 a1 (ji11)) = j_ := ⟨_, rfl⟩
      replace H : (if x7_1.length < 140737488355328 then (marigraphref2_Put.l0 k1 a1 (x7_1 ++ [(ji13) % 256]) (wrap64 (x8_1 - 1))) else (none)) = some r := by first | (rw [hji13] at H; exact H) | (simp only [hji13] at H ⊢; exact H)
      have hji13_ : (a1 / 2 ^ min (ji11).toNat 64) = ji13 := hji13
      have hji13z : (ji11) ≤ 64 → (a1 / 2 ^ (ji11).toNat) = ji13 := shr_small hji13
      by_cases c14 : x7_1.length < 140737488355328
      ·rw [if_pos c14] at H
       have LMc14 := Aside0.mk c14
       clear c14
       obtain ⟨y117, hy117⟩ : ∃ y_ : List Int, y_ = (x7_1 ++ [(ji13) % 256]) := ⟨_, rfl⟩
       replace H : (marigraphref2_Put.l0 k1 a1 y117 (wrap64 (x8_1 - 1))) = some r := by first | (rw [hy117]; with_reducible exact H) | (have H2_ := (Option.bind_some _ _).symm.trans H; rw [hy117]; with_reducible exact H2_) | (have H2_ := (Option.bind_some _ _).symm.trans H; with_reducible exact H2_) | with_reducible exact H | (rw [hy117]; exact H) | exact H
       have Ny117 := Aside0.mk hy117
       clear hy117
       have H' := Aside0.mk H
       clear H
       go_wp2_with (first | ((with_reducible refine gate_builtin (b := .append) (xs := #[.tmp 21, .tmp 28]) rfl ?_); at_builtin; refine Kd.R_append (Kd.int .u8) (w0 := w) w.heap.size rfl (.tmp 21) (.tmp 28) 30 5 (.int .u8 0) 1 rfl Try.underlying30 info5 rfl (by decide) (by omega) u7 x7_1 ((ji13) % 256) [.int .u8 ((ji13) % 256)] (fun _ => True) (fun _ => False) rfl rfl ?aP (fun _ hk => hk.elim) ?aF ?aO ?aB ?aS ?aL ?_; (case aP => exact rfl); (case aB => exact (belN HB.out)); (case aF => exact (fun _ _ => trivial)); (case aO => exact (rowN HO_7.out)); (case aS => exact (below_size (belN HB.out))); (case aL => have := LMc14.out; omega); intro v118 w15 ho hb hg hat; rw [← Ny117.out] at ho; have n0_ := Aside0.mk (hb); have n1_ := Aside0.mk (ho); clear HB; clear HO_7; have HB := n0_; have HO119 := n1_; clear n0_ n1_; clear ho hb hg hat))
       go_roundg k1
       case measure => have := HK1.out; omega
       case rel => exact ⟨(y117), (wrap64 (x8_1 - 1)), (by first | rfl | (simp; done) | (simp [*]; done)), H', ⟨by have := HK1.out; omega⟩, ⟨(rowN HO119.out)⟩, ⟨(belN HB.out)⟩⟩
      ·rw [if_neg c14] at H
       exact absurd H (by simp)
     ·rw [if_neg c12] at H
      exact absurd H (by simp)
    ·rw [if_neg c10] at H
     have c10b0 : decide (0 ≤ x8_1) = false := decide_eq_false c10
     clear c10
     obtain rfl := Option.some.inj H
     go_wp2
     go_ret
     exact ⟨_, by first | rfl | (simp [errW_none, errW_some] <;> rfl) | (simp only [← hji5, ← hji6]; first | rfl | (simp [errW_none, errW_some] <;> rfl)) | (simp [*, errW_none, errW_some] <;> rfl), (rowN HO_7.out), (belN HB.out)⟩
 ·rw [if_neg c4] at H
  exact absurd H (by simp)

/-! ### marigraphlaw2_lays: function 10 -/
def marigraphlaw2_lays.f (k : Nat) (l0 : List Int) (a1 : Int) (a2 : Int) : Option (Bool) := (octet_Get.f l0 a2).bind fun bt120 => ((marigraphref2_Get.f k l0 a2).bind fun bt122 => (if bt120.1 = bt122.1 then (if (bt120.2 == bt122.2) = true then ((octet_Put.f k l0 a1 a2).bind fun t124 => ((marigraphref2_Put.f k l0 a1 a2).bind fun t127 => (some ((strOfNums t124).toList == (strOfNums t127).toList)))) else (some false)) else (some false)))
theorem marigraphlaw2_lays.mono : ∀ a0 a1 a2 k, LeO (marigraphlaw2_lays.f k a0 a1 a2) (marigraphlaw2_lays.f (k + 1) a0 a1 a2) := by
 intro a0 a1 a2 k
 unfold marigraphlaw2_lays.f
 repeat' first
   | (with_reducible exact marigraphref2_Get.mono _ _ _)
   | (with_reducible exact marigraphref2_Put.mono _ _ _ _)
   | (with_reducible exact octet_Put.mono _ _ _ _)
   | (with_reducible exact LeO.refl _)
   | (with_reducible exact LeO.none _)
   | (with_reducible refine LeO.ite ?_ ?_)
   | (with_reducible refine LeO.bind ?_ (fun _ => ?_))
   | exact marigraphref2_Get.mono _ _ _
   | exact marigraphref2_Put.mono _ _ _ _
   | exact octet_Put.mono _ _ _ _
   | exact LeO.none _
   | refine LeO.ite ?_ ?_
   | refine LeO.bind ?_ (fun _ => ?_)
def marigraphlaw2_lays.T3 : Bool × List (List Nat × List Nat) := (true, [([], []), ([], []), ([0, 1], [0, 1]), ([2], [2]), ([3], [3]), ([3], [3]), ([4, 5, 3], [3, 4, 5]), ([3, 6], [3, 6]), ([7, 3], [7]), ([8], [8]), ([8], [8]), ([8], [8]), ([9, 10, 11, 8, 8], [8, 9, 10, 11]), ([12, 8], [8, 12]), ([8], [8]), ([8], [8]), ([8], [8]), ([14, 15, 16, 12, 8], [8, 14, 15, 16]), ([17, 8], [8, 17]), ([13, 18, 8], [8, 13, 18]), ([8, 19], [8, 19]), ([20, 17, 0, 1, 2, 3, 4, 5, 6, 7, 8, 9, 10, 11, 12, 13, 14, 15, 16, 17, 18, 19, 20], [20])])
def marigraphlaw2_lays.B3 : List Nat := [0, 0, 3, 7, 15, 15, 63, 127, 255, 511, 511, 511, 4095, 8191, 511, 511, 511, 122879, 253951, 524287, 1048575, 2097151]
theorem marigraphlaw2_lays.tab3 : rtab .any (opsOf Try.f10 3) = marigraphlaw2_lays.T3 := by kernel_rfl
theorem marigraphlaw2_lays.bits3 : waitsOk marigraphlaw2_lays.T3.2 marigraphlaw2_lays.B3 = true := by kernel_rfl
set_option maxHeartbeats 8000000 in
set_option maxRecDepth 100000 in
theorem marigraphlaw2_lays.calls (k : Nat) (A0 : Option Addr) (c0 : Nat) (l0 : List Int) (a1 : Int) (a2 : Int) (r : Bool) (w : World) (hr0 : Kd.C (Kd.int .u8) w A0 l0.length l0) (hc0 : l0.length ≤ c0) (h : marigraphlaw2_lays.f k l0 a1 a2 = some r) :
  Calls Try.prog 10 #[.slice A0 l0.length c0, .int .u64 a1, .int .i64 a2] w fun e w' => e = .returned (.bool r) ∧ Below w.heap.size w w' := by
 have HR0 := Aside0.mk hr0
 have HC0 := Aside0.mk hc0
 clear hr0 hc0
 have HB := Aside0.mk (Below.refl w.heap.size w)
 have H : ((octet_Get.f l0 a2).bind fun bt120 => ((marigraphref2_Get.f k l0 a2).bind fun bt122 => (if bt120.1 = bt122.1 then (if (bt120.2 == bt122.2) = true then ((octet_Put.f k l0 a1 a2).bind fun t124 => ((marigraphref2_Put.f k l0 a1 a2).bind fun t127 => (some ((strOfNums t124).toList == (strOfNums t127).toList)))) else (some false)) else (some false)))) = some r := h
 clear h
 replace H := Option.bind_eq_some_iff.mp H
 obtain ⟨⟨t120, t121⟩, A40, H⟩ := H
 replace H : ((marigraphref2_Get.f k l0 a2).bind fun bt122 => (if t120 = bt122.1 then (if (t121 == bt122.2) = true then ((octet_Put.f k l0 a1 a2).bind fun t124 => ((marigraphref2_Put.f k l0 a1 a2).bind fun t127 => (some ((strOfNums t124).toList == (strOfNums t127).toList)))) else (some false)) else (some false))) = some r := H
 have A4 := Aside0.mk A40
 clear A40
 replace H := Option.bind_eq_some_iff.mp H
 obtain ⟨⟨t122, t123⟩, A50, H⟩ := H
 replace H : (if t120 = t122 then (if (t121 == t123) = true then ((octet_Put.f k l0 a1 a2).bind fun t124 => ((marigraphref2_Put.f k l0 a1 a2).bind fun t127 => (some ((strOfNums t124).toList == (strOfNums t127).toList)))) else (some false)) else (some false)) = some r := H
 have A5 := Aside0.mk A50
 clear A50
 by_cases c6 : t120 = t122
 ·rw [if_pos c6] at H
  have c6b0 : (t120 == t122) = true := beq_iff_eq.mpr c6
  have c6b1 : (t120 != t122) = false := bne_eq_false_iff_eq.mpr c6
  clear c6
  by_cases c7 : (t121 == t123) = true
  ·rw [if_pos c7] at H
   have c7b0 : (t121 == t123) = true := c7
   (try (have c7b1 : decide (t121 = t123) = true := by simpa using c7))
   (try (have c7b2 : (t121 == t123) = true := by simpa using c7))
   clear c7
   replace H := Option.bind_eq_some_iff.mp H
   obtain ⟨t124, A80, H⟩ := H
   replace H : ((marigraphref2_Put.f k l0 a1 a2).bind fun t127 => (some ((strOfNums t124).toList == (strOfNums t127).toList))) = some r := H
   have A8 := Aside0.mk A80
   clear A80
   replace H := Option.bind_eq_some_iff.mp H
   obtain ⟨t127, A90, H⟩ := H
   replace H : (some ((strOfNums t124).toList == (strOfNums t127).toList)) = some r := H
   have A9 := Aside0.mk A90
   clear A90
   obtain rfl := Option.some.inj H
   go_enter Try.func10, Try.ntmps10
   try go_wp2_with (first | ((with_reducible refine gate_callee (f := 18) rfl ?_); refine goesL_ (some 14) rfl rfl Try.func18 (by kernel_rfl) rfl #[.slice A0 l0.length c0, .int .i64 a2] rfl argN ?_; (with_reducible refine (octet_Get.calls _ _ l0 a2 t120 t121 _ ?side1 ?side2 A4.out).mono ?_); (case side1 => repeat (first | exact HR0.out | (with_reducible refine Kd.C_alloc ?_ _) | (with_reducible refine Kd.C_drewN ?_ _) | (with_reducible refine Kd.C_drew ?_))); (case side2 => exact HC0.out); rintro e w' ⟨rfl, ⟨nd, rfl⟩⟩; refine ⟨_, rfl, ?_⟩) | ((with_reducible refine gate_callee (f := 19) rfl ?_); refine goesL_ (some 20) rfl rfl Try.func19 (by kernel_rfl) rfl #[.slice A0 l0.length c0, .int .i64 a2] rfl argN ?_; (with_reducible refine (marigraphref2_Get.calls k _ _ l0 a2 t122 t123 _ ?side1 ?side2 A5.out).mono ?_); (case side1 => repeat (first | exact HR0.out | (with_reducible refine Kd.C_alloc ?_ _) | (with_reducible refine Kd.C_drewN ?_ _) | (with_reducible refine Kd.C_drew ?_))); (case side2 => exact HC0.out); rintro e w' ⟨rfl, ⟨nd, rfl⟩⟩; refine ⟨_, rfl, ?_⟩))
   (try simp only [World.drewN_drewN])
   generalize hq_ : World.drewN w _ = w10
   have n0_ : Aside0 (Below w.heap.size w w10) := ⟨by rw [← hq_]; exact pw_below_drewN HB.out _⟩
   clear HB hq_
   have HB := n0_
   clear n0_
   have n0_ := Aside0.mk (below_drew1 HB.out)
   clear HB
   have HB := n0_
   clear n0_
   refine start_ (n := 22) (S := fun w' => True) (ds := []) #[false, false, false, false, false, false, false, false, false, false, false, false, false, false, false, false, false, false, false, false, false, false] (by kernel_rfl) rfl rfl trivial (fun hHeld => ?_); refine with_tabW marigraphlaw2_lays.tab3 marigraphlaw2_lays.bits3 (fun HT_ HW_ => ?_)
   generalize w10.drew = w11 at HB hHeld ⊢
   refine pA 0 (some 23) (bA 22 1) HT_.out ?_
   refine pA 1 (some 24) (bA 22 3) HT_.out ?_
   refine pA 2 (some 25) (bA 22 7) HT_.out ?_
   refine pA 3 (some 26) (bA 22 15) HT_.out ?_
   refine pA 4 (some 27) (bA 22 31) HT_.out ?_
   refine pA 5 (some 28) (bA 22 63) HT_.out ?_
   refine pA 6 (some 29) (bA 22 127) HT_.out ?_
   refine pA 7 (some 30) (bA 22 255) HT_.out ?_
   refine pA 8 (some 31) (bA 22 511) HT_.out ?_
   refine pA 9 (some 32) (bA 22 1023) HT_.out ?_
   refine pA 10 (some 33) (bA 22 2047) HT_.out ?_
   refine pA 11 (some 34) (bA 22 4095) HT_.out ?_
   refine pA 14 (some 37) (bA 22 20479) HT_.out ?_
   refine pA 15 (some 38) (bA 22 53247) HT_.out ?_
   refine pA 16 (some 39) (bA 22 118783) HT_.out ?_
   refine one_ (i := 12) (N := some 35) (bA 22 122879) rfl rfl (one_of HT_.out (by kernel_rfl)) (by decide) (fun K hK => ?_)
   refine goes_ Try.func20 (by kernel_rfl) rfl #[.slice A0 l0.length c0, .int .u64 a1, .int .i64 a2] (by rfl) rfl rfl argN ?_
   with_reducible refine (octet_Put.calls k _ _ l0 a1 a2 t124 _ ?side1 ?side2 A8.out).mono ?_
   (case side1 => repeat (first | exact (Kd.C_below HR0.out HB.out) | (with_reducible refine Kd.C_alloc ?_ _) | (with_reducible refine Kd.C_drewN ?_ _) | (with_reducible refine Kd.C_drew ?_)))
   (case side2 => exact HC0.out)
   rintro e w12 ⟨v125, rfl, ho0, hb⟩
   refine ⟨_, rfl, ?_⟩
   have n0_ := Aside0.mk (Kd.R_lower ho0 (below_size (belN HB.out)))
   have n1_ := Aside0.mk (below_step (belN HB.out) hb)
   clear HB
   have HO126 := n0_
   have HB := n1_
   clear n0_ n1_
   (try clear hb)
   (try clear hk)
   (try clear ho0)
   refine hK.out _ _ trivial (fun hHeld => ?_)
   clear hK K
   refine norm_ (a' := ?_) ?_ ?_
   rotate_left
   ·show Act.put _ (some 35) _ = _
    simp only [Act.put, List.setIfInBounds_toArray, List.set_cons_zero, List.set_cons_succ, i64_w, i32_w]
    rfl
   refine join_ (σ := Value) 3 (bA 22 524287) (fun s_ => [(36, .string (strOfNums t124)), (40, s_), (41, .string (strOfNums t127))]) (fun s_ w' => (Kd.R (Kd.int .u8) 5 w' w.heap.size (fun k_ => some k_ ≠ (s_ : Value).ownBlock) v125 t124) ∧ (Kd.R (Kd.int .u8) 5 w' w.heap.size (fun k_ => some k_ ≠ (v125 : Value).ownBlock) s_ t127) ∧ (Below w.heap.size w w')) ?_ ?_
   rotate_left
   ·intro hCont
    refine two_ (i := 13) (j := 17) (Ni := some 36) (Nj := some 40) (bA 22 131071) (bA 22 253951) rfl rfl rfl rfl (two_of HT_.out (by kernel_rfl)) (by decide) (by decide) (fun K hK => ?_) (fun K hK => ?_)
    ·skip
     have hcv13 := own_string (P := Try.prog) Try.underlying30 Try.underlying5 Try.underlying9 (Kd.own_of_R HO126.out)
     refine value_ (w1 := ?_) (v := ?_) (by rfl) rfl ?_ ?_
     rotate_left 2
     ·go_simp
      constructor
      ·rfl
      ·rfl
     clear hcv13
     refine hK.out _ _ trivial (fun hHeld => ?_)
     clear hK K
     refine norm_ (a' := ?_) ?_ ?_
     rotate_left
     ·show Act.put _ (some 36) _ = _
      simp only [Act.put, List.setIfInBounds_toArray, List.set_cons_zero, List.set_cons_succ, i64_w, i32_w]
      rfl
     refine one_ (i := 17) (N := some 40) (bA 22 262143) rfl rfl (one_of HT_.out (by kernel_rfl)) (by decide) (fun K hK => ?_)
     refine goes_ Try.func21 (by kernel_rfl) rfl #[.slice A0 l0.length c0, .int .u64 a1, .int .i64 a2] (by rfl) rfl rfl argN ?_
     with_reducible refine (marigraphref2_Put.calls k _ _ l0 a1 a2 t127 _ ?side1 ?side2 A9.out).mono ?_
     (case side1 => repeat (first | exact (Kd.C_below HR0.out HB.out) | (with_reducible refine Kd.C_alloc ?_ _) | (with_reducible refine Kd.C_drewN ?_ _) | (with_reducible refine Kd.C_drew ?_)))
     (case side2 => exact HC0.out)
     rintro e w14 ⟨v128, rfl, ho0, hb⟩
     refine ⟨_, rfl, ?_⟩
     have n0_ := Aside0.mk (Kd.R_elder' (rowN HO126.out) (Kd.R_base ho0) hb)
     have n1_ := Aside0.mk (Kd.R_lower (Kd.R_new' ho0 (Kd.R_lt (rowN HO126.out))) (below_size (belN HB.out)))
     have n2_ := Aside0.mk (below_step (belN HB.out) hb)
     clear HO126
     clear HB
     have HO126 := n0_
     have HO129 := n1_
     have HB := n2_
     clear n0_ n1_ n2_
     (try clear hb)
     (try clear hk)
     (try clear ho0)
     refine hK.out _ _ trivial (fun hHeld => ?_)
     clear hK K
     refine norm_ (a' := ?_) ?_ ?_
     rotate_left
     ·show Act.put _ (some 40) _ = _
      simp only [Act.put, List.setIfInBounds_toArray, List.set_cons_zero, List.set_cons_succ, i64_w, i32_w]
      rfl
     refine one_ (i := 18) (N := some 41) (bA 22 524287) rfl rfl (one_of HT_.out (by kernel_rfl)) (by decide) (fun K hK => ?_)
     have hcv15 := own_string (P := Try.prog) Try.underlying30 Try.underlying5 Try.underlying9 (Kd.own_of_R HO129.out)
     refine value_ (w1 := ?_) (v := ?_) (by rfl) rfl ?_ ?_
     rotate_left 2
     ·go_simp
      constructor
      ·rfl
      ·rfl
     clear hcv15
     refine hK.out _ _ trivial (fun hHeld => ?_)
     clear hK K
     refine norm_ (a' := ?_) ?_ ?_
     rotate_left
     ·show Act.put _ (some 41) _ = _
      simp only [Act.put, List.setIfInBounds_toArray, List.set_cons_zero, List.set_cons_succ, i64_w, i32_w]
      rfl
     exact norm_ (by simp only [putAll, Act.put, List.setIfInBounds_toArray, List.set_cons_zero, List.set_cons_succ]) (hCont (v128) _ ⟨(by (with_reducible repeat (first | apply Kd.R_alloc | apply Kd.R_drewN | apply Kd.R_drew)); exact Kd.R_mono HO126.out (fun _ hk => hk.2)), (by (with_reducible repeat (first | apply Kd.R_alloc | apply Kd.R_drewN | apply Kd.R_drew)); exact Kd.R_mono HO129.out (fun _ hk => hk.2)), (belN HB.out)⟩)
    ·skip
     refine goes_ Try.func21 (by kernel_rfl) rfl #[.slice A0 l0.length c0, .int .u64 a1, .int .i64 a2] (by rfl) rfl rfl argN ?_
     with_reducible refine (marigraphref2_Put.calls k _ _ l0 a1 a2 t127 _ ?side1 ?side2 A9.out).mono ?_
     (case side1 => repeat (first | exact (Kd.C_below HR0.out HB.out) | (with_reducible refine Kd.C_alloc ?_ _) | (with_reducible refine Kd.C_drewN ?_ _) | (with_reducible refine Kd.C_drew ?_)))
     (case side2 => exact HC0.out)
     rintro e w13 ⟨v128, rfl, ho0, hb⟩
     refine ⟨_, rfl, ?_⟩
     have n0_ := Aside0.mk (Kd.R_elder' (rowN HO126.out) (Kd.R_base ho0) hb)
     have n1_ := Aside0.mk (Kd.R_lower (Kd.R_new' ho0 (Kd.R_lt (rowN HO126.out))) (below_size (belN HB.out)))
     have n2_ := Aside0.mk (below_step (belN HB.out) hb)
     clear HO126
     clear HB
     have HO126 := n0_
     have HO129 := n1_
     have HB := n2_
     clear n0_ n1_ n2_
     (try clear hb)
     (try clear hk)
     (try clear ho0)
     refine hK.out _ _ trivial (fun hHeld => ?_)
     clear hK K
     refine norm_ (a' := ?_) ?_ ?_
     rotate_left
     ·show Act.put _ (some 40) _ = _
      simp only [Act.put, List.setIfInBounds_toArray, List.set_cons_zero, List.set_cons_succ, i64_w, i32_w]
      rfl
     refine two_ (i := 13) (j := 18) (Ni := some 36) (Nj := some 41) (bA 22 262143) (bA 22 516095) rfl rfl rfl rfl (two_of HT_.out (by kernel_rfl)) (by decide) (by decide) (fun K hK => ?_) (fun K hK => ?_)
     ·skip
      have hcv14 := own_string (P := Try.prog) Try.underlying30 Try.underlying5 Try.underlying9 (Kd.own_of_R HO126.out)
      refine value_ (w1 := ?_) (v := ?_) (by rfl) rfl ?_ ?_
      rotate_left 2
      ·go_simp
       constructor
       ·rfl
       ·rfl
      clear hcv14
      refine hK.out _ _ trivial (fun hHeld => ?_)
      clear hK K
      refine norm_ (a' := ?_) ?_ ?_
      rotate_left
      ·show Act.put _ (some 36) _ = _
       simp only [Act.put, List.setIfInBounds_toArray, List.set_cons_zero, List.set_cons_succ, i64_w, i32_w]
       rfl
      refine one_ (i := 18) (N := some 41) (bA 22 524287) rfl rfl (one_of HT_.out (by kernel_rfl)) (by decide) (fun K hK => ?_)
      have hcv15 := own_string (P := Try.prog) Try.underlying30 Try.underlying5 Try.underlying9 (Kd.own_of_R HO129.out)
      refine value_ (w1 := ?_) (v := ?_) (by rfl) rfl ?_ ?_
      rotate_left 2
      ·go_simp
       constructor
       ·rfl
       ·rfl
      clear hcv15
      refine hK.out _ _ trivial (fun hHeld => ?_)
      clear hK K
      refine norm_ (a' := ?_) ?_ ?_
      rotate_left
      ·show Act.put _ (some 41) _ = _
       simp only [Act.put, List.setIfInBounds_toArray, List.set_cons_zero, List.set_cons_succ, i64_w, i32_w]
       rfl
      exact norm_ (by simp only [putAll, Act.put, List.setIfInBounds_toArray, List.set_cons_zero, List.set_cons_succ]) (hCont (v128) _ ⟨(by (with_reducible repeat (first | apply Kd.R_alloc | apply Kd.R_drewN | apply Kd.R_drew)); exact Kd.R_mono HO126.out (fun _ hk => hk.2)), (by (with_reducible repeat (first | apply Kd.R_alloc | apply Kd.R_drewN | apply Kd.R_drew)); exact Kd.R_mono HO129.out (fun _ hk => hk.2)), (belN HB.out)⟩)
     ·skip
      have hcv14 := own_string (P := Try.prog) Try.underlying30 Try.underlying5 Try.underlying9 (Kd.own_of_R HO129.out)
      refine value_ (w1 := ?_) (v := ?_) (by rfl) rfl ?_ ?_
      rotate_left 2
      ·go_simp
       constructor
       ·rfl
       ·rfl
      clear hcv14
      refine hK.out _ _ trivial (fun hHeld => ?_)
      clear hK K
      refine norm_ (a' := ?_) ?_ ?_
      rotate_left
      ·show Act.put _ (some 41) _ = _
       simp only [Act.put, List.setIfInBounds_toArray, List.set_cons_zero, List.set_cons_succ, i64_w, i32_w]
       rfl
      refine one_ (i := 13) (N := some 36) (bA 22 524287) rfl rfl (one_of HT_.out (by kernel_rfl)) (by decide) (fun K hK => ?_)
      have hcv15 := own_string (P := Try.prog) Try.underlying30 Try.underlying5 Try.underlying9 (Kd.own_of_R HO126.out)
      refine value_ (w1 := ?_) (v := ?_) (by rfl) rfl ?_ ?_
      rotate_left 2
      ·go_simp
       constructor
       ·rfl
       ·rfl
      clear hcv15
      refine hK.out _ _ trivial (fun hHeld => ?_)
      clear hK K
      refine norm_ (a' := ?_) ?_ ?_
      rotate_left
      ·show Act.put _ (some 36) _ = _
       simp only [Act.put, List.setIfInBounds_toArray, List.set_cons_zero, List.set_cons_succ, i64_w, i32_w]
       rfl
      exact norm_ (by simp only [putAll, Act.put, List.setIfInBounds_toArray, List.set_cons_zero, List.set_cons_succ]) (hCont (v128) _ ⟨(by (with_reducible repeat (first | apply Kd.R_alloc | apply Kd.R_drewN | apply Kd.R_drew)); exact Kd.R_mono HO126.out (fun _ hk => hk.2)), (by (with_reducible repeat (first | apply Kd.R_alloc | apply Kd.R_drewN | apply Kd.R_drew)); exact Kd.R_mono HO129.out (fun _ hk => hk.2)), (belN HB.out)⟩)
   rintro v128 w16 ⟨h0_, h1_, h2_⟩
   have n0_ : Aside0 (Kd.R (Kd.int .u8) 5 w16 w.heap.size (fun k_ => some k_ ≠ (v128 : Value).ownBlock) v125 t124) := ⟨h0_⟩
   have n1_ : Aside0 (Kd.R (Kd.int .u8) 5 w16 w.heap.size (fun k_ => some k_ ≠ (v125 : Value).ownBlock) v128 t127) := ⟨h1_⟩
   have n2_ : Aside0 (Below w.heap.size w w16) := ⟨h2_⟩
   clear HB
   clear h0_ h1_ h2_
   have HO126 := n0_
   have HO129 := n1_
   have HB := n2_
   clear n0_ n1_ n2_
   have hHeld := trivial
   refine norm_ (a' := ?_) ?_ ?_
   rotate_left
   ·simp only [putAll, Act.put, List.setIfInBounds_toArray, List.set_cons_zero, List.set_cons_succ]
    rfl
   refine pA 19 (some 42) (bA 22 1048575) HT_.out ?_
   refine pA 20 (some 43) (bA 22 2097151) HT_.out ?_
   refine pA 21 (some 6) (bA 22 4194303) HT_.out ?_
   refine done_ (done_of HT_.out (by kernel_rfl)) ?_
   try go_wp2
   go_ret
   exact ⟨by first | rfl | (simp [errW_none, errW_some] <;> rfl) | (simp [*, errW_none, errW_some] <;> rfl), (belN HB.out)⟩
  ·rw [if_neg c7] at H
   have c7b0 : (t121 == t123) = false := by simpa using c7
   (try (have c7b1 : decide (t121 = t123) = false := by simpa using c7))
   (try (have c7b2 : (t121 == t123) = false := by simpa using c7))
   (try (have c7b3 : ¬ (t121 = t123) := by simpa using c7))
   clear c7
   obtain rfl := Option.some.inj H
   go_enter Try.func10, Try.ntmps10
   try go_wp2_with (first | ((with_reducible refine gate_callee (f := 18) rfl ?_); refine goesL_ (some 14) rfl rfl Try.func18 (by kernel_rfl) rfl #[.slice A0 l0.length c0, .int .i64 a2] rfl argN ?_; (with_reducible refine (octet_Get.calls _ _ l0 a2 t120 t121 _ ?side1 ?side2 A4.out).mono ?_); (case side1 => repeat (first | exact HR0.out | (with_reducible refine Kd.C_alloc ?_ _) | (with_reducible refine Kd.C_drewN ?_ _) | (with_reducible refine Kd.C_drew ?_))); (case side2 => exact HC0.out); rintro e w' ⟨rfl, ⟨nd, rfl⟩⟩; refine ⟨_, rfl, ?_⟩) | ((with_reducible refine gate_callee (f := 19) rfl ?_); refine goesL_ (some 20) rfl rfl Try.func19 (by kernel_rfl) rfl #[.slice A0 l0.length c0, .int .i64 a2] rfl argN ?_; (with_reducible refine (marigraphref2_Get.calls k _ _ l0 a2 t122 t123 _ ?side1 ?side2 A5.out).mono ?_); (case side1 => repeat (first | exact HR0.out | (with_reducible refine Kd.C_alloc ?_ _) | (with_reducible refine Kd.C_drewN ?_ _) | (with_reducible refine Kd.C_drew ?_))); (case side2 => exact HC0.out); rintro e w' ⟨rfl, ⟨nd, rfl⟩⟩; refine ⟨_, rfl, ?_⟩))
   (try simp only [World.drewN_drewN])
   generalize hq_ : World.drewN w _ = w17
   have n0_ : Aside0 (Below w.heap.size w w17) := ⟨by rw [← hq_]; exact pw_below_drewN HB.out _⟩
   clear HB hq_
   have HB := n0_
   clear n0_
   have n0_ := Aside0.mk (below_drew1 HB.out)
   clear HB
   have HB := n0_
   clear n0_
   refine start_ (n := 22) (S := fun w' => True) (ds := []) #[false, false, false, false, false, false, false, false, false, false, false, false, false, false, false, false, false, false, false, false, false, false] (by kernel_rfl) rfl rfl trivial (fun hHeld => ?_); refine with_tabW marigraphlaw2_lays.tab3 marigraphlaw2_lays.bits3 (fun HT_ HW_ => ?_)
   generalize w17.drew = w18 at HB hHeld ⊢
   refine pA 0 (some 23) (bA 22 1) HT_.out ?_
   refine pA 1 (some 24) (bA 22 3) HT_.out ?_
   refine pA 2 (some 25) (bA 22 7) HT_.out ?_
   refine pA 3 (some 26) (bA 22 15) HT_.out ?_
   refine pA 4 (some 27) (bA 22 31) HT_.out ?_
   refine pA 5 (some 28) (bA 22 63) HT_.out ?_
   refine pA 6 (some 29) (bA 22 127) HT_.out ?_
   refine pA 7 (some 30) (bA 22 255) HT_.out ?_
   refine pA 8 (some 31) (bA 22 511) HT_.out ?_
   refine pU 9 (some 32) (bA 22 1023) HT_.out ?_
   refine pU 10 (some 33) (bA 22 2047) HT_.out ?_
   refine pU 11 (some 34) (bA 22 4095) HT_.out ?_
   refine pU 12 (some 35) (bA 22 8191) HT_.out ?_
   refine pU 13 (some 36) (bA 22 16383) HT_.out ?_
   refine pU 14 (some 37) (bA 22 32767) HT_.out ?_
   refine pU 15 (some 38) (bA 22 65535) HT_.out ?_
   refine pU 16 (some 39) (bA 22 131071) HT_.out ?_
   refine pU 17 (some 40) (bA 22 262143) HT_.out ?_
   refine pU 18 (some 41) (bA 22 524287) HT_.out ?_
   refine pU 19 (some 42) (bA 22 1048575) HT_.out ?_
   refine pA 20 (some 43) (bA 22 2097151) HT_.out ?_
   refine pA 21 (some 6) (bA 22 4194303) HT_.out ?_
   refine done_ (done_of HT_.out (by kernel_rfl)) ?_
   try go_wp2
   go_ret
   exact ⟨by first | rfl | (simp [errW_none, errW_some] <;> rfl) | (simp [*, errW_none, errW_some] <;> rfl), (belN HB.out)⟩
 ·rw [if_neg c6] at H
  have c6b0 : (t120 == t122) = false := beq_eq_false_iff_ne.mpr c6
  have c6b1 : (t120 != t122) = true := bne_iff_ne.mpr c6
  obtain rfl := Option.some.inj H
  go_enter Try.func10, Try.ntmps10
  try go_wp2_with (first | ((with_reducible refine gate_callee (f := 18) rfl ?_); refine goesL_ (some 14) rfl rfl Try.func18 (by kernel_rfl) rfl #[.slice A0 l0.length c0, .int .i64 a2] rfl argN ?_; (with_reducible refine (octet_Get.calls _ _ l0 a2 t120 t121 _ ?side1 ?side2 A4.out).mono ?_); (case side1 => repeat (first | exact HR0.out | (with_reducible refine Kd.C_alloc ?_ _) | (with_reducible refine Kd.C_drewN ?_ _) | (with_reducible refine Kd.C_drew ?_))); (case side2 => exact HC0.out); rintro e w' ⟨rfl, ⟨nd, rfl⟩⟩; refine ⟨_, rfl, ?_⟩) | ((with_reducible refine gate_callee (f := 19) rfl ?_); refine goesL_ (some 20) rfl rfl Try.func19 (by kernel_rfl) rfl #[.slice A0 l0.length c0, .int .i64 a2] rfl argN ?_; (with_reducible refine (marigraphref2_Get.calls k _ _ l0 a2 t122 t123 _ ?side1 ?side2 A5.out).mono ?_); (case side1 => repeat (first | exact HR0.out | (with_reducible refine Kd.C_alloc ?_ _) | (with_reducible refine Kd.C_drewN ?_ _) | (with_reducible refine Kd.C_drew ?_))); (case side2 => exact HC0.out); rintro e w' ⟨rfl, ⟨nd, rfl⟩⟩; refine ⟨_, rfl, ?_⟩))
  (try simp only [World.drewN_drewN])
  generalize hq_ : World.drewN w _ = w19
  have n0_ : Aside0 (Below w.heap.size w w19) := ⟨by rw [← hq_]; exact pw_below_drewN HB.out _⟩
  clear HB hq_
  have HB := n0_
  clear n0_
  have n0_ := Aside0.mk (below_drew1 HB.out)
  clear HB
  have HB := n0_
  clear n0_
  refine start_ (n := 22) (S := fun w' => True) (ds := []) #[false, false, false, false, false, false, false, false, false, false, false, false, false, false, false, false, false, false, false, false, false, false] (by kernel_rfl) rfl rfl trivial (fun hHeld => ?_); refine with_tabW marigraphlaw2_lays.tab3 marigraphlaw2_lays.bits3 (fun HT_ HW_ => ?_)
  generalize w19.drew = w20 at HB hHeld ⊢
  refine pA 0 (some 23) (bA 22 1) HT_.out ?_
  refine pA 1 (some 24) (bA 22 3) HT_.out ?_
  refine pA 2 (some 25) (bA 22 7) HT_.out ?_
  refine pA 3 (some 26) (bA 22 15) HT_.out ?_
  refine pU 4 (some 27) (bA 22 31) HT_.out ?_
  refine pU 5 (some 28) (bA 22 63) HT_.out ?_
  refine pU 6 (some 29) (bA 22 127) HT_.out ?_
  refine pA 7 (some 30) (bA 22 255) HT_.out ?_
  refine pA 8 (some 31) (bA 22 511) HT_.out ?_
  refine pU 9 (some 32) (bA 22 1023) HT_.out ?_
  refine pU 10 (some 33) (bA 22 2047) HT_.out ?_
  refine pU 11 (some 34) (bA 22 4095) HT_.out ?_
  refine pU 12 (some 35) (bA 22 8191) HT_.out ?_
  refine pU 13 (some 36) (bA 22 16383) HT_.out ?_
  refine pU 14 (some 37) (bA 22 32767) HT_.out ?_
  refine pU 15 (some 38) (bA 22 65535) HT_.out ?_
  refine pU 16 (some 39) (bA 22 131071) HT_.out ?_
  refine pU 17 (some 40) (bA 22 262143) HT_.out ?_
  refine pU 18 (some 41) (bA 22 524287) HT_.out ?_
  refine pU 19 (some 42) (bA 22 1048575) HT_.out ?_
  refine pA 20 (some 43) (bA 22 2097151) HT_.out ?_
  refine pA 21 (some 6) (bA 22 4194303) HT_.out ?_
  refine done_ (done_of HT_.out (by kernel_rfl)) ?_
  try go_wp2
  go_ret
  exact ⟨by first | rfl | (simp [errW_none, errW_some] <;> rfl) | (simp [*, errW_none, errW_some] <;> rfl), (belN HB.out)⟩

/-! ### octet_Next: function 22 -/
def octet_Next.l0 : Nat → List Int → Int → Option (List Int × Bool)
 | 0, _, _ => none
 | k + 1, x0, x4 => if x4 > 0 then (if 0 ≤ (wrap64 (x4 - 1)) then (if (wrap64 (x4 - 1)) < (x0.length : Int) then (if (rd x0 (wrap64 (x4 - 1))) = 255 then (octet_Next.l0 k x0 (wrap64 (x4 - 1))) else (if x4 = 0 then (some (([] : List Int), false)) else (if 0 ≤ x4 then (if x4 ≤ (x0.length : Int) then ((slices_Clone_byte_byte.f (x0.take (x4 : Int).toNat)).bind fun t132 => (if (wrap64 (x4 - 1)) < (t132.length : Int) then (some ((t132.set ((wrap64 (x4 - 1)) : Int).toNat (((rd t132 (wrap64 (x4 - 1))) + 1) % 256)), true)) else (none))) else (none)) else (none)))) else (none)) else (none)) else (if x4 = 0 then (some (([] : List Int), false)) else (if 0 ≤ x4 then (if x4 ≤ (x0.length : Int) then ((slices_Clone_byte_byte.f (x0.take (x4 : Int).toNat)).bind fun t138 => (if 0 ≤ (wrap64 (x4 - 1)) then (if (wrap64 (x4 - 1)) < (t138.length : Int) then (some ((t138.set ((wrap64 (x4 - 1)) : Int).toNat (((rd t138 (wrap64 (x4 - 1))) + 1) % 256)), true)) else (none)) else (none))) else (none)) else (none)))
def octet_Next.f (k : Nat) (l0 : List Int) : Option (List Int × Bool) := octet_Next.l0 k l0 (l0.length : Int)
theorem octet_Next.mono_l : ∀ k, (∀ y0 y1, LeO (octet_Next.l0 k y0 y1) (octet_Next.l0 (k + 1) y0 y1))
 | 0 => fun _ _ r h => by simp [octet_Next.l0] at h
 | k + 1 => by
  have ih0 := octet_Next.mono_l k
  ·intro y0 y1
   unfold octet_Next.l0
   repeat' first
   | (with_reducible exact ih0 _ _)
   | (with_reducible exact LeO.refl _)
   | (with_reducible exact LeO.none _)
   | (with_reducible refine LeO.ite ?_ ?_)
   | (with_reducible refine LeO.bind ?_ (fun _ => ?_))
   | exact ih0 _ _
   | exact LeO.none _
   | refine LeO.ite ?_ ?_
   | refine LeO.bind ?_ (fun _ => ?_)
theorem octet_Next.mono : ∀ a0 k, LeO (octet_Next.f k a0) (octet_Next.f (k + 1) a0) := by
 intro a0 k
 have ih0 := octet_Next.mono_l k
 unfold octet_Next.f
 repeat' first
   | (with_reducible exact ih0 _ _)
   | (with_reducible exact LeO.refl _)
   | (with_reducible exact LeO.none _)
   | (with_reducible refine LeO.ite ?_ ?_)
   | (with_reducible refine LeO.bind ?_ (fun _ => ?_))
   | exact ih0 _ _
   | exact LeO.none _
   | refine LeO.ite ?_ ?_
   | refine LeO.bind ?_ (fun _ => ?_)
set_option maxHeartbeats 8000000 in
set_option maxRecDepth 100000 in
theorem octet_Next.calls (k : Nat) (A0 : Option Addr) (c0 : Nat) (l0 : List Int) (r1 : List Int) (r2 : Bool) (w : World) (hr0 : Kd.C (Kd.int .u8) w A0 l0.length l0) (hc0 : l0.length ≤ c0) (h : octet_Next.f k l0 = some (r1, r2)) :
  Calls Try.prog 22 #[.slice A0 l0.length c0] w fun e w' => ∃ v0_ : Value, e = .returned (.tuple #[v0_, .bool r2]) ∧ Kd.R (Kd.int .u8) 5 w' w.heap.size (fun _ => True) v0_ r1 ∧ Below w.heap.size w w' := by
 have HR0 := Aside0.mk hr0
 have HC0 := Aside0.mk hc0
 clear hr0 hc0
 have HB := Aside0.mk (Below.refl w.heap.size w)
 have H : (octet_Next.l0 k l0 (l0.length : Int)) = some (r1, r2) := h
 clear h
 have H' := Aside0.mk H
 clear H
 go_enter Try.func22, Try.ntmps22
 go_wp2
 go_loopg [4] k (fun kq v4 w' => ∃ (x4_1 : Int), v4 = .int .i64 x4_1 ∧ Aside0 (octet_Next.l0 kq l0 x4_1 = some (r1, r2)) ∧ Aside0 (kq ≤ k) ∧ Aside0 (Below w.heap.size w w'))
 case atStart => exact ⟨((l0.length : Int)), (by first | rfl | (simp; done) | (simp [*]; done)), H', ⟨Nat.le_refl _⟩, ⟨(belN HB.out)⟩⟩
 case round =>
  clear H'
  obtain ⟨x4_1, rfl, HA, HK1, HB⟩ := hrel
  cases gk with
  | zero => exact absurd HA.out (by simp [octet_Next.l0])
  | succ k1 =>
   have H := HA.out
   clear HA
   simp only [octet_Next.l0] at H
   by_cases c2 : x4_1 > 0
   ·rw [if_pos c2] at H
    have c2b0 : decide (0 < x4_1) = true := decide_eq_true c2
    clear c2
    obtain ⟨ji3, hji3⟩ : ∃ j_ : Int, (wrap64 (x4_1 - 1)) = j_ := ⟨_, rfl⟩
    replace H : (if 0 ≤ (ji3) then (if (ji3) < (l0.length : Int) then (if (rd l0 (ji3)) = 255 then (octet_Next.l0 k1 l0 ji3) else (if x4_1 = 0 then (some (([] : List Int), false)) else (if 0 ≤ x4_1 then (if x4_1 ≤ (l0.length : Int) then ((slices_Clone_byte_byte.f (l0.take (x4_1 : Int).toNat)).bind fun t132 => (if (ji3) < (t132.length : Int) then (some ((t132.set ((ji3) : Int).toNat (((rd t132 (ji3)) + 1) % 256)), true)) else (none))) else (none)) else (none)))) else (none)) else (none)) = some (r1, r2) := by first | (rw [hji3] at H; exact H) | (simp only [hji3] at H ⊢; exact H)
    have hji3w : (IntKind.i64.wrap (x4_1 - 1)) = ji3 := (i64_w _).trans hji3
    by_cases c4 : 0 ≤ (ji3)
    ·rw [if_pos c4] at H
     have c4b0 : decide (0 ≤ (ji3)) = true := decide_eq_true c4
     clear c4
     by_cases c5 : (ji3) < (l0.length : Int)
     ·rw [if_pos c5] at H
      have c5b0 : decide ((ji3) < (l0.length : Int)) = true := decide_eq_true c5
      clear c5
      by_cases c6 : (rd l0 (ji3)) = 255
      ·rw [if_pos c6] at H
       have c6b0 : ((rd l0 (ji3)) == 255) = true := beq_iff_eq.mpr c6
       have c6b1 : ((rd l0 (ji3)) != 255) = false := bne_eq_false_iff_eq.mpr c6
       clear c6
       have H' := Aside0.mk H
       clear H
       have p130 : 0 ≤ ((ji3) : Int) := of_decide_eq_true (by first | (with_reducible assumption) | assumption)
       have q130 : (ji3) < (l0.length : Int) := of_decide_eq_true (by first | (with_reducible assumption) | assumption)
       obtain ⟨ad130, e130, hx130_0⟩ := Kd.at_int HR0.out (ji3) p130 q130
       cases e130
       (try replace hx130_0 := cellB HB.out hx130_0)
       replace p130 := eq_true p130
       replace q130 := eq_true q130
       go_wp2
       go_roundg k1
       case measure => have := HK1.out; omega
       case rel => exact ⟨(ji3), (by first | rfl | (simp; done) | (simp only [← hji3] <;> (first | rfl | simp)) | (simp [*]; done)), H', ⟨by have := HK1.out; omega⟩, ⟨(belN HB.out)⟩⟩
      ·rw [if_neg c6] at H
       have c6b0 : ((rd l0 (ji3)) == 255) = false := beq_eq_false_iff_ne.mpr c6
       have c6b1 : ((rd l0 (ji3)) != 255) = true := bne_iff_ne.mpr c6
       by_cases c7 : x4_1 = 0
       ·rw [if_pos c7] at H
        have c7b0 : (x4_1 == 0) = true := beq_iff_eq.mpr c7
        have c7b1 : (x4_1 != 0) = false := bne_eq_false_iff_eq.mpr c7
        clear c7
        simp only [Option.some.injEq, Prod.mk.injEq] at H
        obtain ⟨rfl, rfl⟩ := H
        have p130 : 0 ≤ ((ji3) : Int) := of_decide_eq_true (by first | (with_reducible assumption) | assumption)
        have q130 : (ji3) < (l0.length : Int) := of_decide_eq_true (by first | (with_reducible assumption) | assumption)
        obtain ⟨ad130, e130, hx130_0⟩ := Kd.at_int HR0.out (ji3) p130 q130
        cases e130
        (try replace hx130_0 := cellB HB.out hx130_0)
        replace p130 := eq_true p130
        replace q130 := eq_true q130
        go_wp2
        go_ret2
        exact ⟨_, by first | rfl | (simp [errW_none, errW_some] <;> rfl) | (simp only [← hji3]; first | rfl | (simp [errW_none, errW_some] <;> rfl)) | (simp [*, errW_none, errW_some] <;> rfl), by first | exact Kd.R_nil _ _ _ _ _ | exact Kd.N_nil _ _ _ _ _ | exact Kd.V_nil _ _ _ _ _ | exact Kd.Q_nil _ _ _ _ _ | exact Kd.S_nil _ _ _ _ _, (belN HB.out)⟩
       ·rw [if_neg c7] at H
        have c7b0 : (x4_1 == 0) = false := beq_eq_false_iff_ne.mpr c7
        have c7b1 : (x4_1 != 0) = true := bne_iff_ne.mpr c7
        by_cases c8 : 0 ≤ x4_1
        ·rw [if_pos c8] at H
         have c8b0 := eq_true c8
         have c8b1 : decide (0 ≤ x4_1) = true := decide_eq_true c8
         clear c8
         by_cases c9 : x4_1 ≤ (l0.length : Int)
         ·rw [if_pos c9] at H
          have c9b0 := eq_true c9
          have c9b1 : decide (x4_1 ≤ (l0.length : Int)) = true := decide_eq_true c9
          clear c9
          replace H := Option.bind_eq_some_iff.mp H
          obtain ⟨t132, A100, H⟩ := H
          replace H : (if (ji3) < (t132.length : Int) then (some ((t132.set ((ji3) : Int).toNat (((rd t132 (ji3)) + 1) % 256)), true)) else (none)) = some (r1, r2) := H
          have A10 := Aside0.mk A100
          clear A100
          by_cases c11 : (ji3) < (t132.length : Int)
          ·rw [if_pos c11] at H
           have c11b0 : decide ((ji3) < (t132.length : Int)) = true := decide_eq_true c11
           clear c11
           obtain ⟨y136, hy136⟩ : ∃ y_ : List Int, y_ = (t132.set ((ji3) : Int).toNat (((rd t132 (ji3)) + 1) % 256)) := ⟨_, rfl⟩
           replace H : (some (y136, true)) = some (r1, r2) := by first | (rw [hy136]; with_reducible exact H) | (have H2_ := (Option.bind_some _ _).symm.trans H; rw [hy136]; with_reducible exact H2_) | (have H2_ := (Option.bind_some _ _).symm.trans H; with_reducible exact H2_) | with_reducible exact H | (rw [hy136]; exact H) | exact H
           have Ny136 := Aside0.mk hy136
           clear hy136
           simp only [Option.some.injEq, Prod.mk.injEq] at H
           obtain ⟨rfl, rfl⟩ := H
           have p130 : 0 ≤ ((ji3) : Int) := of_decide_eq_true (by first | (with_reducible assumption) | assumption)
           have q130 : (ji3) < (l0.length : Int) := of_decide_eq_true (by first | (with_reducible assumption) | assumption)
           obtain ⟨ad130, e130, hx130_0⟩ := Kd.at_int HR0.out (ji3) p130 q130
           cases e130
           (try replace hx130_0 := cellB HB.out hx130_0)
           replace p130 := eq_true p130
           replace q130 := eq_true q130
           obtain ⟨i013, hi013, _, hsz13, _⟩ := info_parts info5
           obtain ⟨hcut13, hA13, hC13⟩ := print_take_of (P := Try.prog) (Value.int .u8) 0 30 5 .i64 Try.underlying30 hi013 hsz13 (some ad130) c0 l0 x4_1 (of_decide_eq_true (by first | (with_reducible assumption) | assumption)) (of_decide_eq_true (by first | (with_reducible assumption) | assumption)) HC0.out
           have HR131 := Aside0.mk (Kd.C_of_reads (h1 := fun _ => rfl) (hA13 _ (Kd.reads_of_C HR0.out)))
           have HC131 := Aside0.mk hC13
           clear hA13 hC13 hi013 hsz13
           go_wp2_with (first | ((with_reducible refine gate_callee (f := 34) rfl ?_); refine goesL_ (some 25) rfl rfl Try.func34 (by kernel_rfl) rfl #[.slice (some ad130) (l0.take (x4_1 : Int).toNat).length c0] rfl (by (try simp only [List.map_toArray, List.map_cons, List.map_nil]); first | done | (rw [show (l0.take (x4_1 : Int).toNat).length = x4_1.toNat from (by rw [List.length_take]; have h_ : (x4_1 : Int) ≤ (l0.length : Int) := of_decide_eq_true (by first | (with_reducible assumption) | assumption); omega)] <;> rfl) | rfl | (simp only [List.length_drop, List.length_take]; rfl)) ?_; (with_reducible refine (slices_Clone_byte_byte.calls _ _ (l0.take (x4_1 : Int).toNat) t132 _ ?side1 ?side2 A10.out).mono ?_); (case side1 => repeat (first | exact (Kd.C_below HR131.out HB.out) | (with_reducible refine Kd.C_alloc ?_ _) | (with_reducible refine Kd.C_drewN ?_ _) | (with_reducible refine Kd.C_drew ?_))); (case side2 => exact HC131.out); rintro e w14 ⟨v133, rfl, ho0, hb⟩; refine ⟨_, rfl, ?_⟩; have n0_ := Aside0.mk (Kd.R_lower ho0 (below_size (belN HB.out))); have n1_ := Aside0.mk (below_step (belN HB.out) hb); clear HB; have HO134 := n0_; have HB := n1_; clear n0_ n1_; (try clear hb); (try clear ho0); obtain ⟨Ao15, co15, eo15⟩ := Kd.R_slice HO134.out; subst eo15; have p135 : 0 ≤ ((ji3) : Int) := of_decide_eq_true (by first | (with_reducible assumption) | assumption); have q135 : (ji3) < (t132.length : Int) := of_decide_eq_true (by first | (with_reducible assumption) | assumption); obtain ⟨ad135, e135, hx135_0⟩ := Kd.at_int (Kd.R_reads' HO134.out).2.2 (ji3) p135 q135; cases e135; replace p135 := eq_true p135; replace q135 := eq_true q135; have p12 : 0 ≤ ((ji3) : Int) := of_decide_eq_true (by first | (with_reducible assumption) | assumption); have q12 : ((ji3) : Int) < ((t132.length : Int) : Int) := of_decide_eq_true (by first | (with_reducible assumption) | assumption); obtain ⟨go12, co12, eo12, gb12, gl12, cl12, HG12⟩ := Kd.R_form HO134.out (by omega); (first | cases eo12 | (injection eo12 with ea_ en_ ec_; (first | subst ea_ | (injection ea_ with ea_; subst ea_)); subst ec_; clear en_)); have GB12 := Aside0.mk gb12; have GG12 := Aside0.mk HG12; clear gb12 gl12 HG12; (first | simp only [add_plain] at hx135_0 | skip); obtain ⟨hx12_0, hf12_0⟩ := Kd.R_celln 0 HO134.out ((ji3) : Int) p12 q12; replace p12 := eq_true p12; replace q12 := eq_true q12; obtain ⟨hy16_, hz16_⟩ := Kd.R_celln 0 HO134.out ((ji3) : Int) (of_decide_eq_true (by first | (with_reducible assumption) | assumption)) (of_decide_eq_true (by first | (with_reducible assumption) | assumption)); have HP16 := Kd.R_putg HO134.out ((ji3) : Int) (((rd t132 (ji3)) + 1) % 256)) | ((with_reducible refine gate_store (t := 5) (p := 32) rfl ?_); refine store_event (t := 5) (p := 32) (v := ?vo_w17) (w1 := (w14.setCell ⟨go12, ((ji3) : Int).toNat, none⟩ (.int .u8 (((rd t132 (ji3)) + 1) % 256)))) ?hg ?ho ?hn ?hr ?_; (case ho => rfl); (case hg => rfl); (case hn => rfl); (case hr => first | (go_simp; done) | (go_simp; rfl)); intro w17 hw; have hg : w14.grownBy w17 (some go12) := (by rw [hw]; exact HP16.2); have hp_ : Kd.R (Kd.int .u8) 5 w17 w.heap.size (fun _ => True) (.slice (some ⟨go12, 0, none⟩) t132.length co15) y136 := (by rw [hw, Ny136.out]; exact HP16.1); clear HP16; have n0_ := Aside0.mk (hp_); have n1_ := Aside0.mk ((by rw [hw]; exact below_set (HB.out) GB12.out : Below w.heap.size w w17)); clear HO134; clear HB; have HO134 := n0_; have HB := n1_; clear n0_ n1_; clear hg hw hp_))
           go_ret2
           exact ⟨_, by first | rfl | (simp [errW_none, errW_some] <;> rfl) | (simp only [← hji3]; first | rfl | (simp [errW_none, errW_some] <;> rfl)) | (simp [*, errW_none, errW_some] <;> rfl), (rowN HO134.out), (belN HB.out)⟩
          ·rw [if_neg c11] at H
           exact absurd H (by simp)
         ·rw [if_neg c9] at H
          exact absurd H (by simp)
        ·rw [if_neg c8] at H
         exact absurd H (by simp)
     ·rw [if_neg c5] at H
      exact absurd H (by simp)
    ·rw [if_neg c4] at H
     exact absurd H (by simp)
   ·rw [if_neg c2] at H
    have c2b0 : decide (0 < x4_1) = false := decide_eq_false c2
    clear c2
    by_cases c18 : x4_1 = 0
    ·rw [if_pos c18] at H
     have c18b0 : (x4_1 == 0) = true := beq_iff_eq.mpr c18
     have c18b1 : (x4_1 != 0) = false := bne_eq_false_iff_eq.mpr c18
     clear c18
     simp only [Option.some.injEq, Prod.mk.injEq] at H
     obtain ⟨rfl, rfl⟩ := H
     go_wp2
     go_ret2
     exact ⟨_, by first | rfl | (simp [errW_none, errW_some] <;> rfl) | (simp [*, errW_none, errW_some] <;> rfl), by first | exact Kd.R_nil _ _ _ _ _ | exact Kd.N_nil _ _ _ _ _ | exact Kd.V_nil _ _ _ _ _ | exact Kd.Q_nil _ _ _ _ _ | exact Kd.S_nil _ _ _ _ _, (belN HB.out)⟩
    ·rw [if_neg c18] at H
     have c18b0 : (x4_1 == 0) = false := beq_eq_false_iff_ne.mpr c18
     have c18b1 : (x4_1 != 0) = true := bne_iff_ne.mpr c18
     by_cases c19 : 0 ≤ x4_1
     ·rw [if_pos c19] at H
      have c19b0 := eq_true c19
      have c19b1 : decide (0 ≤ x4_1) = true := decide_eq_true c19
      clear c19
      by_cases c20 : x4_1 ≤ (l0.length : Int)
      ·rw [if_pos c20] at H
       have c20b0 := eq_true c20
       have c20b1 : decide (x4_1 ≤ (l0.length : Int)) = true := decide_eq_true c20
       clear c20
       replace H := Option.bind_eq_some_iff.mp H
       obtain ⟨t138, A210, H⟩ := H
       replace H : (if 0 ≤ (wrap64 (x4_1 - 1)) then (if (wrap64 (x4_1 - 1)) < (t138.length : Int) then (some ((t138.set ((wrap64 (x4_1 - 1)) : Int).toNat (((rd t138 (wrap64 (x4_1 - 1))) + 1) % 256)), true)) else (none)) else (none)) = some (r1, r2) := H
       have A21 := Aside0.mk A210
       clear A210
       obtain ⟨ji22, hji22⟩ : ∃ j_ : Int, (wrap64 (x4_1 - 1)) = j_ := ⟨_, rfl⟩
       replace H : (if 0 ≤ (ji22) then (if (ji22) < (t138.length : Int) then (some ((t138.set ((ji22) : Int).toNat (((rd t138 (ji22)) + 1) % 256)), true)) else (none)) else (none)) = some (r1, r2) := by first | (rw [hji22] at H; exact H) | (simp only [hji22] at H ⊢; exact H)
       (try rw [hji22] at A21)
       have hji22w : (IntKind.i64.wrap (x4_1 - 1)) = ji22 := (i64_w _).trans hji22
       by_cases c23 : 0 ≤ (ji22)
       ·rw [if_pos c23] at H
        have c23b0 : decide (0 ≤ (ji22)) = true := decide_eq_true c23
        clear c23
        by_cases c24 : (ji22) < (t138.length : Int)
        ·rw [if_pos c24] at H
         have c24b0 : decide ((ji22) < (t138.length : Int)) = true := decide_eq_true c24
         clear c24
         obtain ⟨y142, hy142⟩ : ∃ y_ : List Int, y_ = (t138.set ((ji22) : Int).toNat (((rd t138 (ji22)) + 1) % 256)) := ⟨_, rfl⟩
         replace H : (some (y142, true)) = some (r1, r2) := by first | (rw [hy142]; with_reducible exact H) | (have H2_ := (Option.bind_some _ _).symm.trans H; rw [hy142]; with_reducible exact H2_) | (have H2_ := (Option.bind_some _ _).symm.trans H; with_reducible exact H2_) | with_reducible exact H | (rw [hy142]; exact H) | exact H
         have Ny142 := Aside0.mk hy142
         clear hy142
         simp only [Option.some.injEq, Prod.mk.injEq] at H
         obtain ⟨rfl, rfl⟩ := H
         obtain ⟨i026, hi026, _, hsz26, _⟩ := info_parts info5
         obtain ⟨hcut26, hA26, hC26⟩ := print_take_of (P := Try.prog) (Value.int .u8) 0 30 5 .i64 Try.underlying30 hi026 hsz26 A0 c0 l0 x4_1 (of_decide_eq_true (by first | (with_reducible assumption) | assumption)) (of_decide_eq_true (by first | (with_reducible assumption) | assumption)) HC0.out
         have HR137 := Aside0.mk (Kd.C_of_reads (h1 := fun _ => rfl) (hA26 _ (Kd.reads_of_C HR0.out)))
         have HC137 := Aside0.mk hC26
         clear hA26 hC26 hi026 hsz26
         go_wp2_with (first | ((with_reducible refine gate_callee (f := 34) rfl ?_); refine goesL_ (some 25) rfl rfl Try.func34 (by kernel_rfl) rfl #[.slice A0 (l0.take (x4_1 : Int).toNat).length c0] rfl (by (try simp only [List.map_toArray, List.map_cons, List.map_nil]); first | done | (rw [show (l0.take (x4_1 : Int).toNat).length = x4_1.toNat from (by rw [List.length_take]; have h_ : (x4_1 : Int) ≤ (l0.length : Int) := of_decide_eq_true (by first | (with_reducible assumption) | assumption); omega)] <;> rfl) | rfl | (simp only [List.length_drop, List.length_take]; rfl)) ?_; (with_reducible refine (slices_Clone_byte_byte.calls _ _ (l0.take (x4_1 : Int).toNat) t138 _ ?side1 ?side2 A21.out).mono ?_); (case side1 => repeat (first | exact (Kd.C_below HR137.out HB.out) | (with_reducible refine Kd.C_alloc ?_ _) | (with_reducible refine Kd.C_drewN ?_ _) | (with_reducible refine Kd.C_drew ?_))); (case side2 => exact HC137.out); rintro e w27 ⟨v139, rfl, ho0, hb⟩; refine ⟨_, rfl, ?_⟩; have n0_ := Aside0.mk (Kd.R_lower ho0 (below_size (belN HB.out))); have n1_ := Aside0.mk (below_step (belN HB.out) hb); clear HB; have HO140 := n0_; have HB := n1_; clear n0_ n1_; (try clear hb); (try clear ho0); obtain ⟨Ao28, co28, eo28⟩ := Kd.R_slice HO140.out; subst eo28; have p141 : 0 ≤ ((ji22) : Int) := of_decide_eq_true (by first | (with_reducible assumption) | assumption); have q141 : (ji22) < (t138.length : Int) := of_decide_eq_true (by first | (with_reducible assumption) | assumption); obtain ⟨ad141, e141, hx141_0⟩ := Kd.at_int (Kd.R_reads' HO140.out).2.2 (ji22) p141 q141; cases e141; replace p141 := eq_true p141; replace q141 := eq_true q141; have p25 : 0 ≤ ((ji22) : Int) := of_decide_eq_true (by first | (with_reducible assumption) | assumption); have q25 : ((ji22) : Int) < ((t138.length : Int) : Int) := of_decide_eq_true (by first | (with_reducible assumption) | assumption); obtain ⟨go25, co25, eo25, gb25, gl25, cl25, HG25⟩ := Kd.R_form HO140.out (by omega); (first | cases eo25 | (injection eo25 with ea_ en_ ec_; (first | subst ea_ | (injection ea_ with ea_; subst ea_)); subst ec_; clear en_)); have GB25 := Aside0.mk gb25; have GG25 := Aside0.mk HG25; clear gb25 gl25 HG25; (first | simp only [add_plain] at hx141_0 | skip); obtain ⟨hx25_0, hf25_0⟩ := Kd.R_celln 0 HO140.out ((ji22) : Int) p25 q25; replace p25 := eq_true p25; replace q25 := eq_true q25; obtain ⟨hy29_, hz29_⟩ := Kd.R_celln 0 HO140.out ((ji22) : Int) (of_decide_eq_true (by first | (with_reducible assumption) | assumption)) (of_decide_eq_true (by first | (with_reducible assumption) | assumption)); have HP29 := Kd.R_putg HO140.out ((ji22) : Int) (((rd t138 (ji22)) + 1) % 256)) | ((with_reducible refine gate_store (t := 5) (p := 32) rfl ?_); refine store_event (t := 5) (p := 32) (v := ?vo_w30) (w1 := (w27.setCell ⟨go25, ((ji22) : Int).toNat, none⟩ (.int .u8 (((rd t138 (ji22)) + 1) % 256)))) ?hg ?ho ?hn ?hr ?_; (case ho => rfl); (case hg => rfl); (case hn => rfl); (case hr => first | (go_simp; done) | (go_simp; rfl)); intro w30 hw; have hg : w27.grownBy w30 (some go25) := (by rw [hw]; exact HP29.2); have hp_ : Kd.R (Kd.int .u8) 5 w30 w.heap.size (fun _ => True) (.slice (some ⟨go25, 0, none⟩) t138.length co28) y142 := (by rw [hw, Ny142.out]; exact HP29.1); clear HP29; have n0_ := Aside0.mk (hp_); have n1_ := Aside0.mk ((by rw [hw]; exact below_set (HB.out) GB25.out : Below w.heap.size w w30)); clear HO140; clear HB; have HO140 := n0_; have HB := n1_; clear n0_ n1_; clear hg hw hp_))
         go_ret2
         exact ⟨_, by first | rfl | (simp [errW_none, errW_some] <;> rfl) | (simp only [← hji22]; first | rfl | (simp [errW_none, errW_some] <;> rfl)) | (simp [*, errW_none, errW_some] <;> rfl), (rowN HO140.out), (belN HB.out)⟩
        ·rw [if_neg c24] at H
         exact absurd H (by simp)
       ·rw [if_neg c23] at H
        exact absurd H (by simp)
      ·rw [if_neg c20] at H
       exact absurd H (by simp)
     ·rw [if_neg c19] at H
      exact absurd H (by simp)

/-! ### a row's length, spelled otherwise -/
theorem C_cast {α : Type} {d : Kd α} {w : World} {A : Option Addr} {n m : Nat} {xs : List α} (e : m = n) (h : Kd.C d w A m xs) : Kd.C d w A n xs := e ▸ h

end Go.Proofs.Ytjlliaomgpgnpaa.POctetTells

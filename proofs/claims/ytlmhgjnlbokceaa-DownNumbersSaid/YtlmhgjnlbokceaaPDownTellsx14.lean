/- The walk of the Go functions that a law reaches, told as plain functions; a program of this session has written it. No condition beyond the statement's own. -/
import Derived.Test.YtlmhgjnlbokceaaPDownTellsx0
import Derived.Test.YtlmhgjnlbokceaaPDownTellsx3
import Derived.Test.YtlmhgjnlbokceaaPDownTellsx11
namespace Go.Proofs.Ytlmhgjnlbokceaa.PDownTells
open Go.RowKit Go.Proofs.YtlmhgjnlbokceaaW.PrintWords Go.Proofs.YtlmhgjnlbokceaaW.PrintLast Go.Proofs.YtlmhgjnlbokceaaW.PrintMore
attribute [local go_sem] max2_int min2_int max_two min_two max_three min_three max_four min_four   -- for this text's walks alone
set_option linter.unusedVariables false
set_option linter.unusedSimpArgs false

/-! ### marigraphref21_Right: function 20 -/
def marigraphref21_Right.l0 : Nat → List (S31) → Int → Option (Bool)
 | 0, _, _ => none
 | k + 1, x0, x3 => if x3 < (x0.length : Int) then (if 0 ≤ x3 then (if ((rd_T31 x0 x3).f0) < 0 then (some false) else (if ((rd_T31 x0 x3).f0) > 4294967295 then (some false) else ((marigraphref1_Right.f k ((rd_T31 x0 x3).f1.f0) ((rd_T31 x0 x3).f1.f1)).bind fun t305 => (if t305 = true then (if x3 > 0 then (if 0 ≤ (wrap64 (x3 - 1)) then (if (wrap64 (x3 - 1)) < (x0.length : Int) then (if ((rd_T31 x0 (wrap64 (x3 - 1))).f0) ≥ ((rd_T31 x0 x3).f0) then (some false) else (marigraphref21_Right.l0 k x0 (wrap64 (x3 + 1)))) else (none)) else (none)) else (marigraphref21_Right.l0 k x0 (wrap64 (x3 + 1)))) else (some false))))) else (none)) else (some true)
def marigraphref21_Right.f (k : Nat) (l0 : List (S31)) : Option (Bool) := marigraphref21_Right.l0 k l0 0
theorem marigraphref21_Right.mono_l : ∀ k, (∀ y0 y1, LeO (marigraphref21_Right.l0 k y0 y1) (marigraphref21_Right.l0 (k + 1) y0 y1))
 | 0 => fun _ _ r h => by simp [marigraphref21_Right.l0] at h
 | k + 1 => by
  have ih0 := marigraphref21_Right.mono_l k
  ·intro y0 y1
   unfold marigraphref21_Right.l0
   repeat' first
   | (with_reducible exact ih0 _ _)
   | (with_reducible exact marigraphref1_Right.mono _ _ _)
   | (with_reducible exact LeO.refl _)
   | (with_reducible exact LeO.none _)
   | (with_reducible refine LeO.ite ?_ ?_)
   | (with_reducible refine LeO.bind ?_ (fun _ => ?_))
   | exact ih0 _ _
   | exact marigraphref1_Right.mono _ _ _
   | exact LeO.none _
   | refine LeO.ite ?_ ?_
   | refine LeO.bind ?_ (fun _ => ?_)
theorem marigraphref21_Right.mono : ∀ a0 k, LeO (marigraphref21_Right.f k a0) (marigraphref21_Right.f (k + 1) a0) := by
 intro a0 k
 have ih0 := marigraphref21_Right.mono_l k
 unfold marigraphref21_Right.f
 repeat' first
   | (with_reducible exact ih0 _ _)
   | (with_reducible exact marigraphref1_Right.mono _ _ _)
   | (with_reducible exact LeO.refl _)
   | (with_reducible exact LeO.none _)
   | (with_reducible refine LeO.ite ?_ ?_)
   | (with_reducible refine LeO.bind ?_ (fun _ => ?_))
   | exact ih0 _ _
   | exact marigraphref1_Right.mono _ _ _
   | exact LeO.none _
   | refine LeO.ite ?_ ?_
   | refine LeO.bind ?_ (fun _ => ?_)
def marigraphref21_Right.T4 : Bool × List (List Nat × List Nat) := (true, [([], []), ([], []), ([0, 1], [0, 1]), ([2], [2]), ([3], [3]), ([4], [4]), ([5], [5]), ([6], [6]), ([6], [6]), ([7, 8, 6], [6, 7, 8]), ([9, 6], [6, 9]), ([10, 6], [6, 10]), ([11, 6], [6, 11]), ([6, 12], [6, 12]), ([13, 6], [13]), ([14], [14]), ([14], [14]), ([15, 16, 14], [14, 15, 16]), ([17, 14], [14, 17]), ([18, 14], [14, 18]), ([19, 14, 14], [14, 19]), ([20, 14], [14, 20]), ([14, 21], [14, 21]), ([22, 20], [22]), ([23], [23]), ([24, 23], [23, 24]), ([25, 23, 23], [23, 25]), ([26], [26]), ([26], [26]), ([28, 26], [26, 28]), ([27, 29, 26], [26, 27, 29]), ([30, 26], [26, 30]), ([31, 26], [26, 31]), ([26], [26]), ([26], [26]), ([33, 34, 26], [26, 33, 34]), ([35, 26], [26, 35]), ([36, 26], [26, 36]), ([32, 37, 26], [26, 32, 37]), ([26, 38, 23], [23, 26, 38]), ([23, 39], [23, 39])])
def marigraphref21_Right.B4 : List Nat := [0, 0, 3, 7, 15, 31, 63, 127, 127, 511, 1023, 2047, 4095, 8191, 16383, 32767, 32767, 131071, 262143, 524287, 1048575, 2097151, 4194303, 8388607, 16777215, 33554431, 67108863, 134217727, 134217727, 402653183, 1073741823, 2147483647, 4294967295, 134217727, 134217727, 25904021503, 60263759871, 128983236607, 274877906943, 549755813887, 1099511627775]
theorem marigraphref21_Right.tab4 : rtab .any (opsOf Try.f20 4) = marigraphref21_Right.T4 := by kernel_rfl
theorem marigraphref21_Right.bits4 : waitsOk marigraphref21_Right.T4.2 marigraphref21_Right.B4 = true := by kernel_rfl
set_option maxHeartbeats 8000000 in
set_option maxRecDepth 100000 in
theorem marigraphref21_Right.calls (k : Nat) (A0 : Option Addr) (c0 : Nat) (l0 : List (S31)) (r : Bool) (w : World) (hr0 : Kd.C k31 w A0 l0.length l0) (hc0 : l0.length ≤ c0) (h : marigraphref21_Right.f k l0 = some r) :
  Calls Try.prog 20 #[.slice A0 l0.length c0] w fun e w' => e = .returned (.bool r) ∧ Below w.heap.size w w' := by
 have hu29 := Try.underlying29
 have HR0 := Aside0.mk hr0
 have HC0 := Aside0.mk hc0
 clear hr0 hc0
 have HB := Aside0.mk (Below.refl w.heap.size w)
 have H : (marigraphref21_Right.l0 k l0 0) = some r := h
 clear h
 have H' := Aside0.mk H
 clear H
 go_enter Try.func20, Try.ntmps20
 go_wp2
 go_loopg [3] k (fun kq v3 w' => ∃ (x3_1 : Int), v3 = .int .i64 x3_1 ∧ Aside0 (marigraphref21_Right.l0 kq l0 x3_1 = some r) ∧ Aside0 (kq ≤ k) ∧ Aside0 (Below w.heap.size w w'))
 case atStart => exact ⟨(0), (by first | rfl | (simp; done) | (simp [*]; done)), H', ⟨Nat.le_refl _⟩, ⟨(belN HB.out)⟩⟩
 case round =>
  clear H'
  obtain ⟨x3_1, rfl, HA, HK1, HB⟩ := hrel
  cases gk with
  | zero => exact absurd HA.out (by simp [marigraphref21_Right.l0])
  | succ k1 =>
   have H := HA.out
   clear HA
   simp only [marigraphref21_Right.l0] at H
   by_cases c2 : x3_1 < (l0.length : Int)
   ·rw [if_pos c2] at H
    have c2b0 : decide (x3_1 < (l0.length : Int)) = true := decide_eq_true c2
    clear c2
    by_cases c3 : 0 ≤ x3_1
    ·rw [if_pos c3] at H
     have c3b0 : decide (0 ≤ x3_1) = true := decide_eq_true c3
     clear c3
     by_cases c4 : ((rd_T31 l0 x3_1).f0) < 0
     ·rw [if_pos c4] at H
      have c4b0 : decide (((rd_T31 l0 x3_1).f0) < 0) = true := decide_eq_true c4
      clear c4
      obtain rfl := Option.some.inj H
      try go_wp2
      have n0_ := Aside0.mk (below_drew1 HB.out)
      clear HB
      have HB := n0_
      clear n0_
      have p302 : 0 ≤ (x3_1 : Int) := of_decide_eq_true (by first | (with_reducible assumption) | assumption)
      have q302 : x3_1 < (l0.length : Int) := of_decide_eq_true (by first | (with_reducible assumption) | assumption)
      obtain ⟨ad302, e302, hx302_0, hx302_1, hx302_2⟩ := at_T31 HR0.out x3_1 p302 q302
      have hw302_2 := hx302_2
      have hw302_1 := hx302_1
      have hw302_0 := hx302_0
      cases e302
      replace hx302_0 := cellB HB.out hx302_0
      replace hx302_1 := cellB HB.out hx302_1
      replace hx302_2 := cellB HB.out hx302_2
      replace p302 := eq_true p302
      replace q302 := eq_true q302
      refine start_ (n := 41) (S := fun w' => w'.cell? (ad302.add ((x3_1).toNat * 3)) = some (.int .i64 ((rd_T31 l0 x3_1).f0)) ∧ w'.cell? ⟨(ad302.add ((x3_1).toNat * 3)).block, (ad302.add ((x3_1).toNat * 3)).off + 1, none⟩ = some (.int .i64 ((rd_T31 l0 x3_1).f1.f0)) ∧ w'.cell? ⟨(ad302.add ((x3_1).toNat * 3)).block, (ad302.add ((x3_1).toNat * 3)).off + 2, none⟩ = some (.int .i64 ((rd_T31 l0 x3_1).f1.f1))) (ds := []) #[false, false, false, false, false, false, false, false, false, false, false, false, false, false, false, false, false, false, false, false, false, false, false, false, false, false, false, false, false, false, false, false, false, false, false, false, false, false, false, false, false] (by kernel_rfl) rfl rfl ⟨(cellB HB.out hw302_0), (cellB HB.out hw302_1), (cellB HB.out hw302_2)⟩ (fun hHeld => ?_); refine with_tabW marigraphref21_Right.tab4 marigraphref21_Right.bits4 (fun HT_ HW_ => ?_)
      generalize wr.drew = w5 at HB hx302_0 hx302_1 hx302_2 hHeld ⊢
      refine pA 0 (some 10) (bA 41 1) HT_.out ?_
      refine pA 1 (some 11) (bA 41 3) HT_.out ?_
      refine pA 2 (some 12) (bA 41 7) HT_.out ?_
      refine pA 3 (some 13) (bA 41 15) HT_.out ?_
      refine take_ (i := 4) (N := some 14) (v := ?_) (a' := ?_) (bA 41 31) rfl rfl (take_ofW HT_.out HW_.out (by kernel_rfl)) (fun _ _ _ h => h) (Or.inl ⟨by rfl, ?_⟩) hHeld ?_ ?_
      rotate_left
      ·rintro w' ⟨s0, s1, s2⟩
       go_simp
       with_reducible rfl
      rotate_left
      ·simp only [Act.put, List.setIfInBounds_toArray, List.set_cons_zero, List.set_cons_succ, i64_w, i32_w]
       rfl
      refine pA 5 (some 15) (bA 41 63) HT_.out ?_
      refine pA 6 (some 16) (bA 41 127) HT_.out ?_
      refine pU 7 (some 17) (bA 41 255) HT_.out ?_
      refine pU 8 (some 18) (bA 41 511) HT_.out ?_
      refine pU 9 (some 19) (bA 41 1023) HT_.out ?_
      refine pU 10 (some 20) (bA 41 2047) HT_.out ?_
      refine pU 11 (some 21) (bA 41 4095) HT_.out ?_
      refine pU 12 (some 22) (bA 41 8191) HT_.out ?_
      refine pA 13 (some 23) (bA 41 16383) HT_.out ?_
      refine pA 14 (some 24) (bA 41 32767) HT_.out ?_
      refine pU 15 (some 25) (bA 41 65535) HT_.out ?_
      refine pU 16 (some 26) (bA 41 131071) HT_.out ?_
      refine pU 17 (some 27) (bA 41 262143) HT_.out ?_
      refine pU 18 (some 28) (bA 41 524287) HT_.out ?_
      refine pU 19 (some 29) (bA 41 1048575) HT_.out ?_
      refine pU 20 (some 30) (bA 41 2097151) HT_.out ?_
      refine pU 21 (some 31) (bA 41 4194303) HT_.out ?_
      refine pA 22 (some 32) (bA 41 8388607) HT_.out ?_
      refine pA 23 (some 33) (bA 41 16777215) HT_.out ?_
      refine pU 24 (some 34) (bA 41 33554431) HT_.out ?_
      refine pU 25 (some 35) (bA 41 67108863) HT_.out ?_
      refine pU 26 (some 36) (bA 41 134217727) HT_.out ?_
      refine pU 27 (some 37) (bA 41 268435455) HT_.out ?_
      refine pU 28 (some 38) (bA 41 536870911) HT_.out ?_
      refine pU 29 (some 39) (bA 41 1073741823) HT_.out ?_
      refine pU 30 (some 40) (bA 41 2147483647) HT_.out ?_
      refine pU 31 (some 41) (bA 41 4294967295) HT_.out ?_
      refine pU 32 (some 42) (bA 41 8589934591) HT_.out ?_
      refine pU 33 (some 43) (bA 41 17179869183) HT_.out ?_
      refine pU 34 (some 44) (bA 41 34359738367) HT_.out ?_
      refine pU 35 (some 45) (bA 41 68719476735) HT_.out ?_
      refine pU 36 (some 46) (bA 41 137438953471) HT_.out ?_
      refine pU 37 (some 47) (bA 41 274877906943) HT_.out ?_
      refine pU 38 (some 48) (bA 41 549755813887) HT_.out ?_
      refine pU 39 (some 49) (bA 41 1099511627775) HT_.out ?_
      refine pA 40 (some 50) (bA 41 2199023255551) HT_.out ?_
      refine done_ (done_of HT_.out (by kernel_rfl)) ?_
      try go_wp2
      go_ret
      exact ⟨by first | rfl | (simp [errW_none, errW_some] <;> rfl) | (simp [*, errW_none, errW_some] <;> rfl), (belN HB.out)⟩
     ·rw [if_neg c4] at H
      have c4b0 : decide (((rd_T31 l0 x3_1).f0) < 0) = false := decide_eq_false c4
      clear c4
      by_cases c6 : ((rd_T31 l0 x3_1).f0) > 4294967295
      ·rw [if_pos c6] at H
       have c6b0 : decide (4294967295 < ((rd_T31 l0 x3_1).f0)) = true := decide_eq_true c6
       clear c6
       obtain rfl := Option.some.inj H
       try go_wp2
       have n0_ := Aside0.mk (below_drew1 HB.out)
       clear HB
       have HB := n0_
       clear n0_
       have p302 : 0 ≤ (x3_1 : Int) := of_decide_eq_true (by first | (with_reducible assumption) | assumption)
       have q302 : x3_1 < (l0.length : Int) := of_decide_eq_true (by first | (with_reducible assumption) | assumption)
       obtain ⟨ad302, e302, hx302_0, hx302_1, hx302_2⟩ := at_T31 HR0.out x3_1 p302 q302
       have hw302_2 := hx302_2
       have hw302_1 := hx302_1
       have hw302_0 := hx302_0
       cases e302
       replace hx302_0 := cellB HB.out hx302_0
       replace hx302_1 := cellB HB.out hx302_1
       replace hx302_2 := cellB HB.out hx302_2
       replace p302 := eq_true p302
       replace q302 := eq_true q302
       have p303 : 0 ≤ (x3_1 : Int) := of_decide_eq_true (by first | (with_reducible assumption) | assumption)
       have q303 : x3_1 < (l0.length : Int) := of_decide_eq_true (by first | (with_reducible assumption) | assumption)
       obtain ⟨ad303, e303, hx303_0, hx303_1, hx303_2⟩ := at_T31 HR0.out x3_1 p303 q303
       have hw303_2 := hx303_2
       have hw303_1 := hx303_1
       have hw303_0 := hx303_0
       obtain rfl : ad302 = ad303 := (by injection e303)
       replace hx303_0 := cellB HB.out hx303_0
       replace hx303_1 := cellB HB.out hx303_1
       replace hx303_2 := cellB HB.out hx303_2
       replace p303 := eq_true p303
       replace q303 := eq_true q303
       refine start_ (n := 41) (S := fun w' => w'.cell? (ad302.add ((x3_1).toNat * 3)) = some (.int .i64 ((rd_T31 l0 x3_1).f0)) ∧ w'.cell? ⟨(ad302.add ((x3_1).toNat * 3)).block, (ad302.add ((x3_1).toNat * 3)).off + 1, none⟩ = some (.int .i64 ((rd_T31 l0 x3_1).f1.f0)) ∧ w'.cell? ⟨(ad302.add ((x3_1).toNat * 3)).block, (ad302.add ((x3_1).toNat * 3)).off + 2, none⟩ = some (.int .i64 ((rd_T31 l0 x3_1).f1.f1)) ∧ w'.cell? (ad302.add ((x3_1).toNat * 3)) = some (.int .i64 ((rd_T31 l0 x3_1).f0)) ∧ w'.cell? ⟨(ad302.add ((x3_1).toNat * 3)).block, (ad302.add ((x3_1).toNat * 3)).off + 1, none⟩ = some (.int .i64 ((rd_T31 l0 x3_1).f1.f0)) ∧ w'.cell? ⟨(ad302.add ((x3_1).toNat * 3)).block, (ad302.add ((x3_1).toNat * 3)).off + 2, none⟩ = some (.int .i64 ((rd_T31 l0 x3_1).f1.f1))) (ds := []) #[false, false, false, false, false, false, false, false, false, false, false, false, false, false, false, false, false, false, false, false, false, false, false, false, false, false, false, false, false, false, false, false, false, false, false, false, false, false, false, false, false] (by kernel_rfl) rfl rfl ⟨(cellB HB.out hw302_0), (cellB HB.out hw302_1), (cellB HB.out hw302_2), (cellB HB.out hw303_0), (cellB HB.out hw303_1), (cellB HB.out hw303_2)⟩ (fun hHeld => ?_); refine with_tabW marigraphref21_Right.tab4 marigraphref21_Right.bits4 (fun HT_ HW_ => ?_)
       generalize wr.drew = w7 at HB hx302_0 hx302_1 hx302_2 hx303_0 hx303_1 hx303_2 hHeld ⊢
       refine pA 0 (some 10) (bA 41 1) HT_.out ?_
       refine pA 1 (some 11) (bA 41 3) HT_.out ?_
       refine pA 2 (some 12) (bA 41 7) HT_.out ?_
       refine pA 3 (some 13) (bA 41 15) HT_.out ?_
       refine take_ (i := 4) (N := some 14) (v := ?_) (a' := ?_) (bA 41 31) rfl rfl (take_ofW HT_.out HW_.out (by kernel_rfl)) (fun _ _ _ h => h) (Or.inl ⟨by rfl, ?_⟩) hHeld ?_ ?_
       rotate_left
       ·rintro w' ⟨s0, s1, s2, s3, s4, s5⟩
        go_simp
        with_reducible rfl
       rotate_left
       ·simp only [Act.put, List.setIfInBounds_toArray, List.set_cons_zero, List.set_cons_succ, i64_w, i32_w]
        rfl
       refine pA 5 (some 15) (bA 41 63) HT_.out ?_
       refine pA 6 (some 16) (bA 41 127) HT_.out ?_
       refine pA 7 (some 17) (bA 41 255) HT_.out ?_
       refine pA 8 (some 18) (bA 41 511) HT_.out ?_
       refine pA 9 (some 19) (bA 41 1023) HT_.out ?_
       refine pA 10 (some 20) (bA 41 2047) HT_.out ?_
       refine take_ (i := 11) (N := some 21) (v := ?_) (a' := ?_) (bA 41 4095) rfl rfl (take_ofW HT_.out HW_.out (by kernel_rfl)) (fun _ _ _ h => h) (Or.inl ⟨by rfl, ?_⟩) hHeld ?_ ?_
       rotate_left
       ·rintro w' ⟨s0, s1, s2, s3, s4, s5⟩
        go_simp
        with_reducible rfl
       rotate_left
       ·simp only [Act.put, List.setIfInBounds_toArray, List.set_cons_zero, List.set_cons_succ, i64_w, i32_w]
        rfl
       refine pA 12 (some 22) (bA 41 8191) HT_.out ?_
       refine pA 13 (some 23) (bA 41 16383) HT_.out ?_
       refine pA 14 (some 24) (bA 41 32767) HT_.out ?_
       refine pU 15 (some 25) (bA 41 65535) HT_.out ?_
       refine pU 16 (some 26) (bA 41 131071) HT_.out ?_
       refine pU 17 (some 27) (bA 41 262143) HT_.out ?_
       refine pU 18 (some 28) (bA 41 524287) HT_.out ?_
       refine pU 19 (some 29) (bA 41 1048575) HT_.out ?_
       refine pU 20 (some 30) (bA 41 2097151) HT_.out ?_
       refine pU 21 (some 31) (bA 41 4194303) HT_.out ?_
       refine pA 22 (some 32) (bA 41 8388607) HT_.out ?_
       refine pA 23 (some 33) (bA 41 16777215) HT_.out ?_
       refine pU 24 (some 34) (bA 41 33554431) HT_.out ?_
       refine pU 25 (some 35) (bA 41 67108863) HT_.out ?_
       refine pU 26 (some 36) (bA 41 134217727) HT_.out ?_
       refine pU 27 (some 37) (bA 41 268435455) HT_.out ?_
       refine pU 28 (some 38) (bA 41 536870911) HT_.out ?_
       refine pU 29 (some 39) (bA 41 1073741823) HT_.out ?_
       refine pU 30 (some 40) (bA 41 2147483647) HT_.out ?_
       refine pU 31 (some 41) (bA 41 4294967295) HT_.out ?_
       refine pU 32 (some 42) (bA 41 8589934591) HT_.out ?_
       refine pU 33 (some 43) (bA 41 17179869183) HT_.out ?_
       refine pU 34 (some 44) (bA 41 34359738367) HT_.out ?_
       refine pU 35 (some 45) (bA 41 68719476735) HT_.out ?_
       refine pU 36 (some 46) (bA 41 137438953471) HT_.out ?_
       refine pU 37 (some 47) (bA 41 274877906943) HT_.out ?_
       refine pU 38 (some 48) (bA 41 549755813887) HT_.out ?_
       refine pU 39 (some 49) (bA 41 1099511627775) HT_.out ?_
       refine pA 40 (some 50) (bA 41 2199023255551) HT_.out ?_
       refine done_ (done_of HT_.out (by kernel_rfl)) ?_
       try go_wp2
       go_ret
       exact ⟨by first | rfl | (simp [errW_none, errW_some] <;> rfl) | (simp [*, errW_none, errW_some] <;> rfl), (belN HB.out)⟩
      ·rw [if_neg c6] at H
       have c6b0 : decide (4294967295 < ((rd_T31 l0 x3_1).f0)) = false := decide_eq_false c6
       clear c6
       replace H := Option.bind_eq_some_iff.mp H
       obtain ⟨t305, A80, H⟩ := H
       replace H : (if t305 = true then (if x3_1 > 0 then (if 0 ≤ (wrap64 (x3_1 - 1)) then (if (wrap64 (x3_1 - 1)) < (l0.length : Int) then (if ((rd_T31 l0 (wrap64 (x3_1 - 1))).f0) ≥ ((rd_T31 l0 x3_1).f0) then (some false) else (marigraphref21_Right.l0 k1 l0 (wrap64 (x3_1 + 1)))) else (none)) else (none)) else (marigraphref21_Right.l0 k1 l0 (wrap64 (x3_1 + 1)))) else (some false)) = some r := H
       have A8 := Aside0.mk A80
       clear A80
       by_cases c9 : t305 = true
       ·subst c9
        have H1 : (if x3_1 > 0 then (if 0 ≤ (wrap64 (x3_1 - 1)) then (if (wrap64 (x3_1 - 1)) < (l0.length : Int) then (if ((rd_T31 l0 (wrap64 (x3_1 - 1))).f0) ≥ ((rd_T31 l0 x3_1).f0) then (some false) else (marigraphref21_Right.l0 k1 l0 (wrap64 (x3_1 + 1)))) else (none)) else (none)) else (marigraphref21_Right.l0 k1 l0 (wrap64 (x3_1 + 1)))) = some r := by rw [if_pos rfl] at H; exact H
        clear H
        have H := H1
        clear H1
        by_cases c10 : x3_1 > 0
        ·rw [if_pos c10] at H
         have c10b0 : decide (0 < x3_1) = true := decide_eq_true c10
         clear c10
         obtain ⟨ji11, hji11⟩ : ∃ j_ : Int, (wrap64 (x3_1 - 1)) = j_ := ⟨_, rfl⟩
         replace H : (if 0 ≤ (ji11) then (if (ji11) < (l0.length : Int) then (if ((rd_T31 l0 (ji11)).f0) ≥ ((rd_T31 l0 x3_1).f0) then (some false) else (marigraphref21_Right.l0 k1 l0 (wrap64 (x3_1 + 1)))) else (none)) else (none)) = some r := by first | (rw [hji11] at H; exact H) | (simp only [hji11] at H ⊢; exact H)
         (try rw [hji11] at A8)
         have hji11w : (IntKind.i64.wrap (x3_1 - 1)) = ji11 := (i64_w _).trans hji11
         by_cases c12 : 0 ≤ (ji11)
         ·rw [if_pos c12] at H
          have c12b0 : decide (0 ≤ (ji11)) = true := decide_eq_true c12
          clear c12
          by_cases c13 : (ji11) < (l0.length : Int)
          ·rw [if_pos c13] at H
           have c13b0 : decide ((ji11) < (l0.length : Int)) = true := decide_eq_true c13
           clear c13
           by_cases c14 : ((rd_T31 l0 (ji11)).f0) ≥ ((rd_T31 l0 x3_1).f0)
           ·rw [if_pos c14] at H
            have c14b0 : decide (((rd_T31 l0 x3_1).f0) ≤ ((rd_T31 l0 (ji11)).f0)) = true := decide_eq_true c14
            clear c14
            obtain rfl := Option.some.inj H
            try go_wp2
            have n0_ := Aside0.mk (below_drew1 HB.out)
            clear HB
            have HB := n0_
            clear n0_
            have p302 : 0 ≤ (x3_1 : Int) := of_decide_eq_true (by first | (with_reducible assumption) | assumption)
            have q302 : x3_1 < (l0.length : Int) := of_decide_eq_true (by first | (with_reducible assumption) | assumption)
            obtain ⟨ad302, e302, hx302_0, hx302_1, hx302_2⟩ := at_T31 HR0.out x3_1 p302 q302
            have hw302_2 := hx302_2
            have hw302_1 := hx302_1
            have hw302_0 := hx302_0
            cases e302
            replace hx302_0 := cellB HB.out hx302_0
            replace hx302_1 := cellB HB.out hx302_1
            replace hx302_2 := cellB HB.out hx302_2
            replace p302 := eq_true p302
            replace q302 := eq_true q302
            have p303 : 0 ≤ (x3_1 : Int) := of_decide_eq_true (by first | (with_reducible assumption) | assumption)
            have q303 : x3_1 < (l0.length : Int) := of_decide_eq_true (by first | (with_reducible assumption) | assumption)
            obtain ⟨ad303, e303, hx303_0, hx303_1, hx303_2⟩ := at_T31 HR0.out x3_1 p303 q303
            have hw303_2 := hx303_2
            have hw303_1 := hx303_1
            have hw303_0 := hx303_0
            obtain rfl : ad302 = ad303 := (by injection e303)
            replace hx303_0 := cellB HB.out hx303_0
            replace hx303_1 := cellB HB.out hx303_1
            replace hx303_2 := cellB HB.out hx303_2
            replace p303 := eq_true p303
            replace q303 := eq_true q303
            have p304 : 0 ≤ (x3_1 : Int) := of_decide_eq_true (by first | (with_reducible assumption) | assumption)
            have q304 : x3_1 < (l0.length : Int) := of_decide_eq_true (by first | (with_reducible assumption) | assumption)
            obtain ⟨ad304, e304, hx304_0, hx304_1, hx304_2⟩ := at_T31 HR0.out x3_1 p304 q304
            have hw304_2 := hx304_2
            have hw304_1 := hx304_1
            have hw304_0 := hx304_0
            obtain rfl : ad302 = ad304 := (by injection e304)
            replace hx304_0 := cellB HB.out hx304_0
            replace hx304_1 := cellB HB.out hx304_1
            replace hx304_2 := cellB HB.out hx304_2
            replace p304 := eq_true p304
            replace q304 := eq_true q304
            have p306 : 0 ≤ ((ji11) : Int) := of_decide_eq_true (by first | (with_reducible assumption) | assumption)
            have q306 : (ji11) < (l0.length : Int) := of_decide_eq_true (by first | (with_reducible assumption) | assumption)
            obtain ⟨ad306, e306, hx306_0, hx306_1, hx306_2⟩ := at_T31 HR0.out (ji11) p306 q306
            have hw306_2 := hx306_2
            have hw306_1 := hx306_1
            have hw306_0 := hx306_0
            obtain rfl : ad302 = ad306 := (by injection e306)
            replace hx306_0 := cellB HB.out hx306_0
            replace hx306_1 := cellB HB.out hx306_1
            replace hx306_2 := cellB HB.out hx306_2
            replace p306 := eq_true p306
            replace q306 := eq_true q306
            have p307 : 0 ≤ (x3_1 : Int) := of_decide_eq_true (by first | (with_reducible assumption) | assumption)
            have q307 : x3_1 < (l0.length : Int) := of_decide_eq_true (by first | (with_reducible assumption) | assumption)
            obtain ⟨ad307, e307, hx307_0, hx307_1, hx307_2⟩ := at_T31 HR0.out x3_1 p307 q307
            have hw307_2 := hx307_2
            have hw307_1 := hx307_1
            have hw307_0 := hx307_0
            obtain rfl : ad302 = ad307 := (by injection e307)
            replace hx307_0 := cellB HB.out hx307_0
            replace hx307_1 := cellB HB.out hx307_1
            replace hx307_2 := cellB HB.out hx307_2
            replace p307 := eq_true p307
            replace q307 := eq_true q307
            refine start_ (n := 41) (S := fun w' => w'.cell? (ad302.add ((x3_1).toNat * 3)) = some (.int .i64 ((rd_T31 l0 x3_1).f0)) ∧ w'.cell? ⟨(ad302.add ((x3_1).toNat * 3)).block, (ad302.add ((x3_1).toNat * 3)).off + 1, none⟩ = some (.int .i64 ((rd_T31 l0 x3_1).f1.f0)) ∧ w'.cell? ⟨(ad302.add ((x3_1).toNat * 3)).block, (ad302.add ((x3_1).toNat * 3)).off + 2, none⟩ = some (.int .i64 ((rd_T31 l0 x3_1).f1.f1)) ∧ w'.cell? (ad302.add ((x3_1).toNat * 3)) = some (.int .i64 ((rd_T31 l0 x3_1).f0)) ∧ w'.cell? ⟨(ad302.add ((x3_1).toNat * 3)).block, (ad302.add ((x3_1).toNat * 3)).off + 1, none⟩ = some (.int .i64 ((rd_T31 l0 x3_1).f1.f0)) ∧ w'.cell? ⟨(ad302.add ((x3_1).toNat * 3)).block, (ad302.add ((x3_1).toNat * 3)).off + 2, none⟩ = some (.int .i64 ((rd_T31 l0 x3_1).f1.f1)) ∧ w'.cell? (ad302.add ((x3_1).toNat * 3)) = some (.int .i64 ((rd_T31 l0 x3_1).f0)) ∧ w'.cell? ⟨(ad302.add ((x3_1).toNat * 3)).block, (ad302.add ((x3_1).toNat * 3)).off + 1, none⟩ = some (.int .i64 ((rd_T31 l0 x3_1).f1.f0)) ∧ w'.cell? ⟨(ad302.add ((x3_1).toNat * 3)).block, (ad302.add ((x3_1).toNat * 3)).off + 2, none⟩ = some (.int .i64 ((rd_T31 l0 x3_1).f1.f1)) ∧ w'.cell? (ad302.add (((ji11)).toNat * 3)) = some (.int .i64 ((rd_T31 l0 (ji11)).f0)) ∧ w'.cell? ⟨(ad302.add (((ji11)).toNat * 3)).block, (ad302.add (((ji11)).toNat * 3)).off + 1, none⟩ = some (.int .i64 ((rd_T31 l0 (ji11)).f1.f0)) ∧ w'.cell? ⟨(ad302.add (((ji11)).toNat * 3)).block, (ad302.add (((ji11)).toNat * 3)).off + 2, none⟩ = some (.int .i64 ((rd_T31 l0 (ji11)).f1.f1)) ∧ w'.cell? (ad302.add ((x3_1).toNat * 3)) = some (.int .i64 ((rd_T31 l0 x3_1).f0)) ∧ w'.cell? ⟨(ad302.add ((x3_1).toNat * 3)).block, (ad302.add ((x3_1).toNat * 3)).off + 1, none⟩ = some (.int .i64 ((rd_T31 l0 x3_1).f1.f0)) ∧ w'.cell? ⟨(ad302.add ((x3_1).toNat * 3)).block, (ad302.add ((x3_1).toNat * 3)).off + 2, none⟩ = some (.int .i64 ((rd_T31 l0 x3_1).f1.f1))) (ds := []) #[false, false, false, false, false, false, false, false, false, false, false, false, false, false, false, false, false, false, false, false, false, false, false, false, false, false, false, false, false, false, false, false, false, false, false, false, false, false, false, false, false] (by kernel_rfl) rfl rfl ⟨(cellB HB.out hw302_0), (cellB HB.out hw302_1), (cellB HB.out hw302_2), (cellB HB.out hw303_0), (cellB HB.out hw303_1), (cellB HB.out hw303_2), (cellB HB.out hw304_0), (cellB HB.out hw304_1), (cellB HB.out hw304_2), (cellB HB.out hw306_0), (cellB HB.out hw306_1), (cellB HB.out hw306_2), (cellB HB.out hw307_0), (cellB HB.out hw307_1), (cellB HB.out hw307_2)⟩ (fun hHeld => ?_); refine with_tabW marigraphref21_Right.tab4 marigraphref21_Right.bits4 (fun HT_ HW_ => ?_)
            generalize wr.drew = w15 at HB hx302_0 hx302_1 hx302_2 hx303_0 hx303_1 hx303_2 hx304_0 hx304_1 hx304_2 hx306_0 hx306_1 hx306_2 hx307_0 hx307_1 hx307_2 hHeld ⊢
            refine pA 0 (some 10) (bA 41 1) HT_.out ?_
            refine pA 1 (some 11) (bA 41 3) HT_.out ?_
            refine pA 2 (some 12) (bA 41 7) HT_.out ?_
            refine pA 3 (some 13) (bA 41 15) HT_.out ?_
            refine take_ (i := 4) (N := some 14) (v := ?_) (a' := ?_) (bA 41 31) rfl rfl (take_ofW HT_.out HW_.out (by kernel_rfl)) (fun _ _ _ h => h) (Or.inl ⟨by rfl, ?_⟩) hHeld ?_ ?_
            rotate_left
            ·rintro w' ⟨s0, s1, s2, s3, s4, s5, s6, s7, s8, s9, s10, s11, s12, s13, s14⟩
             go_simp
             with_reducible rfl
            rotate_left
            ·simp only [Act.put, List.setIfInBounds_toArray, List.set_cons_zero, List.set_cons_succ, i64_w, i32_w]
             rfl
            refine pA 5 (some 15) (bA 41 63) HT_.out ?_
            refine pA 6 (some 16) (bA 41 127) HT_.out ?_
            refine pA 7 (some 17) (bA 41 255) HT_.out ?_
            refine pA 8 (some 18) (bA 41 511) HT_.out ?_
            refine pA 9 (some 19) (bA 41 1023) HT_.out ?_
            refine pA 10 (some 20) (bA 41 2047) HT_.out ?_
            refine take_ (i := 11) (N := some 21) (v := ?_) (a' := ?_) (bA 41 4095) rfl rfl (take_ofW HT_.out HW_.out (by kernel_rfl)) (fun _ _ _ h => h) (Or.inl ⟨by rfl, ?_⟩) hHeld ?_ ?_
            rotate_left
            ·rintro w' ⟨s0, s1, s2, s3, s4, s5, s6, s7, s8, s9, s10, s11, s12, s13, s14⟩
             go_simp
             with_reducible rfl
            rotate_left
            ·simp only [Act.put, List.setIfInBounds_toArray, List.set_cons_zero, List.set_cons_succ, i64_w, i32_w]
             rfl
            refine pA 12 (some 22) (bA 41 8191) HT_.out ?_
            refine pA 13 (some 23) (bA 41 16383) HT_.out ?_
            refine pA 14 (some 24) (bA 41 32767) HT_.out ?_
            refine pA 15 (some 25) (bA 41 65535) HT_.out ?_
            refine pA 16 (some 26) (bA 41 131071) HT_.out ?_
            refine pA 17 (some 27) (bA 41 262143) HT_.out ?_
            refine pA 18 (some 28) (bA 41 524287) HT_.out ?_
            refine take_ (i := 19) (N := some 29) (v := ?_) (a' := ?_) (bA 41 1048575) rfl rfl (take_ofW HT_.out HW_.out (by kernel_rfl)) (fun _ _ _ h => h) (Or.inl ⟨by rfl, ?_⟩) hHeld ?_ ?_
            rotate_left
            ·rintro w' ⟨s0, s1, s2, s3, s4, s5, s6, s7, s8, s9, s10, s11, s12, s13, s14⟩
             go_simp
             with_reducible rfl
            rotate_left
            ·simp only [Act.put, List.setIfInBounds_toArray, List.set_cons_zero, List.set_cons_succ, i64_w, i32_w]
             rfl
            refine one_ (i := 20) (N := some 30) (bA 41 2097151) rfl rfl (one_of HT_.out (by kernel_rfl)) (by decide) (fun K hK => ?_)
            refine goes_ Try.func13 (by kernel_rfl) rfl #[.agg #[.int .i64 ((rd_T31 l0 x3_1).f1.f0), .int .i64 ((rd_T31 l0 x3_1).f1.f1)]] (by rfl) rfl rfl argN ?_
            with_reducible refine (marigraphref1_Right.calls k1 ((rd_T31 l0 x3_1).f1.f0) ((rd_T31 l0 x3_1).f1.f1) true _ A8.out).mono ?_
            rintro e w16 ⟨rfl, hb⟩
            refine ⟨_, rfl, ?_⟩
            have n0_ := Aside0.mk (below_step (belN HB.out) hb)
            clear HB
            have HB := n0_
            clear n0_
            (try clear hb)
            refine hK.out _ _ ⟨(cellB HB.out hw302_0), (cellB HB.out hw302_1), (cellB HB.out hw302_2), (cellB HB.out hw303_0), (cellB HB.out hw303_1), (cellB HB.out hw303_2), (cellB HB.out hw304_0), (cellB HB.out hw304_1), (cellB HB.out hw304_2), (cellB HB.out hw306_0), (cellB HB.out hw306_1), (cellB HB.out hw306_2), (cellB HB.out hw307_0), (cellB HB.out hw307_1), (cellB HB.out hw307_2)⟩ (fun hHeld => ?_)
            clear hK K
            refine norm_ (a' := ?_) ?_ ?_
            rotate_left
            ·show Act.put _ (some 30) _ = _
             simp only [Act.put, List.setIfInBounds_toArray, List.set_cons_zero, List.set_cons_succ, i64_w, i32_w]
             rfl
            refine pA 21 (some 31) (bA 41 4194303) HT_.out ?_
            refine pA 22 (some 32) (bA 41 8388607) HT_.out ?_
            refine pA 23 (some 33) (bA 41 16777215) HT_.out ?_
            refine pA 24 (some 34) (bA 41 33554431) HT_.out ?_
            refine pA 25 (some 35) (bA 41 67108863) HT_.out ?_
            refine pA 26 (some 36) (bA 41 134217727) HT_.out ?_
            refine pA 27 (some 37) (bA 41 268435455) HT_.out ?_
            refine pA 28 (some 38) (bA 41 536870911) HT_.out ?_
            refine pA 29 (some 39) (bA 41 1073741823) HT_.out ?_
            refine pA 30 (some 40) (bA 41 2147483647) HT_.out ?_
            refine pA 31 (some 41) (bA 41 4294967295) HT_.out ?_
            refine pA 33 (some 43) (bA 41 12884901887) HT_.out ?_
            refine pA 34 (some 44) (bA 41 30064771071) HT_.out ?_
            refine pA 35 (some 45) (bA 41 64424509439) HT_.out ?_
            refine pA 36 (some 46) (bA 41 133143986175) HT_.out ?_
            refine take_ (i := 32) (N := some 42) (v := ?_) (a' := ?_) (bA 41 137438953471) rfl rfl (take_ofW HT_.out HW_.out (by kernel_rfl)) (fun _ _ _ h => h) (Or.inl ⟨by rfl, ?_⟩) hHeld ?_ ?_
            rotate_left
            ·rintro w' ⟨s0, s1, s2, s3, s4, s5, s6, s7, s8, s9, s10, s11, s12, s13, s14⟩
             go_simp
             with_reducible rfl
            rotate_left
            ·simp only [Act.put, List.setIfInBounds_toArray, List.set_cons_zero, List.set_cons_succ, i64_w, i32_w]
             rfl
            refine take_ (i := 37) (N := some 47) (v := ?_) (a' := ?_) (bA 41 274877906943) rfl rfl (take_ofW HT_.out HW_.out (by kernel_rfl)) (fun _ _ _ h => h) (Or.inl ⟨by rfl, ?_⟩) hHeld ?_ ?_
            rotate_left
            ·rintro w' ⟨s0, s1, s2, s3, s4, s5, s6, s7, s8, s9, s10, s11, s12, s13, s14⟩
             go_simp
             with_reducible rfl
            rotate_left
            ·simp only [Act.put, List.setIfInBounds_toArray, List.set_cons_zero, List.set_cons_succ, i64_w, i32_w]
             rfl
            refine pA 38 (some 48) (bA 41 549755813887) HT_.out ?_
            refine pA 39 (some 49) (bA 41 1099511627775) HT_.out ?_
            refine pA 40 (some 50) (bA 41 2199023255551) HT_.out ?_
            refine done_ (done_of HT_.out (by kernel_rfl)) ?_
            try go_wp2
            go_ret
            exact ⟨by first | rfl | (simp [errW_none, errW_some] <;> rfl) | (simp only [← hji11]; first | rfl | (simp [errW_none, errW_some] <;> rfl)) | (simp [*, errW_none, errW_some] <;> rfl), (belN HB.out)⟩
           ·rw [if_neg c14] at H
            have c14b0 : decide (((rd_T31 l0 x3_1).f0) ≤ ((rd_T31 l0 (ji11)).f0)) = false := decide_eq_false c14
            clear c14
            have H' := Aside0.mk H
            clear H
            try go_wp2
            have n0_ := Aside0.mk (below_drew1 HB.out)
            clear HB
            have HB := n0_
            clear n0_
            have p302 : 0 ≤ (x3_1 : Int) := of_decide_eq_true (by first | (with_reducible assumption) | assumption)
            have q302 : x3_1 < (l0.length : Int) := of_decide_eq_true (by first | (with_reducible assumption) | assumption)
            obtain ⟨ad302, e302, hx302_0, hx302_1, hx302_2⟩ := at_T31 HR0.out x3_1 p302 q302
            have hw302_2 := hx302_2
            have hw302_1 := hx302_1
            have hw302_0 := hx302_0
            cases e302
            replace hx302_0 := cellB HB.out hx302_0
            replace hx302_1 := cellB HB.out hx302_1
            replace hx302_2 := cellB HB.out hx302_2
            replace p302 := eq_true p302
            replace q302 := eq_true q302
            have p303 : 0 ≤ (x3_1 : Int) := of_decide_eq_true (by first | (with_reducible assumption) | assumption)
            have q303 : x3_1 < (l0.length : Int) := of_decide_eq_true (by first | (with_reducible assumption) | assumption)
            obtain ⟨ad303, e303, hx303_0, hx303_1, hx303_2⟩ := at_T31 HR0.out x3_1 p303 q303
            have hw303_2 := hx303_2
            have hw303_1 := hx303_1
            have hw303_0 := hx303_0
            obtain rfl : ad302 = ad303 := (by injection e303)
            replace hx303_0 := cellB HB.out hx303_0
            replace hx303_1 := cellB HB.out hx303_1
            replace hx303_2 := cellB HB.out hx303_2
            replace p303 := eq_true p303
            replace q303 := eq_true q303
            have p304 : 0 ≤ (x3_1 : Int) := of_decide_eq_true (by first | (with_reducible assumption) | assumption)
            have q304 : x3_1 < (l0.length : Int) := of_decide_eq_true (by first | (with_reducible assumption) | assumption)
            obtain ⟨ad304, e304, hx304_0, hx304_1, hx304_2⟩ := at_T31 HR0.out x3_1 p304 q304
            have hw304_2 := hx304_2
            have hw304_1 := hx304_1
            have hw304_0 := hx304_0
            obtain rfl : ad302 = ad304 := (by injection e304)
            replace hx304_0 := cellB HB.out hx304_0
            replace hx304_1 := cellB HB.out hx304_1
            replace hx304_2 := cellB HB.out hx304_2
            replace p304 := eq_true p304
            replace q304 := eq_true q304
            have p306 : 0 ≤ ((ji11) : Int) := of_decide_eq_true (by first | (with_reducible assumption) | assumption)
            have q306 : (ji11) < (l0.length : Int) := of_decide_eq_true (by first | (with_reducible assumption) | assumption)
            obtain ⟨ad306, e306, hx306_0, hx306_1, hx306_2⟩ := at_T31 HR0.out (ji11) p306 q306
            have hw306_2 := hx306_2
            have hw306_1 := hx306_1
            have hw306_0 := hx306_0
            obtain rfl : ad302 = ad306 := (by injection e306)
            replace hx306_0 := cellB HB.out hx306_0
            replace hx306_1 := cellB HB.out hx306_1
            replace hx306_2 := cellB HB.out hx306_2
            replace p306 := eq_true p306
            replace q306 := eq_true q306
            have p307 : 0 ≤ (x3_1 : Int) := of_decide_eq_true (by first | (with_reducible assumption) | assumption)
            have q307 : x3_1 < (l0.length : Int) := of_decide_eq_true (by first | (with_reducible assumption) | assumption)
            obtain ⟨ad307, e307, hx307_0, hx307_1, hx307_2⟩ := at_T31 HR0.out x3_1 p307 q307
            have hw307_2 := hx307_2
            have hw307_1 := hx307_1
            have hw307_0 := hx307_0
            obtain rfl : ad302 = ad307 := (by injection e307)
            replace hx307_0 := cellB HB.out hx307_0
            replace hx307_1 := cellB HB.out hx307_1
            replace hx307_2 := cellB HB.out hx307_2
            replace p307 := eq_true p307
            replace q307 := eq_true q307
            refine start_ (n := 41) (S := fun w' => w'.cell? (ad302.add ((x3_1).toNat * 3)) = some (.int .i64 ((rd_T31 l0 x3_1).f0)) ∧ w'.cell? ⟨(ad302.add ((x3_1).toNat * 3)).block, (ad302.add ((x3_1).toNat * 3)).off + 1, none⟩ = some (.int .i64 ((rd_T31 l0 x3_1).f1.f0)) ∧ w'.cell? ⟨(ad302.add ((x3_1).toNat * 3)).block, (ad302.add ((x3_1).toNat * 3)).off + 2, none⟩ = some (.int .i64 ((rd_T31 l0 x3_1).f1.f1)) ∧ w'.cell? (ad302.add ((x3_1).toNat * 3)) = some (.int .i64 ((rd_T31 l0 x3_1).f0)) ∧ w'.cell? ⟨(ad302.add ((x3_1).toNat * 3)).block, (ad302.add ((x3_1).toNat * 3)).off + 1, none⟩ = some (.int .i64 ((rd_T31 l0 x3_1).f1.f0)) ∧ w'.cell? ⟨(ad302.add ((x3_1).toNat * 3)).block, (ad302.add ((x3_1).toNat * 3)).off + 2, none⟩ = some (.int .i64 ((rd_T31 l0 x3_1).f1.f1)) ∧ w'.cell? (ad302.add ((x3_1).toNat * 3)) = some (.int .i64 ((rd_T31 l0 x3_1).f0)) ∧ w'.cell? ⟨(ad302.add ((x3_1).toNat * 3)).block, (ad302.add ((x3_1).toNat * 3)).off + 1, none⟩ = some (.int .i64 ((rd_T31 l0 x3_1).f1.f0)) ∧ w'.cell? ⟨(ad302.add ((x3_1).toNat * 3)).block, (ad302.add ((x3_1).toNat * 3)).off + 2, none⟩ = some (.int .i64 ((rd_T31 l0 x3_1).f1.f1)) ∧ w'.cell? (ad302.add (((ji11)).toNat * 3)) = some (.int .i64 ((rd_T31 l0 (ji11)).f0)) ∧ w'.cell? ⟨(ad302.add (((ji11)).toNat * 3)).block, (ad302.add (((ji11)).toNat * 3)).off + 1, none⟩ = some (.int .i64 ((rd_T31 l0 (ji11)).f1.f0)) ∧ w'.cell? ⟨(ad302.add (((ji11)).toNat * 3)).block, (ad302.add (((ji11)).toNat * 3)).off + 2, none⟩ = some (.int .i64 ((rd_T31 l0 (ji11)).f1.f1)) ∧ w'.cell? (ad302.add ((x3_1).toNat * 3)) = some (.int .i64 ((rd_T31 l0 x3_1).f0)) ∧ w'.cell? ⟨(ad302.add ((x3_1).toNat * 3)).block, (ad302.add ((x3_1).toNat * 3)).off + 1, none⟩ = some (.int .i64 ((rd_T31 l0 x3_1).f1.f0)) ∧ w'.cell? ⟨(ad302.add ((x3_1).toNat * 3)).block, (ad302.add ((x3_1).toNat * 3)).off + 2, none⟩ = some (.int .i64 ((rd_T31 l0 x3_1).f1.f1))) (ds := []) #[false, false, false, false, false, false, false, false, false, false, false, false, false, false, false, false, false, false, false, false, false, false, false, false, false, false, false, false, false, false, false, false, false, false, false, false, false, false, false, false, false] (by kernel_rfl) rfl rfl ⟨(cellB HB.out hw302_0), (cellB HB.out hw302_1), (cellB HB.out hw302_2), (cellB HB.out hw303_0), (cellB HB.out hw303_1), (cellB HB.out hw303_2), (cellB HB.out hw304_0), (cellB HB.out hw304_1), (cellB HB.out hw304_2), (cellB HB.out hw306_0), (cellB HB.out hw306_1), (cellB HB.out hw306_2), (cellB HB.out hw307_0), (cellB HB.out hw307_1), (cellB HB.out hw307_2)⟩ (fun hHeld => ?_); refine with_tabW marigraphref21_Right.tab4 marigraphref21_Right.bits4 (fun HT_ HW_ => ?_)
            generalize wr.drew = w17 at HB hx302_0 hx302_1 hx302_2 hx303_0 hx303_1 hx303_2 hx304_0 hx304_1 hx304_2 hx306_0 hx306_1 hx306_2 hx307_0 hx307_1 hx307_2 hHeld ⊢
            refine pA 0 (some 10) (bA 41 1) HT_.out ?_
            refine pA 1 (some 11) (bA 41 3) HT_.out ?_
            refine pA 2 (some 12) (bA 41 7) HT_.out ?_
            refine pA 3 (some 13) (bA 41 15) HT_.out ?_
            refine take_ (i := 4) (N := some 14) (v := ?_) (a' := ?_) (bA 41 31) rfl rfl (take_ofW HT_.out HW_.out (by kernel_rfl)) (fun _ _ _ h => h) (Or.inl ⟨by rfl, ?_⟩) hHeld ?_ ?_
            rotate_left
            ·rintro w' ⟨s0, s1, s2, s3, s4, s5, s6, s7, s8, s9, s10, s11, s12, s13, s14⟩
             go_simp
             with_reducible rfl
            rotate_left
            ·simp only [Act.put, List.setIfInBounds_toArray, List.set_cons_zero, List.set_cons_succ, i64_w, i32_w]
             rfl
            refine pA 5 (some 15) (bA 41 63) HT_.out ?_
            refine pA 6 (some 16) (bA 41 127) HT_.out ?_
            refine pA 7 (some 17) (bA 41 255) HT_.out ?_
            refine pA 8 (some 18) (bA 41 511) HT_.out ?_
            refine pA 9 (some 19) (bA 41 1023) HT_.out ?_
            refine pA 10 (some 20) (bA 41 2047) HT_.out ?_
            refine take_ (i := 11) (N := some 21) (v := ?_) (a' := ?_) (bA 41 4095) rfl rfl (take_ofW HT_.out HW_.out (by kernel_rfl)) (fun _ _ _ h => h) (Or.inl ⟨by rfl, ?_⟩) hHeld ?_ ?_
            rotate_left
            ·rintro w' ⟨s0, s1, s2, s3, s4, s5, s6, s7, s8, s9, s10, s11, s12, s13, s14⟩
             go_simp
             with_reducible rfl
            rotate_left
            ·simp only [Act.put, List.setIfInBounds_toArray, List.set_cons_zero, List.set_cons_succ, i64_w, i32_w]
             rfl
            refine pA 12 (some 22) (bA 41 8191) HT_.out ?_
            refine pA 13 (some 23) (bA 41 16383) HT_.out ?_
            refine pA 14 (some 24) (bA 41 32767) HT_.out ?_
            refine pA 15 (some 25) (bA 41 65535) HT_.out ?_
            refine pA 16 (some 26) (bA 41 131071) HT_.out ?_
            refine pA 17 (some 27) (bA 41 262143) HT_.out ?_
            refine pA 18 (some 28) (bA 41 524287) HT_.out ?_
            refine take_ (i := 19) (N := some 29) (v := ?_) (a' := ?_) (bA 41 1048575) rfl rfl (take_ofW HT_.out HW_.out (by kernel_rfl)) (fun _ _ _ h => h) (Or.inl ⟨by rfl, ?_⟩) hHeld ?_ ?_
            rotate_left
            ·rintro w' ⟨s0, s1, s2, s3, s4, s5, s6, s7, s8, s9, s10, s11, s12, s13, s14⟩
             go_simp
             with_reducible rfl
            rotate_left
            ·simp only [Act.put, List.setIfInBounds_toArray, List.set_cons_zero, List.set_cons_succ, i64_w, i32_w]
             rfl
            refine one_ (i := 20) (N := some 30) (bA 41 2097151) rfl rfl (one_of HT_.out (by kernel_rfl)) (by decide) (fun K hK => ?_)
            refine goes_ Try.func13 (by kernel_rfl) rfl #[.agg #[.int .i64 ((rd_T31 l0 x3_1).f1.f0), .int .i64 ((rd_T31 l0 x3_1).f1.f1)]] (by rfl) rfl rfl argN ?_
            with_reducible refine (marigraphref1_Right.calls k1 ((rd_T31 l0 x3_1).f1.f0) ((rd_T31 l0 x3_1).f1.f1) true _ A8.out).mono ?_
            rintro e w18 ⟨rfl, hb⟩
            refine ⟨_, rfl, ?_⟩
            have n0_ := Aside0.mk (below_step (belN HB.out) hb)
            clear HB
            have HB := n0_
            clear n0_
            (try clear hb)
            refine hK.out _ _ ⟨(cellB HB.out hw302_0), (cellB HB.out hw302_1), (cellB HB.out hw302_2), (cellB HB.out hw303_0), (cellB HB.out hw303_1), (cellB HB.out hw303_2), (cellB HB.out hw304_0), (cellB HB.out hw304_1), (cellB HB.out hw304_2), (cellB HB.out hw306_0), (cellB HB.out hw306_1), (cellB HB.out hw306_2), (cellB HB.out hw307_0), (cellB HB.out hw307_1), (cellB HB.out hw307_2)⟩ (fun hHeld => ?_)
            clear hK K
            refine norm_ (a' := ?_) ?_ ?_
            rotate_left
            ·show Act.put _ (some 30) _ = _
             simp only [Act.put, List.setIfInBounds_toArray, List.set_cons_zero, List.set_cons_succ, i64_w, i32_w]
             rfl
            refine pA 21 (some 31) (bA 41 4194303) HT_.out ?_
            refine pA 22 (some 32) (bA 41 8388607) HT_.out ?_
            refine pA 23 (some 33) (bA 41 16777215) HT_.out ?_
            refine pA 24 (some 34) (bA 41 33554431) HT_.out ?_
            refine pA 25 (some 35) (bA 41 67108863) HT_.out ?_
            refine pA 26 (some 36) (bA 41 134217727) HT_.out ?_
            refine pA 27 (some 37) (bA 41 268435455) HT_.out ?_
            refine pA 28 (some 38) (bA 41 536870911) HT_.out ?_
            refine pA 29 (some 39) (bA 41 1073741823) HT_.out ?_
            refine pA 30 (some 40) (bA 41 2147483647) HT_.out ?_
            refine pA 31 (some 41) (bA 41 4294967295) HT_.out ?_
            refine pA 33 (some 43) (bA 41 12884901887) HT_.out ?_
            refine pA 34 (some 44) (bA 41 30064771071) HT_.out ?_
            refine pA 35 (some 45) (bA 41 64424509439) HT_.out ?_
            refine pA 36 (some 46) (bA 41 133143986175) HT_.out ?_
            refine take_ (i := 32) (N := some 42) (v := ?_) (a' := ?_) (bA 41 137438953471) rfl rfl (take_ofW HT_.out HW_.out (by kernel_rfl)) (fun _ _ _ h => h) (Or.inl ⟨by rfl, ?_⟩) hHeld ?_ ?_
            rotate_left
            ·rintro w' ⟨s0, s1, s2, s3, s4, s5, s6, s7, s8, s9, s10, s11, s12, s13, s14⟩
             go_simp
             with_reducible rfl
            rotate_left
            ·simp only [Act.put, List.setIfInBounds_toArray, List.set_cons_zero, List.set_cons_succ, i64_w, i32_w]
             rfl
            refine take_ (i := 37) (N := some 47) (v := ?_) (a' := ?_) (bA 41 274877906943) rfl rfl (take_ofW HT_.out HW_.out (by kernel_rfl)) (fun _ _ _ h => h) (Or.inl ⟨by rfl, ?_⟩) hHeld ?_ ?_
            rotate_left
            ·rintro w' ⟨s0, s1, s2, s3, s4, s5, s6, s7, s8, s9, s10, s11, s12, s13, s14⟩
             go_simp
             with_reducible rfl
            rotate_left
            ·simp only [Act.put, List.setIfInBounds_toArray, List.set_cons_zero, List.set_cons_succ, i64_w, i32_w]
             rfl
            refine pA 38 (some 48) (bA 41 549755813887) HT_.out ?_
            refine pA 39 (some 49) (bA 41 1099511627775) HT_.out ?_
            refine pA 40 (some 50) (bA 41 2199023255551) HT_.out ?_
            refine done_ (done_of HT_.out (by kernel_rfl)) ?_
            try go_wp2
            go_roundg k1
            case measure => have := HK1.out; omega
            case rel => exact ⟨(wrap64 (x3_1 + 1)), (by first | rfl | (simp; done) | (simp [*]; done)), H', ⟨by have := HK1.out; omega⟩, ⟨(belN HB.out)⟩⟩
          ·rw [if_neg c13] at H
           exact absurd H (by simp)
         ·rw [if_neg c12] at H
          exact absurd H (by simp)
        ·rw [if_neg c10] at H
         have c10b0 : decide (0 < x3_1) = false := decide_eq_false c10
         clear c10
         have H' := Aside0.mk H
         clear H
         try go_wp2
         have n0_ := Aside0.mk (below_drew1 HB.out)
         clear HB
         have HB := n0_
         clear n0_
         have p302 : 0 ≤ (x3_1 : Int) := of_decide_eq_true (by first | (with_reducible assumption) | assumption)
         have q302 : x3_1 < (l0.length : Int) := of_decide_eq_true (by first | (with_reducible assumption) | assumption)
         obtain ⟨ad302, e302, hx302_0, hx302_1, hx302_2⟩ := at_T31 HR0.out x3_1 p302 q302
         have hw302_2 := hx302_2
         have hw302_1 := hx302_1
         have hw302_0 := hx302_0
         cases e302
         replace hx302_0 := cellB HB.out hx302_0
         replace hx302_1 := cellB HB.out hx302_1
         replace hx302_2 := cellB HB.out hx302_2
         replace p302 := eq_true p302
         replace q302 := eq_true q302
         have p303 : 0 ≤ (x3_1 : Int) := of_decide_eq_true (by first | (with_reducible assumption) | assumption)
         have q303 : x3_1 < (l0.length : Int) := of_decide_eq_true (by first | (with_reducible assumption) | assumption)
         obtain ⟨ad303, e303, hx303_0, hx303_1, hx303_2⟩ := at_T31 HR0.out x3_1 p303 q303
         have hw303_2 := hx303_2
         have hw303_1 := hx303_1
         have hw303_0 := hx303_0
         obtain rfl : ad302 = ad303 := (by injection e303)
         replace hx303_0 := cellB HB.out hx303_0
         replace hx303_1 := cellB HB.out hx303_1
         replace hx303_2 := cellB HB.out hx303_2
         replace p303 := eq_true p303
         replace q303 := eq_true q303
         have p304 : 0 ≤ (x3_1 : Int) := of_decide_eq_true (by first | (with_reducible assumption) | assumption)
         have q304 : x3_1 < (l0.length : Int) := of_decide_eq_true (by first | (with_reducible assumption) | assumption)
         obtain ⟨ad304, e304, hx304_0, hx304_1, hx304_2⟩ := at_T31 HR0.out x3_1 p304 q304
         have hw304_2 := hx304_2
         have hw304_1 := hx304_1
         have hw304_0 := hx304_0
         obtain rfl : ad302 = ad304 := (by injection e304)
         replace hx304_0 := cellB HB.out hx304_0
         replace hx304_1 := cellB HB.out hx304_1
         replace hx304_2 := cellB HB.out hx304_2
         replace p304 := eq_true p304
         replace q304 := eq_true q304
         refine start_ (n := 41) (S := fun w' => w'.cell? (ad302.add ((x3_1).toNat * 3)) = some (.int .i64 ((rd_T31 l0 x3_1).f0)) ∧ w'.cell? ⟨(ad302.add ((x3_1).toNat * 3)).block, (ad302.add ((x3_1).toNat * 3)).off + 1, none⟩ = some (.int .i64 ((rd_T31 l0 x3_1).f1.f0)) ∧ w'.cell? ⟨(ad302.add ((x3_1).toNat * 3)).block, (ad302.add ((x3_1).toNat * 3)).off + 2, none⟩ = some (.int .i64 ((rd_T31 l0 x3_1).f1.f1)) ∧ w'.cell? (ad302.add ((x3_1).toNat * 3)) = some (.int .i64 ((rd_T31 l0 x3_1).f0)) ∧ w'.cell? ⟨(ad302.add ((x3_1).toNat * 3)).block, (ad302.add ((x3_1).toNat * 3)).off + 1, none⟩ = some (.int .i64 ((rd_T31 l0 x3_1).f1.f0)) ∧ w'.cell? ⟨(ad302.add ((x3_1).toNat * 3)).block, (ad302.add ((x3_1).toNat * 3)).off + 2, none⟩ = some (.int .i64 ((rd_T31 l0 x3_1).f1.f1)) ∧ w'.cell? (ad302.add ((x3_1).toNat * 3)) = some (.int .i64 ((rd_T31 l0 x3_1).f0)) ∧ w'.cell? ⟨(ad302.add ((x3_1).toNat * 3)).block, (ad302.add ((x3_1).toNat * 3)).off + 1, none⟩ = some (.int .i64 ((rd_T31 l0 x3_1).f1.f0)) ∧ w'.cell? ⟨(ad302.add ((x3_1).toNat * 3)).block, (ad302.add ((x3_1).toNat * 3)).off + 2, none⟩ = some (.int .i64 ((rd_T31 l0 x3_1).f1.f1))) (ds := []) #[false, false, false, false, false, false, false, false, false, false, false, false, false, false, false, false, false, false, false, false, false, false, false, false, false, false, false, false, false, false, false, false, false, false, false, false, false, false, false, false, false] (by kernel_rfl) rfl rfl ⟨(cellB HB.out hw302_0), (cellB HB.out hw302_1), (cellB HB.out hw302_2), (cellB HB.out hw303_0), (cellB HB.out hw303_1), (cellB HB.out hw303_2), (cellB HB.out hw304_0), (cellB HB.out hw304_1), (cellB HB.out hw304_2)⟩ (fun hHeld => ?_); refine with_tabW marigraphref21_Right.tab4 marigraphref21_Right.bits4 (fun HT_ HW_ => ?_)
         generalize wr.drew = w19 at HB hx302_0 hx302_1 hx302_2 hx303_0 hx303_1 hx303_2 hx304_0 hx304_1 hx304_2 hHeld ⊢
         refine pA 0 (some 10) (bA 41 1) HT_.out ?_
         refine pA 1 (some 11) (bA 41 3) HT_.out ?_
         refine pA 2 (some 12) (bA 41 7) HT_.out ?_
         refine pA 3 (some 13) (bA 41 15) HT_.out ?_
         refine take_ (i := 4) (N := some 14) (v := ?_) (a' := ?_) (bA 41 31) rfl rfl (take_ofW HT_.out HW_.out (by kernel_rfl)) (fun _ _ _ h => h) (Or.inl ⟨by rfl, ?_⟩) hHeld ?_ ?_
         rotate_left
         ·rintro w' ⟨s0, s1, s2, s3, s4, s5, s6, s7, s8⟩
          go_simp
          with_reducible rfl
         rotate_left
         ·simp only [Act.put, List.setIfInBounds_toArray, List.set_cons_zero, List.set_cons_succ, i64_w, i32_w]
          rfl
         refine pA 5 (some 15) (bA 41 63) HT_.out ?_
         refine pA 6 (some 16) (bA 41 127) HT_.out ?_
         refine pA 7 (some 17) (bA 41 255) HT_.out ?_
         refine pA 8 (some 18) (bA 41 511) HT_.out ?_
         refine pA 9 (some 19) (bA 41 1023) HT_.out ?_
         refine pA 10 (some 20) (bA 41 2047) HT_.out ?_
         refine take_ (i := 11) (N := some 21) (v := ?_) (a' := ?_) (bA 41 4095) rfl rfl (take_ofW HT_.out HW_.out (by kernel_rfl)) (fun _ _ _ h => h) (Or.inl ⟨by rfl, ?_⟩) hHeld ?_ ?_
         rotate_left
         ·rintro w' ⟨s0, s1, s2, s3, s4, s5, s6, s7, s8⟩
          go_simp
          with_reducible rfl
         rotate_left
         ·simp only [Act.put, List.setIfInBounds_toArray, List.set_cons_zero, List.set_cons_succ, i64_w, i32_w]
          rfl
         refine pA 12 (some 22) (bA 41 8191) HT_.out ?_
         refine pA 13 (some 23) (bA 41 16383) HT_.out ?_
         refine pA 14 (some 24) (bA 41 32767) HT_.out ?_
         refine pA 15 (some 25) (bA 41 65535) HT_.out ?_
         refine pA 16 (some 26) (bA 41 131071) HT_.out ?_
         refine pA 17 (some 27) (bA 41 262143) HT_.out ?_
         refine pA 18 (some 28) (bA 41 524287) HT_.out ?_
         refine take_ (i := 19) (N := some 29) (v := ?_) (a' := ?_) (bA 41 1048575) rfl rfl (take_ofW HT_.out HW_.out (by kernel_rfl)) (fun _ _ _ h => h) (Or.inl ⟨by rfl, ?_⟩) hHeld ?_ ?_
         rotate_left
         ·rintro w' ⟨s0, s1, s2, s3, s4, s5, s6, s7, s8⟩
          go_simp
          with_reducible rfl
         rotate_left
         ·simp only [Act.put, List.setIfInBounds_toArray, List.set_cons_zero, List.set_cons_succ, i64_w, i32_w]
          rfl
         refine one_ (i := 20) (N := some 30) (bA 41 2097151) rfl rfl (one_of HT_.out (by kernel_rfl)) (by decide) (fun K hK => ?_)
         refine goes_ Try.func13 (by kernel_rfl) rfl #[.agg #[.int .i64 ((rd_T31 l0 x3_1).f1.f0), .int .i64 ((rd_T31 l0 x3_1).f1.f1)]] (by rfl) rfl rfl argN ?_
         with_reducible refine (marigraphref1_Right.calls k1 ((rd_T31 l0 x3_1).f1.f0) ((rd_T31 l0 x3_1).f1.f1) true _ A8.out).mono ?_
         rintro e w20 ⟨rfl, hb⟩
         refine ⟨_, rfl, ?_⟩
         have n0_ := Aside0.mk (below_step (belN HB.out) hb)
         clear HB
         have HB := n0_
         clear n0_
         (try clear hb)
         refine hK.out _ _ ⟨(cellB HB.out hw302_0), (cellB HB.out hw302_1), (cellB HB.out hw302_2), (cellB HB.out hw303_0), (cellB HB.out hw303_1), (cellB HB.out hw303_2), (cellB HB.out hw304_0), (cellB HB.out hw304_1), (cellB HB.out hw304_2)⟩ (fun hHeld => ?_)
         clear hK K
         refine norm_ (a' := ?_) ?_ ?_
         rotate_left
         ·show Act.put _ (some 30) _ = _
          simp only [Act.put, List.setIfInBounds_toArray, List.set_cons_zero, List.set_cons_succ, i64_w, i32_w]
          rfl
         refine pA 21 (some 31) (bA 41 4194303) HT_.out ?_
         refine pA 22 (some 32) (bA 41 8388607) HT_.out ?_
         refine pA 23 (some 33) (bA 41 16777215) HT_.out ?_
         refine pA 24 (some 34) (bA 41 33554431) HT_.out ?_
         refine pA 25 (some 35) (bA 41 67108863) HT_.out ?_
         refine pA 26 (some 36) (bA 41 134217727) HT_.out ?_
         refine pU 27 (some 37) (bA 41 268435455) HT_.out ?_
         refine pU 28 (some 38) (bA 41 536870911) HT_.out ?_
         refine pU 29 (some 39) (bA 41 1073741823) HT_.out ?_
         refine pU 30 (some 40) (bA 41 2147483647) HT_.out ?_
         refine pU 31 (some 41) (bA 41 4294967295) HT_.out ?_
         refine pU 32 (some 42) (bA 41 8589934591) HT_.out ?_
         refine pU 33 (some 43) (bA 41 17179869183) HT_.out ?_
         refine pU 34 (some 44) (bA 41 34359738367) HT_.out ?_
         refine pU 35 (some 45) (bA 41 68719476735) HT_.out ?_
         refine pU 36 (some 46) (bA 41 137438953471) HT_.out ?_
         refine pU 37 (some 47) (bA 41 274877906943) HT_.out ?_
         refine pU 38 (some 48) (bA 41 549755813887) HT_.out ?_
         refine pA 39 (some 49) (bA 41 1099511627775) HT_.out ?_
         refine pA 40 (some 50) (bA 41 2199023255551) HT_.out ?_
         refine done_ (done_of HT_.out (by kernel_rfl)) ?_
         try go_wp2
         go_roundg k1
         case measure => have := HK1.out; omega
         case rel => exact ⟨(wrap64 (x3_1 + 1)), (by first | rfl | (simp; done) | (simp [*]; done)), H', ⟨by have := HK1.out; omega⟩, ⟨(belN HB.out)⟩⟩
       ·replace c9 := Bool.eq_false_iff.mpr c9
        subst c9
        have H1 : (some false) = some r := by rw [if_neg (show ¬ (false = true) by decide)] at H; exact H
        clear H
        have H := H1
        clear H1
        obtain rfl := Option.some.inj H
        try go_wp2
        have n0_ := Aside0.mk (below_drew1 HB.out)
        clear HB
        have HB := n0_
        clear n0_
        have p302 : 0 ≤ (x3_1 : Int) := of_decide_eq_true (by first | (with_reducible assumption) | assumption)
        have q302 : x3_1 < (l0.length : Int) := of_decide_eq_true (by first | (with_reducible assumption) | assumption)
        obtain ⟨ad302, e302, hx302_0, hx302_1, hx302_2⟩ := at_T31 HR0.out x3_1 p302 q302
        have hw302_2 := hx302_2
        have hw302_1 := hx302_1
        have hw302_0 := hx302_0
        cases e302
        replace hx302_0 := cellB HB.out hx302_0
        replace hx302_1 := cellB HB.out hx302_1
        replace hx302_2 := cellB HB.out hx302_2
        replace p302 := eq_true p302
        replace q302 := eq_true q302
        have p303 : 0 ≤ (x3_1 : Int) := of_decide_eq_true (by first | (with_reducible assumption) | assumption)
        have q303 : x3_1 < (l0.length : Int) := of_decide_eq_true (by first | (with_reducible assumption) | assumption)
        obtain ⟨ad303, e303, hx303_0, hx303_1, hx303_2⟩ := at_T31 HR0.out x3_1 p303 q303
        have hw303_2 := hx303_2
        have hw303_1 := hx303_1
        have hw303_0 := hx303_0
        obtain rfl : ad302 = ad303 := (by injection e303)
        replace hx303_0 := cellB HB.out hx303_0
        replace hx303_1 := cellB HB.out hx303_1
        replace hx303_2 := cellB HB.out hx303_2
        replace p303 := eq_true p303
        replace q303 := eq_true q303
        have p304 : 0 ≤ (x3_1 : Int) := of_decide_eq_true (by first | (with_reducible assumption) | assumption)
        have q304 : x3_1 < (l0.length : Int) := of_decide_eq_true (by first | (with_reducible assumption) | assumption)
        obtain ⟨ad304, e304, hx304_0, hx304_1, hx304_2⟩ := at_T31 HR0.out x3_1 p304 q304
        have hw304_2 := hx304_2
        have hw304_1 := hx304_1
        have hw304_0 := hx304_0
        obtain rfl : ad302 = ad304 := (by injection e304)
        replace hx304_0 := cellB HB.out hx304_0
        replace hx304_1 := cellB HB.out hx304_1
        replace hx304_2 := cellB HB.out hx304_2
        replace p304 := eq_true p304
        replace q304 := eq_true q304
        refine start_ (n := 41) (S := fun w' => w'.cell? (ad302.add ((x3_1).toNat * 3)) = some (.int .i64 ((rd_T31 l0 x3_1).f0)) ∧ w'.cell? ⟨(ad302.add ((x3_1).toNat * 3)).block, (ad302.add ((x3_1).toNat * 3)).off + 1, none⟩ = some (.int .i64 ((rd_T31 l0 x3_1).f1.f0)) ∧ w'.cell? ⟨(ad302.add ((x3_1).toNat * 3)).block, (ad302.add ((x3_1).toNat * 3)).off + 2, none⟩ = some (.int .i64 ((rd_T31 l0 x3_1).f1.f1)) ∧ w'.cell? (ad302.add ((x3_1).toNat * 3)) = some (.int .i64 ((rd_T31 l0 x3_1).f0)) ∧ w'.cell? ⟨(ad302.add ((x3_1).toNat * 3)).block, (ad302.add ((x3_1).toNat * 3)).off + 1, none⟩ = some (.int .i64 ((rd_T31 l0 x3_1).f1.f0)) ∧ w'.cell? ⟨(ad302.add ((x3_1).toNat * 3)).block, (ad302.add ((x3_1).toNat * 3)).off + 2, none⟩ = some (.int .i64 ((rd_T31 l0 x3_1).f1.f1)) ∧ w'.cell? (ad302.add ((x3_1).toNat * 3)) = some (.int .i64 ((rd_T31 l0 x3_1).f0)) ∧ w'.cell? ⟨(ad302.add ((x3_1).toNat * 3)).block, (ad302.add ((x3_1).toNat * 3)).off + 1, none⟩ = some (.int .i64 ((rd_T31 l0 x3_1).f1.f0)) ∧ w'.cell? ⟨(ad302.add ((x3_1).toNat * 3)).block, (ad302.add ((x3_1).toNat * 3)).off + 2, none⟩ = some (.int .i64 ((rd_T31 l0 x3_1).f1.f1))) (ds := []) #[false, false, false, false, false, false, false, false, false, false, false, false, false, false, false, false, false, false, false, false, false, false, false, false, false, false, false, false, false, false, false, false, false, false, false, false, false, false, false, false, false] (by kernel_rfl) rfl rfl ⟨(cellB HB.out hw302_0), (cellB HB.out hw302_1), (cellB HB.out hw302_2), (cellB HB.out hw303_0), (cellB HB.out hw303_1), (cellB HB.out hw303_2), (cellB HB.out hw304_0), (cellB HB.out hw304_1), (cellB HB.out hw304_2)⟩ (fun hHeld => ?_); refine with_tabW marigraphref21_Right.tab4 marigraphref21_Right.bits4 (fun HT_ HW_ => ?_)
        generalize wr.drew = w21 at HB hx302_0 hx302_1 hx302_2 hx303_0 hx303_1 hx303_2 hx304_0 hx304_1 hx304_2 hHeld ⊢
        refine pA 0 (some 10) (bA 41 1) HT_.out ?_
        refine pA 1 (some 11) (bA 41 3) HT_.out ?_
        refine pA 2 (some 12) (bA 41 7) HT_.out ?_
        refine pA 3 (some 13) (bA 41 15) HT_.out ?_
        refine take_ (i := 4) (N := some 14) (v := ?_) (a' := ?_) (bA 41 31) rfl rfl (take_ofW HT_.out HW_.out (by kernel_rfl)) (fun _ _ _ h => h) (Or.inl ⟨by rfl, ?_⟩) hHeld ?_ ?_
        rotate_left
        ·rintro w' ⟨s0, s1, s2, s3, s4, s5, s6, s7, s8⟩
         go_simp
         with_reducible rfl
        rotate_left
        ·simp only [Act.put, List.setIfInBounds_toArray, List.set_cons_zero, List.set_cons_succ, i64_w, i32_w]
         rfl
        refine pA 5 (some 15) (bA 41 63) HT_.out ?_
        refine pA 6 (some 16) (bA 41 127) HT_.out ?_
        refine pA 7 (some 17) (bA 41 255) HT_.out ?_
        refine pA 8 (some 18) (bA 41 511) HT_.out ?_
        refine pA 9 (some 19) (bA 41 1023) HT_.out ?_
        refine pA 10 (some 20) (bA 41 2047) HT_.out ?_
        refine take_ (i := 11) (N := some 21) (v := ?_) (a' := ?_) (bA 41 4095) rfl rfl (take_ofW HT_.out HW_.out (by kernel_rfl)) (fun _ _ _ h => h) (Or.inl ⟨by rfl, ?_⟩) hHeld ?_ ?_
        rotate_left
        ·rintro w' ⟨s0, s1, s2, s3, s4, s5, s6, s7, s8⟩
         go_simp
         with_reducible rfl
        rotate_left
        ·simp only [Act.put, List.setIfInBounds_toArray, List.set_cons_zero, List.set_cons_succ, i64_w, i32_w]
         rfl
        refine pA 12 (some 22) (bA 41 8191) HT_.out ?_
        refine pA 13 (some 23) (bA 41 16383) HT_.out ?_
        refine pA 14 (some 24) (bA 41 32767) HT_.out ?_
        refine pA 15 (some 25) (bA 41 65535) HT_.out ?_
        refine pA 16 (some 26) (bA 41 131071) HT_.out ?_
        refine pA 17 (some 27) (bA 41 262143) HT_.out ?_
        refine pA 18 (some 28) (bA 41 524287) HT_.out ?_
        refine take_ (i := 19) (N := some 29) (v := ?_) (a' := ?_) (bA 41 1048575) rfl rfl (take_ofW HT_.out HW_.out (by kernel_rfl)) (fun _ _ _ h => h) (Or.inl ⟨by rfl, ?_⟩) hHeld ?_ ?_
        rotate_left
        ·rintro w' ⟨s0, s1, s2, s3, s4, s5, s6, s7, s8⟩
         go_simp
         with_reducible rfl
        rotate_left
        ·simp only [Act.put, List.setIfInBounds_toArray, List.set_cons_zero, List.set_cons_succ, i64_w, i32_w]
         rfl
        refine one_ (i := 20) (N := some 30) (bA 41 2097151) rfl rfl (one_of HT_.out (by kernel_rfl)) (by decide) (fun K hK => ?_)
        refine goes_ Try.func13 (by kernel_rfl) rfl #[.agg #[.int .i64 ((rd_T31 l0 x3_1).f1.f0), .int .i64 ((rd_T31 l0 x3_1).f1.f1)]] (by rfl) rfl rfl argN ?_
        with_reducible refine (marigraphref1_Right.calls k1 ((rd_T31 l0 x3_1).f1.f0) ((rd_T31 l0 x3_1).f1.f1) false _ A8.out).mono ?_
        rintro e w22 ⟨rfl, hb⟩
        refine ⟨_, rfl, ?_⟩
        have n0_ := Aside0.mk (below_step (belN HB.out) hb)
        clear HB
        have HB := n0_
        clear n0_
        (try clear hb)
        refine hK.out _ _ ⟨(cellB HB.out hw302_0), (cellB HB.out hw302_1), (cellB HB.out hw302_2), (cellB HB.out hw303_0), (cellB HB.out hw303_1), (cellB HB.out hw303_2), (cellB HB.out hw304_0), (cellB HB.out hw304_1), (cellB HB.out hw304_2)⟩ (fun hHeld => ?_)
        clear hK K
        refine norm_ (a' := ?_) ?_ ?_
        rotate_left
        ·show Act.put _ (some 30) _ = _
         simp only [Act.put, List.setIfInBounds_toArray, List.set_cons_zero, List.set_cons_succ, i64_w, i32_w]
         rfl
        refine pA 21 (some 31) (bA 41 4194303) HT_.out ?_
        refine pA 22 (some 32) (bA 41 8388607) HT_.out ?_
        refine pA 23 (some 33) (bA 41 16777215) HT_.out ?_
        refine pU 24 (some 34) (bA 41 33554431) HT_.out ?_
        refine pU 25 (some 35) (bA 41 67108863) HT_.out ?_
        refine pU 26 (some 36) (bA 41 134217727) HT_.out ?_
        refine pU 27 (some 37) (bA 41 268435455) HT_.out ?_
        refine pU 28 (some 38) (bA 41 536870911) HT_.out ?_
        refine pU 29 (some 39) (bA 41 1073741823) HT_.out ?_
        refine pU 30 (some 40) (bA 41 2147483647) HT_.out ?_
        refine pU 31 (some 41) (bA 41 4294967295) HT_.out ?_
        refine pU 32 (some 42) (bA 41 8589934591) HT_.out ?_
        refine pU 33 (some 43) (bA 41 17179869183) HT_.out ?_
        refine pU 34 (some 44) (bA 41 34359738367) HT_.out ?_
        refine pU 35 (some 45) (bA 41 68719476735) HT_.out ?_
        refine pU 36 (some 46) (bA 41 137438953471) HT_.out ?_
        refine pU 37 (some 47) (bA 41 274877906943) HT_.out ?_
        refine pU 38 (some 48) (bA 41 549755813887) HT_.out ?_
        refine pU 39 (some 49) (bA 41 1099511627775) HT_.out ?_
        refine pA 40 (some 50) (bA 41 2199023255551) HT_.out ?_
        refine done_ (done_of HT_.out (by kernel_rfl)) ?_
        try go_wp2
        go_ret
        exact ⟨by first | rfl | (simp [errW_none, errW_some] <;> rfl) | (simp [*, errW_none, errW_some] <;> rfl), (belN HB.out)⟩
    ·rw [if_neg c3] at H
     exact absurd H (by simp)
   ·rw [if_neg c2] at H
    have c2b0 : decide (x3_1 < (l0.length : Int)) = false := decide_eq_false c2
    clear c2
    obtain rfl := Option.some.inj H
    go_wp2
    go_ret
    exact ⟨by first | rfl | (simp [errW_none, errW_some] <;> rfl) | (simp [*, errW_none, errW_some] <;> rfl), (belN HB.out)⟩

end Go.Proofs.Ytlmhgjnlbokceaa.PDownTells

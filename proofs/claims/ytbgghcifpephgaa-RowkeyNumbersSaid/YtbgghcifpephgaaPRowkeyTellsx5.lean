/- The walk of the Go functions that a law reaches, told as plain functions; a program of this session has written it. No condition beyond the statement's own. -/
import Derived.Test.YtbgghcifpephgaaPRowkeyTellsx0
import Derived.Test.YtbgghcifpephgaaPRowkeyTellsx2
import Derived.Test.YtbgghcifpephgaaPRowkeyTellsx4
namespace Go.Proofs.Ytbgghcifpephgaa.PRowkeyTells
open Go.RowKit Go.Proofs.YtbgghcifpephgaaW.PrintWords Go.Proofs.YtbgghcifpephgaaW.PrintLast Go.Proofs.YtbgghcifpephgaaW.PrintMore
attribute [local go_sem] max2_int min2_int max_two min_two max_three min_three max_four min_four   -- for this text's walks alone
set_option linter.unusedVariables false
set_option linter.unusedSimpArgs false

/-! ### marigraphref14_Right: function 17 -/
mutual
def marigraphref14_Right.j0 : Nat → Bool → Int → Int → List (S23) → Option (Bool)
 | 0, _, _, _, _ => none
 | k + 1, x35, x197000, x197001, x197002 => if x35 = true then (some false) else (marigraphref14_Right.l0 k 0 x197000 x197001 x197002)
def marigraphref14_Right.l0 : Nat → Int → Int → Int → List (S23) → Option (Bool)
 | 0, _, _, _, _ => none
 | k + 1, x3, x197000, x197001, x197002 => if x3 < (x197002.length : Int) then (if 0 ≤ x3 then ((marigraphref14_id.f ((rd_T23 x197002 x3).f0)).bind fun t199 => (if t199 = true then ((marigraphref14_id.f ((rd_T23 x197002 x3).f1)).bind fun t201 => (if t201 = true then (if x3 > 0 then (if 0 ≤ (wrap64 (x3 - 1)) then (if (wrap64 (x3 - 1)) < (x197002.length : Int) then (if ((rd_T23 x197002 (wrap64 (x3 - 1))).f0) ≥ ((rd_T23 x197002 x3).f0) then (some false) else (marigraphref14_Right.l0 k (wrap64 (x3 + 1)) x197000 x197001 x197002)) else (none)) else (none)) else (marigraphref14_Right.l0 k (wrap64 (x3 + 1)) x197000 x197001 x197002)) else (some false))) else (some false))) else (none)) else (some true)
end
def marigraphref14_Right.f (k : Nat) (a0_0 : Int) (a0_1 : Int) (l0_2 : List (S23)) : Option (Bool) := (marigraphref14_id.f a0_0).bind fun t197 => (if t197 = true then (if a0_1 < 0 then (marigraphref14_Right.j0 k true a0_0 a0_1 l0_2) else (if a0_1 > 4294967295 then (marigraphref14_Right.j0 k true a0_0 a0_1 l0_2) else (if (Int.tmod a0_1 3600) = 0 then (if (l0_2.length : Int) < 1 then (marigraphref14_Right.j0 k true a0_0 a0_1 l0_2) else (marigraphref14_Right.j0 k (decide ((l0_2.length : Int) > 4)) a0_0 a0_1 l0_2)) else (marigraphref14_Right.j0 k true a0_0 a0_1 l0_2)))) else (marigraphref14_Right.j0 k true a0_0 a0_1 l0_2))
theorem marigraphref14_Right.mono_l : ∀ k, (∀ y0 y1 y2 y3, LeO (marigraphref14_Right.j0 k y0 y1 y2 y3) (marigraphref14_Right.j0 (k + 1) y0 y1 y2 y3)) ∧ (∀ y0 y1 y2 y3, LeO (marigraphref14_Right.l0 k y0 y1 y2 y3) (marigraphref14_Right.l0 (k + 1) y0 y1 y2 y3))
 | 0 => ⟨fun _ _ _ _ r h => by simp [marigraphref14_Right.j0] at h, fun _ _ _ _ r h => by simp [marigraphref14_Right.l0] at h⟩
 | k + 1 => by
  obtain ⟨ih0, ih1⟩ := marigraphref14_Right.mono_l k
  refine ⟨?_, ?_⟩
  ·intro y0 y1 y2 y3
   unfold marigraphref14_Right.j0
   repeat' first
   | (with_reducible exact ih0 _ _ _ _)
   | (with_reducible exact ih1 _ _ _ _)
   | (with_reducible exact LeO.refl _)
   | (with_reducible exact LeO.none _)
   | (with_reducible refine LeO.ite ?_ ?_)
   | (with_reducible refine LeO.bind ?_ (fun _ => ?_))
   | exact ih0 _ _ _ _
   | exact ih1 _ _ _ _
   | exact LeO.none _
   | refine LeO.ite ?_ ?_
   | refine LeO.bind ?_ (fun _ => ?_)
  ·intro y0 y1 y2 y3
   unfold marigraphref14_Right.l0
   repeat' first
   | (with_reducible exact ih0 _ _ _ _)
   | (with_reducible exact ih1 _ _ _ _)
   | (with_reducible exact LeO.refl _)
   | (with_reducible exact LeO.none _)
   | (with_reducible refine LeO.ite ?_ ?_)
   | (with_reducible refine LeO.bind ?_ (fun _ => ?_))
   | exact ih0 _ _ _ _
   | exact ih1 _ _ _ _
   | exact LeO.none _
   | refine LeO.ite ?_ ?_
   | refine LeO.bind ?_ (fun _ => ?_)
theorem marigraphref14_Right.mono : ∀ a0 a1 a2 k, LeO (marigraphref14_Right.f k a0 a1 a2) (marigraphref14_Right.f (k + 1) a0 a1 a2) := by
 intro a0 a1 a2 k
 obtain ⟨ih0, ih1⟩ := marigraphref14_Right.mono_l k
 unfold marigraphref14_Right.f
 repeat' first
   | (with_reducible exact ih0 _ _ _ _)
   | (with_reducible exact ih1 _ _ _ _)
   | (with_reducible exact LeO.refl _)
   | (with_reducible exact LeO.none _)
   | (with_reducible refine LeO.ite ?_ ?_)
   | (with_reducible refine LeO.bind ?_ (fun _ => ?_))
   | exact ih0 _ _ _ _
   | exact ih1 _ _ _ _
   | exact LeO.none _
   | refine LeO.ite ?_ ?_
   | refine LeO.bind ?_ (fun _ => ?_)
def marigraphref14_Right.T6 : Bool × List (List Nat × List Nat) := (true, [([], []), ([0], [0]), ([], []), ([1, 2], [1, 2]), ([3], [3]), ([4], [4]), ([5], [5]), ([6], [6]), ([7, 6], [7]), ([8], [8]), ([9, 8], [8, 9]), ([8], [8]), ([10, 11, 8], [8, 10, 11]), ([12, 8], [8, 12]), ([13, 8], [8, 13]), ([14, 8, 8], [8, 14]), ([15, 8], [8, 15]), ([8, 16], [8, 16]), ([17, 15], [17]), ([18], [18]), ([19, 18], [18, 19]), ([20, 18, 18], [18, 20]), ([21], [21]), ([22, 21], [21, 22]), ([21], [21]), ([24, 21], [21, 24]), ([23, 25, 21], [21, 23, 25]), ([26, 21], [21, 26]), ([27, 21], [21, 27]), ([21], [21]), ([29, 21], [21, 29]), ([21], [21]), ([30, 31, 21], [21, 30, 31]), ([32, 21], [21, 32]), ([33, 21], [21, 33]), ([28, 34, 21], [21, 28, 34]), ([21, 35, 18], [18, 21, 35]), ([18, 36], [18, 36])])
def marigraphref14_Right.B6 : List Nat := [0, 1, 0, 7, 15, 31, 63, 127, 255, 511, 1023, 511, 4095, 8191, 16383, 32767, 65535, 131071, 262143, 524287, 1048575, 2097151, 4194303, 8388607, 4194303, 20971519, 67108863, 134217727, 268435455, 4194303, 541065215, 4194303, 3762290687, 8057257983, 16647192575, 34359738367, 68719476735, 137438953471]
theorem marigraphref14_Right.tab6 : rtab .any (opsOf Try.f17 6) = marigraphref14_Right.T6 := by kernel_rfl
theorem marigraphref14_Right.bits6 : waitsOk marigraphref14_Right.T6.2 marigraphref14_Right.B6 = true := by kernel_rfl
set_option maxHeartbeats 8000000 in
set_option maxRecDepth 100000 in
theorem marigraphref14_Right.calls (k : Nat) (a0_0 : Int) (a0_1 : Int) (A0_2 : Option Addr) (c0_2 : Nat) (l0_2 : List (S23)) (r : Bool) (w : World) (hr0_2 : Kd.C k23 w A0_2 l0_2.length l0_2) (hc0_2 : l0_2.length ≤ c0_2) (h : marigraphref14_Right.f k a0_0 a0_1 l0_2 = some r) :
  Calls Try.prog 17 #[.agg #[.int .i64 a0_0, .int .i64 a0_1, .slice A0_2 l0_2.length c0_2]] w fun e w' => e = .returned (.bool r) ∧ Below w.heap.size w w' := by
 have hu26 := Try.underlying26
 have HR0_2 := Aside0.mk hr0_2
 have HC0_2 := Aside0.mk hc0_2
 clear hr0_2 hc0_2
 have HB := Aside0.mk (Below.refl w.heap.size w)
 have H : ((marigraphref14_id.f a0_0).bind fun t197 => (if t197 = true then (if a0_1 < 0 then (marigraphref14_Right.j0 k true a0_0 a0_1 l0_2) else (if a0_1 > 4294967295 then (marigraphref14_Right.j0 k true a0_0 a0_1 l0_2) else (if (Int.tmod a0_1 3600) = 0 then (if (l0_2.length : Int) < 1 then (marigraphref14_Right.j0 k true a0_0 a0_1 l0_2) else (marigraphref14_Right.j0 k (decide ((l0_2.length : Int) > 4)) a0_0 a0_1 l0_2)) else (marigraphref14_Right.j0 k true a0_0 a0_1 l0_2)))) else (marigraphref14_Right.j0 k true a0_0 a0_1 l0_2))) = some r := h
 clear h
 have HC2 := Aside0.mk H
 clear H
 go_enter Try.func17, Try.ntmps17
 go_upto_region 1 with (first | ((with_reducible refine gate_dst (N := 1) rfl ?_); (try (refine gate_guard (by rfl) ?_; dsimp only)); refine box_event ?hg (N := 1) ?hd (cs := #[.int .i64 a0_0, .int .i64 a0_1, .slice A0_2 l0_2.length c0_2]) (t := 26) ?hr ?_; (case hd => rfl); (case hg => rfl); (case hr => first | (go_simp; done) | (go_simp; rfl)); intro gb196 hg w3 hbox hb; have n0_ := Aside0.mk (below_step (belN HB.out) hb); have n1_ := Aside0.mk (hbox); have n2_ := Aside0.mk (szB hg HB.out); have n3_ := Aside0.mk (szB hg HB.out); clear HB; have HB := n0_; have BK196 := n1_; have GW196 := n2_; have GE196 := n3_; clear n0_ n1_ n2_ n3_; clear hb hbox hg))
 (try simp only [Act.put, List.setIfInBounds_toArray, List.set_cons_zero, List.set_cons_succ])
 go_cut [35] (fun v35 wc => ∃ (kq : Nat) (x35_1 : Bool), v35 = .bool x35_1 ∧ Aside0 (marigraphref14_Right.j0 kq x35_1 a0_0 a0_1 l0_2 = some r) ∧ Aside0 (kq ≤ k) ∧ Aside0 (wc.heap[gb196]? = some (.cells #[.int .i64 a0_0, .int .i64 a0_1, (.slice A0_2 l0_2.length c0_2)] 26 (0, 0))) ∧ Aside0 (Below w.heap.size w wc))
 case first =>
  have H := HC2.out
  clear HC2
  replace H := Option.bind_eq_some_iff.mp H
  obtain ⟨t197, A40, H⟩ := H
  replace H : (if t197 = true then (if a0_1 < 0 then (marigraphref14_Right.j0 k true a0_0 a0_1 l0_2) else (if a0_1 > 4294967295 then (marigraphref14_Right.j0 k true a0_0 a0_1 l0_2) else (if (Int.tmod a0_1 3600) = 0 then (if (l0_2.length : Int) < 1 then (marigraphref14_Right.j0 k true a0_0 a0_1 l0_2) else (marigraphref14_Right.j0 k (decide ((l0_2.length : Int) > 4)) a0_0 a0_1 l0_2)) else (marigraphref14_Right.j0 k true a0_0 a0_1 l0_2)))) else (marigraphref14_Right.j0 k true a0_0 a0_1 l0_2)) = some r := H
  have A4 := Aside0.mk A40
  clear A40
  by_cases c5 : t197 = true
  ·subst c5
   have H1 : (if a0_1 < 0 then (marigraphref14_Right.j0 k true a0_0 a0_1 l0_2) else (if a0_1 > 4294967295 then (marigraphref14_Right.j0 k true a0_0 a0_1 l0_2) else (if (Int.tmod a0_1 3600) = 0 then (if (l0_2.length : Int) < 1 then (marigraphref14_Right.j0 k true a0_0 a0_1 l0_2) else (marigraphref14_Right.j0 k (decide ((l0_2.length : Int) > 4)) a0_0 a0_1 l0_2)) else (marigraphref14_Right.j0 k true a0_0 a0_1 l0_2)))) = some r := by rw [if_pos rfl] at H; exact H
   clear H
   have H := H1
   clear H1
   by_cases c6 : a0_1 < 0
   ·rw [if_pos c6] at H
    have c6b0 : decide (a0_1 < 0) = true := decide_eq_true c6
    clear c6
    (first | rw [c6b0] | rw [c6b1] | (simp only [i64_w, i32_w]; rw [c6b0]) | skip)
    have H' := Aside0.mk H
    clear H
    have hcz7_0 : w3.cell? ⟨gb196, 0, none⟩ = some (.int .i64 a0_0) := (blk_cell BK196.out 0).trans rfl
    have hcz7_1 : w3.cell? ⟨gb196, 1, none⟩ = some (.int .i64 a0_1) := (blk_cell BK196.out 1).trans rfl
    have hcz7_2 : w3.cell? ⟨gb196, 2, none⟩ = some (.slice A0_2 l0_2.length c0_2) := (blk_cell BK196.out 2).trans rfl
    have hfz7_0 := blk_frozen BK196.out 0
    have hfz7_1 := blk_frozen BK196.out 1
    have hfz7_2 := blk_frozen BK196.out 2
    go_wp2_with (first | ((with_reducible refine gate_callee (f := 26) rfl ?_); refine goesL_ (some 6) rfl rfl Try.func26 (by kernel_rfl) rfl #[.int .i64 a0_0] rfl argN ?_; (with_reducible refine (marigraphref14_id.calls a0_0 true _ A4.out).mono ?_); rintro e w' ⟨rfl, ⟨nd, rfl⟩⟩; refine ⟨_, rfl, ?_⟩))
    go_meet
    case rel => exact ⟨_, (true), (by first | rfl | (simp; done) | (simp [*]; done)), H', ⟨by first | omega | exact Nat.le_refl _⟩, ⟨blkN BK196.out⟩, ⟨(belS HB.out)⟩⟩
   ·rw [if_neg c6] at H
    have c6b0 : decide (a0_1 < 0) = false := decide_eq_false c6
    clear c6
    (first | rw [c6b0] | rw [c6b1] | (simp only [i64_w, i32_w]; rw [c6b0]) | skip)
    by_cases c8 : a0_1 > 4294967295
    ·rw [if_pos c8] at H
     have c8b0 : decide (4294967295 < a0_1) = true := decide_eq_true c8
     clear c8
     have H' := Aside0.mk H
     clear H
     have hcz9_0 : w3.cell? ⟨gb196, 0, none⟩ = some (.int .i64 a0_0) := (blk_cell BK196.out 0).trans rfl
     have hcz9_1 : w3.cell? ⟨gb196, 1, none⟩ = some (.int .i64 a0_1) := (blk_cell BK196.out 1).trans rfl
     have hcz9_2 : w3.cell? ⟨gb196, 2, none⟩ = some (.slice A0_2 l0_2.length c0_2) := (blk_cell BK196.out 2).trans rfl
     have hfz9_0 := blk_frozen BK196.out 0
     have hfz9_1 := blk_frozen BK196.out 1
     have hfz9_2 := blk_frozen BK196.out 2
     go_wp2_with (first | ((with_reducible refine gate_callee (f := 26) rfl ?_); refine goesL_ (some 6) rfl rfl Try.func26 (by kernel_rfl) rfl #[.int .i64 a0_0] rfl argN ?_; (with_reducible refine (marigraphref14_id.calls a0_0 true _ A4.out).mono ?_); rintro e w' ⟨rfl, ⟨nd, rfl⟩⟩; refine ⟨_, rfl, ?_⟩))
     go_meet
     case rel => exact ⟨_, (true), (by first | rfl | (simp; done) | (simp [*]; done)), H', ⟨by first | omega | exact Nat.le_refl _⟩, ⟨blkN BK196.out⟩, ⟨(belS HB.out)⟩⟩
    ·rw [if_neg c8] at H
     have c8b0 : decide (4294967295 < a0_1) = false := decide_eq_false c8
     clear c8
     by_cases c10 : (Int.tmod a0_1 3600) = 0
     ·rw [if_pos c10] at H
      have c10b0 : ((Int.tmod a0_1 3600) == 0) = true := beq_iff_eq.mpr c10
      have c10b1 : ((Int.tmod a0_1 3600) != 0) = false := bne_eq_false_iff_eq.mpr c10
      clear c10
      by_cases c11 : (l0_2.length : Int) < 1
      ·rw [if_pos c11] at H
       have c11b0 : decide ((l0_2.length : Int) < 1) = true := decide_eq_true c11
       have c11b1 : decide (l0_2.length < 1) = true := decide_eq_true (by omega)
       clear c11
       have H' := Aside0.mk H
       clear H
       have hcz12_0 : w3.cell? ⟨gb196, 0, none⟩ = some (.int .i64 a0_0) := (blk_cell BK196.out 0).trans rfl
       have hcz12_1 : w3.cell? ⟨gb196, 1, none⟩ = some (.int .i64 a0_1) := (blk_cell BK196.out 1).trans rfl
       have hcz12_2 : w3.cell? ⟨gb196, 2, none⟩ = some (.slice A0_2 l0_2.length c0_2) := (blk_cell BK196.out 2).trans rfl
       have hfz12_0 := blk_frozen BK196.out 0
       have hfz12_1 := blk_frozen BK196.out 1
       have hfz12_2 := blk_frozen BK196.out 2
       go_wp2_with (first | ((with_reducible refine gate_callee (f := 26) rfl ?_); refine goesL_ (some 6) rfl rfl Try.func26 (by kernel_rfl) rfl #[.int .i64 a0_0] rfl argN ?_; (with_reducible refine (marigraphref14_id.calls a0_0 true _ A4.out).mono ?_); rintro e w' ⟨rfl, ⟨nd, rfl⟩⟩; refine ⟨_, rfl, ?_⟩))
       go_meet
       case rel => exact ⟨_, (true), (by first | rfl | (simp; done) | (simp [*]; done)), H', ⟨by first | omega | exact Nat.le_refl _⟩, ⟨blkN BK196.out⟩, ⟨(belS HB.out)⟩⟩
      ·rw [if_neg c11] at H
       have c11b0 : decide ((l0_2.length : Int) < 1) = false := decide_eq_false c11
       have c11b1 : decide (l0_2.length < 1) = false := decide_eq_false (by omega)
       clear c11
       have H' := Aside0.mk H
       clear H
       have hcz13_0 : w3.cell? ⟨gb196, 0, none⟩ = some (.int .i64 a0_0) := (blk_cell BK196.out 0).trans rfl
       have hcz13_1 : w3.cell? ⟨gb196, 1, none⟩ = some (.int .i64 a0_1) := (blk_cell BK196.out 1).trans rfl
       have hcz13_2 : w3.cell? ⟨gb196, 2, none⟩ = some (.slice A0_2 l0_2.length c0_2) := (blk_cell BK196.out 2).trans rfl
       have hfz13_0 := blk_frozen BK196.out 0
       have hfz13_1 := blk_frozen BK196.out 1
       have hfz13_2 := blk_frozen BK196.out 2
       go_wp2_with (first | ((with_reducible refine gate_callee (f := 26) rfl ?_); refine goesL_ (some 6) rfl rfl Try.func26 (by kernel_rfl) rfl #[.int .i64 a0_0] rfl argN ?_; (with_reducible refine (marigraphref14_id.calls a0_0 true _ A4.out).mono ?_); rintro e w' ⟨rfl, ⟨nd, rfl⟩⟩; refine ⟨_, rfl, ?_⟩))
       go_meet
       case rel => exact ⟨_, (decide ((l0_2.length : Int) > 4)), (by first | rfl | (simp; done) | (simp [*]; done)), H', ⟨by first | omega | exact Nat.le_refl _⟩, ⟨blkN BK196.out⟩, ⟨(belS HB.out)⟩⟩
     ·rw [if_neg c10] at H
      have c10b0 : ((Int.tmod a0_1 3600) == 0) = false := beq_eq_false_iff_ne.mpr c10
      have c10b1 : ((Int.tmod a0_1 3600) != 0) = true := bne_iff_ne.mpr c10
      have H' := Aside0.mk H
      clear H
      have hcz14_0 : w3.cell? ⟨gb196, 0, none⟩ = some (.int .i64 a0_0) := (blk_cell BK196.out 0).trans rfl
      have hcz14_1 : w3.cell? ⟨gb196, 1, none⟩ = some (.int .i64 a0_1) := (blk_cell BK196.out 1).trans rfl
      have hcz14_2 : w3.cell? ⟨gb196, 2, none⟩ = some (.slice A0_2 l0_2.length c0_2) := (blk_cell BK196.out 2).trans rfl
      have hfz14_0 := blk_frozen BK196.out 0
      have hfz14_1 := blk_frozen BK196.out 1
      have hfz14_2 := blk_frozen BK196.out 2
      go_wp2_with (first | ((with_reducible refine gate_callee (f := 26) rfl ?_); refine goesL_ (some 6) rfl rfl Try.func26 (by kernel_rfl) rfl #[.int .i64 a0_0] rfl argN ?_; (with_reducible refine (marigraphref14_id.calls a0_0 true _ A4.out).mono ?_); rintro e w' ⟨rfl, ⟨nd, rfl⟩⟩; refine ⟨_, rfl, ?_⟩))
      go_meet
      case rel => exact ⟨_, (true), (by first | rfl | (simp; done) | (simp [*]; done)), H', ⟨by first | omega | exact Nat.le_refl _⟩, ⟨blkN BK196.out⟩, ⟨(belS HB.out)⟩⟩
  ·replace c5 := Bool.eq_false_iff.mpr c5
   subst c5
   have H1 : (marigraphref14_Right.j0 k true a0_0 a0_1 l0_2) = some r := by rw [if_neg (show ¬ (false = true) by decide)] at H; exact H
   clear H
   have H := H1
   clear H1
   have H' := Aside0.mk H
   clear H
   have hcz15_0 : w3.cell? ⟨gb196, 0, none⟩ = some (.int .i64 a0_0) := (blk_cell BK196.out 0).trans rfl
   have hcz15_1 : w3.cell? ⟨gb196, 1, none⟩ = some (.int .i64 a0_1) := (blk_cell BK196.out 1).trans rfl
   have hcz15_2 : w3.cell? ⟨gb196, 2, none⟩ = some (.slice A0_2 l0_2.length c0_2) := (blk_cell BK196.out 2).trans rfl
   have hfz15_0 := blk_frozen BK196.out 0
   have hfz15_1 := blk_frozen BK196.out 1
   have hfz15_2 := blk_frozen BK196.out 2
   go_wp2_with (first | ((with_reducible refine gate_callee (f := 26) rfl ?_); refine goesL_ (some 6) rfl rfl Try.func26 (by kernel_rfl) rfl #[.int .i64 a0_0] rfl argN ?_; (with_reducible refine (marigraphref14_id.calls a0_0 false _ A4.out).mono ?_); rintro e w' ⟨rfl, ⟨nd, rfl⟩⟩; refine ⟨_, rfl, ?_⟩))
   go_meet
   case rel => exact ⟨_, (true), (by first | rfl | (simp; done) | (simp [*]; done)), H', ⟨by first | omega | exact Nat.le_refl _⟩, ⟨blkN BK196.out⟩, ⟨(belS HB.out)⟩⟩
 case rest =>
  clear HC2
  try clear c1
  try clear c2
  try clear p2
  try clear c5
  try clear c6
  try clear c6b0
  try clear c8
  try clear c8b0
  try clear c10
  try clear c10b0
  try clear c10b1
  try clear c11
  try clear c11b0
  try clear c11b1
  try clear hcz12_0
  try clear hcz12_1
  try clear hcz12_2
  try clear hcz13_0
  try clear hcz13_1
  try clear hcz13_2
  try clear hcz14_0
  try clear hcz14_1
  try clear hcz14_2
  try clear hcz15_0
  try clear hcz15_1
  try clear hcz15_2
  try clear hcz7_0
  try clear hcz7_1
  try clear hcz7_2
  try clear hcz9_0
  try clear hcz9_1
  try clear hcz9_2
  try clear hfz12_0
  try clear hfz12_1
  try clear hfz12_2
  try clear hfz13_0
  try clear hfz13_1
  try clear hfz13_2
  try clear hfz14_0
  try clear hfz14_1
  try clear hfz14_2
  try clear hfz15_0
  try clear hfz15_1
  try clear hfz15_2
  try clear hfz7_0
  try clear hfz7_1
  try clear hfz7_2
  try clear hfz9_0
  try clear hfz9_1
  try clear hfz9_2
  obtain ⟨kq, x35_1, rfl, HA, HJ1, BK196, HB⟩ := hcut
  cases kq with
  | zero => exact absurd HA.out (by simp [marigraphref14_Right.j0])
  | succ kj1 =>
   have H := HA.out
   clear HA
   simp only [marigraphref14_Right.j0] at H
   by_cases c16 : x35_1 = true
   ·subst c16
    have H1 : (some false) = some r := by rw [if_pos rfl] at H; exact H
    clear H
    have H := H1
    clear H1
    obtain rfl := Option.some.inj H
    go_wp2
    go_ret
    exact ⟨by first | rfl | (simp [errW_none, errW_some] <;> rfl) | (simp [*, errW_none, errW_some] <;> rfl), (belS HB.out)⟩
   ·replace c16 := Bool.eq_false_iff.mpr c16
    subst c16
    have H1 : (marigraphref14_Right.l0 kj1 0 a0_0 a0_1 l0_2) = some r := by rw [if_neg (show ¬ (false = true) by decide)] at H; exact H
    clear H
    have H := H1
    clear H1
    have H' := Aside0.mk H
    clear H
    go_wp2
    go_loopg [3] kj1 (fun kq v3 w' => ∃ (x3_2 : Int), v3 = .int .i64 x3_2 ∧ Aside0 (marigraphref14_Right.l0 kq x3_2 a0_0 a0_1 l0_2 = some r) ∧ Aside0 (kq ≤ kj1) ∧ Aside0 (w'.heap[gb196]? = some (.cells #[.int .i64 a0_0, .int .i64 a0_1, (.slice A0_2 l0_2.length c0_2)] 26 (0, 0))) ∧ Aside0 (Below w.heap.size w w'))
    case atStart => exact ⟨(0), (by first | rfl | (simp; done) | (simp [*]; done)), H', ⟨Nat.le_refl _⟩, ⟨blkN BK196.out⟩, ⟨(belS HB.out)⟩⟩
    case round =>
     clear H'
     try clear c1
     try clear c2
     try clear p2
     try clear c5
     try clear c6
     try clear c6b0
     try clear c8
     try clear c8b0
     try clear c10
     try clear c10b0
     try clear c10b1
     try clear c11
     try clear c11b0
     try clear c11b1
     try clear c16
     try clear hcz12_0
     try clear hcz12_1
     try clear hcz12_2
     try clear hcz13_0
     try clear hcz13_1
     try clear hcz13_2
     try clear hcz14_0
     try clear hcz14_1
     try clear hcz14_2
     try clear hcz15_0
     try clear hcz15_1
     try clear hcz15_2
     try clear hcz7_0
     try clear hcz7_1
     try clear hcz7_2
     try clear hcz9_0
     try clear hcz9_1
     try clear hcz9_2
     try clear hfz12_0
     try clear hfz12_1
     try clear hfz12_2
     try clear hfz13_0
     try clear hfz13_1
     try clear hfz13_2
     try clear hfz14_0
     try clear hfz14_1
     try clear hfz14_2
     try clear hfz15_0
     try clear hfz15_1
     try clear hfz15_2
     try clear hfz7_0
     try clear hfz7_1
     try clear hfz7_2
     try clear hfz9_0
     try clear hfz9_1
     try clear hfz9_2
     try clear p2
     obtain ⟨x3_2, rfl, HA, HK2, BK196, HB⟩ := hrel
     cases gk with
     | zero => exact absurd HA.out (by simp [marigraphref14_Right.l0])
     | succ k2 =>
      have H := HA.out
      clear HA
      simp only [marigraphref14_Right.l0] at H
      by_cases c17 : x3_2 < (l0_2.length : Int)
      ·rw [if_pos c17] at H
       have c17b0 : decide (x3_2 < (l0_2.length : Int)) = true := decide_eq_true c17
       clear c17
       by_cases c18 : 0 ≤ x3_2
       ·rw [if_pos c18] at H
        have c18b0 : decide (0 ≤ x3_2) = true := decide_eq_true c18
        clear c18
        replace H := Option.bind_eq_some_iff.mp H
        obtain ⟨t199, A190, H⟩ := H
        replace H : (if t199 = true then ((marigraphref14_id.f ((rd_T23 l0_2 x3_2).f1)).bind fun t201 => (if t201 = true then (if x3_2 > 0 then (if 0 ≤ (wrap64 (x3_2 - 1)) then (if (wrap64 (x3_2 - 1)) < (l0_2.length : Int) then (if ((rd_T23 l0_2 (wrap64 (x3_2 - 1))).f0) ≥ ((rd_T23 l0_2 x3_2).f0) then (some false) else (marigraphref14_Right.l0 k2 (wrap64 (x3_2 + 1)) a0_0 a0_1 l0_2)) else (none)) else (none)) else (marigraphref14_Right.l0 k2 (wrap64 (x3_2 + 1)) a0_0 a0_1 l0_2)) else (some false))) else (some false)) = some r := H
        have A19 := Aside0.mk A190
        clear A190
        by_cases c20 : t199 = true
        ·subst c20
         have H1 : ((marigraphref14_id.f ((rd_T23 l0_2 x3_2).f1)).bind fun t201 => (if t201 = true then (if x3_2 > 0 then (if 0 ≤ (wrap64 (x3_2 - 1)) then (if (wrap64 (x3_2 - 1)) < (l0_2.length : Int) then (if ((rd_T23 l0_2 (wrap64 (x3_2 - 1))).f0) ≥ ((rd_T23 l0_2 x3_2).f0) then (some false) else (marigraphref14_Right.l0 k2 (wrap64 (x3_2 + 1)) a0_0 a0_1 l0_2)) else (none)) else (none)) else (marigraphref14_Right.l0 k2 (wrap64 (x3_2 + 1)) a0_0 a0_1 l0_2)) else (some false))) = some r := by rw [if_pos rfl] at H; exact H
         clear H
         have H := H1
         clear H1
         replace H := Option.bind_eq_some_iff.mp H
         obtain ⟨t201, A210, H⟩ := H
         replace H : (if t201 = true then (if x3_2 > 0 then (if 0 ≤ (wrap64 (x3_2 - 1)) then (if (wrap64 (x3_2 - 1)) < (l0_2.length : Int) then (if ((rd_T23 l0_2 (wrap64 (x3_2 - 1))).f0) ≥ ((rd_T23 l0_2 x3_2).f0) then (some false) else (marigraphref14_Right.l0 k2 (wrap64 (x3_2 + 1)) a0_0 a0_1 l0_2)) else (none)) else (none)) else (marigraphref14_Right.l0 k2 (wrap64 (x3_2 + 1)) a0_0 a0_1 l0_2)) else (some false)) = some r := H
         have A21 := Aside0.mk A210
         clear A210
         by_cases c22 : t201 = true
         ·subst c22
          have H1 : (if x3_2 > 0 then (if 0 ≤ (wrap64 (x3_2 - 1)) then (if (wrap64 (x3_2 - 1)) < (l0_2.length : Int) then (if ((rd_T23 l0_2 (wrap64 (x3_2 - 1))).f0) ≥ ((rd_T23 l0_2 x3_2).f0) then (some false) else (marigraphref14_Right.l0 k2 (wrap64 (x3_2 + 1)) a0_0 a0_1 l0_2)) else (none)) else (none)) else (marigraphref14_Right.l0 k2 (wrap64 (x3_2 + 1)) a0_0 a0_1 l0_2)) = some r := by rw [if_pos rfl] at H; exact H
          clear H
          have H := H1
          clear H1
          by_cases c23 : x3_2 > 0
          ·rw [if_pos c23] at H
           have c23b0 : decide (0 < x3_2) = true := decide_eq_true c23
           clear c23
           obtain ⟨ji24, hji24⟩ : ∃ j_ : Int, (wrap64 (x3_2 - 1)) = j_ := ⟨_, rfl⟩
           replace H : (if 0 ≤ (ji24) then (if (ji24) < (l0_2.length : Int) then (if ((rd_T23 l0_2 (ji24)).f0) ≥ ((rd_T23 l0_2 x3_2).f0) then (some false) else (marigraphref14_Right.l0 k2 (wrap64 (x3_2 + 1)) a0_0 a0_1 l0_2)) else (none)) else (none)) = some r := by first | (rw [hji24] at H; exact H) | (simp only [hji24] at H ⊢; exact H)
           (try rw [hji24] at A19)
           (try rw [hji24] at A21)
           have hji24w : (IntKind.i64.wrap (x3_2 - 1)) = ji24 := (i64_w _).trans hji24
           by_cases c25 : 0 ≤ (ji24)
           ·rw [if_pos c25] at H
            have c25b0 : decide (0 ≤ (ji24)) = true := decide_eq_true c25
            clear c25
            by_cases c26 : (ji24) < (l0_2.length : Int)
            ·rw [if_pos c26] at H
             have c26b0 : decide ((ji24) < (l0_2.length : Int)) = true := decide_eq_true c26
             clear c26
             by_cases c27 : ((rd_T23 l0_2 (ji24)).f0) ≥ ((rd_T23 l0_2 x3_2).f0)
             ·rw [if_pos c27] at H
              have c27b0 : decide (((rd_T23 l0_2 x3_2).f0) ≤ ((rd_T23 l0_2 (ji24)).f0)) = true := decide_eq_true c27
              clear c27
              obtain rfl := Option.some.inj H
              have hcz28_0 : wr.cell? ⟨gb196, 0, none⟩ = some (.int .i64 a0_0) := (blk_cell BK196.out 0).trans rfl
              have hcz28_1 : wr.cell? ⟨gb196, 1, none⟩ = some (.int .i64 a0_1) := (blk_cell BK196.out 1).trans rfl
              have hcz28_2 : wr.cell? ⟨gb196, 2, none⟩ = some (.slice A0_2 l0_2.length c0_2) := (blk_cell BK196.out 2).trans rfl
              have hfz28_0 := blk_frozen BK196.out 0
              have hfz28_1 := blk_frozen BK196.out 1
              have hfz28_2 := blk_frozen BK196.out 2
              try go_wp2
              have n0_ := Aside0.mk (blk_drew BK196.out)
              have n1_ := Aside0.mk (below_drew1 HB.out)
              clear BK196
              clear HB
              have BK196 := n0_
              have HB := n1_
              clear n0_ n1_
              have p198 : 0 ≤ (x3_2 : Int) := of_decide_eq_true (by first | (with_reducible assumption) | assumption)
              have q198 : x3_2 < (l0_2.length : Int) := of_decide_eq_true (by first | (with_reducible assumption) | assumption)
              obtain ⟨ad198, e198, hx198_0, hx198_1⟩ := at_T23 HR0_2.out x3_2 p198 q198
              have hw198_1 := hx198_1
              have hw198_0 := hx198_0
              cases e198
              (try replace hx198_0 := cellB HB.out hx198_0)
              (try replace hx198_1 := cellB HB.out hx198_1)
              replace p198 := eq_true p198
              replace q198 := eq_true q198
              have p200 : 0 ≤ (x3_2 : Int) := of_decide_eq_true (by first | (with_reducible assumption) | assumption)
              have q200 : x3_2 < (l0_2.length : Int) := of_decide_eq_true (by first | (with_reducible assumption) | assumption)
              obtain ⟨ad200, e200, hx200_0, hx200_1⟩ := at_T23 HR0_2.out x3_2 p200 q200
              have hw200_1 := hx200_1
              have hw200_0 := hx200_0
              obtain rfl : ad198 = ad200 := (by injection e200)
              (try replace hx200_0 := cellB HB.out hx200_0)
              (try replace hx200_1 := cellB HB.out hx200_1)
              replace p200 := eq_true p200
              replace q200 := eq_true q200
              have p202 : 0 ≤ ((ji24) : Int) := of_decide_eq_true (by first | (with_reducible assumption) | assumption)
              have q202 : (ji24) < (l0_2.length : Int) := of_decide_eq_true (by first | (with_reducible assumption) | assumption)
              obtain ⟨ad202, e202, hx202_0, hx202_1⟩ := at_T23 HR0_2.out (ji24) p202 q202
              have hw202_1 := hx202_1
              have hw202_0 := hx202_0
              obtain rfl : ad198 = ad202 := (by injection e202)
              (try replace hx202_0 := cellB HB.out hx202_0)
              (try replace hx202_1 := cellB HB.out hx202_1)
              replace p202 := eq_true p202
              replace q202 := eq_true q202
              have p203 : 0 ≤ (x3_2 : Int) := of_decide_eq_true (by first | (with_reducible assumption) | assumption)
              have q203 : x3_2 < (l0_2.length : Int) := of_decide_eq_true (by first | (with_reducible assumption) | assumption)
              obtain ⟨ad203, e203, hx203_0, hx203_1⟩ := at_T23 HR0_2.out x3_2 p203 q203
              have hw203_1 := hx203_1
              have hw203_0 := hx203_0
              obtain rfl : ad198 = ad203 := (by injection e203)
              (try replace hx203_0 := cellB HB.out hx203_0)
              (try replace hx203_1 := cellB HB.out hx203_1)
              replace p203 := eq_true p203
              replace q203 := eq_true q203
              refine start_ (n := 38) (S := fun w' => w'.cell? ⟨gb196, 0, none⟩ = some (.int .i64 a0_0) ∧ w'.cell? ⟨gb196, 1, none⟩ = some (.int .i64 a0_1) ∧ w'.cell? ⟨gb196, 2, none⟩ = some (.slice (some ad198) l0_2.length c0_2) ∧ w'.cell? (ad198.add ((x3_2).toNat * 2)) = some (.int .i64 ((rd_T23 l0_2 x3_2).f0)) ∧ w'.cell? ⟨(ad198.add ((x3_2).toNat * 2)).block, (ad198.add ((x3_2).toNat * 2)).off + 1, none⟩ = some (.int .i64 ((rd_T23 l0_2 x3_2).f1)) ∧ w'.cell? (ad198.add ((x3_2).toNat * 2)) = some (.int .i64 ((rd_T23 l0_2 x3_2).f0)) ∧ w'.cell? ⟨(ad198.add ((x3_2).toNat * 2)).block, (ad198.add ((x3_2).toNat * 2)).off + 1, none⟩ = some (.int .i64 ((rd_T23 l0_2 x3_2).f1)) ∧ w'.cell? (ad198.add (((ji24)).toNat * 2)) = some (.int .i64 ((rd_T23 l0_2 (ji24)).f0)) ∧ w'.cell? ⟨(ad198.add (((ji24)).toNat * 2)).block, (ad198.add (((ji24)).toNat * 2)).off + 1, none⟩ = some (.int .i64 ((rd_T23 l0_2 (ji24)).f1)) ∧ w'.cell? (ad198.add ((x3_2).toNat * 2)) = some (.int .i64 ((rd_T23 l0_2 x3_2).f0)) ∧ w'.cell? ⟨(ad198.add ((x3_2).toNat * 2)).block, (ad198.add ((x3_2).toNat * 2)).off + 1, none⟩ = some (.int .i64 ((rd_T23 l0_2 x3_2).f1))) (ds := []) #[false, false, false, false, false, false, false, false, false, false, false, false, false, false, false, false, false, false, false, false, false, false, false, false, false, false, false, false, false, false, false, false, false, false, false, false, false, false] (by kernel_rfl) rfl rfl ⟨(blk_cell BK196.out 0).trans rfl, (blk_cell BK196.out 1).trans rfl, (blk_cell BK196.out 2).trans rfl, (cellB HB.out hw198_0), (cellB HB.out hw198_1), (cellB HB.out hw200_0), (cellB HB.out hw200_1), (cellB HB.out hw202_0), (cellB HB.out hw202_1), (cellB HB.out hw203_0), (cellB HB.out hw203_1)⟩ (fun hHeld => ?_); refine with_tabW marigraphref14_Right.tab6 marigraphref14_Right.bits6 (fun HT_ HW_ => ?_)
              generalize wr.drew = w29 at BK196 HB hx198_0 hx198_1 hx200_0 hx200_1 hx202_0 hx202_1 hx203_0 hx203_1 hHeld ⊢
              refine pA 0 (some 43) (bA 38 1) HT_.out ?_
              refine pA 2 (some 45) (bA 38 5) HT_.out ?_
              refine take_ (i := 1) (N := some 44) (v := ?_) (a' := ?_) (bA 38 7) rfl rfl (take_ofW HT_.out HW_.out (by kernel_rfl)) (fun _ _ _ h => h) (Or.inl ⟨by rfl, ?_⟩) hHeld ?_ ?_
              rotate_left
              ·rintro w' ⟨s0, s1, s2, s3, s4, s5, s6, s7, s8, s9, s10⟩
               go_simp
               with_reducible rfl
              rotate_left
              ·simp only [Act.put, List.setIfInBounds_toArray, List.set_cons_zero, List.set_cons_succ, i64_w, i32_w]
               rfl
              refine pA 3 (some 46) (bA 38 15) HT_.out ?_
              refine pA 4 (some 47) (bA 38 31) HT_.out ?_
              refine take_ (i := 5) (N := some 48) (v := ?_) (a' := ?_) (bA 38 63) rfl rfl (take_ofW HT_.out HW_.out (by kernel_rfl)) (fun _ _ _ h => h) (Or.inl ⟨by rfl, ?_⟩) hHeld ?_ ?_
              rotate_left
              ·rintro w' ⟨s0, s1, s2, s3, s4, s5, s6, s7, s8, s9, s10⟩
               go_simp
               with_reducible rfl
              rotate_left
              ·simp only [Act.put, List.setIfInBounds_toArray, List.set_cons_zero, List.set_cons_succ, i64_w, i32_w]
               rfl
              refine one_ (i := 6) (N := some 49) (bA 38 127) rfl rfl (one_of HT_.out (by kernel_rfl)) (by decide) (fun K hK => ?_)
              refine goes_ Try.func26 (by kernel_rfl) rfl #[.int .i64 ((rd_T23 l0_2 x3_2).f0)] (by rfl) rfl rfl argN ?_
              with_reducible refine (marigraphref14_id.calls ((rd_T23 l0_2 x3_2).f0) true _ A19.out).mono ?_
              rintro e w' ⟨rfl, ⟨nd, rfl⟩⟩
              refine ⟨_, rfl, ?_⟩
              refine hK.out _ _ ⟨(blk_cell BK196.out 0).trans rfl, (blk_cell BK196.out 1).trans rfl, (blk_cell BK196.out 2).trans rfl, hHeld.2.2.2.1, hHeld.2.2.2.2.1, hHeld.2.2.2.2.2.1, hHeld.2.2.2.2.2.2.1, hHeld.2.2.2.2.2.2.2.1, hHeld.2.2.2.2.2.2.2.2.1, hHeld.2.2.2.2.2.2.2.2.2.1, hHeld.2.2.2.2.2.2.2.2.2.2⟩ (fun hHeld => ?_)
              clear hK K
              refine norm_ (a' := ?_) ?_ ?_
              rotate_left
              ·show Act.put _ (some 49) _ = _
               simp only [Act.put, List.setIfInBounds_toArray, List.set_cons_zero, List.set_cons_succ, i64_w, i32_w]
               rfl
              refine pA 7 (some 50) (bA 38 255) HT_.out ?_
              refine pA 8 (some 51) (bA 38 511) HT_.out ?_
              refine pA 9 (some 52) (bA 38 1023) HT_.out ?_
              refine pA 11 (some 54) (bA 38 3071) HT_.out ?_
              refine take_ (i := 10) (N := some 53) (v := ?_) (a' := ?_) (bA 38 4095) rfl rfl (take_ofW HT_.out HW_.out (by kernel_rfl)) (fun _ _ _ h => h) (Or.inl ⟨by rfl, ?_⟩) hHeld ?_ ?_
              rotate_left
              ·rintro w' ⟨s0, s1, s2, s3, s4, s5, s6, s7, s8, s9, s10⟩
               go_simp
               with_reducible rfl
              rotate_left
              ·simp only [Act.put, List.setIfInBounds_toArray, List.set_cons_zero, List.set_cons_succ, i64_w, i32_w]
               rfl
              refine pA 12 (some 55) (bA 38 8191) HT_.out ?_
              refine pA 13 (some 56) (bA 38 16383) HT_.out ?_
              refine take_ (i := 14) (N := some 57) (v := ?_) (a' := ?_) (bA 38 32767) rfl rfl (take_ofW HT_.out HW_.out (by kernel_rfl)) (fun _ _ _ h => h) (Or.inl ⟨by rfl, ?_⟩) hHeld ?_ ?_
              rotate_left
              ·rintro w' ⟨s0, s1, s2, s3, s4, s5, s6, s7, s8, s9, s10⟩
               go_simp
               with_reducible rfl
              rotate_left
              ·simp only [Act.put, List.setIfInBounds_toArray, List.set_cons_zero, List.set_cons_succ, i64_w, i32_w]
               rfl
              refine one_ (i := 15) (N := some 58) (bA 38 65535) rfl rfl (one_of HT_.out (by kernel_rfl)) (by decide) (fun K hK => ?_)
              refine goes_ Try.func26 (by kernel_rfl) rfl #[.int .i64 ((rd_T23 l0_2 x3_2).f1)] (by rfl) rfl rfl argN ?_
              with_reducible refine (marigraphref14_id.calls ((rd_T23 l0_2 x3_2).f1) true _ A21.out).mono ?_
              rintro e w' ⟨rfl, ⟨nd, rfl⟩⟩
              refine ⟨_, rfl, ?_⟩
              refine hK.out _ _ ⟨(blk_cell BK196.out 0).trans rfl, (blk_cell BK196.out 1).trans rfl, (blk_cell BK196.out 2).trans rfl, hHeld.2.2.2.1, hHeld.2.2.2.2.1, hHeld.2.2.2.2.2.1, hHeld.2.2.2.2.2.2.1, hHeld.2.2.2.2.2.2.2.1, hHeld.2.2.2.2.2.2.2.2.1, hHeld.2.2.2.2.2.2.2.2.2.1, hHeld.2.2.2.2.2.2.2.2.2.2⟩ (fun hHeld => ?_)
              clear hK K
              refine norm_ (a' := ?_) ?_ ?_
              rotate_left
              ·show Act.put _ (some 58) _ = _
               simp only [Act.put, List.setIfInBounds_toArray, List.set_cons_zero, List.set_cons_succ, i64_w, i32_w]
               rfl
              refine pA 16 (some 59) (bA 38 131071) HT_.out ?_
              refine pA 17 (some 60) (bA 38 262143) HT_.out ?_
              refine pA 18 (some 61) (bA 38 524287) HT_.out ?_
              refine pA 19 (some 62) (bA 38 1048575) HT_.out ?_
              refine pA 20 (some 63) (bA 38 2097151) HT_.out ?_
              refine pA 21 (some 64) (bA 38 4194303) HT_.out ?_
              refine pA 22 (some 65) (bA 38 8388607) HT_.out ?_
              refine pA 24 (some 67) (bA 38 25165823) HT_.out ?_
              refine pA 25 (some 68) (bA 38 58720255) HT_.out ?_
              refine pA 29 (some 72) (bA 38 595591167) HT_.out ?_
              refine pA 31 (some 74) (bA 38 2743074815) HT_.out ?_
              refine take_ (i := 23) (N := some 66) (v := ?_) (a' := ?_) (bA 38 2751463423) rfl rfl (take_ofW HT_.out HW_.out (by kernel_rfl)) (fun _ _ _ h => h) (Or.inl ⟨by rfl, ?_⟩) hHeld ?_ ?_
              rotate_left
              ·rintro w' ⟨s0, s1, s2, s3, s4, s5, s6, s7, s8, s9, s10⟩
               go_simp
               with_reducible rfl
              rotate_left
              ·simp only [Act.put, List.setIfInBounds_toArray, List.set_cons_zero, List.set_cons_succ, i64_w, i32_w]
               rfl
              refine pA 26 (some 69) (bA 38 2818572287) HT_.out ?_
              refine pA 27 (some 70) (bA 38 2952790015) HT_.out ?_
              refine take_ (i := 28) (N := some 71) (v := ?_) (a' := ?_) (bA 38 3221225471) rfl rfl (take_ofW HT_.out HW_.out (by kernel_rfl)) (fun _ _ _ h => h) (Or.inl ⟨by rfl, ?_⟩) hHeld ?_ ?_
              rotate_left
              ·rintro w' ⟨s0, s1, s2, s3, s4, s5, s6, s7, s8, s9, s10⟩
               go_simp
               with_reducible rfl
              rotate_left
              ·simp only [Act.put, List.setIfInBounds_toArray, List.set_cons_zero, List.set_cons_succ, i64_w, i32_w]
               rfl
              refine take_ (i := 30) (N := some 73) (v := ?_) (a' := ?_) (bA 38 4294967295) rfl rfl (take_ofW HT_.out HW_.out (by kernel_rfl)) (fun _ _ _ h => h) (Or.inl ⟨by rfl, ?_⟩) hHeld ?_ ?_
              rotate_left
              ·rintro w' ⟨s0, s1, s2, s3, s4, s5, s6, s7, s8, s9, s10⟩
               go_simp
               with_reducible rfl
              rotate_left
              ·simp only [Act.put, List.setIfInBounds_toArray, List.set_cons_zero, List.set_cons_succ, i64_w, i32_w]
               rfl
              refine pA 32 (some 75) (bA 38 8589934591) HT_.out ?_
              refine pA 33 (some 76) (bA 38 17179869183) HT_.out ?_
              refine take_ (i := 34) (N := some 77) (v := ?_) (a' := ?_) (bA 38 34359738367) rfl rfl (take_ofW HT_.out HW_.out (by kernel_rfl)) (fun _ _ _ h => h) (Or.inl ⟨by rfl, ?_⟩) hHeld ?_ ?_
              rotate_left
              ·rintro w' ⟨s0, s1, s2, s3, s4, s5, s6, s7, s8, s9, s10⟩
               go_simp
               with_reducible rfl
              rotate_left
              ·simp only [Act.put, List.setIfInBounds_toArray, List.set_cons_zero, List.set_cons_succ, i64_w, i32_w]
               rfl
              refine pA 35 (some 78) (bA 38 68719476735) HT_.out ?_
              refine pA 36 (some 79) (bA 38 137438953471) HT_.out ?_
              refine pA 37 (some 80) (bA 38 274877906943) HT_.out ?_
              refine done_ (done_of HT_.out (by kernel_rfl)) ?_
              try go_wp2
              go_ret
              exact ⟨by first | rfl | (simp [errW_none, errW_some] <;> rfl) | (simp only [← hji24]; first | rfl | (simp [errW_none, errW_some] <;> rfl)) | (simp [*, errW_none, errW_some] <;> rfl), (belS HB.out)⟩
             ·rw [if_neg c27] at H
              have c27b0 : decide (((rd_T23 l0_2 x3_2).f0) ≤ ((rd_T23 l0_2 (ji24)).f0)) = false := decide_eq_false c27
              clear c27
              have H' := Aside0.mk H
              clear H
              have hcz30_0 : wr.cell? ⟨gb196, 0, none⟩ = some (.int .i64 a0_0) := (blk_cell BK196.out 0).trans rfl
              have hcz30_1 : wr.cell? ⟨gb196, 1, none⟩ = some (.int .i64 a0_1) := (blk_cell BK196.out 1).trans rfl
              have hcz30_2 : wr.cell? ⟨gb196, 2, none⟩ = some (.slice A0_2 l0_2.length c0_2) := (blk_cell BK196.out 2).trans rfl
              have hfz30_0 := blk_frozen BK196.out 0
              have hfz30_1 := blk_frozen BK196.out 1
              have hfz30_2 := blk_frozen BK196.out 2
              try go_wp2
              have n0_ := Aside0.mk (blk_drew BK196.out)
              have n1_ := Aside0.mk (below_drew1 HB.out)
              clear BK196
              clear HB
              have BK196 := n0_
              have HB := n1_
              clear n0_ n1_
              have p198 : 0 ≤ (x3_2 : Int) := of_decide_eq_true (by first | (with_reducible assumption) | assumption)
              have q198 : x3_2 < (l0_2.length : Int) := of_decide_eq_true (by first | (with_reducible assumption) | assumption)
              obtain ⟨ad198, e198, hx198_0, hx198_1⟩ := at_T23 HR0_2.out x3_2 p198 q198
              have hw198_1 := hx198_1
              have hw198_0 := hx198_0
              cases e198
              (try replace hx198_0 := cellB HB.out hx198_0)
              (try replace hx198_1 := cellB HB.out hx198_1)
              replace p198 := eq_true p198
              replace q198 := eq_true q198
              have p200 : 0 ≤ (x3_2 : Int) := of_decide_eq_true (by first | (with_reducible assumption) | assumption)
              have q200 : x3_2 < (l0_2.length : Int) := of_decide_eq_true (by first | (with_reducible assumption) | assumption)
              obtain ⟨ad200, e200, hx200_0, hx200_1⟩ := at_T23 HR0_2.out x3_2 p200 q200
              have hw200_1 := hx200_1
              have hw200_0 := hx200_0
              obtain rfl : ad198 = ad200 := (by injection e200)
              (try replace hx200_0 := cellB HB.out hx200_0)
              (try replace hx200_1 := cellB HB.out hx200_1)
              replace p200 := eq_true p200
              replace q200 := eq_true q200
              have p202 : 0 ≤ ((ji24) : Int) := of_decide_eq_true (by first | (with_reducible assumption) | assumption)
              have q202 : (ji24) < (l0_2.length : Int) := of_decide_eq_true (by first | (with_reducible assumption) | assumption)
              obtain ⟨ad202, e202, hx202_0, hx202_1⟩ := at_T23 HR0_2.out (ji24) p202 q202
              have hw202_1 := hx202_1
              have hw202_0 := hx202_0
              obtain rfl : ad198 = ad202 := (by injection e202)
              (try replace hx202_0 := cellB HB.out hx202_0)
              (try replace hx202_1 := cellB HB.out hx202_1)
              replace p202 := eq_true p202
              replace q202 := eq_true q202
              have p203 : 0 ≤ (x3_2 : Int) := of_decide_eq_true (by first | (with_reducible assumption) | assumption)
              have q203 : x3_2 < (l0_2.length : Int) := of_decide_eq_true (by first | (with_reducible assumption) | assumption)
              obtain ⟨ad203, e203, hx203_0, hx203_1⟩ := at_T23 HR0_2.out x3_2 p203 q203
              have hw203_1 := hx203_1
              have hw203_0 := hx203_0
              obtain rfl : ad198 = ad203 := (by injection e203)
              (try replace hx203_0 := cellB HB.out hx203_0)
              (try replace hx203_1 := cellB HB.out hx203_1)
              replace p203 := eq_true p203
              replace q203 := eq_true q203
              refine start_ (n := 38) (S := fun w' => w'.cell? ⟨gb196, 0, none⟩ = some (.int .i64 a0_0) ∧ w'.cell? ⟨gb196, 1, none⟩ = some (.int .i64 a0_1) ∧ w'.cell? ⟨gb196, 2, none⟩ = some (.slice (some ad198) l0_2.length c0_2) ∧ w'.cell? (ad198.add ((x3_2).toNat * 2)) = some (.int .i64 ((rd_T23 l0_2 x3_2).f0)) ∧ w'.cell? ⟨(ad198.add ((x3_2).toNat * 2)).block, (ad198.add ((x3_2).toNat * 2)).off + 1, none⟩ = some (.int .i64 ((rd_T23 l0_2 x3_2).f1)) ∧ w'.cell? (ad198.add ((x3_2).toNat * 2)) = some (.int .i64 ((rd_T23 l0_2 x3_2).f0)) ∧ w'.cell? ⟨(ad198.add ((x3_2).toNat * 2)).block, (ad198.add ((x3_2).toNat * 2)).off + 1, none⟩ = some (.int .i64 ((rd_T23 l0_2 x3_2).f1)) ∧ w'.cell? (ad198.add (((ji24)).toNat * 2)) = some (.int .i64 ((rd_T23 l0_2 (ji24)).f0)) ∧ w'.cell? ⟨(ad198.add (((ji24)).toNat * 2)).block, (ad198.add (((ji24)).toNat * 2)).off + 1, none⟩ = some (.int .i64 ((rd_T23 l0_2 (ji24)).f1)) ∧ w'.cell? (ad198.add ((x3_2).toNat * 2)) = some (.int .i64 ((rd_T23 l0_2 x3_2).f0)) ∧ w'.cell? ⟨(ad198.add ((x3_2).toNat * 2)).block, (ad198.add ((x3_2).toNat * 2)).off + 1, none⟩ = some (.int .i64 ((rd_T23 l0_2 x3_2).f1))) (ds := []) #[false, false, false, false, false, false, false, false, false, false, false, false, false, false, false, false, false, false, false, false, false, false, false, false, false, false, false, false, false, false, false, false, false, false, false, false, false, false] (by kernel_rfl) rfl rfl ⟨(blk_cell BK196.out 0).trans rfl, (blk_cell BK196.out 1).trans rfl, (blk_cell BK196.out 2).trans rfl, (cellB HB.out hw198_0), (cellB HB.out hw198_1), (cellB HB.out hw200_0), (cellB HB.out hw200_1), (cellB HB.out hw202_0), (cellB HB.out hw202_1), (cellB HB.out hw203_0), (cellB HB.out hw203_1)⟩ (fun hHeld => ?_); refine with_tabW marigraphref14_Right.tab6 marigraphref14_Right.bits6 (fun HT_ HW_ => ?_)
              generalize wr.drew = w31 at BK196 HB hx198_0 hx198_1 hx200_0 hx200_1 hx202_0 hx202_1 hx203_0 hx203_1 hHeld ⊢
              refine pA 0 (some 43) (bA 38 1) HT_.out ?_
              refine pA 2 (some 45) (bA 38 5) HT_.out ?_
              refine take_ (i := 1) (N := some 44) (v := ?_) (a' := ?_) (bA 38 7) rfl rfl (take_ofW HT_.out HW_.out (by kernel_rfl)) (fun _ _ _ h => h) (Or.inl ⟨by rfl, ?_⟩) hHeld ?_ ?_
              rotate_left
              ·rintro w' ⟨s0, s1, s2, s3, s4, s5, s6, s7, s8, s9, s10⟩
               go_simp
               with_reducible rfl
              rotate_left
              ·simp only [Act.put, List.setIfInBounds_toArray, List.set_cons_zero, List.set_cons_succ, i64_w, i32_w]
               rfl
              refine pA 3 (some 46) (bA 38 15) HT_.out ?_
              refine pA 4 (some 47) (bA 38 31) HT_.out ?_
              refine take_ (i := 5) (N := some 48) (v := ?_) (a' := ?_) (bA 38 63) rfl rfl (take_ofW HT_.out HW_.out (by kernel_rfl)) (fun _ _ _ h => h) (Or.inl ⟨by rfl, ?_⟩) hHeld ?_ ?_
              rotate_left
              ·rintro w' ⟨s0, s1, s2, s3, s4, s5, s6, s7, s8, s9, s10⟩
               go_simp
               with_reducible rfl
              rotate_left
              ·simp only [Act.put, List.setIfInBounds_toArray, List.set_cons_zero, List.set_cons_succ, i64_w, i32_w]
               rfl
              refine one_ (i := 6) (N := some 49) (bA 38 127) rfl rfl (one_of HT_.out (by kernel_rfl)) (by decide) (fun K hK => ?_)
              refine goes_ Try.func26 (by kernel_rfl) rfl #[.int .i64 ((rd_T23 l0_2 x3_2).f0)] (by rfl) rfl rfl argN ?_
              with_reducible refine (marigraphref14_id.calls ((rd_T23 l0_2 x3_2).f0) true _ A19.out).mono ?_
              rintro e w' ⟨rfl, ⟨nd, rfl⟩⟩
              refine ⟨_, rfl, ?_⟩
              refine hK.out _ _ ⟨(blk_cell BK196.out 0).trans rfl, (blk_cell BK196.out 1).trans rfl, (blk_cell BK196.out 2).trans rfl, hHeld.2.2.2.1, hHeld.2.2.2.2.1, hHeld.2.2.2.2.2.1, hHeld.2.2.2.2.2.2.1, hHeld.2.2.2.2.2.2.2.1, hHeld.2.2.2.2.2.2.2.2.1, hHeld.2.2.2.2.2.2.2.2.2.1, hHeld.2.2.2.2.2.2.2.2.2.2⟩ (fun hHeld => ?_)
              clear hK K
              refine norm_ (a' := ?_) ?_ ?_
              rotate_left
              ·show Act.put _ (some 49) _ = _
               simp only [Act.put, List.setIfInBounds_toArray, List.set_cons_zero, List.set_cons_succ, i64_w, i32_w]
               rfl
              refine pA 7 (some 50) (bA 38 255) HT_.out ?_
              refine pA 8 (some 51) (bA 38 511) HT_.out ?_
              refine pA 9 (some 52) (bA 38 1023) HT_.out ?_
              refine pA 11 (some 54) (bA 38 3071) HT_.out ?_
              refine take_ (i := 10) (N := some 53) (v := ?_) (a' := ?_) (bA 38 4095) rfl rfl (take_ofW HT_.out HW_.out (by kernel_rfl)) (fun _ _ _ h => h) (Or.inl ⟨by rfl, ?_⟩) hHeld ?_ ?_
              rotate_left
              ·rintro w' ⟨s0, s1, s2, s3, s4, s5, s6, s7, s8, s9, s10⟩
               go_simp
               with_reducible rfl
              rotate_left
              ·simp only [Act.put, List.setIfInBounds_toArray, List.set_cons_zero, List.set_cons_succ, i64_w, i32_w]
               rfl
              refine pA 12 (some 55) (bA 38 8191) HT_.out ?_
              refine pA 13 (some 56) (bA 38 16383) HT_.out ?_
              refine take_ (i := 14) (N := some 57) (v := ?_) (a' := ?_) (bA 38 32767) rfl rfl (take_ofW HT_.out HW_.out (by kernel_rfl)) (fun _ _ _ h => h) (Or.inl ⟨by rfl, ?_⟩) hHeld ?_ ?_
              rotate_left
              ·rintro w' ⟨s0, s1, s2, s3, s4, s5, s6, s7, s8, s9, s10⟩
               go_simp
               with_reducible rfl
              rotate_left
              ·simp only [Act.put, List.setIfInBounds_toArray, List.set_cons_zero, List.set_cons_succ, i64_w, i32_w]
               rfl
              refine one_ (i := 15) (N := some 58) (bA 38 65535) rfl rfl (one_of HT_.out (by kernel_rfl)) (by decide) (fun K hK => ?_)
              refine goes_ Try.func26 (by kernel_rfl) rfl #[.int .i64 ((rd_T23 l0_2 x3_2).f1)] (by rfl) rfl rfl argN ?_
              with_reducible refine (marigraphref14_id.calls ((rd_T23 l0_2 x3_2).f1) true _ A21.out).mono ?_
              rintro e w' ⟨rfl, ⟨nd, rfl⟩⟩
              refine ⟨_, rfl, ?_⟩
              refine hK.out _ _ ⟨(blk_cell BK196.out 0).trans rfl, (blk_cell BK196.out 1).trans rfl, (blk_cell BK196.out 2).trans rfl, hHeld.2.2.2.1, hHeld.2.2.2.2.1, hHeld.2.2.2.2.2.1, hHeld.2.2.2.2.2.2.1, hHeld.2.2.2.2.2.2.2.1, hHeld.2.2.2.2.2.2.2.2.1, hHeld.2.2.2.2.2.2.2.2.2.1, hHeld.2.2.2.2.2.2.2.2.2.2⟩ (fun hHeld => ?_)
              clear hK K
              refine norm_ (a' := ?_) ?_ ?_
              rotate_left
              ·show Act.put _ (some 58) _ = _
               simp only [Act.put, List.setIfInBounds_toArray, List.set_cons_zero, List.set_cons_succ, i64_w, i32_w]
               rfl
              refine pA 16 (some 59) (bA 38 131071) HT_.out ?_
              refine pA 17 (some 60) (bA 38 262143) HT_.out ?_
              refine pA 18 (some 61) (bA 38 524287) HT_.out ?_
              refine pA 19 (some 62) (bA 38 1048575) HT_.out ?_
              refine pA 20 (some 63) (bA 38 2097151) HT_.out ?_
              refine pA 21 (some 64) (bA 38 4194303) HT_.out ?_
              refine pA 22 (some 65) (bA 38 8388607) HT_.out ?_
              refine pA 24 (some 67) (bA 38 25165823) HT_.out ?_
              refine pA 25 (some 68) (bA 38 58720255) HT_.out ?_
              refine pA 29 (some 72) (bA 38 595591167) HT_.out ?_
              refine pA 31 (some 74) (bA 38 2743074815) HT_.out ?_
              refine take_ (i := 23) (N := some 66) (v := ?_) (a' := ?_) (bA 38 2751463423) rfl rfl (take_ofW HT_.out HW_.out (by kernel_rfl)) (fun _ _ _ h => h) (Or.inl ⟨by rfl, ?_⟩) hHeld ?_ ?_
              rotate_left
              ·rintro w' ⟨s0, s1, s2, s3, s4, s5, s6, s7, s8, s9, s10⟩
               go_simp
               with_reducible rfl
              rotate_left
              ·simp only [Act.put, List.setIfInBounds_toArray, List.set_cons_zero, List.set_cons_succ, i64_w, i32_w]
               rfl
              refine pA 26 (some 69) (bA 38 2818572287) HT_.out ?_
              refine pA 27 (some 70) (bA 38 2952790015) HT_.out ?_
              refine take_ (i := 28) (N := some 71) (v := ?_) (a' := ?_) (bA 38 3221225471) rfl rfl (take_ofW HT_.out HW_.out (by kernel_rfl)) (fun _ _ _ h => h) (Or.inl ⟨by rfl, ?_⟩) hHeld ?_ ?_
              rotate_left
              ·rintro w' ⟨s0, s1, s2, s3, s4, s5, s6, s7, s8, s9, s10⟩
               go_simp
               with_reducible rfl
              rotate_left
              ·simp only [Act.put, List.setIfInBounds_toArray, List.set_cons_zero, List.set_cons_succ, i64_w, i32_w]
               rfl
              refine take_ (i := 30) (N := some 73) (v := ?_) (a' := ?_) (bA 38 4294967295) rfl rfl (take_ofW HT_.out HW_.out (by kernel_rfl)) (fun _ _ _ h => h) (Or.inl ⟨by rfl, ?_⟩) hHeld ?_ ?_
              rotate_left
              ·rintro w' ⟨s0, s1, s2, s3, s4, s5, s6, s7, s8, s9, s10⟩
               go_simp
               with_reducible rfl
              rotate_left
              ·simp only [Act.put, List.setIfInBounds_toArray, List.set_cons_zero, List.set_cons_succ, i64_w, i32_w]
               rfl
              refine pA 32 (some 75) (bA 38 8589934591) HT_.out ?_
              refine pA 33 (some 76) (bA 38 17179869183) HT_.out ?_
              refine take_ (i := 34) (N := some 77) (v := ?_) (a' := ?_) (bA 38 34359738367) rfl rfl (take_ofW HT_.out HW_.out (by kernel_rfl)) (fun _ _ _ h => h) (Or.inl ⟨by rfl, ?_⟩) hHeld ?_ ?_
              rotate_left
              ·rintro w' ⟨s0, s1, s2, s3, s4, s5, s6, s7, s8, s9, s10⟩
               go_simp
               with_reducible rfl
              rotate_left
              ·simp only [Act.put, List.setIfInBounds_toArray, List.set_cons_zero, List.set_cons_succ, i64_w, i32_w]
               rfl
              refine pA 35 (some 78) (bA 38 68719476735) HT_.out ?_
              refine pA 36 (some 79) (bA 38 137438953471) HT_.out ?_
              refine pA 37 (some 80) (bA 38 274877906943) HT_.out ?_
              refine done_ (done_of HT_.out (by kernel_rfl)) ?_
              try go_wp2
              go_roundg k2
              case measure => have := HJ1.out; have := HK2.out; omega
              case rel => exact ⟨(wrap64 (x3_2 + 1)), (by first | rfl | (simp; done) | (simp [*]; done)), H', ⟨by have := HJ1.out; have := HK2.out; omega⟩, ⟨blkN BK196.out⟩, ⟨(belS HB.out)⟩⟩
            ·rw [if_neg c26] at H
             exact absurd H (by simp)
           ·rw [if_neg c25] at H
            exact absurd H (by simp)
          ·rw [if_neg c23] at H
           have c23b0 : decide (0 < x3_2) = false := decide_eq_false c23
           clear c23
           have H' := Aside0.mk H
           clear H
           have hcz32_0 : wr.cell? ⟨gb196, 0, none⟩ = some (.int .i64 a0_0) := (blk_cell BK196.out 0).trans rfl
           have hcz32_1 : wr.cell? ⟨gb196, 1, none⟩ = some (.int .i64 a0_1) := (blk_cell BK196.out 1).trans rfl
           have hcz32_2 : wr.cell? ⟨gb196, 2, none⟩ = some (.slice A0_2 l0_2.length c0_2) := (blk_cell BK196.out 2).trans rfl
           have hfz32_0 := blk_frozen BK196.out 0
           have hfz32_1 := blk_frozen BK196.out 1
           have hfz32_2 := blk_frozen BK196.out 2
           try go_wp2
           have n0_ := Aside0.mk (blk_drew BK196.out)
           have n1_ := Aside0.mk (below_drew1 HB.out)
           clear BK196
           clear HB
           have BK196 := n0_
           have HB := n1_
           clear n0_ n1_
           have p198 : 0 ≤ (x3_2 : Int) := of_decide_eq_true (by first | (with_reducible assumption) | assumption)
           have q198 : x3_2 < (l0_2.length : Int) := of_decide_eq_true (by first | (with_reducible assumption) | assumption)
           obtain ⟨ad198, e198, hx198_0, hx198_1⟩ := at_T23 HR0_2.out x3_2 p198 q198
           have hw198_1 := hx198_1
           have hw198_0 := hx198_0
           cases e198
           (try replace hx198_0 := cellB HB.out hx198_0)
           (try replace hx198_1 := cellB HB.out hx198_1)
           replace p198 := eq_true p198
           replace q198 := eq_true q198
           have p200 : 0 ≤ (x3_2 : Int) := of_decide_eq_true (by first | (with_reducible assumption) | assumption)
           have q200 : x3_2 < (l0_2.length : Int) := of_decide_eq_true (by first | (with_reducible assumption) | assumption)
           obtain ⟨ad200, e200, hx200_0, hx200_1⟩ := at_T23 HR0_2.out x3_2 p200 q200
           have hw200_1 := hx200_1
           have hw200_0 := hx200_0
           obtain rfl : ad198 = ad200 := (by injection e200)
           (try replace hx200_0 := cellB HB.out hx200_0)
           (try replace hx200_1 := cellB HB.out hx200_1)
           replace p200 := eq_true p200
           replace q200 := eq_true q200
           refine start_ (n := 38) (S := fun w' => w'.cell? ⟨gb196, 0, none⟩ = some (.int .i64 a0_0) ∧ w'.cell? ⟨gb196, 1, none⟩ = some (.int .i64 a0_1) ∧ w'.cell? ⟨gb196, 2, none⟩ = some (.slice (some ad198) l0_2.length c0_2) ∧ w'.cell? (ad198.add ((x3_2).toNat * 2)) = some (.int .i64 ((rd_T23 l0_2 x3_2).f0)) ∧ w'.cell? ⟨(ad198.add ((x3_2).toNat * 2)).block, (ad198.add ((x3_2).toNat * 2)).off + 1, none⟩ = some (.int .i64 ((rd_T23 l0_2 x3_2).f1)) ∧ w'.cell? (ad198.add ((x3_2).toNat * 2)) = some (.int .i64 ((rd_T23 l0_2 x3_2).f0)) ∧ w'.cell? ⟨(ad198.add ((x3_2).toNat * 2)).block, (ad198.add ((x3_2).toNat * 2)).off + 1, none⟩ = some (.int .i64 ((rd_T23 l0_2 x3_2).f1))) (ds := []) #[false, false, false, false, false, false, false, false, false, false, false, false, false, false, false, false, false, false, false, false, false, false, false, false, false, false, false, false, false, false, false, false, false, false, false, false, false, false] (by kernel_rfl) rfl rfl ⟨(blk_cell BK196.out 0).trans rfl, (blk_cell BK196.out 1).trans rfl, (blk_cell BK196.out 2).trans rfl, (cellB HB.out hw198_0), (cellB HB.out hw198_1), (cellB HB.out hw200_0), (cellB HB.out hw200_1)⟩ (fun hHeld => ?_); refine with_tabW marigraphref14_Right.tab6 marigraphref14_Right.bits6 (fun HT_ HW_ => ?_)
           generalize wr.drew = w33 at BK196 HB hx198_0 hx198_1 hx200_0 hx200_1 hHeld ⊢
           refine pA 0 (some 43) (bA 38 1) HT_.out ?_
           refine pA 2 (some 45) (bA 38 5) HT_.out ?_
           refine take_ (i := 1) (N := some 44) (v := ?_) (a' := ?_) (bA 38 7) rfl rfl (take_ofW HT_.out HW_.out (by kernel_rfl)) (fun _ _ _ h => h) (Or.inl ⟨by rfl, ?_⟩) hHeld ?_ ?_
           rotate_left
           ·rintro w' ⟨s0, s1, s2, s3, s4, s5, s6⟩
            go_simp
            with_reducible rfl
           rotate_left
           ·simp only [Act.put, List.setIfInBounds_toArray, List.set_cons_zero, List.set_cons_succ, i64_w, i32_w]
            rfl
           refine pA 3 (some 46) (bA 38 15) HT_.out ?_
           refine pA 4 (some 47) (bA 38 31) HT_.out ?_
           refine take_ (i := 5) (N := some 48) (v := ?_) (a' := ?_) (bA 38 63) rfl rfl (take_ofW HT_.out HW_.out (by kernel_rfl)) (fun _ _ _ h => h) (Or.inl ⟨by rfl, ?_⟩) hHeld ?_ ?_
           rotate_left
           ·rintro w' ⟨s0, s1, s2, s3, s4, s5, s6⟩
            go_simp
            with_reducible rfl
           rotate_left
           ·simp only [Act.put, List.setIfInBounds_toArray, List.set_cons_zero, List.set_cons_succ, i64_w, i32_w]
            rfl
           refine one_ (i := 6) (N := some 49) (bA 38 127) rfl rfl (one_of HT_.out (by kernel_rfl)) (by decide) (fun K hK => ?_)
           refine goes_ Try.func26 (by kernel_rfl) rfl #[.int .i64 ((rd_T23 l0_2 x3_2).f0)] (by rfl) rfl rfl argN ?_
           with_reducible refine (marigraphref14_id.calls ((rd_T23 l0_2 x3_2).f0) true _ A19.out).mono ?_
           rintro e w' ⟨rfl, ⟨nd, rfl⟩⟩
           refine ⟨_, rfl, ?_⟩
           refine hK.out _ _ ⟨(blk_cell BK196.out 0).trans rfl, (blk_cell BK196.out 1).trans rfl, (blk_cell BK196.out 2).trans rfl, hHeld.2.2.2.1, hHeld.2.2.2.2.1, hHeld.2.2.2.2.2.1, hHeld.2.2.2.2.2.2⟩ (fun hHeld => ?_)
           clear hK K
           refine norm_ (a' := ?_) ?_ ?_
           rotate_left
           ·show Act.put _ (some 49) _ = _
            simp only [Act.put, List.setIfInBounds_toArray, List.set_cons_zero, List.set_cons_succ, i64_w, i32_w]
            rfl
           refine pA 7 (some 50) (bA 38 255) HT_.out ?_
           refine pA 8 (some 51) (bA 38 511) HT_.out ?_
           refine pA 9 (some 52) (bA 38 1023) HT_.out ?_
           refine pA 11 (some 54) (bA 38 3071) HT_.out ?_
           refine take_ (i := 10) (N := some 53) (v := ?_) (a' := ?_) (bA 38 4095) rfl rfl (take_ofW HT_.out HW_.out (by kernel_rfl)) (fun _ _ _ h => h) (Or.inl ⟨by rfl, ?_⟩) hHeld ?_ ?_
           rotate_left
           ·rintro w' ⟨s0, s1, s2, s3, s4, s5, s6⟩
            go_simp
            with_reducible rfl
           rotate_left
           ·simp only [Act.put, List.setIfInBounds_toArray, List.set_cons_zero, List.set_cons_succ, i64_w, i32_w]
            rfl
           refine pA 12 (some 55) (bA 38 8191) HT_.out ?_
           refine pA 13 (some 56) (bA 38 16383) HT_.out ?_
           refine take_ (i := 14) (N := some 57) (v := ?_) (a' := ?_) (bA 38 32767) rfl rfl (take_ofW HT_.out HW_.out (by kernel_rfl)) (fun _ _ _ h => h) (Or.inl ⟨by rfl, ?_⟩) hHeld ?_ ?_
           rotate_left
           ·rintro w' ⟨s0, s1, s2, s3, s4, s5, s6⟩
            go_simp
            with_reducible rfl
           rotate_left
           ·simp only [Act.put, List.setIfInBounds_toArray, List.set_cons_zero, List.set_cons_succ, i64_w, i32_w]
            rfl
           refine one_ (i := 15) (N := some 58) (bA 38 65535) rfl rfl (one_of HT_.out (by kernel_rfl)) (by decide) (fun K hK => ?_)
           refine goes_ Try.func26 (by kernel_rfl) rfl #[.int .i64 ((rd_T23 l0_2 x3_2).f1)] (by rfl) rfl rfl argN ?_
           with_reducible refine (marigraphref14_id.calls ((rd_T23 l0_2 x3_2).f1) true _ A21.out).mono ?_
           rintro e w' ⟨rfl, ⟨nd, rfl⟩⟩
           refine ⟨_, rfl, ?_⟩
           refine hK.out _ _ ⟨(blk_cell BK196.out 0).trans rfl, (blk_cell BK196.out 1).trans rfl, (blk_cell BK196.out 2).trans rfl, hHeld.2.2.2.1, hHeld.2.2.2.2.1, hHeld.2.2.2.2.2.1, hHeld.2.2.2.2.2.2⟩ (fun hHeld => ?_)
           clear hK K
           refine norm_ (a' := ?_) ?_ ?_
           rotate_left
           ·show Act.put _ (some 58) _ = _
            simp only [Act.put, List.setIfInBounds_toArray, List.set_cons_zero, List.set_cons_succ, i64_w, i32_w]
            rfl
           refine pA 16 (some 59) (bA 38 131071) HT_.out ?_
           refine pA 17 (some 60) (bA 38 262143) HT_.out ?_
           refine pA 18 (some 61) (bA 38 524287) HT_.out ?_
           refine pA 19 (some 62) (bA 38 1048575) HT_.out ?_
           refine pA 20 (some 63) (bA 38 2097151) HT_.out ?_
           refine pA 21 (some 64) (bA 38 4194303) HT_.out ?_
           refine pU 22 (some 65) (bA 38 8388607) HT_.out ?_
           refine pU 23 (some 66) (bA 38 16777215) HT_.out ?_
           refine pU 24 (some 67) (bA 38 33554431) HT_.out ?_
           refine pU 25 (some 68) (bA 38 67108863) HT_.out ?_
           refine pU 26 (some 69) (bA 38 134217727) HT_.out ?_
           refine pU 27 (some 70) (bA 38 268435455) HT_.out ?_
           refine pU 28 (some 71) (bA 38 536870911) HT_.out ?_
           refine pU 29 (some 72) (bA 38 1073741823) HT_.out ?_
           refine pU 30 (some 73) (bA 38 2147483647) HT_.out ?_
           refine pU 31 (some 74) (bA 38 4294967295) HT_.out ?_
           refine pU 32 (some 75) (bA 38 8589934591) HT_.out ?_
           refine pU 33 (some 76) (bA 38 17179869183) HT_.out ?_
           refine pU 34 (some 77) (bA 38 34359738367) HT_.out ?_
           refine pU 35 (some 78) (bA 38 68719476735) HT_.out ?_
           refine pA 36 (some 79) (bA 38 137438953471) HT_.out ?_
           refine pA 37 (some 80) (bA 38 274877906943) HT_.out ?_
           refine done_ (done_of HT_.out (by kernel_rfl)) ?_
           try go_wp2
           go_roundg k2
           case measure => have := HJ1.out; have := HK2.out; omega
           case rel => exact ⟨(wrap64 (x3_2 + 1)), (by first | rfl | (simp; done) | (simp [*]; done)), H', ⟨by have := HJ1.out; have := HK2.out; omega⟩, ⟨blkN BK196.out⟩, ⟨(belS HB.out)⟩⟩
         ·replace c22 := Bool.eq_false_iff.mpr c22
          subst c22
          have H1 : (some false) = some r := by rw [if_neg (show ¬ (false = true) by decide)] at H; exact H
          clear H
          have H := H1
          clear H1
          obtain rfl := Option.some.inj H
          have hcz34_0 : wr.cell? ⟨gb196, 0, none⟩ = some (.int .i64 a0_0) := (blk_cell BK196.out 0).trans rfl
          have hcz34_1 : wr.cell? ⟨gb196, 1, none⟩ = some (.int .i64 a0_1) := (blk_cell BK196.out 1).trans rfl
          have hcz34_2 : wr.cell? ⟨gb196, 2, none⟩ = some (.slice A0_2 l0_2.length c0_2) := (blk_cell BK196.out 2).trans rfl
          have hfz34_0 := blk_frozen BK196.out 0
          have hfz34_1 := blk_frozen BK196.out 1
          have hfz34_2 := blk_frozen BK196.out 2
          try go_wp2
          have n0_ := Aside0.mk (blk_drew BK196.out)
          have n1_ := Aside0.mk (below_drew1 HB.out)
          clear BK196
          clear HB
          have BK196 := n0_
          have HB := n1_
          clear n0_ n1_
          have p198 : 0 ≤ (x3_2 : Int) := of_decide_eq_true (by first | (with_reducible assumption) | assumption)
          have q198 : x3_2 < (l0_2.length : Int) := of_decide_eq_true (by first | (with_reducible assumption) | assumption)
          obtain ⟨ad198, e198, hx198_0, hx198_1⟩ := at_T23 HR0_2.out x3_2 p198 q198
          have hw198_1 := hx198_1
          have hw198_0 := hx198_0
          cases e198
          (try replace hx198_0 := cellB HB.out hx198_0)
          (try replace hx198_1 := cellB HB.out hx198_1)
          replace p198 := eq_true p198
          replace q198 := eq_true q198
          have p200 : 0 ≤ (x3_2 : Int) := of_decide_eq_true (by first | (with_reducible assumption) | assumption)
          have q200 : x3_2 < (l0_2.length : Int) := of_decide_eq_true (by first | (with_reducible assumption) | assumption)
          obtain ⟨ad200, e200, hx200_0, hx200_1⟩ := at_T23 HR0_2.out x3_2 p200 q200
          have hw200_1 := hx200_1
          have hw200_0 := hx200_0
          obtain rfl : ad198 = ad200 := (by injection e200)
          (try replace hx200_0 := cellB HB.out hx200_0)
          (try replace hx200_1 := cellB HB.out hx200_1)
          replace p200 := eq_true p200
          replace q200 := eq_true q200
          refine start_ (n := 38) (S := fun w' => w'.cell? ⟨gb196, 0, none⟩ = some (.int .i64 a0_0) ∧ w'.cell? ⟨gb196, 1, none⟩ = some (.int .i64 a0_1) ∧ w'.cell? ⟨gb196, 2, none⟩ = some (.slice (some ad198) l0_2.length c0_2) ∧ w'.cell? (ad198.add ((x3_2).toNat * 2)) = some (.int .i64 ((rd_T23 l0_2 x3_2).f0)) ∧ w'.cell? ⟨(ad198.add ((x3_2).toNat * 2)).block, (ad198.add ((x3_2).toNat * 2)).off + 1, none⟩ = some (.int .i64 ((rd_T23 l0_2 x3_2).f1)) ∧ w'.cell? (ad198.add ((x3_2).toNat * 2)) = some (.int .i64 ((rd_T23 l0_2 x3_2).f0)) ∧ w'.cell? ⟨(ad198.add ((x3_2).toNat * 2)).block, (ad198.add ((x3_2).toNat * 2)).off + 1, none⟩ = some (.int .i64 ((rd_T23 l0_2 x3_2).f1))) (ds := []) #[false, false, false, false, false, false, false, false, false, false, false, false, false, false, false, false, false, false, false, false, false, false, false, false, false, false, false, false, false, false, false, false, false, false, false, false, false, false] (by kernel_rfl) rfl rfl ⟨(blk_cell BK196.out 0).trans rfl, (blk_cell BK196.out 1).trans rfl, (blk_cell BK196.out 2).trans rfl, (cellB HB.out hw198_0), (cellB HB.out hw198_1), (cellB HB.out hw200_0), (cellB HB.out hw200_1)⟩ (fun hHeld => ?_); refine with_tabW marigraphref14_Right.tab6 marigraphref14_Right.bits6 (fun HT_ HW_ => ?_)
          generalize wr.drew = w35 at BK196 HB hx198_0 hx198_1 hx200_0 hx200_1 hHeld ⊢
          refine pA 0 (some 43) (bA 38 1) HT_.out ?_
          refine pA 2 (some 45) (bA 38 5) HT_.out ?_
          refine take_ (i := 1) (N := some 44) (v := ?_) (a' := ?_) (bA 38 7) rfl rfl (take_ofW HT_.out HW_.out (by kernel_rfl)) (fun _ _ _ h => h) (Or.inl ⟨by rfl, ?_⟩) hHeld ?_ ?_
          rotate_left
          ·rintro w' ⟨s0, s1, s2, s3, s4, s5, s6⟩
           go_simp
           with_reducible rfl
          rotate_left
          ·simp only [Act.put, List.setIfInBounds_toArray, List.set_cons_zero, List.set_cons_succ, i64_w, i32_w]
           rfl
          refine pA 3 (some 46) (bA 38 15) HT_.out ?_
          refine pA 4 (some 47) (bA 38 31) HT_.out ?_
          refine take_ (i := 5) (N := some 48) (v := ?_) (a' := ?_) (bA 38 63) rfl rfl (take_ofW HT_.out HW_.out (by kernel_rfl)) (fun _ _ _ h => h) (Or.inl ⟨by rfl, ?_⟩) hHeld ?_ ?_
          rotate_left
          ·rintro w' ⟨s0, s1, s2, s3, s4, s5, s6⟩
           go_simp
           with_reducible rfl
          rotate_left
          ·simp only [Act.put, List.setIfInBounds_toArray, List.set_cons_zero, List.set_cons_succ, i64_w, i32_w]
           rfl
          refine one_ (i := 6) (N := some 49) (bA 38 127) rfl rfl (one_of HT_.out (by kernel_rfl)) (by decide) (fun K hK => ?_)
          refine goes_ Try.func26 (by kernel_rfl) rfl #[.int .i64 ((rd_T23 l0_2 x3_2).f0)] (by rfl) rfl rfl argN ?_
          with_reducible refine (marigraphref14_id.calls ((rd_T23 l0_2 x3_2).f0) true _ A19.out).mono ?_
          rintro e w' ⟨rfl, ⟨nd, rfl⟩⟩
          refine ⟨_, rfl, ?_⟩
          refine hK.out _ _ ⟨(blk_cell BK196.out 0).trans rfl, (blk_cell BK196.out 1).trans rfl, (blk_cell BK196.out 2).trans rfl, hHeld.2.2.2.1, hHeld.2.2.2.2.1, hHeld.2.2.2.2.2.1, hHeld.2.2.2.2.2.2⟩ (fun hHeld => ?_)
          clear hK K
          refine norm_ (a' := ?_) ?_ ?_
          rotate_left
          ·show Act.put _ (some 49) _ = _
           simp only [Act.put, List.setIfInBounds_toArray, List.set_cons_zero, List.set_cons_succ, i64_w, i32_w]
           rfl
          refine pA 7 (some 50) (bA 38 255) HT_.out ?_
          refine pA 8 (some 51) (bA 38 511) HT_.out ?_
          refine pA 9 (some 52) (bA 38 1023) HT_.out ?_
          refine pA 11 (some 54) (bA 38 3071) HT_.out ?_
          refine take_ (i := 10) (N := some 53) (v := ?_) (a' := ?_) (bA 38 4095) rfl rfl (take_ofW HT_.out HW_.out (by kernel_rfl)) (fun _ _ _ h => h) (Or.inl ⟨by rfl, ?_⟩) hHeld ?_ ?_
          rotate_left
          ·rintro w' ⟨s0, s1, s2, s3, s4, s5, s6⟩
           go_simp
           with_reducible rfl
          rotate_left
          ·simp only [Act.put, List.setIfInBounds_toArray, List.set_cons_zero, List.set_cons_succ, i64_w, i32_w]
           rfl
          refine pA 12 (some 55) (bA 38 8191) HT_.out ?_
          refine pA 13 (some 56) (bA 38 16383) HT_.out ?_
          refine take_ (i := 14) (N := some 57) (v := ?_) (a' := ?_) (bA 38 32767) rfl rfl (take_ofW HT_.out HW_.out (by kernel_rfl)) (fun _ _ _ h => h) (Or.inl ⟨by rfl, ?_⟩) hHeld ?_ ?_
          rotate_left
          ·rintro w' ⟨s0, s1, s2, s3, s4, s5, s6⟩
           go_simp
           with_reducible rfl
          rotate_left
          ·simp only [Act.put, List.setIfInBounds_toArray, List.set_cons_zero, List.set_cons_succ, i64_w, i32_w]
           rfl
          refine one_ (i := 15) (N := some 58) (bA 38 65535) rfl rfl (one_of HT_.out (by kernel_rfl)) (by decide) (fun K hK => ?_)
          refine goes_ Try.func26 (by kernel_rfl) rfl #[.int .i64 ((rd_T23 l0_2 x3_2).f1)] (by rfl) rfl rfl argN ?_
          with_reducible refine (marigraphref14_id.calls ((rd_T23 l0_2 x3_2).f1) false _ A21.out).mono ?_
          rintro e w' ⟨rfl, ⟨nd, rfl⟩⟩
          refine ⟨_, rfl, ?_⟩
          refine hK.out _ _ ⟨(blk_cell BK196.out 0).trans rfl, (blk_cell BK196.out 1).trans rfl, (blk_cell BK196.out 2).trans rfl, hHeld.2.2.2.1, hHeld.2.2.2.2.1, hHeld.2.2.2.2.2.1, hHeld.2.2.2.2.2.2⟩ (fun hHeld => ?_)
          clear hK K
          refine norm_ (a' := ?_) ?_ ?_
          rotate_left
          ·show Act.put _ (some 58) _ = _
           simp only [Act.put, List.setIfInBounds_toArray, List.set_cons_zero, List.set_cons_succ, i64_w, i32_w]
           rfl
          refine pA 16 (some 59) (bA 38 131071) HT_.out ?_
          refine pA 17 (some 60) (bA 38 262143) HT_.out ?_
          refine pA 18 (some 61) (bA 38 524287) HT_.out ?_
          refine pU 19 (some 62) (bA 38 1048575) HT_.out ?_
          refine pU 20 (some 63) (bA 38 2097151) HT_.out ?_
          refine pU 21 (some 64) (bA 38 4194303) HT_.out ?_
          refine pU 22 (some 65) (bA 38 8388607) HT_.out ?_
          refine pU 23 (some 66) (bA 38 16777215) HT_.out ?_
          refine pU 24 (some 67) (bA 38 33554431) HT_.out ?_
          refine pU 25 (some 68) (bA 38 67108863) HT_.out ?_
          refine pU 26 (some 69) (bA 38 134217727) HT_.out ?_
          refine pU 27 (some 70) (bA 38 268435455) HT_.out ?_
          refine pU 28 (some 71) (bA 38 536870911) HT_.out ?_
          refine pU 29 (some 72) (bA 38 1073741823) HT_.out ?_
          refine pU 30 (some 73) (bA 38 2147483647) HT_.out ?_
          refine pU 31 (some 74) (bA 38 4294967295) HT_.out ?_
          refine pU 32 (some 75) (bA 38 8589934591) HT_.out ?_
          refine pU 33 (some 76) (bA 38 17179869183) HT_.out ?_
          refine pU 34 (some 77) (bA 38 34359738367) HT_.out ?_
          refine pU 35 (some 78) (bA 38 68719476735) HT_.out ?_
          refine pU 36 (some 79) (bA 38 137438953471) HT_.out ?_
          refine pA 37 (some 80) (bA 38 274877906943) HT_.out ?_
          refine done_ (done_of HT_.out (by kernel_rfl)) ?_
          try go_wp2
          go_ret
          exact ⟨by first | rfl | (simp [errW_none, errW_some] <;> rfl) | (simp [*, errW_none, errW_some] <;> rfl), (belS HB.out)⟩
        ·replace c20 := Bool.eq_false_iff.mpr c20
         subst c20
         have H1 : (some false) = some r := by rw [if_neg (show ¬ (false = true) by decide)] at H; exact H
         clear H
         have H := H1
         clear H1
         obtain rfl := Option.some.inj H
         have hcz36_0 : wr.cell? ⟨gb196, 0, none⟩ = some (.int .i64 a0_0) := (blk_cell BK196.out 0).trans rfl
         have hcz36_1 : wr.cell? ⟨gb196, 1, none⟩ = some (.int .i64 a0_1) := (blk_cell BK196.out 1).trans rfl
         have hcz36_2 : wr.cell? ⟨gb196, 2, none⟩ = some (.slice A0_2 l0_2.length c0_2) := (blk_cell BK196.out 2).trans rfl
         have hfz36_0 := blk_frozen BK196.out 0
         have hfz36_1 := blk_frozen BK196.out 1
         have hfz36_2 := blk_frozen BK196.out 2
         try go_wp2
         have n0_ := Aside0.mk (blk_drew BK196.out)
         have n1_ := Aside0.mk (below_drew1 HB.out)
         clear BK196
         clear HB
         have BK196 := n0_
         have HB := n1_
         clear n0_ n1_
         have p198 : 0 ≤ (x3_2 : Int) := of_decide_eq_true (by first | (with_reducible assumption) | assumption)
         have q198 : x3_2 < (l0_2.length : Int) := of_decide_eq_true (by first | (with_reducible assumption) | assumption)
         obtain ⟨ad198, e198, hx198_0, hx198_1⟩ := at_T23 HR0_2.out x3_2 p198 q198
         have hw198_1 := hx198_1
         have hw198_0 := hx198_0
         cases e198
         (try replace hx198_0 := cellB HB.out hx198_0)
         (try replace hx198_1 := cellB HB.out hx198_1)
         replace p198 := eq_true p198
         replace q198 := eq_true q198
         refine start_ (n := 38) (S := fun w' => w'.cell? ⟨gb196, 0, none⟩ = some (.int .i64 a0_0) ∧ w'.cell? ⟨gb196, 1, none⟩ = some (.int .i64 a0_1) ∧ w'.cell? ⟨gb196, 2, none⟩ = some (.slice (some ad198) l0_2.length c0_2) ∧ w'.cell? (ad198.add ((x3_2).toNat * 2)) = some (.int .i64 ((rd_T23 l0_2 x3_2).f0)) ∧ w'.cell? ⟨(ad198.add ((x3_2).toNat * 2)).block, (ad198.add ((x3_2).toNat * 2)).off + 1, none⟩ = some (.int .i64 ((rd_T23 l0_2 x3_2).f1))) (ds := []) #[false, false, false, false, false, false, false, false, false, false, false, false, false, false, false, false, false, false, false, false, false, false, false, false, false, false, false, false, false, false, false, false, false, false, false, false, false, false] (by kernel_rfl) rfl rfl ⟨(blk_cell BK196.out 0).trans rfl, (blk_cell BK196.out 1).trans rfl, (blk_cell BK196.out 2).trans rfl, (cellB HB.out hw198_0), (cellB HB.out hw198_1)⟩ (fun hHeld => ?_); refine with_tabW marigraphref14_Right.tab6 marigraphref14_Right.bits6 (fun HT_ HW_ => ?_)
         generalize wr.drew = w37 at BK196 HB hx198_0 hx198_1 hHeld ⊢
         refine pA 0 (some 43) (bA 38 1) HT_.out ?_
         refine pA 2 (some 45) (bA 38 5) HT_.out ?_
         refine take_ (i := 1) (N := some 44) (v := ?_) (a' := ?_) (bA 38 7) rfl rfl (take_ofW HT_.out HW_.out (by kernel_rfl)) (fun _ _ _ h => h) (Or.inl ⟨by rfl, ?_⟩) hHeld ?_ ?_
         rotate_left
         ·rintro w' ⟨s0, s1, s2, s3, s4⟩
          go_simp
          with_reducible rfl
         rotate_left
         ·simp only [Act.put, List.setIfInBounds_toArray, List.set_cons_zero, List.set_cons_succ, i64_w, i32_w]
          rfl
         refine pA 3 (some 46) (bA 38 15) HT_.out ?_
         refine pA 4 (some 47) (bA 38 31) HT_.out ?_
         refine take_ (i := 5) (N := some 48) (v := ?_) (a' := ?_) (bA 38 63) rfl rfl (take_ofW HT_.out HW_.out (by kernel_rfl)) (fun _ _ _ h => h) (Or.inl ⟨by rfl, ?_⟩) hHeld ?_ ?_
         rotate_left
         ·rintro w' ⟨s0, s1, s2, s3, s4⟩
          go_simp
          with_reducible rfl
         rotate_left
         ·simp only [Act.put, List.setIfInBounds_toArray, List.set_cons_zero, List.set_cons_succ, i64_w, i32_w]
          rfl
         refine one_ (i := 6) (N := some 49) (bA 38 127) rfl rfl (one_of HT_.out (by kernel_rfl)) (by decide) (fun K hK => ?_)
         refine goes_ Try.func26 (by kernel_rfl) rfl #[.int .i64 ((rd_T23 l0_2 x3_2).f0)] (by rfl) rfl rfl argN ?_
         with_reducible refine (marigraphref14_id.calls ((rd_T23 l0_2 x3_2).f0) false _ A19.out).mono ?_
         rintro e w' ⟨rfl, ⟨nd, rfl⟩⟩
         refine ⟨_, rfl, ?_⟩
         refine hK.out _ _ ⟨(blk_cell BK196.out 0).trans rfl, (blk_cell BK196.out 1).trans rfl, (blk_cell BK196.out 2).trans rfl, hHeld.2.2.2.1, hHeld.2.2.2.2⟩ (fun hHeld => ?_)
         clear hK K
         refine norm_ (a' := ?_) ?_ ?_
         rotate_left
         ·show Act.put _ (some 49) _ = _
          simp only [Act.put, List.setIfInBounds_toArray, List.set_cons_zero, List.set_cons_succ, i64_w, i32_w]
          rfl
         refine pA 7 (some 50) (bA 38 255) HT_.out ?_
         refine pA 8 (some 51) (bA 38 511) HT_.out ?_
         refine pU 9 (some 52) (bA 38 1023) HT_.out ?_
         refine pU 10 (some 53) (bA 38 2047) HT_.out ?_
         refine pU 11 (some 54) (bA 38 4095) HT_.out ?_
         refine pU 12 (some 55) (bA 38 8191) HT_.out ?_
         refine pU 13 (some 56) (bA 38 16383) HT_.out ?_
         refine pU 14 (some 57) (bA 38 32767) HT_.out ?_
         refine pU 15 (some 58) (bA 38 65535) HT_.out ?_
         refine pU 16 (some 59) (bA 38 131071) HT_.out ?_
         refine pA 17 (some 60) (bA 38 262143) HT_.out ?_
         refine pA 18 (some 61) (bA 38 524287) HT_.out ?_
         refine pU 19 (some 62) (bA 38 1048575) HT_.out ?_
         refine pU 20 (some 63) (bA 38 2097151) HT_.out ?_
         refine pU 21 (some 64) (bA 38 4194303) HT_.out ?_
         refine pU 22 (some 65) (bA 38 8388607) HT_.out ?_
         refine pU 23 (some 66) (bA 38 16777215) HT_.out ?_
         refine pU 24 (some 67) (bA 38 33554431) HT_.out ?_
         refine pU 25 (some 68) (bA 38 67108863) HT_.out ?_
         refine pU 26 (some 69) (bA 38 134217727) HT_.out ?_
         refine pU 27 (some 70) (bA 38 268435455) HT_.out ?_
         refine pU 28 (some 71) (bA 38 536870911) HT_.out ?_
         refine pU 29 (some 72) (bA 38 1073741823) HT_.out ?_
         refine pU 30 (some 73) (bA 38 2147483647) HT_.out ?_
         refine pU 31 (some 74) (bA 38 4294967295) HT_.out ?_
         refine pU 32 (some 75) (bA 38 8589934591) HT_.out ?_
         refine pU 33 (some 76) (bA 38 17179869183) HT_.out ?_
         refine pU 34 (some 77) (bA 38 34359738367) HT_.out ?_
         refine pU 35 (some 78) (bA 38 68719476735) HT_.out ?_
         refine pU 36 (some 79) (bA 38 137438953471) HT_.out ?_
         refine pA 37 (some 80) (bA 38 274877906943) HT_.out ?_
         refine done_ (done_of HT_.out (by kernel_rfl)) ?_
         try go_wp2
         go_ret
         exact ⟨by first | rfl | (simp [errW_none, errW_some] <;> rfl) | (simp [*, errW_none, errW_some] <;> rfl), (belS HB.out)⟩
       ·rw [if_neg c18] at H
        exact absurd H (by simp)
      ·rw [if_neg c17] at H
       have c17b0 : decide (x3_2 < (l0_2.length : Int)) = false := decide_eq_false c17
       clear c17
       obtain rfl := Option.some.inj H
       have hcz38_0 : wr.cell? ⟨gb196, 0, none⟩ = some (.int .i64 a0_0) := (blk_cell BK196.out 0).trans rfl
       have hcz38_1 : wr.cell? ⟨gb196, 1, none⟩ = some (.int .i64 a0_1) := (blk_cell BK196.out 1).trans rfl
       have hcz38_2 : wr.cell? ⟨gb196, 2, none⟩ = some (.slice A0_2 l0_2.length c0_2) := (blk_cell BK196.out 2).trans rfl
       have hfz38_0 := blk_frozen BK196.out 0
       have hfz38_1 := blk_frozen BK196.out 1
       have hfz38_2 := blk_frozen BK196.out 2
       go_wp2
       go_ret
       exact ⟨by first | rfl | (simp [errW_none, errW_some] <;> rfl) | (simp [*, errW_none, errW_some] <;> rfl), (belS HB.out)⟩

end Go.Proofs.Ytbgghcifpephgaa.PRowkeyTells

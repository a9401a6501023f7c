/- The walk of the Go functions that a law reaches, told as plain functions; a program of this session has written it. No condition beyond the statement's own. -/
import Derived.Test.YtbgghcifpephgaaPRowkeyTellsx0
import Derived.Test.YtbgghcifpephgaaPRowkeyTellsx2
import Derived.Test.YtbgghcifpephgaaPRowkeyTellsx8
namespace Go.Proofs.Ytbgghcifpephgaa.PRowkeyTells
open Go.RowKit Go.Proofs.YtbgghcifpephgaaW.PrintWords Go.Proofs.YtbgghcifpephgaaW.PrintLast Go.Proofs.YtbgghcifpephgaaW.PrintMore
attribute [local go_sem] max2_int min2_int max_two min_two max_three min_three max_four min_four   -- for this text's walks alone
set_option linter.unusedVariables false
set_option linter.unusedSimpArgs false

/-! ### marigraphlaw14_made: function 12 -/
mutual
def marigraphlaw14_made.l0 : Nat → List Int → Int → Int → Int → Int → List (S23) → Option (Int × Int × (List (S23)))
 | 0, _, _, _, _, _, _ => none
 | k + 1, x2, x8, x9, x267000, x267001, x267002 => if x9 < (x2.length : Int) then (marigraphlaw14_made.j1 k x2 x8 x9 (decide (x9 < 4)) x267000 x267001 x267002) else (marigraphlaw14_made.j1 k x2 x8 x9 false x267000 x267001 x267002)
def marigraphlaw14_made.j1 : Nat → List Int → Int → Int → Bool → Int → Int → List (S23) → Option (Int × Int × (List (S23)))
 | 0, _, _, _, _, _, _, _ => none
 | k + 1, x2, x8, x9, x23, x267000, x267001, x267002 => if x23 = true then (if 0 ≤ x9 then (if x9 < (x2.length : Int) then ((marigraphbook_Within.f k (rd x2 x9) 1 2097152).bind fun t268 => ((marigraphbook_Within.f k (rd x2 x9) 1 16777215).bind fun t270 => (if x267002.length < 8796093022208 then (marigraphlaw14_made.l0 k x2 (wrap64 (x8 + t268)) (wrap64 (x9 + 1)) x267000 x267001 (x267002 ++ [(⟨wrap64 (x8 + t268), t270⟩ : S23)])) else (none)))) else (none)) else (none)) else (if (x267002.length : Int) = 0 then (some (x267000, x267001, (([(⟨1, 1⟩ : S23)] : List (S23))))) else (some (x267000, x267001, x267002)))
end
def marigraphlaw14_made.f (k : Nat) (a0 : Int) (a1 : Int) (l2 : List Int) : Option (Int × Int × (List (S23))) := (marigraphbook_Within.f k a0 1 16777215).bind fun t264 => ((marigraphbook_Within.f k a1 0 1193046).bind fun t265 => (marigraphlaw14_made.l0 k l2 0 0 t264 (wrap64 (t265 * 3600)) ([] : List (S23))))
theorem marigraphlaw14_made.mono_l : ∀ k, (∀ y0 y1 y2 y3 y4 y5, LeO (marigraphlaw14_made.l0 k y0 y1 y2 y3 y4 y5) (marigraphlaw14_made.l0 (k + 1) y0 y1 y2 y3 y4 y5)) ∧ (∀ y0 y1 y2 y3 y4 y5 y6, LeO (marigraphlaw14_made.j1 k y0 y1 y2 y3 y4 y5 y6) (marigraphlaw14_made.j1 (k + 1) y0 y1 y2 y3 y4 y5 y6))
 | 0 => ⟨fun _ _ _ _ _ _ r h => by simp [marigraphlaw14_made.l0] at h, fun _ _ _ _ _ _ _ r h => by simp [marigraphlaw14_made.j1] at h⟩
 | k + 1 => by
  obtain ⟨ih0, ih1⟩ := marigraphlaw14_made.mono_l k
  refine ⟨?_, ?_⟩
  ·intro y0 y1 y2 y3 y4 y5
   unfold marigraphlaw14_made.l0
   repeat' first
   | (with_reducible exact ih0 _ _ _ _ _ _)
   | (with_reducible exact ih1 _ _ _ _ _ _ _)
   | (with_reducible exact marigraphbook_Within.mono _ _ _ _)
   | (with_reducible exact LeO.refl _)
   | (with_reducible exact LeO.none _)
   | (with_reducible refine LeO.ite ?_ ?_)
   | (with_reducible refine LeO.bind ?_ (fun _ => ?_))
   | exact ih0 _ _ _ _ _ _
   | exact ih1 _ _ _ _ _ _ _
   | exact marigraphbook_Within.mono _ _ _ _
   | exact LeO.none _
   | refine LeO.ite ?_ ?_
   | refine LeO.bind ?_ (fun _ => ?_)
  ·intro y0 y1 y2 y3 y4 y5 y6
   unfold marigraphlaw14_made.j1
   repeat' first
   | (with_reducible exact ih0 _ _ _ _ _ _)
   | (with_reducible exact ih1 _ _ _ _ _ _ _)
   | (with_reducible exact marigraphbook_Within.mono _ _ _ _)
   | (with_reducible exact LeO.refl _)
   | (with_reducible exact LeO.none _)
   | (with_reducible refine LeO.ite ?_ ?_)
   | (with_reducible refine LeO.bind ?_ (fun _ => ?_))
   | exact ih0 _ _ _ _ _ _
   | exact ih1 _ _ _ _ _ _ _
   | exact marigraphbook_Within.mono _ _ _ _
   | exact LeO.none _
   | refine LeO.ite ?_ ?_
   | refine LeO.bind ?_ (fun _ => ?_)
theorem marigraphlaw14_made.mono : ∀ a0 a1 a2 k, LeO (marigraphlaw14_made.f k a0 a1 a2) (marigraphlaw14_made.f (k + 1) a0 a1 a2) := by
 intro a0 a1 a2 k
 obtain ⟨ih0, ih1⟩ := marigraphlaw14_made.mono_l k
 unfold marigraphlaw14_made.f
 repeat' first
   | (with_reducible exact ih0 _ _ _ _ _ _)
   | (with_reducible exact ih1 _ _ _ _ _ _ _)
   | (with_reducible exact marigraphbook_Within.mono _ _ _ _)
   | (with_reducible exact LeO.refl _)
   | (with_reducible exact LeO.none _)
   | (with_reducible refine LeO.ite ?_ ?_)
   | (with_reducible refine LeO.bind ?_ (fun _ => ?_))
   | exact ih0 _ _ _ _ _ _
   | exact ih1 _ _ _ _ _ _ _
   | exact marigraphbook_Within.mono _ _ _ _
   | exact LeO.none _
   | refine LeO.ite ?_ ?_
   | refine LeO.bind ?_ (fun _ => ?_)
def marigraphlaw14_made.T7 : Bool × List (List Nat × List Nat) := (true, [([], []), ([0], [0]), ([], []), ([], []), ([], []), ([3, 4], [3, 4]), ([5], [5]), ([6], [6]), ([2, 7], [2, 7]), ([8], [8]), ([1, 9, 7], [1, 9]), ([0, 1, 2, 3, 4, 5, 6, 7, 8, 9, 10], []), ([11, 10, 10, 0, 1, 2, 3, 4, 5, 6, 7, 8, 9, 10], [10, 11])])
def marigraphlaw14_made.B7 : List Nat := [0, 1, 0, 0, 0, 24, 56, 120, 252, 508, 1023, 2047, 4095]
theorem marigraphlaw14_made.tab7 : rtab .any (opsOf Try.f12 7) = marigraphlaw14_made.T7 := by kernel_rfl
theorem marigraphlaw14_made.bits7 : waitsOk marigraphlaw14_made.T7.2 marigraphlaw14_made.B7 = true := by kernel_rfl
set_option maxHeartbeats 8000000 in
set_option maxRecDepth 100000 in
theorem marigraphlaw14_made.calls (k : Nat) (a0 : Int) (a1 : Int) (A2 : Option Addr) (c2 : Nat) (l2 : List Int) (r1 : Int) (r2 : Int) (r3 : List (S23)) (w : World) (hr2 : Kd.C (Kd.int .i64) w A2 l2.length l2) (hc2 : l2.length ≤ c2) (h : marigraphlaw14_made.f k a0 a1 l2 = some (r1, r2, r3)) :
  Calls Try.prog 12 #[.int .i64 a0, .int .i64 a1, .slice A2 l2.length c2] w fun e w' => ∃ v2_ : Value, e = .returned (.agg #[.int .i64 r1, .int .i64 r2, v2_]) ∧ Kd.R k23 23 w' w.heap.size (fun _ => True) v2_ r3 ∧ Below w.heap.size w w' := by
 have hu26 := Try.underlying26
 have hu23 := Try.underlying23
 have HR2 := Aside0.mk hr2
 have HC2 := Aside0.mk hc2
 clear hr2 hc2
 have HB := Aside0.mk (Below.refl w.heap.size w)
 have H : ((marigraphbook_Within.f k a0 1 16777215).bind fun t264 => ((marigraphbook_Within.f k a1 0 1193046).bind fun t265 => (marigraphlaw14_made.l0 k l2 0 0 t264 (wrap64 (t265 * 3600)) ([] : List (S23))))) = some (r1, r2, r3) := h
 clear h
 replace H := Option.bind_eq_some_iff.mp H
 obtain ⟨t264, A40, H⟩ := H
 replace H : ((marigraphbook_Within.f k a1 0 1193046).bind fun t265 => (marigraphlaw14_made.l0 k l2 0 0 t264 (wrap64 (t265 * 3600)) ([] : List (S23)))) = some (r1, r2, r3) := H
 have A4 := Aside0.mk A40
 clear A40
 replace H := Option.bind_eq_some_iff.mp H
 obtain ⟨t265, A50, H⟩ := H
 replace H : (marigraphlaw14_made.l0 k l2 0 0 t264 (wrap64 (t265 * 3600)) ([] : List (S23))) = some (r1, r2, r3) := H
 have A5 := Aside0.mk A50
 clear A50
 have H' := Aside0.mk H
 clear H
 go_enter Try.func12, Try.ntmps12
 go_wp2_with (first | ((with_reducible refine gate_dst (N := 6) rfl ?_); refine box_event ?hg (N := 6) ?hd (cs := #[.int .i64 0, .int .i64 0, .slice none 0 0]) (t := 26) ?hr ?_; (case hd => rfl); (case hg => rfl); (case hr => first | (go_simp; done) | (go_simp; rfl)); intro gb263 hg w6 hbox hb; have n0_ := Aside0.mk (below_step (belN HB.out) hb); have n1_ := Aside0.mk (hbox); have n2_ := Aside0.mk (szB hg HB.out); have n3_ := Aside0.mk (szB hg HB.out); clear HB; have HB := n0_; have BK263 := n1_; have GW263 := n2_; have GE263 := n3_; clear n0_ n1_ n2_ n3_; clear hb hbox hg) | ((with_reducible refine gate_callee (f := 13) rfl ?_); refine goesL_ (some 11) rfl rfl Try.func13 (by kernel_rfl) rfl #[.int .i64 a0, .int .i64 1, .int .i64 16777215] rfl argN ?_; (with_reducible refine (marigraphbook_Within.calls k a0 1 16777215 t264 _ A4.out).mono ?_); rintro e w' ⟨rfl, ⟨nd, rfl⟩⟩; refine ⟨_, rfl, ?_⟩; (try (rw [drewN_self w6]; generalize hq_ : World.drewN w6 _ = w6; have n0_ := Aside0.mk (blk_at hq_ BK263.out); have n1_ := Aside0.mk (below_at hq_ HB.out); clear hq_ BK263 HB; have BK263 := n0_; have HB := n1_; clear n0_ n1_))) | ((with_reducible refine gate_callee (f := 13) rfl ?_); refine goesL_ (some 13) rfl rfl Try.func13 (by kernel_rfl) rfl #[.int .i64 a1, .int .i64 0, .int .i64 1193046] rfl argN ?_; (with_reducible refine (marigraphbook_Within.calls k a1 0 1193046 t265 _ A5.out).mono ?_); rintro e w' ⟨rfl, ⟨nd, rfl⟩⟩; refine ⟨_, rfl, ?_⟩; (try (rw [drewN_self w6]; generalize hq_ : World.drewN w6 _ = w6; have n0_ := Aside0.mk (blk_at hq_ BK263.out); have n1_ := Aside0.mk (below_at hq_ HB.out); clear hq_ BK263 HB; have BK263 := n0_; have HB := n1_; clear n0_ n1_))) | ((with_reducible refine gate_dst (N := 7) rfl ?_); refine box_event ?hg (N := 7) ?hd (cs := #[.int .i64 0, .int .i64 0, .slice none 0 0]) (t := 26) ?hr ?_; (case hd => rfl); (case hg => rfl); (case hr => first | (go_simp; done) | (go_simp; rfl)); intro gb266 hg w7 hbox hb; have n0_ := Aside0.mk (bkB BK263.out hb); have n1_ := Aside0.mk (below_step (belS HB.out) hb); have n2_ := Aside0.mk (hbox); have n3_ := Aside0.mk (szB hg HB.out); have n4_ := Aside0.mk (szB hg HB.out); have n5_ := Aside0.mk ((bk1 hg BK263.out)); have n6_ := Aside0.mk ((bk2 hg BK263.out)); clear BK263; clear HB; have BK263 := n0_; have HB := n1_; have BK266 := n2_; have GW266 := n3_; have GE266 := n4_; have NB263_266 := n5_; have NB266_263 := n6_; clear n0_ n1_ n2_ n3_ n4_ n5_ n6_; clear hb hbox hg; have hnb8 := NB266_263.out; have hnc8 := NB263_266.out; have hcz9_0 : w7.cell? ⟨gb266, 0, none⟩ = some (.int .i64 0) := (blk_cell BK266.out 0).trans rfl; have hcz9_1 : w7.cell? ⟨gb266, 1, none⟩ = some (.int .i64 0) := (blk_cell BK266.out 1).trans rfl; have hcz9_2 : w7.cell? ⟨gb266, 2, none⟩ = some (.slice none 0 0) := (blk_cell BK266.out 2).trans rfl; have hfz9_0 := blk_frozen BK266.out 0; have hfz9_1 := blk_frozen BK266.out 1; have hfz9_2 := blk_frozen BK266.out 2))
 go_loopg [8, 9] k (fun kq v8 v9 w' => ∃ (x8_1 : Int) (x9_1 : Int) (x267002_1 : List (S23)) (u267002 : Value), v8 = .int .i64 x8_1 ∧ v9 = .int .i64 x9_1 ∧ Aside0 (marigraphlaw14_made.l0 kq l2 x8_1 x9_1 t264 (wrap64 (t265 * 3600)) x267002_1 = some (r1, r2, r3)) ∧ Aside0 (kq ≤ k) ∧ Aside0 (Kd.R k23 23 w' w.heap.size (fun _ => True) u267002 x267002_1) ∧ Aside0 (w'.heap[gb263]? = some (.cells #[.int .i64 0, .int .i64 0, (.slice none 0 0)] 26 (0, 0))) ∧ Aside0 (w'.heap[gb266]? = some (.cells #[.int .i64 t264, .int .i64 (wrap64 (t265 * 3600)), u267002] 26 (0, 0))) ∧ Aside0 (Below w.heap.size w w'))
 case atStart => exact ⟨(0), (0), (([] : List (S23))), (.slice none 0 0), (by first | rfl | (simp; done) | (simp [*]; done)), (by first | rfl | (simp; done) | (simp [*]; done)), H', ⟨Nat.le_refl _⟩, ⟨by first | exact Kd.R_nil _ _ _ _ _ | exact Kd.N_nil _ _ _ _ _ | exact Kd.V_nil _ _ _ _ _ | exact Kd.Q_nil _ _ _ _ _ | exact Kd.S_nil _ _ _ _ _⟩, ⟨blkF BK263.out⟩, ⟨by (with_reducible repeat (first | refine blk_drewN ?_ _ | refine blk_drew ?_ | refine blk_alloc ?_ _)); refine blk_put (cs := #[.int .i64 t264, .int .i64 (wrap64 (t265 * 3600)), .slice none 0 0]) ?_ 2 _ rfl; (with_reducible repeat (first | refine blk_drewN ?_ _ | refine blk_drew ?_ | refine blk_alloc ?_ _)); refine blk_put (cs := #[.int .i64 t264, .int .i64 0, .slice none 0 0]) ?_ 1 _ rfl; (with_reducible repeat (first | refine blk_drewN ?_ _ | refine blk_drew ?_ | refine blk_alloc ?_ _)); refine blk_put (cs := #[.int .i64 0, .int .i64 0, .slice none 0 0]) ?_ 0 _ rfl; (with_reducible repeat (first | refine blk_drewN ?_ _ | refine blk_drew ?_ | refine blk_alloc ?_ _)); exact BK266.out⟩, ⟨(belS HB.out)⟩⟩
 case round =>
  clear H'
  try clear c1
  try clear c2
  try clear p2
  try clear p6
  try clear c8
  try clear hcz9_0
  try clear hcz9_1
  try clear hcz9_2
  try clear hfz9_0
  try clear hfz9_1
  try clear hfz9_2
  obtain ⟨x8_1, x9_1, x267002_1, u267002, rfl, rfl, HA, HK1, HO_267002, BK263, BK266, HB⟩ := hrel
  cases gk with
  | zero => exact absurd HA.out (by simp [marigraphlaw14_made.l0])
  | succ k1 =>
   have H := HA.out
   clear HA
   simp only [marigraphlaw14_made.l0] at H
   have HC10 := Aside0.mk H
   clear H
   go_upto_region 4 with (fail)
   go_cut [23] (fun v23 wc => ∃ (kq : Nat) (x23_9 : Bool), v23 = .bool x23_9 ∧ Aside0 (marigraphlaw14_made.j1 kq l2 x8_1 x9_1 x23_9 t264 (wrap64 (t265 * 3600)) x267002_1 = some (r1, r2, r3)) ∧ Aside0 (kq ≤ k1) ∧ Aside0 (Kd.R k23 23 wc w.heap.size (fun _ => True) u267002 x267002_1) ∧ Aside0 (wc.heap[gb263]? = some (.cells #[.int .i64 0, .int .i64 0, (.slice none 0 0)] 26 (0, 0))) ∧ Aside0 (wc.heap[gb266]? = some (.cells #[.int .i64 t264, .int .i64 (wrap64 (t265 * 3600)), u267002] 26 (0, 0))) ∧ Aside0 (Below w.heap.size w wc))
   case first =>
    have H := HC10.out
    clear HC10
    by_cases c11 : x9_1 < (l2.length : Int)
    ·rw [if_pos c11] at H
     have c11b0 : decide (x9_1 < (l2.length : Int)) = true := decide_eq_true c11
     clear c11
     (first | rw [c11b0] | rw [c11b1] | (simp only [i64_w, i32_w]; rw [c11b0]) | skip)
     have H' := Aside0.mk H
     clear H
     go_wp2
     go_meet
     case rel => exact ⟨_, (decide (x9_1 < 4)), (by first | rfl | (simp; done) | (simp [*]; done)), H', ⟨by have := HK1.out; first | omega | exact Nat.le_refl _⟩, ⟨(rowN HO_267002.out)⟩, ⟨blkN BK263.out⟩, ⟨blkN BK266.out⟩, ⟨(belS HB.out)⟩⟩
    ·rw [if_neg c11] at H
     have c11b0 : decide (x9_1 < (l2.length : Int)) = false := decide_eq_false c11
     clear c11
     (first | rw [c11b0] | rw [c11b1] | (simp only [i64_w, i32_w]; rw [c11b0]) | skip)
     have H' := Aside0.mk H
     clear H
     go_wp2
     go_meet
     case rel => exact ⟨_, (false), (by first | rfl | (simp; done) | (simp [*]; done)), H', ⟨by have := HK1.out; first | omega | exact Nat.le_refl _⟩, ⟨(rowN HO_267002.out)⟩, ⟨blkN BK263.out⟩, ⟨blkN BK266.out⟩, ⟨(belS HB.out)⟩⟩
   case rest =>
    clear HC10
    try clear c1
    try clear c2
    try clear p2
    try clear p6
    try clear c8
    try clear c11
    try clear c11b0
    try clear hcz9_0
    try clear hcz9_1
    try clear hcz9_2
    try clear hfz9_0
    try clear hfz9_1
    try clear hfz9_2
    try clear p2
    try clear p6
    obtain ⟨kq, x23_9, rfl, HA, HJ9, HO_267002, BK263, BK266, HB⟩ := hcut
    cases kq with
    | zero => exact absurd HA.out (by simp [marigraphlaw14_made.j1])
    | succ kj9 =>
     have H := HA.out
     clear HA
     simp only [marigraphlaw14_made.j1] at H
     by_cases c12 : x23_9 = true
     ·subst c12
      have H1 : (if 0 ≤ x9_1 then (if x9_1 < (l2.length : Int) then ((marigraphbook_Within.f kj9 (rd l2 x9_1) 1 2097152).bind fun t268 => ((marigraphbook_Within.f kj9 (rd l2 x9_1) 1 16777215).bind fun t270 => (if x267002_1.length < 8796093022208 then (marigraphlaw14_made.l0 kj9 l2 (wrap64 (x8_1 + t268)) (wrap64 (x9_1 + 1)) t264 (wrap64 (t265 * 3600)) (x267002_1 ++ [(⟨wrap64 (x8_1 + t268), t270⟩ : S23)])) else (none)))) else (none)) else (none)) = some (r1, r2, r3) := by rw [if_pos rfl] at H; exact H
      clear H
      have H := H1
      clear H1
      by_cases c13 : 0 ≤ x9_1
      ·rw [if_pos c13] at H
       have c13b0 : decide (0 ≤ x9_1) = true := decide_eq_true c13
       clear c13
       by_cases c14 : x9_1 < (l2.length : Int)
       ·rw [if_pos c14] at H
        have c14b0 : decide (x9_1 < (l2.length : Int)) = true := decide_eq_true c14
        clear c14
        replace H := Option.bind_eq_some_iff.mp H
        obtain ⟨t268, A150, H⟩ := H
        replace H : ((marigraphbook_Within.f kj9 (rd l2 x9_1) 1 16777215).bind fun t270 => (if x267002_1.length < 8796093022208 then (marigraphlaw14_made.l0 kj9 l2 (wrap64 (x8_1 + t268)) (wrap64 (x9_1 + 1)) t264 (wrap64 (t265 * 3600)) (x267002_1 ++ [(⟨wrap64 (x8_1 + t268), t270⟩ : S23)])) else (none))) = some (r1, r2, r3) := H
        have A15 := Aside0.mk A150
        clear A150
        replace H := Option.bind_eq_some_iff.mp H
        obtain ⟨t270, A160, H⟩ := H
        replace H : (if x267002_1.length < 8796093022208 then (marigraphlaw14_made.l0 kj9 l2 (wrap64 (x8_1 + t268)) (wrap64 (x9_1 + 1)) t264 (wrap64 (t265 * 3600)) (x267002_1 ++ [(⟨wrap64 (x8_1 + t268), t270⟩ : S23)])) else (none)) = some (r1, r2, r3) := H
        have A16 := Aside0.mk A160
        clear A160
        by_cases c17 : x267002_1.length < 8796093022208
        ·rw [if_pos c17] at H
         have LMc17 := Aside0.mk c17
         clear c17
         obtain ⟨y271, hy271⟩ : ∃ y_ : List (S23), y_ = (x267002_1 ++ [(⟨wrap64 (x8_1 + t268), t270⟩ : S23)]) := ⟨_, rfl⟩
         replace H : (marigraphlaw14_made.l0 kj9 l2 (wrap64 (x8_1 + t268)) (wrap64 (x9_1 + 1)) t264 (wrap64 (t265 * 3600)) y271) = some (r1, r2, r3) := by first | (rw [hy271]; with_reducible exact H) | (have H2_ := (Option.bind_some _ _).symm.trans H; rw [hy271]; with_reducible exact H2_) | (have H2_ := (Option.bind_some _ _).symm.trans H; with_reducible exact H2_) | with_reducible exact H | (rw [hy271]; exact H) | exact H
         have Ny271 := Aside0.mk hy271
         clear hy271
         have H' := Aside0.mk H
         clear H
         have p267 : 0 ≤ (x9_1 : Int) := of_decide_eq_true (by first | (with_reducible assumption) | assumption)
         have q267 : x9_1 < (l2.length : Int) := of_decide_eq_true (by first | (with_reducible assumption) | assumption)
         obtain ⟨ad267, e267, hx267_0⟩ := Kd.at_int HR2.out x9_1 p267 q267
         cases e267
         (try replace hx267_0 := cellB HB.out hx267_0)
         replace p267 := eq_true p267
         replace q267 := eq_true q267
         try go_wp2_with (first | ((with_reducible refine gate_callee (f := 13) rfl ?_); refine goesL_ (some 31) rfl rfl Try.func13 (by kernel_rfl) rfl #[.int .i64 (rd l2 x9_1), .int .i64 1, .int .i64 2097152] rfl argN ?_; (with_reducible refine (marigraphbook_Within.calls kj9 (rd l2 x9_1) 1 2097152 t268 _ A15.out).mono ?_); rintro e w' ⟨rfl, ⟨nd, rfl⟩⟩; refine ⟨_, rfl, ?_⟩; (try (rw [drewN_self wc]; generalize hq_ : World.drewN wc _ = wc; have n0_ := Aside0.mk (Kd.R_at hq_ HO_267002.out); have n1_ := Aside0.mk (blk_at hq_ BK263.out); have n2_ := Aside0.mk (blk_at hq_ BK266.out); have n3_ := Aside0.mk (below_at hq_ HB.out); clear hq_ HO_267002 BK263 BK266 HB; have HO_267002 := n0_; have BK263 := n1_; have BK266 := n2_; have HB := n3_; clear n0_ n1_ n2_ n3_))))
         have n0_ := Aside0.mk (Kd.R_drew HO_267002.out)
         have n1_ := Aside0.mk (blk_drew BK263.out)
         have n2_ := Aside0.mk (blk_drew BK266.out)
         have n3_ := Aside0.mk (below_drew1 HB.out)
         clear HO_267002
         clear BK263
         clear BK266
         clear HB
         have HO_267002 := n0_
         have BK263 := n1_
         have BK266 := n2_
         have HB := n3_
         clear n0_ n1_ n2_ n3_
         have p269 : 0 ≤ (x9_1 : Int) := of_decide_eq_true (by first | (with_reducible assumption) | assumption)
         have q269 : x9_1 < (l2.length : Int) := of_decide_eq_true (by first | (with_reducible assumption) | assumption)
         obtain ⟨ad269, e269, hx269_0⟩ := Kd.at_int HR2.out x9_1 p269 q269
         have hw269_0 := hx269_0
         obtain rfl : ad267 = ad269 := (by injection e269)
         (try replace hx269_0 := cellB HB.out hx269_0)
         replace p269 := eq_true p269
         replace q269 := eq_true q269
         refine start_ (n := 13) (S := fun w' => w'.cell? ⟨gb266, 0, none⟩ = some (.int .i64 t264) ∧ w'.cell? ⟨gb266, 1, none⟩ = some (.int .i64 (wrap64 (t265 * 3600))) ∧ w'.cell? ⟨gb266, 2, none⟩ = some (u267002) ∧ w'.cell? (ad267.add (x9_1).toNat) = some (.int .i64 (rd l2 x9_1))) (ds := [12]) #[false, false, false, false, false, false, false, false, false, false, false, false, false] (by kernel_rfl) rfl rfl ⟨(blk_cell BK266.out 0).trans rfl, (blk_cell BK266.out 1).trans rfl, (blk_cell BK266.out 2).trans rfl, (cellB HB.out hw269_0)⟩ (fun hHeld => ?_); refine with_tabW marigraphlaw14_made.tab7 marigraphlaw14_made.bits7 (fun HT_ HW_ => ?_)
         generalize wc.drew = w18 at HO_267002 BK263 BK266 HB hx269_0 hHeld ⊢
         refine pA 0 (some 33) (bA 13 1) HT_.out ?_
         refine pA 2 (some 35) (bA 13 5) HT_.out ?_
         refine pA 3 (some 36) (bA 13 13) HT_.out ?_
         refine pA 4 (some 37) (bA 13 29) HT_.out ?_
         refine pA 5 (some 38) (bA 13 61) HT_.out ?_
         refine take_ (i := 1) (N := some 34) (v := ?_) (a' := ?_) (bA 13 63) rfl rfl (take_ofW HT_.out HW_.out (by kernel_rfl)) (fun _ _ _ h => h) (Or.inl ⟨by rfl, ?_⟩) hHeld ?_ ?_
         rotate_left
         ·rintro w' ⟨s0, s1, s2, s3⟩
          go_simp
          with_reducible rfl
         rotate_left
         ·simp only [Act.put, List.setIfInBounds_toArray, List.set_cons_zero, List.set_cons_succ, i64_w, i32_w]
          rfl
         refine take_ (i := 6) (N := some 39) (v := ?_) (a' := ?_) (bA 13 127) rfl rfl (take_ofW HT_.out HW_.out (by kernel_rfl)) (fun _ _ _ h => h) (Or.inl ⟨by rfl, ?_⟩) hHeld ?_ ?_
         rotate_left
         ·rintro w' ⟨s0, s1, s2, s3⟩
          go_simp
          with_reducible rfl
         rotate_left
         ·simp only [Act.put, List.setIfInBounds_toArray, List.set_cons_zero, List.set_cons_succ, i64_w, i32_w]
          rfl
         refine one_ (i := 7) (N := some 40) (bA 13 255) rfl rfl (one_of HT_.out (by kernel_rfl)) (by decide) (fun K hK => ?_)
         refine goes_ Try.func13 (by kernel_rfl) rfl #[.int .i64 (rd l2 x9_1), .int .i64 1, .int .i64 16777215] (by rfl) rfl rfl argN ?_
         with_reducible refine (marigraphbook_Within.calls kj9 (rd l2 x9_1) 1 16777215 t270 _ A16.out).mono ?_
         rintro e w' ⟨rfl, ⟨nd, rfl⟩⟩
         refine ⟨_, rfl, ?_⟩
         refine hK.out _ _ ⟨(blk_cell BK266.out 0).trans rfl, (blk_cell BK266.out 1).trans rfl, (blk_cell BK266.out 2).trans rfl, hHeld.2.2.2⟩ (fun hHeld => ?_)
         clear hK K
         refine norm_ (a' := ?_) ?_ ?_
         rotate_left
         ·show Act.put _ (some 40) _ = _
          simp only [Act.put, List.setIfInBounds_toArray, List.set_cons_zero, List.set_cons_succ, i64_w, i32_w]
          rfl
         refine pA 8 (some 41) (bA 13 511) HT_.out ?_
         refine one_ (i := 9) (N := some 42) (bA 13 1023) rfl rfl (one_of HT_.out (by kernel_rfl)) (by decide) (fun K hK => ?_)
         refine value_ (w1 := ?_) (v := ?_) (by rfl) rfl ?_ ?_
         rotate_left 2
         ·go_simp
          constructor
          ·rfl
          ·rfl
         refine hK.out _ _ ⟨(blk_cell (blk_alloc BK266.out _) 0).trans rfl, (blk_cell (blk_alloc BK266.out _) 1).trans rfl, (blk_cell (blk_alloc BK266.out _) 2).trans rfl, (World.cell?_alloc_lt _ _ _ (World.block_lt_of_cell? _ _ ((cellB HB.out hw269_0)))).trans ((cellB HB.out hw269_0))⟩ (fun hHeld => ?_)
         clear hK K
         refine norm_ (a' := ?_) ?_ ?_
         rotate_left
         ·show Act.put _ (some 42) _ = _
          simp only [Act.put, List.setIfInBounds_toArray, List.set_cons_zero, List.set_cons_succ, i64_w, i32_w]
          rfl
         refine one_ (i := 10) (N := some 43) (bA 13 2047) rfl rfl (one_of HT_.out (by kernel_rfl)) (by decide) (fun K hK => ?_)
         refine Kd.R_append_step k23 (w0 := w) w.heap.size (by rfl) (.tmp 34) (.tmp 42) 24 23 (.agg #[(.int .i64 0), (.int .i64 0)]) 16 rfl Try.underlying24 info23 rfl (by decide) (by omega) u267002 x267002_1 (⟨wrap64 (x8_1 + t268), t270⟩ : S23) [.int .i64 (wrap64 (x8_1 + t268)), .int .i64 t270] (fun _ => True) (fun _ => False) rfl rfl ?aP (fun _ hk => hk.elim) ?aF ?aO ?aB ?aS ?aL ?_
         (case aP => exact k23_mkM _ _ _ (⟨wrap64 (x8_1 + t268), t270⟩ : S23))
         (case aB => exact (belS HB.out))
         (case aF => exact (fun _ _ => trivial))
         (case aO => exact (rowN HO_267002.out))
         (case aS => exact (below_size (belS HB.out)))
         (case aL => have := LMc17.out; omega)
         intro v272 w19 ho hb hg hat
         rw [← Ny271.out] at ho
         have n0_ := Aside0.mk (blk_grown (g := gb263) (o := .cells #[.int .i64 0, .int .i64 0, .slice none 0 0] 26 (0, 0)) (blkN BK263.out) hg (Kd.R_ne HO_267002.out BK263.out (by decide)))
         have n1_ := Aside0.mk (blk_grown (g := gb266) (o := .cells #[.int .i64 t264, .int .i64 (wrap64 (t265 * 3600)), u267002] 26 (0, 0)) (blkN BK266.out) hg (Kd.R_ne HO_267002.out BK266.out (by decide)))
         have n2_ := Aside0.mk (hb)
         have n3_ := Aside0.mk (ho)
         clear BK263
         clear BK266
         clear HB
         clear HO_267002
         have BK263 := n0_
         have BK266 := n1_
         have HB := n2_
         have HO273 := n3_
         clear n0_ n1_ n2_ n3_
         clear ho hb hg hat
         obtain ⟨Ao20, co20, eo20⟩ := Kd.R_slice HO273.out
         (first | subst eo20 | (injection eo20 with f1_ f2_ f3_; have f4_ := f1_.symm; have f5_ := f3_.symm; clear f1_ f2_ f3_; subst f4_; subst f5_))
         refine hK.out _ _ ⟨(blk_cell BK266.out 0).trans rfl, (blk_cell BK266.out 1).trans rfl, (blk_cell BK266.out 2).trans rfl, (cellB HB.out hw269_0)⟩ (fun hHeld => ?_)
         clear hK K
         refine norm_ (a' := ?_) ?_ ?_
         rotate_left
         ·show Act.put _ (some 43) _ = _
          simp only [Act.put, List.setIfInBounds_toArray, List.set_cons_zero, List.set_cons_succ, i64_w, i32_w]
          rfl
         refine pA 11 (some 44) (bA 13 4095) HT_.out ?_
         refine last_ (i := 12) (N := none) (bA 13 8191) rfl rfl (one_of HT_.out (by kernel_rfl)) (by decide) (fun K hK => ?_)
         have hs21 : w19.cell? ⟨gb266, 2, none⟩ = some (u267002) := (blk_cell BK266.out 2).trans rfl
         have hfs21 := blk_frozen BK266.out 2
         have hns21_0 := NB263_266.out
         have hms21_0 := NB266_263.out
         refine skip_ (w1 := ?_) (by rfl) rfl ?_ ?_
         rotate_left
         ·go_simp
          rfl
         refine hK.out _ _ ?_
         clear hK K
         refine done_ (done_of HT_.out (by kernel_rfl)) ?_
         try go_wp2
         go_roundg kj9
         case measure => have := HK1.out; have := HJ9.out; omega
         case rel => exact ⟨(wrap64 (x8_1 + t268)), (wrap64 (x9_1 + 1)), (y271), (.slice Ao20 y271.length co20), (by first | rfl | (simp; done) | (simp [*]; done)), (by first | rfl | (simp; done) | (simp [*]; done)), H', ⟨by have := HK1.out; have := HJ9.out; omega⟩, ⟨by (with_reducible repeat (first | apply Kd.R_alloc | apply Kd.R_drewN | apply Kd.R_drew)); exact Kd.R_mono (Kd.R_far (p := ⟨gb266, 2, none⟩) (Kd.R_types HO273.out BK266.out (by decide)) (fun _ hk => hk.2) (.slice Ao20 y271.length co20)) (fun _ hk => trivial)⟩, ⟨blkF BK263.out⟩, ⟨by (with_reducible repeat (first | refine blk_drewN ?_ _ | refine blk_drew ?_ | refine blk_alloc ?_ _)); refine blk_put (cs := #[.int .i64 t264, .int .i64 (wrap64 (t265 * 3600)), u267002]) ?_ 2 _ rfl; (with_reducible repeat (first | refine blk_drewN ?_ _ | refine blk_drew ?_ | refine blk_alloc ?_ _)); exact BK266.out⟩, ⟨(belS HB.out)⟩⟩
        ·rw [if_neg c17] at H
         exact absurd H (by simp)
       ·rw [if_neg c14] at H
        exact absurd H (by simp)
      ·rw [if_neg c13] at H
       exact absurd H (by simp)
     ·replace c12 := Bool.eq_false_iff.mpr c12
      subst c12
      have H1 : (if (x267002_1.length : Int) = 0 then (some (t264, (wrap64 (t265 * 3600)), (([(⟨1, 1⟩ : S23)] : List (S23))))) else (some (t264, (wrap64 (t265 * 3600)), x267002_1))) = some (r1, r2, r3) := by rw [if_neg (show ¬ (false = true) by decide)] at H; exact H
      clear H
      have H := H1
      clear H1
      by_cases c22 : (x267002_1.length : Int) = 0
      ·rw [if_pos c22] at H
       have c22b0 : ((x267002_1.length : Int) == 0) = true := beq_iff_eq.mpr c22
       have c22b1 : ((x267002_1.length : Int) != 0) = false := bne_eq_false_iff_eq.mpr c22
       clear c22
       obtain ⟨y274, hy274⟩ : ∃ y_ : List (S23), y_ = (([(⟨1, 1⟩ : S23)] : List (S23))) := ⟨_, rfl⟩
       replace H : (some (t264, (wrap64 (t265 * 3600)), y274)) = some (r1, r2, r3) := by first | (rw [hy274]; with_reducible exact H) | (have H2_ := (Option.bind_some _ _).symm.trans H; rw [hy274]; with_reducible exact H2_) | (have H2_ := (Option.bind_some _ _).symm.trans H; with_reducible exact H2_) | with_reducible exact H | (rw [hy274]; exact H) | exact H
       have Ny274 := Aside0.mk hy274
       clear hy274
       simp only [Option.some.injEq, Prod.mk.injEq] at H
       obtain ⟨rfl, rfl, rfl⟩ := H
       have hnb23 := NB266_263.out
       have hnc23 := NB263_266.out
       have hcz24_0 : wc.cell? ⟨gb266, 0, none⟩ = some (.int .i64 t264) := (blk_cell BK266.out 0).trans rfl
       have hcz24_1 : wc.cell? ⟨gb266, 1, none⟩ = some (.int .i64 (wrap64 (t265 * 3600))) := (blk_cell BK266.out 1).trans rfl
       have hcz24_2 : wc.cell? ⟨gb266, 2, none⟩ = some (u267002) := (blk_cell BK266.out 2).trans rfl
       have hfz24_0 := blk_frozen BK266.out 0
       have hfz24_1 := blk_frozen BK266.out 1
       have hfz24_2 := blk_frozen BK266.out 2
       obtain ⟨Ao25, co25, eo25⟩ := Kd.R_slice HO_267002.out
       subst eo25
       go_wp2_with (first | ((with_reducible refine gate_dst (N := 50) rfl ?_); refine Kd.R_lit k23 _ 23 ?hg (N := 50) ?hd (xs := ([(⟨1, 1⟩ : S23)] : List (S23))) (inner := [.int .i64 1, .int .i64 1]) (ok := fun _ => True) (okp := fun _ => True) ?hr ?hp (fun _ hk => hk) trivial (Below.refl _ _) (Nat.le_refl _) (by simp) ?_; (case hd => rfl); (case hg => rfl); (case hr => first | (go_simp; done) | (go_simp; rfl)); (case hp => exact (Reps.c2 (show Kd.M k23 _ _ _ (⟨1, 1⟩ : S23) [.int .i64 1, .int .i64 1] from (k23_mkM _ _ _ (⟨1, 1⟩ : S23) )) (Reps.none _ _))); intro v275 w26 ho27 hb hg_ hnew_; clear hg_ hnew_; (first | rw [← Ny274.out] at ho27 | (simp only [Int.reduceToNat] at ho27; rw [← Ny274.out] at ho27)); have n0_ := Aside0.mk (Kd.R_elder' (rowN HO_267002.out) (Kd.R_base ho27) hb); have n1_ := Aside0.mk (Kd.R_lower (Kd.R_new' ho27 (Kd.R_lt (rowN HO_267002.out))) (below_size (belS HB.out))); have n2_ := Aside0.mk (bkB BK263.out hb); have n3_ := Aside0.mk (bkB BK266.out hb); have n4_ := Aside0.mk (below_step (belS HB.out) hb); clear HO_267002; clear BK263; clear BK266; clear HB; have HO_267002 := n0_; have HO276 := n1_; have BK263 := n2_; have BK266 := n3_; have HB := n4_; clear n0_ n1_ n2_ n3_ n4_; clear hb ho27; obtain ⟨Ao28, co28, eo28⟩ := Kd.R_slice HO276.out; subst eo28; have hcz29_0 : w26.cell? ⟨gb266, 0, none⟩ = some (.int .i64 t264) := (blk_cell BK266.out 0).trans rfl; have hcz29_1 : w26.cell? ⟨gb266, 1, none⟩ = some (.int .i64 (wrap64 (t265 * 3600))) := (blk_cell BK266.out 1).trans rfl; have hcz29_2 : w26.cell? ⟨gb266, 2, none⟩ = some (.slice Ao25 x267002_1.length co25) := (blk_cell BK266.out 2).trans rfl; have hfz29_0 := blk_frozen BK266.out 0; have hfz29_1 := blk_frozen BK266.out 1; have hfz29_2 := blk_frozen BK266.out 2; have hcz30_0 : w26.cell? ⟨gb263, 0, none⟩ = some (.int .i64 0) := (blk_cell BK263.out 0).trans rfl; have hcz30_1 : w26.cell? ⟨gb263, 1, none⟩ = some (.int .i64 0) := (blk_cell BK263.out 1).trans rfl; have hcz30_2 : w26.cell? ⟨gb263, 2, none⟩ = some (.slice none 0 0) := (blk_cell BK263.out 2).trans rfl; have hfz30_0 := blk_frozen BK263.out 0; have hfz30_1 := blk_frozen BK263.out 1; have hfz30_2 := blk_frozen BK263.out 2))
       refine bodyPost_ret (results_cell_row rfl _ _ gb263 26 #[.int .i64 t264, .int .i64 (wrap64 (t265 * 3600)), .slice Ao28 y274.length co28] (0, 0) _ rfl (by (with_reducible repeat (first | refine blk_drewN ?_ _ | refine blk_drew ?_ | refine blk_alloc ?_ _)); refine blk_put (cs := #[.int .i64 t264, .int .i64 (wrap64 (t265 * 3600)), .slice none 0 0]) ?_ 2 _ rfl; (with_reducible repeat (first | refine blk_drewN ?_ _ | refine blk_drew ?_ | refine blk_alloc ?_ _)); refine blk_put (cs := #[.int .i64 t264, .int .i64 0, .slice none 0 0]) ?_ 1 _ rfl; (with_reducible repeat (first | refine blk_drewN ?_ _ | refine blk_drew ?_ | refine blk_alloc ?_ _)); refine blk_put (cs := #[.int .i64 0, .int .i64 0, .slice none 0 0]) ?_ 0 _ rfl; (with_reducible repeat (first | refine blk_drewN ?_ _ | refine blk_drew ?_ | refine blk_alloc ?_ _)); refine blk_far ?_ NB263_266.out _; (with_reducible repeat (first | refine blk_drewN ?_ _ | refine blk_drew ?_ | refine blk_alloc ?_ _)); exact BK263.out) Try.underlying26 rfl (by kernel_rfl)) rfl ?_
       exact ⟨_, by first | rfl | (simp [errW_none, errW_some] <;> rfl) | (simp [*, errW_none, errW_some] <;> rfl), by (with_reducible repeat (first | apply Kd.R_alloc | apply Kd.R_drewN | apply Kd.R_drew)); exact Kd.R_mono (Kd.R_far (p := ⟨gb263, 2, none⟩) (Kd.R_far (p := ⟨gb263, 1, none⟩) (Kd.R_far (p := ⟨gb263, 0, none⟩) (Kd.R_far (p := ⟨gb266, 2, none⟩) (Kd.R_types (Kd.R_types HO276.out BK266.out (by decide)) BK263.out (by decide)) (fun _ hk => hk.1.2) (.slice Ao28 y274.length co28)) (fun _ hk => hk.2) (.int .i64 t264)) (fun _ hk => hk.2) (.int .i64 (wrap64 (t265 * 3600)))) (fun _ hk => hk.2) (.slice Ao28 y274.length co28)) (fun _ hk => trivial), (belS HB.out)⟩
      ·rw [if_neg c22] at H
       have c22b0 : ((x267002_1.length : Int) == 0) = false := beq_eq_false_iff_ne.mpr c22
       have c22b1 : ((x267002_1.length : Int) != 0) = true := bne_iff_ne.mpr c22
       have c22b2 : ¬ (x267002_1 = []) := fun h_ => c22 (by rw [h_]; rfl)
       simp only [Option.some.injEq, Prod.mk.injEq] at H
       obtain ⟨rfl, rfl, rfl⟩ := H
       have hnb31 := NB266_263.out
       have hnc31 := NB263_266.out
       have hcz32_0 : wc.cell? ⟨gb266, 0, none⟩ = some (.int .i64 t264) := (blk_cell BK266.out 0).trans rfl
       have hcz32_1 : wc.cell? ⟨gb266, 1, none⟩ = some (.int .i64 (wrap64 (t265 * 3600))) := (blk_cell BK266.out 1).trans rfl
       have hcz32_2 : wc.cell? ⟨gb266, 2, none⟩ = some (u267002) := (blk_cell BK266.out 2).trans rfl
       have hfz32_0 := blk_frozen BK266.out 0
       have hfz32_1 := blk_frozen BK266.out 1
       have hfz32_2 := blk_frozen BK266.out 2
       obtain ⟨Ao33, co33, eo33⟩ := Kd.R_slice HO_267002.out
       subst eo33
       have hcz34_0 : wc.cell? ⟨gb263, 0, none⟩ = some (.int .i64 0) := (blk_cell BK263.out 0).trans rfl
       have hcz34_1 : wc.cell? ⟨gb263, 1, none⟩ = some (.int .i64 0) := (blk_cell BK263.out 1).trans rfl
       have hcz34_2 : wc.cell? ⟨gb263, 2, none⟩ = some (.slice none 0 0) := (blk_cell BK263.out 2).trans rfl
       have hfz34_0 := blk_frozen BK263.out 0
       have hfz34_1 := blk_frozen BK263.out 1
       have hfz34_2 := blk_frozen BK263.out 2
       go_wp2
       refine bodyPost_ret (results_cell_row rfl _ _ gb263 26 #[.int .i64 t264, .int .i64 (wrap64 (t265 * 3600)), .slice Ao33 x267002_1.length co33] (0, 0) _ rfl (by (with_reducible repeat (first | refine blk_drewN ?_ _ | refine blk_drew ?_ | refine blk_alloc ?_ _)); refine blk_put (cs := #[.int .i64 t264, .int .i64 (wrap64 (t265 * 3600)), .slice none 0 0]) ?_ 2 _ rfl; (with_reducible repeat (first | refine blk_drewN ?_ _ | refine blk_drew ?_ | refine blk_alloc ?_ _)); refine blk_put (cs := #[.int .i64 t264, .int .i64 0, .slice none 0 0]) ?_ 1 _ rfl; (with_reducible repeat (first | refine blk_drewN ?_ _ | refine blk_drew ?_ | refine blk_alloc ?_ _)); refine blk_put (cs := #[.int .i64 0, .int .i64 0, .slice none 0 0]) ?_ 0 _ rfl; (with_reducible repeat (first | refine blk_drewN ?_ _ | refine blk_drew ?_ | refine blk_alloc ?_ _)); exact BK263.out) Try.underlying26 rfl (by kernel_rfl)) rfl ?_
       exact ⟨_, by first | rfl | (simp [errW_none, errW_some] <;> rfl) | (simp [*, errW_none, errW_some] <;> rfl), by (with_reducible repeat (first | apply Kd.R_alloc | apply Kd.R_drewN | apply Kd.R_drew)); exact Kd.R_mono (Kd.R_far (p := ⟨gb263, 2, none⟩) (Kd.R_far (p := ⟨gb263, 1, none⟩) (Kd.R_far (p := ⟨gb263, 0, none⟩) (Kd.R_types HO_267002.out BK263.out (by decide)) (fun _ hk => hk.2) (.int .i64 t264)) (fun _ hk => hk.2) (.int .i64 (wrap64 (t265 * 3600)))) (fun _ hk => hk.2) (.slice Ao33 x267002_1.length co33)) (fun _ hk => trivial), (belS HB.out)⟩

/-! ### marigraphkeep_Cut: function 14 -/
def marigraphkeep_Cut.f (l0 : List Int) (a1 : Int) : Option (List Int) := if (l0.length : Int) > a1 then (if 0 ≤ a1 then (if a1 ≤ (l0.length : Int) then (some (l0.take (a1 : Int).toNat)) else (none)) else (none)) else (some l0)
set_option maxHeartbeats 8000000 in
set_option maxRecDepth 100000 in
theorem marigraphkeep_Cut.calls (P0_ : Nat → Prop) (A0 : Option Addr) (c0 : Nat) (l0 : List Int) (a1 : Int) (r : List Int) (w : World) (hs0 : Kd.V (Kd.int .u8) 5 w w.heap.size (fun k_ => P0_ k_) (.slice A0 l0.length c0) l0) (h : marigraphkeep_Cut.f l0 a1 = some r) :
  Calls Try.prog 14 #[.slice A0 l0.length c0, .int .i64 a1] w fun e w' => ∃ v0_ : Value, e = .returned (v0_) ∧ Kd.V (Kd.int .u8) 5 w' w.heap.size (fun k_ => (P0_ k_ ∨ w.heap.size ≤ k_)) v0_ r ∧ Below w.heap.size w w' := by
 have HO0 := Aside0.mk (show Kd.V (Kd.int .u8) 5 w w.heap.size (fun k_ => (P0_ k_ ∨ w.heap.size ≤ k_)) (.slice A0 l0.length c0) l0 from Kd.V_mono hs0 (fun k_ hk => .inl hk))
 have HB := Aside0.mk (Below.refl w.heap.size w)
 have H : (if (l0.length : Int) > a1 then (if 0 ≤ a1 then (if a1 ≤ (l0.length : Int) then (some (l0.take (a1 : Int).toNat)) else (none)) else (none)) else (some l0)) = some r := h
 clear h
 by_cases c3 : (l0.length : Int) > a1
 ·rw [if_pos c3] at H
  have c3b0 : decide (a1 < (l0.length : Int)) = true := decide_eq_true c3
  clear c3
  by_cases c4 : 0 ≤ a1
  ·rw [if_pos c4] at H
   have c4b0 := eq_true c4
   have c4b1 : decide (0 ≤ a1) = true := decide_eq_true c4
   clear c4
   by_cases c5 : a1 ≤ (l0.length : Int)
   ·rw [if_pos c5] at H
    have c5b0 := eq_true c5
    have c5b1 : decide (a1 ≤ (l0.length : Int)) = true := decide_eq_true c5
    clear c5
    obtain ⟨y277, hy277⟩ : ∃ y_ : List Int, y_ = (l0.take (a1 : Int).toNat) := ⟨_, rfl⟩
    replace H : (some y277) = some r := by first | (rw [hy277]; with_reducible exact H) | (have H2_ := (Option.bind_some _ _).symm.trans H; rw [hy277]; with_reducible exact H2_) | (have H2_ := (Option.bind_some _ _).symm.trans H; with_reducible exact H2_) | with_reducible exact H | (rw [hy277]; exact H) | exact H
    have Ny277 := Aside0.mk hy277
    clear hy277
    obtain rfl := Option.some.inj H
    have q6 : (a1 : Int) ≤ ((l0.length : Int) : Int) := of_decide_eq_true (by first | (with_reducible assumption) | assumption)
    obtain ⟨i06, hi06, _, hsz6, _⟩ := info_parts info5
    have hroom6 : l0.length ≤ c0 := (Kd.V_reads' HO0.out).2.1
    have hC6 : Kd.F (Kd.int .u8) _ _ A0 l0.length l0 := (Kd.V_at (base := w.heap.size) HO0.out).2.2
    have hcut6 := cut_to (P := Try.prog) 29 5 .i64 Try.underlying29 hi06 A0 l0.length c0 a1 (of_decide_eq_true (by first | (with_reducible assumption) | assumption)) q6 hroom6
    have hr6 := Kd.F_take (m := (a1 : Int).toNat) hC6 (by omega)
    have hy6 : y277.length = (a1 : Int).toNat := (by rw [Ny277.out, List.length_take]; omega)
    rw [← Ny277.out] at hr6
    rw [← hy6] at hcut6
    have HO281 := Aside0.mk (show Kd.V (Kd.int .u8) 5 _ w.heap.size _ (.slice A0 y277.length c0) y277 from Kd.V_mk (by omega) hr6)
    have HC281 := Aside0.mk (show y277.length ≤ c0 from by omega)
    clear hr6 hC6 hroom6 hi06 hsz6
    have KY6 := Aside0.mk hy6
    clear hy6
    replace q6 := eq_true q6
    go_enter Try.func14, Try.ntmps14
    go_wp2
    go_ret
    exact ⟨_, by first | rfl | (simp [errW_none, errW_some] <;> rfl) | (simp [*, errW_none, errW_some] <;> rfl), by (with_reducible repeat (first | apply Kd.V_alloc | apply Kd.V_drewN | apply Kd.V_drew)); exact HO281.out, (belN HB.out)⟩
   ·rw [if_neg c5] at H
    exact absurd H (by simp)
  ·rw [if_neg c4] at H
   exact absurd H (by simp)
 ·rw [if_neg c3] at H
  have c3b0 : decide (a1 < (l0.length : Int)) = false := decide_eq_false c3
  clear c3
  obtain rfl := Option.some.inj H
  go_enter Try.func14, Try.ntmps14
  go_wp2
  go_ret
  exact ⟨_, by first | rfl | (simp [errW_none, errW_some] <;> rfl) | (simp [*, errW_none, errW_some] <;> rfl), by (with_reducible repeat (first | apply Kd.V_alloc | apply Kd.V_drewN | apply Kd.V_drew)); exact HO0.out, (belN HB.out)⟩

/-! ### marigraphkeep_Cut: of what came in and is only read -/
def cutI (l : List Int) (n : Nat) : List Int := if n < l.length then l.take n else l
theorem cutI_C {d : Kd Int} {w : World} {A : Option Addr} {l : List Int} {n : Nat} (h : Kd.C d w A l.length l) : Kd.C d w A (cutI l n).length (cutI l n) := by
  unfold cutI
  split
  · exact Kd.C_take h (by omega)
  · exact h
theorem cutI_le {l : List Int} {n c : Nat} (h : l.length ≤ c) : (cutI l n).length ≤ c := by
  unfold cutI
  split
  · rw [List.length_take]; omega
  · exact h
theorem marigraphkeep_Cut.callsR (A0 : Option Addr) (c0 : Nat) (l0 : List Int) (n : Nat) (N : Int) (w : World) (hc : l0.length ≤ c0) (hN : N = (n : Int)) :
    Calls Try.prog 14 #[.slice A0 l0.length c0, .int .i64 N] w fun e w' => e = .returned (.slice A0 (cutI l0 n).length c0) ∧ Drawn0 w w' := by
  subst hN
  by_cases h : n < l0.length
  · have e1 : (cutI l0 n).length = n := by unfold cutI; rw [if_pos h, List.length_take]; omega
    rw [e1]
    obtain ⟨i0, hi0, _, hsz, _⟩ := info_parts info5
    have hcut := cut_to (P := Try.prog) 29 5 .i64 Try.underlying29 hi0 A0 l0.length c0 (n : Int) (by omega) (by omega) hc
    have hd : decide (n < l0.length) = true := decide_eq_true h
    have hd2 : decide ((n : Int) < (l0.length : Int)) = true := decide_eq_true (by omega)
    clear hi0 hsz e1 h hc
    go_enter Try.func14, Try.ntmps14
    go_wp2
    go_ret
    exact ⟨by simp, Drawn0.refl _⟩
  · have e1 : cutI l0 n = l0 := by unfold cutI; rw [if_neg h]
    rw [e1]
    have hd : decide (n < l0.length) = false := decide_eq_false h
    have hd2 : decide ((n : Int) < (l0.length : Int)) = false := decide_eq_false (by omega)
    clear e1 h hc
    go_enter Try.func14, Try.ntmps14
    go_wp2
    go_ret
    exact ⟨rfl, Drawn0.refl _⟩

-- NOT PRINTED: function 4 (marigraphlaw14_RowkeyTells)

end Go.Proofs.Ytbgghcifpephgaa.PRowkeyTells

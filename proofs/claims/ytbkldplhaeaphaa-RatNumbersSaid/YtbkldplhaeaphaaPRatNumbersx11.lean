/- The walk of the Go functions that a law reaches, told as plain functions; a program of this session has written it. No condition beyond the statement's own. -/
import Derived.Test.YtbkldplhaeaphaaPRatNumbersx0
import Derived.Test.YtbkldplhaeaphaaPRatNumbersx2
import Derived.Test.YtbkldplhaeaphaaPRatNumbersx7
import Derived.Test.YtbkldplhaeaphaaPRatNumbersx10
namespace Go.Proofs.Ytbkldplhaeaphaa.PRatNumbers
open Go.RowKit Go.Proofs.YtbkldplhaeaphaaW.PrintWords Go.Proofs.YtbkldplhaeaphaaW.PrintLast Go.Proofs.YtbkldplhaeaphaaW.PrintMore
attribute [local go_sem] max2_int min2_int max_two min_two max_three min_three max_four min_four   -- for this text's walks alone
set_option linter.unusedVariables false
set_option linter.unusedSimpArgs false

/-! ### marigraphlaw1_RatNumbers: function 4 -/
mutual
def marigraphlaw1_RatNumbers.l0 : Nat → List Int → Int → Option (Bool)
 | 0, _, _ => none
 | k + 1, x1, x2 => if x2 < (x1.length : Int) then (marigraphlaw1_RatNumbers.l1 k x1 x2 0) else ((some (([(⟨#[]⟩ : ByteArray), (⟨#[45]⟩ : ByteArray), (⟨#[48]⟩ : ByteArray), (⟨#[45, 48]⟩ : ByteArray), (⟨#[48, 48]⟩ : ByteArray), (⟨#[49, 47, 50]⟩ : ByteArray), (⟨#[50, 47, 52]⟩ : ByteArray), (⟨#[49, 47, 49]⟩ : ByteArray), (⟨#[49, 47, 48]⟩ : ByteArray), (⟨#[45, 49, 47, 50]⟩ : ByteArray), (⟨#[49, 47, 45, 50]⟩ : ByteArray), (⟨#[50, 49, 52, 55, 52, 56, 51, 54, 52, 55]⟩ : ByteArray), (⟨#[50, 49, 52, 55, 52, 56, 51, 54, 52, 56]⟩ : ByteArray), (⟨#[45, 50, 49, 52, 55, 52, 56, 51, 54, 52, 55, 47, 50, 49, 52, 55, 52, 56, 51, 54, 52, 54]⟩ : ByteArray), (⟨#[49, 47, 50, 49, 52, 55, 52, 56, 51, 54, 52, 56]⟩ : ByteArray), (⟨#[57, 50, 50, 51, 51, 55, 50, 48, 51, 54, 56, 53, 52, 55, 55, 53, 56, 48, 56]⟩ : ByteArray), (⟨#[57, 57, 57, 57, 57, 57, 57, 57, 57, 57, 57, 57, 57, 57, 57, 57, 57, 57, 57, 57]⟩ : ByteArray), (⟨#[49, 47, 50, 47, 51]⟩ : ByteArray), (⟨#[47]⟩ : ByteArray), (⟨#[97]⟩ : ByteArray), (⟨#[49, 47]⟩ : ByteArray), (⟨#[47, 50]⟩ : ByteArray), (⟨#[32, 49]⟩ : ByteArray)] : List ByteArray) : List ByteArray)).bind fun y311 => (marigraphlaw1_RatNumbers.l2 k y311 (y311.length : Int) 0))
def marigraphlaw1_RatNumbers.l1 : Nat → List Int → Int → Int → Option (Bool)
 | 0, _, _, _ => none
 | k + 1, x1, x2, x3 => if x3 < (x1.length : Int) then (if 0 ≤ x2 then (if x2 < (x1.length : Int) then (if 0 ≤ x3 then ((marigraphlaw1_news.f k (rd x1 x2) (rd x1 x3)).bind fun t300 => (if t300 = true then ((marigraphlaw1_two.f k (rd x1 x2) (rd x1 x3) (rd x1 x3) 1).bind fun t304 => (if t304 = true then ((marigraphlaw1_two.f k (rd x1 x2) 1 1 (rd x1 x3)).bind fun t307 => (if t307 = true then ((marigraphlaw1_two.f k (rd x1 x2) 3 (rd x1 x3) 7).bind fun t310 => (if t310 = true then (marigraphlaw1_RatNumbers.l1 k x1 x2 (wrap64 (x3 + 1))) else (some false))) else (some false))) else (some false))) else (some false))) else (none)) else (none)) else (none)) else (marigraphlaw1_RatNumbers.l0 k x1 (wrap64 (x2 + 1)))
def marigraphlaw1_RatNumbers.l2 : Nat → List ByteArray → Int → Int → Option (Bool)
 | 0, _, _, _ => none
 | k + 1, x79, x80, x81 => if x81 < x80 then (if 0 ≤ x81 then (if x81 < (x79.length : Int) then ((marigraphlaw1_parses.f k (rdOf ByteArray.empty x79 x81)).bind fun t315 => (if t315 = true then (marigraphlaw1_RatNumbers.l2 k x79 x80 (wrap64 (x81 + 1))) else (some false))) else (none)) else (none)) else ((marigraphlaw1_must.f 5 1 0).bind fun bt316 => ((marigraphlaw1_must.f 5 1 23).bind fun bt320 => (if bt316.2.2 = true then (if bt316.1 = 5 then (if bt320.2.2 = true then (some false) else ((marigraphlaw1_known.f k).bind fun t324 => (some t324))) else (some false)) else (some false))))
end
def marigraphlaw1_RatNumbers.f (k : Nat)  : Option (Bool) := marigraphlaw1_RatNumbers.l0 k (([(-9223372036854775808), (-4611686018427387904), (-2147483648), (-2147483647), (-6), (-1), 0, 1, 4, 2147483647, 2147483648, 4611686018427387904, 9223372036854775807] : List Int)) 0
theorem marigraphlaw1_RatNumbers.mono_l : ∀ k, (∀ y0 y1, LeO (marigraphlaw1_RatNumbers.l0 k y0 y1) (marigraphlaw1_RatNumbers.l0 (k + 1) y0 y1)) ∧ (∀ y0 y1 y2, LeO (marigraphlaw1_RatNumbers.l1 k y0 y1 y2) (marigraphlaw1_RatNumbers.l1 (k + 1) y0 y1 y2)) ∧ (∀ y0 y1 y2, LeO (marigraphlaw1_RatNumbers.l2 k y0 y1 y2) (marigraphlaw1_RatNumbers.l2 (k + 1) y0 y1 y2))
 | 0 => ⟨fun _ _ r h => by simp [marigraphlaw1_RatNumbers.l0] at h, fun _ _ _ r h => by simp [marigraphlaw1_RatNumbers.l1] at h, fun _ _ _ r h => by simp [marigraphlaw1_RatNumbers.l2] at h⟩
 | k + 1 => by
  obtain ⟨ih0, ih1, ih2⟩ := marigraphlaw1_RatNumbers.mono_l k
  refine ⟨?_, ?_, ?_⟩
  ·intro y0 y1
   unfold marigraphlaw1_RatNumbers.l0
   repeat' first
   | (with_reducible exact ih0 _ _)
   | (with_reducible exact ih1 _ _ _)
   | (with_reducible exact ih2 _ _ _)
   | (with_reducible exact marigraphlaw1_known.mono _)
   | (with_reducible exact marigraphlaw1_news.mono _ _ _)
   | (with_reducible exact marigraphlaw1_parses.mono _ _)
   | (with_reducible exact marigraphlaw1_two.mono _ _ _ _ _)
   | (with_reducible exact LeO.refl _)
   | (with_reducible exact LeO.none _)
   | (with_reducible refine LeO.ite ?_ ?_)
   | (with_reducible refine LeO.bind ?_ (fun _ => ?_))
   | exact ih0 _ _
   | exact ih1 _ _ _
   | exact ih2 _ _ _
   | exact marigraphlaw1_known.mono _
   | exact marigraphlaw1_news.mono _ _ _
   | exact marigraphlaw1_parses.mono _ _
   | exact marigraphlaw1_two.mono _ _ _ _ _
   | exact LeO.none _
   | refine LeO.ite ?_ ?_
   | refine LeO.bind ?_ (fun _ => ?_)
  ·intro y0 y1 y2
   unfold marigraphlaw1_RatNumbers.l1
   repeat' first
   | (with_reducible exact ih0 _ _)
   | (with_reducible exact ih1 _ _ _)
   | (with_reducible exact ih2 _ _ _)
   | (with_reducible exact marigraphlaw1_known.mono _)
   | (with_reducible exact marigraphlaw1_news.mono _ _ _)
   | (with_reducible exact marigraphlaw1_parses.mono _ _)
   | (with_reducible exact marigraphlaw1_two.mono _ _ _ _ _)
   | (with_reducible exact LeO.refl _)
   | (with_reducible exact LeO.none _)
   | (with_reducible refine LeO.ite ?_ ?_)
   | (with_reducible refine LeO.bind ?_ (fun _ => ?_))
   | exact ih0 _ _
   | exact ih1 _ _ _
   | exact ih2 _ _ _
   | exact marigraphlaw1_known.mono _
   | exact marigraphlaw1_news.mono _ _ _
   | exact marigraphlaw1_parses.mono _ _
   | exact marigraphlaw1_two.mono _ _ _ _ _
   | exact LeO.none _
   | refine LeO.ite ?_ ?_
   | refine LeO.bind ?_ (fun _ => ?_)
  ·intro y0 y1 y2
   unfold marigraphlaw1_RatNumbers.l2
   repeat' first
   | (with_reducible exact ih0 _ _)
   | (with_reducible exact ih1 _ _ _)
   | (with_reducible exact ih2 _ _ _)
   | (with_reducible exact marigraphlaw1_known.mono _)
   | (with_reducible exact marigraphlaw1_news.mono _ _ _)
   | (with_reducible exact marigraphlaw1_parses.mono _ _)
   | (with_reducible exact marigraphlaw1_two.mono _ _ _ _ _)
   | (with_reducible exact LeO.refl _)
   | (with_reducible exact LeO.none _)
   | (with_reducible refine LeO.ite ?_ ?_)
   | (with_reducible refine LeO.bind ?_ (fun _ => ?_))
   | exact ih0 _ _
   | exact ih1 _ _ _
   | exact ih2 _ _ _
   | exact marigraphlaw1_known.mono _
   | exact marigraphlaw1_news.mono _ _ _
   | exact marigraphlaw1_parses.mono _ _
   | exact marigraphlaw1_two.mono _ _ _ _ _
   | exact LeO.none _
   | refine LeO.ite ?_ ?_
   | refine LeO.bind ?_ (fun _ => ?_)
theorem marigraphlaw1_RatNumbers.mono : ∀ k, LeO (marigraphlaw1_RatNumbers.f k ) (marigraphlaw1_RatNumbers.f (k + 1) ) := by
 intro  k
 obtain ⟨ih0, ih1, ih2⟩ := marigraphlaw1_RatNumbers.mono_l k
 unfold marigraphlaw1_RatNumbers.f
 repeat' first
   | (with_reducible exact ih0 _ _)
   | (with_reducible exact ih1 _ _ _)
   | (with_reducible exact ih2 _ _ _)
   | (with_reducible exact marigraphlaw1_known.mono _)
   | (with_reducible exact marigraphlaw1_news.mono _ _ _)
   | (with_reducible exact marigraphlaw1_parses.mono _ _)
   | (with_reducible exact marigraphlaw1_two.mono _ _ _ _ _)
   | (with_reducible exact LeO.refl _)
   | (with_reducible exact LeO.none _)
   | (with_reducible refine LeO.ite ?_ ?_)
   | (with_reducible refine LeO.bind ?_ (fun _ => ?_))
   | exact ih0 _ _
   | exact ih1 _ _ _
   | exact ih2 _ _ _
   | exact marigraphlaw1_known.mono _
   | exact marigraphlaw1_news.mono _ _ _
   | exact marigraphlaw1_parses.mono _ _
   | exact marigraphlaw1_two.mono _ _ _ _ _
   | exact LeO.none _
   | refine LeO.ite ?_ ?_
   | refine LeO.bind ?_ (fun _ => ?_)
def marigraphlaw1_RatNumbers.T8 : Bool × List (List Nat × List Nat) := (true, [([], []), ([], []), ([0, 1], [0, 1]), ([2], [2]), ([], []), ([], []), ([4, 5], [4, 5]), ([6], [6]), ([3, 7], [3, 7]), ([8], [8]), ([9, 8], [9]), ([10], [10]), ([10], [10]), ([11, 12, 10], [10, 11, 12]), ([13, 10], [10, 13]), ([10], [10]), ([10], [10]), ([15, 16, 10], [10, 15, 16]), ([17, 10], [10, 17]), ([14, 18, 10], [10, 14, 18]), ([10], [10]), ([10], [10]), ([20, 21, 10], [10, 20, 21]), ([22, 10], [10, 22]), ([23, 10], [10, 23]), ([19, 24, 10, 10], [10, 19, 24]), ([25, 10], [10, 25]), ([10, 26], [10, 26]), ([27, 25], [27]), ([28], [28]), ([28], [28]), ([29, 30, 28], [28, 29, 30]), ([31, 28], [28, 31]), ([32, 28], [28, 32]), ([28], [28]), ([28], [28]), ([34, 35, 28], [28, 34, 35]), ([36, 28], [28, 36]), ([37, 28], [28, 37]), ([33, 38, 28, 28], [28, 33, 38]), ([39, 28], [28, 39]), ([28, 40], [28, 40]), ([41, 39], [41]), ([42], [42]), ([42], [42]), ([43, 44, 42], [42, 43, 44]), ([45, 42], [42, 45]), ([46, 42], [42, 46]), ([42], [42]), ([42], [42]), ([48, 49, 42], [42, 48, 49]), ([50, 42], [42, 50]), ([51, 42], [42, 51]), ([47, 52, 42, 42], [42, 47, 52]), ([53, 42], [42, 53]), ([42, 54], [42, 54])])
def marigraphlaw1_RatNumbers.B8 : List Nat := [0, 0, 3, 7, 0, 0, 48, 112, 255, 511, 1023, 2047, 2047, 8191, 16383, 2047, 2047, 100351, 231423, 524287, 2047, 2047, 3147775, 7342079, 15730687, 33554431, 67108863, 134217727, 268435455, 536870911, 536870911, 2147483647, 4294967295, 8589934591, 536870911, 536870911, 52076478463, 120795955199, 258234908671, 549755813887, 1099511627775, 2199023255551, 4398046511103, 8796093022207, 8796093022207, 35184372088831, 70368744177663, 140737488355327, 8796093022207, 8796093022207, 853221023154175, 1979120929996799, 4230920743682047, 9007199254740991, 18014398509481983, 36028797018963967]
theorem marigraphlaw1_RatNumbers.tab8 : rtab .any (opsOf Try.f4 8) = marigraphlaw1_RatNumbers.T8 := by kernel_rfl
theorem marigraphlaw1_RatNumbers.bits8 : waitsOk marigraphlaw1_RatNumbers.T8.2 marigraphlaw1_RatNumbers.B8 = true := by kernel_rfl
set_option maxHeartbeats 8000000 in
set_option maxRecDepth 100000 in
theorem marigraphlaw1_RatNumbers.calls (k : Nat)  (r : Bool) (w : World) (h : marigraphlaw1_RatNumbers.f k  = some r) :
  Calls Try.prog 4 #[] w fun e w' => e = .returned (.bool r) ∧ Below w.heap.size w w' := by
 have hu23 := Try.underlying23
 have HB := Aside0.mk (Below.refl w.heap.size w)
 have H : (marigraphlaw1_RatNumbers.l0 k (([(-9223372036854775808), (-4611686018427387904), (-2147483648), (-2147483647), (-6), (-1), 0, 1, 4, 2147483647, 2147483648, 4611686018427387904, 9223372036854775807] : List Int)) 0) = some r := h
 clear h
 obtain ⟨y295, hy295⟩ : ∃ y_ : List Int, y_ = (([(-9223372036854775808), (-4611686018427387904), (-2147483648), (-2147483647), (-6), (-1), 0, 1, 4, 2147483647, 2147483648, 4611686018427387904, 9223372036854775807] : List Int)) := ⟨_, rfl⟩
 replace H : (marigraphlaw1_RatNumbers.l0 k y295 0) = some r := by first | (rw [hy295]; with_reducible exact H) | (have H2_ := (Option.bind_some _ _).symm.trans H; rw [hy295]; with_reducible exact H2_) | (have H2_ := (Option.bind_some _ _).symm.trans H; with_reducible exact H2_) | with_reducible exact H | (rw [hy295]; exact H) | exact H
 have Ny295 := Aside0.mk hy295
 clear hy295
 have H' := Aside0.mk H
 clear H
 go_enter Try.func4, Try.ntmps4
 go_wp2_with (first | ((with_reducible refine gate_dst (N := 10) rfl ?_); refine Kd.R_lit (Kd.int .i64) _ 2 ?hg (N := 10) ?hd (xs := ([(-9223372036854775808), (-4611686018427387904), (-2147483648), (-2147483647), (-6), (-1), 0, 1, 4, 2147483647, 2147483648, 4611686018427387904, 9223372036854775807] : List Int)) (inner := [.int .i64 (-9223372036854775808), .int .i64 (-4611686018427387904), .int .i64 (-2147483648), .int .i64 (-2147483647), .int .i64 (-6), .int .i64 (-1), .int .i64 0, .int .i64 1, .int .i64 4, .int .i64 2147483647, .int .i64 2147483648, .int .i64 4611686018427387904, .int .i64 9223372036854775807]) (ok := fun _ => True) (okp := fun _ => True) ?hr ?hp (fun _ hk => hk) trivial (Below.refl _ _) (Nat.le_refl _) (by simp) ?_; (case hd => rfl); (case hg => rfl); (case hr => first | (go_simp; done) | (go_simp; rfl)); (case hp => exact (Reps.one (show Kd.M (Kd.int .i64) _ _ _ (-9223372036854775808) [.int .i64 (-9223372036854775808)] from rfl) (Reps.one (show Kd.M (Kd.int .i64) _ _ _ (-4611686018427387904) [.int .i64 (-4611686018427387904)] from rfl) (Reps.one (show Kd.M (Kd.int .i64) _ _ _ (-2147483648) [.int .i64 (-2147483648)] from rfl) (Reps.one (show Kd.M (Kd.int .i64) _ _ _ (-2147483647) [.int .i64 (-2147483647)] from rfl) (Reps.one (show Kd.M (Kd.int .i64) _ _ _ (-6) [.int .i64 (-6)] from rfl) (Reps.one (show Kd.M (Kd.int .i64) _ _ _ (-1) [.int .i64 (-1)] from rfl) (Reps.one (show Kd.M (Kd.int .i64) _ _ _ 0 [.int .i64 0] from rfl) (Reps.one (show Kd.M (Kd.int .i64) _ _ _ 1 [.int .i64 1] from rfl) (Reps.one (show Kd.M (Kd.int .i64) _ _ _ 4 [.int .i64 4] from rfl) (Reps.one (show Kd.M (Kd.int .i64) _ _ _ 2147483647 [.int .i64 2147483647] from rfl) (Reps.one (show Kd.M (Kd.int .i64) _ _ _ 2147483648 [.int .i64 2147483648] from rfl) (Reps.one (show Kd.M (Kd.int .i64) _ _ _ 4611686018427387904 [.int .i64 4611686018427387904] from rfl) (Reps.one (show Kd.M (Kd.int .i64) _ _ _ 9223372036854775807 [.int .i64 9223372036854775807] from rfl) (Reps.none _ _))))))))))))))); intro v296 w1 ho2 hb hg_ hnew_; clear hg_ hnew_; (first | rw [← Ny295.out] at ho2 | (simp only [Int.reduceToNat] at ho2; rw [← Ny295.out] at ho2)); have n0_ := Aside0.mk (Kd.R_lower ho2 (below_size (belN HB.out))); have n1_ := Aside0.mk (below_step (belN HB.out) hb); clear HB; have HO297 := n0_; have HB := n1_; clear n0_ n1_; clear hb ho2))
 go_loopg [2] k (fun kq v2 w' => ∃ (x2_1 : Int), v2 = .int .i64 x2_1 ∧ Aside0 (marigraphlaw1_RatNumbers.l0 kq y295 x2_1 = some r) ∧ Aside0 (kq ≤ k) ∧ Aside0 (Kd.R (Kd.int .i64) 2 w' w.heap.size (fun _ => True) v296 y295) ∧ Aside0 (Below w.heap.size w w'))
 case atStart => exact ⟨(0), (by first | rfl | (simp; done) | (simp [*]; done)), H', ⟨Nat.le_refl _⟩, ⟨(rowN HO297.out)⟩, ⟨(belN HB.out)⟩⟩
 case round =>
  clear H'
  try clear p2
  obtain ⟨x2_1, rfl, HA, HK1, HO_1, HB⟩ := hrel
  cases gk with
  | zero => exact absurd HA.out (by simp [marigraphlaw1_RatNumbers.l0])
  | succ k1 =>
   have H := HA.out
   clear HA
   simp only [marigraphlaw1_RatNumbers.l0] at H
   by_cases c3 : x2_1 < (y295.length : Int)
   ·rw [if_pos c3] at H
    have c3b0 : decide (x2_1 < (y295.length : Int)) = true := decide_eq_true c3
    clear c3
    have H' := Aside0.mk H
    clear H
    obtain ⟨Ao4, co4, eo4⟩ := Kd.R_slice HO_1.out
    subst eo4
    go_wp2
    go_loopg [3] k1 (fun kq v3 w' => ∃ (x3_2 : Int), v3 = .int .i64 x3_2 ∧ Aside0 (marigraphlaw1_RatNumbers.l1 kq y295 x2_1 x3_2 = some r) ∧ Aside0 (kq ≤ k1) ∧ Aside0 (Kd.R (Kd.int .i64) 2 w' w.heap.size (fun _ => True) (.slice Ao4 y295.length co4) y295) ∧ Aside0 (Below w.heap.size w w'))
    case atStart => exact ⟨(0), (by first | rfl | (simp; done) | (simp [*]; done)), H', ⟨Nat.le_refl _⟩, ⟨(rowN HO_1.out)⟩, ⟨(belN HB.out)⟩⟩
    case round =>
     clear H'
     try clear p2
     try clear c3
     try clear c3b0
     try clear c4
     try clear p2
     obtain ⟨x3_2, rfl, HA, HK2, HO_1, HB⟩ := hrel
     cases gk with
     | zero => exact absurd HA.out (by simp [marigraphlaw1_RatNumbers.l1])
     | succ k2 =>
      have H := HA.out
      clear HA
      simp only [marigraphlaw1_RatNumbers.l1] at H
      by_cases c5 : x3_2 < (y295.length : Int)
      ·rw [if_pos c5] at H
       have c5b0 : decide (x3_2 < (y295.length : Int)) = true := decide_eq_true c5
       clear c5
       by_cases c6 : 0 ≤ x2_1
       ·rw [if_pos c6] at H
        have c6b0 : decide (0 ≤ x2_1) = true := decide_eq_true c6
        clear c6
        by_cases c7 : x2_1 < (y295.length : Int)
        ·rw [if_pos c7] at H
         have c7b0 : decide (x2_1 < (y295.length : Int)) = true := decide_eq_true c7
         clear c7
         by_cases c8 : 0 ≤ x3_2
         ·rw [if_pos c8] at H
          have c8b0 : decide (0 ≤ x3_2) = true := decide_eq_true c8
          clear c8
          replace H := Option.bind_eq_some_iff.mp H
          obtain ⟨t300, A90, H⟩ := H
          replace H : (if t300 = true then ((marigraphlaw1_two.f k2 (rd y295 x2_1) (rd y295 x3_2) (rd y295 x3_2) 1).bind fun t304 => (if t304 = true then ((marigraphlaw1_two.f k2 (rd y295 x2_1) 1 1 (rd y295 x3_2)).bind fun t307 => (if t307 = true then ((marigraphlaw1_two.f k2 (rd y295 x2_1) 3 (rd y295 x3_2) 7).bind fun t310 => (if t310 = true then (marigraphlaw1_RatNumbers.l1 k2 y295 x2_1 (wrap64 (x3_2 + 1))) else (some false))) else (some false))) else (some false))) else (some false)) = some r := H
          have A9 := Aside0.mk A90
          clear A90
          by_cases c10 : t300 = true
          ·subst c10
           have H1 : ((marigraphlaw1_two.f k2 (rd y295 x2_1) (rd y295 x3_2) (rd y295 x3_2) 1).bind fun t304 => (if t304 = true then ((marigraphlaw1_two.f k2 (rd y295 x2_1) 1 1 (rd y295 x3_2)).bind fun t307 => (if t307 = true then ((marigraphlaw1_two.f k2 (rd y295 x2_1) 3 (rd y295 x3_2) 7).bind fun t310 => (if t310 = true then (marigraphlaw1_RatNumbers.l1 k2 y295 x2_1 (wrap64 (x3_2 + 1))) else (some false))) else (some false))) else (some false))) = some r := by rw [if_pos rfl] at H; exact H
           clear H
           have H := H1
           clear H1
           replace H := Option.bind_eq_some_iff.mp H
           obtain ⟨t304, A110, H⟩ := H
           replace H : (if t304 = true then ((marigraphlaw1_two.f k2 (rd y295 x2_1) 1 1 (rd y295 x3_2)).bind fun t307 => (if t307 = true then ((marigraphlaw1_two.f k2 (rd y295 x2_1) 3 (rd y295 x3_2) 7).bind fun t310 => (if t310 = true then (marigraphlaw1_RatNumbers.l1 k2 y295 x2_1 (wrap64 (x3_2 + 1))) else (some false))) else (some false))) else (some false)) = some r := H
           have A11 := Aside0.mk A110
           clear A110
           by_cases c12 : t304 = true
           ·subst c12
            have H1 : ((marigraphlaw1_two.f k2 (rd y295 x2_1) 1 1 (rd y295 x3_2)).bind fun t307 => (if t307 = true then ((marigraphlaw1_two.f k2 (rd y295 x2_1) 3 (rd y295 x3_2) 7).bind fun t310 => (if t310 = true then (marigraphlaw1_RatNumbers.l1 k2 y295 x2_1 (wrap64 (x3_2 + 1))) else (some false))) else (some false))) = some r := by rw [if_pos rfl] at H; exact H
            clear H
            have H := H1
            clear H1
            replace H := Option.bind_eq_some_iff.mp H
            obtain ⟨t307, A130, H⟩ := H
            replace H : (if t307 = true then ((marigraphlaw1_two.f k2 (rd y295 x2_1) 3 (rd y295 x3_2) 7).bind fun t310 => (if t310 = true then (marigraphlaw1_RatNumbers.l1 k2 y295 x2_1 (wrap64 (x3_2 + 1))) else (some false))) else (some false)) = some r := H
            have A13 := Aside0.mk A130
            clear A130
            by_cases c14 : t307 = true
            ·subst c14
             have H1 : ((marigraphlaw1_two.f k2 (rd y295 x2_1) 3 (rd y295 x3_2) 7).bind fun t310 => (if t310 = true then (marigraphlaw1_RatNumbers.l1 k2 y295 x2_1 (wrap64 (x3_2 + 1))) else (some false))) = some r := by rw [if_pos rfl] at H; exact H
             clear H
             have H := H1
             clear H1
             replace H := Option.bind_eq_some_iff.mp H
             obtain ⟨t310, A150, H⟩ := H
             replace H : (if t310 = true then (marigraphlaw1_RatNumbers.l1 k2 y295 x2_1 (wrap64 (x3_2 + 1))) else (some false)) = some r := H
             have A15 := Aside0.mk A150
             clear A150
             by_cases c16 : t310 = true
             ·subst c16
              have H1 : (marigraphlaw1_RatNumbers.l1 k2 y295 x2_1 (wrap64 (x3_2 + 1))) = some r := by rw [if_pos rfl] at H; exact H
              clear H
              have H := H1
              clear H1
              have H' := Aside0.mk H
              clear H
              try go_wp2
              have n0_ := Aside0.mk (Kd.R_drew HO_1.out)
              have n1_ := Aside0.mk (below_drew1 HB.out)
              clear HO_1
              clear HB
              have HO_1 := n0_
              have HB := n1_
              clear n0_ n1_
              have p298 : 0 ≤ (x2_1 : Int) := of_decide_eq_true (by first | (with_reducible assumption) | assumption)
              have q298 : x2_1 < (y295.length : Int) := of_decide_eq_true (by first | (with_reducible assumption) | assumption)
              obtain ⟨ad298, e298, hx298_0⟩ := Kd.at_int (Kd.R_reads' HO_1.out).2.2 x2_1 p298 q298
              cases e298
              replace p298 := eq_true p298
              replace q298 := eq_true q298
              have p299 : 0 ≤ (x3_2 : Int) := of_decide_eq_true (by first | (with_reducible assumption) | assumption)
              have q299 : x3_2 < (y295.length : Int) := of_decide_eq_true (by first | (with_reducible assumption) | assumption)
              obtain ⟨ad299, e299, hx299_0⟩ := Kd.at_int (Kd.R_reads' HO_1.out).2.2 x3_2 p299 q299
              obtain rfl : ad298 = ad299 := (by injection e299)
              replace p299 := eq_true p299
              replace q299 := eq_true q299
              have p301 : 0 ≤ (x2_1 : Int) := of_decide_eq_true (by first | (with_reducible assumption) | assumption)
              have q301 : x2_1 < (y295.length : Int) := of_decide_eq_true (by first | (with_reducible assumption) | assumption)
              obtain ⟨ad301, e301, hx301_0⟩ := Kd.at_int (Kd.R_reads' HO_1.out).2.2 x2_1 p301 q301
              obtain rfl : ad298 = ad301 := (by injection e301)
              replace p301 := eq_true p301
              replace q301 := eq_true q301
              have p302 : 0 ≤ (x3_2 : Int) := of_decide_eq_true (by first | (with_reducible assumption) | assumption)
              have q302 : x3_2 < (y295.length : Int) := of_decide_eq_true (by first | (with_reducible assumption) | assumption)
              obtain ⟨ad302, e302, hx302_0⟩ := Kd.at_int (Kd.R_reads' HO_1.out).2.2 x3_2 p302 q302
              obtain rfl : ad298 = ad302 := (by injection e302)
              replace p302 := eq_true p302
              replace q302 := eq_true q302
              have p303 : 0 ≤ (x3_2 : Int) := of_decide_eq_true (by first | (with_reducible assumption) | assumption)
              have q303 : x3_2 < (y295.length : Int) := of_decide_eq_true (by first | (with_reducible assumption) | assumption)
              obtain ⟨ad303, e303, hx303_0⟩ := Kd.at_int (Kd.R_reads' HO_1.out).2.2 x3_2 p303 q303
              obtain rfl : ad298 = ad303 := (by injection e303)
              replace p303 := eq_true p303
              replace q303 := eq_true q303
              have p305 : 0 ≤ (x2_1 : Int) := of_decide_eq_true (by first | (with_reducible assumption) | assumption)
              have q305 : x2_1 < (y295.length : Int) := of_decide_eq_true (by first | (with_reducible assumption) | assumption)
              obtain ⟨ad305, e305, hx305_0⟩ := Kd.at_int (Kd.R_reads' HO_1.out).2.2 x2_1 p305 q305
              obtain rfl : ad298 = ad305 := (by injection e305)
              replace p305 := eq_true p305
              replace q305 := eq_true q305
              have p306 : 0 ≤ (x3_2 : Int) := of_decide_eq_true (by first | (with_reducible assumption) | assumption)
              have q306 : x3_2 < (y295.length : Int) := of_decide_eq_true (by first | (with_reducible assumption) | assumption)
              obtain ⟨ad306, e306, hx306_0⟩ := Kd.at_int (Kd.R_reads' HO_1.out).2.2 x3_2 p306 q306
              obtain rfl : ad298 = ad306 := (by injection e306)
              replace p306 := eq_true p306
              replace q306 := eq_true q306
              have p308 : 0 ≤ (x2_1 : Int) := of_decide_eq_true (by first | (with_reducible assumption) | assumption)
              have q308 : x2_1 < (y295.length : Int) := of_decide_eq_true (by first | (with_reducible assumption) | assumption)
              obtain ⟨ad308, e308, hx308_0⟩ := Kd.at_int (Kd.R_reads' HO_1.out).2.2 x2_1 p308 q308
              obtain rfl : ad298 = ad308 := (by injection e308)
              replace p308 := eq_true p308
              replace q308 := eq_true q308
              have p309 : 0 ≤ (x3_2 : Int) := of_decide_eq_true (by first | (with_reducible assumption) | assumption)
              have q309 : x3_2 < (y295.length : Int) := of_decide_eq_true (by first | (with_reducible assumption) | assumption)
              obtain ⟨ad309, e309, hx309_0⟩ := Kd.at_int (Kd.R_reads' HO_1.out).2.2 x3_2 p309 q309
              obtain rfl : ad298 = ad309 := (by injection e309)
              replace p309 := eq_true p309
              replace q309 := eq_true q309
              refine start_ (n := 56) (S := fun w' => w'.cell? (ad298.add (x2_1).toNat) = some (.int .i64 (rd y295 x2_1)) ∧ w'.cell? (ad298.add (x3_2).toNat) = some (.int .i64 (rd y295 x3_2)) ∧ w'.cell? (ad298.add (x2_1).toNat) = some (.int .i64 (rd y295 x2_1)) ∧ w'.cell? (ad298.add (x3_2).toNat) = some (.int .i64 (rd y295 x3_2)) ∧ w'.cell? (ad298.add (x3_2).toNat) = some (.int .i64 (rd y295 x3_2)) ∧ w'.cell? (ad298.add (x2_1).toNat) = some (.int .i64 (rd y295 x2_1)) ∧ w'.cell? (ad298.add (x3_2).toNat) = some (.int .i64 (rd y295 x3_2)) ∧ w'.cell? (ad298.add (x2_1).toNat) = some (.int .i64 (rd y295 x2_1)) ∧ w'.cell? (ad298.add (x3_2).toNat) = some (.int .i64 (rd y295 x3_2))) (ds := []) #[false, false, false, false, false, false, false, false, false, false, false, false, false, false, false, false, false, false, false, false, false, false, false, false, false, false, false, false, false, false, false, false, false, false, false, false, false, false, false, false, false, false, false, false, false, false, false, false, false, false, false, false, false, false, false, false] (by kernel_rfl) rfl rfl ⟨hx298_0, hx299_0, hx301_0, hx302_0, hx303_0, hx305_0, hx306_0, hx308_0, hx309_0⟩ (fun hHeld => ?_); refine with_tabW marigraphlaw1_RatNumbers.tab8 marigraphlaw1_RatNumbers.bits8 (fun HT_ HW_ => ?_)
              generalize wr.drew = w17 at HO_1 HB hx298_0 hx299_0 hx301_0 hx302_0 hx303_0 hx305_0 hx306_0 hx308_0 hx309_0 hHeld ⊢
              refine pA 0 (some 23) (bA 56 1) HT_.out ?_
              refine pA 1 (some 24) (bA 56 3) HT_.out ?_
              refine pA 2 (some 25) (bA 56 7) HT_.out ?_
              refine pA 4 (some 27) (bA 56 23) HT_.out ?_
              refine pA 5 (some 28) (bA 56 55) HT_.out ?_
              refine pA 6 (some 29) (bA 56 119) HT_.out ?_
              refine take_ (i := 3) (N := some 26) (v := ?_) (a' := ?_) (bA 56 127) rfl rfl (take_ofW HT_.out HW_.out (by kernel_rfl)) (fun _ _ _ h => h) (Or.inl ⟨by rfl, ?_⟩) hHeld ?_ ?_
              rotate_left
              ·rintro w' ⟨s0, s1, s2, s3, s4, s5, s6, s7, s8⟩
               go_simp
               with_reducible rfl
              rotate_left
              ·simp only [Act.put, List.setIfInBounds_toArray, List.set_cons_zero, List.set_cons_succ, i64_w, i32_w]
               rfl
              refine take_ (i := 7) (N := some 30) (v := ?_) (a' := ?_) (bA 56 255) rfl rfl (take_ofW HT_.out HW_.out (by kernel_rfl)) (fun _ _ _ h => h) (Or.inl ⟨by rfl, ?_⟩) hHeld ?_ ?_
              rotate_left
              ·rintro w' ⟨s0, s1, s2, s3, s4, s5, s6, s7, s8⟩
               go_simp
               with_reducible rfl
              rotate_left
              ·simp only [Act.put, List.setIfInBounds_toArray, List.set_cons_zero, List.set_cons_succ, i64_w, i32_w]
               rfl
              refine one_ (i := 8) (N := some 31) (bA 56 511) rfl rfl (one_of HT_.out (by kernel_rfl)) (by decide) (fun K hK => ?_)
              refine goes_ Try.func8 (by kernel_rfl) rfl #[.int .i64 (rd y295 x2_1), .int .i64 (rd y295 x3_2)] (by rfl) rfl rfl argN ?_
              with_reducible refine (marigraphlaw1_news.calls k2 (rd y295 x2_1) (rd y295 x3_2) true _ A9.out).mono ?_
              rintro e w18 ⟨rfl, hb⟩
              have HS0_ := (hb.cell (World.block_lt_of_cell? _ _ (hHeld.1))).trans (hHeld.1)
              have HS1_ := (hb.cell (World.block_lt_of_cell? _ _ (hHeld.2.1))).trans (hHeld.2.1)
              have HS2_ := (hb.cell (World.block_lt_of_cell? _ _ (hHeld.2.2.1))).trans (hHeld.2.2.1)
              have HS3_ := (hb.cell (World.block_lt_of_cell? _ _ (hHeld.2.2.2.1))).trans (hHeld.2.2.2.1)
              have HS4_ := (hb.cell (World.block_lt_of_cell? _ _ (hHeld.2.2.2.2.1))).trans (hHeld.2.2.2.2.1)
              have HS5_ := (hb.cell (World.block_lt_of_cell? _ _ (hHeld.2.2.2.2.2.1))).trans (hHeld.2.2.2.2.2.1)
              have HS6_ := (hb.cell (World.block_lt_of_cell? _ _ (hHeld.2.2.2.2.2.2.1))).trans (hHeld.2.2.2.2.2.2.1)
              have HS7_ := (hb.cell (World.block_lt_of_cell? _ _ (hHeld.2.2.2.2.2.2.2.1))).trans (hHeld.2.2.2.2.2.2.2.1)
              have HS8_ := (hb.cell (World.block_lt_of_cell? _ _ (hHeld.2.2.2.2.2.2.2.2))).trans (hHeld.2.2.2.2.2.2.2.2)
              refine ⟨_, rfl, ?_⟩
              have n0_ := Aside0.mk (Kd.R_below (rowN HO_1.out) hb)
              have n1_ := Aside0.mk (below_step (belN HB.out) hb)
              clear HO_1
              clear HB
              have HO_1 := n0_
              have HB := n1_
              clear n0_ n1_
              (try clear hb)
              (try clear hk)
              refine hK.out _ _ ⟨HS0_, HS1_, HS2_, HS3_, HS4_, HS5_, HS6_, HS7_, HS8_⟩ (fun hHeld => ?_)
              clear hK K
              refine norm_ (a' := ?_) ?_ ?_
              rotate_left
              ·show Act.put _ (some 31) _ = _
               simp only [Act.put, List.setIfInBounds_toArray, List.set_cons_zero, List.set_cons_succ, i64_w, i32_w]
               rfl
              refine pA 9 (some 32) (bA 56 1023) HT_.out ?_
              refine pA 10 (some 33) (bA 56 2047) HT_.out ?_
              refine pA 11 (some 34) (bA 56 4095) HT_.out ?_
              refine pA 12 (some 35) (bA 56 8191) HT_.out ?_
              refine pA 13 (some 36) (bA 56 16383) HT_.out ?_
              refine pA 15 (some 38) (bA 56 49151) HT_.out ?_
              refine pA 16 (some 39) (bA 56 114687) HT_.out ?_
              refine pA 17 (some 40) (bA 56 245759) HT_.out ?_
              refine pA 20 (some 43) (bA 56 1294335) HT_.out ?_
              refine pA 21 (some 44) (bA 56 3391487) HT_.out ?_
              refine pA 22 (some 45) (bA 56 7585791) HT_.out ?_
              refine take_ (i := 14) (N := some 37) (v := ?_) (a' := ?_) (bA 56 7602175) rfl rfl (take_ofW HT_.out HW_.out (by kernel_rfl)) (fun _ _ _ h => h) (Or.inl ⟨by rfl, ?_⟩) hHeld ?_ ?_
              rotate_left
              ·rintro w' ⟨s0, s1, s2, s3, s4, s5, s6, s7, s8⟩
               go_simp
               with_reducible rfl
              rotate_left
              ·simp only [Act.put, List.setIfInBounds_toArray, List.set_cons_zero, List.set_cons_succ, i64_w, i32_w]
               rfl
              refine take_ (i := 18) (N := some 41) (v := ?_) (a' := ?_) (bA 56 7864319) rfl rfl (take_ofW HT_.out HW_.out (by kernel_rfl)) (fun _ _ _ h => h) (Or.inl ⟨by rfl, ?_⟩) hHeld ?_ ?_
              rotate_left
              ·rintro w' ⟨s0, s1, s2, s3, s4, s5, s6, s7, s8⟩
               go_simp
               with_reducible rfl
              rotate_left
              ·simp only [Act.put, List.setIfInBounds_toArray, List.set_cons_zero, List.set_cons_succ, i64_w, i32_w]
               rfl
              refine pA 19 (some 42) (bA 56 8388607) HT_.out ?_
              refine take_ (i := 23) (N := some 46) (v := ?_) (a' := ?_) (bA 56 16777215) rfl rfl (take_ofW HT_.out HW_.out (by kernel_rfl)) (fun _ _ _ h => h) (Or.inl ⟨by rfl, ?_⟩) hHeld ?_ ?_
              rotate_left
              ·rintro w' ⟨s0, s1, s2, s3, s4, s5, s6, s7, s8⟩
               go_simp
               with_reducible rfl
              rotate_left
              ·simp only [Act.put, List.setIfInBounds_toArray, List.set_cons_zero, List.set_cons_succ, i64_w, i32_w]
               rfl
              refine pA 24 (some 47) (bA 56 33554431) HT_.out ?_
              refine one_ (i := 25) (N := some 48) (bA 56 67108863) rfl rfl (one_of HT_.out (by kernel_rfl)) (by decide) (fun K hK => ?_)
              refine goes_ Try.func7 (by kernel_rfl) rfl #[.agg #[.int .i64 (rd y295 x2_1), .int .i64 (rd y295 x3_2)], .agg #[.int .i64 (rd y295 x3_2), .int .i64 1]] (by rfl) rfl rfl argN ?_
              with_reducible refine (marigraphlaw1_two.calls k2 (rd y295 x2_1) (rd y295 x3_2) (rd y295 x3_2) 1 true _ A11.out).mono ?_
              rintro e w19 ⟨rfl, hb⟩
              have HS0_ := (hb.cell (World.block_lt_of_cell? _ _ (hHeld.1))).trans (hHeld.1)
              have HS1_ := (hb.cell (World.block_lt_of_cell? _ _ (hHeld.2.1))).trans (hHeld.2.1)
              have HS2_ := (hb.cell (World.block_lt_of_cell? _ _ (hHeld.2.2.1))).trans (hHeld.2.2.1)
              have HS3_ := (hb.cell (World.block_lt_of_cell? _ _ (hHeld.2.2.2.1))).trans (hHeld.2.2.2.1)
              have HS4_ := (hb.cell (World.block_lt_of_cell? _ _ (hHeld.2.2.2.2.1))).trans (hHeld.2.2.2.2.1)
              have HS5_ := (hb.cell (World.block_lt_of_cell? _ _ (hHeld.2.2.2.2.2.1))).trans (hHeld.2.2.2.2.2.1)
              have HS6_ := (hb.cell (World.block_lt_of_cell? _ _ (hHeld.2.2.2.2.2.2.1))).trans (hHeld.2.2.2.2.2.2.1)
              have HS7_ := (hb.cell (World.block_lt_of_cell? _ _ (hHeld.2.2.2.2.2.2.2.1))).trans (hHeld.2.2.2.2.2.2.2.1)
              have HS8_ := (hb.cell (World.block_lt_of_cell? _ _ (hHeld.2.2.2.2.2.2.2.2))).trans (hHeld.2.2.2.2.2.2.2.2)
              refine ⟨_, rfl, ?_⟩
              have n0_ := Aside0.mk (Kd.R_below (rowN HO_1.out) hb)
              have n1_ := Aside0.mk (below_step (belN HB.out) hb)
              clear HO_1
              clear HB
              have HO_1 := n0_
              have HB := n1_
              clear n0_ n1_
              (try clear hb)
              (try clear hk)
              refine hK.out _ _ ⟨HS0_, HS1_, HS2_, HS3_, HS4_, HS5_, HS6_, HS7_, HS8_⟩ (fun hHeld => ?_)
              clear hK K
              refine norm_ (a' := ?_) ?_ ?_
              rotate_left
              ·show Act.put _ (some 48) _ = _
               simp only [Act.put, List.setIfInBounds_toArray, List.set_cons_zero, List.set_cons_succ, i64_w, i32_w]
               rfl
              refine pA 26 (some 49) (bA 56 134217727) HT_.out ?_
              refine pA 27 (some 50) (bA 56 268435455) HT_.out ?_
              refine pA 28 (some 51) (bA 56 536870911) HT_.out ?_
              refine pA 29 (some 52) (bA 56 1073741823) HT_.out ?_
              refine pA 30 (some 53) (bA 56 2147483647) HT_.out ?_
              refine pA 31 (some 54) (bA 56 4294967295) HT_.out ?_
              refine pA 34 (some 57) (bA 56 21474836479) HT_.out ?_
              refine pA 35 (some 58) (bA 56 55834574847) HT_.out ?_
              refine pA 36 (some 59) (bA 56 124554051583) HT_.out ?_
              refine take_ (i := 32) (N := some 55) (v := ?_) (a' := ?_) (bA 56 128849018879) rfl rfl (take_ofW HT_.out HW_.out (by kernel_rfl)) (fun _ _ _ h => h) (Or.inl ⟨by rfl, ?_⟩) hHeld ?_ ?_
              rotate_left
              ·rintro w' ⟨s0, s1, s2, s3, s4, s5, s6, s7, s8⟩
               go_simp
               with_reducible rfl
              rotate_left
              ·simp only [Act.put, List.setIfInBounds_toArray, List.set_cons_zero, List.set_cons_succ, i64_w, i32_w]
               rfl
              refine pA 33 (some 56) (bA 56 137438953471) HT_.out ?_
              refine take_ (i := 37) (N := some 60) (v := ?_) (a' := ?_) (bA 56 274877906943) rfl rfl (take_ofW HT_.out HW_.out (by kernel_rfl)) (fun _ _ _ h => h) (Or.inl ⟨by rfl, ?_⟩) hHeld ?_ ?_
              rotate_left
              ·rintro w' ⟨s0, s1, s2, s3, s4, s5, s6, s7, s8⟩
               go_simp
               with_reducible rfl
              rotate_left
              ·simp only [Act.put, List.setIfInBounds_toArray, List.set_cons_zero, List.set_cons_succ, i64_w, i32_w]
               rfl
              refine pA 38 (some 61) (bA 56 549755813887) HT_.out ?_
              refine one_ (i := 39) (N := some 62) (bA 56 1099511627775) rfl rfl (one_of HT_.out (by kernel_rfl)) (by decide) (fun K hK => ?_)
              refine goes_ Try.func7 (by kernel_rfl) rfl #[.agg #[.int .i64 (rd y295 x2_1), .int .i64 1], .agg #[.int .i64 1, .int .i64 (rd y295 x3_2)]] (by rfl) rfl rfl argN ?_
              with_reducible refine (marigraphlaw1_two.calls k2 (rd y295 x2_1) 1 1 (rd y295 x3_2) true _ A13.out).mono ?_
              rintro e w20 ⟨rfl, hb⟩
              have HS0_ := (hb.cell (World.block_lt_of_cell? _ _ (hHeld.1))).trans (hHeld.1)
              have HS1_ := (hb.cell (World.block_lt_of_cell? _ _ (hHeld.2.1))).trans (hHeld.2.1)
              have HS2_ := (hb.cell (World.block_lt_of_cell? _ _ (hHeld.2.2.1))).trans (hHeld.2.2.1)
              have HS3_ := (hb.cell (World.block_lt_of_cell? _ _ (hHeld.2.2.2.1))).trans (hHeld.2.2.2.1)
              have HS4_ := (hb.cell (World.block_lt_of_cell? _ _ (hHeld.2.2.2.2.1))).trans (hHeld.2.2.2.2.1)
              have HS5_ := (hb.cell (World.block_lt_of_cell? _ _ (hHeld.2.2.2.2.2.1))).trans (hHeld.2.2.2.2.2.1)
              have HS6_ := (hb.cell (World.block_lt_of_cell? _ _ (hHeld.2.2.2.2.2.2.1))).trans (hHeld.2.2.2.2.2.2.1)
              have HS7_ := (hb.cell (World.block_lt_of_cell? _ _ (hHeld.2.2.2.2.2.2.2.1))).trans (hHeld.2.2.2.2.2.2.2.1)
              have HS8_ := (hb.cell (World.block_lt_of_cell? _ _ (hHeld.2.2.2.2.2.2.2.2))).trans (hHeld.2.2.2.2.2.2.2.2)
              refine ⟨_, rfl, ?_⟩
              have n0_ := Aside0.mk (Kd.R_below (rowN HO_1.out) hb)
              have n1_ := Aside0.mk (below_step (belN HB.out) hb)
              clear HO_1
              clear HB
              have HO_1 := n0_
              have HB := n1_
              clear n0_ n1_
              (try clear hb)
              (try clear hk)
              refine hK.out _ _ ⟨HS0_, HS1_, HS2_, HS3_, HS4_, HS5_, HS6_, HS7_, HS8_⟩ (fun hHeld => ?_)
              clear hK K
              refine norm_ (a' := ?_) ?_ ?_
              rotate_left
              ·show Act.put _ (some 62) _ = _
               simp only [Act.put, List.setIfInBounds_toArray, List.set_cons_zero, List.set_cons_succ, i64_w, i32_w]
               rfl
              refine pA 40 (some 63) (bA 56 2199023255551) HT_.out ?_
              refine pA 41 (some 64) (bA 56 4398046511103) HT_.out ?_
              refine pA 42 (some 65) (bA 56 8796093022207) HT_.out ?_
              refine pA 43 (some 66) (bA 56 17592186044415) HT_.out ?_
              refine pA 44 (some 67) (bA 56 35184372088831) HT_.out ?_
              refine pA 45 (some 68) (bA 56 70368744177663) HT_.out ?_
              refine pA 48 (some 71) (bA 56 351843720888319) HT_.out ?_
              refine pA 49 (some 72) (bA 56 914793674309631) HT_.out ?_
              refine pA 50 (some 73) (bA 56 2040693581152255) HT_.out ?_
              refine take_ (i := 46) (N := some 69) (v := ?_) (a' := ?_) (bA 56 2111062325329919) rfl rfl (take_ofW HT_.out HW_.out (by kernel_rfl)) (fun _ _ _ h => h) (Or.inl ⟨by rfl, ?_⟩) hHeld ?_ ?_
              rotate_left
              ·rintro w' ⟨s0, s1, s2, s3, s4, s5, s6, s7, s8⟩
               go_simp
               with_reducible rfl
              rotate_left
              ·simp only [Act.put, List.setIfInBounds_toArray, List.set_cons_zero, List.set_cons_succ, i64_w, i32_w]
               rfl
              refine pA 47 (some 70) (bA 56 2251799813685247) HT_.out ?_
              refine take_ (i := 51) (N := some 74) (v := ?_) (a' := ?_) (bA 56 4503599627370495) rfl rfl (take_ofW HT_.out HW_.out (by kernel_rfl)) (fun _ _ _ h => h) (Or.inl ⟨by rfl, ?_⟩) hHeld ?_ ?_
              rotate_left
              ·rintro w' ⟨s0, s1, s2, s3, s4, s5, s6, s7, s8⟩
               go_simp
               with_reducible rfl
              rotate_left
              ·simp only [Act.put, List.setIfInBounds_toArray, List.set_cons_zero, List.set_cons_succ, i64_w, i32_w]
               rfl
              refine pA 52 (some 75) (bA 56 9007199254740991) HT_.out ?_
              refine one_ (i := 53) (N := some 76) (bA 56 18014398509481983) rfl rfl (one_of HT_.out (by kernel_rfl)) (by decide) (fun K hK => ?_)
              refine goes_ Try.func7 (by kernel_rfl) rfl #[.agg #[.int .i64 (rd y295 x2_1), .int .i64 3], .agg #[.int .i64 (rd y295 x3_2), .int .i64 7]] (by rfl) rfl rfl argN ?_
              with_reducible refine (marigraphlaw1_two.calls k2 (rd y295 x2_1) 3 (rd y295 x3_2) 7 true _ A15.out).mono ?_
              rintro e w21 ⟨rfl, hb⟩
              have HS0_ := (hb.cell (World.block_lt_of_cell? _ _ (hHeld.1))).trans (hHeld.1)
              have HS1_ := (hb.cell (World.block_lt_of_cell? _ _ (hHeld.2.1))).trans (hHeld.2.1)
              have HS2_ := (hb.cell (World.block_lt_of_cell? _ _ (hHeld.2.2.1))).trans (hHeld.2.2.1)
              have HS3_ := (hb.cell (World.block_lt_of_cell? _ _ (hHeld.2.2.2.1))).trans (hHeld.2.2.2.1)
              have HS4_ := (hb.cell (World.block_lt_of_cell? _ _ (hHeld.2.2.2.2.1))).trans (hHeld.2.2.2.2.1)
              have HS5_ := (hb.cell (World.block_lt_of_cell? _ _ (hHeld.2.2.2.2.2.1))).trans (hHeld.2.2.2.2.2.1)
              have HS6_ := (hb.cell (World.block_lt_of_cell? _ _ (hHeld.2.2.2.2.2.2.1))).trans (hHeld.2.2.2.2.2.2.1)
              have HS7_ := (hb.cell (World.block_lt_of_cell? _ _ (hHeld.2.2.2.2.2.2.2.1))).trans (hHeld.2.2.2.2.2.2.2.1)
              have HS8_ := (hb.cell (World.block_lt_of_cell? _ _ (hHeld.2.2.2.2.2.2.2.2))).trans (hHeld.2.2.2.2.2.2.2.2)
              refine ⟨_, rfl, ?_⟩
              have n0_ := Aside0.mk (Kd.R_below (rowN HO_1.out) hb)
              have n1_ := Aside0.mk (below_step (belN HB.out) hb)
              clear HO_1
              clear HB
              have HO_1 := n0_
              have HB := n1_
              clear n0_ n1_
              (try clear hb)
              (try clear hk)
              refine hK.out _ _ ⟨HS0_, HS1_, HS2_, HS3_, HS4_, HS5_, HS6_, HS7_, HS8_⟩ (fun hHeld => ?_)
              clear hK K
              refine norm_ (a' := ?_) ?_ ?_
              rotate_left
              ·show Act.put _ (some 76) _ = _
               simp only [Act.put, List.setIfInBounds_toArray, List.set_cons_zero, List.set_cons_succ, i64_w, i32_w]
               rfl
              refine pA 54 (some 77) (bA 56 36028797018963967) HT_.out ?_
              refine pA 55 (some 78) (bA 56 72057594037927935) HT_.out ?_
              refine done_ (done_of HT_.out (by kernel_rfl)) ?_
              try go_wp2
              go_roundg k2
              case measure => have := HK1.out; have := HK2.out; omega
              case rel => exact ⟨(wrap64 (x3_2 + 1)), (by first | rfl | (simp; done) | (simp [*]; done)), H', ⟨by have := HK1.out; have := HK2.out; omega⟩, ⟨(rowN HO_1.out)⟩, ⟨(belN HB.out)⟩⟩
             ·replace c16 := Bool.eq_false_iff.mpr c16
              subst c16
              have H1 : (some false) = some r := by rw [if_neg (show ¬ (false = true) by decide)] at H; exact H
              clear H
              have H := H1
              clear H1
              obtain rfl := Option.some.inj H
              try go_wp2
              have n0_ := Aside0.mk (Kd.R_drew HO_1.out)
              have n1_ := Aside0.mk (below_drew1 HB.out)
              clear HO_1
              clear HB
              have HO_1 := n0_
              have HB := n1_
              clear n0_ n1_
              have p298 : 0 ≤ (x2_1 : Int) := of_decide_eq_true (by first | (with_reducible assumption) | assumption)
              have q298 : x2_1 < (y295.length : Int) := of_decide_eq_true (by first | (with_reducible assumption) | assumption)
              obtain ⟨ad298, e298, hx298_0⟩ := Kd.at_int (Kd.R_reads' HO_1.out).2.2 x2_1 p298 q298
              cases e298
              replace p298 := eq_true p298
              replace q298 := eq_true q298
              have p299 : 0 ≤ (x3_2 : Int) := of_decide_eq_true (by first | (with_reducible assumption) | assumption)
              have q299 : x3_2 < (y295.length : Int) := of_decide_eq_true (by first | (with_reducible assumption) | assumption)
              obtain ⟨ad299, e299, hx299_0⟩ := Kd.at_int (Kd.R_reads' HO_1.out).2.2 x3_2 p299 q299
              obtain rfl : ad298 = ad299 := (by injection e299)
              replace p299 := eq_true p299
              replace q299 := eq_true q299
              have p301 : 0 ≤ (x2_1 : Int) := of_decide_eq_true (by first | (with_reducible assumption) | assumption)
              have q301 : x2_1 < (y295.length : Int) := of_decide_eq_true (by first | (with_reducible assumption) | assumption)
              obtain ⟨ad301, e301, hx301_0⟩ := Kd.at_int (Kd.R_reads' HO_1.out).2.2 x2_1 p301 q301
              obtain rfl : ad298 = ad301 := (by injection e301)
              replace p301 := eq_true p301
              replace q301 := eq_true q301
              have p302 : 0 ≤ (x3_2 : Int) := of_decide_eq_true (by first | (with_reducible assumption) | assumption)
              have q302 : x3_2 < (y295.length : Int) := of_decide_eq_true (by first | (with_reducible assumption) | assumption)
              obtain ⟨ad302, e302, hx302_0⟩ := Kd.at_int (Kd.R_reads' HO_1.out).2.2 x3_2 p302 q302
              obtain rfl : ad298 = ad302 := (by injection e302)
              replace p302 := eq_true p302
              replace q302 := eq_true q302
              have p303 : 0 ≤ (x3_2 : Int) := of_decide_eq_true (by first | (with_reducible assumption) | assumption)
              have q303 : x3_2 < (y295.length : Int) := of_decide_eq_true (by first | (with_reducible assumption) | assumption)
              obtain ⟨ad303, e303, hx303_0⟩ := Kd.at_int (Kd.R_reads' HO_1.out).2.2 x3_2 p303 q303
              obtain rfl : ad298 = ad303 := (by injection e303)
              replace p303 := eq_true p303
              replace q303 := eq_true q303
              have p305 : 0 ≤ (x2_1 : Int) := of_decide_eq_true (by first | (with_reducible assumption) | assumption)
              have q305 : x2_1 < (y295.length : Int) := of_decide_eq_true (by first | (with_reducible assumption) | assumption)
              obtain ⟨ad305, e305, hx305_0⟩ := Kd.at_int (Kd.R_reads' HO_1.out).2.2 x2_1 p305 q305
              obtain rfl : ad298 = ad305 := (by injection e305)
              replace p305 := eq_true p305
              replace q305 := eq_true q305
              have p306 : 0 ≤ (x3_2 : Int) := of_decide_eq_true (by first | (with_reducible assumption) | assumption)
              have q306 : x3_2 < (y295.length : Int) := of_decide_eq_true (by first | (with_reducible assumption) | assumption)
              obtain ⟨ad306, e306, hx306_0⟩ := Kd.at_int (Kd.R_reads' HO_1.out).2.2 x3_2 p306 q306
              obtain rfl : ad298 = ad306 := (by injection e306)
              replace p306 := eq_true p306
              replace q306 := eq_true q306
              have p308 : 0 ≤ (x2_1 : Int) := of_decide_eq_true (by first | (with_reducible assumption) | assumption)
              have q308 : x2_1 < (y295.length : Int) := of_decide_eq_true (by first | (with_reducible assumption) | assumption)
              obtain ⟨ad308, e308, hx308_0⟩ := Kd.at_int (Kd.R_reads' HO_1.out).2.2 x2_1 p308 q308
              obtain rfl : ad298 = ad308 := (by injection e308)
              replace p308 := eq_true p308
              replace q308 := eq_true q308
              have p309 : 0 ≤ (x3_2 : Int) := of_decide_eq_true (by first | (with_reducible assumption) | assumption)
              have q309 : x3_2 < (y295.length : Int) := of_decide_eq_true (by first | (with_reducible assumption) | assumption)
              obtain ⟨ad309, e309, hx309_0⟩ := Kd.at_int (Kd.R_reads' HO_1.out).2.2 x3_2 p309 q309
              obtain rfl : ad298 = ad309 := (by injection e309)
              replace p309 := eq_true p309
              replace q309 := eq_true q309
              refine start_ (n := 56) (S := fun w' => w'.cell? (ad298.add (x2_1).toNat) = some (.int .i64 (rd y295 x2_1)) ∧ w'.cell? (ad298.add (x3_2).toNat) = some (.int .i64 (rd y295 x3_2)) ∧ w'.cell? (ad298.add (x2_1).toNat) = some (.int .i64 (rd y295 x2_1)) ∧ w'.cell? (ad298.add (x3_2).toNat) = some (.int .i64 (rd y295 x3_2)) ∧ w'.cell? (ad298.add (x3_2).toNat) = some (.int .i64 (rd y295 x3_2)) ∧ w'.cell? (ad298.add (x2_1).toNat) = some (.int .i64 (rd y295 x2_1)) ∧ w'.cell? (ad298.add (x3_2).toNat) = some (.int .i64 (rd y295 x3_2)) ∧ w'.cell? (ad298.add (x2_1).toNat) = some (.int .i64 (rd y295 x2_1)) ∧ w'.cell? (ad298.add (x3_2).toNat) = some (.int .i64 (rd y295 x3_2))) (ds := []) #[false, false, false, false, false, false, false, false, false, false, false, false, false, false, false, false, false, false, false, false, false, false, false, false, false, false, false, false, false, false, false, false, false, false, false, false, false, false, false, false, false, false, false, false, false, false, false, false, false, false, false, false, false, false, false, false] (by kernel_rfl) rfl rfl ⟨hx298_0, hx299_0, hx301_0, hx302_0, hx303_0, hx305_0, hx306_0, hx308_0, hx309_0⟩ (fun hHeld => ?_); refine with_tabW marigraphlaw1_RatNumbers.tab8 marigraphlaw1_RatNumbers.bits8 (fun HT_ HW_ => ?_)
              generalize wr.drew = w22 at HO_1 HB hx298_0 hx299_0 hx301_0 hx302_0 hx303_0 hx305_0 hx306_0 hx308_0 hx309_0 hHeld ⊢
              refine pA 0 (some 23) (bA 56 1) HT_.out ?_
              refine pA 1 (some 24) (bA 56 3) HT_.out ?_
              refine pA 2 (some 25) (bA 56 7) HT_.out ?_
              refine pA 4 (some 27) (bA 56 23) HT_.out ?_
              refine pA 5 (some 28) (bA 56 55) HT_.out ?_
              refine pA 6 (some 29) (bA 56 119) HT_.out ?_
              refine take_ (i := 3) (N := some 26) (v := ?_) (a' := ?_) (bA 56 127) rfl rfl (take_ofW HT_.out HW_.out (by kernel_rfl)) (fun _ _ _ h => h) (Or.inl ⟨by rfl, ?_⟩) hHeld ?_ ?_
              rotate_left
              ·rintro w' ⟨s0, s1, s2, s3, s4, s5, s6, s7, s8⟩
               go_simp
               with_reducible rfl
              rotate_left
              ·simp only [Act.put, List.setIfInBounds_toArray, List.set_cons_zero, List.set_cons_succ, i64_w, i32_w]
               rfl
              refine take_ (i := 7) (N := some 30) (v := ?_) (a' := ?_) (bA 56 255) rfl rfl (take_ofW HT_.out HW_.out (by kernel_rfl)) (fun _ _ _ h => h) (Or.inl ⟨by rfl, ?_⟩) hHeld ?_ ?_
              rotate_left
              ·rintro w' ⟨s0, s1, s2, s3, s4, s5, s6, s7, s8⟩
               go_simp
               with_reducible rfl
              rotate_left
              ·simp only [Act.put, List.setIfInBounds_toArray, List.set_cons_zero, List.set_cons_succ, i64_w, i32_w]
               rfl
              refine one_ (i := 8) (N := some 31) (bA 56 511) rfl rfl (one_of HT_.out (by kernel_rfl)) (by decide) (fun K hK => ?_)
              refine goes_ Try.func8 (by kernel_rfl) rfl #[.int .i64 (rd y295 x2_1), .int .i64 (rd y295 x3_2)] (by rfl) rfl rfl argN ?_
              with_reducible refine (marigraphlaw1_news.calls k2 (rd y295 x2_1) (rd y295 x3_2) true _ A9.out).mono ?_
              rintro e w23 ⟨rfl, hb⟩
              have HS0_ := (hb.cell (World.block_lt_of_cell? _ _ (hHeld.1))).trans (hHeld.1)
              have HS1_ := (hb.cell (World.block_lt_of_cell? _ _ (hHeld.2.1))).trans (hHeld.2.1)
              have HS2_ := (hb.cell (World.block_lt_of_cell? _ _ (hHeld.2.2.1))).trans (hHeld.2.2.1)
              have HS3_ := (hb.cell (World.block_lt_of_cell? _ _ (hHeld.2.2.2.1))).trans (hHeld.2.2.2.1)
              have HS4_ := (hb.cell (World.block_lt_of_cell? _ _ (hHeld.2.2.2.2.1))).trans (hHeld.2.2.2.2.1)
              have HS5_ := (hb.cell (World.block_lt_of_cell? _ _ (hHeld.2.2.2.2.2.1))).trans (hHeld.2.2.2.2.2.1)
              have HS6_ := (hb.cell (World.block_lt_of_cell? _ _ (hHeld.2.2.2.2.2.2.1))).trans (hHeld.2.2.2.2.2.2.1)
              have HS7_ := (hb.cell (World.block_lt_of_cell? _ _ (hHeld.2.2.2.2.2.2.2.1))).trans (hHeld.2.2.2.2.2.2.2.1)
              have HS8_ := (hb.cell (World.block_lt_of_cell? _ _ (hHeld.2.2.2.2.2.2.2.2))).trans (hHeld.2.2.2.2.2.2.2.2)
              refine ⟨_, rfl, ?_⟩
              have n0_ := Aside0.mk (Kd.R_below (rowN HO_1.out) hb)
              have n1_ := Aside0.mk (below_step (belN HB.out) hb)
              clear HO_1
              clear HB
              have HO_1 := n0_
              have HB := n1_
              clear n0_ n1_
              (try clear hb)
              (try clear hk)
              refine hK.out _ _ ⟨HS0_, HS1_, HS2_, HS3_, HS4_, HS5_, HS6_, HS7_, HS8_⟩ (fun hHeld => ?_)
              clear hK K
              refine norm_ (a' := ?_) ?_ ?_
              rotate_left
              ·show Act.put _ (some 31) _ = _
               simp only [Act.put, List.setIfInBounds_toArray, List.set_cons_zero, List.set_cons_succ, i64_w, i32_w]
               rfl
              refine pA 9 (some 32) (bA 56 1023) HT_.out ?_
              refine pA 10 (some 33) (bA 56 2047) HT_.out ?_
              refine pA 11 (some 34) (bA 56 4095) HT_.out ?_
              refine pA 12 (some 35) (bA 56 8191) HT_.out ?_
              refine pA 13 (some 36) (bA 56 16383) HT_.out ?_
              refine pA 15 (some 38) (bA 56 49151) HT_.out ?_
              refine pA 16 (some 39) (bA 56 114687) HT_.out ?_
              refine pA 17 (some 40) (bA 56 245759) HT_.out ?_
              refine pA 20 (some 43) (bA 56 1294335) HT_.out ?_
              refine pA 21 (some 44) (bA 56 3391487) HT_.out ?_
              refine pA 22 (some 45) (bA 56 7585791) HT_.out ?_
              refine take_ (i := 14) (N := some 37) (v := ?_) (a' := ?_) (bA 56 7602175) rfl rfl (take_ofW HT_.out HW_.out (by kernel_rfl)) (fun _ _ _ h => h) (Or.inl ⟨by rfl, ?_⟩) hHeld ?_ ?_
              rotate_left
              ·rintro w' ⟨s0, s1, s2, s3, s4, s5, s6, s7, s8⟩
               go_simp
               with_reducible rfl
              rotate_left
              ·simp only [Act.put, List.setIfInBounds_toArray, List.set_cons_zero, List.set_cons_succ, i64_w, i32_w]
               rfl
              refine take_ (i := 18) (N := some 41) (v := ?_) (a' := ?_) (bA 56 7864319) rfl rfl (take_ofW HT_.out HW_.out (by kernel_rfl)) (fun _ _ _ h => h) (Or.inl ⟨by rfl, ?_⟩) hHeld ?_ ?_
              rotate_left
              ·rintro w' ⟨s0, s1, s2, s3, s4, s5, s6, s7, s8⟩
               go_simp
               with_reducible rfl
              rotate_left
              ·simp only [Act.put, List.setIfInBounds_toArray, List.set_cons_zero, List.set_cons_succ, i64_w, i32_w]
               rfl
              refine pA 19 (some 42) (bA 56 8388607) HT_.out ?_
              refine take_ (i := 23) (N := some 46) (v := ?_) (a' := ?_) (bA 56 16777215) rfl rfl (take_ofW HT_.out HW_.out (by kernel_rfl)) (fun _ _ _ h => h) (Or.inl ⟨by rfl, ?_⟩) hHeld ?_ ?_
              rotate_left
              ·rintro w' ⟨s0, s1, s2, s3, s4, s5, s6, s7, s8⟩
               go_simp
               with_reducible rfl
              rotate_left
              ·simp only [Act.put, List.setIfInBounds_toArray, List.set_cons_zero, List.set_cons_succ, i64_w, i32_w]
               rfl
              refine pA 24 (some 47) (bA 56 33554431) HT_.out ?_
              refine one_ (i := 25) (N := some 48) (bA 56 67108863) rfl rfl (one_of HT_.out (by kernel_rfl)) (by decide) (fun K hK => ?_)
              refine goes_ Try.func7 (by kernel_rfl) rfl #[.agg #[.int .i64 (rd y295 x2_1), .int .i64 (rd y295 x3_2)], .agg #[.int .i64 (rd y295 x3_2), .int .i64 1]] (by rfl) rfl rfl argN ?_
              with_reducible refine (marigraphlaw1_two.calls k2 (rd y295 x2_1) (rd y295 x3_2) (rd y295 x3_2) 1 true _ A11.out).mono ?_
              rintro e w24 ⟨rfl, hb⟩
              have HS0_ := (hb.cell (World.block_lt_of_cell? _ _ (hHeld.1))).trans (hHeld.1)
              have HS1_ := (hb.cell (World.block_lt_of_cell? _ _ (hHeld.2.1))).trans (hHeld.2.1)
              have HS2_ := (hb.cell (World.block_lt_of_cell? _ _ (hHeld.2.2.1))).trans (hHeld.2.2.1)
              have HS3_ := (hb.cell (World.block_lt_of_cell? _ _ (hHeld.2.2.2.1))).trans (hHeld.2.2.2.1)
              have HS4_ := (hb.cell (World.block_lt_of_cell? _ _ (hHeld.2.2.2.2.1))).trans (hHeld.2.2.2.2.1)
              have HS5_ := (hb.cell (World.block_lt_of_cell? _ _ (hHeld.2.2.2.2.2.1))).trans (hHeld.2.2.2.2.2.1)
              have HS6_ := (hb.cell (World.block_lt_of_cell? _ _ (hHeld.2.2.2.2.2.2.1))).trans (hHeld.2.2.2.2.2.2.1)
              have HS7_ := (hb.cell (World.block_lt_of_cell? _ _ (hHeld.2.2.2.2.2.2.2.1))).trans (hHeld.2.2.2.2.2.2.2.1)
              have HS8_ := (hb.cell (World.block_lt_of_cell? _ _ (hHeld.2.2.2.2.2.2.2.2))).trans (hHeld.2.2.2.2.2.2.2.2)
              refine ⟨_, rfl, ?_⟩
              have n0_ := Aside0.mk (Kd.R_below (rowN HO_1.out) hb)
              have n1_ := Aside0.mk (below_step (belN HB.out) hb)
              clear HO_1
              clear HB
              have HO_1 := n0_
              have HB := n1_
              clear n0_ n1_
              (try clear hb)
              (try clear hk)
              refine hK.out _ _ ⟨HS0_, HS1_, HS2_, HS3_, HS4_, HS5_, HS6_, HS7_, HS8_⟩ (fun hHeld => ?_)
              clear hK K
              refine norm_ (a' := ?_) ?_ ?_
              rotate_left
              ·show Act.put _ (some 48) _ = _
               simp only [Act.put, List.setIfInBounds_toArray, List.set_cons_zero, List.set_cons_succ, i64_w, i32_w]
               rfl
              refine pA 26 (some 49) (bA 56 134217727) HT_.out ?_
              refine pA 27 (some 50) (bA 56 268435455) HT_.out ?_
              refine pA 28 (some 51) (bA 56 536870911) HT_.out ?_
              refine pA 29 (some 52) (bA 56 1073741823) HT_.out ?_
              refine pA 30 (some 53) (bA 56 2147483647) HT_.out ?_
              refine pA 31 (some 54) (bA 56 4294967295) HT_.out ?_
              refine pA 34 (some 57) (bA 56 21474836479) HT_.out ?_
              refine pA 35 (some 58) (bA 56 55834574847) HT_.out ?_
              refine pA 36 (some 59) (bA 56 124554051583) HT_.out ?_
              refine take_ (i := 32) (N := some 55) (v := ?_) (a' := ?_) (bA 56 128849018879) rfl rfl (take_ofW HT_.out HW_.out (by kernel_rfl)) (fun _ _ _ h => h) (Or.inl ⟨by rfl, ?_⟩) hHeld ?_ ?_
              rotate_left
              ·rintro w' ⟨s0, s1, s2, s3, s4, s5, s6, s7, s8⟩
               go_simp
               with_reducible rfl
              rotate_left
              ·simp only [Act.put, List.setIfInBounds_toArray, List.set_cons_zero, List.set_cons_succ, i64_w, i32_w]
               rfl
              refine pA 33 (some 56) (bA 56 137438953471) HT_.out ?_
              refine take_ (i := 37) (N := some 60) (v := ?_) (a' := ?_) (bA 56 274877906943) rfl rfl (take_ofW HT_.out HW_.out (by kernel_rfl)) (fun _ _ _ h => h) (Or.inl ⟨by rfl, ?_⟩) hHeld ?_ ?_
              rotate_left
              ·rintro w' ⟨s0, s1, s2, s3, s4, s5, s6, s7, s8⟩
               go_simp
               with_reducible rfl
              rotate_left
              ·simp only [Act.put, List.setIfInBounds_toArray, List.set_cons_zero, List.set_cons_succ, i64_w, i32_w]
               rfl
              refine pA 38 (some 61) (bA 56 549755813887) HT_.out ?_
              refine one_ (i := 39) (N := some 62) (bA 56 1099511627775) rfl rfl (one_of HT_.out (by kernel_rfl)) (by decide) (fun K hK => ?_)
              refine goes_ Try.func7 (by kernel_rfl) rfl #[.agg #[.int .i64 (rd y295 x2_1), .int .i64 1], .agg #[.int .i64 1, .int .i64 (rd y295 x3_2)]] (by rfl) rfl rfl argN ?_
              with_reducible refine (marigraphlaw1_two.calls k2 (rd y295 x2_1) 1 1 (rd y295 x3_2) true _ A13.out).mono ?_
              rintro e w25 ⟨rfl, hb⟩
              have HS0_ := (hb.cell (World.block_lt_of_cell? _ _ (hHeld.1))).trans (hHeld.1)
              have HS1_ := (hb.cell (World.block_lt_of_cell? _ _ (hHeld.2.1))).trans (hHeld.2.1)
              have HS2_ := (hb.cell (World.block_lt_of_cell? _ _ (hHeld.2.2.1))).trans (hHeld.2.2.1)
              have HS3_ := (hb.cell (World.block_lt_of_cell? _ _ (hHeld.2.2.2.1))).trans (hHeld.2.2.2.1)
              have HS4_ := (hb.cell (World.block_lt_of_cell? _ _ (hHeld.2.2.2.2.1))).trans (hHeld.2.2.2.2.1)
              have HS5_ := (hb.cell (World.block_lt_of_cell? _ _ (hHeld.2.2.2.2.2.1))).trans (hHeld.2.2.2.2.2.1)
              have HS6_ := (hb.cell (World.block_lt_of_cell? _ _ (hHeld.2.2.2.2.2.2.1))).trans (hHeld.2.2.2.2.2.2.1)
              have HS7_ := (hb.cell (World.block_lt_of_cell? _ _ (hHeld.2.2.2.2.2.2.2.1))).trans (hHeld.2.2.2.2.2.2.2.1)
              have HS8_ := (hb.cell (World.block_lt_of_cell? _ _ (hHeld.2.2.2.2.2.2.2.2))).trans (hHeld.2.2.2.2.2.2.2.2)
              refine ⟨_, rfl, ?_⟩
              have n0_ := Aside0.mk (Kd.R_below (rowN HO_1.out) hb)
              have n1_ := Aside0.mk (below_step (belN HB.out) hb)
              clear HO_1
              clear HB
              have HO_1 := n0_
              have HB := n1_
              clear n0_ n1_
              (try clear hb)
              (try clear hk)
              refine hK.out _ _ ⟨HS0_, HS1_, HS2_, HS3_, HS4_, HS5_, HS6_, HS7_, HS8_⟩ (fun hHeld => ?_)
              clear hK K
              refine norm_ (a' := ?_) ?_ ?_
              rotate_left
              ·show Act.put _ (some 62) _ = _
               simp only [Act.put, List.setIfInBounds_toArray, List.set_cons_zero, List.set_cons_succ, i64_w, i32_w]
               rfl
              refine pA 40 (some 63) (bA 56 2199023255551) HT_.out ?_
              refine pA 41 (some 64) (bA 56 4398046511103) HT_.out ?_
              refine pA 42 (some 65) (bA 56 8796093022207) HT_.out ?_
              refine pA 43 (some 66) (bA 56 17592186044415) HT_.out ?_
              refine pA 44 (some 67) (bA 56 35184372088831) HT_.out ?_
              refine pA 45 (some 68) (bA 56 70368744177663) HT_.out ?_
              refine pA 48 (some 71) (bA 56 351843720888319) HT_.out ?_
              refine pA 49 (some 72) (bA 56 914793674309631) HT_.out ?_
              refine pA 50 (some 73) (bA 56 2040693581152255) HT_.out ?_
              refine take_ (i := 46) (N := some 69) (v := ?_) (a' := ?_) (bA 56 2111062325329919) rfl rfl (take_ofW HT_.out HW_.out (by kernel_rfl)) (fun _ _ _ h => h) (Or.inl ⟨by rfl, ?_⟩) hHeld ?_ ?_
              rotate_left
              ·rintro w' ⟨s0, s1, s2, s3, s4, s5, s6, s7, s8⟩
               go_simp
               with_reducible rfl
              rotate_left
              ·simp only [Act.put, List.setIfInBounds_toArray, List.set_cons_zero, List.set_cons_succ, i64_w, i32_w]
               rfl
              refine pA 47 (some 70) (bA 56 2251799813685247) HT_.out ?_
              refine take_ (i := 51) (N := some 74) (v := ?_) (a' := ?_) (bA 56 4503599627370495) rfl rfl (take_ofW HT_.out HW_.out (by kernel_rfl)) (fun _ _ _ h => h) (Or.inl ⟨by rfl, ?_⟩) hHeld ?_ ?_
              rotate_left
              ·rintro w' ⟨s0, s1, s2, s3, s4, s5, s6, s7, s8⟩
               go_simp
               with_reducible rfl
              rotate_left
              ·simp only [Act.put, List.setIfInBounds_toArray, List.set_cons_zero, List.set_cons_succ, i64_w, i32_w]
               rfl
              refine pA 52 (some 75) (bA 56 9007199254740991) HT_.out ?_
              refine one_ (i := 53) (N := some 76) (bA 56 18014398509481983) rfl rfl (one_of HT_.out (by kernel_rfl)) (by decide) (fun K hK => ?_)
              refine goes_ Try.func7 (by kernel_rfl) rfl #[.agg #[.int .i64 (rd y295 x2_1), .int .i64 3], .agg #[.int .i64 (rd y295 x3_2), .int .i64 7]] (by rfl) rfl rfl argN ?_
              with_reducible refine (marigraphlaw1_two.calls k2 (rd y295 x2_1) 3 (rd y295 x3_2) 7 false _ A15.out).mono ?_
              rintro e w26 ⟨rfl, hb⟩
              have HS0_ := (hb.cell (World.block_lt_of_cell? _ _ (hHeld.1))).trans (hHeld.1)
              have HS1_ := (hb.cell (World.block_lt_of_cell? _ _ (hHeld.2.1))).trans (hHeld.2.1)
              have HS2_ := (hb.cell (World.block_lt_of_cell? _ _ (hHeld.2.2.1))).trans (hHeld.2.2.1)
              have HS3_ := (hb.cell (World.block_lt_of_cell? _ _ (hHeld.2.2.2.1))).trans (hHeld.2.2.2.1)
              have HS4_ := (hb.cell (World.block_lt_of_cell? _ _ (hHeld.2.2.2.2.1))).trans (hHeld.2.2.2.2.1)
              have HS5_ := (hb.cell (World.block_lt_of_cell? _ _ (hHeld.2.2.2.2.2.1))).trans (hHeld.2.2.2.2.2.1)
              have HS6_ := (hb.cell (World.block_lt_of_cell? _ _ (hHeld.2.2.2.2.2.2.1))).trans (hHeld.2.2.2.2.2.2.1)
              have HS7_ := (hb.cell (World.block_lt_of_cell? _ _ (hHeld.2.2.2.2.2.2.2.1))).trans (hHeld.2.2.2.2.2.2.2.1)
              have HS8_ := (hb.cell (World.block_lt_of_cell? _ _ (hHeld.2.2.2.2.2.2.2.2))).trans (hHeld.2.2.2.2.2.2.2.2)
              refine ⟨_, rfl, ?_⟩
              have n0_ := Aside0.mk (Kd.R_below (rowN HO_1.out) hb)
              have n1_ := Aside0.mk (below_step (belN HB.out) hb)
              clear HO_1
              clear HB
              have HO_1 := n0_
              have HB := n1_
              clear n0_ n1_
              (try clear hb)
              (try clear hk)
              refine hK.out _ _ ⟨HS0_, HS1_, HS2_, HS3_, HS4_, HS5_, HS6_, HS7_, HS8_⟩ (fun hHeld => ?_)
              clear hK K
              refine norm_ (a' := ?_) ?_ ?_
              rotate_left
              ·show Act.put _ (some 76) _ = _
               simp only [Act.put, List.setIfInBounds_toArray, List.set_cons_zero, List.set_cons_succ, i64_w, i32_w]
               rfl
              refine pA 54 (some 77) (bA 56 36028797018963967) HT_.out ?_
              refine pA 55 (some 78) (bA 56 72057594037927935) HT_.out ?_
              refine done_ (done_of HT_.out (by kernel_rfl)) ?_
              try go_wp2
              go_ret
              exact ⟨by first | rfl | (simp [errW_none, errW_some] <;> rfl) | (simp [*, errW_none, errW_some] <;> rfl), (belN HB.out)⟩
            ·replace c14 := Bool.eq_false_iff.mpr c14
             subst c14
             have H1 : (some false) = some r := by rw [if_neg (show ¬ (false = true) by decide)] at H; exact H
             clear H
             have H := H1
             clear H1
             obtain rfl := Option.some.inj H
             try go_wp2
             have n0_ := Aside0.mk (Kd.R_drew HO_1.out)
             have n1_ := Aside0.mk (below_drew1 HB.out)
             clear HO_1
             clear HB
             have HO_1 := n0_
             have HB := n1_
             clear n0_ n1_
             have p298 : 0 ≤ (x2_1 : Int) := of_decide_eq_true (by first | (with_reducible assumption) | assumption)
             have q298 : x2_1 < (y295.length : Int) := of_decide_eq_true (by first | (with_reducible assumption) | assumption)
             obtain ⟨ad298, e298, hx298_0⟩ := Kd.at_int (Kd.R_reads' HO_1.out).2.2 x2_1 p298 q298
             cases e298
             replace p298 := eq_true p298
             replace q298 := eq_true q298
             have p299 : 0 ≤ (x3_2 : Int) := of_decide_eq_true (by first | (with_reducible assumption) | assumption)
             have q299 : x3_2 < (y295.length : Int) := of_decide_eq_true (by first | (with_reducible assumption) | assumption)
             obtain ⟨ad299, e299, hx299_0⟩ := Kd.at_int (Kd.R_reads' HO_1.out).2.2 x3_2 p299 q299
             obtain rfl : ad298 = ad299 := (by injection e299)
             replace p299 := eq_true p299
             replace q299 := eq_true q299
             have p301 : 0 ≤ (x2_1 : Int) := of_decide_eq_true (by first | (with_reducible assumption) | assumption)
             have q301 : x2_1 < (y295.length : Int) := of_decide_eq_true (by first | (with_reducible assumption) | assumption)
             obtain ⟨ad301, e301, hx301_0⟩ := Kd.at_int (Kd.R_reads' HO_1.out).2.2 x2_1 p301 q301
             obtain rfl : ad298 = ad301 := (by injection e301)
             replace p301 := eq_true p301
             replace q301 := eq_true q301
             have p302 : 0 ≤ (x3_2 : Int) := of_decide_eq_true (by first | (with_reducible assumption) | assumption)
             have q302 : x3_2 < (y295.length : Int) := of_decide_eq_true (by first | (with_reducible assumption) | assumption)
             obtain ⟨ad302, e302, hx302_0⟩ := Kd.at_int (Kd.R_reads' HO_1.out).2.2 x3_2 p302 q302
             obtain rfl : ad298 = ad302 := (by injection e302)
             replace p302 := eq_true p302
             replace q302 := eq_true q302
             have p303 : 0 ≤ (x3_2 : Int) := of_decide_eq_true (by first | (with_reducible assumption) | assumption)
             have q303 : x3_2 < (y295.length : Int) := of_decide_eq_true (by first | (with_reducible assumption) | assumption)
             obtain ⟨ad303, e303, hx303_0⟩ := Kd.at_int (Kd.R_reads' HO_1.out).2.2 x3_2 p303 q303
             obtain rfl : ad298 = ad303 := (by injection e303)
             replace p303 := eq_true p303
             replace q303 := eq_true q303
             have p305 : 0 ≤ (x2_1 : Int) := of_decide_eq_true (by first | (with_reducible assumption) | assumption)
             have q305 : x2_1 < (y295.length : Int) := of_decide_eq_true (by first | (with_reducible assumption) | assumption)
             obtain ⟨ad305, e305, hx305_0⟩ := Kd.at_int (Kd.R_reads' HO_1.out).2.2 x2_1 p305 q305
             obtain rfl : ad298 = ad305 := (by injection e305)
             replace p305 := eq_true p305
             replace q305 := eq_true q305
             have p306 : 0 ≤ (x3_2 : Int) := of_decide_eq_true (by first | (with_reducible assumption) | assumption)
             have q306 : x3_2 < (y295.length : Int) := of_decide_eq_true (by first | (with_reducible assumption) | assumption)
             obtain ⟨ad306, e306, hx306_0⟩ := Kd.at_int (Kd.R_reads' HO_1.out).2.2 x3_2 p306 q306
             obtain rfl : ad298 = ad306 := (by injection e306)
             replace p306 := eq_true p306
             replace q306 := eq_true q306
             refine start_ (n := 56) (S := fun w' => w'.cell? (ad298.add (x2_1).toNat) = some (.int .i64 (rd y295 x2_1)) ∧ w'.cell? (ad298.add (x3_2).toNat) = some (.int .i64 (rd y295 x3_2)) ∧ w'.cell? (ad298.add (x2_1).toNat) = some (.int .i64 (rd y295 x2_1)) ∧ w'.cell? (ad298.add (x3_2).toNat) = some (.int .i64 (rd y295 x3_2)) ∧ w'.cell? (ad298.add (x3_2).toNat) = some (.int .i64 (rd y295 x3_2)) ∧ w'.cell? (ad298.add (x2_1).toNat) = some (.int .i64 (rd y295 x2_1)) ∧ w'.cell? (ad298.add (x3_2).toNat) = some (.int .i64 (rd y295 x3_2))) (ds := []) #[false, false, false, false, false, false, false, false, false, false, false, false, false, false, false, false, false, false, false, false, false, false, false, false, false, false, false, false, false, false, false, false, false, false, false, false, false, false, false, false, false, false, false, false, false, false, false, false, false, false, false, false, false, false, false, false] (by kernel_rfl) rfl rfl ⟨hx298_0, hx299_0, hx301_0, hx302_0, hx303_0, hx305_0, hx306_0⟩ (fun hHeld => ?_); refine with_tabW marigraphlaw1_RatNumbers.tab8 marigraphlaw1_RatNumbers.bits8 (fun HT_ HW_ => ?_)
             generalize wr.drew = w27 at HO_1 HB hx298_0 hx299_0 hx301_0 hx302_0 hx303_0 hx305_0 hx306_0 hHeld ⊢
             refine pA 0 (some 23) (bA 56 1) HT_.out ?_
             refine pA 1 (some 24) (bA 56 3) HT_.out ?_
             refine pA 2 (some 25) (bA 56 7) HT_.out ?_
             refine pA 4 (some 27) (bA 56 23) HT_.out ?_
             refine pA 5 (some 28) (bA 56 55) HT_.out ?_
             refine pA 6 (some 29) (bA 56 119) HT_.out ?_
             refine take_ (i := 3) (N := some 26) (v := ?_) (a' := ?_) (bA 56 127) rfl rfl (take_ofW HT_.out HW_.out (by kernel_rfl)) (fun _ _ _ h => h) (Or.inl ⟨by rfl, ?_⟩) hHeld ?_ ?_
             rotate_left
             ·rintro w' ⟨s0, s1, s2, s3, s4, s5, s6⟩
              go_simp
              with_reducible rfl
             rotate_left
             ·simp only [Act.put, List.setIfInBounds_toArray, List.set_cons_zero, List.set_cons_succ, i64_w, i32_w]
              rfl
             refine take_ (i := 7) (N := some 30) (v := ?_) (a' := ?_) (bA 56 255) rfl rfl (take_ofW HT_.out HW_.out (by kernel_rfl)) (fun _ _ _ h => h) (Or.inl ⟨by rfl, ?_⟩) hHeld ?_ ?_
             rotate_left
             ·rintro w' ⟨s0, s1, s2, s3, s4, s5, s6⟩
              go_simp
              with_reducible rfl
             rotate_left
             ·simp only [Act.put, List.setIfInBounds_toArray, List.set_cons_zero, List.set_cons_succ, i64_w, i32_w]
              rfl
             refine one_ (i := 8) (N := some 31) (bA 56 511) rfl rfl (one_of HT_.out (by kernel_rfl)) (by decide) (fun K hK => ?_)
             refine goes_ Try.func8 (by kernel_rfl) rfl #[.int .i64 (rd y295 x2_1), .int .i64 (rd y295 x3_2)] (by rfl) rfl rfl argN ?_
             with_reducible refine (marigraphlaw1_news.calls k2 (rd y295 x2_1) (rd y295 x3_2) true _ A9.out).mono ?_
             rintro e w28 ⟨rfl, hb⟩
             have HS0_ := (hb.cell (World.block_lt_of_cell? _ _ (hHeld.1))).trans (hHeld.1)
             have HS1_ := (hb.cell (World.block_lt_of_cell? _ _ (hHeld.2.1))).trans (hHeld.2.1)
             have HS2_ := (hb.cell (World.block_lt_of_cell? _ _ (hHeld.2.2.1))).trans (hHeld.2.2.1)
             have HS3_ := (hb.cell (World.block_lt_of_cell? _ _ (hHeld.2.2.2.1))).trans (hHeld.2.2.2.1)
             have HS4_ := (hb.cell (World.block_lt_of_cell? _ _ (hHeld.2.2.2.2.1))).trans (hHeld.2.2.2.2.1)
             have HS5_ := (hb.cell (World.block_lt_of_cell? _ _ (hHeld.2.2.2.2.2.1))).trans (hHeld.2.2.2.2.2.1)
             have HS6_ := (hb.cell (World.block_lt_of_cell? _ _ (hHeld.2.2.2.2.2.2))).trans (hHeld.2.2.2.2.2.2)
             refine ⟨_, rfl, ?_⟩
             have n0_ := Aside0.mk (Kd.R_below (rowN HO_1.out) hb)
             have n1_ := Aside0.mk (below_step (belN HB.out) hb)
             clear HO_1
             clear HB
             have HO_1 := n0_
             have HB := n1_
             clear n0_ n1_
             (try clear hb)
             (try clear hk)
             refine hK.out _ _ ⟨HS0_, HS1_, HS2_, HS3_, HS4_, HS5_, HS6_⟩ (fun hHeld => ?_)
             clear hK K
             refine norm_ (a' := ?_) ?_ ?_
             rotate_left
             ·show Act.put _ (some 31) _ = _
              simp only [Act.put, List.setIfInBounds_toArray, List.set_cons_zero, List.set_cons_succ, i64_w, i32_w]
              rfl
             refine pA 9 (some 32) (bA 56 1023) HT_.out ?_
             refine pA 10 (some 33) (bA 56 2047) HT_.out ?_
             refine pA 11 (some 34) (bA 56 4095) HT_.out ?_
             refine pA 12 (some 35) (bA 56 8191) HT_.out ?_
             refine pA 13 (some 36) (bA 56 16383) HT_.out ?_
             refine pA 15 (some 38) (bA 56 49151) HT_.out ?_
             refine pA 16 (some 39) (bA 56 114687) HT_.out ?_
             refine pA 17 (some 40) (bA 56 245759) HT_.out ?_
             refine pA 20 (some 43) (bA 56 1294335) HT_.out ?_
             refine pA 21 (some 44) (bA 56 3391487) HT_.out ?_
             refine pA 22 (some 45) (bA 56 7585791) HT_.out ?_
             refine take_ (i := 14) (N := some 37) (v := ?_) (a' := ?_) (bA 56 7602175) rfl rfl (take_ofW HT_.out HW_.out (by kernel_rfl)) (fun _ _ _ h => h) (Or.inl ⟨by rfl, ?_⟩) hHeld ?_ ?_
             rotate_left
             ·rintro w' ⟨s0, s1, s2, s3, s4, s5, s6⟩
              go_simp
              with_reducible rfl
             rotate_left
             ·simp only [Act.put, List.setIfInBounds_toArray, List.set_cons_zero, List.set_cons_succ, i64_w, i32_w]
              rfl
             refine take_ (i := 18) (N := some 41) (v := ?_) (a' := ?_) (bA 56 7864319) rfl rfl (take_ofW HT_.out HW_.out (by kernel_rfl)) (fun _ _ _ h => h) (Or.inl ⟨by rfl, ?_⟩) hHeld ?_ ?_
             rotate_left
             ·rintro w' ⟨s0, s1, s2, s3, s4, s5, s6⟩
              go_simp
              with_reducible rfl
             rotate_left
             ·simp only [Act.put, List.setIfInBounds_toArray, List.set_cons_zero, List.set_cons_succ, i64_w, i32_w]
              rfl
             refine pA 19 (some 42) (bA 56 8388607) HT_.out ?_
             refine take_ (i := 23) (N := some 46) (v := ?_) (a' := ?_) (bA 56 16777215) rfl rfl (take_ofW HT_.out HW_.out (by kernel_rfl)) (fun _ _ _ h => h) (Or.inl ⟨by rfl, ?_⟩) hHeld ?_ ?_
             rotate_left
             ·rintro w' ⟨s0, s1, s2, s3, s4, s5, s6⟩
              go_simp
              with_reducible rfl
             rotate_left
             ·simp only [Act.put, List.setIfInBounds_toArray, List.set_cons_zero, List.set_cons_succ, i64_w, i32_w]
              rfl
             refine pA 24 (some 47) (bA 56 33554431) HT_.out ?_
             refine one_ (i := 25) (N := some 48) (bA 56 67108863) rfl rfl (one_of HT_.out (by kernel_rfl)) (by decide) (fun K hK => ?_)
             refine goes_ Try.func7 (by kernel_rfl) rfl #[.agg #[.int .i64 (rd y295 x2_1), .int .i64 (rd y295 x3_2)], .agg #[.int .i64 (rd y295 x3_2), .int .i64 1]] (by rfl) rfl rfl argN ?_
             with_reducible refine (marigraphlaw1_two.calls k2 (rd y295 x2_1) (rd y295 x3_2) (rd y295 x3_2) 1 true _ A11.out).mono ?_
             rintro e w29 ⟨rfl, hb⟩
             have HS0_ := (hb.cell (World.block_lt_of_cell? _ _ (hHeld.1))).trans (hHeld.1)
             have HS1_ := (hb.cell (World.block_lt_of_cell? _ _ (hHeld.2.1))).trans (hHeld.2.1)
             have HS2_ := (hb.cell (World.block_lt_of_cell? _ _ (hHeld.2.2.1))).trans (hHeld.2.2.1)
             have HS3_ := (hb.cell (World.block_lt_of_cell? _ _ (hHeld.2.2.2.1))).trans (hHeld.2.2.2.1)
             have HS4_ := (hb.cell (World.block_lt_of_cell? _ _ (hHeld.2.2.2.2.1))).trans (hHeld.2.2.2.2.1)
             have HS5_ := (hb.cell (World.block_lt_of_cell? _ _ (hHeld.2.2.2.2.2.1))).trans (hHeld.2.2.2.2.2.1)
             have HS6_ := (hb.cell (World.block_lt_of_cell? _ _ (hHeld.2.2.2.2.2.2))).trans (hHeld.2.2.2.2.2.2)
             refine ⟨_, rfl, ?_⟩
             have n0_ := Aside0.mk (Kd.R_below (rowN HO_1.out) hb)
             have n1_ := Aside0.mk (below_step (belN HB.out) hb)
             clear HO_1
             clear HB
             have HO_1 := n0_
             have HB := n1_
             clear n0_ n1_
             (try clear hb)
             (try clear hk)
             refine hK.out _ _ ⟨HS0_, HS1_, HS2_, HS3_, HS4_, HS5_, HS6_⟩ (fun hHeld => ?_)
             clear hK K
             refine norm_ (a' := ?_) ?_ ?_
             rotate_left
             ·show Act.put _ (some 48) _ = _
              simp only [Act.put, List.setIfInBounds_toArray, List.set_cons_zero, List.set_cons_succ, i64_w, i32_w]
              rfl
             refine pA 26 (some 49) (bA 56 134217727) HT_.out ?_
             refine pA 27 (some 50) (bA 56 268435455) HT_.out ?_
             refine pA 28 (some 51) (bA 56 536870911) HT_.out ?_
             refine pA 29 (some 52) (bA 56 1073741823) HT_.out ?_
             refine pA 30 (some 53) (bA 56 2147483647) HT_.out ?_
             refine pA 31 (some 54) (bA 56 4294967295) HT_.out ?_
             refine pA 34 (some 57) (bA 56 21474836479) HT_.out ?_
             refine pA 35 (some 58) (bA 56 55834574847) HT_.out ?_
             refine pA 36 (some 59) (bA 56 124554051583) HT_.out ?_
             refine take_ (i := 32) (N := some 55) (v := ?_) (a' := ?_) (bA 56 128849018879) rfl rfl (take_ofW HT_.out HW_.out (by kernel_rfl)) (fun _ _ _ h => h) (Or.inl ⟨by rfl, ?_⟩) hHeld ?_ ?_
             rotate_left
             ·rintro w' ⟨s0, s1, s2, s3, s4, s5, s6⟩
              go_simp
              with_reducible rfl
             rotate_left
             ·simp only [Act.put, List.setIfInBounds_toArray, List.set_cons_zero, List.set_cons_succ, i64_w, i32_w]
              rfl
             refine pA 33 (some 56) (bA 56 137438953471) HT_.out ?_
             refine take_ (i := 37) (N := some 60) (v := ?_) (a' := ?_) (bA 56 274877906943) rfl rfl (take_ofW HT_.out HW_.out (by kernel_rfl)) (fun _ _ _ h => h) (Or.inl ⟨by rfl, ?_⟩) hHeld ?_ ?_
             rotate_left
             ·rintro w' ⟨s0, s1, s2, s3, s4, s5, s6⟩
              go_simp
              with_reducible rfl
             rotate_left
             ·simp only [Act.put, List.setIfInBounds_toArray, List.set_cons_zero, List.set_cons_succ, i64_w, i32_w]
              rfl
             refine pA 38 (some 61) (bA 56 549755813887) HT_.out ?_
             refine one_ (i := 39) (N := some 62) (bA 56 1099511627775) rfl rfl (one_of HT_.out (by kernel_rfl)) (by decide) (fun K hK => ?_)
             refine goes_ Try.func7 (by kernel_rfl) rfl #[.agg #[.int .i64 (rd y295 x2_1), .int .i64 1], .agg #[.int .i64 1, .int .i64 (rd y295 x3_2)]] (by rfl) rfl rfl argN ?_
             with_reducible refine (marigraphlaw1_two.calls k2 (rd y295 x2_1) 1 1 (rd y295 x3_2) false _ A13.out).mono ?_
             rintro e w30 ⟨rfl, hb⟩
             have HS0_ := (hb.cell (World.block_lt_of_cell? _ _ (hHeld.1))).trans (hHeld.1)
             have HS1_ := (hb.cell (World.block_lt_of_cell? _ _ (hHeld.2.1))).trans (hHeld.2.1)
             have HS2_ := (hb.cell (World.block_lt_of_cell? _ _ (hHeld.2.2.1))).trans (hHeld.2.2.1)
             have HS3_ := (hb.cell (World.block_lt_of_cell? _ _ (hHeld.2.2.2.1))).trans (hHeld.2.2.2.1)
             have HS4_ := (hb.cell (World.block_lt_of_cell? _ _ (hHeld.2.2.2.2.1))).trans (hHeld.2.2.2.2.1)
             have HS5_ := (hb.cell (World.block_lt_of_cell? _ _ (hHeld.2.2.2.2.2.1))).trans (hHeld.2.2.2.2.2.1)
             have HS6_ := (hb.cell (World.block_lt_of_cell? _ _ (hHeld.2.2.2.2.2.2))).trans (hHeld.2.2.2.2.2.2)
             refine ⟨_, rfl, ?_⟩
             have n0_ := Aside0.mk (Kd.R_below (rowN HO_1.out) hb)
             have n1_ := Aside0.mk (below_step (belN HB.out) hb)
             clear HO_1
             clear HB
             have HO_1 := n0_
             have HB := n1_
             clear n0_ n1_
             (try clear hb)
             (try clear hk)
             refine hK.out _ _ ⟨HS0_, HS1_, HS2_, HS3_, HS4_, HS5_, HS6_⟩ (fun hHeld => ?_)
             clear hK K
             refine norm_ (a' := ?_) ?_ ?_
             rotate_left
             ·show Act.put _ (some 62) _ = _
              simp only [Act.put, List.setIfInBounds_toArray, List.set_cons_zero, List.set_cons_succ, i64_w, i32_w]
              rfl
             refine pA 40 (some 63) (bA 56 2199023255551) HT_.out ?_
             refine pA 41 (some 64) (bA 56 4398046511103) HT_.out ?_
             refine pA 42 (some 65) (bA 56 8796093022207) HT_.out ?_
             refine pU 43 (some 66) (bA 56 17592186044415) HT_.out ?_
             refine pU 44 (some 67) (bA 56 35184372088831) HT_.out ?_
             refine pU 45 (some 68) (bA 56 70368744177663) HT_.out ?_
             refine pU 46 (some 69) (bA 56 140737488355327) HT_.out ?_
             refine pU 47 (some 70) (bA 56 281474976710655) HT_.out ?_
             refine pU 48 (some 71) (bA 56 562949953421311) HT_.out ?_
             refine pU 49 (some 72) (bA 56 1125899906842623) HT_.out ?_
             refine pU 50 (some 73) (bA 56 2251799813685247) HT_.out ?_
             refine pU 51 (some 74) (bA 56 4503599627370495) HT_.out ?_
             refine pU 52 (some 75) (bA 56 9007199254740991) HT_.out ?_
             refine pU 53 (some 76) (bA 56 18014398509481983) HT_.out ?_
             refine pU 54 (some 77) (bA 56 36028797018963967) HT_.out ?_
             refine pA 55 (some 78) (bA 56 72057594037927935) HT_.out ?_
             refine done_ (done_of HT_.out (by kernel_rfl)) ?_
             try go_wp2
             go_ret
             exact ⟨by first | rfl | (simp [errW_none, errW_some] <;> rfl) | (simp [*, errW_none, errW_some] <;> rfl), (belN HB.out)⟩
           ·replace c12 := Bool.eq_false_iff.mpr c12
            subst c12
            have H1 : (some false) = some r := by rw [if_neg (show ¬ (false = true) by decide)] at H; exact H
            clear H
            have H := H1
            clear H1
            obtain rfl := Option.some.inj H
            try go_wp2
            have n0_ := Aside0.mk (Kd.R_drew HO_1.out)
            have n1_ := Aside0.mk (below_drew1 HB.out)
            clear HO_1
            clear HB
            have HO_1 := n0_
            have HB := n1_
            clear n0_ n1_
            have p298 : 0 ≤ (x2_1 : Int) := of_decide_eq_true (by first | (with_reducible assumption) | assumption)
            have q298 : x2_1 < (y295.length : Int) := of_decide_eq_true (by first | (with_reducible assumption) | assumption)
            obtain ⟨ad298, e298, hx298_0⟩ := Kd.at_int (Kd.R_reads' HO_1.out).2.2 x2_1 p298 q298
            cases e298
            replace p298 := eq_true p298
            replace q298 := eq_true q298
            have p299 : 0 ≤ (x3_2 : Int) := of_decide_eq_true (by first | (with_reducible assumption) | assumption)
            have q299 : x3_2 < (y295.length : Int) := of_decide_eq_true (by first | (with_reducible assumption) | assumption)
            obtain ⟨ad299, e299, hx299_0⟩ := Kd.at_int (Kd.R_reads' HO_1.out).2.2 x3_2 p299 q299
            obtain rfl : ad298 = ad299 := (by injection e299)
            replace p299 := eq_true p299
            replace q299 := eq_true q299
            have p301 : 0 ≤ (x2_1 : Int) := of_decide_eq_true (by first | (with_reducible assumption) | assumption)
            have q301 : x2_1 < (y295.length : Int) := of_decide_eq_true (by first | (with_reducible assumption) | assumption)
            obtain ⟨ad301, e301, hx301_0⟩ := Kd.at_int (Kd.R_reads' HO_1.out).2.2 x2_1 p301 q301
            obtain rfl : ad298 = ad301 := (by injection e301)
            replace p301 := eq_true p301
            replace q301 := eq_true q301
            have p302 : 0 ≤ (x3_2 : Int) := of_decide_eq_true (by first | (with_reducible assumption) | assumption)
            have q302 : x3_2 < (y295.length : Int) := of_decide_eq_true (by first | (with_reducible assumption) | assumption)
            obtain ⟨ad302, e302, hx302_0⟩ := Kd.at_int (Kd.R_reads' HO_1.out).2.2 x3_2 p302 q302
            obtain rfl : ad298 = ad302 := (by injection e302)
            replace p302 := eq_true p302
            replace q302 := eq_true q302
            have p303 : 0 ≤ (x3_2 : Int) := of_decide_eq_true (by first | (with_reducible assumption) | assumption)
            have q303 : x3_2 < (y295.length : Int) := of_decide_eq_true (by first | (with_reducible assumption) | assumption)
            obtain ⟨ad303, e303, hx303_0⟩ := Kd.at_int (Kd.R_reads' HO_1.out).2.2 x3_2 p303 q303
            obtain rfl : ad298 = ad303 := (by injection e303)
            replace p303 := eq_true p303
            replace q303 := eq_true q303
            refine start_ (n := 56) (S := fun w' => w'.cell? (ad298.add (x2_1).toNat) = some (.int .i64 (rd y295 x2_1)) ∧ w'.cell? (ad298.add (x3_2).toNat) = some (.int .i64 (rd y295 x3_2)) ∧ w'.cell? (ad298.add (x2_1).toNat) = some (.int .i64 (rd y295 x2_1)) ∧ w'.cell? (ad298.add (x3_2).toNat) = some (.int .i64 (rd y295 x3_2)) ∧ w'.cell? (ad298.add (x3_2).toNat) = some (.int .i64 (rd y295 x3_2))) (ds := []) #[false, false, false, false, false, false, false, false, false, false, false, false, false, false, false, false, false, false, false, false, false, false, false, false, false, false, false, false, false, false, false, false, false, false, false, false, false, false, false, false, false, false, false, false, false, false, false, false, false, false, false, false, false, false, false, false] (by kernel_rfl) rfl rfl ⟨hx298_0, hx299_0, hx301_0, hx302_0, hx303_0⟩ (fun hHeld => ?_); refine with_tabW marigraphlaw1_RatNumbers.tab8 marigraphlaw1_RatNumbers.bits8 (fun HT_ HW_ => ?_)
            generalize wr.drew = w31 at HO_1 HB hx298_0 hx299_0 hx301_0 hx302_0 hx303_0 hHeld ⊢
            refine pA 0 (some 23) (bA 56 1) HT_.out ?_
            refine pA 1 (some 24) (bA 56 3) HT_.out ?_
            refine pA 2 (some 25) (bA 56 7) HT_.out ?_
            refine pA 4 (some 27) (bA 56 23) HT_.out ?_
            refine pA 5 (some 28) (bA 56 55) HT_.out ?_
            refine pA 6 (some 29) (bA 56 119) HT_.out ?_
            refine take_ (i := 3) (N := some 26) (v := ?_) (a' := ?_) (bA 56 127) rfl rfl (take_ofW HT_.out HW_.out (by kernel_rfl)) (fun _ _ _ h => h) (Or.inl ⟨by rfl, ?_⟩) hHeld ?_ ?_
            rotate_left
            ·rintro w' ⟨s0, s1, s2, s3, s4⟩
             go_simp
             with_reducible rfl
            rotate_left
            ·simp only [Act.put, List.setIfInBounds_toArray, List.set_cons_zero, List.set_cons_succ, i64_w, i32_w]
             rfl
            refine take_ (i := 7) (N := some 30) (v := ?_) (a' := ?_) (bA 56 255) rfl rfl (take_ofW HT_.out HW_.out (by kernel_rfl)) (fun _ _ _ h => h) (Or.inl ⟨by rfl, ?_⟩) hHeld ?_ ?_
            rotate_left
            ·rintro w' ⟨s0, s1, s2, s3, s4⟩
             go_simp
             with_reducible rfl
            rotate_left
            ·simp only [Act.put, List.setIfInBounds_toArray, List.set_cons_zero, List.set_cons_succ, i64_w, i32_w]
             rfl
            refine one_ (i := 8) (N := some 31) (bA 56 511) rfl rfl (one_of HT_.out (by kernel_rfl)) (by decide) (fun K hK => ?_)
            refine goes_ Try.func8 (by kernel_rfl) rfl #[.int .i64 (rd y295 x2_1), .int .i64 (rd y295 x3_2)] (by rfl) rfl rfl argN ?_
            with_reducible refine (marigraphlaw1_news.calls k2 (rd y295 x2_1) (rd y295 x3_2) true _ A9.out).mono ?_
            rintro e w32 ⟨rfl, hb⟩
            have HS0_ := (hb.cell (World.block_lt_of_cell? _ _ (hHeld.1))).trans (hHeld.1)
            have HS1_ := (hb.cell (World.block_lt_of_cell? _ _ (hHeld.2.1))).trans (hHeld.2.1)
            have HS2_ := (hb.cell (World.block_lt_of_cell? _ _ (hHeld.2.2.1))).trans (hHeld.2.2.1)
            have HS3_ := (hb.cell (World.block_lt_of_cell? _ _ (hHeld.2.2.2.1))).trans (hHeld.2.2.2.1)
            have HS4_ := (hb.cell (World.block_lt_of_cell? _ _ (hHeld.2.2.2.2))).trans (hHeld.2.2.2.2)
            refine ⟨_, rfl, ?_⟩
            have n0_ := Aside0.mk (Kd.R_below (rowN HO_1.out) hb)
            have n1_ := Aside0.mk (below_step (belN HB.out) hb)
            clear HO_1
            clear HB
            have HO_1 := n0_
            have HB := n1_
            clear n0_ n1_
            (try clear hb)
            (try clear hk)
            refine hK.out _ _ ⟨HS0_, HS1_, HS2_, HS3_, HS4_⟩ (fun hHeld => ?_)
            clear hK K
            refine norm_ (a' := ?_) ?_ ?_
            rotate_left
            ·show Act.put _ (some 31) _ = _
             simp only [Act.put, List.setIfInBounds_toArray, List.set_cons_zero, List.set_cons_succ, i64_w, i32_w]
             rfl
            refine pA 9 (some 32) (bA 56 1023) HT_.out ?_
            refine pA 10 (some 33) (bA 56 2047) HT_.out ?_
            refine pA 11 (some 34) (bA 56 4095) HT_.out ?_
            refine pA 12 (some 35) (bA 56 8191) HT_.out ?_
            refine pA 13 (some 36) (bA 56 16383) HT_.out ?_
            refine pA 15 (some 38) (bA 56 49151) HT_.out ?_
            refine pA 16 (some 39) (bA 56 114687) HT_.out ?_
            refine pA 17 (some 40) (bA 56 245759) HT_.out ?_
            refine pA 20 (some 43) (bA 56 1294335) HT_.out ?_
            refine pA 21 (some 44) (bA 56 3391487) HT_.out ?_
            refine pA 22 (some 45) (bA 56 7585791) HT_.out ?_
            refine take_ (i := 14) (N := some 37) (v := ?_) (a' := ?_) (bA 56 7602175) rfl rfl (take_ofW HT_.out HW_.out (by kernel_rfl)) (fun _ _ _ h => h) (Or.inl ⟨by rfl, ?_⟩) hHeld ?_ ?_
            rotate_left
            ·rintro w' ⟨s0, s1, s2, s3, s4⟩
             go_simp
             with_reducible rfl
            rotate_left
            ·simp only [Act.put, List.setIfInBounds_toArray, List.set_cons_zero, List.set_cons_succ, i64_w, i32_w]
             rfl
            refine take_ (i := 18) (N := some 41) (v := ?_) (a' := ?_) (bA 56 7864319) rfl rfl (take_ofW HT_.out HW_.out (by kernel_rfl)) (fun _ _ _ h => h) (Or.inl ⟨by rfl, ?_⟩) hHeld ?_ ?_
            rotate_left
            ·rintro w' ⟨s0, s1, s2, s3, s4⟩
             go_simp
             with_reducible rfl
            rotate_left
            ·simp only [Act.put, List.setIfInBounds_toArray, List.set_cons_zero, List.set_cons_succ, i64_w, i32_w]
             rfl
            refine pA 19 (some 42) (bA 56 8388607) HT_.out ?_
            refine take_ (i := 23) (N := some 46) (v := ?_) (a' := ?_) (bA 56 16777215) rfl rfl (take_ofW HT_.out HW_.out (by kernel_rfl)) (fun _ _ _ h => h) (Or.inl ⟨by rfl, ?_⟩) hHeld ?_ ?_
            rotate_left
            ·rintro w' ⟨s0, s1, s2, s3, s4⟩
             go_simp
             with_reducible rfl
            rotate_left
            ·simp only [Act.put, List.setIfInBounds_toArray, List.set_cons_zero, List.set_cons_succ, i64_w, i32_w]
             rfl
            refine pA 24 (some 47) (bA 56 33554431) HT_.out ?_
            refine one_ (i := 25) (N := some 48) (bA 56 67108863) rfl rfl (one_of HT_.out (by kernel_rfl)) (by decide) (fun K hK => ?_)
            refine goes_ Try.func7 (by kernel_rfl) rfl #[.agg #[.int .i64 (rd y295 x2_1), .int .i64 (rd y295 x3_2)], .agg #[.int .i64 (rd y295 x3_2), .int .i64 1]] (by rfl) rfl rfl argN ?_
            with_reducible refine (marigraphlaw1_two.calls k2 (rd y295 x2_1) (rd y295 x3_2) (rd y295 x3_2) 1 false _ A11.out).mono ?_
            rintro e w33 ⟨rfl, hb⟩
            have HS0_ := (hb.cell (World.block_lt_of_cell? _ _ (hHeld.1))).trans (hHeld.1)
            have HS1_ := (hb.cell (World.block_lt_of_cell? _ _ (hHeld.2.1))).trans (hHeld.2.1)
            have HS2_ := (hb.cell (World.block_lt_of_cell? _ _ (hHeld.2.2.1))).trans (hHeld.2.2.1)
            have HS3_ := (hb.cell (World.block_lt_of_cell? _ _ (hHeld.2.2.2.1))).trans (hHeld.2.2.2.1)
            have HS4_ := (hb.cell (World.block_lt_of_cell? _ _ (hHeld.2.2.2.2))).trans (hHeld.2.2.2.2)
            refine ⟨_, rfl, ?_⟩
            have n0_ := Aside0.mk (Kd.R_below (rowN HO_1.out) hb)
            have n1_ := Aside0.mk (below_step (belN HB.out) hb)
            clear HO_1
            clear HB
            have HO_1 := n0_
            have HB := n1_
            clear n0_ n1_
            (try clear hb)
            (try clear hk)
            refine hK.out _ _ ⟨HS0_, HS1_, HS2_, HS3_, HS4_⟩ (fun hHeld => ?_)
            clear hK K
            refine norm_ (a' := ?_) ?_ ?_
            rotate_left
            ·show Act.put _ (some 48) _ = _
             simp only [Act.put, List.setIfInBounds_toArray, List.set_cons_zero, List.set_cons_succ, i64_w, i32_w]
             rfl
            refine pA 26 (some 49) (bA 56 134217727) HT_.out ?_
            refine pA 27 (some 50) (bA 56 268435455) HT_.out ?_
            refine pA 28 (some 51) (bA 56 536870911) HT_.out ?_
            refine pU 29 (some 52) (bA 56 1073741823) HT_.out ?_
            refine pU 30 (some 53) (bA 56 2147483647) HT_.out ?_
            refine pU 31 (some 54) (bA 56 4294967295) HT_.out ?_
            refine pU 32 (some 55) (bA 56 8589934591) HT_.out ?_
            refine pU 33 (some 56) (bA 56 17179869183) HT_.out ?_
            refine pU 34 (some 57) (bA 56 34359738367) HT_.out ?_
            refine pU 35 (some 58) (bA 56 68719476735) HT_.out ?_
            refine pU 36 (some 59) (bA 56 137438953471) HT_.out ?_
            refine pU 37 (some 60) (bA 56 274877906943) HT_.out ?_
            refine pU 38 (some 61) (bA 56 549755813887) HT_.out ?_
            refine pU 39 (some 62) (bA 56 1099511627775) HT_.out ?_
            refine pU 40 (some 63) (bA 56 2199023255551) HT_.out ?_
            refine pA 41 (some 64) (bA 56 4398046511103) HT_.out ?_
            refine pA 42 (some 65) (bA 56 8796093022207) HT_.out ?_
            refine pU 43 (some 66) (bA 56 17592186044415) HT_.out ?_
            refine pU 44 (some 67) (bA 56 35184372088831) HT_.out ?_
            refine pU 45 (some 68) (bA 56 70368744177663) HT_.out ?_
            refine pU 46 (some 69) (bA 56 140737488355327) HT_.out ?_
            refine pU 47 (some 70) (bA 56 281474976710655) HT_.out ?_
            refine pU 48 (some 71) (bA 56 562949953421311) HT_.out ?_
            refine pU 49 (some 72) (bA 56 1125899906842623) HT_.out ?_
            refine pU 50 (some 73) (bA 56 2251799813685247) HT_.out ?_
            refine pU 51 (some 74) (bA 56 4503599627370495) HT_.out ?_
            refine pU 52 (some 75) (bA 56 9007199254740991) HT_.out ?_
            refine pU 53 (some 76) (bA 56 18014398509481983) HT_.out ?_
            refine pU 54 (some 77) (bA 56 36028797018963967) HT_.out ?_
            refine pA 55 (some 78) (bA 56 72057594037927935) HT_.out ?_
            refine done_ (done_of HT_.out (by kernel_rfl)) ?_
            try go_wp2
            go_ret
            exact ⟨by first | rfl | (simp [errW_none, errW_some] <;> rfl) | (simp [*, errW_none, errW_some] <;> rfl), (belN HB.out)⟩
          ·replace c10 := Bool.eq_false_iff.mpr c10
           subst c10
           have H1 : (some false) = some r := by rw [if_neg (show ¬ (false = true) by decide)] at H; exact H
           clear H
           have H := H1
           clear H1
           obtain rfl := Option.some.inj H
           try go_wp2
           have n0_ := Aside0.mk (Kd.R_drew HO_1.out)
           have n1_ := Aside0.mk (below_drew1 HB.out)
           clear HO_1
           clear HB
           have HO_1 := n0_
           have HB := n1_
           clear n0_ n1_
           have p298 : 0 ≤ (x2_1 : Int) := of_decide_eq_true (by first | (with_reducible assumption) | assumption)
           have q298 : x2_1 < (y295.length : Int) := of_decide_eq_true (by first | (with_reducible assumption) | assumption)
           obtain ⟨ad298, e298, hx298_0⟩ := Kd.at_int (Kd.R_reads' HO_1.out).2.2 x2_1 p298 q298
           cases e298
           replace p298 := eq_true p298
           replace q298 := eq_true q298
           have p299 : 0 ≤ (x3_2 : Int) := of_decide_eq_true (by first | (with_reducible assumption) | assumption)
           have q299 : x3_2 < (y295.length : Int) := of_decide_eq_true (by first | (with_reducible assumption) | assumption)
           obtain ⟨ad299, e299, hx299_0⟩ := Kd.at_int (Kd.R_reads' HO_1.out).2.2 x3_2 p299 q299
           obtain rfl : ad298 = ad299 := (by injection e299)
           replace p299 := eq_true p299
           replace q299 := eq_true q299
           refine start_ (n := 56) (S := fun w' => w'.cell? (ad298.add (x2_1).toNat) = some (.int .i64 (rd y295 x2_1)) ∧ w'.cell? (ad298.add (x3_2).toNat) = some (.int .i64 (rd y295 x3_2))) (ds := []) #[false, false, false, false, false, false, false, false, false, false, false, false, false, false, false, false, false, false, false, false, false, false, false, false, false, false, false, false, false, false, false, false, false, false, false, false, false, false, false, false, false, false, false, false, false, false, false, false, false, false, false, false, false, false, false, false] (by kernel_rfl) rfl rfl ⟨hx298_0, hx299_0⟩ (fun hHeld => ?_); refine with_tabW marigraphlaw1_RatNumbers.tab8 marigraphlaw1_RatNumbers.bits8 (fun HT_ HW_ => ?_)
           generalize wr.drew = w34 at HO_1 HB hx298_0 hx299_0 hHeld ⊢
           refine pA 0 (some 23) (bA 56 1) HT_.out ?_
           refine pA 1 (some 24) (bA 56 3) HT_.out ?_
           refine pA 2 (some 25) (bA 56 7) HT_.out ?_
           refine pA 4 (some 27) (bA 56 23) HT_.out ?_
           refine pA 5 (some 28) (bA 56 55) HT_.out ?_
           refine pA 6 (some 29) (bA 56 119) HT_.out ?_
           refine take_ (i := 3) (N := some 26) (v := ?_) (a' := ?_) (bA 56 127) rfl rfl (take_ofW HT_.out HW_.out (by kernel_rfl)) (fun _ _ _ h => h) (Or.inl ⟨by rfl, ?_⟩) hHeld ?_ ?_
           rotate_left
           ·rintro w' ⟨s0, s1⟩
            go_simp
            with_reducible rfl
           rotate_left
           ·simp only [Act.put, List.setIfInBounds_toArray, List.set_cons_zero, List.set_cons_succ, i64_w, i32_w]
            rfl
           refine take_ (i := 7) (N := some 30) (v := ?_) (a' := ?_) (bA 56 255) rfl rfl (take_ofW HT_.out HW_.out (by kernel_rfl)) (fun _ _ _ h => h) (Or.inl ⟨by rfl, ?_⟩) hHeld ?_ ?_
           rotate_left
           ·rintro w' ⟨s0, s1⟩
            go_simp
            with_reducible rfl
           rotate_left
           ·simp only [Act.put, List.setIfInBounds_toArray, List.set_cons_zero, List.set_cons_succ, i64_w, i32_w]
            rfl
           refine one_ (i := 8) (N := some 31) (bA 56 511) rfl rfl (one_of HT_.out (by kernel_rfl)) (by decide) (fun K hK => ?_)
           refine goes_ Try.func8 (by kernel_rfl) rfl #[.int .i64 (rd y295 x2_1), .int .i64 (rd y295 x3_2)] (by rfl) rfl rfl argN ?_
           with_reducible refine (marigraphlaw1_news.calls k2 (rd y295 x2_1) (rd y295 x3_2) false _ A9.out).mono ?_
           rintro e w35 ⟨rfl, hb⟩
           have HS0_ := (hb.cell (World.block_lt_of_cell? _ _ (hHeld.1))).trans (hHeld.1)
           have HS1_ := (hb.cell (World.block_lt_of_cell? _ _ (hHeld.2))).trans (hHeld.2)
           refine ⟨_, rfl, ?_⟩
           have n0_ := Aside0.mk (Kd.R_below (rowN HO_1.out) hb)
           have n1_ := Aside0.mk (below_step (belN HB.out) hb)
           clear HO_1
           clear HB
           have HO_1 := n0_
           have HB := n1_
           clear n0_ n1_
           (try clear hb)
           (try clear hk)
           refine hK.out _ _ ⟨HS0_, HS1_⟩ (fun hHeld => ?_)
           clear hK K
           refine norm_ (a' := ?_) ?_ ?_
           rotate_left
           ·show Act.put _ (some 31) _ = _
            simp only [Act.put, List.setIfInBounds_toArray, List.set_cons_zero, List.set_cons_succ, i64_w, i32_w]
            rfl
           refine pA 9 (some 32) (bA 56 1023) HT_.out ?_
           refine pA 10 (some 33) (bA 56 2047) HT_.out ?_
           refine pU 11 (some 34) (bA 56 4095) HT_.out ?_
           refine pU 12 (some 35) (bA 56 8191) HT_.out ?_
           refine pU 13 (some 36) (bA 56 16383) HT_.out ?_
           refine pU 14 (some 37) (bA 56 32767) HT_.out ?_
           refine pU 15 (some 38) (bA 56 65535) HT_.out ?_
           refine pU 16 (some 39) (bA 56 131071) HT_.out ?_
           refine pU 17 (some 40) (bA 56 262143) HT_.out ?_
           refine pU 18 (some 41) (bA 56 524287) HT_.out ?_
           refine pU 19 (some 42) (bA 56 1048575) HT_.out ?_
           refine pU 20 (some 43) (bA 56 2097151) HT_.out ?_
           refine pU 21 (some 44) (bA 56 4194303) HT_.out ?_
           refine pU 22 (some 45) (bA 56 8388607) HT_.out ?_
           refine pU 23 (some 46) (bA 56 16777215) HT_.out ?_
           refine pU 24 (some 47) (bA 56 33554431) HT_.out ?_
           refine pU 25 (some 48) (bA 56 67108863) HT_.out ?_
           refine pU 26 (some 49) (bA 56 134217727) HT_.out ?_
           refine pA 27 (some 50) (bA 56 268435455) HT_.out ?_
           refine pA 28 (some 51) (bA 56 536870911) HT_.out ?_
           refine pU 29 (some 52) (bA 56 1073741823) HT_.out ?_
           refine pU 30 (some 53) (bA 56 2147483647) HT_.out ?_
           refine pU 31 (some 54) (bA 56 4294967295) HT_.out ?_
           refine pU 32 (some 55) (bA 56 8589934591) HT_.out ?_
           refine pU 33 (some 56) (bA 56 17179869183) HT_.out ?_
           refine pU 34 (some 57) (bA 56 34359738367) HT_.out ?_
           refine pU 35 (some 58) (bA 56 68719476735) HT_.out ?_
           refine pU 36 (some 59) (bA 56 137438953471) HT_.out ?_
           refine pU 37 (some 60) (bA 56 274877906943) HT_.out ?_
           refine pU 38 (some 61) (bA 56 549755813887) HT_.out ?_
           refine pU 39 (some 62) (bA 56 1099511627775) HT_.out ?_
           refine pU 40 (some 63) (bA 56 2199023255551) HT_.out ?_
           refine pA 41 (some 64) (bA 56 4398046511103) HT_.out ?_
           refine pA 42 (some 65) (bA 56 8796093022207) HT_.out ?_
           refine pU 43 (some 66) (bA 56 17592186044415) HT_.out ?_
           refine pU 44 (some 67) (bA 56 35184372088831) HT_.out ?_
           refine pU 45 (some 68) (bA 56 70368744177663) HT_.out ?_
           refine pU 46 (some 69) (bA 56 140737488355327) HT_.out ?_
           refine pU 47 (some 70) (bA 56 281474976710655) HT_.out ?_
           refine pU 48 (some 71) (bA 56 562949953421311) HT_.out ?_
           refine pU 49 (some 72) (bA 56 1125899906842623) HT_.out ?_
           refine pU 50 (some 73) (bA 56 2251799813685247) HT_.out ?_
           refine pU 51 (some 74) (bA 56 4503599627370495) HT_.out ?_
           refine pU 52 (some 75) (bA 56 9007199254740991) HT_.out ?_
           refine pU 53 (some 76) (bA 56 18014398509481983) HT_.out ?_
           refine pU 54 (some 77) (bA 56 36028797018963967) HT_.out ?_
           refine pA 55 (some 78) (bA 56 72057594037927935) HT_.out ?_
           refine done_ (done_of HT_.out (by kernel_rfl)) ?_
           try go_wp2
           go_ret
           exact ⟨by first | rfl | (simp [errW_none, errW_some] <;> rfl) | (simp [*, errW_none, errW_some] <;> rfl), (belN HB.out)⟩
         ·rw [if_neg c8] at H
          exact absurd H (by simp)
        ·rw [if_neg c7] at H
         exact absurd H (by simp)
       ·rw [if_neg c6] at H
        exact absurd H (by simp)
      ·rw [if_neg c5] at H
       have c5b0 : decide (x3_2 < (y295.length : Int)) = false := decide_eq_false c5
       clear c5
       have H' := Aside0.mk H
       clear H
       go_wp2
       go_roundg k2
       case measure => have := HK1.out; have := HK2.out; omega
       case rel => exact ⟨(wrap64 (x2_1 + 1)), (by first | rfl | (simp; done) | (simp [*]; done)), H', ⟨by have := HK1.out; have := HK2.out; omega⟩, ⟨(rowN HO_1.out)⟩, ⟨(belN HB.out)⟩⟩
   ·rw [if_neg c3] at H
    have c3b0 : decide (x2_1 < (y295.length : Int)) = false := decide_eq_false c3
    clear c3
    obtain ⟨y311, hy311⟩ : ∃ y_ : List ByteArray, y_ = (([(⟨#[]⟩ : ByteArray), (⟨#[45]⟩ : ByteArray), (⟨#[48]⟩ : ByteArray), (⟨#[45, 48]⟩ : ByteArray), (⟨#[48, 48]⟩ : ByteArray), (⟨#[49, 47, 50]⟩ : ByteArray), (⟨#[50, 47, 52]⟩ : ByteArray), (⟨#[49, 47, 49]⟩ : ByteArray), (⟨#[49, 47, 48]⟩ : ByteArray), (⟨#[45, 49, 47, 50]⟩ : ByteArray), (⟨#[49, 47, 45, 50]⟩ : ByteArray), (⟨#[50, 49, 52, 55, 52, 56, 51, 54, 52, 55]⟩ : ByteArray), (⟨#[50, 49, 52, 55, 52, 56, 51, 54, 52, 56]⟩ : ByteArray), (⟨#[45, 50, 49, 52, 55, 52, 56, 51, 54, 52, 55, 47, 50, 49, 52, 55, 52, 56, 51, 54, 52, 54]⟩ : ByteArray), (⟨#[49, 47, 50, 49, 52, 55, 52, 56, 51, 54, 52, 56]⟩ : ByteArray), (⟨#[57, 50, 50, 51, 51, 55, 50, 48, 51, 54, 56, 53, 52, 55, 55, 53, 56, 48, 56]⟩ : ByteArray), (⟨#[57, 57, 57, 57, 57, 57, 57, 57, 57, 57, 57, 57, 57, 57, 57, 57, 57, 57, 57, 57]⟩ : ByteArray), (⟨#[49, 47, 50, 47, 51]⟩ : ByteArray), (⟨#[47]⟩ : ByteArray), (⟨#[97]⟩ : ByteArray), (⟨#[49, 47]⟩ : ByteArray), (⟨#[47, 50]⟩ : ByteArray), (⟨#[32, 49]⟩ : ByteArray)] : List ByteArray)) := ⟨_, rfl⟩
    replace H : (marigraphlaw1_RatNumbers.l2 k1 y311 (y311.length : Int) 0) = some r := by first | (rw [hy311]; with_reducible exact H) | (have H2_ := (Option.bind_some _ _).symm.trans H; rw [hy311]; with_reducible exact H2_) | (have H2_ := (Option.bind_some _ _).symm.trans H; with_reducible exact H2_) | with_reducible exact H | (rw [hy311]; exact H) | exact H
    have Ny311 := Aside0.mk hy311
    clear hy311
    have H' := Aside0.mk H
    clear H
    obtain ⟨Ao36, co36, eo36⟩ := Kd.R_slice HO_1.out
    subst eo36
    go_wp2_with (first | ((with_reducible refine gate_dst (N := 79) rfl ?_); refine Kd.R_lit Kd.string _ 9 ?hg (N := 79) ?hd (xs := ([(⟨#[]⟩ : ByteArray), (⟨#[45]⟩ : ByteArray), (⟨#[48]⟩ : ByteArray), (⟨#[45, 48]⟩ : ByteArray), (⟨#[48, 48]⟩ : ByteArray), (⟨#[49, 47, 50]⟩ : ByteArray), (⟨#[50, 47, 52]⟩ : ByteArray), (⟨#[49, 47, 49]⟩ : ByteArray), (⟨#[49, 47, 48]⟩ : ByteArray), (⟨#[45, 49, 47, 50]⟩ : ByteArray), (⟨#[49, 47, 45, 50]⟩ : ByteArray), (⟨#[50, 49, 52, 55, 52, 56, 51, 54, 52, 55]⟩ : ByteArray), (⟨#[50, 49, 52, 55, 52, 56, 51, 54, 52, 56]⟩ : ByteArray), (⟨#[45, 50, 49, 52, 55, 52, 56, 51, 54, 52, 55, 47, 50, 49, 52, 55, 52, 56, 51, 54, 52, 54]⟩ : ByteArray), (⟨#[49, 47, 50, 49, 52, 55, 52, 56, 51, 54, 52, 56]⟩ : ByteArray), (⟨#[57, 50, 50, 51, 51, 55, 50, 48, 51, 54, 56, 53, 52, 55, 55, 53, 56, 48, 56]⟩ : ByteArray), (⟨#[57, 57, 57, 57, 57, 57, 57, 57, 57, 57, 57, 57, 57, 57, 57, 57, 57, 57, 57, 57]⟩ : ByteArray), (⟨#[49, 47, 50, 47, 51]⟩ : ByteArray), (⟨#[47]⟩ : ByteArray), (⟨#[97]⟩ : ByteArray), (⟨#[49, 47]⟩ : ByteArray), (⟨#[47, 50]⟩ : ByteArray), (⟨#[32, 49]⟩ : ByteArray)] : List ByteArray)) (inner := [.string (⟨#[]⟩ : ByteArray), .string (⟨#[45]⟩ : ByteArray), .string (⟨#[48]⟩ : ByteArray), .string (⟨#[45, 48]⟩ : ByteArray), .string (⟨#[48, 48]⟩ : ByteArray), .string (⟨#[49, 47, 50]⟩ : ByteArray), .string (⟨#[50, 47, 52]⟩ : ByteArray), .string (⟨#[49, 47, 49]⟩ : ByteArray), .string (⟨#[49, 47, 48]⟩ : ByteArray), .string (⟨#[45, 49, 47, 50]⟩ : ByteArray), .string (⟨#[49, 47, 45, 50]⟩ : ByteArray), .string (⟨#[50, 49, 52, 55, 52, 56, 51, 54, 52, 55]⟩ : ByteArray), .string (⟨#[50, 49, 52, 55, 52, 56, 51, 54, 52, 56]⟩ : ByteArray), .string (⟨#[45, 50, 49, 52, 55, 52, 56, 51, 54, 52, 55, 47, 50, 49, 52, 55, 52, 56, 51, 54, 52, 54]⟩ : ByteArray), .string (⟨#[49, 47, 50, 49, 52, 55, 52, 56, 51, 54, 52, 56]⟩ : ByteArray), .string (⟨#[57, 50, 50, 51, 51, 55, 50, 48, 51, 54, 56, 53, 52, 55, 55, 53, 56, 48, 56]⟩ : ByteArray), .string (⟨#[57, 57, 57, 57, 57, 57, 57, 57, 57, 57, 57, 57, 57, 57, 57, 57, 57, 57, 57, 57]⟩ : ByteArray), .string (⟨#[49, 47, 50, 47, 51]⟩ : ByteArray), .string (⟨#[47]⟩ : ByteArray), .string (⟨#[97]⟩ : ByteArray), .string (⟨#[49, 47]⟩ : ByteArray), .string (⟨#[47, 50]⟩ : ByteArray), .string (⟨#[32, 49]⟩ : ByteArray)]) (ok := fun _ => True) (okp := fun _ => True) ?hr ?hp (fun _ hk => hk) trivial (Below.refl _ _) (Nat.le_refl _) (by simp) ?_; (case hd => rfl); (case hg => rfl); (case hr => first | (go_simp; done) | (go_simp; rfl)); (case hp => exact (Reps.one (show Kd.M Kd.string _ _ _ (⟨#[]⟩ : ByteArray) [.string (⟨#[]⟩ : ByteArray)] from rfl) (Reps.one (show Kd.M Kd.string _ _ _ (⟨#[45]⟩ : ByteArray) [.string (⟨#[45]⟩ : ByteArray)] from rfl) (Reps.one (show Kd.M Kd.string _ _ _ (⟨#[48]⟩ : ByteArray) [.string (⟨#[48]⟩ : ByteArray)] from rfl) (Reps.one (show Kd.M Kd.string _ _ _ (⟨#[45, 48]⟩ : ByteArray) [.string (⟨#[45, 48]⟩ : ByteArray)] from rfl) (Reps.one (show Kd.M Kd.string _ _ _ (⟨#[48, 48]⟩ : ByteArray) [.string (⟨#[48, 48]⟩ : ByteArray)] from rfl) (Reps.one (show Kd.M Kd.string _ _ _ (⟨#[49, 47, 50]⟩ : ByteArray) [.string (⟨#[49, 47, 50]⟩ : ByteArray)] from rfl) (Reps.one (show Kd.M Kd.string _ _ _ (⟨#[50, 47, 52]⟩ : ByteArray) [.string (⟨#[50, 47, 52]⟩ : ByteArray)] from rfl) (Reps.one (show Kd.M Kd.string _ _ _ (⟨#[49, 47, 49]⟩ : ByteArray) [.string (⟨#[49, 47, 49]⟩ : ByteArray)] from rfl) (Reps.one (show Kd.M Kd.string _ _ _ (⟨#[49, 47, 48]⟩ : ByteArray) [.string (⟨#[49, 47, 48]⟩ : ByteArray)] from rfl) (Reps.one (show Kd.M Kd.string _ _ _ (⟨#[45, 49, 47, 50]⟩ : ByteArray) [.string (⟨#[45, 49, 47, 50]⟩ : ByteArray)] from rfl) (Reps.one (show Kd.M Kd.string _ _ _ (⟨#[49, 47, 45, 50]⟩ : ByteArray) [.string (⟨#[49, 47, 45, 50]⟩ : ByteArray)] from rfl) (Reps.one (show Kd.M Kd.string _ _ _ (⟨#[50, 49, 52, 55, 52, 56, 51, 54, 52, 55]⟩ : ByteArray) [.string (⟨#[50, 49, 52, 55, 52, 56, 51, 54, 52, 55]⟩ : ByteArray)] from rfl) (Reps.one (show Kd.M Kd.string _ _ _ (⟨#[50, 49, 52, 55, 52, 56, 51, 54, 52, 56]⟩ : ByteArray) [.string (⟨#[50, 49, 52, 55, 52, 56, 51, 54, 52, 56]⟩ : ByteArray)] from rfl) (Reps.one (show Kd.M Kd.string _ _ _ (⟨#[45, 50, 49, 52, 55, 52, 56, 51, 54, 52, 55, 47, 50, 49, 52, 55, 52, 56, 51, 54, 52, 54]⟩ : ByteArray) [.string (⟨#[45, 50, 49, 52, 55, 52, 56, 51, 54, 52, 55, 47, 50, 49, 52, 55, 52, 56, 51, 54, 52, 54]⟩ : ByteArray)] from rfl) (Reps.one (show Kd.M Kd.string _ _ _ (⟨#[49, 47, 50, 49, 52, 55, 52, 56, 51, 54, 52, 56]⟩ : ByteArray) [.string (⟨#[49, 47, 50, 49, 52, 55, 52, 56, 51, 54, 52, 56]⟩ : ByteArray)] from rfl) (Reps.one (show Kd.M Kd.string _ _ _ (⟨#[57, 50, 50, 51, 51, 55, 50, 48, 51, 54, 56, 53, 52, 55, 55, 53, 56, 48, 56]⟩ : ByteArray) [.string (⟨#[57, 50, 50, 51, 51, 55, 50, 48, 51, 54, 56, 53, 52, 55, 55, 53, 56, 48, 56]⟩ : ByteArray)] from rfl) (Reps.one (show Kd.M Kd.string _ _ _ (⟨#[57, 57, 57, 57, 57, 57, 57, 57, 57, 57, 57, 57, 57, 57, 57, 57, 57, 57, 57, 57]⟩ : ByteArray) [.string (⟨#[57, 57, 57, 57, 57, 57, 57, 57, 57, 57, 57, 57, 57, 57, 57, 57, 57, 57, 57, 57]⟩ : ByteArray)] from rfl) (Reps.one (show Kd.M Kd.string _ _ _ (⟨#[49, 47, 50, 47, 51]⟩ : ByteArray) [.string (⟨#[49, 47, 50, 47, 51]⟩ : ByteArray)] from rfl) (Reps.one (show Kd.M Kd.string _ _ _ (⟨#[47]⟩ : ByteArray) [.string (⟨#[47]⟩ : ByteArray)] from rfl) (Reps.one (show Kd.M Kd.string _ _ _ (⟨#[97]⟩ : ByteArray) [.string (⟨#[97]⟩ : ByteArray)] from rfl) (Reps.one (show Kd.M Kd.string _ _ _ (⟨#[49, 47]⟩ : ByteArray) [.string (⟨#[49, 47]⟩ : ByteArray)] from rfl) (Reps.one (show Kd.M Kd.string _ _ _ (⟨#[47, 50]⟩ : ByteArray) [.string (⟨#[47, 50]⟩ : ByteArray)] from rfl) (Reps.one (show Kd.M Kd.string _ _ _ (⟨#[32, 49]⟩ : ByteArray) [.string (⟨#[32, 49]⟩ : ByteArray)] from rfl) (Reps.none _ _))))))))))))))))))))))))); intro v312 w37 ho38 hb hg_ hnew_; clear hg_ hnew_; (first | rw [← Ny311.out] at ho38 | (simp only [Int.reduceToNat] at ho38; rw [← Ny311.out] at ho38)); have n0_ := Aside0.mk (Kd.R_below (rowN HO_1.out) hb); have n1_ := Aside0.mk (Kd.R_lower ho38 (below_size (belN HB.out))); have n2_ := Aside0.mk (below_step (belN HB.out) hb); clear HO_1; clear HB; have HO_1 := n0_; have HO313 := n1_; have HB := n2_; clear n0_ n1_ n2_; clear hb ho38; obtain ⟨Ao39, co39, eo39⟩ := Kd.R_slice HO313.out; subst eo39))
    go_loopg [81] k1 (fun kq v81 w' => ∃ (x81_2 : Int), v81 = .int .i64 x81_2 ∧ Aside0 (marigraphlaw1_RatNumbers.l2 kq y311 (y311.length : Int) x81_2 = some r) ∧ Aside0 (kq ≤ k1) ∧ Aside0 (Kd.R Kd.string 9 w' w.heap.size (fun _ => True) (.slice Ao39 y311.length co39) y311) ∧ Aside0 (Below w.heap.size w w'))
    case atStart => exact ⟨(0), (by first | rfl | (simp; done) | (simp [*]; done)), H', ⟨Nat.le_refl _⟩, ⟨(rowN HO313.out)⟩, ⟨(belN HB.out)⟩⟩
    case round =>
     clear H'
     try clear c1
     try clear p2
     try clear q2
     try clear hx2
     try clear c3
     try clear c3b0
     try clear c5
     try clear c5b0
     try clear c6
     try clear p6
     try clear c7
     try clear c8
     try clear c10
     try clear p29
     try clear q29
     try clear hx29
     try clear hx298_0
     try clear hx299_0
     try clear p298
     try clear p299
     try clear q298
     try clear q299
     obtain ⟨x81_2, rfl, HA, HK2, HO_79, HB⟩ := hrel
     cases gk with
     | zero => exact absurd HA.out (by simp [marigraphlaw1_RatNumbers.l2])
     | succ k2 =>
      have H := HA.out
      clear HA
      simp only [marigraphlaw1_RatNumbers.l2] at H
      by_cases c40 : x81_2 < (y311.length : Int)
      ·rw [if_pos c40] at H
       have c40b0 : decide (x81_2 < (y311.length : Int)) = true := decide_eq_true c40
       clear c40
       by_cases c41 : 0 ≤ x81_2
       ·rw [if_pos c41] at H
        have c41b0 : decide (0 ≤ x81_2) = true := decide_eq_true c41
        clear c41
        by_cases c42 : x81_2 < (y311.length : Int)
        ·rw [if_pos c42] at H
         have c42b0 : decide (x81_2 < (y311.length : Int)) = true := decide_eq_true c42
         clear c42
         replace H := Option.bind_eq_some_iff.mp H
         obtain ⟨t315, A430, H⟩ := H
         replace H : (if t315 = true then (marigraphlaw1_RatNumbers.l2 k2 y311 (y311.length : Int) (wrap64 (x81_2 + 1))) else (some false)) = some r := H
         have A43 := Aside0.mk A430
         clear A430
         by_cases c44 : t315 = true
         ·subst c44
          have H1 : (marigraphlaw1_RatNumbers.l2 k2 y311 (y311.length : Int) (wrap64 (x81_2 + 1))) = some r := by rw [if_pos rfl] at H; exact H
          clear H
          have H := H1
          clear H1
          have H' := Aside0.mk H
          clear H
          have p314 : 0 ≤ (x81_2 : Int) := of_decide_eq_true (by first | (with_reducible assumption) | assumption)
          have q314 : x81_2 < (y311.length : Int) := of_decide_eq_true (by first | (with_reducible assumption) | assumption)
          obtain ⟨ad314, e314, hx314_0⟩ := Kd.at_string (Kd.R_reads' HO_79.out).2.2 x81_2 p314 q314
          cases e314
          replace p314 := eq_true p314
          replace q314 := eq_true q314
          go_wp2_with (first | ((with_reducible refine gate_callee (f := 9) rfl ?_); refine goesL_ (some 86) rfl rfl Try.func9 (by kernel_rfl) rfl #[.string (rdOf ByteArray.empty y311 x81_2)] rfl argN ?_; (with_reducible refine (marigraphlaw1_parses.calls k2 (rdOf ByteArray.empty y311 x81_2) true _ A43.out).mono ?_); rintro e w45 ⟨rfl, hb⟩; refine ⟨_, rfl, ?_⟩; have n0_ := Aside0.mk (Kd.R_below (rowN HO_79.out) hb); have n1_ := Aside0.mk (below_step (belN HB.out) hb); clear HO_79; clear HB; have HO_79 := n0_; have HB := n1_; clear n0_ n1_; (try clear hb); (try clear hk)))
          go_roundg k2
          case measure => have := HK1.out; have := HK2.out; omega
          case rel => exact ⟨(wrap64 (x81_2 + 1)), (by first | rfl | (simp; done) | (simp [*]; done)), H', ⟨by have := HK1.out; have := HK2.out; omega⟩, ⟨(rowN HO_79.out)⟩, ⟨(belN HB.out)⟩⟩
         ·replace c44 := Bool.eq_false_iff.mpr c44
          subst c44
          have H1 : (some false) = some r := by rw [if_neg (show ¬ (false = true) by decide)] at H; exact H
          clear H
          have H := H1
          clear H1
          obtain rfl := Option.some.inj H
          have p314 : 0 ≤ (x81_2 : Int) := of_decide_eq_true (by first | (with_reducible assumption) | assumption)
          have q314 : x81_2 < (y311.length : Int) := of_decide_eq_true (by first | (with_reducible assumption) | assumption)
          obtain ⟨ad314, e314, hx314_0⟩ := Kd.at_string (Kd.R_reads' HO_79.out).2.2 x81_2 p314 q314
          cases e314
          replace p314 := eq_true p314
          replace q314 := eq_true q314
          go_wp2_with (first | ((with_reducible refine gate_callee (f := 9) rfl ?_); refine goesL_ (some 86) rfl rfl Try.func9 (by kernel_rfl) rfl #[.string (rdOf ByteArray.empty y311 x81_2)] rfl argN ?_; (with_reducible refine (marigraphlaw1_parses.calls k2 (rdOf ByteArray.empty y311 x81_2) false _ A43.out).mono ?_); rintro e w46 ⟨rfl, hb⟩; refine ⟨_, rfl, ?_⟩; have n0_ := Aside0.mk (Kd.R_below (rowN HO_79.out) hb); have n1_ := Aside0.mk (below_step (belN HB.out) hb); clear HO_79; clear HB; have HO_79 := n0_; have HB := n1_; clear n0_ n1_; (try clear hb); (try clear hk)))
          go_ret
          exact ⟨by first | rfl | (simp [errW_none, errW_some] <;> rfl) | (simp [*, errW_none, errW_some] <;> rfl), (belN HB.out)⟩
        ·rw [if_neg c42] at H
         exact absurd H (by simp)
       ·rw [if_neg c41] at H
        exact absurd H (by simp)
      ·rw [if_neg c40] at H
       have c40b0 : decide (x81_2 < (y311.length : Int)) = false := decide_eq_false c40
       clear c40
       replace H := Option.bind_eq_some_iff.mp H
       obtain ⟨⟨t316, t317, t318⟩, A470, H⟩ := H
       replace H : ((marigraphlaw1_must.f 5 1 23).bind fun bt320 => (if t318 = true then (if t316 = 5 then (if bt320.2.2 = true then (some false) else ((marigraphlaw1_known.f k2).bind fun t324 => (some t324))) else (some false)) else (some false))) = some r := H
       have A47 := Aside0.mk A470
       clear A470
       replace H := Option.bind_eq_some_iff.mp H
       obtain ⟨⟨t320, t321, t322⟩, A480, H⟩ := H
       replace H : (if t318 = true then (if t316 = 5 then (if t322 = true then (some false) else ((marigraphlaw1_known.f k2).bind fun t324 => (some t324))) else (some false)) else (some false)) = some r := H
       have A48 := Aside0.mk A480
       clear A480
       by_cases c49 : t318 = true
       ·subst c49
        have H1 : (if t316 = 5 then (if t322 = true then (some false) else ((marigraphlaw1_known.f k2).bind fun t324 => (some t324))) else (some false)) = some r := by rw [if_pos rfl] at H; exact H
        clear H
        have H := H1
        clear H1
        by_cases c50 : t316 = 5
        ·rw [if_pos c50] at H
         have c50b0 : (t316 == 5) = true := beq_iff_eq.mpr c50
         have c50b1 : (t316 != 5) = false := bne_eq_false_iff_eq.mpr c50
         clear c50
         by_cases c51 : t322 = true
         ·subst c51
          have H1 : (some false) = some r := by rw [if_pos rfl] at H; exact H
          clear H
          have H := H1
          clear H1
          obtain rfl := Option.some.inj H
          go_wp2_with (first | ((with_reducible refine gate_callee (f := 13) rfl ?_); refine goesL_ (some 91) rfl rfl Try.func13 (by kernel_rfl) rfl #[.agg #[.int .i64 5, .int .i64 1], .int .i64 0] rfl argN ?_; (with_reducible refine (marigraphlaw1_must.calls 5 1 0 t316 t317 true _ A47.out).mono ?_); rintro e w52 ⟨rfl, hb⟩; refine ⟨_, rfl, ?_⟩; have n0_ := Aside0.mk (Kd.R_below (rowN HO_79.out) hb); have n1_ := Aside0.mk (below_step (belN HB.out) hb); clear HO_79; clear HB; have HO_79 := n0_; have HB := n1_; clear n0_ n1_; (try clear hb); (try clear hk)) | ((with_reducible refine gate_dst (N := 6) rfl ?_); refine box_event ?hg (N := 6) ?hd (cs := #[.int .i64 0, .int .i64 0]) (t := 23) ?hr ?_; (case hd => rfl); (case hg => rfl); (case hr => first | (go_simp; done) | (go_simp; rfl)); intro gb319 hg w53 hbox hb; have n0_ := Aside0.mk (Kd.R_below (rowN HO_79.out) hb); have n1_ := Aside0.mk (below_step (belN HB.out) hb); have n2_ := Aside0.mk (hbox); have n3_ := Aside0.mk (szB hg HB.out); have n4_ := Aside0.mk (szB hg HB.out); clear HO_79; clear HB; have HO_79 := n0_; have HB := n1_; have BK319 := n2_; have GW319 := n3_; have GE319 := n4_; clear n0_ n1_ n2_ n3_ n4_; clear hb hbox hg; have hcz54_0 : w53.cell? ⟨gb319, 0, none⟩ = some (.int .i64 0) := (blk_cell BK319.out 0).trans rfl; have hcz54_1 : w53.cell? ⟨gb319, 1, none⟩ = some (.int .i64 0) := (blk_cell BK319.out 1).trans rfl; have hfz54_0 := blk_frozen BK319.out 0; have hfz54_1 := blk_frozen BK319.out 1) | ((with_reducible refine gate_callee (f := 13) rfl ?_); refine goesL_ (some 96) rfl rfl Try.func13 (by kernel_rfl) rfl #[.agg #[.int .i64 5, .int .i64 1], .int .i64 23] rfl argN ?_; (with_reducible refine (marigraphlaw1_must.calls 5 1 23 t320 t321 true _ A48.out).mono ?_); rintro e w55 ⟨rfl, hb⟩; refine ⟨_, rfl, ?_⟩; have n0_ := Aside0.mk (Kd.R_below (by (with_reducible repeat (first | apply Kd.R_alloc | apply Kd.R_drewN | apply Kd.R_drew)); exact (Kd.R_mono (Kd.R_far (p := ⟨gb319, 1, none⟩) (Kd.R_far (p := ⟨gb319, 0, none⟩) (Kd.R_types HO_79.out BK319.out (by decide)) (fun _ hk => hk.2) (.int .i64 t316)) (fun _ hk => hk.2) (.int .i64 t317)) (fun _ h_ => h_.1))) hb); have n1_ := Aside0.mk (blk_below (g := gb319) (o := .cells #[.int .i64 t316, .int .i64 t317] 23 (0, 0)) (by (with_reducible repeat (first | refine blk_drewN ?_ _ | refine blk_drew ?_ | refine blk_alloc ?_ _)); refine blk_put (cs := #[.int .i64 t316, .int .i64 0]) ?_ 1 _ rfl; (with_reducible repeat (first | refine blk_drewN ?_ _ | refine blk_drew ?_ | refine blk_alloc ?_ _)); refine blk_put (cs := #[.int .i64 0, .int .i64 0]) ?_ 0 _ rfl; (with_reducible repeat (first | refine blk_drewN ?_ _ | refine blk_drew ?_ | refine blk_alloc ?_ _)); exact BK319.out) hb); have n2_ := Aside0.mk (below_step (belS HB.out) hb); clear HO_79; clear BK319; clear HB; have HO_79 := n0_; have BK319 := n1_; have HB := n2_; clear n0_ n1_ n2_; (try clear hb); (try clear hk)) | ((with_reducible refine gate_dst (N := 8) rfl ?_); refine box_event ?hg (N := 8) ?hd (cs := #[.int .i64 0, .int .i64 0]) (t := 23) ?hr ?_; (case hd => rfl); (case hg => rfl); (case hr => first | (go_simp; done) | (go_simp; rfl)); intro gb323 hg w56 hbox hb; have n0_ := Aside0.mk (Kd.R_below (rowN HO_79.out) hb); have n1_ := Aside0.mk (bkB BK319.out hb); have n2_ := Aside0.mk (below_step (belS HB.out) hb); have n3_ := Aside0.mk (hbox); have n4_ := Aside0.mk (szB hg HB.out); have n5_ := Aside0.mk (szB hg HB.out); have n6_ := Aside0.mk ((bk1 hg BK319.out)); have n7_ := Aside0.mk ((bk2 hg BK319.out)); clear HO_79; clear BK319; clear HB; have HO_79 := n0_; have BK319 := n1_; have HB := n2_; have BK323 := n3_; have GW323 := n4_; have GE323 := n5_; have NB319_323 := n6_; have NB323_319 := n7_; clear n0_ n1_ n2_ n3_ n4_ n5_ n6_ n7_; clear hb hbox hg; have hnb57 := NB323_319.out; have hnc57 := NB319_323.out; have hcz58_0 : w56.cell? ⟨gb323, 0, none⟩ = some (.int .i64 0) := (blk_cell BK323.out 0).trans rfl; have hcz58_1 : w56.cell? ⟨gb323, 1, none⟩ = some (.int .i64 0) := (blk_cell BK323.out 1).trans rfl; have hfz58_0 := blk_frozen BK323.out 0; have hfz58_1 := blk_frozen BK323.out 1; have hcz59_0 : w56.cell? ⟨gb319, 0, none⟩ = some (.int .i64 t316) := (blk_cell BK319.out 0).trans rfl; have hcz59_1 : w56.cell? ⟨gb319, 1, none⟩ = some (.int .i64 t317) := (blk_cell BK319.out 1).trans rfl; have hfz59_0 := blk_frozen BK319.out 0; have hfz59_1 := blk_frozen BK319.out 1))
          go_ret
          exact ⟨by first | rfl | (simp [errW_none, errW_some] <;> rfl) | (simp [*, errW_none, errW_some] <;> rfl), (belS HB.out)⟩
         ·replace c51 := Bool.eq_false_iff.mpr c51
          subst c51
          have H1 : ((marigraphlaw1_known.f k2).bind fun t324 => (some t324)) = some r := by rw [if_neg (show ¬ (false = true) by decide)] at H; exact H
          clear H
          have H := H1
          clear H1
          replace H := Option.bind_eq_some_iff.mp H
          obtain ⟨t324, A600, H⟩ := H
          replace H : (some t324) = some r := H
          have A60 := Aside0.mk A600
          clear A600
          obtain rfl := Option.some.inj H
          go_wp2_with (first | ((with_reducible refine gate_callee (f := 13) rfl ?_); refine goesL_ (some 91) rfl rfl Try.func13 (by kernel_rfl) rfl #[.agg #[.int .i64 5, .int .i64 1], .int .i64 0] rfl argN ?_; (with_reducible refine (marigraphlaw1_must.calls 5 1 0 t316 t317 true _ A47.out).mono ?_); rintro e w61 ⟨rfl, hb⟩; refine ⟨_, rfl, ?_⟩; have n0_ := Aside0.mk (Kd.R_below (rowN HO_79.out) hb); have n1_ := Aside0.mk (below_step (belN HB.out) hb); clear HO_79; clear HB; have HO_79 := n0_; have HB := n1_; clear n0_ n1_; (try clear hb); (try clear hk)) | ((with_reducible refine gate_dst (N := 6) rfl ?_); refine box_event ?hg (N := 6) ?hd (cs := #[.int .i64 0, .int .i64 0]) (t := 23) ?hr ?_; (case hd => rfl); (case hg => rfl); (case hr => first | (go_simp; done) | (go_simp; rfl)); intro gb319 hg w62 hbox hb; have n0_ := Aside0.mk (Kd.R_below (rowN HO_79.out) hb); have n1_ := Aside0.mk (below_step (belN HB.out) hb); have n2_ := Aside0.mk (hbox); have n3_ := Aside0.mk (szB hg HB.out); have n4_ := Aside0.mk (szB hg HB.out); clear HO_79; clear HB; have HO_79 := n0_; have HB := n1_; have BK319 := n2_; have GW319 := n3_; have GE319 := n4_; clear n0_ n1_ n2_ n3_ n4_; clear hb hbox hg; have hcz63_0 : w62.cell? ⟨gb319, 0, none⟩ = some (.int .i64 0) := (blk_cell BK319.out 0).trans rfl; have hcz63_1 : w62.cell? ⟨gb319, 1, none⟩ = some (.int .i64 0) := (blk_cell BK319.out 1).trans rfl; have hfz63_0 := blk_frozen BK319.out 0; have hfz63_1 := blk_frozen BK319.out 1) | ((with_reducible refine gate_callee (f := 13) rfl ?_); refine goesL_ (some 96) rfl rfl Try.func13 (by kernel_rfl) rfl #[.agg #[.int .i64 5, .int .i64 1], .int .i64 23] rfl argN ?_; (with_reducible refine (marigraphlaw1_must.calls 5 1 23 t320 t321 false _ A48.out).mono ?_); rintro e w64 ⟨rfl, hb⟩; refine ⟨_, rfl, ?_⟩; have n0_ := Aside0.mk (Kd.R_below (by (with_reducible repeat (first | apply Kd.R_alloc | apply Kd.R_drewN | apply Kd.R_drew)); exact (Kd.R_mono (Kd.R_far (p := ⟨gb319, 1, none⟩) (Kd.R_far (p := ⟨gb319, 0, none⟩) (Kd.R_types HO_79.out BK319.out (by decide)) (fun _ hk => hk.2) (.int .i64 t316)) (fun _ hk => hk.2) (.int .i64 t317)) (fun _ h_ => h_.1))) hb); have n1_ := Aside0.mk (blk_below (g := gb319) (o := .cells #[.int .i64 t316, .int .i64 t317] 23 (0, 0)) (by (with_reducible repeat (first | refine blk_drewN ?_ _ | refine blk_drew ?_ | refine blk_alloc ?_ _)); refine blk_put (cs := #[.int .i64 t316, .int .i64 0]) ?_ 1 _ rfl; (with_reducible repeat (first | refine blk_drewN ?_ _ | refine blk_drew ?_ | refine blk_alloc ?_ _)); refine blk_put (cs := #[.int .i64 0, .int .i64 0]) ?_ 0 _ rfl; (with_reducible repeat (first | refine blk_drewN ?_ _ | refine blk_drew ?_ | refine blk_alloc ?_ _)); exact BK319.out) hb); have n2_ := Aside0.mk (below_step (belS HB.out) hb); clear HO_79; clear BK319; clear HB; have HO_79 := n0_; have BK319 := n1_; have HB := n2_; clear n0_ n1_ n2_; (try clear hb); (try clear hk)) | ((with_reducible refine gate_dst (N := 8) rfl ?_); refine box_event ?hg (N := 8) ?hd (cs := #[.int .i64 0, .int .i64 0]) (t := 23) ?hr ?_; (case hd => rfl); (case hg => rfl); (case hr => first | (go_simp; done) | (go_simp; rfl)); intro gb323 hg w65 hbox hb; have n0_ := Aside0.mk (Kd.R_below (rowN HO_79.out) hb); have n1_ := Aside0.mk (bkB BK319.out hb); have n2_ := Aside0.mk (below_step (belS HB.out) hb); have n3_ := Aside0.mk (hbox); have n4_ := Aside0.mk (szB hg HB.out); have n5_ := Aside0.mk (szB hg HB.out); have n6_ := Aside0.mk ((bk1 hg BK319.out)); have n7_ := Aside0.mk ((bk2 hg BK319.out)); clear HO_79; clear BK319; clear HB; have HO_79 := n0_; have BK319 := n1_; have HB := n2_; have BK323 := n3_; have GW323 := n4_; have GE323 := n5_; have NB319_323 := n6_; have NB323_319 := n7_; clear n0_ n1_ n2_ n3_ n4_ n5_ n6_ n7_; clear hb hbox hg; have hnb66 := NB323_319.out; have hnc66 := NB319_323.out; have hcz67_0 : w65.cell? ⟨gb323, 0, none⟩ = some (.int .i64 0) := (blk_cell BK323.out 0).trans rfl; have hcz67_1 : w65.cell? ⟨gb323, 1, none⟩ = some (.int .i64 0) := (blk_cell BK323.out 1).trans rfl; have hfz67_0 := blk_frozen BK323.out 0; have hfz67_1 := blk_frozen BK323.out 1; have hcz68_0 : w65.cell? ⟨gb319, 0, none⟩ = some (.int .i64 t316) := (blk_cell BK319.out 0).trans rfl; have hcz68_1 : w65.cell? ⟨gb319, 1, none⟩ = some (.int .i64 t317) := (blk_cell BK319.out 1).trans rfl; have hfz68_0 := blk_frozen BK319.out 0; have hfz68_1 := blk_frozen BK319.out 1) | (go_at_call 12; (with_reducible refine (marigraphlaw1_known.calls k2  t324 _ A60.out).mono ?_); rintro e w69 ⟨rfl, hb⟩; have n0_ := Aside0.mk (Kd.R_below (by (with_reducible repeat (first | apply Kd.R_alloc | apply Kd.R_drewN | apply Kd.R_drew)); exact (Kd.R_mono (Kd.R_far (p := ⟨gb323, 1, none⟩) (Kd.R_far (p := ⟨gb323, 0, none⟩) (Kd.R_types HO_79.out BK323.out (by decide)) (fun _ hk => hk.2) (.int .i64 t320)) (fun _ hk => hk.2) (.int .i64 t321)) (fun _ h_ => h_.1))) hb); have n1_ := Aside0.mk (bkBF BK319.out hb); have n2_ := Aside0.mk (blk_below (g := gb323) (o := .cells #[.int .i64 t320, .int .i64 t321] 23 (0, 0)) (by (with_reducible repeat (first | refine blk_drewN ?_ _ | refine blk_drew ?_ | refine blk_alloc ?_ _)); refine blk_put (cs := #[.int .i64 t320, .int .i64 0]) ?_ 1 _ rfl; (with_reducible repeat (first | refine blk_drewN ?_ _ | refine blk_drew ?_ | refine blk_alloc ?_ _)); refine blk_put (cs := #[.int .i64 0, .int .i64 0]) ?_ 0 _ rfl; (with_reducible repeat (first | refine blk_drewN ?_ _ | refine blk_drew ?_ | refine blk_alloc ?_ _)); exact BK323.out) hb); have n3_ := Aside0.mk (below_step (belS HB.out) hb); clear HO_79; clear BK319; clear BK323; clear HB; have HO_79 := n0_; have BK319 := n1_; have BK323 := n2_; have HB := n3_; clear n0_ n1_ n2_ n3_; (try clear hb); (try clear hk)))
          go_ret
          exact ⟨by first | rfl | (simp [errW_none, errW_some] <;> rfl) | (simp [*, errW_none, errW_some] <;> rfl), (belS HB.out)⟩
        ·rw [if_neg c50] at H
         have c50b0 : (t316 == 5) = false := beq_eq_false_iff_ne.mpr c50
         have c50b1 : (t316 != 5) = true := bne_iff_ne.mpr c50
         obtain rfl := Option.some.inj H
         go_wp2_with (first | ((with_reducible refine gate_callee (f := 13) rfl ?_); refine goesL_ (some 91) rfl rfl Try.func13 (by kernel_rfl) rfl #[.agg #[.int .i64 5, .int .i64 1], .int .i64 0] rfl argN ?_; (with_reducible refine (marigraphlaw1_must.calls 5 1 0 t316 t317 true _ A47.out).mono ?_); rintro e w70 ⟨rfl, hb⟩; refine ⟨_, rfl, ?_⟩; have n0_ := Aside0.mk (Kd.R_below (rowN HO_79.out) hb); have n1_ := Aside0.mk (below_step (belN HB.out) hb); clear HO_79; clear HB; have HO_79 := n0_; have HB := n1_; clear n0_ n1_; (try clear hb); (try clear hk)) | ((with_reducible refine gate_dst (N := 6) rfl ?_); refine box_event ?hg (N := 6) ?hd (cs := #[.int .i64 0, .int .i64 0]) (t := 23) ?hr ?_; (case hd => rfl); (case hg => rfl); (case hr => first | (go_simp; done) | (go_simp; rfl)); intro gb319 hg w71 hbox hb; have n0_ := Aside0.mk (Kd.R_below (rowN HO_79.out) hb); have n1_ := Aside0.mk (below_step (belN HB.out) hb); have n2_ := Aside0.mk (hbox); have n3_ := Aside0.mk (szB hg HB.out); have n4_ := Aside0.mk (szB hg HB.out); clear HO_79; clear HB; have HO_79 := n0_; have HB := n1_; have BK319 := n2_; have GW319 := n3_; have GE319 := n4_; clear n0_ n1_ n2_ n3_ n4_; clear hb hbox hg; have hcz72_0 : w71.cell? ⟨gb319, 0, none⟩ = some (.int .i64 0) := (blk_cell BK319.out 0).trans rfl; have hcz72_1 : w71.cell? ⟨gb319, 1, none⟩ = some (.int .i64 0) := (blk_cell BK319.out 1).trans rfl; have hfz72_0 := blk_frozen BK319.out 0; have hfz72_1 := blk_frozen BK319.out 1) | ((with_reducible refine gate_callee (f := 13) rfl ?_); refine goesL_ (some 96) rfl rfl Try.func13 (by kernel_rfl) rfl #[.agg #[.int .i64 5, .int .i64 1], .int .i64 23] rfl argN ?_; (with_reducible refine (marigraphlaw1_must.calls 5 1 23 t320 t321 t322 _ A48.out).mono ?_); rintro e w73 ⟨rfl, hb⟩; refine ⟨_, rfl, ?_⟩; have n0_ := Aside0.mk (Kd.R_below (by (with_reducible repeat (first | apply Kd.R_alloc | apply Kd.R_drewN | apply Kd.R_drew)); exact (Kd.R_mono (Kd.R_far (p := ⟨gb319, 1, none⟩) (Kd.R_far (p := ⟨gb319, 0, none⟩) (Kd.R_types HO_79.out BK319.out (by decide)) (fun _ hk => hk.2) (.int .i64 t316)) (fun _ hk => hk.2) (.int .i64 t317)) (fun _ h_ => h_.1))) hb); have n1_ := Aside0.mk (blk_below (g := gb319) (o := .cells #[.int .i64 t316, .int .i64 t317] 23 (0, 0)) (by (with_reducible repeat (first | refine blk_drewN ?_ _ | refine blk_drew ?_ | refine blk_alloc ?_ _)); refine blk_put (cs := #[.int .i64 t316, .int .i64 0]) ?_ 1 _ rfl; (with_reducible repeat (first | refine blk_drewN ?_ _ | refine blk_drew ?_ | refine blk_alloc ?_ _)); refine blk_put (cs := #[.int .i64 0, .int .i64 0]) ?_ 0 _ rfl; (with_reducible repeat (first | refine blk_drewN ?_ _ | refine blk_drew ?_ | refine blk_alloc ?_ _)); exact BK319.out) hb); have n2_ := Aside0.mk (below_step (belS HB.out) hb); clear HO_79; clear BK319; clear HB; have HO_79 := n0_; have BK319 := n1_; have HB := n2_; clear n0_ n1_ n2_; (try clear hb); (try clear hk)) | ((with_reducible refine gate_dst (N := 8) rfl ?_); refine box_event ?hg (N := 8) ?hd (cs := #[.int .i64 0, .int .i64 0]) (t := 23) ?hr ?_; (case hd => rfl); (case hg => rfl); (case hr => first | (go_simp; done) | (go_simp; rfl)); intro gb323 hg w74 hbox hb; have n0_ := Aside0.mk (Kd.R_below (rowN HO_79.out) hb); have n1_ := Aside0.mk (bkB BK319.out hb); have n2_ := Aside0.mk (below_step (belS HB.out) hb); have n3_ := Aside0.mk (hbox); have n4_ := Aside0.mk (szB hg HB.out); have n5_ := Aside0.mk (szB hg HB.out); have n6_ := Aside0.mk ((bk1 hg BK319.out)); have n7_ := Aside0.mk ((bk2 hg BK319.out)); clear HO_79; clear BK319; clear HB; have HO_79 := n0_; have BK319 := n1_; have HB := n2_; have BK323 := n3_; have GW323 := n4_; have GE323 := n5_; have NB319_323 := n6_; have NB323_319 := n7_; clear n0_ n1_ n2_ n3_ n4_ n5_ n6_ n7_; clear hb hbox hg; have hnb75 := NB323_319.out; have hnc75 := NB319_323.out; have hcz76_0 : w74.cell? ⟨gb323, 0, none⟩ = some (.int .i64 0) := (blk_cell BK323.out 0).trans rfl; have hcz76_1 : w74.cell? ⟨gb323, 1, none⟩ = some (.int .i64 0) := (blk_cell BK323.out 1).trans rfl; have hfz76_0 := blk_frozen BK323.out 0; have hfz76_1 := blk_frozen BK323.out 1; have hcz77_0 : w74.cell? ⟨gb319, 0, none⟩ = some (.int .i64 t316) := (blk_cell BK319.out 0).trans rfl; have hcz77_1 : w74.cell? ⟨gb319, 1, none⟩ = some (.int .i64 t317) := (blk_cell BK319.out 1).trans rfl; have hfz77_0 := blk_frozen BK319.out 0; have hfz77_1 := blk_frozen BK319.out 1))
         go_ret
         exact ⟨by first | rfl | (simp [errW_none, errW_some] <;> rfl) | (simp [*, errW_none, errW_some] <;> rfl), (belS HB.out)⟩
       ·replace c49 := Bool.eq_false_iff.mpr c49
        subst c49
        have H1 : (some false) = some r := by rw [if_neg (show ¬ (false = true) by decide)] at H; exact H
        clear H
        have H := H1
        clear H1
        obtain rfl := Option.some.inj H
        go_wp2_with (first | ((with_reducible refine gate_callee (f := 13) rfl ?_); refine goesL_ (some 91) rfl rfl Try.func13 (by kernel_rfl) rfl #[.agg #[.int .i64 5, .int .i64 1], .int .i64 0] rfl argN ?_; (with_reducible refine (marigraphlaw1_must.calls 5 1 0 t316 t317 false _ A47.out).mono ?_); rintro e w78 ⟨rfl, hb⟩; refine ⟨_, rfl, ?_⟩; have n0_ := Aside0.mk (Kd.R_below (rowN HO_79.out) hb); have n1_ := Aside0.mk (below_step (belN HB.out) hb); clear HO_79; clear HB; have HO_79 := n0_; have HB := n1_; clear n0_ n1_; (try clear hb); (try clear hk)) | ((with_reducible refine gate_dst (N := 6) rfl ?_); refine box_event ?hg (N := 6) ?hd (cs := #[.int .i64 0, .int .i64 0]) (t := 23) ?hr ?_; (case hd => rfl); (case hg => rfl); (case hr => first | (go_simp; done) | (go_simp; rfl)); intro gb319 hg w79 hbox hb; have n0_ := Aside0.mk (Kd.R_below (rowN HO_79.out) hb); have n1_ := Aside0.mk (below_step (belN HB.out) hb); have n2_ := Aside0.mk (hbox); have n3_ := Aside0.mk (szB hg HB.out); have n4_ := Aside0.mk (szB hg HB.out); clear HO_79; clear HB; have HO_79 := n0_; have HB := n1_; have BK319 := n2_; have GW319 := n3_; have GE319 := n4_; clear n0_ n1_ n2_ n3_ n4_; clear hb hbox hg; have hcz80_0 : w79.cell? ⟨gb319, 0, none⟩ = some (.int .i64 0) := (blk_cell BK319.out 0).trans rfl; have hcz80_1 : w79.cell? ⟨gb319, 1, none⟩ = some (.int .i64 0) := (blk_cell BK319.out 1).trans rfl; have hfz80_0 := blk_frozen BK319.out 0; have hfz80_1 := blk_frozen BK319.out 1) | ((with_reducible refine gate_callee (f := 13) rfl ?_); refine goesL_ (some 96) rfl rfl Try.func13 (by kernel_rfl) rfl #[.agg #[.int .i64 5, .int .i64 1], .int .i64 23] rfl argN ?_; (with_reducible refine (marigraphlaw1_must.calls 5 1 23 t320 t321 t322 _ A48.out).mono ?_); rintro e w81 ⟨rfl, hb⟩; refine ⟨_, rfl, ?_⟩; have n0_ := Aside0.mk (Kd.R_below (by (with_reducible repeat (first | apply Kd.R_alloc | apply Kd.R_drewN | apply Kd.R_drew)); exact (Kd.R_mono (Kd.R_far (p := ⟨gb319, 1, none⟩) (Kd.R_far (p := ⟨gb319, 0, none⟩) (Kd.R_types HO_79.out BK319.out (by decide)) (fun _ hk => hk.2) (.int .i64 t316)) (fun _ hk => hk.2) (.int .i64 t317)) (fun _ h_ => h_.1))) hb); have n1_ := Aside0.mk (blk_below (g := gb319) (o := .cells #[.int .i64 t316, .int .i64 t317] 23 (0, 0)) (by (with_reducible repeat (first | refine blk_drewN ?_ _ | refine blk_drew ?_ | refine blk_alloc ?_ _)); refine blk_put (cs := #[.int .i64 t316, .int .i64 0]) ?_ 1 _ rfl; (with_reducible repeat (first | refine blk_drewN ?_ _ | refine blk_drew ?_ | refine blk_alloc ?_ _)); refine blk_put (cs := #[.int .i64 0, .int .i64 0]) ?_ 0 _ rfl; (with_reducible repeat (first | refine blk_drewN ?_ _ | refine blk_drew ?_ | refine blk_alloc ?_ _)); exact BK319.out) hb); have n2_ := Aside0.mk (below_step (belS HB.out) hb); clear HO_79; clear BK319; clear HB; have HO_79 := n0_; have BK319 := n1_; have HB := n2_; clear n0_ n1_ n2_; (try clear hb); (try clear hk)) | ((with_reducible refine gate_dst (N := 8) rfl ?_); refine box_event ?hg (N := 8) ?hd (cs := #[.int .i64 0, .int .i64 0]) (t := 23) ?hr ?_; (case hd => rfl); (case hg => rfl); (case hr => first | (go_simp; done) | (go_simp; rfl)); intro gb323 hg w82 hbox hb; have n0_ := Aside0.mk (Kd.R_below (rowN HO_79.out) hb); have n1_ := Aside0.mk (bkB BK319.out hb); have n2_ := Aside0.mk (below_step (belS HB.out) hb); have n3_ := Aside0.mk (hbox); have n4_ := Aside0.mk (szB hg HB.out); have n5_ := Aside0.mk (szB hg HB.out); have n6_ := Aside0.mk ((bk1 hg BK319.out)); have n7_ := Aside0.mk ((bk2 hg BK319.out)); clear HO_79; clear BK319; clear HB; have HO_79 := n0_; have BK319 := n1_; have HB := n2_; have BK323 := n3_; have GW323 := n4_; have GE323 := n5_; have NB319_323 := n6_; have NB323_319 := n7_; clear n0_ n1_ n2_ n3_ n4_ n5_ n6_ n7_; clear hb hbox hg; have hnb83 := NB323_319.out; have hnc83 := NB319_323.out; have hcz84_0 : w82.cell? ⟨gb323, 0, none⟩ = some (.int .i64 0) := (blk_cell BK323.out 0).trans rfl; have hcz84_1 : w82.cell? ⟨gb323, 1, none⟩ = some (.int .i64 0) := (blk_cell BK323.out 1).trans rfl; have hfz84_0 := blk_frozen BK323.out 0; have hfz84_1 := blk_frozen BK323.out 1))
        go_ret
        exact ⟨by first | rfl | (simp [errW_none, errW_some] <;> rfl) | (simp [*, errW_none, errW_some] <;> rfl), (belS HB.out)⟩

/-- THE ONE PURE STATEMENT of marigraphlaw1_RatNumbers: yours. -/
def marigraphlaw1_RatNumbers.Pure : Prop := ∃ k, marigraphlaw1_RatNumbers.f k  = some true
theorem marigraphlaw1_RatNumbers.walk (P : marigraphlaw1_RatNumbers.Pure)  (w : World)  :
  Calls Try.prog 4 #[] w fun e w' => e = .returned (.bool true) ∧ Below w.heap.size w w' := by
 obtain ⟨k, h⟩ := P
 refine (marigraphlaw1_RatNumbers.calls k  true w h).mono ?_
 rintro e w' ⟨rfl, hd⟩
 exact ⟨rfl, hd⟩

end Go.Proofs.Ytbkldplhaeaphaa.PRatNumbers

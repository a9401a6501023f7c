/- The walk of the Go functions that a law reaches, told as plain functions; a program of this session has written it. No condition beyond the statement's own. -/
import Derived.Test.YtjafaojmbapkbaaPRowkeyApartx0
import Derived.Test.YtjafaojmbapkbaaPRowkeyApartx2
import Derived.Test.YtjafaojmbapkbaaPRowkeyApartx3
namespace Go.Proofs.Ytjafaojmbapkbaa.PRowkeyApart
open Go.RowKit Go.Proofs.YtjafaojmbapkbaaW.PrintWords Go.Proofs.YtjafaojmbapkbaaW.PrintLast Go.Proofs.YtjafaojmbapkbaaW.PrintMore
attribute [local go_sem] max2_int min2_int max_two min_two max_three min_three max_four min_four   -- for this text's walks alone
set_option linter.unusedVariables false
set_option linter.unusedSimpArgs false

/-! ### rowkey_Encode: function 40 -/
def rowkey_Encode.f (k : Nat) (a0_0 : Int) (a0_1 : Int) (l0_2 : List (S53)) : Option (List Int × Int) := (rowkey_Right.f k a0_0 a0_1 l0_2).bind fun t157 => (if t157 = true then ((rowkey_Salt.f k a0_0 a0_1 l0_2).bind fun t158 => ((rowkey_lay.f k t158 a0_0 a0_1 l0_2).bind fun t159 => (some (t159, 0)))) else (some (([] : List Int), 1)))
theorem rowkey_Encode.mono : ∀ a0 a1 a2 k, LeO (rowkey_Encode.f k a0 a1 a2) (rowkey_Encode.f (k + 1) a0 a1 a2) := by
 intro a0 a1 a2 k
 unfold rowkey_Encode.f
 repeat' first
   | (with_reducible exact rowkey_Right.mono _ _ _ _)
   | (with_reducible exact rowkey_Salt.mono _ _ _ _)
   | (with_reducible exact rowkey_lay.mono _ _ _ _ _)
   | (with_reducible exact LeO.refl _)
   | (with_reducible exact LeO.none _)
   | (with_reducible refine LeO.ite ?_ ?_)
   | (with_reducible refine LeO.bind ?_ (fun _ => ?_))
   | exact rowkey_Right.mono _ _ _ _
   | exact rowkey_Salt.mono _ _ _ _
   | exact rowkey_lay.mono _ _ _ _ _
   | exact LeO.none _
   | refine LeO.ite ?_ ?_
   | refine LeO.bind ?_ (fun _ => ?_)
set_option maxHeartbeats 8000000 in
set_option maxRecDepth 100000 in
theorem rowkey_Encode.calls (k : Nat) (a0_0 : Int) (a0_1 : Int) (A0_2 : Option Addr) (c0_2 : Nat) (l0_2 : List (S53)) (r1 : List Int) (r2 : Int) (w : World) (hr0_2 : Kd.C k53 w A0_2 l0_2.length l0_2) (hc0_2 : l0_2.length ≤ c0_2) (h : rowkey_Encode.f k a0_0 a0_1 l0_2 = some (r1, r2)) :
  Calls Try.prog 40 #[.agg #[.int .i64 a0_0, .int .i64 a0_1, .slice A0_2 l0_2.length c0_2]] w fun e w' => ∃ v0_ : Value, e = .returned (.tuple #[v0_, .int .i64 r2]) ∧ Kd.R (Kd.int .u8) 5 w' w.heap.size (fun _ => True) v0_ r1 ∧ Below w.heap.size w w' := by
 have hu56 := Try.underlying56
 have HR0_2 := Aside0.mk hr0_2
 have HC0_2 := Aside0.mk hc0_2
 clear hr0_2 hc0_2
 have HB := Aside0.mk (Below.refl w.heap.size w)
 have H : ((rowkey_Right.f k a0_0 a0_1 l0_2).bind fun t157 => (if t157 = true then ((rowkey_Salt.f k a0_0 a0_1 l0_2).bind fun t158 => ((rowkey_lay.f k t158 a0_0 a0_1 l0_2).bind fun t159 => (some (t159, 0)))) else (some (([] : List Int), 1)))) = some (r1, r2) := h
 clear h
 replace H := Option.bind_eq_some_iff.mp H
 obtain ⟨t157, A20, H⟩ := H
 replace H : (if t157 = true then ((rowkey_Salt.f k a0_0 a0_1 l0_2).bind fun t158 => ((rowkey_lay.f k t158 a0_0 a0_1 l0_2).bind fun t159 => (some (t159, 0)))) else (some (([] : List Int), 1))) = some (r1, r2) := H
 have A2 := Aside0.mk A20
 clear A20
 by_cases c3 : t157 = true
 ·subst c3
  have H1 : ((rowkey_Salt.f k a0_0 a0_1 l0_2).bind fun t158 => ((rowkey_lay.f k t158 a0_0 a0_1 l0_2).bind fun t159 => (some (t159, 0)))) = some (r1, r2) := by rw [if_pos rfl] at H; exact H
  clear H
  have H := H1
  clear H1
  replace H := Option.bind_eq_some_iff.mp H
  obtain ⟨t158, A40, H⟩ := H
  replace H : ((rowkey_lay.f k t158 a0_0 a0_1 l0_2).bind fun t159 => (some (t159, 0))) = some (r1, r2) := H
  have A4 := Aside0.mk A40
  clear A40
  replace H := Option.bind_eq_some_iff.mp H
  obtain ⟨t159, A50, H⟩ := H
  replace H : (some (t159, 0)) = some (r1, r2) := H
  have A5 := Aside0.mk A50
  clear A50
  simp only [Option.some.injEq, Prod.mk.injEq] at H
  obtain ⟨rfl, rfl⟩ := H
  go_enter Try.func40, Try.ntmps40
  try go_wp2_with (first | ((with_reducible refine gate_dst (N := 1) rfl ?_); refine box_event ?hg (N := 1) ?hd (cs := #[.int .i64 a0_0, .int .i64 a0_1, .slice A0_2 l0_2.length c0_2]) (t := 56) ?hr ?_; (case hd => rfl); (case hg => rfl); (case hr => first | (go_simp; done) | (go_simp; rfl)); intro gb156 hg w6 hbox hb; have n0_ := Aside0.mk (below_step (belN HB.out) hb); have n1_ := Aside0.mk (hbox); have n2_ := Aside0.mk (szB hg HB.out); have n3_ := Aside0.mk (szB hg HB.out); clear HB; have HB := n0_; have BK156 := n1_; have GW156 := n2_; have GE156 := n3_; clear n0_ n1_ n2_ n3_; clear hb hbox hg; have hcz7_0 : w6.cell? ⟨gb156, 0, none⟩ = some (.int .i64 a0_0) := (blk_cell BK156.out 0).trans rfl; have hcz7_1 : w6.cell? ⟨gb156, 1, none⟩ = some (.int .i64 a0_1) := (blk_cell BK156.out 1).trans rfl; have hcz7_2 : w6.cell? ⟨gb156, 2, none⟩ = some (.slice A0_2 l0_2.length c0_2) := (blk_cell BK156.out 2).trans rfl; have hfz7_0 := blk_frozen BK156.out 0; have hfz7_1 := blk_frozen BK156.out 1; have hfz7_2 := blk_frozen BK156.out 2) | ((with_reducible refine gate_callee (f := 64) rfl ?_); refine goesL_ (some 5) rfl rfl Try.func64 (by kernel_rfl) rfl #[.agg #[.int .i64 a0_0, .int .i64 a0_1, .slice A0_2 l0_2.length c0_2]] rfl argN ?_; (with_reducible refine (rowkey_Right.calls k a0_0 a0_1 _ _ l0_2 true _ ?side1 ?side2 A2.out).mono ?_); (case side1 => repeat (first | exact (Kd.C_below HR0_2.out HB.out) | (with_reducible refine Kd.C_alloc ?_ _) | (with_reducible refine Kd.C_drewN ?_ _) | (with_reducible refine Kd.C_drew ?_))); (case side2 => exact HC0_2.out); rintro e w8 ⟨rfl, hb⟩; refine ⟨_, rfl, ?_⟩; have n0_ := Aside0.mk (bkB BK156.out hb); have n1_ := Aside0.mk (below_step (belS HB.out) hb); clear BK156; clear HB; have BK156 := n0_; have HB := n1_; clear n0_ n1_; (try clear hb)))
  have n0_ := Aside0.mk (blk_drew BK156.out)
  have n1_ := Aside0.mk (below_drew1 HB.out)
  clear BK156
  clear HB
  have BK156 := n0_
  have HB := n1_
  clear n0_ n1_
  refine start_ (n := 6) (S := fun w' => w'.cell? ⟨gb156, 0, none⟩ = some (.int .i64 a0_0) ∧ w'.cell? ⟨gb156, 1, none⟩ = some (.int .i64 a0_1) ∧ w'.cell? ⟨gb156, 2, none⟩ = some (.slice A0_2 l0_2.length c0_2)) (ds := []) #[false, false, false, false, false, false] (by kernel_rfl) rfl rfl ⟨(blk_cell BK156.out 0).trans rfl, (blk_cell BK156.out 1).trans rfl, (blk_cell BK156.out 2).trans rfl⟩ (fun hHeld => ?_)
  generalize w8.drew = w9 at BK156 HB hHeld ⊢
  refine take_ (i := 0) (N := some 7) (v := ?_) (a' := ?_) (bA 6 1) rfl rfl (by kernel_rfl) (fun _ _ _ h => h) (Or.inl ⟨by rfl, ?_⟩) hHeld ?_ ?_
  rotate_left
  ·rintro w' ⟨s0, s1, s2⟩
   go_simp
   with_reducible rfl
  rotate_left
  ·simp only [Act.put, List.setIfInBounds_toArray, List.set_cons_zero, List.set_cons_succ, i64_w, i32_w]
   rfl
  refine take_ (i := 2) (N := some 9) (v := ?_) (a' := ?_) (bA 6 5) rfl rfl (by kernel_rfl) (fun _ _ _ h => h) (Or.inl ⟨by rfl, ?_⟩) hHeld ?_ ?_
  rotate_left
  ·rintro w' ⟨s0, s1, s2⟩
   go_simp
   with_reducible rfl
  rotate_left
  ·simp only [Act.put, List.setIfInBounds_toArray, List.set_cons_zero, List.set_cons_succ, i64_w, i32_w]
   rfl
  refine one_ (i := 1) (N := some 8) (bA 6 7) rfl rfl (by kernel_rfl) (by decide) (fun K hK => ?_)
  refine goes_ Try.func42 (by kernel_rfl) rfl #[.agg #[.int .i64 a0_0, .int .i64 a0_1, .slice A0_2 l0_2.length c0_2]] (by rfl) rfl rfl argN ?_
  with_reducible refine (rowkey_Salt.calls k a0_0 a0_1 _ _ l0_2 t158 _ ?side1 ?side2 A4.out).mono ?_
  (case side1 => repeat (first | exact (Kd.C_below HR0_2.out HB.out) | (with_reducible refine Kd.C_alloc ?_ _) | (with_reducible refine Kd.C_drewN ?_ _) | (with_reducible refine Kd.C_drew ?_)))
  (case side2 => exact HC0_2.out)
  rintro e w10 ⟨rfl, hb⟩
  refine ⟨_, rfl, ?_⟩
  have n0_ := Aside0.mk (bkB BK156.out hb)
  have n1_ := Aside0.mk (below_step (belS HB.out) hb)
  clear BK156
  clear HB
  have BK156 := n0_
  have HB := n1_
  clear n0_ n1_
  (try clear hb)
  refine hK.out _ _ ⟨(blk_cell BK156.out 0).trans rfl, (blk_cell BK156.out 1).trans rfl, (blk_cell BK156.out 2).trans rfl⟩ (fun hHeld => ?_)
  clear hK K
  refine norm_ (a' := ?_) ?_ ?_
  rotate_left
  ·show Act.put _ (some 8) _ = _
   simp only [Act.put, List.setIfInBounds_toArray, List.set_cons_zero, List.set_cons_succ, i64_w, i32_w]
   rfl
  refine one_ (i := 3) (N := some 10) (bA 6 15) rfl rfl (by kernel_rfl) (by decide) (fun K hK => ?_)
  refine goes_ Try.func68 (by kernel_rfl) rfl #[.int .i64 t158, .agg #[.int .i64 a0_0, .int .i64 a0_1, .slice A0_2 l0_2.length c0_2]] (by rfl) rfl rfl argN ?_
  with_reducible refine (rowkey_lay.calls k t158 a0_0 a0_1 _ _ l0_2 t159 _ ?side1 ?side2 A5.out).mono ?_
  (case side1 => repeat (first | exact (Kd.C_below HR0_2.out HB.out) | (with_reducible refine Kd.C_alloc ?_ _) | (with_reducible refine Kd.C_drewN ?_ _) | (with_reducible refine Kd.C_drew ?_)))
  (case side2 => exact HC0_2.out)
  rintro e w11 ⟨v160, rfl, ho0, hb⟩
  refine ⟨_, rfl, ?_⟩
  have n0_ := Aside0.mk (Kd.R_lower ho0 (below_size (belS HB.out)))
  have n1_ := Aside0.mk (bkB BK156.out hb)
  have n2_ := Aside0.mk (below_step (belS HB.out) hb)
  clear BK156
  clear HB
  have HO161 := n0_
  have BK156 := n1_
  have HB := n2_
  clear n0_ n1_ n2_
  (try clear hb)
  (try clear ho0)
  refine hK.out _ _ ⟨(blk_cell BK156.out 0).trans rfl, (blk_cell BK156.out 1).trans rfl, (blk_cell BK156.out 2).trans rfl⟩ (fun hHeld => ?_)
  clear hK K
  refine norm_ (a' := ?_) ?_ ?_
  rotate_left
  ·show Act.put _ (some 10) _ = _
   simp only [Act.put, List.setIfInBounds_toArray, List.set_cons_zero, List.set_cons_succ, i64_w, i32_w]
   rfl
  refine pure_ (i := 4) (N := some 2) (v := ?_) (a' := ?_) (bA 6 31) rfl rfl (by kernel_rfl) (fun _ _ _ h => h) (Or.inl ⟨by rfl, ?_⟩) ?_ ?_
  rotate_left
  ·intro w'
   go_simp
   with_reducible rfl
  rotate_left
  ·simp only [Act.put, List.setIfInBounds_toArray, List.set_cons_zero, List.set_cons_succ, i64_w, i32_w]
   rfl
  refine pure_ (i := 5) (N := some 3) (v := ?_) (a' := ?_) (bA 6 63) rfl rfl (by kernel_rfl) (fun _ _ _ h => h) (Or.inl ⟨by rfl, ?_⟩) ?_ ?_
  rotate_left
  ·intro w'
   go_simp
   with_reducible rfl
  rotate_left
  ·simp only [Act.put, List.setIfInBounds_toArray, List.set_cons_zero, List.set_cons_succ, i64_w, i32_w]
   rfl
  refine done_ (by kernel_rfl) ?_
  try go_wp2
  go_ret2
  exact ⟨_, by first | rfl | (simp [errW_none, errW_some] <;> rfl) | (simp [*, errW_none, errW_some] <;> rfl), (rowN HO161.out), (belS HB.out)⟩
 ·replace c3 := Bool.eq_false_iff.mpr c3
  subst c3
  have H1 : (some (([] : List Int), 1)) = some (r1, r2) := by rw [if_neg (show ¬ (false = true) by decide)] at H; exact H
  clear H
  have H := H1
  clear H1
  simp only [Option.some.injEq, Prod.mk.injEq] at H
  obtain ⟨rfl, rfl⟩ := H
  go_enter Try.func40, Try.ntmps40
  go_wp2_with (first | ((with_reducible refine gate_dst (N := 1) rfl ?_); refine box_event ?hg (N := 1) ?hd (cs := #[.int .i64 a0_0, .int .i64 a0_1, .slice A0_2 l0_2.length c0_2]) (t := 56) ?hr ?_; (case hd => rfl); (case hg => rfl); (case hr => first | (go_simp; done) | (go_simp; rfl)); intro gb156 hg w12 hbox hb; have n0_ := Aside0.mk (below_step (belN HB.out) hb); have n1_ := Aside0.mk (hbox); have n2_ := Aside0.mk (szB hg HB.out); have n3_ := Aside0.mk (szB hg HB.out); clear HB; have HB := n0_; have BK156 := n1_; have GW156 := n2_; have GE156 := n3_; clear n0_ n1_ n2_ n3_; clear hb hbox hg; have hcz13_0 : w12.cell? ⟨gb156, 0, none⟩ = some (.int .i64 a0_0) := (blk_cell BK156.out 0).trans rfl; have hcz13_1 : w12.cell? ⟨gb156, 1, none⟩ = some (.int .i64 a0_1) := (blk_cell BK156.out 1).trans rfl; have hcz13_2 : w12.cell? ⟨gb156, 2, none⟩ = some (.slice A0_2 l0_2.length c0_2) := (blk_cell BK156.out 2).trans rfl; have hfz13_0 := blk_frozen BK156.out 0; have hfz13_1 := blk_frozen BK156.out 1; have hfz13_2 := blk_frozen BK156.out 2) | ((with_reducible refine gate_callee (f := 64) rfl ?_); refine goesL_ (some 5) rfl rfl Try.func64 (by kernel_rfl) rfl #[.agg #[.int .i64 a0_0, .int .i64 a0_1, .slice A0_2 l0_2.length c0_2]] rfl argN ?_; (with_reducible refine (rowkey_Right.calls k a0_0 a0_1 _ _ l0_2 false _ ?side1 ?side2 A2.out).mono ?_); (case side1 => repeat (first | exact (Kd.C_below HR0_2.out HB.out) | (with_reducible refine Kd.C_alloc ?_ _) | (with_reducible refine Kd.C_drewN ?_ _) | (with_reducible refine Kd.C_drew ?_))); (case side2 => exact HC0_2.out); rintro e w14 ⟨rfl, hb⟩; refine ⟨_, rfl, ?_⟩; have n0_ := Aside0.mk (bkB BK156.out hb); have n1_ := Aside0.mk (below_step (belS HB.out) hb); clear BK156; clear HB; have BK156 := n0_; have HB := n1_; clear n0_ n1_; (try clear hb)))
  go_ret2
  exact ⟨_, by first | rfl | (simp [errW_none, errW_some] <;> rfl) | (simp [*, errW_none, errW_some] <;> rfl), by first | exact Kd.R_nil _ _ _ _ _ | exact Kd.N_nil _ _ _ _ _ | exact Kd.V_nil _ _ _ _ _ | exact Kd.Q_nil _ _ _ _ _ | exact Kd.S_nil _ _ _ _ _, (belS HB.out)⟩

-- NOT PRINTED: function 84 (rowkey_read_1)

/-! ### octet_Get: function 89 -/
def getI : Int → List Int → Int
  | a, [] => a
  | a, c :: cs => getI (Go.bits .or .u64 (IntKind.u64.wrap (a * 256)) (IntKind.u64.wrap c)) cs
theorem getI_snoc (a : Int) (l : List Int) (c : Int) : getI a (l ++ [c]) = Go.bits .or .u64 (IntKind.u64.wrap (getI a l * 256)) (IntKind.u64.wrap c) := by
  induction l generalizing a with
  | nil => rfl
  | cons x xs ih => exact ih _
theorem intOf_int (k : IntKind) (q : Int) : intOf (Value.int k q) = q := rfl
theorem getI_less (n j : Nat) (h : wrap64 ((j : Int) + 1) = ((j + 1 : Nat) : Int)) (hlt : j < n) :
    n - (intOf (Value.int IntKind.i64 (wrap64 ((j : Int) + 1)))).toNat < n - (intOf (Value.int IntKind.i64 (j : Int))).toNat := by
  rw [intOf_int, intOf_int, h, Int.toNat_natCast, Int.toNat_natCast]
  exact Nat.sub_lt_sub_left hlt (Nat.lt_succ_self j)
def octet_Get.f (l0 : List Int) (a1 : Int) : Option (Int × Bool) := if a1 < 0 then (some (0, false)) else (if a1 > 8 then (some (0, false)) else (if a1 > (l0.length : Int) then (some (0, false)) else (some (getI 0 (l0.take a1.toNat), true))))
set_option maxHeartbeats 8000000 in
set_option maxRecDepth 100000 in
theorem octet_Get.small (A0 : Option Addr) (c0 : Nat) (l0 : List Int) (a1 : Int) (w : World) (c1b : decide (a1 < 0) = true) :
    Calls Try.prog 89 #[.slice A0 l0.length c0, .int .i64 a1] w fun e w' => e = .returned (.tuple #[.int .u64 0, .bool false]) ∧ Drawn0 w w' := by
  go_enter Try.func89, Try.ntmps89
  go_wp2
  repeat (go_quiet (fail); try go_wp2)
  go_ret2
  exact ⟨rfl, by repeat (first | exact Drawn0.refl _ | apply Drawn0.step)⟩
set_option maxHeartbeats 8000000 in
set_option maxRecDepth 100000 in
theorem octet_Get.great (A0 : Option Addr) (c0 : Nat) (l0 : List Int) (a1 : Int) (w : World) (c1b : decide (a1 < 0) = false) (c2b : decide (8 < a1) = true) :
    Calls Try.prog 89 #[.slice A0 l0.length c0, .int .i64 a1] w fun e w' => e = .returned (.tuple #[.int .u64 0, .bool false]) ∧ Drawn0 w w' := by
  go_enter Try.func89, Try.ntmps89
  go_wp2
  repeat (go_quiet (fail); try go_wp2)
  go_ret2
  exact ⟨rfl, by repeat (first | exact Drawn0.refl _ | apply Drawn0.step)⟩
set_option maxHeartbeats 8000000 in
set_option maxRecDepth 100000 in
theorem octet_Get.short (A0 : Option Addr) (c0 : Nat) (l0 : List Int) (a1 : Int) (w : World) (c1b : decide (a1 < 0) = false) (c2b : decide (8 < a1) = false) (c3b : decide ((l0.length : Int) < a1) = true) :
    Calls Try.prog 89 #[.slice A0 l0.length c0, .int .i64 a1] w fun e w' => e = .returned (.tuple #[.int .u64 0, .bool false]) ∧ Drawn0 w w' := by
  go_enter Try.func89, Try.ntmps89
  go_wp2
  repeat (go_quiet (fail); try go_wp2)
  go_ret2
  exact ⟨rfl, by repeat (first | exact Drawn0.refl _ | apply Drawn0.step)⟩
set_option maxHeartbeats 8000000 in
set_option maxRecDepth 100000 in
theorem octet_Get.there (A0 : Option Addr) (c0 : Nat) (l0 : List Int) (n : Nat) (w : World) (HR0 : Aside0 (Kd.C (Kd.int .u8) w A0 l0.length l0)) (HC0 : Aside0 (l0.length ≤ c0)) (HN : Aside0 (n ≤ l0.length)) (hnc : Aside0 (n ≤ 8)) :
    Calls Try.prog 89 #[.slice A0 l0.length c0, .int .i64 (n : Int)] w fun e w' => e = .returned (.tuple #[.int .u64 (getI 0 (l0.take n)), .bool true]) ∧ Drawn0 w w' := by
  have hnl := HN.out
  have hn8 := hnc.out
  have c1b : decide ((n : Int) < 0) = false := decide_eq_false (by omega)
  have c2b : decide (8 < (n : Int)) = false := decide_eq_false (by omega)
  have c3b : decide ((l0.length : Int) < (n : Int)) = false := decide_eq_false (by omega)
  have c4b : decide (l0.length < n) = false := decide_eq_false (by omega)
  have c5b : decide (8 < n) = false := decide_eq_false (by omega)
  obtain ⟨i0, hi0, _, hsz, _⟩ := info_parts info5
  have hcut := cut_to (P := Try.prog) 30 5 .i64 Try.underlying30 hi0 A0 l0.length c0 (n : Int) (by omega) (by omega) HC0.out
  rw [Int.toNat_natCast] at hcut
  clear hi0 hsz hnl hn8
  go_enter Try.func89, Try.ntmps89
  go_wp2
  repeat (go_quiet (fail); try go_wp2)
  go_loop [6, 25] (fun v6 v25 => ∃ j : Nat, j ≤ n ∧ v6 = .int .u64 (getI 0 (l0.take j)) ∧ v25 = .int .i64 (j : Int)) (fun _ v25 => n - (intOf v25).toNat)
  case atStart => exact ⟨0, Nat.zero_le _, by simp [getI], rfl⟩
  case round =>
    obtain ⟨j, hj, rfl, rfl⟩ := hrel
    by_cases hlt : j < n
    · have hln := HN.out
      have hn8 := hnc.out
      have d1 : decide (j < n) = true := decide_eq_true hlt
      have d2 : decide ((j : Int) < (n : Int)) = true := decide_eq_true (by omega)
      obtain ⟨ad, he, hx⟩ := Kd.at_int HR0.out (j : Int) (by omega) (by omega)
      have hsn := getI_snoc 0 (l0.take j) (rd l0 (j : Int))
      have hts : l0.take (j + 1) = l0.take j ++ [rd l0 (j : Int)] := by
        rw [List.take_succ_eq_append_getElem (by omega)]
        simp [rd, List.getD_eq_getElem?_getD, List.getElem?_eq_getElem (show j < l0.length by omega)]
      rw [← hts] at hsn
      have HS := Aside0.mk hsn
      cases he
      have p1 : (0 ≤ (j : Int)) = True := eq_true (by omega)
      have p2 : ((j : Int) < (n : Int)) = True := eq_true (by omega)
      have p3 : (j < n) = True := eq_true hlt
      rw [Int.toNat_natCast] at hx
      have HW := Aside0.mk (show wrap64 ((j : Int) + 1) = ((j + 1 : Nat) : Int) from by unfold wrap64; omega)
      clear hsn hts hln hj hn8 hlt
      go_wp2
      repeat (go_quiet (fail); try go_wp2)
      go_round
      case rel => exact ⟨j + 1, by have := of_eq_true p3; omega, congrArg (Value.int .u64) HS.out.symm, congrArg (Value.int .i64) HW.out⟩
      case measure => exact getI_less n j HW.out (of_eq_true p3)
    · have d1 : decide (j < n) = false := decide_eq_false hlt
      have d2 : decide ((j : Int) < (n : Int)) = false := decide_eq_false (by omega)
      have hjn : j = n := by omega
      subst hjn
      clear hlt hj
      go_wp2
      repeat (go_quiet (fail); try go_wp2)
      go_ret2
      exact ⟨rfl, by repeat (first | exact Drawn0.refl _ | apply Drawn0.step)⟩
theorem octet_Get.calls (A0 : Option Addr) (c0 : Nat) (l0 : List Int) (a1 : Int) (r1 : Int) (r2 : Bool) (w : World) (hr0 : Kd.C (Kd.int .u8) w A0 l0.length l0) (hc0 : l0.length ≤ c0) (h : octet_Get.f l0 a1 = some (r1, r2)) :
    Calls Try.prog 89 #[.slice A0 l0.length c0, .int .i64 a1] w fun e w' => e = .returned (.tuple #[.int .u64 r1, .bool r2]) ∧ Drawn0 w w' := by
  unfold octet_Get.f at h
  by_cases c1 : a1 < 0
  · rw [if_pos c1] at h
    cases h
    exact octet_Get.small A0 c0 l0 a1 w (decide_eq_true c1)
  rw [if_neg c1] at h
  by_cases c2 : a1 > 8
  · rw [if_pos c2] at h
    cases h
    exact octet_Get.great A0 c0 l0 a1 w (decide_eq_false c1) (decide_eq_true c2)
  rw [if_neg c2] at h
  by_cases c3 : a1 > (l0.length : Int)
  · rw [if_pos c3] at h
    cases h
    exact octet_Get.short A0 c0 l0 a1 w (decide_eq_false c1) (decide_eq_false c2) (decide_eq_true c3)
  rw [if_neg c3] at h
  obtain ⟨n, rfl⟩ := Int.eq_ofNat_of_zero_le (show 0 ≤ a1 by omega)
  rw [Int.toNat_natCast] at h
  cases h
  exact octet_Get.there A0 c0 l0 n w ⟨hr0⟩ ⟨hc0⟩ ⟨by omega⟩ ⟨by omega⟩

-- NOT PRINTED: function 85 (rowkey_reader_number)

/-! ### rowkey_read: function 69 -/
set_option maxHeartbeats 8000000
set_option maxRecDepth 100000
/-- A panic of the reader. -/
def lacks : List PanicEntry := [{ v := .iface 42 (.int .i64 12), recovered := false }]
theorem number_ok (A0 : Option Addr) (c0 : Nat) (l0 : List Int) (g s : Nat) (w0 w : World) (hs1 : 1 ≤ s) (hs8 : s ≤ 8) (hsl : s ≤ l0.length) (hr0 : Kd.C (Kd.int .u8) w0 A0 l0.length l0) (hc0 : l0.length ≤ c0) (HB : Below w0.heap.size w0 w)
    (hb : w.heap[g]? = some (.cells #[.slice A0 l0.length c0] 128 (0, 0))) :
    Calls Try.prog 85 #[.pointer (some ⟨g, 0, none⟩), .int .i64 (s : Int)] w fun e w' => e = .returned (.int .i64 (wrap64 (getI 0 (l0.take s)))) ∧
      ∃ A1 n, Kd.C (Kd.int .u8) w0 A1 (l0.drop s).length (l0.drop s) ∧ (l0.drop s).length ≤ c0 - s ∧ w' = (w.drewN n).setCell ⟨g, 0, none⟩ (.slice A1 (l0.drop s).length (c0 - s)) := by
  have hdrop := Kd.C_drop hr0 hsl hc0
  have hu128 := Try.underlying128
  have hc := blk_cell hb 0
  have hf := blk_frozen hb 0
  have hget : octet_Get.f l0 (s : Int) = some (getI 0 (l0.take s), true) := by
    unfold octet_Get.f
    rw [if_neg (by omega), if_neg (by omega), if_neg (by omega), Int.toNat_natCast]
  go_enter Try.func85, Try.ntmps85
  go_wp2_with (go_at_call 89; refine (octet_Get.calls A0 c0 l0 (s : Int) _ _ _ (Kd.C_below hr0 HB) hc0 hget).mono ?_; rintro e w' ⟨rfl, n, rfl⟩)
  · rw [if_pos h] at hdrop
    rw [List.length_drop] at hdrop
    go_ret
    exact ⟨rfl, _, hdrop, by omega, n, rfl⟩
  · rw [if_neg h] at hdrop
    simp only [show (Kd.int IntKind.u8).sz = 1 from rfl, Nat.mul_one, List.length_drop] at hdrop
    go_ret
    exact ⟨rfl, _, hdrop, by omega, n, rfl⟩
theorem number_short (A0 : Option Addr) (c0 : Nat) (l0 : List Int) (g s : Nat) (w0 w : World) (hs1 : 1 ≤ s) (hs8 : s ≤ 8) (hsl : l0.length < s) (hr0 : Kd.C (Kd.int .u8) w0 A0 l0.length l0) (hc0 : l0.length ≤ c0) (HB : Below w0.heap.size w0 w)
    (hb : w.heap[g]? = some (.cells #[.slice A0 l0.length c0] 128 (0, 0))) :
    Calls Try.prog 85 #[.pointer (some ⟨g, 0, none⟩), .int .i64 (s : Int)] w fun e w' => e = .panicked lacks ∧ ∃ n, w' = w.drewN n := by
  have hu128 := Try.underlying128
  have hc := blk_cell hb 0
  have hf := blk_frozen hb 0
  have hget : octet_Get.f l0 (s : Int) = some (0, false) := by
    unfold octet_Get.f
    rw [if_neg (by omega), if_neg (by omega), if_pos (by omega)]
  have hpan : ∀ (w : World), (Instr.panic (.iface 42 (.int .i64 12))).run Try.prog w = .halt (.panic (.iface 42 (.int .i64 12))) w := fun _ => rfl
  go_enter Try.func85, Try.ntmps85
  go_wp2_with (go_at_call 89; refine (octet_Get.calls A0 c0 l0 (s : Int) _ _ _ (Kd.C_below hr0 HB) hc0 hget).mono ?_; rintro e w' ⟨rfl, n, rfl⟩)
  exact ⟨rfl, rfl, n, rfl⟩
theorem catch_idle (p q o : Addr) (w : World) :
    CallsD Try.prog 84 #[.pointer (some p), .pointer (some q), .pointer (some o)] .returning w fun e u' w' => e = .returned (.tuple #[]) ∧ u' = .returning ∧ w' = w := by
  refine callsD_of_wpS Try.func84 rfl fun c₀ cs hu => ?_
  apply wpS_seq
  apply wpS_region
  simp [wpOpsS, go_sem, recoverD, hu, Try.ntmps84, Exit.thenS]
  refine wpS_cond (t := false) (by simp [Act.eval, Array.replicate]) ?_
  simp only [Bool.false_eq_true, if_false]
  refine wpS_of_wp (wp_skip ?_)
  cases c₀
  simp_all [bodyPostS, results, Try.results84]
theorem catch_panics (g gl go_ : Nat) (m b t l k : Value) (u : TypeId) (pv : Value) (older : List PanicEntry) (w : World) (hg : w.heap[g]? = some (.cells #[m, b, t] 56 (0, 0))) (hl : w.heap[gl]? = some (.cells #[l] 3 (0, 0))) (ho : w.heap[go_]? = some (.cells #[k] 4 (0, 0))) (h1 : g ≠ gl) (h2 : g ≠ go_) (h3 : gl ≠ go_) :
    CallsD Try.prog 84 #[.pointer (some ⟨g, 0, none⟩), .pointer (some ⟨gl, 0, none⟩), .pointer (some ⟨go_, 0, none⟩)] (.panicking ({ v := .iface u pv, recovered := false } :: older)) w fun e u' w' =>
      e = .returned (.tuple #[]) ∧ u' = .panicking ({ v := .iface u pv, recovered := true } :: older) ∧ w' = ((((w.setCell ⟨g, 0, none⟩ (.int .i64 0)).setCell ⟨g, 1, none⟩ (.int .i64 0)).setCell ⟨g, 2, none⟩ (.slice none 0 0)).setCell ⟨gl, 0, none⟩ (.int .i64 0)).setCell ⟨go_, 0, none⟩ (.bool false) := by
  have hu56 := Try.underlying56
  have c0 : w.cell? ⟨g, 0, none⟩ = some m := (blk_cell hg 0).trans rfl
  have c1 : w.cell? ⟨g, 1, none⟩ = some b := (blk_cell hg 1).trans rfl
  have c2 : w.cell? ⟨g, 2, none⟩ = some t := (blk_cell hg 2).trans rfl
  have c3 : w.cell? ⟨gl, 0, none⟩ = some l := (blk_cell hl 0).trans rfl
  have c4 : w.cell? ⟨go_, 0, none⟩ = some k := (blk_cell ho 0).trans rfl
  have f0 := blk_frozen hg 0
  have f1 := blk_frozen hg 1
  have f2 := blk_frozen hg 2
  have f3 := blk_frozen hl 0
  have f4 := blk_frozen ho 0
  refine callsD_of_wpS Try.func84 rfl fun c₀ cs hu => ?_
  apply wpS_seq
  apply wpS_region
  simp [wpOpsS, go_sem, recoverD, hu, Try.ntmps84, Exit.thenS]
  refine wpS_cond (t := true) (by simp [Act.eval, Array.replicate]) ?_
  simp only [if_true]
  apply wpS_region
  simp [wpOpsS, go_sem, c0, c1, c2, c3, c4, f0, f1, f2, f3, f4, h1, h2, h3, bodyPostS, results, Try.results84]
theorem door_ret {R : Ending → World → Prop} {tmps : Array Value} {g gl go_ : Nat} {m b t l k : Value} {w : World} (h2 : tmps[2]? = some (.pointer (some ⟨g, 0, none⟩))) (h3 : tmps[3]? = some (.pointer (some ⟨gl, 0, none⟩))) (h4 : tmps[4]? = some (.pointer (some ⟨go_, 0, none⟩)))
    (hg : w.heap[g]? = some (.cells #[m, b, t] 56 (0, 0))) (hl : w.heap[gl]? = some (.cells #[l] 3 (0, 0))) (ho : w.heap[go_]? = some (.cells #[k] 4 (0, 0))) (hR : R (.returned (.tuple #[.agg #[m, b, t], l, k])) w) :
    bodyPostD Try.prog Try.f69 R Exit.ret { tmps := tmps, defers := [{ target := Target.fn (Fn.func 84) #[.pointer (some ⟨g, 0, none⟩), .pointer (some ⟨gl, 0, none⟩), .pointer (some ⟨go_, 0, none⟩)], args := #[] }] } w := by
  have hu56 := Try.underlying56
  have c0 : w.cell? ⟨g, 0, none⟩ = some m := (blk_cell hg 0).trans rfl
  have c1 : w.cell? ⟨g, 1, none⟩ = some b := (blk_cell hg 1).trans rfl
  have c2 : w.cell? ⟨g, 2, none⟩ = some t := (blk_cell hg 2).trans rfl
  have c3 : w.cell? ⟨gl, 0, none⟩ = some l := (blk_cell hl 0).trans rfl
  have c4 : w.cell? ⟨go_, 0, none⟩ = some k := (blk_cell ho 0).trans rfl
  refine leaves_cons (f := 84) (args := #[.pointer (some ⟨g, 0, none⟩), .pointer (some ⟨gl, 0, none⟩), .pointer (some ⟨go_, 0, none⟩)]) (by simp) (by simp [go_sem]) ?_
  refine (catch_idle _ _ _ w).mono ?_
  rintro e u' w'' ⟨rfl, rfl, rfl⟩
  simp [Leaves, settle, results, Try.results69, go_sem, h2, h3, h4, c0, c1, c2, c3, c4, hR]
theorem door_panic {R : Ending → World → Prop} {tmps : Array Value} {g gl go_ : Nat} {m b t l k : Value} {w : World} (h2 : tmps[2]? = some (.pointer (some ⟨g, 0, none⟩))) (h3 : tmps[3]? = some (.pointer (some ⟨gl, 0, none⟩))) (h4 : tmps[4]? = some (.pointer (some ⟨go_, 0, none⟩)))
    (hg : w.heap[g]? = some (.cells #[m, b, t] 56 (0, 0))) (hl : w.heap[gl]? = some (.cells #[l] 3 (0, 0))) (ho : w.heap[go_]? = some (.cells #[k] 4 (0, 0))) (n1 : g ≠ gl) (n2 : g ≠ go_) (n3 : gl ≠ go_)
    (hR : R (.returned (.tuple #[.agg #[.int .i64 0, .int .i64 0, .slice none 0 0], .int .i64 0, .bool false])) (((((w.setCell ⟨g, 0, none⟩ (.int .i64 0)).setCell ⟨g, 1, none⟩ (.int .i64 0)).setCell ⟨g, 2, none⟩ (.slice none 0 0)).setCell ⟨gl, 0, none⟩ (.int .i64 0)).setCell ⟨go_, 0, none⟩ (.bool false))) :
    bodyPostD Try.prog Try.f69 R (Exit.panic lacks) { tmps := tmps, defers := [{ target := Target.fn (Fn.func 84) #[.pointer (some ⟨g, 0, none⟩), .pointer (some ⟨gl, 0, none⟩), .pointer (some ⟨go_, 0, none⟩)], args := #[] }] } w := by
  have hu56 := Try.underlying56
  have hg' := blk_far (p := ⟨go_, 0, none⟩) (blk_far (p := ⟨gl, 0, none⟩) (blk_put (blk_put (blk_put hg 0 (.int .i64 0) rfl) 1 (.int .i64 0) rfl) 2 (.slice none 0 0) rfl) n1 (.int .i64 0)) n2 (.bool false)
  have hl' := blk_far (p := ⟨go_, 0, none⟩) (blk_put (blk_far (p := ⟨g, 2, none⟩) (blk_far (p := ⟨g, 1, none⟩) (blk_far (p := ⟨g, 0, none⟩) hl (Ne.symm n1) (.int .i64 0)) (Ne.symm n1) (.int .i64 0)) (Ne.symm n1) (.slice none 0 0)) 0 (.int .i64 0) rfl) n3 (.bool false)
  have ho' := blk_put (blk_far (p := ⟨gl, 0, none⟩) (blk_far (p := ⟨g, 2, none⟩) (blk_far (p := ⟨g, 1, none⟩) (blk_far (p := ⟨g, 0, none⟩) ho (Ne.symm n2) (.int .i64 0)) (Ne.symm n2) (.int .i64 0)) (Ne.symm n2) (.slice none 0 0)) (Ne.symm n3) (.int .i64 0)) 0 (.bool false) rfl
  refine leaves_cons (f := 84) (args := #[.pointer (some ⟨g, 0, none⟩), .pointer (some ⟨gl, 0, none⟩), .pointer (some ⟨go_, 0, none⟩)]) (by simp) (by simp [go_sem]) ?_
  refine (catch_panics g gl go_ m b t l k 42 _ [] w hg hl ho n1 n2 n3).mono ?_
  rintro e u' w'' ⟨rfl, rfl, rfl⟩
  generalize (((((w.setCell ⟨g, 0, none⟩ (.int .i64 0)).setCell ⟨g, 1, none⟩ (.int .i64 0)).setCell ⟨g, 2, none⟩ (.slice none 0 0)).setCell ⟨gl, 0, none⟩ (.int .i64 0)).setCell ⟨go_, 0, none⟩ (.bool false)) = W at hg' hl' ho' hR ⊢
  have c0 : W.cell? ⟨g, 0, none⟩ = some (.int .i64 0) := (blk_cell hg' 0).trans rfl
  have c1 : W.cell? ⟨g, 1, none⟩ = some (.int .i64 0) := (blk_cell hg' 1).trans rfl
  have c2 : W.cell? ⟨g, 2, none⟩ = some (.slice none 0 0) := (blk_cell hg' 2).trans rfl
  have c3 : W.cell? ⟨gl, 0, none⟩ = some (.int .i64 0) := (blk_cell hl' 0).trans rfl
  have c4 : W.cell? ⟨go_, 0, none⟩ = some (.bool false) := (blk_cell ho' 0).trans rfl
  simp [Leaves, settle, results, Try.results69, go_sem, h2, h3, h4, c0, c1, c2, c3, c4, hR]
/-- How the four blocks stand: the row (its numbers, its tags), how many are left, whether they sufficed, the reader. -/
structure RS (w w' : World) (gl go_ gr : Nat) (m b : Int) (v0 : Value) (q : List Int) (acc : List S53) : Prop where
  row : w'.heap[w.heap.size]? = some (.cells #[.int .i64 m, .int .i64 b, v0] 56 (0, 0)) ∧ Kd.R k53 53 w' w.heap.size (fun k => ((k ≠ w.heap.size ∧ k ≠ gl) ∧ k ≠ go_) ∧ k ≠ gr) v0 acc
  left : w'.heap[gl]? = some (.cells #[.int .i64 0] 3 (0, 0))
  good : w'.heap[go_]? = some (.cells #[.bool false] 4 (0, 0))
  rd : ∃ A c, w'.heap[gr]? = some (.cells #[.slice A q.length c] 128 (0, 0)) ∧ Kd.C (Kd.int .u8) w A q.length q ∧ q.length ≤ c
  below : Below w.heap.size w w'
/-- Four blocks, each of its own. -/
structure Four (H gl go_ gr : Nat) : Prop where
  l : gl = H + 1
  o : go_ = H + 1 + 1
  r : gr = H + 1 + 1 + 1
theorem RS_number {w w' : World} {gl go_ gr : Nat} {m b : Int} {v0 : Value} {q : List Int} {acc : List S53} (h4 : Four w.heap.size gl go_ gr) (h : RS w w' gl go_ gr m b v0 q acc) (s : Nat) (hs1 : 1 ≤ s) (hs8 : s ≤ 8) (hsl : s ≤ q.length) :
    Calls Try.prog 85 #[.pointer (some ⟨gr, 0, none⟩), .int .i64 (s : Int)] w' fun e w'' => e = .returned (.int .i64 (wrap64 (getI 0 (q.take s)))) ∧ RS w w'' gl go_ gr m b v0 (q.drop s) acc := by
  obtain ⟨⟨hH, hR⟩, hL, hO, ⟨A, c, hr, hC, hc⟩, HB⟩ := h
  obtain ⟨e1, e2, e3⟩ := h4
  refine (number_ok A c q gr s w w' hs1 hs8 hsl hC hc HB hr).mono ?_
  rintro e w'' ⟨rfl, A1, n, hC1, hc1, rfl⟩
  refine ⟨rfl, ⟨?_, ?_⟩, ?_, ?_, ⟨A1, c - s, ?_, hC1, hc1⟩, ?_⟩
  · exact blk_far (p := ⟨gr, 0, none⟩) (blk_drewN hH n) (show w.heap.size ≠ gr by omega) _
  · exact Kd.R_far (p := ⟨gr, 0, none⟩) (Kd.R_drewN hR n) (fun _ hk => hk.2) _
  · exact blk_far (p := ⟨gr, 0, none⟩) (blk_drewN hL n) (show gl ≠ gr by omega) _
  · exact blk_far (p := ⟨gr, 0, none⟩) (blk_drewN hO n) (show go_ ≠ gr by omega) _
  · exact (blk_put (blk_drewN hr n) 0 _ rfl).trans rfl
  · exact below_set (j := 0) (pw_below_drewN HB n) (show w.heap.size ≤ gr by omega)
theorem RS_short {w w' : World} {gl go_ gr : Nat} {m b : Int} {v0 : Value} {q : List Int} {acc : List S53} (h4 : Four w.heap.size gl go_ gr) (h : RS w w' gl go_ gr m b v0 q acc) (s : Nat) (hs1 : 1 ≤ s) (hs8 : s ≤ 8) (hsl : q.length < s) :
    Calls Try.prog 85 #[.pointer (some ⟨gr, 0, none⟩), .int .i64 (s : Int)] w' fun e w'' => e = .panicked lacks ∧ RS w w'' gl go_ gr m b v0 q acc := by
  obtain ⟨⟨hH, hR⟩, hL, hO, ⟨A, c, hr, hC, hc⟩, HB⟩ := h
  refine (number_short A c q gr s w w' hs1 hs8 hsl hC hc HB hr).mono ?_
  rintro e w'' ⟨rfl, n, rfl⟩
  exact ⟨rfl, ⟨blk_drewN hH n, Kd.R_drewN hR n⟩, blk_drewN hL n, blk_drewN hO n, ⟨A, c, blk_drewN hr n, hC, hc⟩, pw_below_drewN HB n⟩
theorem RS_any {w w' : World} {gl go_ gr : Nat} {m b : Int} {v0 : Value} {q : List Int} {acc : List S53} (h4 : Four w.heap.size gl go_ gr) (h : RS w w' gl go_ gr m b v0 q acc) (s : Nat) (hs1 : 1 ≤ s) (hs8 : s ≤ 8) :
    Calls Try.prog 85 #[.pointer (some ⟨gr, 0, none⟩), .int .i64 (s : Int)] w' fun e w'' => (q.length < s ∧ e = .panicked lacks ∧ RS w w'' gl go_ gr m b v0 q acc) ∨ (¬ q.length < s ∧ e = .returned (.int .i64 (wrap64 (getI 0 (q.take s)))) ∧ RS w w'' gl go_ gr m b v0 (q.drop s) acc) := by
  by_cases hs : q.length < s
  · exact (RS_short h4 h s hs1 hs8 hs).mono fun _ _ hh => Or.inl ⟨hs, hh⟩
  · exact (RS_number h4 h s hs1 hs8 (by omega)).mono fun _ _ hh => Or.inr ⟨hs, hh⟩
theorem RS_store {w w' : World} {gl go_ gr : Nat} {m b : Int} {v0 : Value} {q : List Int} {acc : List S53} (h4 : Four w.heap.size gl go_ gr) (h : RS w w' gl go_ gr m b v0 q acc) (m' b' : Int) :
    RS w ((w'.setCell ⟨w.heap.size, 0, none⟩ (.int .i64 m')).setCell ⟨w.heap.size, 1, none⟩ (.int .i64 b')) gl go_ gr m' b' v0 q acc := by
  obtain ⟨⟨hH, hR⟩, hL, hO, ⟨A, c, hr, hC, hc⟩, HB⟩ := h
  obtain ⟨e1, e2, e3⟩ := h4
  refine ⟨⟨(blk_put (blk_put hH 0 (.int .i64 m') rfl) 1 (.int .i64 b') rfl).trans rfl, ?_⟩, ?_, ?_, ⟨A, c, ?_, hC, hc⟩, below_set (below_set HB (Nat.le_refl _)) (Nat.le_refl _)⟩
  · exact Kd.R_far (p := ⟨w.heap.size, 1, none⟩) (Kd.R_far (p := ⟨w.heap.size, 0, none⟩) hR (fun _ hk => hk.1.1.1) _) (fun _ hk => hk.1.1.1) _
  · exact blk_far (p := ⟨w.heap.size, 1, none⟩) (blk_far (p := ⟨w.heap.size, 0, none⟩) hL (show gl ≠ w.heap.size by omega) _) (show gl ≠ w.heap.size by omega) _
  · exact blk_far (p := ⟨w.heap.size, 1, none⟩) (blk_far (p := ⟨w.heap.size, 0, none⟩) hO (show go_ ≠ w.heap.size by omega) _) (show go_ ≠ w.heap.size by omega) _
  · exact blk_far (p := ⟨w.heap.size, 1, none⟩) (blk_far (p := ⟨w.heap.size, 0, none⟩) hr (show gr ≠ w.heap.size by omega) _) (show gr ≠ w.heap.size by omega) _
/-- What read tells. -/
def Told (w : World) (r1 r2 : Int) (r3 : List S53) (r4 : Int) (r5 : Bool) (e : Ending) (w' : World) : Prop :=
  ∃ v2_ : Value, e = .returned (.tuple #[.agg #[.int .i64 r1, .int .i64 r2, v2_], .int .i64 r4, .bool r5]) ∧ Kd.R k53 53 w' w.heap.size (fun _ => True) v2_ r3 ∧ Below w.heap.size w w'
theorem out_panic {w w' : World} {gl go_ gr : Nat} {m b : Int} {v0 : Value} {q : List Int} {acc : List S53} {tmps : Array Value} (h4 : Four w.heap.size gl go_ gr) (h : RS w w' gl go_ gr m b v0 q acc) (t2 : tmps[2]? = some (.pointer (some ⟨w.heap.size, 0, none⟩))) (t3 : tmps[3]? = some (.pointer (some ⟨gl, 0, none⟩))) (t4 : tmps[4]? = some (.pointer (some ⟨go_, 0, none⟩))) :
    bodyPostD Try.prog Try.f69 (Told w 0 0 [] 0 false) (Exit.panic lacks) { tmps := tmps, defers := [{ target := Target.fn (Fn.func 84) #[.pointer (some ⟨w.heap.size, 0, none⟩), .pointer (some ⟨gl, 0, none⟩), .pointer (some ⟨go_, 0, none⟩)], args := #[] }] } w' := by
  obtain ⟨⟨hH, hR⟩, hL, hO, -, HB⟩ := h
  obtain ⟨e1, e2, e3⟩ := h4
  refine door_panic t2 t3 t4 hH hL hO (by omega) (by omega) (by omega) ⟨_, rfl, Kd.R_nil _ _ _ _ _, ?_⟩
  exact below_set (below_set (below_set (below_set (below_set HB (Nat.le_refl _)) (Nat.le_refl _)) (Nat.le_refl _)) (by omega)) (by omega)
theorem out_ret {w w' : World} {gl go_ gr : Nat} {m b : Int} {v0 : Value} {q : List Int} {acc : List S53} {tmps : Array Value} (h4 : Four w.heap.size gl go_ gr) (h : RS w w' gl go_ gr m b v0 q acc) (t2 : tmps[2]? = some (.pointer (some ⟨w.heap.size, 0, none⟩))) (t3 : tmps[3]? = some (.pointer (some ⟨gl, 0, none⟩))) (t4 : tmps[4]? = some (.pointer (some ⟨go_, 0, none⟩))) :
    bodyPostD Try.prog Try.f69 (Told w m b acc (q.length : Int) true) Exit.ret { tmps := tmps, defers := [{ target := Target.fn (Fn.func 84) #[.pointer (some ⟨w.heap.size, 0, none⟩), .pointer (some ⟨gl, 0, none⟩), .pointer (some ⟨go_, 0, none⟩)], args := #[] }] } (((((w'.drew.setCell ⟨w.heap.size, 0, none⟩ (.int .i64 m)).setCell ⟨w.heap.size, 1, none⟩ (.int .i64 b)).setCell ⟨w.heap.size, 2, none⟩ v0).setCell ⟨gl, 0, none⟩ (.int .i64 (q.length : Int))).setCell ⟨go_, 0, none⟩ (.bool true)) := by
  obtain ⟨⟨hH, hR⟩, hL, hO, -, HB⟩ := h
  obtain ⟨e1, e2, e3⟩ := h4
  have n1 : w.heap.size ≠ gl := by omega
  have n2 : w.heap.size ≠ go_ := by omega
  have n3 : gl ≠ go_ := by omega
  have hH' := blk_far (p := ⟨go_, 0, none⟩) (blk_far (p := ⟨gl, 0, none⟩) (blk_put (blk_put (blk_put (blk_drew hH) 0 (.int .i64 m) rfl) 1 (.int .i64 b) rfl) 2 v0 rfl) n1 (.int .i64 (q.length : Int))) n2 (.bool true)
  have hL' := blk_far (p := ⟨go_, 0, none⟩) (blk_put (blk_far (p := ⟨w.heap.size, 2, none⟩) (blk_far (p := ⟨w.heap.size, 1, none⟩) (blk_far (p := ⟨w.heap.size, 0, none⟩) (blk_drew hL) (Ne.symm n1) (.int .i64 m)) (Ne.symm n1) (.int .i64 b)) (Ne.symm n1) v0) 0 (.int .i64 (q.length : Int)) rfl) n3 (.bool true)
  have hO' := blk_put (blk_far (p := ⟨gl, 0, none⟩) (blk_far (p := ⟨w.heap.size, 2, none⟩) (blk_far (p := ⟨w.heap.size, 1, none⟩) (blk_far (p := ⟨w.heap.size, 0, none⟩) (blk_drew hO) (Ne.symm n2) (.int .i64 m)) (Ne.symm n2) (.int .i64 b)) (Ne.symm n2) v0) (Ne.symm n3) (.int .i64 (q.length : Int))) 0 (.bool true) rfl
  refine door_ret t2 t3 t4 hH' hL' hO' ⟨_, rfl, ?_, ?_⟩
  · refine Kd.R_mono (Kd.R_far (p := ⟨go_, 0, none⟩) (Kd.R_far (p := ⟨gl, 0, none⟩) (Kd.R_far (p := ⟨w.heap.size, 2, none⟩) (Kd.R_far (p := ⟨w.heap.size, 1, none⟩) (Kd.R_far (p := ⟨w.heap.size, 0, none⟩) (Kd.R_drew hR) (fun _ hk => hk.1.1.1) _) (fun _ hk => hk.1.1.1) _) (fun _ hk => hk.1.1.1) _) (fun _ hk => hk.1.1.2) _) (fun _ hk => hk.1.2) _) (fun _ _ => trivial)
  · exact below_set (below_set (below_set (below_set (below_set (below_drew1 HB) (Nat.le_refl _)) (Nat.le_refl _)) (Nat.le_refl _)) (by omega)) (by omega)
theorem RS_drew {w w' : World} {gl go_ gr : Nat} {m b : Int} {v0 : Value} {q : List Int} {acc : List S53} (h : RS w w' gl go_ gr m b v0 q acc) : RS w w'.drew gl go_ gr m b v0 q acc := by
  obtain ⟨⟨hH, hR⟩, hL, hO, ⟨A, c, hr, hC, hc⟩, HB⟩ := h
  exact ⟨⟨blk_drew hH, Kd.R_drew hR⟩, blk_drew hL, blk_drew hO, ⟨A, c, blk_drew hr, hC, hc⟩, below_drew1 HB⟩
theorem goesP_ {P : Program} {Q : Exit → Act → World → Prop} {ops : Array Oper} {oi : Oper} {N : Option Tmp} {a : Act} {w : World} {K : Act → World → Prop} {f : FuncId} {fn : Func} {xs : Array Operand} {ts : Array TypeId} (hf : P.funcs[f]? = some fn) (hname : (fn.name == "runtime.NumGoroutine") = false) (hb : fn.body.isSome = true) (args : Array Value)
    (hw : Region.wanted oi (yielded ops a.tmps) = true) (hN : oi.dst = N) (hop : oi.op = .call { callee := .value (.func f), args := xs, argTypes := ts }) (hargs : xs.map a.eval = args)
    (h : Calls P f args w fun e w' => ∃ c, e = .panicked c ∧ Q (.panic c) a w') : if Region.wanted oi (yielded ops a.tmps) = true then Oper.wp P oi a w K Q else K (a.put N undef) w := by
  rw [if_pos hw]
  have he := enters_ hf hname hb args w
  have hrun : (execOp a.eval oi).run P w = .ok (.enter f args) w := by
    unfold execOp
    simp [hop, resolve, Deferred.ofValue, invoke, Act.eval, hargs, he]
  unfold Oper.wp
  rw [hrun, Oper.upon_enter]
  refine h.mono fun e w'' hh => ?_
  obtain ⟨c, rfl, hk⟩ := hh
  exact hk
def tagsI (m b : Int) : Nat → List Int → List S53 → Option (Int × Int × (List S53) × Int × Bool)
  | 0, q, acc => some (m, b, acc, (q.length : Int), true)
  | n + 1, q, acc => if acc.length < 8796093022207 then (if q.length < 3 then some (0, 0, [], 0, false) else (if (q.drop 3).length < 3 then some (0, 0, [], 0, false) else tagsI m b n ((q.drop 3).drop 3) (acc ++ [⟨wrap64 (getI 0 (q.take 3)), wrap64 (getI 0 ((q.drop 3).take 3))⟩]))) else none
def rowkey_read.f (l0 : List Int) : Option (Int × Int × (List S53) × Int × Bool) :=
  if l0.length < 1 then some (0, 0, [], 0, false) else
  if (l0.drop 1).length < 3 then some (0, 0, [], 0, false) else
  if ((l0.drop 1).drop 3).length < 4 then some (0, 0, [], 0, false) else
  if (((l0.drop 1).drop 3).drop 4).length < 1 then some (0, 0, [], 0, false) else
  if wrap64 (getI 0 ((((l0.drop 1).drop 3).drop 4).take 1)) < 65536 then tagsI (wrap64 (getI 0 ((l0.drop 1).take 3))) (wrap64 (getI 0 (((l0.drop 1).drop 3).take 4))) (wrap64 (getI 0 ((((l0.drop 1).drop 3).drop 4).take 1))).toNat ((((l0.drop 1).drop 3).drop 4).drop 1) [] else none
theorem leaves_res {P : Program} {fn : Func} {t t' : Array Value} {R : Ending → World → Prop} (ht : results fn t = results fn t') : ∀ (ds : List Deferred) (u : FrameMode) (w : World), Leaves P fn t R ds u w → Leaves P fn t' R ds u w := by
  intro ds
  induction ds with
  | nil =>
    intro u w h
    cases u with
    | run => exact h
    | returning => obtain ⟨v, hv, hR⟩ := h; exact ⟨v, ht ▸ hv, hR⟩
    | panicking c => exact h
  | cons d ds ih =>
    intro u w h
    obtain ⟨hu, fv, cap, f, args, h1, h2, h3⟩ := h
    refine ⟨hu, fv, cap, f, args, h1, h2, ?_⟩
    refine h3.mono ?_
    intro e u' w' hh
    cases e with
    | returned v => exact ih _ _ hh
    | panicked c => exact ih _ _ hh
    | outgrown => exact hh
theorem put_res (t : Array Value) (n : Nat) (v : Value) (h2 : n ≠ 2) (h3 : n ≠ 3) (h4 : n ≠ 4) : results Try.f69 (t.setIfInBounds n v) = results Try.f69 t := by
  simp [results, Try.results69, go_sem, Array.getElem?_setIfInBounds, h2, h3, h4]
theorem panic_put {Q : Exit → Act → World → Prop} {R : Ending → World → Prop} {n : Nat} (h2 : n ≠ 2) (h3 : n ≠ 3) (h4 : n ≠ 4) (v : Value) (c : List PanicEntry) (a : Act) (w : World)
    (h : Q (.panic c) (a.put (some n) v) w) (hq : ∀ a, Q (.panic c) a w = Leaves Try.prog Try.f69 a.tmps R a.defers (.panicking c) w := by intro a; rfl) : Q (.panic c) a w := by
  rw [hq] at h ⊢
  exact leaves_res (put_res a.tmps n v h2 h3 h4) _ _ _ h
theorem rowkey_read.calls (A0 : Option Addr) (c0 : Nat) (l0 : List Int) (r1 : Int) (r2 : Int) (r3 : List S53) (r4 : Int) (r5 : Bool) (w : World) (hr0 : Kd.C (Kd.int .u8) w A0 l0.length l0) (hc0 : l0.length ≤ c0) (h : rowkey_read.f l0 = some (r1, r2, r3, r4, r5)) :
    Calls Try.prog 69 #[.slice A0 l0.length c0] w fun e w' => ∃ v2_ : Value, e = .returned (.tuple #[.agg #[.int .i64 r1, .int .i64 r2, v2_], .int .i64 r4, .bool r5]) ∧ Kd.R k53 53 w' w.heap.size (fun _ => True) v2_ r3 ∧ Below w.heap.size w w' := by
  have hmf : ∀ (fn : Fn) (first cap : Array Value) (w : World), (Instr.makeFunc fn first cap).run Try.prog w = .ok (.func fn first cap) w := fun _ _ _ _ => rfl
  have hu128 := Try.underlying128
  have hu56 := Try.underlying56
  show Calls Try.prog 69 #[.slice A0 l0.length c0] w (Told w r1 r2 r3 r4 r5)
  go_enter_defers Try.func69, Try.ntmps69
  have hRS0 : RS w ((((w.alloc (Obj.cells #[Value.int .i64 0, Value.int .i64 0, Value.slice none 0 0] 56)).alloc (Obj.cells #[Value.int .i64 0] 3)).alloc (Obj.cells #[Value.bool false] 4)).alloc (Obj.cells #[Value.slice A0 l0.length c0] 128)) (w.heap.size + 1) (w.heap.size + 1 + 1) (w.heap.size + 1 + 1 + 1) 0 0 (.slice none 0 0) l0 [] := by
    have z1 : (w.alloc (Obj.cells #[Value.int .i64 0, Value.int .i64 0, Value.slice none 0 0] 56)).heap.size = w.heap.size + 1 := Array.size_push _
    have z2 : ((w.alloc (Obj.cells #[Value.int .i64 0, Value.int .i64 0, Value.slice none 0 0] 56)).alloc (Obj.cells #[Value.int .i64 0] 3)).heap.size = w.heap.size + 1 + 1 := by rw [← z1]; exact Array.size_push _
    have z3 : (((w.alloc (Obj.cells #[Value.int .i64 0, Value.int .i64 0, Value.slice none 0 0] 56)).alloc (Obj.cells #[Value.int .i64 0] 3)).alloc (Obj.cells #[Value.bool false] 4)).heap.size = w.heap.size + 1 + 1 + 1 := by rw [← z2]; exact Array.size_push _
    have b0 := blk_alloc (blk_alloc (blk_alloc (blk_new w (Obj.cells #[Value.int .i64 0, Value.int .i64 0, Value.slice none 0 0] 56)) (Obj.cells #[Value.int .i64 0] 3)) (Obj.cells #[Value.bool false] 4)) (Obj.cells #[Value.slice A0 l0.length c0] 128)
    have b1 := blk_alloc (blk_alloc (blk_new (w.alloc (Obj.cells #[Value.int .i64 0, Value.int .i64 0, Value.slice none 0 0] 56)) (Obj.cells #[Value.int .i64 0] 3)) (Obj.cells #[Value.bool false] 4)) (Obj.cells #[Value.slice A0 l0.length c0] 128)
    have b2 := blk_alloc (blk_new ((w.alloc (Obj.cells #[Value.int .i64 0, Value.int .i64 0, Value.slice none 0 0] 56)).alloc (Obj.cells #[Value.int .i64 0] 3)) (Obj.cells #[Value.bool false] 4)) (Obj.cells #[Value.slice A0 l0.length c0] 128)
    have b3 := blk_new (((w.alloc (Obj.cells #[Value.int .i64 0, Value.int .i64 0, Value.slice none 0 0] 56)).alloc (Obj.cells #[Value.int .i64 0] 3)).alloc (Obj.cells #[Value.bool false] 4)) (Obj.cells #[Value.slice A0 l0.length c0] 128)
    rw [z1] at b1
    rw [z2] at b2
    rw [z3] at b3
    exact ⟨⟨b0, Kd.R_nil _ _ _ _ _⟩, b1, b2, ⟨A0, c0, b3, hr0, hc0⟩, below_alloc (below_alloc (below_alloc (below_alloc (Below.refl _ _) _) _) _) _⟩
  have h4 : Four w.heap.size (w.heap.size + 1) (w.heap.size + 1 + 1) (w.heap.size + 1 + 1 + 1) := ⟨rfl, rfl, rfl⟩
  unfold rowkey_read.f at h
  go_wp2_with (first | (go_at_call 85; refine (RS_any h4 hRS4 1 (by decide) (by decide)).mono ?_; rintro e w5 (⟨s4, rfl, hRS5⟩ | ⟨s4, rfl, hRS5⟩); (rw [if_pos s4] at h; cases h; exact out_panic h4 hRS5 rfl rfl rfl); rw [if_neg s4] at h; clear hRS4 hRS3 hf0 hf1 hc0_ hc1_; generalize wrap64 (getI 0 (q3.take 1)) = n at h ⊢; generalize q3.drop 1 = q4 at h hRS5; clear s4) | (go_at_call 85; refine (RS_any h4 hRS2 4 (by decide) (by decide)).mono ?_; rintro e w3 (⟨s3, rfl, hRS3⟩ | ⟨s3, rfl, hRS3⟩); (rw [if_pos s3] at h; cases h; exact out_panic h4 hRS3 rfl rfl rfl); rw [if_neg s3] at h; clear hRS2; generalize hb : wrap64 (getI 0 (q2.take 4)) = b at h ⊢; generalize q2.drop 4 = q3 at h hRS3; clear s3 hb; have hf0 := blk_frozen hRS3.row.1 0; have hf1 := blk_frozen hRS3.row.1 1; have hc0_ := (blk_cell hRS3.row.1 0).trans rfl; have hc1_ := (blk_cell hRS3.row.1 1).trans rfl; have hRS4 := RS_store h4 hRS3 m b) | (go_at_call 85; refine (RS_any h4 hRS1 3 (by decide) (by decide)).mono ?_; rintro e w2 (⟨s2, rfl, hRS2⟩ | ⟨s2, rfl, hRS2⟩); (rw [if_pos s2] at h; cases h; exact out_panic h4 hRS2 rfl rfl rfl); rw [if_neg s2] at h; clear hRS1; generalize hm : wrap64 (getI 0 (q1.take 3)) = m at h ⊢; generalize q1.drop 3 = q2 at h hRS2; clear s2 hm) | (go_at_call 85; refine (RS_any h4 hRS0 1 (by decide) (by decide)).mono ?_; rintro e w1 (⟨s1, rfl, hRS1⟩ | ⟨s1, rfl, hRS1⟩); (rw [if_pos s1] at h; cases h; exact out_panic h4 hRS1 rfl rfl rfl); rw [if_neg s1] at h; clear hRS0; generalize l0.drop 1 = q1 at h hRS1; clear s1))
  by_cases hn6_ : ¬ n < 65536
  · rw [if_neg hn6_] at h; cases h
  have hn6 : n < 65536 := by omega
  clear hn6_
  rw [if_pos hn6] at h
  go_loopg [6] (n.toNat + 1) (fun kq v6 w' => ∃ (N : Int) (q : List Int) (v0 : Value) (acc : List S53), v6 = .int .i64 N ∧ Aside0 (N.toNat < kq ∧ N < 65536) ∧ Aside0 (tagsI m b N.toNat q acc = some (r1, r2, r3, r4, r5)) ∧ Aside0 (RS w w' (w.heap.size + 1) (w.heap.size + 1 + 1) (w.heap.size + 1 + 1 + 1) m b v0 q acc))
  case atStart => exact ⟨n, q4, _, [], rfl, ⟨Nat.lt_succ_self _, hn6⟩, ⟨h⟩, ⟨hRS5⟩⟩
  case round =>
    clear hRS5 h
    obtain ⟨N, q, v0, acc, rfl, hlt, hr, hrs⟩ := hrel
    have hr := hr.out
    have hrs := hrs.out
    obtain ⟨Ao, co, rfl, hco, hRo⟩ := Kd.R_reads hrs.row.2
    have hH := hrs.row.1
    have hc0_ : wr.cell? ⟨w.heap.size, 0, none⟩ = some (.int .i64 m) := (blk_cell hH 0).trans rfl
    have hc1_ : wr.cell? ⟨w.heap.size, 1, none⟩ = some (.int .i64 b) := (blk_cell hH 1).trans rfl
    have hc2_ : wr.cell? ⟨w.heap.size, 2, none⟩ = some (.slice Ao acc.length co) := (blk_cell hH 2).trans rfl
    obtain ⟨A, c, hrd, hC, hc⟩ := hrs.rd
    have hc3_ : wr.cell? ⟨w.heap.size + 1 + 1 + 1, 0, none⟩ = some (.slice A q.length c) := (blk_cell hrd 0).trans rfl
    by_cases hN_ : ¬ N > 0
    · have hN0 : N.toNat = 0 := by omega
      rw [hN0] at hr
      simp only [tagsI, Option.some.injEq, Prod.mk.injEq] at hr
      obtain ⟨e1, e2, e3, e4, e5⟩ := hr
      subst e1
      subst e2
      subst e3
      subst e4
      subst e5
      have hS : (fun w' : World => w'.cell? ⟨w.heap.size, 0, none⟩ = some (.int .i64 m) ∧ w'.cell? ⟨w.heap.size, 1, none⟩ = some (.int .i64 b) ∧ w'.cell? ⟨w.heap.size, 2, none⟩ = some (.slice Ao acc.length co) ∧ w'.cell? ⟨w.heap.size + 1 + 1 + 1, 0, none⟩ = some (.slice A q.length c)) wr.drew := ⟨hc0_, hc1_, hc2_, hc3_⟩
      have hz0 := blk_frozen hH 0
      have hz1 := blk_frozen hH 1
      have hz2 := blk_frozen hH 2
      have hzl := blk_frozen hrs.left 0
      have hzo := blk_frozen hrs.good 0
      have hcl := (blk_cell hrs.left 0).trans rfl
      have hco := (blk_cell hrs.good 0).trans rfl
      go_wp2
      refine start_ (n := 9) (S := fun w' => w'.cell? ⟨w.heap.size, 0, none⟩ = some (.int .i64 m) ∧ w'.cell? ⟨w.heap.size, 1, none⟩ = some (.int .i64 b) ∧ w'.cell? ⟨w.heap.size, 2, none⟩ = some (.slice Ao acc.length co) ∧ w'.cell? ⟨w.heap.size + 1 + 1 + 1, 0, none⟩ = some (.slice A q.length c)) (ds := [7, 8]) #[false, false, false, false, false, false, false, false, false] (by kernel_rfl) rfl rfl hS (fun _ => ?_)
      refine take_ (i := 0) (N := some 35) (v := (.agg #[.int .i64 m, .int .i64 b, .slice Ao acc.length co])) (a' := ?a0) #[true, false, false, false, false, false, false, false, false] rfl rfl (by kernel_rfl) (fun c a w h => panic_put (by decide) (by decide) (by decide) _ c a w h) (Or.inl ⟨by rfl, ?y0⟩) hS ?p0 ?_
      case y0 =>
        rintro w' ⟨c0_, c1_, c2_, c3_⟩
        go_simp
      case p0 =>
        simp only [Act.put, List.setIfInBounds_toArray, List.set_cons_zero, List.set_cons_succ, i64_w, i32_w]
        rfl
      refine pure_ (i := 1) (N := some 36) (v := (.pointer (some ⟨w.heap.size + 1 + 1 + 1, 0, none⟩))) (a' := ?a1) #[true, true, false, false, false, false, false, false, false] rfl rfl (by kernel_rfl) (fun c a w h => panic_put (by decide) (by decide) (by decide) _ c a w h) (Or.inl ⟨by rfl, ?y1⟩) ?p1 ?_
      case y1 =>
        intro w'
        go_simp
      case p1 =>
        simp only [Act.put, List.setIfInBounds_toArray, List.set_cons_zero, List.set_cons_succ, i64_w, i32_w]
        rfl
      refine pure_ (i := 2) (N := some 37) (v := (.pointer (some ⟨w.heap.size + 1 + 1 + 1, 0, none⟩))) (a' := ?a2) #[true, true, true, false, false, false, false, false, false] rfl rfl (by kernel_rfl) (fun c a w h => panic_put (by decide) (by decide) (by decide) _ c a w h) (Or.inl ⟨by rfl, ?y2⟩) ?p2 ?_
      case y2 =>
        intro w'
        go_simp
      case p2 =>
        simp only [Act.put, List.setIfInBounds_toArray, List.set_cons_zero, List.set_cons_succ, i64_w, i32_w]
        rfl
      refine pure_ (i := 3) (N := some 38) (v := (.pointer (some ⟨w.heap.size + 1 + 1 + 1, 0, none⟩))) (a' := ?a3) #[true, true, true, true, false, false, false, false, false] rfl rfl (by kernel_rfl) (fun c a w h => panic_put (by decide) (by decide) (by decide) _ c a w h) (Or.inl ⟨by rfl, ?y3⟩) ?p3 ?_
      case y3 =>
        intro w'
        go_simp
      case p3 =>
        simp only [Act.put, List.setIfInBounds_toArray, List.set_cons_zero, List.set_cons_succ, i64_w, i32_w]
        rfl
      refine take_ (i := 4) (N := some 39) (v := (.slice A q.length c)) (a' := ?a4) #[true, true, true, true, true, false, false, false, false] rfl rfl (by kernel_rfl) (fun c a w h => panic_put (by decide) (by decide) (by decide) _ c a w h) (Or.inl ⟨by rfl, ?y4⟩) hS ?p4 ?_
      case y4 =>
        rintro w' ⟨c0_, c1_, c2_, c3_⟩
        go_simp
      case p4 =>
        simp only [Act.put, List.setIfInBounds_toArray, List.set_cons_zero, List.set_cons_succ, i64_w, i32_w]
        rfl
      refine pure_ (i := 5) (N := some 40) (v := (.int .i64 (q.length : Int))) (a' := ?a5) #[true, true, true, true, true, true, false, false, false] rfl rfl (by kernel_rfl) (fun c a w h => panic_put (by decide) (by decide) (by decide) _ c a w h) (Or.inl ⟨by rfl, ?y5⟩) ?p5 ?_
      case y5 =>
        intro w'
        go_simp
      case p5 =>
        simp only [Act.put, List.setIfInBounds_toArray, List.set_cons_zero, List.set_cons_succ, i64_w, i32_w]
        rfl
      refine one_ (i := 6) (N := none) #[true, true, true, true, true, true, true, false, false] rfl rfl (by kernel_rfl) (by decide) (fun K hK => ?_)
      refine skip_ (w1 := ((wr.drew.setCell ⟨w.heap.size, 0, none⟩ (.int .i64 m)).setCell ⟨w.heap.size, 1, none⟩ (.int .i64 b)).setCell ⟨w.heap.size, 2, none⟩ (.slice Ao acc.length co)) (by rfl) rfl ?rn6 ?_
      case rn6 => go_simp
      refine hK.out _ _ ?hS6 (fun _ => ?_)
      case hS6 =>
        go_simp
      clear hK K
      refine last_ (i := 7) (N := none) #[true, true, true, true, true, true, true, true, false] rfl rfl (by kernel_rfl) (by decide) (fun K hK => ?_)
      refine skip_ (w1 := (((wr.drew.setCell ⟨w.heap.size, 0, none⟩ (.int .i64 m)).setCell ⟨w.heap.size, 1, none⟩ (.int .i64 b)).setCell ⟨w.heap.size, 2, none⟩ (.slice Ao acc.length co)).setCell ⟨w.heap.size + 1, 0, none⟩ (.int .i64 (q.length : Int))) (by rfl) rfl ?rn7 ?_
      case rn7 => go_simp
      refine hK.out _ _ ?_
      clear hK K
      refine last_ (i := 8) (N := none) #[true, true, true, true, true, true, true, true, true] rfl rfl (by kernel_rfl) (by decide) (fun K hK => ?_)
      refine skip_ (w1 := ((((wr.drew.setCell ⟨w.heap.size, 0, none⟩ (.int .i64 m)).setCell ⟨w.heap.size, 1, none⟩ (.int .i64 b)).setCell ⟨w.heap.size, 2, none⟩ (.slice Ao acc.length co)).setCell ⟨w.heap.size + 1, 0, none⟩ (.int .i64 (q.length : Int))).setCell ⟨w.heap.size + 1 + 1, 0, none⟩ (.bool true)) (by rfl) rfl ?rn8 ?_
      case rn8 => go_simp
      refine hK.out _ _ ?_
      clear hK K
      refine done_ (by kernel_rfl) ?_
      go_wp2
      exact out_ret h4 hrs rfl rfl rfl
    · have hN : N > 0 := by omega
      obtain ⟨k, hk⟩ : ∃ k, N.toNat = k + 1 := ⟨N.toNat - 1, by omega⟩
      rw [hk, tagsI] at hr
      by_cases ha_ : ¬ acc.length < 8796093022207
      · rw [if_neg ha_] at hr; cases hr
      have ha : acc.length < 8796093022207 := by omega
      clear ha_
      rw [if_pos ha] at hr
      go_wp2
      have hrs0 := RS_drew hrs
      have hS : (fun w' : World => w'.cell? ⟨w.heap.size, 2, none⟩ = some (.slice Ao acc.length co)) wr.drew := hc2_
      clear hc0_ hc1_ hc2_ hc3_ hrd hH
      refine start_ (n := 11) (S := fun w' => w'.cell? ⟨w.heap.size, 2, none⟩ = some (.slice Ao acc.length co)) (ds := [10]) #[false, false, false, false, false, false, false, false, false, false, false] (by kernel_rfl) rfl rfl hS (fun _ => ?_)
      generalize wr.drew = w2 at hrs0 hS ⊢
      refine pure_ (i := 0) (N := some 25) (v := (.pointer (some ⟨w.heap.size, 2, none⟩))) (a' := ?b0) #[true, false, false, false, false, false, false, false, false, false, false] rfl rfl (by kernel_rfl) (fun c a w h => panic_put (by decide) (by decide) (by decide) _ c a w h) (Or.inl ⟨by rfl, ?z0⟩) ?q0 ?_
      case z0 =>
        intro w'
        go_simp
      case q0 =>
        simp only [Act.put, List.setIfInBounds_toArray, List.set_cons_zero, List.set_cons_succ, i64_w, i32_w]
        rfl
      refine take_ (i := 1) (N := some 26) (v := (.slice Ao acc.length co)) (a' := ?b1) #[true, true, false, false, false, false, false, false, false, false, false] rfl rfl (by kernel_rfl) (fun c a w h => panic_put (by decide) (by decide) (by decide) _ c a w h) (Or.inl ⟨by rfl, ?z1⟩) hS ?q1 ?_
      case z1 =>
        intro w' hs
        go_simp
      case q1 =>
        simp only [Act.put, List.setIfInBounds_toArray, List.set_cons_zero, List.set_cons_succ, i64_w, i32_w]
        rfl
      refine pure_ (i := 2) (N := some 27) (v := (.pointer (some ⟨w.heap.size + 1 + 1 + 1, 0, none⟩))) (a' := ?b2) #[true, true, true, false, false, false, false, false, false, false, false] rfl rfl (by kernel_rfl) (fun c a w h => panic_put (by decide) (by decide) (by decide) _ c a w h) (Or.inl ⟨by rfl, ?z2⟩) ?q2 ?_
      case z2 =>
        intro w'
        go_simp
      case q2 =>
        simp only [Act.put, List.setIfInBounds_toArray, List.set_cons_zero, List.set_cons_succ, i64_w, i32_w]
        rfl
      refine pure_ (i := 4) (N := some 29) (v := (.pointer (some ⟨w.heap.size + 1 + 1 + 1, 0, none⟩))) (a' := ?b4) #[true, true, true, false, true, false, false, false, false, false, false] rfl rfl (by kernel_rfl) (fun c a w h => panic_put (by decide) (by decide) (by decide) _ c a w h) (Or.inl ⟨by rfl, ?z4⟩) ?q4 ?_
      case z4 =>
        intro w'
        go_simp
      case q4 =>
        simp only [Act.put, List.setIfInBounds_toArray, List.set_cons_zero, List.set_cons_succ, i64_w, i32_w]
        rfl
      refine one_ (i := 3) (N := some 28) #[true, true, true, true, true, false, false, false, false, false, false] rfl rfl (by kernel_rfl) (by decide) (fun K hK => ?_)
      by_cases sa : q.length < 3
      · rw [if_pos sa] at hr
        cases hr
        refine goesP_ Try.func85 (by kernel_rfl) rfl #[.pointer (some ⟨w.heap.size + 1 + 1 + 1, 0, none⟩), .int .i64 ((3 : Nat) : Int)] (by rfl) rfl rfl (by simp only [List.map_toArray, List.map_cons, List.map_nil]; rfl) ?_
        refine (RS_short h4 hrs0 3 (by decide) (by decide) sa).mono ?_
        rintro e w3 ⟨rfl, hrs1⟩
        refine ⟨_, rfl, ?_⟩
        exact out_panic h4 hrs1 rfl rfl rfl
      rw [if_neg sa] at hr
      refine goes_ Try.func85 (by kernel_rfl) rfl #[.pointer (some ⟨w.heap.size + 1 + 1 + 1, 0, none⟩), .int .i64 ((3 : Nat) : Int)] (by rfl) rfl rfl (by simp only [List.map_toArray, List.map_cons, List.map_nil]; rfl) ?_
      refine (RS_number h4 hrs0 3 (by decide) (by decide) (by omega)).mono ?_
      rintro e w3 ⟨rfl, hrs1⟩
      refine ⟨_, rfl, ?_⟩
      have hS3 := (blk_cell hrs1.row.1 2).trans rfl
      refine hK.out _ _ hS3 (fun _ => ?_)
      clear hK K
      refine norm_ (a' := ?_) ?_ ?_
      rotate_left
      · show Act.put _ (some 28) _ = _
        simp only [Act.put, List.setIfInBounds_toArray, List.set_cons_zero, List.set_cons_succ, i64_w, i32_w]
        rfl
      generalize wrap64 (getI 0 (q.take 3)) = x at hr ⊢
      generalize q.drop 3 = q1 at hr hrs1
      clear hrs0 hS
      refine one_ (i := 5) (N := some 30) #[true, true, true, true, true, true, false, false, false, false, false] rfl rfl (by kernel_rfl) (by decide) (fun K hK => ?_)
      by_cases sb : q1.length < 3
      · rw [if_pos sb] at hr
        cases hr
        refine goesP_ Try.func85 (by kernel_rfl) rfl #[.pointer (some ⟨w.heap.size + 1 + 1 + 1, 0, none⟩), .int .i64 ((3 : Nat) : Int)] (by rfl) rfl rfl (by simp only [List.map_toArray, List.map_cons, List.map_nil]; rfl) ?_
        refine (RS_short h4 hrs1 3 (by decide) (by decide) sb).mono ?_
        rintro e w4 ⟨rfl, hrs2⟩
        refine ⟨_, rfl, ?_⟩
        exact out_panic h4 hrs2 rfl rfl rfl
      rw [if_neg sb] at hr
      refine goes_ Try.func85 (by kernel_rfl) rfl #[.pointer (some ⟨w.heap.size + 1 + 1 + 1, 0, none⟩), .int .i64 ((3 : Nat) : Int)] (by rfl) rfl rfl (by simp only [List.map_toArray, List.map_cons, List.map_nil]; rfl) ?_
      refine (RS_number h4 hrs1 3 (by decide) (by decide) (by omega)).mono ?_
      rintro e w4 ⟨rfl, hrs2⟩
      refine ⟨_, rfl, ?_⟩
      have hS5 := (blk_cell hrs2.row.1 2).trans rfl
      refine hK.out _ _ hS5 (fun _ => ?_)
      clear hK K
      refine norm_ (a' := ?_) ?_ ?_
      rotate_left
      · show Act.put _ (some 30) _ = _
        simp only [Act.put, List.setIfInBounds_toArray, List.set_cons_zero, List.set_cons_succ, i64_w, i32_w]
        rfl
      generalize wrap64 (getI 0 (q1.take 3)) = y at hr ⊢
      generalize q1.drop 3 = q2 at hr hrs2
      clear hrs1 hS3
      refine pure_ (i := 6) (N := some 31) (v := (.agg #[.int .i64 x, .int .i64 y])) (a' := ?b6) #[true, true, true, true, true, true, true, false, false, false, false] rfl rfl (by kernel_rfl) (fun c a w h => panic_put (by decide) (by decide) (by decide) _ c a w h) (Or.inl ⟨by rfl, ?z6⟩) ?q6 ?_
      case z6 =>
        intro w'
        go_simp
        try with_reducible rfl
      case q6 =>
        simp only [Act.put, List.setIfInBounds_toArray, List.set_cons_zero, List.set_cons_succ, i64_w, i32_w]
        rfl
      refine one_ (i := 7) (N := some 32) #[true, true, true, true, true, true, true, true, false, false, false] rfl rfl (by kernel_rfl) (by decide) (fun K hK => ?_)
      refine value_ (w1 := w4.alloc (.cells #[.int .i64 x, .int .i64 y] 53)) (v := .slice (some ⟨w4.heap.size, 0, none⟩) 1 1) (by rfl) rfl ?rm7 ?_
      case rm7 =>
        go_simp
        try trace_state
      obtain ⟨⟨hH, hR⟩, hL, hO, ⟨A2, c2, hrd, hC, hc⟩, HB⟩ := hrs2
      have hS7 := (blk_cell (blk_alloc hH (.cells #[.int .i64 x, .int .i64 y] 53)) 2).trans rfl
      refine hK.out _ _ hS7 (fun _ => ?_)
      clear hK K
      refine norm_ (a' := ?_) ?_ ?_
      rotate_left
      · show Act.put _ (some 32) _ = _
        simp only [Act.put, List.setIfInBounds_toArray, List.set_cons_zero, List.set_cons_succ, i64_w, i32_w]
        rfl
      refine one_ (i := 8) (N := some 33) #[true, true, true, true, true, true, true, true, true, false, false] rfl rfl (by kernel_rfl) (by decide) (fun K hK => ?_)
      refine Kd.R_append_step k53 (w0 := w) w.heap.size (by rfl) (.tmp 26) (.tmp 32) 54 53 (.agg #[(.int .i64 0), (.int .i64 0)]) 16 rfl Try.underlying54 info53 rfl (by decide) (by omega) (.slice Ao acc.length co) acc (⟨x, y⟩ : S53) [.int .i64 x, .int .i64 y] (fun k => ((k ≠ w.heap.size ∧ k ≠ w.heap.size + 1) ∧ k ≠ w.heap.size + 1 + 1) ∧ k ≠ w.heap.size + 1 + 1 + 1) (fun _ => False) rfl rfl ?aP (fun _ hk => hk.elim) ?aF ?aO HB ?aS ?aL ?_
      case aP => exact k53_mkM _ _ _ (⟨x, y⟩ : S53)
      case aF =>
        intro k hk
        have h1 := blk_lt hrd
        omega
      case aO => exact hR
      case aS => exact below_size HB
      case aL => omega
      intro v1 w5 ho hb hg4 hat
      have hd1 : ∀ k, Value.ownBlock (.slice Ao acc.length co) = some k → ((k ≠ w.heap.size ∧ k ≠ w.heap.size + 1) ∧ k ≠ w.heap.size + 1 + 1) ∧ k ≠ w.heap.size + 1 + 1 + 1 := fun k hk => hR.1 k hk
      have hH4 := blk_grown hH hg4 (fun e => (hd1 _ e.symm).1.1.1 rfl)
      have hL4 := blk_grown hL hg4 (fun e => (hd1 _ e.symm).1.1.2 rfl)
      have hO4 := blk_grown hO hg4 (fun e => (hd1 _ e.symm).1.2 rfl)
      have hr4 := blk_grown hrd hg4 (fun e => (hd1 _ e.symm).2 rfl)
      obtain ⟨Ao2, co2, ev1, -, -⟩ := Kd.R_reads ho
      subst ev1
      have hS4 := (blk_cell hH4 2).trans rfl
      have hf4 := blk_frozen hH4 2
      refine hK.out _ _ hS4 (fun _ => ?_)
      clear hK K hS7 hat
      refine norm_ (a' := ?_) ?_ ?_
      rotate_left
      · show Act.put _ (some 33) _ = _
        simp only [Act.put, List.setIfInBounds_toArray, List.set_cons_zero, List.set_cons_succ, i64_w, i32_w]
        rfl
      refine pure_ (i := 9) (N := some 34) (v := (.pointer (some ⟨w.heap.size, 2, none⟩))) (a' := ?b9) #[true, true, true, true, true, true, true, true, true, true, false] rfl rfl (by kernel_rfl) (fun c a w h => panic_put (by decide) (by decide) (by decide) _ c a w h) (Or.inl ⟨by rfl, ?z9⟩) ?q9 ?_
      case z9 =>
        intro w'
        go_simp
      case q9 =>
        simp only [Act.put, List.setIfInBounds_toArray, List.set_cons_zero, List.set_cons_succ, i64_w, i32_w]
        rfl
      refine last_ (i := 10) (N := none) #[true, true, true, true, true, true, true, true, true, true, true] rfl rfl (by kernel_rfl) (by decide) (fun K hK => ?_)
      refine skip_ (w1 := w5.setCell ⟨w.heap.size, 2, none⟩ (.slice Ao2 (acc ++ [(⟨x, y⟩ : S53)]).length co2)) (by rfl) rfl ?rm10 ?_
      case rm10 => go_simp
      refine hK.out _ _ ?_
      clear hK K
      refine done_ (by kernel_rfl) ?_
      have hRS9 : RS w (w5.setCell ⟨w.heap.size, 2, none⟩ (.slice Ao2 (acc ++ [(⟨x, y⟩ : S53)]).length co2)) (w.heap.size + 1) (w.heap.size + 1 + 1) (w.heap.size + 1 + 1 + 1) m b (.slice Ao2 (acc ++ [(⟨x, y⟩ : S53)]).length co2) q2 (acc ++ [⟨x, y⟩]) := by
        refine ⟨⟨(blk_put hH4 2 _ rfl).trans rfl, Kd.R_far (p := ⟨w.heap.size, 2, none⟩) ho (fun _ hk => hk.1.1.1) _⟩, (blk_far (p := ⟨w.heap.size, 2, none⟩) hL4 (show w.heap.size + 1 ≠ w.heap.size by omega) _).trans rfl, (blk_far (p := ⟨w.heap.size, 2, none⟩) hO4 (show w.heap.size + 1 + 1 ≠ w.heap.size by omega) _).trans rfl, ⟨A2, c2, (blk_far (p := ⟨w.heap.size, 2, none⟩) hr4 (show w.heap.size + 1 + 1 + 1 ≠ w.heap.size by omega) _).trans rfl, hC, hc⟩, below_set (j := 2) hb (Nat.le_refl _)⟩
      clear ho hb hg4 hL4 hH4 hO4 hr4 hS4 hf4 hL hH hO hrd HB hR hd1 hC
      generalize (w5.setCell ⟨w.heap.size, 2, none⟩ (.slice Ao2 (acc ++ [(⟨x, y⟩ : S53)]).length co2)) = w6 at hRS9 ⊢
      have hlt := hlt.out
      have hw : wrap64 (N - 1) = N - 1 := by unfold wrap64; omega
      have hk2 : (N - 1).toNat = k := by omega
      have hl2 : N - 1 < 65536 := by omega
      go_wp2
      go_roundg (k + 1)
      case measure => omega
      case rel => exact ⟨_, q2, _, _, rfl, ⟨by omega, hl2⟩, ⟨by rw [hk2]; exact hr⟩, ⟨hRS9⟩⟩

/-! ### rowkey_Decode: function 41 -/
def rowkey_Decode.f (k : Nat) (l0 : List Int) : Option (Int × Int × (List (S53)) × Int × Int) := (rowkey_read.f l0).bind fun bt165 => (if bt165.2.2.2.2 = true then ((rowkey_Right.f k bt165.1 bt165.2.1 bt165.2.2.1).bind fun t173 => (if t173 = true then (some (bt165.1, bt165.2.1, bt165.2.2.1, wrap64 ((l0.length : Int) - bt165.2.2.2.1), 0)) else (some (0, 0, ([] : List (S53)), 0, 12)))) else (some (0, 0, ([] : List (S53)), 0, 12)))
theorem rowkey_Decode.mono : ∀ a0 k, LeO (rowkey_Decode.f k a0) (rowkey_Decode.f (k + 1) a0) := by
 intro a0 k
 unfold rowkey_Decode.f
 repeat' first
   | (with_reducible exact rowkey_Right.mono _ _ _ _)
   | (with_reducible exact LeO.refl _)
   | (with_reducible exact LeO.none _)
   | (with_reducible refine LeO.ite ?_ ?_)
   | (with_reducible refine LeO.bind ?_ (fun _ => ?_))
   | exact rowkey_Right.mono _ _ _ _
   | exact LeO.none _
   | refine LeO.ite ?_ ?_
   | refine LeO.bind ?_ (fun _ => ?_)
set_option maxHeartbeats 8000000 in
set_option maxRecDepth 100000 in
theorem rowkey_Decode.calls (k : Nat) (A0 : Option Addr) (c0 : Nat) (l0 : List Int) (r1 : Int) (r2 : Int) (r3 : List (S53)) (r4 : Int) (r5 : Int) (w : World) (hr0 : Kd.C (Kd.int .u8) w A0 l0.length l0) (hc0 : l0.length ≤ c0) (h : rowkey_Decode.f k l0 = some (r1, r2, r3, r4, r5)) :
  Calls Try.prog 41 #[.slice A0 l0.length c0] w fun e w' => ∃ v2_ : Value, e = .returned (.tuple #[.agg #[.int .i64 r1, .int .i64 r2, v2_], .int .i64 r4, .int .i64 r5]) ∧ Kd.R k53 53 w' w.heap.size (fun _ => True) v2_ r3 ∧ Below w.heap.size w w' := by
 have hu56 := Try.underlying56
 have HR0 := Aside0.mk hr0
 have HC0 := Aside0.mk hc0
 clear hr0 hc0
 have HB := Aside0.mk (Below.refl w.heap.size w)
 have H : ((rowkey_read.f l0).bind fun bt165 => (if bt165.2.2.2.2 = true then ((rowkey_Right.f k bt165.1 bt165.2.1 bt165.2.2.1).bind fun t173 => (if t173 = true then (some (bt165.1, bt165.2.1, bt165.2.2.1, wrap64 ((l0.length : Int) - bt165.2.2.2.1), 0)) else (some (0, 0, ([] : List (S53)), 0, 12)))) else (some (0, 0, ([] : List (S53)), 0, 12)))) = some (r1, r2, r3, r4, r5) := h
 clear h
 replace H := Option.bind_eq_some_iff.mp H
 obtain ⟨⟨t165, t166, t167, t170, t171⟩, A20, H⟩ := H
 replace H : (if t171 = true then ((rowkey_Right.f k t165 t166 t167).bind fun t173 => (if t173 = true then (some (t165, t166, t167, wrap64 ((l0.length : Int) - t170), 0)) else (some (0, 0, ([] : List (S53)), 0, 12)))) else (some (0, 0, ([] : List (S53)), 0, 12))) = some (r1, r2, r3, r4, r5) := H
 have A2 := Aside0.mk A20
 clear A20
 by_cases c3 : t171 = true
 ·subst c3
  have H1 : ((rowkey_Right.f k t165 t166 t167).bind fun t173 => (if t173 = true then (some (t165, t166, t167, wrap64 ((l0.length : Int) - t170), 0)) else (some (0, 0, ([] : List (S53)), 0, 12)))) = some (r1, r2, r3, r4, r5) := by rw [if_pos rfl] at H; exact H
  clear H
  have H := H1
  clear H1
  replace H := Option.bind_eq_some_iff.mp H
  obtain ⟨t173, A40, H⟩ := H
  replace H : (if t173 = true then (some (t165, t166, t167, wrap64 ((l0.length : Int) - t170), 0)) else (some (0, 0, ([] : List (S53)), 0, 12))) = some (r1, r2, r3, r4, r5) := H
  have A4 := Aside0.mk A40
  clear A40
  by_cases c5 : t173 = true
  ·subst c5
   have H1 : (some (t165, t166, t167, wrap64 ((l0.length : Int) - t170), 0)) = some (r1, r2, r3, r4, r5) := by rw [if_pos rfl] at H; exact H
   clear H
   have H := H1
   clear H1
   simp only [Option.some.injEq, Prod.mk.injEq] at H
   obtain ⟨rfl, rfl, rfl, rfl, rfl⟩ := H
   go_enter Try.func41, Try.ntmps41
   go_wp2_with (first | ((with_reducible refine gate_dst (N := 2) rfl ?_); refine box_event ?hg (N := 2) ?hd (cs := #[.int .i64 0, .int .i64 0, .slice none 0 0]) (t := 56) ?hr ?_; (case hd => rfl); (case hg => rfl); (case hr => first | (go_simp; done) | (go_simp; rfl)); intro gb164 hg w6 hbox hb; have n0_ := Aside0.mk (below_step (belN HB.out) hb); have n1_ := Aside0.mk (hbox); have n2_ := Aside0.mk (szB hg HB.out); have n3_ := Aside0.mk (szB hg HB.out); clear HB; have HB := n0_; have BK164 := n1_; have GW164 := n2_; have GE164 := n3_; clear n0_ n1_ n2_ n3_; clear hb hbox hg) | ((with_reducible refine gate_callee (f := 69) rfl ?_); refine goesL_ (some 10) rfl rfl Try.func69 (by kernel_rfl) rfl #[.slice A0 l0.length c0] rfl argN ?_; (with_reducible refine (rowkey_read.calls _ _ l0 t165 t166 t167 t170 true _ ?side1 ?side2 A2.out).mono ?_); (case side1 => repeat (first | exact (Kd.C_below HR0.out HB.out) | (with_reducible refine Kd.C_alloc ?_ _) | (with_reducible refine Kd.C_drewN ?_ _) | (with_reducible refine Kd.C_drew ?_))); (case side2 => exact HC0.out); rintro e w7 ⟨v168, rfl, ho0, hb⟩; refine ⟨_, rfl, ?_⟩; have n0_ := Aside0.mk (Kd.R_lower ho0 (below_size (belS HB.out))); have n1_ := Aside0.mk (bkB BK164.out hb); have n2_ := Aside0.mk (below_step (belS HB.out) hb); clear BK164; clear HB; have HO169 := n0_; have BK164 := n1_; have HB := n2_; clear n0_ n1_ n2_; (try clear hb); (try clear hk); (try clear ho0)) | ((with_reducible refine gate_dst (N := 5) rfl ?_); refine box_event ?hg (N := 5) ?hd (cs := #[.int .i64 0, .int .i64 0, .slice none 0 0]) (t := 56) ?hr ?_; (case hd => rfl); (case hg => rfl); (case hr => first | (go_simp; done) | (go_simp; rfl)); intro gb172 hg w8 hbox hb; have n0_ := Aside0.mk (Kd.R_below (rowN HO169.out) hb); have n1_ := Aside0.mk (bkB BK164.out hb); have n2_ := Aside0.mk (below_step (belS HB.out) hb); have n3_ := Aside0.mk (hbox); have n4_ := Aside0.mk (szB hg HB.out); have n5_ := Aside0.mk (szB hg HB.out); have n6_ := Aside0.mk ((bk1 hg BK164.out)); have n7_ := Aside0.mk ((bk2 hg BK164.out)); clear HO169; clear BK164; clear HB; have HO169 := n0_; have BK164 := n1_; have HB := n2_; have BK172 := n3_; have GW172 := n4_; have GE172 := n5_; have NB164_172 := n6_; have NB172_164 := n7_; clear n0_ n1_ n2_ n3_ n4_ n5_ n6_ n7_; clear hb hbox hg; have hnb9 := NB172_164.out; have hnc9 := NB164_172.out; have hcz10_0 : w8.cell? ⟨gb172, 0, none⟩ = some (.int .i64 0) := (blk_cell BK172.out 0).trans rfl; have hcz10_1 : w8.cell? ⟨gb172, 1, none⟩ = some (.int .i64 0) := (blk_cell BK172.out 1).trans rfl; have hcz10_2 : w8.cell? ⟨gb172, 2, none⟩ = some (.slice none 0 0) := (blk_cell BK172.out 2).trans rfl; have hfz10_0 := blk_frozen BK172.out 0; have hfz10_1 := blk_frozen BK172.out 1; have hfz10_2 := blk_frozen BK172.out 2; obtain ⟨Ao11, co11, eo11⟩ := Kd.R_slice HO169.out; subst eo11) | (go_at_call 64; (with_reducible refine (rowkey_Right.calls k t165 t166 _ _ t167 true _ ?side1 ?side2 A4.out).mono ?_); (case side1 => refine (Kd.R_reads' (e := 53) (base := w.heap.size) (ok := fun k_ => True) (n := t167.length) (c := co11) ?_).2.2; exact (by (with_reducible repeat (first | apply Kd.R_alloc | apply Kd.R_drewN | apply Kd.R_drew)); exact (Kd.R_mono (Kd.R_far (p := ⟨gb172, 2, none⟩) (Kd.R_far (p := ⟨gb172, 1, none⟩) (Kd.R_far (p := ⟨gb172, 0, none⟩) (Kd.R_types HO169.out BK172.out (by decide)) (fun _ hk => hk.2) (.int .i64 t165)) (fun _ hk => hk.2) (.int .i64 t166)) (fun _ hk => hk.2) (.slice Ao11 t167.length co11)) (fun _ h_ => h_.1)))); (case side2 => exact (Kd.R_reads' HO169.out).2.1); rintro e w12 ⟨rfl, hb⟩; have n0_ := Aside0.mk (Kd.R_below (by (with_reducible repeat (first | apply Kd.R_alloc | apply Kd.R_drewN | apply Kd.R_drew)); exact (Kd.R_mono (Kd.R_far (p := ⟨gb172, 2, none⟩) (Kd.R_far (p := ⟨gb172, 1, none⟩) (Kd.R_far (p := ⟨gb172, 0, none⟩) (Kd.R_types HO169.out BK172.out (by decide)) (fun _ hk => hk.2) (.int .i64 t165)) (fun _ hk => hk.2) (.int .i64 t166)) (fun _ hk => hk.2) (.slice Ao11 t167.length co11)) (fun _ h_ => h_.1))) hb); have n1_ := Aside0.mk (bkBF BK164.out hb); have n2_ := Aside0.mk (blk_below (g := gb172) (o := .cells #[.int .i64 t165, .int .i64 t166, .slice Ao11 t167.length co11] 56 (0, 0)) (by (with_reducible repeat (first | refine blk_drewN ?_ _ | refine blk_drew ?_ | refine blk_alloc ?_ _)); refine blk_put (cs := #[.int .i64 t165, .int .i64 t166, .slice none 0 0]) ?_ 2 _ rfl; (with_reducible repeat (first | refine blk_drewN ?_ _ | refine blk_drew ?_ | refine blk_alloc ?_ _)); refine blk_put (cs := #[.int .i64 t165, .int .i64 0, .slice none 0 0]) ?_ 1 _ rfl; (with_reducible repeat (first | refine blk_drewN ?_ _ | refine blk_drew ?_ | refine blk_alloc ?_ _)); refine blk_put (cs := #[.int .i64 0, .int .i64 0, .slice none 0 0]) ?_ 0 _ rfl; (with_reducible repeat (first | refine blk_drewN ?_ _ | refine blk_drew ?_ | refine blk_alloc ?_ _)); exact BK172.out) hb); have n3_ := Aside0.mk (below_step (belS HB.out) hb); clear HO169; clear BK164; clear BK172; clear HB; have HO169 := n0_; have BK164 := n1_; have BK172 := n2_; have HB := n3_; clear n0_ n1_ n2_ n3_; (try clear hb); (try clear hk); have hcz13_0 : w12.cell? ⟨gb172, 0, none⟩ = some (.int .i64 t165) := (blk_cell BK172.out 0).trans rfl; have hcz13_1 : w12.cell? ⟨gb172, 1, none⟩ = some (.int .i64 t166) := (blk_cell BK172.out 1).trans rfl; have hcz13_2 : w12.cell? ⟨gb172, 2, none⟩ = some (.slice Ao11 t167.length co11) := (blk_cell BK172.out 2).trans rfl; have hfz13_0 := blk_frozen BK172.out 0; have hfz13_1 := blk_frozen BK172.out 1; have hfz13_2 := blk_frozen BK172.out 2; have hcz14_0 : w12.cell? ⟨gb164, 0, none⟩ = some (.int .i64 0) := (blk_cell BK164.out 0).trans rfl; have hcz14_1 : w12.cell? ⟨gb164, 1, none⟩ = some (.int .i64 0) := (blk_cell BK164.out 1).trans rfl; have hcz14_2 : w12.cell? ⟨gb164, 2, none⟩ = some (.slice none 0 0) := (blk_cell BK164.out 2).trans rfl; have hfz14_0 := blk_frozen BK164.out 0; have hfz14_1 := blk_frozen BK164.out 1; have hfz14_2 := blk_frozen BK164.out 2))
   refine bodyPost_ret (results_ctt rfl _ _ gb164 56 #[.int .i64 t165, .int .i64 t166, .slice Ao11 t167.length co11] (0, 0) _ rfl (by (with_reducible repeat (first | refine blk_drewN ?_ _ | refine blk_drew ?_ | refine blk_alloc ?_ _)); refine blk_put (cs := #[.int .i64 t165, .int .i64 t166, .slice none 0 0]) ?_ 2 _ rfl; (with_reducible repeat (first | refine blk_drewN ?_ _ | refine blk_drew ?_ | refine blk_alloc ?_ _)); refine blk_put (cs := #[.int .i64 t165, .int .i64 0, .slice none 0 0]) ?_ 1 _ rfl; (with_reducible repeat (first | refine blk_drewN ?_ _ | refine blk_drew ?_ | refine blk_alloc ?_ _)); refine blk_put (cs := #[.int .i64 0, .int .i64 0, .slice none 0 0]) ?_ 0 _ rfl; (with_reducible repeat (first | refine blk_drewN ?_ _ | refine blk_drew ?_ | refine blk_alloc ?_ _)); exact BK164.out) Try.underlying56 rfl (by kernel_rfl)) rfl ?_
   exact ⟨_, by first | rfl | (simp [errW_none, errW_some] <;> rfl) | (simp [*, errW_none, errW_some] <;> rfl), by (with_reducible repeat (first | apply Kd.R_alloc | apply Kd.R_drewN | apply Kd.R_drew)); exact Kd.R_mono (Kd.R_far (p := ⟨gb164, 2, none⟩) (Kd.R_far (p := ⟨gb164, 1, none⟩) (Kd.R_far (p := ⟨gb164, 0, none⟩) (Kd.R_types HO169.out BK164.out (by decide)) (fun _ hk => hk.2) (.int .i64 t165)) (fun _ hk => hk.2) (.int .i64 t166)) (fun _ hk => hk.2) (.slice Ao11 t167.length co11)) (fun _ hk => trivial), (belS HB.out)⟩
  ·replace c5 := Bool.eq_false_iff.mpr c5
   subst c5
   have H1 : (some (0, 0, ([] : List (S53)), 0, 12)) = some (r1, r2, r3, r4, r5) := by rw [if_neg (show ¬ (false = true) by decide)] at H; exact H
   clear H
   have H := H1
   clear H1
   simp only [Option.some.injEq, Prod.mk.injEq] at H
   obtain ⟨rfl, rfl, rfl, rfl, rfl⟩ := H
   go_enter Try.func41, Try.ntmps41
   go_wp2_with (first | ((with_reducible refine gate_dst (N := 2) rfl ?_); refine box_event ?hg (N := 2) ?hd (cs := #[.int .i64 0, .int .i64 0, .slice none 0 0]) (t := 56) ?hr ?_; (case hd => rfl); (case hg => rfl); (case hr => first | (go_simp; done) | (go_simp; rfl)); intro gb164 hg w15 hbox hb; have n0_ := Aside0.mk (below_step (belN HB.out) hb); have n1_ := Aside0.mk (hbox); have n2_ := Aside0.mk (szB hg HB.out); have n3_ := Aside0.mk (szB hg HB.out); clear HB; have HB := n0_; have BK164 := n1_; have GW164 := n2_; have GE164 := n3_; clear n0_ n1_ n2_ n3_; clear hb hbox hg) | ((with_reducible refine gate_callee (f := 69) rfl ?_); refine goesL_ (some 10) rfl rfl Try.func69 (by kernel_rfl) rfl #[.slice A0 l0.length c0] rfl argN ?_; (with_reducible refine (rowkey_read.calls _ _ l0 t165 t166 t167 t170 true _ ?side1 ?side2 A2.out).mono ?_); (case side1 => repeat (first | exact (Kd.C_below HR0.out HB.out) | (with_reducible refine Kd.C_alloc ?_ _) | (with_reducible refine Kd.C_drewN ?_ _) | (with_reducible refine Kd.C_drew ?_))); (case side2 => exact HC0.out); rintro e w16 ⟨v168, rfl, ho0, hb⟩; refine ⟨_, rfl, ?_⟩; have n0_ := Aside0.mk (Kd.R_lower ho0 (below_size (belS HB.out))); have n1_ := Aside0.mk (bkB BK164.out hb); have n2_ := Aside0.mk (below_step (belS HB.out) hb); clear BK164; clear HB; have HO169 := n0_; have BK164 := n1_; have HB := n2_; clear n0_ n1_ n2_; (try clear hb); (try clear hk); (try clear ho0)) | ((with_reducible refine gate_dst (N := 5) rfl ?_); refine box_event ?hg (N := 5) ?hd (cs := #[.int .i64 0, .int .i64 0, .slice none 0 0]) (t := 56) ?hr ?_; (case hd => rfl); (case hg => rfl); (case hr => first | (go_simp; done) | (go_simp; rfl)); intro gb172 hg w17 hbox hb; have n0_ := Aside0.mk (Kd.R_below (rowN HO169.out) hb); have n1_ := Aside0.mk (bkB BK164.out hb); have n2_ := Aside0.mk (below_step (belS HB.out) hb); have n3_ := Aside0.mk (hbox); have n4_ := Aside0.mk (szB hg HB.out); have n5_ := Aside0.mk (szB hg HB.out); have n6_ := Aside0.mk ((bk1 hg BK164.out)); have n7_ := Aside0.mk ((bk2 hg BK164.out)); clear HO169; clear BK164; clear HB; have HO169 := n0_; have BK164 := n1_; have HB := n2_; have BK172 := n3_; have GW172 := n4_; have GE172 := n5_; have NB164_172 := n6_; have NB172_164 := n7_; clear n0_ n1_ n2_ n3_ n4_ n5_ n6_ n7_; clear hb hbox hg; have hnb18 := NB172_164.out; have hnc18 := NB164_172.out; have hcz19_0 : w17.cell? ⟨gb172, 0, none⟩ = some (.int .i64 0) := (blk_cell BK172.out 0).trans rfl; have hcz19_1 : w17.cell? ⟨gb172, 1, none⟩ = some (.int .i64 0) := (blk_cell BK172.out 1).trans rfl; have hcz19_2 : w17.cell? ⟨gb172, 2, none⟩ = some (.slice none 0 0) := (blk_cell BK172.out 2).trans rfl; have hfz19_0 := blk_frozen BK172.out 0; have hfz19_1 := blk_frozen BK172.out 1; have hfz19_2 := blk_frozen BK172.out 2; obtain ⟨Ao20, co20, eo20⟩ := Kd.R_slice HO169.out; subst eo20) | (go_at_call 64; (with_reducible refine (rowkey_Right.calls k t165 t166 _ _ t167 false _ ?side1 ?side2 A4.out).mono ?_); (case side1 => refine (Kd.R_reads' (e := 53) (base := w.heap.size) (ok := fun k_ => True) (n := t167.length) (c := co20) ?_).2.2; exact (by (with_reducible repeat (first | apply Kd.R_alloc | apply Kd.R_drewN | apply Kd.R_drew)); exact (Kd.R_mono (Kd.R_far (p := ⟨gb172, 2, none⟩) (Kd.R_far (p := ⟨gb172, 1, none⟩) (Kd.R_far (p := ⟨gb172, 0, none⟩) (Kd.R_types HO169.out BK172.out (by decide)) (fun _ hk => hk.2) (.int .i64 t165)) (fun _ hk => hk.2) (.int .i64 t166)) (fun _ hk => hk.2) (.slice Ao20 t167.length co20)) (fun _ h_ => h_.1)))); (case side2 => exact (Kd.R_reads' HO169.out).2.1); rintro e w21 ⟨rfl, hb⟩; have n0_ := Aside0.mk (Kd.R_below (by (with_reducible repeat (first | apply Kd.R_alloc | apply Kd.R_drewN | apply Kd.R_drew)); exact (Kd.R_mono (Kd.R_far (p := ⟨gb172, 2, none⟩) (Kd.R_far (p := ⟨gb172, 1, none⟩) (Kd.R_far (p := ⟨gb172, 0, none⟩) (Kd.R_types HO169.out BK172.out (by decide)) (fun _ hk => hk.2) (.int .i64 t165)) (fun _ hk => hk.2) (.int .i64 t166)) (fun _ hk => hk.2) (.slice Ao20 t167.length co20)) (fun _ h_ => h_.1))) hb); have n1_ := Aside0.mk (bkBF BK164.out hb); have n2_ := Aside0.mk (blk_below (g := gb172) (o := .cells #[.int .i64 t165, .int .i64 t166, .slice Ao20 t167.length co20] 56 (0, 0)) (by (with_reducible repeat (first | refine blk_drewN ?_ _ | refine blk_drew ?_ | refine blk_alloc ?_ _)); refine blk_put (cs := #[.int .i64 t165, .int .i64 t166, .slice none 0 0]) ?_ 2 _ rfl; (with_reducible repeat (first | refine blk_drewN ?_ _ | refine blk_drew ?_ | refine blk_alloc ?_ _)); refine blk_put (cs := #[.int .i64 t165, .int .i64 0, .slice none 0 0]) ?_ 1 _ rfl; (with_reducible repeat (first | refine blk_drewN ?_ _ | refine blk_drew ?_ | refine blk_alloc ?_ _)); refine blk_put (cs := #[.int .i64 0, .int .i64 0, .slice none 0 0]) ?_ 0 _ rfl; (with_reducible repeat (first | refine blk_drewN ?_ _ | refine blk_drew ?_ | refine blk_alloc ?_ _)); exact BK172.out) hb); have n3_ := Aside0.mk (below_step (belS HB.out) hb); clear HO169; clear BK164; clear BK172; clear HB; have HO169 := n0_; have BK164 := n1_; have BK172 := n2_; have HB := n3_; clear n0_ n1_ n2_ n3_; (try clear hb); (try clear hk); have hcz22_0 : w21.cell? ⟨gb164, 0, none⟩ = some (.int .i64 0) := (blk_cell BK164.out 0).trans rfl; have hcz22_1 : w21.cell? ⟨gb164, 1, none⟩ = some (.int .i64 0) := (blk_cell BK164.out 1).trans rfl; have hcz22_2 : w21.cell? ⟨gb164, 2, none⟩ = some (.slice none 0 0) := (blk_cell BK164.out 2).trans rfl; have hfz22_0 := blk_frozen BK164.out 0; have hfz22_1 := blk_frozen BK164.out 1; have hfz22_2 := blk_frozen BK164.out 2))
   refine bodyPost_ret (results_ctt rfl _ _ gb164 56 #[.int .i64 0, .int .i64 0, .slice none 0 0] (0, 0) _ rfl (by (with_reducible repeat (first | refine blk_drewN ?_ _ | refine blk_drew ?_ | refine blk_alloc ?_ _)); refine blk_put (cs := #[.int .i64 0, .int .i64 0, .slice none 0 0]) ?_ 2 _ rfl; (with_reducible repeat (first | refine blk_drewN ?_ _ | refine blk_drew ?_ | refine blk_alloc ?_ _)); refine blk_put (cs := #[.int .i64 0, .int .i64 0, .slice none 0 0]) ?_ 1 _ rfl; (with_reducible repeat (first | refine blk_drewN ?_ _ | refine blk_drew ?_ | refine blk_alloc ?_ _)); refine blk_put (cs := #[.int .i64 0, .int .i64 0, .slice none 0 0]) ?_ 0 _ rfl; (with_reducible repeat (first | refine blk_drewN ?_ _ | refine blk_drew ?_ | refine blk_alloc ?_ _)); exact BK164.out) Try.underlying56 rfl (by kernel_rfl)) rfl ?_
   exact ⟨_, by first | rfl | (simp [errW_none, errW_some] <;> rfl) | (simp [*, errW_none, errW_some] <;> rfl), by first | exact Kd.R_nil _ _ _ _ _ | exact Kd.N_nil _ _ _ _ _ | exact Kd.V_nil _ _ _ _ _ | exact Kd.Q_nil _ _ _ _ _ | exact Kd.S_nil _ _ _ _ _, (belS HB.out)⟩
 ·replace c3 := Bool.eq_false_iff.mpr c3
  subst c3
  have H1 : (some (0, 0, ([] : List (S53)), 0, 12)) = some (r1, r2, r3, r4, r5) := by rw [if_neg (show ¬ (false = true) by decide)] at H; exact H
  clear H
  have H := H1
  clear H1
  simp only [Option.some.injEq, Prod.mk.injEq] at H
  obtain ⟨rfl, rfl, rfl, rfl, rfl⟩ := H
  go_enter Try.func41, Try.ntmps41
  go_wp2_with (first | ((with_reducible refine gate_dst (N := 2) rfl ?_); refine box_event ?hg (N := 2) ?hd (cs := #[.int .i64 0, .int .i64 0, .slice none 0 0]) (t := 56) ?hr ?_; (case hd => rfl); (case hg => rfl); (case hr => first | (go_simp; done) | (go_simp; rfl)); intro gb164 hg w23 hbox hb; have n0_ := Aside0.mk (below_step (belN HB.out) hb); have n1_ := Aside0.mk (hbox); have n2_ := Aside0.mk (szB hg HB.out); have n3_ := Aside0.mk (szB hg HB.out); clear HB; have HB := n0_; have BK164 := n1_; have GW164 := n2_; have GE164 := n3_; clear n0_ n1_ n2_ n3_; clear hb hbox hg) | ((with_reducible refine gate_callee (f := 69) rfl ?_); refine goesL_ (some 10) rfl rfl Try.func69 (by kernel_rfl) rfl #[.slice A0 l0.length c0] rfl argN ?_; (with_reducible refine (rowkey_read.calls _ _ l0 t165 t166 t167 t170 false _ ?side1 ?side2 A2.out).mono ?_); (case side1 => repeat (first | exact (Kd.C_below HR0.out HB.out) | (with_reducible refine Kd.C_alloc ?_ _) | (with_reducible refine Kd.C_drewN ?_ _) | (with_reducible refine Kd.C_drew ?_))); (case side2 => exact HC0.out); rintro e w24 ⟨v168, rfl, ho0, hb⟩; refine ⟨_, rfl, ?_⟩; have n0_ := Aside0.mk (Kd.R_lower ho0 (below_size (belS HB.out))); have n1_ := Aside0.mk (bkB BK164.out hb); have n2_ := Aside0.mk (below_step (belS HB.out) hb); clear BK164; clear HB; have HO169 := n0_; have BK164 := n1_; have HB := n2_; clear n0_ n1_ n2_; (try clear hb); (try clear hk); (try clear ho0)) | ((with_reducible refine gate_dst (N := 5) rfl ?_); refine box_event ?hg (N := 5) ?hd (cs := #[.int .i64 0, .int .i64 0, .slice none 0 0]) (t := 56) ?hr ?_; (case hd => rfl); (case hg => rfl); (case hr => first | (go_simp; done) | (go_simp; rfl)); intro gb172 hg w25 hbox hb; have n0_ := Aside0.mk (Kd.R_below (rowN HO169.out) hb); have n1_ := Aside0.mk (bkB BK164.out hb); have n2_ := Aside0.mk (below_step (belS HB.out) hb); have n3_ := Aside0.mk (hbox); have n4_ := Aside0.mk (szB hg HB.out); have n5_ := Aside0.mk (szB hg HB.out); have n6_ := Aside0.mk ((bk1 hg BK164.out)); have n7_ := Aside0.mk ((bk2 hg BK164.out)); clear HO169; clear BK164; clear HB; have HO169 := n0_; have BK164 := n1_; have HB := n2_; have BK172 := n3_; have GW172 := n4_; have GE172 := n5_; have NB164_172 := n6_; have NB172_164 := n7_; clear n0_ n1_ n2_ n3_ n4_ n5_ n6_ n7_; clear hb hbox hg; have hnb26 := NB172_164.out; have hnc26 := NB164_172.out; have hcz27_0 : w25.cell? ⟨gb172, 0, none⟩ = some (.int .i64 0) := (blk_cell BK172.out 0).trans rfl; have hcz27_1 : w25.cell? ⟨gb172, 1, none⟩ = some (.int .i64 0) := (blk_cell BK172.out 1).trans rfl; have hcz27_2 : w25.cell? ⟨gb172, 2, none⟩ = some (.slice none 0 0) := (blk_cell BK172.out 2).trans rfl; have hfz27_0 := blk_frozen BK172.out 0; have hfz27_1 := blk_frozen BK172.out 1; have hfz27_2 := blk_frozen BK172.out 2; obtain ⟨Ao28, co28, eo28⟩ := Kd.R_slice HO169.out; subst eo28; have hcz29_0 : w25.cell? ⟨gb164, 0, none⟩ = some (.int .i64 0) := (blk_cell BK164.out 0).trans rfl; have hcz29_1 : w25.cell? ⟨gb164, 1, none⟩ = some (.int .i64 0) := (blk_cell BK164.out 1).trans rfl; have hcz29_2 : w25.cell? ⟨gb164, 2, none⟩ = some (.slice none 0 0) := (blk_cell BK164.out 2).trans rfl; have hfz29_0 := blk_frozen BK164.out 0; have hfz29_1 := blk_frozen BK164.out 1; have hfz29_2 := blk_frozen BK164.out 2))
  refine bodyPost_ret (results_ctt rfl _ _ gb164 56 #[.int .i64 0, .int .i64 0, .slice none 0 0] (0, 0) _ rfl (by (with_reducible repeat (first | refine blk_drewN ?_ _ | refine blk_drew ?_ | refine blk_alloc ?_ _)); refine blk_put (cs := #[.int .i64 0, .int .i64 0, .slice none 0 0]) ?_ 2 _ rfl; (with_reducible repeat (first | refine blk_drewN ?_ _ | refine blk_drew ?_ | refine blk_alloc ?_ _)); refine blk_put (cs := #[.int .i64 0, .int .i64 0, .slice none 0 0]) ?_ 1 _ rfl; (with_reducible repeat (first | refine blk_drewN ?_ _ | refine blk_drew ?_ | refine blk_alloc ?_ _)); refine blk_put (cs := #[.int .i64 0, .int .i64 0, .slice none 0 0]) ?_ 0 _ rfl; (with_reducible repeat (first | refine blk_drewN ?_ _ | refine blk_drew ?_ | refine blk_alloc ?_ _)); refine blk_far ?_ NB164_172.out _; (with_reducible repeat (first | refine blk_drewN ?_ _ | refine blk_drew ?_ | refine blk_alloc ?_ _)); refine blk_far ?_ NB164_172.out _; (with_reducible repeat (first | refine blk_drewN ?_ _ | refine blk_drew ?_ | refine blk_alloc ?_ _)); refine blk_far ?_ NB164_172.out _; (with_reducible repeat (first | refine blk_drewN ?_ _ | refine blk_drew ?_ | refine blk_alloc ?_ _)); exact BK164.out) Try.underlying56 rfl (by kernel_rfl)) rfl ?_
  exact ⟨_, by first | rfl | (simp [errW_none, errW_some] <;> rfl) | (simp [*, errW_none, errW_some] <;> rfl), by first | exact Kd.R_nil _ _ _ _ _ | exact Kd.N_nil _ _ _ _ _ | exact Kd.V_nil _ _ _ _ _ | exact Kd.Q_nil _ _ _ _ _ | exact Kd.S_nil _ _ _ _ _, (belS HB.out)⟩

end Go.Proofs.Ytjafaojmbapkbaa.PRowkeyApart

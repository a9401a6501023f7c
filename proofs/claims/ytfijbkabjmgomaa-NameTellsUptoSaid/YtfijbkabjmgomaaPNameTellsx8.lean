/- The walk of the Go functions that a law reaches, told as plain functions; a program of this session has written it. No condition beyond the statement's own. -/
import Derived.Test.YtfijbkabjmgomaaPNameTellsx0
import Derived.Test.YtfijbkabjmgomaaPNameTellsx2
import Derived.Test.YtfijbkabjmgomaaPNameTellsx7
namespace Go.Proofs.Ytfijbkabjmgomaa.PNameTells
open Go.RowKit Go.Proofs.YtfijbkabjmgomaaW.PrintWords Go.Proofs.YtfijbkabjmgomaaW.PrintLast Go.Proofs.YtfijbkabjmgomaaW.PrintMore
attribute [local go_sem] max2_int min2_int max_two min_two max_three min_three max_four min_four   -- for this text's walks alone
set_option linter.unusedVariables false
set_option linter.unusedSimpArgs false

/-! ### marigraphkeep_Of: function 11 -/
def marigraphkeep_Of.j0 : Nat → Bool → Int → Int → Int → Int → Int → Bool → Int → Int → ByteArray → List (S25) → Int → Int → Option (ByteArray × (List (S25)) × Int × Int)
 | 0, _, _, _, _, _, _, _, _, _, _, _, _, _ => none
 | k + 1, x37, x168000, x168001, x168002, x168003, x168004, x168005, x168006, x168007, x187000, x187001, x187002, x187003 => if x37 = true then ((marigraphkeep_Keys.f).bind fun t195 => ((marigraphkeep_pick.f k t195 x168003).bind fun t198 => ((marigraphkeep_Values.f).bind fun t199 => ((marigraphkeep_pick.f k t199 x168004).bind fun t202 => (if x187001.length < 4398046511104 then (some (x187000, (x187001 ++ [(⟨t198, t202⟩ : S25)]), x187002, x187003)) else (none)))))) else (some (x187000, x187001, x187002, x187003))
def marigraphkeep_Of.f (k : Nat) (a0_0 : Int) (a0_1 : Int) (a0_2 : Int) (a0_3 : Int) (a0_4 : Int) (a0_5 : Bool) (a0_6 : Int) (a0_7 : Int) : Option (ByteArray × (List (S25)) × Int × Int) := (marigraphkeep_Metrics.f).bind fun t169 => ((marigraphkeep_pick.f k t169 a0_0).bind fun t172 => ((marigraphkeep_Keys.f).bind fun t173 => ((marigraphkeep_pick.f k t173 a0_1).bind fun t176 => ((marigraphkeep_Values.f).bind fun t177 => ((marigraphkeep_pick.f k t177 a0_2).bind fun t180 => ((some (([(⟨t176, t180⟩ : S25)] : List (S25)) : List (S25))).bind fun y181 => ((marigraphbook_Within.f k a0_6 0 9000).bind fun t184 => ((marigraphbook_Within.f k a0_7 (-2147483647) 2147483647).bind fun t185 => (if a0_5 = true then ((marigraphkeep_Keys.f).bind fun t187 => ((marigraphkeep_pick.f k t187 a0_1).bind fun t190 => ((marigraphkeep_Keys.f).bind fun t191 => ((marigraphkeep_pick.f k t191 a0_3).bind fun t194 => (marigraphkeep_Of.j0 k (t190.toList != t194.toList) a0_0 a0_1 a0_2 a0_3 a0_4 a0_5 a0_6 a0_7 t172 y181 t184 t185))))) else (marigraphkeep_Of.j0 k false a0_0 a0_1 a0_2 a0_3 a0_4 a0_5 a0_6 a0_7 t172 y181 t184 t185))))))))))
theorem marigraphkeep_Of.mono_l : ∀ k, (∀ y0 y1 y2 y3 y4 y5 y6 y7 y8 y9 y10 y11 y12, LeO (marigraphkeep_Of.j0 k y0 y1 y2 y3 y4 y5 y6 y7 y8 y9 y10 y11 y12) (marigraphkeep_Of.j0 (k + 1) y0 y1 y2 y3 y4 y5 y6 y7 y8 y9 y10 y11 y12))
 | 0 => fun _ _ _ _ _ _ _ _ _ _ _ _ _ r h => by simp [marigraphkeep_Of.j0] at h
 | k + 1 => by
  have ih0 := marigraphkeep_Of.mono_l k
  ·intro y0 y1 y2 y3 y4 y5 y6 y7 y8 y9 y10 y11 y12
   unfold marigraphkeep_Of.j0
   repeat' first
   | (with_reducible exact ih0 _ _ _ _ _ _ _ _ _ _ _ _ _)
   | (with_reducible exact marigraphbook_Within.mono _ _ _ _)
   | (with_reducible exact marigraphkeep_pick.mono _ _ _)
   | (with_reducible exact LeO.refl _)
   | (with_reducible exact LeO.none _)
   | (with_reducible refine LeO.ite ?_ ?_)
   | (with_reducible refine LeO.bind ?_ (fun _ => ?_))
   | exact ih0 _ _ _ _ _ _ _ _ _ _ _ _ _
   | exact marigraphbook_Within.mono _ _ _ _
   | exact marigraphkeep_pick.mono _ _ _
   | exact LeO.none _
   | refine LeO.ite ?_ ?_
   | refine LeO.bind ?_ (fun _ => ?_)
theorem marigraphkeep_Of.mono : ∀ a0 a1 a2 a3 a4 a5 a6 a7 k, LeO (marigraphkeep_Of.f k a0 a1 a2 a3 a4 a5 a6 a7) (marigraphkeep_Of.f (k + 1) a0 a1 a2 a3 a4 a5 a6 a7) := by
 intro a0 a1 a2 a3 a4 a5 a6 a7 k
 have ih0 := marigraphkeep_Of.mono_l k
 unfold marigraphkeep_Of.f
 repeat' first
   | (with_reducible exact ih0 _ _ _ _ _ _ _ _ _ _ _ _ _)
   | (with_reducible exact marigraphbook_Within.mono _ _ _ _)
   | (with_reducible exact marigraphkeep_pick.mono _ _ _)
   | (with_reducible exact LeO.refl _)
   | (with_reducible exact LeO.none _)
   | (with_reducible refine LeO.ite ?_ ?_)
   | (with_reducible refine LeO.bind ?_ (fun _ => ?_))
   | exact ih0 _ _ _ _ _ _ _ _ _ _ _ _ _
   | exact marigraphbook_Within.mono _ _ _ _
   | exact marigraphkeep_pick.mono _ _ _
   | exact LeO.none _
   | refine LeO.ite ?_ ?_
   | refine LeO.bind ?_ (fun _ => ?_)
def marigraphkeep_Of.T1 : Bool × List (List Nat × List Nat) := (true, [([], []), ([], []), ([1], [1]), ([0, 2, 0], [0, 2]), ([3], []), ([], []), ([5], [5]), ([4, 6, 4], [4, 6]), ([7], []), ([], []), ([9], [9]), ([8, 10, 8], [8, 10]), ([7, 11], [7, 11]), ([12], [12]), ([], []), ([14], [14]), ([15, 11], [15]), ([], []), ([17], [17]), ([18, 16], [18]), ([3, 13, 16, 19], [3, 13, 16, 19]), ([], []), ([21, 20, 19, 0, 1, 2, 3, 4, 5, 6, 7, 8, 9, 10, 11, 12, 13, 14, 15, 16, 17, 18, 19, 20, 21], [20, 21])])
def marigraphkeep_Of.B1 : List Nat := [0, 0, 2, 7, 15, 0, 32, 127, 255, 0, 512, 2047, 4095, 8191, 0, 16384, 53247, 0, 131072, 511999, 1048575, 0, 4194303]
theorem marigraphkeep_Of.tab1 : rtab .any (opsOf Try.f11 1) = marigraphkeep_Of.T1 := by kernel_rfl
theorem marigraphkeep_Of.bits1 : waitsOk marigraphkeep_Of.T1.2 marigraphkeep_Of.B1 = true := by kernel_rfl
def marigraphkeep_Of.T2 : Bool × List (List Nat × List Nat) := (true, [([], []), ([0], [0]), ([1], [1]), ([2, 2], [2]), ([2], [2]), ([4, 2], [2, 4]), ([3, 5, 3, 2], [2, 3, 5]), ([6, 2], [2]), ([2], [2]), ([8, 2], [2, 8]), ([7, 9, 7, 2], [2, 7, 9]), ([6, 10, 2], [2, 6, 10]), ([2, 11], [2, 11])])
def marigraphkeep_Of.B2 : List Nat := [0, 1, 3, 7, 7, 23, 63, 127, 7, 263, 1023, 2047, 4095]
theorem marigraphkeep_Of.tab2 : rtab .any (opsOf Try.f11 2) = marigraphkeep_Of.T2 := by kernel_rfl
theorem marigraphkeep_Of.bits2 : waitsOk marigraphkeep_Of.T2.2 marigraphkeep_Of.B2 = true := by kernel_rfl
def marigraphkeep_Of.T3 : Bool × List (List Nat × List Nat) := (true, [([], []), ([0], [0]), ([], []), ([], []), ([3], [3]), ([2, 4, 2], [2, 4]), ([5], []), ([], []), ([7], [7]), ([6, 8, 6], [6, 8]), ([5, 9], [5, 9]), ([10], [10]), ([1, 11, 9], [1, 11]), ([0, 1, 2, 3, 4, 5, 6, 7, 8, 9, 10, 11, 12], []), ([13, 12, 12, 0, 1, 2, 3, 4, 5, 6, 7, 8, 9, 10, 11, 12], [12, 13])])
def marigraphkeep_Of.B3 : List Nat := [0, 1, 0, 0, 8, 28, 60, 0, 128, 508, 1020, 2044, 4095, 8191, 16383]
theorem marigraphkeep_Of.tab3 : rtab .any (opsOf Try.f11 3) = marigraphkeep_Of.T3 := by kernel_rfl
theorem marigraphkeep_Of.bits3 : waitsOk marigraphkeep_Of.T3.2 marigraphkeep_Of.B3 = true := by kernel_rfl
set_option maxHeartbeats 8000000 in
set_option maxRecDepth 100000 in
theorem marigraphkeep_Of.calls (k : Nat) (a0_0 : Int) (a0_1 : Int) (a0_2 : Int) (a0_3 : Int) (a0_4 : Int) (a0_5 : Bool) (a0_6 : Int) (a0_7 : Int) (r1 : ByteArray) (r2 : List (S25)) (r3 : Int) (r4 : Int) (w : World) (h : marigraphkeep_Of.f k a0_0 a0_1 a0_2 a0_3 a0_4 a0_5 a0_6 a0_7 = some (r1, r2, r3, r4)) :
  Calls Try.prog 11 #[.agg #[.int .i64 a0_0, .int .i64 a0_1, .int .i64 a0_2, .int .i64 a0_3, .int .i64 a0_4, .bool a0_5, .int .i64 a0_6, .int .i64 a0_7]] w fun e w' => ∃ v1_ : Value, e = .returned (.agg #[.string r1, v1_, .int .i64 r3, .int .i64 r4]) ∧ Kd.R k25 25 w' w.heap.size (fun _ => True) v1_ r2 ∧ Below w.heap.size w w' := by
 have hu34 := Try.underlying34
 have hu31 := Try.underlying31
 have hu25 := Try.underlying25
 have HB := Aside0.mk (Below.refl w.heap.size w)
 have H : ((marigraphkeep_Metrics.f).bind fun t169 => ((marigraphkeep_pick.f k t169 a0_0).bind fun t172 => ((marigraphkeep_Keys.f).bind fun t173 => ((marigraphkeep_pick.f k t173 a0_1).bind fun t176 => ((marigraphkeep_Values.f).bind fun t177 => ((marigraphkeep_pick.f k t177 a0_2).bind fun t180 => ((some (([(⟨t176, t180⟩ : S25)] : List (S25)) : List (S25))).bind fun y181 => ((marigraphbook_Within.f k a0_6 0 9000).bind fun t184 => ((marigraphbook_Within.f k a0_7 (-2147483647) 2147483647).bind fun t185 => (if a0_5 = true then ((marigraphkeep_Keys.f).bind fun t187 => ((marigraphkeep_pick.f k t187 a0_1).bind fun t190 => ((marigraphkeep_Keys.f).bind fun t191 => ((marigraphkeep_pick.f k t191 a0_3).bind fun t194 => (marigraphkeep_Of.j0 k (t190.toList != t194.toList) a0_0 a0_1 a0_2 a0_3 a0_4 a0_5 a0_6 a0_7 t172 y181 t184 t185))))) else (marigraphkeep_Of.j0 k false a0_0 a0_1 a0_2 a0_3 a0_4 a0_5 a0_6 a0_7 t172 y181 t184 t185))))))))))) = some (r1, r2, r3, r4) := h
 clear h
 replace H := Option.bind_eq_some_iff.mp H
 obtain ⟨t169, A20, H⟩ := H
 replace H : ((marigraphkeep_pick.f k t169 a0_0).bind fun t172 => ((marigraphkeep_Keys.f).bind fun t173 => ((marigraphkeep_pick.f k t173 a0_1).bind fun t176 => ((marigraphkeep_Values.f).bind fun t177 => ((marigraphkeep_pick.f k t177 a0_2).bind fun t180 => ((some (([(⟨t176, t180⟩ : S25)] : List (S25)) : List (S25))).bind fun y181 => ((marigraphbook_Within.f k a0_6 0 9000).bind fun t184 => ((marigraphbook_Within.f k a0_7 (-2147483647) 2147483647).bind fun t185 => (if a0_5 = true then ((marigraphkeep_Keys.f).bind fun t187 => ((marigraphkeep_pick.f k t187 a0_1).bind fun t190 => ((marigraphkeep_Keys.f).bind fun t191 => ((marigraphkeep_pick.f k t191 a0_3).bind fun t194 => (marigraphkeep_Of.j0 k (t190.toList != t194.toList) a0_0 a0_1 a0_2 a0_3 a0_4 a0_5 a0_6 a0_7 t172 y181 t184 t185))))) else (marigraphkeep_Of.j0 k false a0_0 a0_1 a0_2 a0_3 a0_4 a0_5 a0_6 a0_7 t172 y181 t184 t185)))))))))) = some (r1, r2, r3, r4) := H
 have A2 := Aside0.mk A20
 clear A20
 replace H := Option.bind_eq_some_iff.mp H
 obtain ⟨t172, A30, H⟩ := H
 replace H : ((marigraphkeep_Keys.f).bind fun t173 => ((marigraphkeep_pick.f k t173 a0_1).bind fun t176 => ((marigraphkeep_Values.f).bind fun t177 => ((marigraphkeep_pick.f k t177 a0_2).bind fun t180 => ((some (([(⟨t176, t180⟩ : S25)] : List (S25)) : List (S25))).bind fun y181 => ((marigraphbook_Within.f k a0_6 0 9000).bind fun t184 => ((marigraphbook_Within.f k a0_7 (-2147483647) 2147483647).bind fun t185 => (if a0_5 = true then ((marigraphkeep_Keys.f).bind fun t187 => ((marigraphkeep_pick.f k t187 a0_1).bind fun t190 => ((marigraphkeep_Keys.f).bind fun t191 => ((marigraphkeep_pick.f k t191 a0_3).bind fun t194 => (marigraphkeep_Of.j0 k (t190.toList != t194.toList) a0_0 a0_1 a0_2 a0_3 a0_4 a0_5 a0_6 a0_7 t172 y181 t184 t185))))) else (marigraphkeep_Of.j0 k false a0_0 a0_1 a0_2 a0_3 a0_4 a0_5 a0_6 a0_7 t172 y181 t184 t185))))))))) = some (r1, r2, r3, r4) := H
 have A3 := Aside0.mk A30
 clear A30
 replace H := Option.bind_eq_some_iff.mp H
 obtain ⟨t173, A40, H⟩ := H
 replace H : ((marigraphkeep_pick.f k t173 a0_1).bind fun t176 => ((marigraphkeep_Values.f).bind fun t177 => ((marigraphkeep_pick.f k t177 a0_2).bind fun t180 => ((some (([(⟨t176, t180⟩ : S25)] : List (S25)) : List (S25))).bind fun y181 => ((marigraphbook_Within.f k a0_6 0 9000).bind fun t184 => ((marigraphbook_Within.f k a0_7 (-2147483647) 2147483647).bind fun t185 => (if a0_5 = true then ((marigraphkeep_Keys.f).bind fun t187 => ((marigraphkeep_pick.f k t187 a0_1).bind fun t190 => ((marigraphkeep_Keys.f).bind fun t191 => ((marigraphkeep_pick.f k t191 a0_3).bind fun t194 => (marigraphkeep_Of.j0 k (t190.toList != t194.toList) a0_0 a0_1 a0_2 a0_3 a0_4 a0_5 a0_6 a0_7 t172 y181 t184 t185))))) else (marigraphkeep_Of.j0 k false a0_0 a0_1 a0_2 a0_3 a0_4 a0_5 a0_6 a0_7 t172 y181 t184 t185)))))))) = some (r1, r2, r3, r4) := H
 have A4 := Aside0.mk A40
 clear A40
 replace H := Option.bind_eq_some_iff.mp H
 obtain ⟨t176, A50, H⟩ := H
 replace H : ((marigraphkeep_Values.f).bind fun t177 => ((marigraphkeep_pick.f k t177 a0_2).bind fun t180 => ((some (([(⟨t176, t180⟩ : S25)] : List (S25)) : List (S25))).bind fun y181 => ((marigraphbook_Within.f k a0_6 0 9000).bind fun t184 => ((marigraphbook_Within.f k a0_7 (-2147483647) 2147483647).bind fun t185 => (if a0_5 = true then ((marigraphkeep_Keys.f).bind fun t187 => ((marigraphkeep_pick.f k t187 a0_1).bind fun t190 => ((marigraphkeep_Keys.f).bind fun t191 => ((marigraphkeep_pick.f k t191 a0_3).bind fun t194 => (marigraphkeep_Of.j0 k (t190.toList != t194.toList) a0_0 a0_1 a0_2 a0_3 a0_4 a0_5 a0_6 a0_7 t172 y181 t184 t185))))) else (marigraphkeep_Of.j0 k false a0_0 a0_1 a0_2 a0_3 a0_4 a0_5 a0_6 a0_7 t172 y181 t184 t185))))))) = some (r1, r2, r3, r4) := H
 have A5 := Aside0.mk A50
 clear A50
 replace H := Option.bind_eq_some_iff.mp H
 obtain ⟨t177, A60, H⟩ := H
 replace H : ((marigraphkeep_pick.f k t177 a0_2).bind fun t180 => ((some (([(⟨t176, t180⟩ : S25)] : List (S25)) : List (S25))).bind fun y181 => ((marigraphbook_Within.f k a0_6 0 9000).bind fun t184 => ((marigraphbook_Within.f k a0_7 (-2147483647) 2147483647).bind fun t185 => (if a0_5 = true then ((marigraphkeep_Keys.f).bind fun t187 => ((marigraphkeep_pick.f k t187 a0_1).bind fun t190 => ((marigraphkeep_Keys.f).bind fun t191 => ((marigraphkeep_pick.f k t191 a0_3).bind fun t194 => (marigraphkeep_Of.j0 k (t190.toList != t194.toList) a0_0 a0_1 a0_2 a0_3 a0_4 a0_5 a0_6 a0_7 t172 y181 t184 t185))))) else (marigraphkeep_Of.j0 k false a0_0 a0_1 a0_2 a0_3 a0_4 a0_5 a0_6 a0_7 t172 y181 t184 t185)))))) = some (r1, r2, r3, r4) := H
 have A6 := Aside0.mk A60
 clear A60
 replace H := Option.bind_eq_some_iff.mp H
 obtain ⟨t180, A70, H⟩ := H
 replace H : ((some (([(⟨t176, t180⟩ : S25)] : List (S25)) : List (S25))).bind fun y181 => ((marigraphbook_Within.f k a0_6 0 9000).bind fun t184 => ((marigraphbook_Within.f k a0_7 (-2147483647) 2147483647).bind fun t185 => (if a0_5 = true then ((marigraphkeep_Keys.f).bind fun t187 => ((marigraphkeep_pick.f k t187 a0_1).bind fun t190 => ((marigraphkeep_Keys.f).bind fun t191 => ((marigraphkeep_pick.f k t191 a0_3).bind fun t194 => (marigraphkeep_Of.j0 k (t190.toList != t194.toList) a0_0 a0_1 a0_2 a0_3 a0_4 a0_5 a0_6 a0_7 t172 y181 t184 t185))))) else (marigraphkeep_Of.j0 k false a0_0 a0_1 a0_2 a0_3 a0_4 a0_5 a0_6 a0_7 t172 y181 t184 t185))))) = some (r1, r2, r3, r4) := H
 have A7 := Aside0.mk A70
 clear A70
 obtain ⟨y181, hy181⟩ : ∃ y_ : List (S25), y_ = (([(⟨t176, t180⟩ : S25)] : List (S25))) := ⟨_, rfl⟩
 replace H : ((marigraphbook_Within.f k a0_6 0 9000).bind fun t184 => ((marigraphbook_Within.f k a0_7 (-2147483647) 2147483647).bind fun t185 => (if a0_5 = true then ((marigraphkeep_Keys.f).bind fun t187 => ((marigraphkeep_pick.f k t187 a0_1).bind fun t190 => ((marigraphkeep_Keys.f).bind fun t191 => ((marigraphkeep_pick.f k t191 a0_3).bind fun t194 => (marigraphkeep_Of.j0 k (t190.toList != t194.toList) a0_0 a0_1 a0_2 a0_3 a0_4 a0_5 a0_6 a0_7 t172 y181 t184 t185))))) else (marigraphkeep_Of.j0 k false a0_0 a0_1 a0_2 a0_3 a0_4 a0_5 a0_6 a0_7 t172 y181 t184 t185)))) = some (r1, r2, r3, r4) := by first | (rw [hy181]; with_reducible exact H) | (have H2_ := (Option.bind_some _ _).symm.trans H; rw [hy181]; with_reducible exact H2_) | (have H2_ := (Option.bind_some _ _).symm.trans H; with_reducible exact H2_) | with_reducible exact H | (rw [hy181]; exact H) | exact H
 have Ny181 := Aside0.mk hy181
 clear hy181
 replace H := Option.bind_eq_some_iff.mp H
 obtain ⟨t184, A80, H⟩ := H
 replace H : ((marigraphbook_Within.f k a0_7 (-2147483647) 2147483647).bind fun t185 => (if a0_5 = true then ((marigraphkeep_Keys.f).bind fun t187 => ((marigraphkeep_pick.f k t187 a0_1).bind fun t190 => ((marigraphkeep_Keys.f).bind fun t191 => ((marigraphkeep_pick.f k t191 a0_3).bind fun t194 => (marigraphkeep_Of.j0 k (t190.toList != t194.toList) a0_0 a0_1 a0_2 a0_3 a0_4 a0_5 a0_6 a0_7 t172 y181 t184 t185))))) else (marigraphkeep_Of.j0 k false a0_0 a0_1 a0_2 a0_3 a0_4 a0_5 a0_6 a0_7 t172 y181 t184 t185))) = some (r1, r2, r3, r4) := H
 have A8 := Aside0.mk A80
 clear A80
 replace H := Option.bind_eq_some_iff.mp H
 obtain ⟨t185, A90, H⟩ := H
 replace H : (if a0_5 = true then ((marigraphkeep_Keys.f).bind fun t187 => ((marigraphkeep_pick.f k t187 a0_1).bind fun t190 => ((marigraphkeep_Keys.f).bind fun t191 => ((marigraphkeep_pick.f k t191 a0_3).bind fun t194 => (marigraphkeep_Of.j0 k (t190.toList != t194.toList) a0_0 a0_1 a0_2 a0_3 a0_4 a0_5 a0_6 a0_7 t172 y181 t184 t185))))) else (marigraphkeep_Of.j0 k false a0_0 a0_1 a0_2 a0_3 a0_4 a0_5 a0_6 a0_7 t172 y181 t184 t185)) = some (r1, r2, r3, r4) := H
 have A9 := Aside0.mk A90
 clear A90
 have HC10 := Aside0.mk H
 clear H
 go_enter Try.func11, Try.ntmps11
 try go_wp2_with (first | ((with_reducible refine gate_dst (N := 1) rfl ?_); refine box_event ?hg (N := 1) ?hd (cs := #[.int .i64 a0_0, .int .i64 a0_1, .int .i64 a0_2, .int .i64 a0_3, .int .i64 a0_4, .bool a0_5, .int .i64 a0_6, .int .i64 a0_7]) (t := 34) ?hr ?_; (case hd => rfl); (case hg => rfl); (case hr => first | (go_simp; done) | (go_simp; rfl)); intro gb167 hg w11 hbox hb; have n0_ := Aside0.mk (below_step (belN HB.out) hb); have n1_ := Aside0.mk (hbox); have n2_ := Aside0.mk (szB hg HB.out); have n3_ := Aside0.mk (szB hg HB.out); clear HB; have HB := n0_; have BK167 := n1_; have GW167 := n2_; have GE167 := n3_; clear n0_ n1_ n2_ n3_; clear hb hbox hg) | ((with_reducible refine gate_dst (N := 2) rfl ?_); refine box_event ?hg (N := 2) ?hd (cs := #[.string (⟨#[]⟩ : ByteArray), .slice none 0 0, .int .i64 0, .int .i64 0]) (t := 31) ?hr ?_; (case hd => rfl); (case hg => rfl); (case hr => first | (go_simp; done) | (go_simp; rfl)); intro gb168 hg w12 hbox hb; have n0_ := Aside0.mk (bkB BK167.out hb); have n1_ := Aside0.mk (below_step (belS HB.out) hb); have n2_ := Aside0.mk (hbox); have n3_ := Aside0.mk (szB hg HB.out); have n4_ := Aside0.mk (szB hg HB.out); have n5_ := Aside0.mk ((bk1 hg BK167.out)); have n6_ := Aside0.mk ((bk2 hg BK167.out)); clear BK167; clear HB; have BK167 := n0_; have HB := n1_; have BK168 := n2_; have GW168 := n3_; have GE168 := n4_; have NB167_168 := n5_; have NB168_167 := n6_; clear n0_ n1_ n2_ n3_ n4_ n5_ n6_; clear hb hbox hg))
 have n0_ := Aside0.mk (blk_drew BK167.out)
 have n1_ := Aside0.mk (blk_drew BK168.out)
 have n2_ := Aside0.mk (below_drew1 HB.out)
 clear BK167
 clear BK168
 clear HB
 have BK167 := n0_
 have BK168 := n1_
 have HB := n2_
 clear n0_ n1_ n2_
 refine start_ (n := 23) (S := fun w' => w'.cell? ⟨gb167, 0, none⟩ = some (.int .i64 a0_0) ∧ w'.cell? ⟨gb167, 1, none⟩ = some (.int .i64 a0_1) ∧ w'.cell? ⟨gb167, 2, none⟩ = some (.int .i64 a0_2) ∧ w'.cell? ⟨gb167, 3, none⟩ = some (.int .i64 a0_3) ∧ w'.cell? ⟨gb167, 4, none⟩ = some (.int .i64 a0_4) ∧ w'.cell? ⟨gb167, 5, none⟩ = some (.bool a0_5) ∧ w'.cell? ⟨gb167, 6, none⟩ = some (.int .i64 a0_6) ∧ w'.cell? ⟨gb167, 7, none⟩ = some (.int .i64 a0_7)) (ds := []) #[false, false, false, false, false, false, false, false, false, false, false, false, false, false, false, false, false, false, false, false, false, false, false] (by kernel_rfl) rfl rfl ⟨(blk_cell BK167.out 0).trans rfl, (blk_cell BK167.out 1).trans rfl, (blk_cell BK167.out 2).trans rfl, (blk_cell BK167.out 3).trans rfl, (blk_cell BK167.out 4).trans rfl, (blk_cell BK167.out 5).trans rfl, (blk_cell BK167.out 6).trans rfl, (blk_cell BK167.out 7).trans rfl⟩ (fun hHeld => ?_); refine with_tabW marigraphkeep_Of.tab1 marigraphkeep_Of.bits1 (fun HT_ HW_ => ?_)
 generalize w12.drew = w13 at BK167 BK168 HB hHeld ⊢
 refine pA 1 (some 5) (bA 23 2) HT_.out ?_
 refine pA 5 (some 9) (bA 23 34) HT_.out ?_
 refine pA 9 (some 13) (bA 23 546) HT_.out ?_
 refine pA 14 (some 18) (bA 23 16930) HT_.out ?_
 refine pA 17 (some 21) (bA 23 148002) HT_.out ?_
 refine take_ (i := 2) (N := some 6) (v := ?_) (a' := ?_) (bA 23 148006) rfl rfl (take_ofW HT_.out HW_.out (by kernel_rfl)) (fun _ _ _ h => h) (Or.inl ⟨by rfl, ?_⟩) hHeld ?_ ?_
 rotate_left
 ·rintro w' ⟨s0, s1, s2, s3, s4, s5, s6, s7⟩
  go_simp
  with_reducible rfl
 rotate_left
 ·simp only [Act.put, List.setIfInBounds_toArray, List.set_cons_zero, List.set_cons_succ, i64_w, i32_w]
  rfl
 refine take_ (i := 6) (N := some 10) (v := ?_) (a' := ?_) (bA 23 148070) rfl rfl (take_ofW HT_.out HW_.out (by kernel_rfl)) (fun _ _ _ h => h) (Or.inl ⟨by rfl, ?_⟩) hHeld ?_ ?_
 rotate_left
 ·rintro w' ⟨s0, s1, s2, s3, s4, s5, s6, s7⟩
  go_simp
  with_reducible rfl
 rotate_left
 ·simp only [Act.put, List.setIfInBounds_toArray, List.set_cons_zero, List.set_cons_succ, i64_w, i32_w]
  rfl
 refine take_ (i := 10) (N := some 14) (v := ?_) (a' := ?_) (bA 23 149094) rfl rfl (take_ofW HT_.out HW_.out (by kernel_rfl)) (fun _ _ _ h => h) (Or.inl ⟨by rfl, ?_⟩) hHeld ?_ ?_
 rotate_left
 ·rintro w' ⟨s0, s1, s2, s3, s4, s5, s6, s7⟩
  go_simp
  with_reducible rfl
 rotate_left
 ·simp only [Act.put, List.setIfInBounds_toArray, List.set_cons_zero, List.set_cons_succ, i64_w, i32_w]
  rfl
 refine take_ (i := 15) (N := some 19) (v := ?_) (a' := ?_) (bA 23 181862) rfl rfl (take_ofW HT_.out HW_.out (by kernel_rfl)) (fun _ _ _ h => h) (Or.inl ⟨by rfl, ?_⟩) hHeld ?_ ?_
 rotate_left
 ·rintro w' ⟨s0, s1, s2, s3, s4, s5, s6, s7⟩
  go_simp
  with_reducible rfl
 rotate_left
 ·simp only [Act.put, List.setIfInBounds_toArray, List.set_cons_zero, List.set_cons_succ, i64_w, i32_w]
  rfl
 refine take_ (i := 18) (N := some 22) (v := ?_) (a' := ?_) (bA 23 444006) rfl rfl (take_ofW HT_.out HW_.out (by kernel_rfl)) (fun _ _ _ h => h) (Or.inl ⟨by rfl, ?_⟩) hHeld ?_ ?_
 rotate_left
 ·rintro w' ⟨s0, s1, s2, s3, s4, s5, s6, s7⟩
  go_simp
  with_reducible rfl
 rotate_left
 ·simp only [Act.put, List.setIfInBounds_toArray, List.set_cons_zero, List.set_cons_succ, i64_w, i32_w]
  rfl
 refine join_ (σ := Value × Value × Value × Value × Nat) 1 (bA 23 4194303) (fun s_ => [(4, s_.1), (7, .string t172), (8, s_.2.1), (11, .string t176), (12, s_.2.2.1), (15, .string t180), (17, s_.2.2.2.1), (20, .int .i64 t184), (23, .int .i64 t185), (3, .pointer (some ⟨s_.2.2.2.2, 0, none⟩)), (16, .agg #[.string t176, .string t180]), (24, .agg #[.string t172, s_.2.2.2.1, .int .i64 t184, .int .i64 t185])]) (fun s_ w' => (w'.cell? ⟨gb167, 0, none⟩ = some (.int .i64 a0_0) ∧ w'.cell? ⟨gb167, 1, none⟩ = some (.int .i64 a0_1) ∧ w'.cell? ⟨gb167, 2, none⟩ = some (.int .i64 a0_2) ∧ w'.cell? ⟨gb167, 3, none⟩ = some (.int .i64 a0_3) ∧ w'.cell? ⟨gb167, 4, none⟩ = some (.int .i64 a0_4) ∧ w'.cell? ⟨gb167, 5, none⟩ = some (.bool a0_5) ∧ w'.cell? ⟨gb167, 6, none⟩ = some (.int .i64 a0_6) ∧ w'.cell? ⟨gb167, 7, none⟩ = some (.int .i64 a0_7)) ∧ (Kd.R Kd.string 9 w' w.heap.size (fun k_ => some k_ ≠ (s_.2.1 : Value).ownBlock ∧ some k_ ≠ (s_.2.2.1 : Value).ownBlock) s_.1 t169) ∧ (Kd.R Kd.string 9 w' w.heap.size (fun k_ => some k_ ≠ (s_.1 : Value).ownBlock ∧ some k_ ≠ (s_.2.2.1 : Value).ownBlock) s_.2.1 t173) ∧ (Kd.R Kd.string 9 w' w.heap.size (fun k_ => some k_ ≠ (s_.1 : Value).ownBlock ∧ some k_ ≠ (s_.2.1 : Value).ownBlock) s_.2.2.1 t177) ∧ (Kd.R k25 25 w' w.heap.size (fun _ => True) s_.2.2.2.1 y181) ∧ (w'.heap[gb167]? = some (.cells #[.int .i64 a0_0, .int .i64 a0_1, .int .i64 a0_2, .int .i64 a0_3, .int .i64 a0_4, .bool a0_5, .int .i64 a0_6, .int .i64 a0_7] 34 (0, 0))) ∧ (w'.heap[gb168]? = some (.cells #[.string (⟨#[]⟩ : ByteArray), .slice none 0 0, .int .i64 0, .int .i64 0] 31 (0, 0))) ∧ (w'.heap[s_.2.2.2.2]? = some (.cells #[.string (⟨#[]⟩ : ByteArray), .slice none 0 0, .int .i64 0, .int .i64 0] 31 (0, 0))) ∧ (w.heap.size ≤ s_.2.2.2.2) ∧ (w.heap.size ≤ s_.2.2.2.2) ∧ (gb167 ≠ s_.2.2.2.2) ∧ (s_.2.2.2.2 ≠ gb167) ∧ (gb168 ≠ s_.2.2.2.2) ∧ (s_.2.2.2.2 ≠ gb168) ∧ (Below w.heap.size w w')) ?_ ?_
 rotate_left
 ·intro hJ0_3_4_7_8_11_13_16_19_21
  refine join_ (σ := Value × Value × Value × Value) 2 (bA 23 2097151) (fun s_ => [(4, s_.1), (7, .string t172), (8, s_.2.1), (11, .string t176), (12, s_.2.2.1), (15, .string t180), (17, s_.2.2.2), (20, .int .i64 t184), (23, .int .i64 t185), (16, .agg #[.string t176, .string t180]), (24, .agg #[.string t172, s_.2.2.2, .int .i64 t184, .int .i64 t185])]) (fun s_ w' => (w'.cell? ⟨gb167, 0, none⟩ = some (.int .i64 a0_0) ∧ w'.cell? ⟨gb167, 1, none⟩ = some (.int .i64 a0_1) ∧ w'.cell? ⟨gb167, 2, none⟩ = some (.int .i64 a0_2) ∧ w'.cell? ⟨gb167, 3, none⟩ = some (.int .i64 a0_3) ∧ w'.cell? ⟨gb167, 4, none⟩ = some (.int .i64 a0_4) ∧ w'.cell? ⟨gb167, 5, none⟩ = some (.bool a0_5) ∧ w'.cell? ⟨gb167, 6, none⟩ = some (.int .i64 a0_6) ∧ w'.cell? ⟨gb167, 7, none⟩ = some (.int .i64 a0_7)) ∧ (Kd.R Kd.string 9 w' w.heap.size (fun k_ => some k_ ≠ (s_.2.1 : Value).ownBlock ∧ some k_ ≠ (s_.2.2.1 : Value).ownBlock) s_.1 t169) ∧ (Kd.R Kd.string 9 w' w.heap.size (fun k_ => some k_ ≠ (s_.1 : Value).ownBlock ∧ some k_ ≠ (s_.2.2.1 : Value).ownBlock) s_.2.1 t173) ∧ (Kd.R Kd.string 9 w' w.heap.size (fun k_ => some k_ ≠ (s_.1 : Value).ownBlock ∧ some k_ ≠ (s_.2.1 : Value).ownBlock) s_.2.2.1 t177) ∧ (Kd.R k25 25 w' w.heap.size (fun _ => True) s_.2.2.2 y181) ∧ (w'.heap[gb167]? = some (.cells #[.int .i64 a0_0, .int .i64 a0_1, .int .i64 a0_2, .int .i64 a0_3, .int .i64 a0_4, .bool a0_5, .int .i64 a0_6, .int .i64 a0_7] 34 (0, 0))) ∧ (w'.heap[gb168]? = some (.cells #[.string (⟨#[]⟩ : ByteArray), .slice none 0 0, .int .i64 0, .int .i64 0] 31 (0, 0))) ∧ (Below w.heap.size w w')) ?_ ?_
  rotate_left
  ·intro hJ0_3_4_7_8_11_13_16_19
   refine join_ (σ := Value × Value × Value × Value × Nat) 3 (bA 23 2621439) (fun s_ => [(4, s_.1), (7, .string t172), (8, s_.2.1), (11, .string t176), (12, s_.2.2.1), (15, .string t180), (17, s_.2.2.2.1), (20, .int .i64 t184), (3, .pointer (some ⟨s_.2.2.2.2, 0, none⟩)), (16, .agg #[.string t176, .string t180])]) (fun s_ w' => (w'.cell? ⟨gb167, 0, none⟩ = some (.int .i64 a0_0) ∧ w'.cell? ⟨gb167, 1, none⟩ = some (.int .i64 a0_1) ∧ w'.cell? ⟨gb167, 2, none⟩ = some (.int .i64 a0_2) ∧ w'.cell? ⟨gb167, 3, none⟩ = some (.int .i64 a0_3) ∧ w'.cell? ⟨gb167, 4, none⟩ = some (.int .i64 a0_4) ∧ w'.cell? ⟨gb167, 5, none⟩ = some (.bool a0_5) ∧ w'.cell? ⟨gb167, 6, none⟩ = some (.int .i64 a0_6) ∧ w'.cell? ⟨gb167, 7, none⟩ = some (.int .i64 a0_7)) ∧ (Kd.R Kd.string 9 w' w.heap.size (fun k_ => some k_ ≠ (s_.2.1 : Value).ownBlock ∧ some k_ ≠ (s_.2.2.1 : Value).ownBlock) s_.1 t169) ∧ (Kd.R Kd.string 9 w' w.heap.size (fun k_ => some k_ ≠ (s_.1 : Value).ownBlock ∧ some k_ ≠ (s_.2.2.1 : Value).ownBlock) s_.2.1 t173) ∧ (Kd.R Kd.string 9 w' w.heap.size (fun k_ => some k_ ≠ (s_.1 : Value).ownBlock ∧ some k_ ≠ (s_.2.1 : Value).ownBlock) s_.2.2.1 t177) ∧ (Kd.R k25 25 w' w.heap.size (fun _ => True) s_.2.2.2.1 y181) ∧ (w'.heap[gb167]? = some (.cells #[.int .i64 a0_0, .int .i64 a0_1, .int .i64 a0_2, .int .i64 a0_3, .int .i64 a0_4, .bool a0_5, .int .i64 a0_6, .int .i64 a0_7] 34 (0, 0))) ∧ (w'.heap[gb168]? = some (.cells #[.string (⟨#[]⟩ : ByteArray), .slice none 0 0, .int .i64 0, .int .i64 0] 31 (0, 0))) ∧ (w'.heap[s_.2.2.2.2]? = some (.cells #[.string (⟨#[]⟩ : ByteArray), .slice none 0 0, .int .i64 0, .int .i64 0] 31 (0, 0))) ∧ (w.heap.size ≤ s_.2.2.2.2) ∧ (w.heap.size ≤ s_.2.2.2.2) ∧ (gb167 ≠ s_.2.2.2.2) ∧ (s_.2.2.2.2 ≠ gb167) ∧ (gb168 ≠ s_.2.2.2.2) ∧ (s_.2.2.2.2 ≠ gb168) ∧ (Below w.heap.size w w')) ?_ ?_
   rotate_left
   ·intro hJ0_3_4_7_8_11_13_16_21
    refine join_ (σ := Value × Value × Value × Nat) 3 (bA 23 3137535) (fun s_ => [(4, s_.1), (7, .string t172), (8, s_.2.1), (11, .string t176), (12, s_.2.2.1), (15, .string t180), (20, .int .i64 t184), (23, .int .i64 t185), (3, .pointer (some ⟨s_.2.2.2, 0, none⟩)), (16, .agg #[.string t176, .string t180])]) (fun s_ w' => (w'.cell? ⟨gb167, 0, none⟩ = some (.int .i64 a0_0) ∧ w'.cell? ⟨gb167, 1, none⟩ = some (.int .i64 a0_1) ∧ w'.cell? ⟨gb167, 2, none⟩ = some (.int .i64 a0_2) ∧ w'.cell? ⟨gb167, 3, none⟩ = some (.int .i64 a0_3) ∧ w'.cell? ⟨gb167, 4, none⟩ = some (.int .i64 a0_4) ∧ w'.cell? ⟨gb167, 5, none⟩ = some (.bool a0_5) ∧ w'.cell? ⟨gb167, 6, none⟩ = some (.int .i64 a0_6) ∧ w'.cell? ⟨gb167, 7, none⟩ = some (.int .i64 a0_7)) ∧ (Kd.R Kd.string 9 w' w.heap.size (fun k_ => some k_ ≠ (s_.2.1 : Value).ownBlock ∧ some k_ ≠ (s_.2.2.1 : Value).ownBlock) s_.1 t169) ∧ (Kd.R Kd.string 9 w' w.heap.size (fun k_ => some k_ ≠ (s_.1 : Value).ownBlock ∧ some k_ ≠ (s_.2.2.1 : Value).ownBlock) s_.2.1 t173) ∧ (Kd.R Kd.string 9 w' w.heap.size (fun k_ => some k_ ≠ (s_.1 : Value).ownBlock ∧ some k_ ≠ (s_.2.1 : Value).ownBlock) s_.2.2.1 t177) ∧ (w'.heap[gb167]? = some (.cells #[.int .i64 a0_0, .int .i64 a0_1, .int .i64 a0_2, .int .i64 a0_3, .int .i64 a0_4, .bool a0_5, .int .i64 a0_6, .int .i64 a0_7] 34 (0, 0))) ∧ (w'.heap[gb168]? = some (.cells #[.string (⟨#[]⟩ : ByteArray), .slice none 0 0, .int .i64 0, .int .i64 0] 31 (0, 0))) ∧ (w'.heap[s_.2.2.2]? = some (.cells #[.string (⟨#[]⟩ : ByteArray), .slice none 0 0, .int .i64 0, .int .i64 0] 31 (0, 0))) ∧ (w.heap.size ≤ s_.2.2.2) ∧ (w.heap.size ≤ s_.2.2.2) ∧ (gb167 ≠ s_.2.2.2) ∧ (s_.2.2.2 ≠ gb167) ∧ (gb168 ≠ s_.2.2.2) ∧ (s_.2.2.2 ≠ gb168) ∧ (Below w.heap.size w w')) ?_ ?_
    rotate_left
    ·intro hJ0_3_4_7_8_11_16_19_21
     refine join_ (σ := Value × Value × Value × Value) 4 (bA 23 524287) (fun s_ => [(4, s_.1), (7, .string t172), (8, s_.2.1), (11, .string t176), (12, s_.2.2.1), (15, .string t180), (17, s_.2.2.2), (20, .int .i64 t184), (16, .agg #[.string t176, .string t180])]) (fun s_ w' => (w'.cell? ⟨gb167, 0, none⟩ = some (.int .i64 a0_0) ∧ w'.cell? ⟨gb167, 1, none⟩ = some (.int .i64 a0_1) ∧ w'.cell? ⟨gb167, 2, none⟩ = some (.int .i64 a0_2) ∧ w'.cell? ⟨gb167, 3, none⟩ = some (.int .i64 a0_3) ∧ w'.cell? ⟨gb167, 4, none⟩ = some (.int .i64 a0_4) ∧ w'.cell? ⟨gb167, 5, none⟩ = some (.bool a0_5) ∧ w'.cell? ⟨gb167, 6, none⟩ = some (.int .i64 a0_6) ∧ w'.cell? ⟨gb167, 7, none⟩ = some (.int .i64 a0_7)) ∧ (Kd.R Kd.string 9 w' w.heap.size (fun k_ => some k_ ≠ (s_.2.1 : Value).ownBlock ∧ some k_ ≠ (s_.2.2.1 : Value).ownBlock) s_.1 t169) ∧ (Kd.R Kd.string 9 w' w.heap.size (fun k_ => some k_ ≠ (s_.1 : Value).ownBlock ∧ some k_ ≠ (s_.2.2.1 : Value).ownBlock) s_.2.1 t173) ∧ (Kd.R Kd.string 9 w' w.heap.size (fun k_ => some k_ ≠ (s_.1 : Value).ownBlock ∧ some k_ ≠ (s_.2.1 : Value).ownBlock) s_.2.2.1 t177) ∧ (Kd.R k25 25 w' w.heap.size (fun _ => True) s_.2.2.2 y181) ∧ (w'.heap[gb167]? = some (.cells #[.int .i64 a0_0, .int .i64 a0_1, .int .i64 a0_2, .int .i64 a0_3, .int .i64 a0_4, .bool a0_5, .int .i64 a0_6, .int .i64 a0_7] 34 (0, 0))) ∧ (w'.heap[gb168]? = some (.cells #[.string (⟨#[]⟩ : ByteArray), .slice none 0 0, .int .i64 0, .int .i64 0] 31 (0, 0))) ∧ (Below w.heap.size w w')) ?_ ?_
     rotate_left
     ·intro hJ0_3_4_7_8_11_13_16
      refine join_ (σ := Value × Value × Value × Value × Nat) 4 (bA 23 2555903) (fun s_ => [(4, s_.1), (7, .string t172), (8, s_.2.1), (11, .string t176), (12, s_.2.2.1), (15, .string t180), (17, s_.2.2.2.1), (3, .pointer (some ⟨s_.2.2.2.2, 0, none⟩)), (16, .agg #[.string t176, .string t180])]) (fun s_ w' => (w'.cell? ⟨gb167, 0, none⟩ = some (.int .i64 a0_0) ∧ w'.cell? ⟨gb167, 1, none⟩ = some (.int .i64 a0_1) ∧ w'.cell? ⟨gb167, 2, none⟩ = some (.int .i64 a0_2) ∧ w'.cell? ⟨gb167, 3, none⟩ = some (.int .i64 a0_3) ∧ w'.cell? ⟨gb167, 4, none⟩ = some (.int .i64 a0_4) ∧ w'.cell? ⟨gb167, 5, none⟩ = some (.bool a0_5) ∧ w'.cell? ⟨gb167, 6, none⟩ = some (.int .i64 a0_6) ∧ w'.cell? ⟨gb167, 7, none⟩ = some (.int .i64 a0_7)) ∧ (Kd.R Kd.string 9 w' w.heap.size (fun k_ => some k_ ≠ (s_.2.1 : Value).ownBlock ∧ some k_ ≠ (s_.2.2.1 : Value).ownBlock) s_.1 t169) ∧ (Kd.R Kd.string 9 w' w.heap.size (fun k_ => some k_ ≠ (s_.1 : Value).ownBlock ∧ some k_ ≠ (s_.2.2.1 : Value).ownBlock) s_.2.1 t173) ∧ (Kd.R Kd.string 9 w' w.heap.size (fun k_ => some k_ ≠ (s_.1 : Value).ownBlock ∧ some k_ ≠ (s_.2.1 : Value).ownBlock) s_.2.2.1 t177) ∧ (Kd.R k25 25 w' w.heap.size (fun _ => True) s_.2.2.2.1 y181) ∧ (w'.heap[gb167]? = some (.cells #[.int .i64 a0_0, .int .i64 a0_1, .int .i64 a0_2, .int .i64 a0_3, .int .i64 a0_4, .bool a0_5, .int .i64 a0_6, .int .i64 a0_7] 34 (0, 0))) ∧ (w'.heap[gb168]? = some (.cells #[.string (⟨#[]⟩ : ByteArray), .slice none 0 0, .int .i64 0, .int .i64 0] 31 (0, 0))) ∧ (w'.heap[s_.2.2.2.2]? = some (.cells #[.string (⟨#[]⟩ : ByteArray), .slice none 0 0, .int .i64 0, .int .i64 0] 31 (0, 0))) ∧ (w.heap.size ≤ s_.2.2.2.2) ∧ (w.heap.size ≤ s_.2.2.2.2) ∧ (gb167 ≠ s_.2.2.2.2) ∧ (s_.2.2.2.2 ≠ gb167) ∧ (gb168 ≠ s_.2.2.2.2) ∧ (s_.2.2.2.2 ≠ gb168) ∧ (Below w.heap.size w w')) ?_ ?_
      rotate_left
      ·intro hJ0_3_4_7_8_11_13_21
       refine join_ (σ := Value × Value × Value) 4 (bA 23 1040383) (fun s_ => [(4, s_.1), (7, .string t172), (8, s_.2.1), (11, .string t176), (12, s_.2.2), (15, .string t180), (20, .int .i64 t184), (23, .int .i64 t185), (16, .agg #[.string t176, .string t180])]) (fun s_ w' => (w'.cell? ⟨gb167, 0, none⟩ = some (.int .i64 a0_0) ∧ w'.cell? ⟨gb167, 1, none⟩ = some (.int .i64 a0_1) ∧ w'.cell? ⟨gb167, 2, none⟩ = some (.int .i64 a0_2) ∧ w'.cell? ⟨gb167, 3, none⟩ = some (.int .i64 a0_3) ∧ w'.cell? ⟨gb167, 4, none⟩ = some (.int .i64 a0_4) ∧ w'.cell? ⟨gb167, 5, none⟩ = some (.bool a0_5) ∧ w'.cell? ⟨gb167, 6, none⟩ = some (.int .i64 a0_6) ∧ w'.cell? ⟨gb167, 7, none⟩ = some (.int .i64 a0_7)) ∧ (Kd.R Kd.string 9 w' w.heap.size (fun k_ => some k_ ≠ (s_.2.1 : Value).ownBlock ∧ some k_ ≠ (s_.2.2 : Value).ownBlock) s_.1 t169) ∧ (Kd.R Kd.string 9 w' w.heap.size (fun k_ => some k_ ≠ (s_.1 : Value).ownBlock ∧ some k_ ≠ (s_.2.2 : Value).ownBlock) s_.2.1 t173) ∧ (Kd.R Kd.string 9 w' w.heap.size (fun k_ => some k_ ≠ (s_.1 : Value).ownBlock ∧ some k_ ≠ (s_.2.1 : Value).ownBlock) s_.2.2 t177) ∧ (w'.heap[gb167]? = some (.cells #[.int .i64 a0_0, .int .i64 a0_1, .int .i64 a0_2, .int .i64 a0_3, .int .i64 a0_4, .bool a0_5, .int .i64 a0_6, .int .i64 a0_7] 34 (0, 0))) ∧ (w'.heap[gb168]? = some (.cells #[.string (⟨#[]⟩ : ByteArray), .slice none 0 0, .int .i64 0, .int .i64 0] 31 (0, 0))) ∧ (Below w.heap.size w w')) ?_ ?_
       rotate_left
       ·intro hJ0_3_4_7_8_11_16_19
        refine join_ (σ := Value × Value × Value × Nat) 4 (bA 23 2613247) (fun s_ => [(4, s_.1), (7, .string t172), (8, s_.2.1), (11, .string t176), (12, s_.2.2.1), (15, .string t180), (20, .int .i64 t184), (3, .pointer (some ⟨s_.2.2.2, 0, none⟩)), (16, .agg #[.string t176, .string t180])]) (fun s_ w' => (w'.cell? ⟨gb167, 0, none⟩ = some (.int .i64 a0_0) ∧ w'.cell? ⟨gb167, 1, none⟩ = some (.int .i64 a0_1) ∧ w'.cell? ⟨gb167, 2, none⟩ = some (.int .i64 a0_2) ∧ w'.cell? ⟨gb167, 3, none⟩ = some (.int .i64 a0_3) ∧ w'.cell? ⟨gb167, 4, none⟩ = some (.int .i64 a0_4) ∧ w'.cell? ⟨gb167, 5, none⟩ = some (.bool a0_5) ∧ w'.cell? ⟨gb167, 6, none⟩ = some (.int .i64 a0_6) ∧ w'.cell? ⟨gb167, 7, none⟩ = some (.int .i64 a0_7)) ∧ (Kd.R Kd.string 9 w' w.heap.size (fun k_ => some k_ ≠ (s_.2.1 : Value).ownBlock ∧ some k_ ≠ (s_.2.2.1 : Value).ownBlock) s_.1 t169) ∧ (Kd.R Kd.string 9 w' w.heap.size (fun k_ => some k_ ≠ (s_.1 : Value).ownBlock ∧ some k_ ≠ (s_.2.2.1 : Value).ownBlock) s_.2.1 t173) ∧ (Kd.R Kd.string 9 w' w.heap.size (fun k_ => some k_ ≠ (s_.1 : Value).ownBlock ∧ some k_ ≠ (s_.2.1 : Value).ownBlock) s_.2.2.1 t177) ∧ (w'.heap[gb167]? = some (.cells #[.int .i64 a0_0, .int .i64 a0_1, .int .i64 a0_2, .int .i64 a0_3, .int .i64 a0_4, .bool a0_5, .int .i64 a0_6, .int .i64 a0_7] 34 (0, 0))) ∧ (w'.heap[gb168]? = some (.cells #[.string (⟨#[]⟩ : ByteArray), .slice none 0 0, .int .i64 0, .int .i64 0] 31 (0, 0))) ∧ (w'.heap[s_.2.2.2]? = some (.cells #[.string (⟨#[]⟩ : ByteArray), .slice none 0 0, .int .i64 0, .int .i64 0] 31 (0, 0))) ∧ (w.heap.size ≤ s_.2.2.2) ∧ (w.heap.size ≤ s_.2.2.2) ∧ (gb167 ≠ s_.2.2.2) ∧ (s_.2.2.2 ≠ gb167) ∧ (gb168 ≠ s_.2.2.2) ∧ (s_.2.2.2 ≠ gb168) ∧ (Below w.heap.size w w')) ?_ ?_
        rotate_left
        ·intro hJ0_3_4_7_8_11_16_21
         refine join_ (σ := Value × Value × Value × Value) 5 (bA 23 458751) (fun s_ => [(4, s_.1), (7, .string t172), (8, s_.2.1), (11, .string t176), (12, s_.2.2.1), (15, .string t180), (17, s_.2.2.2), (16, .agg #[.string t176, .string t180])]) (fun s_ w' => (w'.cell? ⟨gb167, 0, none⟩ = some (.int .i64 a0_0) ∧ w'.cell? ⟨gb167, 1, none⟩ = some (.int .i64 a0_1) ∧ w'.cell? ⟨gb167, 2, none⟩ = some (.int .i64 a0_2) ∧ w'.cell? ⟨gb167, 3, none⟩ = some (.int .i64 a0_3) ∧ w'.cell? ⟨gb167, 4, none⟩ = some (.int .i64 a0_4) ∧ w'.cell? ⟨gb167, 5, none⟩ = some (.bool a0_5) ∧ w'.cell? ⟨gb167, 6, none⟩ = some (.int .i64 a0_6) ∧ w'.cell? ⟨gb167, 7, none⟩ = some (.int .i64 a0_7)) ∧ (Kd.R Kd.string 9 w' w.heap.size (fun k_ => some k_ ≠ (s_.2.1 : Value).ownBlock ∧ some k_ ≠ (s_.2.2.1 : Value).ownBlock) s_.1 t169) ∧ (Kd.R Kd.string 9 w' w.heap.size (fun k_ => some k_ ≠ (s_.1 : Value).ownBlock ∧ some k_ ≠ (s_.2.2.1 : Value).ownBlock) s_.2.1 t173) ∧ (Kd.R Kd.string 9 w' w.heap.size (fun k_ => some k_ ≠ (s_.1 : Value).ownBlock ∧ some k_ ≠ (s_.2.1 : Value).ownBlock) s_.2.2.1 t177) ∧ (Kd.R k25 25 w' w.heap.size (fun _ => True) s_.2.2.2 y181) ∧ (w'.heap[gb167]? = some (.cells #[.int .i64 a0_0, .int .i64 a0_1, .int .i64 a0_2, .int .i64 a0_3, .int .i64 a0_4, .bool a0_5, .int .i64 a0_6, .int .i64 a0_7] 34 (0, 0))) ∧ (w'.heap[gb168]? = some (.cells #[.string (⟨#[]⟩ : ByteArray), .slice none 0 0, .int .i64 0, .int .i64 0] 31 (0, 0))) ∧ (Below w.heap.size w w')) ?_ ?_
         rotate_left
         ·intro hJ0_3_4_7_8_11_13
          refine join_ (σ := Value × Value × Value) 5 (bA 23 516095) (fun s_ => [(4, s_.1), (7, .string t172), (8, s_.2.1), (11, .string t176), (12, s_.2.2), (15, .string t180), (20, .int .i64 t184), (16, .agg #[.string t176, .string t180])]) (fun s_ w' => (w'.cell? ⟨gb167, 0, none⟩ = some (.int .i64 a0_0) ∧ w'.cell? ⟨gb167, 1, none⟩ = some (.int .i64 a0_1) ∧ w'.cell? ⟨gb167, 2, none⟩ = some (.int .i64 a0_2) ∧ w'.cell? ⟨gb167, 3, none⟩ = some (.int .i64 a0_3) ∧ w'.cell? ⟨gb167, 4, none⟩ = some (.int .i64 a0_4) ∧ w'.cell? ⟨gb167, 5, none⟩ = some (.bool a0_5) ∧ w'.cell? ⟨gb167, 6, none⟩ = some (.int .i64 a0_6) ∧ w'.cell? ⟨gb167, 7, none⟩ = some (.int .i64 a0_7)) ∧ (Kd.R Kd.string 9 w' w.heap.size (fun k_ => some k_ ≠ (s_.2.1 : Value).ownBlock ∧ some k_ ≠ (s_.2.2 : Value).ownBlock) s_.1 t169) ∧ (Kd.R Kd.string 9 w' w.heap.size (fun k_ => some k_ ≠ (s_.1 : Value).ownBlock ∧ some k_ ≠ (s_.2.2 : Value).ownBlock) s_.2.1 t173) ∧ (Kd.R Kd.string 9 w' w.heap.size (fun k_ => some k_ ≠ (s_.1 : Value).ownBlock ∧ some k_ ≠ (s_.2.1 : Value).ownBlock) s_.2.2 t177) ∧ (w'.heap[gb167]? = some (.cells #[.int .i64 a0_0, .int .i64 a0_1, .int .i64 a0_2, .int .i64 a0_3, .int .i64 a0_4, .bool a0_5, .int .i64 a0_6, .int .i64 a0_7] 34 (0, 0))) ∧ (w'.heap[gb168]? = some (.cells #[.string (⟨#[]⟩ : ByteArray), .slice none 0 0, .int .i64 0, .int .i64 0] 31 (0, 0))) ∧ (Below w.heap.size w w')) ?_ ?_
          rotate_left
          ·intro hJ0_3_4_7_8_11_16
           refine join_ (σ := Value × Value × Value × Nat) 5 (bA 23 2547711) (fun s_ => [(4, s_.1), (7, .string t172), (8, s_.2.1), (11, .string t176), (12, s_.2.2.1), (15, .string t180), (3, .pointer (some ⟨s_.2.2.2, 0, none⟩)), (16, .agg #[.string t176, .string t180])]) (fun s_ w' => (w'.cell? ⟨gb167, 0, none⟩ = some (.int .i64 a0_0) ∧ w'.cell? ⟨gb167, 1, none⟩ = some (.int .i64 a0_1) ∧ w'.cell? ⟨gb167, 2, none⟩ = some (.int .i64 a0_2) ∧ w'.cell? ⟨gb167, 3, none⟩ = some (.int .i64 a0_3) ∧ w'.cell? ⟨gb167, 4, none⟩ = some (.int .i64 a0_4) ∧ w'.cell? ⟨gb167, 5, none⟩ = some (.bool a0_5) ∧ w'.cell? ⟨gb167, 6, none⟩ = some (.int .i64 a0_6) ∧ w'.cell? ⟨gb167, 7, none⟩ = some (.int .i64 a0_7)) ∧ (Kd.R Kd.string 9 w' w.heap.size (fun k_ => some k_ ≠ (s_.2.1 : Value).ownBlock ∧ some k_ ≠ (s_.2.2.1 : Value).ownBlock) s_.1 t169) ∧ (Kd.R Kd.string 9 w' w.heap.size (fun k_ => some k_ ≠ (s_.1 : Value).ownBlock ∧ some k_ ≠ (s_.2.2.1 : Value).ownBlock) s_.2.1 t173) ∧ (Kd.R Kd.string 9 w' w.heap.size (fun k_ => some k_ ≠ (s_.1 : Value).ownBlock ∧ some k_ ≠ (s_.2.1 : Value).ownBlock) s_.2.2.1 t177) ∧ (w'.heap[gb167]? = some (.cells #[.int .i64 a0_0, .int .i64 a0_1, .int .i64 a0_2, .int .i64 a0_3, .int .i64 a0_4, .bool a0_5, .int .i64 a0_6, .int .i64 a0_7] 34 (0, 0))) ∧ (w'.heap[gb168]? = some (.cells #[.string (⟨#[]⟩ : ByteArray), .slice none 0 0, .int .i64 0, .int .i64 0] 31 (0, 0))) ∧ (w'.heap[s_.2.2.2]? = some (.cells #[.string (⟨#[]⟩ : ByteArray), .slice none 0 0, .int .i64 0, .int .i64 0] 31 (0, 0))) ∧ (w.heap.size ≤ s_.2.2.2) ∧ (w.heap.size ≤ s_.2.2.2) ∧ (gb167 ≠ s_.2.2.2) ∧ (s_.2.2.2 ≠ gb167) ∧ (gb168 ≠ s_.2.2.2) ∧ (s_.2.2.2 ≠ gb168) ∧ (Below w.heap.size w w')) ?_ ?_
           rotate_left
           ·intro hJ0_3_4_7_8_11_21
            refine join_ (σ := Value × Value × Value) 6 (bA 23 450559) (fun s_ => [(4, s_.1), (7, .string t172), (8, s_.2.1), (11, .string t176), (12, s_.2.2), (15, .string t180), (16, .agg #[.string t176, .string t180])]) (fun s_ w' => (w'.cell? ⟨gb167, 0, none⟩ = some (.int .i64 a0_0) ∧ w'.cell? ⟨gb167, 1, none⟩ = some (.int .i64 a0_1) ∧ w'.cell? ⟨gb167, 2, none⟩ = some (.int .i64 a0_2) ∧ w'.cell? ⟨gb167, 3, none⟩ = some (.int .i64 a0_3) ∧ w'.cell? ⟨gb167, 4, none⟩ = some (.int .i64 a0_4) ∧ w'.cell? ⟨gb167, 5, none⟩ = some (.bool a0_5) ∧ w'.cell? ⟨gb167, 6, none⟩ = some (.int .i64 a0_6) ∧ w'.cell? ⟨gb167, 7, none⟩ = some (.int .i64 a0_7)) ∧ (Kd.R Kd.string 9 w' w.heap.size (fun k_ => some k_ ≠ (s_.2.1 : Value).ownBlock ∧ some k_ ≠ (s_.2.2 : Value).ownBlock) s_.1 t169) ∧ (Kd.R Kd.string 9 w' w.heap.size (fun k_ => some k_ ≠ (s_.1 : Value).ownBlock ∧ some k_ ≠ (s_.2.2 : Value).ownBlock) s_.2.1 t173) ∧ (Kd.R Kd.string 9 w' w.heap.size (fun k_ => some k_ ≠ (s_.1 : Value).ownBlock ∧ some k_ ≠ (s_.2.1 : Value).ownBlock) s_.2.2 t177) ∧ (w'.heap[gb167]? = some (.cells #[.int .i64 a0_0, .int .i64 a0_1, .int .i64 a0_2, .int .i64 a0_3, .int .i64 a0_4, .bool a0_5, .int .i64 a0_6, .int .i64 a0_7] 34 (0, 0))) ∧ (w'.heap[gb168]? = some (.cells #[.string (⟨#[]⟩ : ByteArray), .slice none 0 0, .int .i64 0, .int .i64 0] 31 (0, 0))) ∧ (Below w.heap.size w w')) ?_ ?_
            rotate_left
            ·intro hJ0_3_4_7_8_11
             refine join_ (σ := Value × Value × Value × Nat) 7 (bA 23 2541567) (fun s_ => [(4, s_.1), (7, .string t172), (8, s_.2.1), (11, .string t176), (12, s_.2.2.1), (3, .pointer (some ⟨s_.2.2.2, 0, none⟩))]) (fun s_ w' => (w'.cell? ⟨gb167, 0, none⟩ = some (.int .i64 a0_0) ∧ w'.cell? ⟨gb167, 1, none⟩ = some (.int .i64 a0_1) ∧ w'.cell? ⟨gb167, 2, none⟩ = some (.int .i64 a0_2) ∧ w'.cell? ⟨gb167, 3, none⟩ = some (.int .i64 a0_3) ∧ w'.cell? ⟨gb167, 4, none⟩ = some (.int .i64 a0_4) ∧ w'.cell? ⟨gb167, 5, none⟩ = some (.bool a0_5) ∧ w'.cell? ⟨gb167, 6, none⟩ = some (.int .i64 a0_6) ∧ w'.cell? ⟨gb167, 7, none⟩ = some (.int .i64 a0_7)) ∧ (Kd.R Kd.string 9 w' w.heap.size (fun k_ => some k_ ≠ (s_.2.1 : Value).ownBlock ∧ some k_ ≠ (s_.2.2.1 : Value).ownBlock) s_.1 t169) ∧ (Kd.R Kd.string 9 w' w.heap.size (fun k_ => some k_ ≠ (s_.1 : Value).ownBlock ∧ some k_ ≠ (s_.2.2.1 : Value).ownBlock) s_.2.1 t173) ∧ (Kd.R Kd.string 9 w' w.heap.size (fun k_ => some k_ ≠ (s_.1 : Value).ownBlock ∧ some k_ ≠ (s_.2.1 : Value).ownBlock) s_.2.2.1 t177) ∧ (w'.heap[gb167]? = some (.cells #[.int .i64 a0_0, .int .i64 a0_1, .int .i64 a0_2, .int .i64 a0_3, .int .i64 a0_4, .bool a0_5, .int .i64 a0_6, .int .i64 a0_7] 34 (0, 0))) ∧ (w'.heap[gb168]? = some (.cells #[.string (⟨#[]⟩ : ByteArray), .slice none 0 0, .int .i64 0, .int .i64 0] 31 (0, 0))) ∧ (w'.heap[s_.2.2.2]? = some (.cells #[.string (⟨#[]⟩ : ByteArray), .slice none 0 0, .int .i64 0, .int .i64 0] 31 (0, 0))) ∧ (w.heap.size ≤ s_.2.2.2) ∧ (w.heap.size ≤ s_.2.2.2) ∧ (gb167 ≠ s_.2.2.2) ∧ (s_.2.2.2 ≠ gb167) ∧ (gb168 ≠ s_.2.2.2) ∧ (s_.2.2.2 ≠ gb168) ∧ (Below w.heap.size w w')) ?_ ?_
             rotate_left
             ·intro hJ0_3_4_7_8_21
              refine join_ (σ := Value × Value × Value) 8 (bA 23 444415) (fun s_ => [(4, s_.1), (7, .string t172), (8, s_.2.1), (11, .string t176), (12, s_.2.2)]) (fun s_ w' => (w'.cell? ⟨gb167, 0, none⟩ = some (.int .i64 a0_0) ∧ w'.cell? ⟨gb167, 1, none⟩ = some (.int .i64 a0_1) ∧ w'.cell? ⟨gb167, 2, none⟩ = some (.int .i64 a0_2) ∧ w'.cell? ⟨gb167, 3, none⟩ = some (.int .i64 a0_3) ∧ w'.cell? ⟨gb167, 4, none⟩ = some (.int .i64 a0_4) ∧ w'.cell? ⟨gb167, 5, none⟩ = some (.bool a0_5) ∧ w'.cell? ⟨gb167, 6, none⟩ = some (.int .i64 a0_6) ∧ w'.cell? ⟨gb167, 7, none⟩ = some (.int .i64 a0_7)) ∧ (Kd.R Kd.string 9 w' w.heap.size (fun k_ => some k_ ≠ (s_.2.1 : Value).ownBlock ∧ some k_ ≠ (s_.2.2 : Value).ownBlock) s_.1 t169) ∧ (Kd.R Kd.string 9 w' w.heap.size (fun k_ => some k_ ≠ (s_.1 : Value).ownBlock ∧ some k_ ≠ (s_.2.2 : Value).ownBlock) s_.2.1 t173) ∧ (Kd.R Kd.string 9 w' w.heap.size (fun k_ => some k_ ≠ (s_.1 : Value).ownBlock ∧ some k_ ≠ (s_.2.1 : Value).ownBlock) s_.2.2 t177) ∧ (w'.heap[gb167]? = some (.cells #[.int .i64 a0_0, .int .i64 a0_1, .int .i64 a0_2, .int .i64 a0_3, .int .i64 a0_4, .bool a0_5, .int .i64 a0_6, .int .i64 a0_7] 34 (0, 0))) ∧ (w'.heap[gb168]? = some (.cells #[.string (⟨#[]⟩ : ByteArray), .slice none 0 0, .int .i64 0, .int .i64 0] 31 (0, 0))) ∧ (Below w.heap.size w w')) ?_ ?_
              rotate_left
              ·intro hJ0_3_4_7_8
               refine join_ (σ := Value × Value × Nat) 8 (bA 23 2541311) (fun s_ => [(4, s_.1), (7, .string t172), (8, s_.2.1), (11, .string t176), (3, .pointer (some ⟨s_.2.2, 0, none⟩))]) (fun s_ w' => (w'.cell? ⟨gb167, 0, none⟩ = some (.int .i64 a0_0) ∧ w'.cell? ⟨gb167, 1, none⟩ = some (.int .i64 a0_1) ∧ w'.cell? ⟨gb167, 2, none⟩ = some (.int .i64 a0_2) ∧ w'.cell? ⟨gb167, 3, none⟩ = some (.int .i64 a0_3) ∧ w'.cell? ⟨gb167, 4, none⟩ = some (.int .i64 a0_4) ∧ w'.cell? ⟨gb167, 5, none⟩ = some (.bool a0_5) ∧ w'.cell? ⟨gb167, 6, none⟩ = some (.int .i64 a0_6) ∧ w'.cell? ⟨gb167, 7, none⟩ = some (.int .i64 a0_7)) ∧ (Kd.R Kd.string 9 w' w.heap.size (fun k_ => some k_ ≠ (s_.2.1 : Value).ownBlock) s_.1 t169) ∧ (Kd.R Kd.string 9 w' w.heap.size (fun k_ => some k_ ≠ (s_.1 : Value).ownBlock) s_.2.1 t173) ∧ (w'.heap[gb167]? = some (.cells #[.int .i64 a0_0, .int .i64 a0_1, .int .i64 a0_2, .int .i64 a0_3, .int .i64 a0_4, .bool a0_5, .int .i64 a0_6, .int .i64 a0_7] 34 (0, 0))) ∧ (w'.heap[gb168]? = some (.cells #[.string (⟨#[]⟩ : ByteArray), .slice none 0 0, .int .i64 0, .int .i64 0] 31 (0, 0))) ∧ (w'.heap[s_.2.2]? = some (.cells #[.string (⟨#[]⟩ : ByteArray), .slice none 0 0, .int .i64 0, .int .i64 0] 31 (0, 0))) ∧ (w.heap.size ≤ s_.2.2) ∧ (w.heap.size ≤ s_.2.2) ∧ (gb167 ≠ s_.2.2) ∧ (s_.2.2 ≠ gb167) ∧ (gb168 ≠ s_.2.2) ∧ (s_.2.2 ≠ gb168) ∧ (Below w.heap.size w w')) ?_ ?_
               rotate_left
               ·intro hJ0_3_4_7_21
                refine join_ (σ := Value × Value) 9 (bA 23 444159) (fun s_ => [(4, s_.1), (7, .string t172), (8, s_.2), (11, .string t176)]) (fun s_ w' => (w'.cell? ⟨gb167, 0, none⟩ = some (.int .i64 a0_0) ∧ w'.cell? ⟨gb167, 1, none⟩ = some (.int .i64 a0_1) ∧ w'.cell? ⟨gb167, 2, none⟩ = some (.int .i64 a0_2) ∧ w'.cell? ⟨gb167, 3, none⟩ = some (.int .i64 a0_3) ∧ w'.cell? ⟨gb167, 4, none⟩ = some (.int .i64 a0_4) ∧ w'.cell? ⟨gb167, 5, none⟩ = some (.bool a0_5) ∧ w'.cell? ⟨gb167, 6, none⟩ = some (.int .i64 a0_6) ∧ w'.cell? ⟨gb167, 7, none⟩ = some (.int .i64 a0_7)) ∧ (Kd.R Kd.string 9 w' w.heap.size (fun k_ => some k_ ≠ (s_.2 : Value).ownBlock) s_.1 t169) ∧ (Kd.R Kd.string 9 w' w.heap.size (fun k_ => some k_ ≠ (s_.1 : Value).ownBlock) s_.2 t173) ∧ (w'.heap[gb167]? = some (.cells #[.int .i64 a0_0, .int .i64 a0_1, .int .i64 a0_2, .int .i64 a0_3, .int .i64 a0_4, .bool a0_5, .int .i64 a0_6, .int .i64 a0_7] 34 (0, 0))) ∧ (w'.heap[gb168]? = some (.cells #[.string (⟨#[]⟩ : ByteArray), .slice none 0 0, .int .i64 0, .int .i64 0] 31 (0, 0))) ∧ (Below w.heap.size w w')) ?_ ?_
                rotate_left
                ·intro hJ0_3_4_7
                 refine join_ (σ := Value × Value × Nat) 9 (bA 23 2541183) (fun s_ => [(4, s_.1), (7, .string t172), (8, s_.2.1), (3, .pointer (some ⟨s_.2.2, 0, none⟩))]) (fun s_ w' => (w'.cell? ⟨gb167, 0, none⟩ = some (.int .i64 a0_0) ∧ w'.cell? ⟨gb167, 1, none⟩ = some (.int .i64 a0_1) ∧ w'.cell? ⟨gb167, 2, none⟩ = some (.int .i64 a0_2) ∧ w'.cell? ⟨gb167, 3, none⟩ = some (.int .i64 a0_3) ∧ w'.cell? ⟨gb167, 4, none⟩ = some (.int .i64 a0_4) ∧ w'.cell? ⟨gb167, 5, none⟩ = some (.bool a0_5) ∧ w'.cell? ⟨gb167, 6, none⟩ = some (.int .i64 a0_6) ∧ w'.cell? ⟨gb167, 7, none⟩ = some (.int .i64 a0_7)) ∧ (Kd.R Kd.string 9 w' w.heap.size (fun k_ => some k_ ≠ (s_.2.1 : Value).ownBlock) s_.1 t169) ∧ (Kd.R Kd.string 9 w' w.heap.size (fun k_ => some k_ ≠ (s_.1 : Value).ownBlock) s_.2.1 t173) ∧ (w'.heap[gb167]? = some (.cells #[.int .i64 a0_0, .int .i64 a0_1, .int .i64 a0_2, .int .i64 a0_3, .int .i64 a0_4, .bool a0_5, .int .i64 a0_6, .int .i64 a0_7] 34 (0, 0))) ∧ (w'.heap[gb168]? = some (.cells #[.string (⟨#[]⟩ : ByteArray), .slice none 0 0, .int .i64 0, .int .i64 0] 31 (0, 0))) ∧ (w'.heap[s_.2.2]? = some (.cells #[.string (⟨#[]⟩ : ByteArray), .slice none 0 0, .int .i64 0, .int .i64 0] 31 (0, 0))) ∧ (w.heap.size ≤ s_.2.2) ∧ (w.heap.size ≤ s_.2.2) ∧ (gb167 ≠ s_.2.2) ∧ (s_.2.2 ≠ gb167) ∧ (gb168 ≠ s_.2.2) ∧ (s_.2.2 ≠ gb168) ∧ (Below w.heap.size w w')) ?_ ?_
                 rotate_left
                 ·intro hJ0_3_4_21
                  refine join_ (σ := Value × Value) 10 (bA 23 444031) (fun s_ => [(4, s_.1), (7, .string t172), (8, s_.2)]) (fun s_ w' => (w'.cell? ⟨gb167, 0, none⟩ = some (.int .i64 a0_0) ∧ w'.cell? ⟨gb167, 1, none⟩ = some (.int .i64 a0_1) ∧ w'.cell? ⟨gb167, 2, none⟩ = some (.int .i64 a0_2) ∧ w'.cell? ⟨gb167, 3, none⟩ = some (.int .i64 a0_3) ∧ w'.cell? ⟨gb167, 4, none⟩ = some (.int .i64 a0_4) ∧ w'.cell? ⟨gb167, 5, none⟩ = some (.bool a0_5) ∧ w'.cell? ⟨gb167, 6, none⟩ = some (.int .i64 a0_6) ∧ w'.cell? ⟨gb167, 7, none⟩ = some (.int .i64 a0_7)) ∧ (Kd.R Kd.string 9 w' w.heap.size (fun k_ => some k_ ≠ (s_.2 : Value).ownBlock) s_.1 t169) ∧ (Kd.R Kd.string 9 w' w.heap.size (fun k_ => some k_ ≠ (s_.1 : Value).ownBlock) s_.2 t173) ∧ (w'.heap[gb167]? = some (.cells #[.int .i64 a0_0, .int .i64 a0_1, .int .i64 a0_2, .int .i64 a0_3, .int .i64 a0_4, .bool a0_5, .int .i64 a0_6, .int .i64 a0_7] 34 (0, 0))) ∧ (w'.heap[gb168]? = some (.cells #[.string (⟨#[]⟩ : ByteArray), .slice none 0 0, .int .i64 0, .int .i64 0] 31 (0, 0))) ∧ (Below w.heap.size w w')) ?_ ?_
                  rotate_left
                  ·intro hJ0_3_4
                   refine join_ (σ := Value × Nat) 10 (bA 23 2541167) (fun s_ => [(4, s_.1), (7, .string t172), (3, .pointer (some ⟨s_.2, 0, none⟩))]) (fun s_ w' => (w'.cell? ⟨gb167, 0, none⟩ = some (.int .i64 a0_0) ∧ w'.cell? ⟨gb167, 1, none⟩ = some (.int .i64 a0_1) ∧ w'.cell? ⟨gb167, 2, none⟩ = some (.int .i64 a0_2) ∧ w'.cell? ⟨gb167, 3, none⟩ = some (.int .i64 a0_3) ∧ w'.cell? ⟨gb167, 4, none⟩ = some (.int .i64 a0_4) ∧ w'.cell? ⟨gb167, 5, none⟩ = some (.bool a0_5) ∧ w'.cell? ⟨gb167, 6, none⟩ = some (.int .i64 a0_6) ∧ w'.cell? ⟨gb167, 7, none⟩ = some (.int .i64 a0_7)) ∧ (Kd.R Kd.string 9 w' w.heap.size (fun _ => True) s_.1 t169) ∧ (w'.heap[gb167]? = some (.cells #[.int .i64 a0_0, .int .i64 a0_1, .int .i64 a0_2, .int .i64 a0_3, .int .i64 a0_4, .bool a0_5, .int .i64 a0_6, .int .i64 a0_7] 34 (0, 0))) ∧ (w'.heap[gb168]? = some (.cells #[.string (⟨#[]⟩ : ByteArray), .slice none 0 0, .int .i64 0, .int .i64 0] 31 (0, 0))) ∧ (w'.heap[s_.2]? = some (.cells #[.string (⟨#[]⟩ : ByteArray), .slice none 0 0, .int .i64 0, .int .i64 0] 31 (0, 0))) ∧ (w.heap.size ≤ s_.2) ∧ (w.heap.size ≤ s_.2) ∧ (gb167 ≠ s_.2) ∧ (s_.2 ≠ gb167) ∧ (gb168 ≠ s_.2) ∧ (s_.2 ≠ gb168) ∧ (Below w.heap.size w w')) ?_ ?_
                   rotate_left
                   ·intro hJ0_3_21
                    refine join_ (σ := Value) 11 (bA 23 444015) (fun s_ => [(4, s_), (7, .string t172)]) (fun s_ w' => (w'.cell? ⟨gb167, 0, none⟩ = some (.int .i64 a0_0) ∧ w'.cell? ⟨gb167, 1, none⟩ = some (.int .i64 a0_1) ∧ w'.cell? ⟨gb167, 2, none⟩ = some (.int .i64 a0_2) ∧ w'.cell? ⟨gb167, 3, none⟩ = some (.int .i64 a0_3) ∧ w'.cell? ⟨gb167, 4, none⟩ = some (.int .i64 a0_4) ∧ w'.cell? ⟨gb167, 5, none⟩ = some (.bool a0_5) ∧ w'.cell? ⟨gb167, 6, none⟩ = some (.int .i64 a0_6) ∧ w'.cell? ⟨gb167, 7, none⟩ = some (.int .i64 a0_7)) ∧ (Kd.R Kd.string 9 w' w.heap.size (fun _ => True) s_ t169) ∧ (w'.heap[gb167]? = some (.cells #[.int .i64 a0_0, .int .i64 a0_1, .int .i64 a0_2, .int .i64 a0_3, .int .i64 a0_4, .bool a0_5, .int .i64 a0_6, .int .i64 a0_7] 34 (0, 0))) ∧ (w'.heap[gb168]? = some (.cells #[.string (⟨#[]⟩ : ByteArray), .slice none 0 0, .int .i64 0, .int .i64 0] 31 (0, 0))) ∧ (Below w.heap.size w w')) ?_ ?_
                    rotate_left
                    ·intro hJ0_3
                     refine join_ (σ := Value × Nat) 11 (bA 23 2541159) (fun s_ => [(4, s_.1), (3, .pointer (some ⟨s_.2, 0, none⟩))]) (fun s_ w' => (w'.cell? ⟨gb167, 0, none⟩ = some (.int .i64 a0_0) ∧ w'.cell? ⟨gb167, 1, none⟩ = some (.int .i64 a0_1) ∧ w'.cell? ⟨gb167, 2, none⟩ = some (.int .i64 a0_2) ∧ w'.cell? ⟨gb167, 3, none⟩ = some (.int .i64 a0_3) ∧ w'.cell? ⟨gb167, 4, none⟩ = some (.int .i64 a0_4) ∧ w'.cell? ⟨gb167, 5, none⟩ = some (.bool a0_5) ∧ w'.cell? ⟨gb167, 6, none⟩ = some (.int .i64 a0_6) ∧ w'.cell? ⟨gb167, 7, none⟩ = some (.int .i64 a0_7)) ∧ (Kd.R Kd.string 9 w' w.heap.size (fun _ => True) s_.1 t169) ∧ (w'.heap[gb167]? = some (.cells #[.int .i64 a0_0, .int .i64 a0_1, .int .i64 a0_2, .int .i64 a0_3, .int .i64 a0_4, .bool a0_5, .int .i64 a0_6, .int .i64 a0_7] 34 (0, 0))) ∧ (w'.heap[gb168]? = some (.cells #[.string (⟨#[]⟩ : ByteArray), .slice none 0 0, .int .i64 0, .int .i64 0] 31 (0, 0))) ∧ (w'.heap[s_.2]? = some (.cells #[.string (⟨#[]⟩ : ByteArray), .slice none 0 0, .int .i64 0, .int .i64 0] 31 (0, 0))) ∧ (w.heap.size ≤ s_.2) ∧ (w.heap.size ≤ s_.2) ∧ (gb167 ≠ s_.2) ∧ (s_.2 ≠ gb167) ∧ (gb168 ≠ s_.2) ∧ (s_.2 ≠ gb168) ∧ (Below w.heap.size w w')) ?_ ?_
                     rotate_left
                     ·intro hJ0_21
                      refine join_ (σ := Value) 12 (bA 23 444007) (fun s_ => [(4, s_)]) (fun s_ w' => (w'.cell? ⟨gb167, 0, none⟩ = some (.int .i64 a0_0) ∧ w'.cell? ⟨gb167, 1, none⟩ = some (.int .i64 a0_1) ∧ w'.cell? ⟨gb167, 2, none⟩ = some (.int .i64 a0_2) ∧ w'.cell? ⟨gb167, 3, none⟩ = some (.int .i64 a0_3) ∧ w'.cell? ⟨gb167, 4, none⟩ = some (.int .i64 a0_4) ∧ w'.cell? ⟨gb167, 5, none⟩ = some (.bool a0_5) ∧ w'.cell? ⟨gb167, 6, none⟩ = some (.int .i64 a0_6) ∧ w'.cell? ⟨gb167, 7, none⟩ = some (.int .i64 a0_7)) ∧ (Kd.R Kd.string 9 w' w.heap.size (fun _ => True) s_ t169) ∧ (w'.heap[gb167]? = some (.cells #[.int .i64 a0_0, .int .i64 a0_1, .int .i64 a0_2, .int .i64 a0_3, .int .i64 a0_4, .bool a0_5, .int .i64 a0_6, .int .i64 a0_7] 34 (0, 0))) ∧ (w'.heap[gb168]? = some (.cells #[.string (⟨#[]⟩ : ByteArray), .slice none 0 0, .int .i64 0, .int .i64 0] 31 (0, 0))) ∧ (Below w.heap.size w w')) ?_ ?_
                      rotate_left
                      ·intro hJ0
                       refine join_ (σ := Nat) 12 (bA 23 2541158) (fun s_ => [(3, .pointer (some ⟨s_, 0, none⟩))]) (fun s_ w' => (w'.cell? ⟨gb167, 0, none⟩ = some (.int .i64 a0_0) ∧ w'.cell? ⟨gb167, 1, none⟩ = some (.int .i64 a0_1) ∧ w'.cell? ⟨gb167, 2, none⟩ = some (.int .i64 a0_2) ∧ w'.cell? ⟨gb167, 3, none⟩ = some (.int .i64 a0_3) ∧ w'.cell? ⟨gb167, 4, none⟩ = some (.int .i64 a0_4) ∧ w'.cell? ⟨gb167, 5, none⟩ = some (.bool a0_5) ∧ w'.cell? ⟨gb167, 6, none⟩ = some (.int .i64 a0_6) ∧ w'.cell? ⟨gb167, 7, none⟩ = some (.int .i64 a0_7)) ∧ (w'.heap[gb167]? = some (.cells #[.int .i64 a0_0, .int .i64 a0_1, .int .i64 a0_2, .int .i64 a0_3, .int .i64 a0_4, .bool a0_5, .int .i64 a0_6, .int .i64 a0_7] 34 (0, 0))) ∧ (w'.heap[gb168]? = some (.cells #[.string (⟨#[]⟩ : ByteArray), .slice none 0 0, .int .i64 0, .int .i64 0] 31 (0, 0))) ∧ (w'.heap[s_]? = some (.cells #[.string (⟨#[]⟩ : ByteArray), .slice none 0 0, .int .i64 0, .int .i64 0] 31 (0, 0))) ∧ (w.heap.size ≤ s_) ∧ (w.heap.size ≤ s_) ∧ (gb167 ≠ s_) ∧ (s_ ≠ gb167) ∧ (gb168 ≠ s_) ∧ (s_ ≠ gb168) ∧ (Below w.heap.size w w')) ?_ ?_
                       rotate_left
                       ·intro hJ21
                        refine two_ (i := 0) (j := 21) (Ni := some 4) (Nj := some 3) (bA 23 444007) (bA 23 2541158) rfl rfl rfl rfl (two_of HT_.out (by kernel_rfl)) (by decide) (by decide) (fun K hK => ?_) (fun K hK => ?_)
                        ·skip
                         refine goes_ Try.func20 (by kernel_rfl) rfl #[] (by rfl) rfl rfl argN ?_
                         with_reducible refine (marigraphkeep_Metrics.calls  t169 _ A2.out).mono ?_
                         rintro e w14 ⟨v170, rfl, ho0, hb⟩
                         refine ⟨_, rfl, ?_⟩
                         have n0_ := Aside0.mk (Kd.R_lower ho0 (below_size (belS HB.out)))
                         have n1_ := Aside0.mk (bkB BK167.out hb)
                         have n2_ := Aside0.mk (bkB BK168.out hb)
                         have n3_ := Aside0.mk (below_step (belS HB.out) hb)
                         clear BK167
                         clear BK168
                         clear HB
                         have HO171 := n0_
                         have BK167 := n1_
                         have BK168 := n2_
                         have HB := n3_
                         clear n0_ n1_ n2_ n3_
                         (try clear hb)
                         (try clear hk)
                         (try clear ho0)
                         refine hK.out _ _ ⟨(blk_cell BK167.out 0).trans rfl, (blk_cell BK167.out 1).trans rfl, (blk_cell BK167.out 2).trans rfl, (blk_cell BK167.out 3).trans rfl, (blk_cell BK167.out 4).trans rfl, (blk_cell BK167.out 5).trans rfl, (blk_cell BK167.out 6).trans rfl, (blk_cell BK167.out 7).trans rfl⟩ (fun hHeld => ?_)
                         clear hK K
                         refine norm_ (a' := ?_) ?_ ?_
                         rotate_left
                         ·show Act.put _ (some 4) _ = _
                          simp only [Act.put, List.setIfInBounds_toArray, List.set_cons_zero, List.set_cons_succ, i64_w, i32_w]
                          rfl
                         exact norm_ (by first | (simp only [putAll, Act.put, List.setIfInBounds_toArray, List.set_cons_zero, List.set_cons_succ]; done) | (simp only [putAll, Act.put, List.setIfInBounds_toArray, List.set_cons_zero, List.set_cons_succ]; rfl)) (hJ0 (v170) _ ⟨hHeld, (rowN HO171.out), (blkN BK167.out), (blkN BK168.out), (belS HB.out)⟩)
                        ·skip
                         refine box_step ?hg (N := 3) ?hd (cs := #[.string (⟨#[]⟩ : ByteArray), .slice none 0 0, .int .i64 0, .int .i64 0]) (t := 31) ?hr ?_; (case hd => rfl); (case hg => rfl); (case hr => first | (go_simp; done) | (go_simp; rfl))
                         intro gb186 hg w14 hbox hb
                         have n0_ := Aside0.mk (bkB BK167.out hb)
                         have n1_ := Aside0.mk (bkB BK168.out hb)
                         have n2_ := Aside0.mk (below_step (belS HB.out) hb)
                         have n3_ := Aside0.mk (hbox)
                         have n4_ := Aside0.mk (szB hg HB.out)
                         have n5_ := Aside0.mk (szB hg HB.out)
                         have n6_ := Aside0.mk ((bk1 hg BK167.out))
                         have n7_ := Aside0.mk ((bk2 hg BK167.out))
                         have n8_ := Aside0.mk ((bk1 hg BK168.out))
                         have n9_ := Aside0.mk ((bk2 hg BK168.out))
                         clear BK167
                         clear BK168
                         clear HB
                         have BK167 := n0_
                         have BK168 := n1_
                         have HB := n2_
                         have BK186 := n3_
                         have GW186 := n4_
                         have GE186 := n5_
                         have NB167_186 := n6_
                         have NB186_167 := n7_
                         have NB168_186 := n8_
                         have NB186_168 := n9_
                         clear n0_ n1_ n2_ n3_ n4_ n5_ n6_ n7_ n8_ n9_
                         clear hb hbox hg
                         refine hK.out _ _ ⟨(blk_cell BK167.out 0).trans rfl, (blk_cell BK167.out 1).trans rfl, (blk_cell BK167.out 2).trans rfl, (blk_cell BK167.out 3).trans rfl, (blk_cell BK167.out 4).trans rfl, (blk_cell BK167.out 5).trans rfl, (blk_cell BK167.out 6).trans rfl, (blk_cell BK167.out 7).trans rfl⟩ (fun hHeld => ?_)
                         clear hK K
                         refine norm_ (a' := ?_) ?_ ?_
                         rotate_left
                         ·show Act.put _ (some 3) _ = _
                          simp only [Act.put, List.setIfInBounds_toArray, List.set_cons_zero, List.set_cons_succ, i64_w, i32_w]
                          rfl
                         exact norm_ (by first | (simp only [putAll, Act.put, List.setIfInBounds_toArray, List.set_cons_zero, List.set_cons_succ]; done) | (simp only [putAll, Act.put, List.setIfInBounds_toArray, List.set_cons_zero, List.set_cons_succ]; rfl)) (hJ21 (gb186) _ ⟨hHeld, (blkN BK167.out), (blkN BK168.out), (blkN BK186.out), GW186.out, GE186.out, NB167_186.out, NB186_167.out, NB168_186.out, NB186_168.out, (belS HB.out)⟩)
                       ·skip
                        rintro gb186 w15 ⟨hS_, h0_, h1_, h2_, h3_, h4_, h5_, h6_, h7_, h8_, h9_⟩
                        have n0_ : Aside0 (w15.heap[gb167]? = some (.cells #[.int .i64 a0_0, .int .i64 a0_1, .int .i64 a0_2, .int .i64 a0_3, .int .i64 a0_4, .bool a0_5, .int .i64 a0_6, .int .i64 a0_7] 34 (0, 0))) := ⟨h0_⟩
                        have n1_ : Aside0 (w15.heap[gb168]? = some (.cells #[.string (⟨#[]⟩ : ByteArray), .slice none 0 0, .int .i64 0, .int .i64 0] 31 (0, 0))) := ⟨h1_⟩
                        have n2_ : Aside0 (w15.heap[gb186]? = some (.cells #[.string (⟨#[]⟩ : ByteArray), .slice none 0 0, .int .i64 0, .int .i64 0] 31 (0, 0))) := ⟨h2_⟩
                        have n3_ : Aside0 (w.heap.size ≤ gb186) := ⟨h3_⟩
                        have n4_ : Aside0 (w.heap.size ≤ gb186) := ⟨h4_⟩
                        have n5_ : Aside0 (gb167 ≠ gb186) := ⟨h5_⟩
                        have n6_ : Aside0 (gb186 ≠ gb167) := ⟨h6_⟩
                        have n7_ : Aside0 (gb168 ≠ gb186) := ⟨h7_⟩
                        have n8_ : Aside0 (gb186 ≠ gb168) := ⟨h8_⟩
                        have n9_ : Aside0 (Below w.heap.size w w15) := ⟨h9_⟩
                        clear BK167
                        clear BK168
                        clear HB
                        clear h0_ h1_ h2_ h3_ h4_ h5_ h6_ h7_ h8_ h9_
                        have BK167 := n0_
                        have BK168 := n1_
                        have BK186 := n2_
                        have GW186 := n3_
                        have GE186 := n4_
                        have NB167_186 := n5_
                        have NB186_167 := n6_
                        have NB168_186 := n7_
                        have NB186_168 := n8_
                        have HB := n9_
                        clear n0_ n1_ n2_ n3_ n4_ n5_ n6_ n7_ n8_ n9_
                        have hHeld : w15.cell? ⟨gb167, 0, none⟩ = some (.int .i64 a0_0) ∧ w15.cell? ⟨gb167, 1, none⟩ = some (.int .i64 a0_1) ∧ w15.cell? ⟨gb167, 2, none⟩ = some (.int .i64 a0_2) ∧ w15.cell? ⟨gb167, 3, none⟩ = some (.int .i64 a0_3) ∧ w15.cell? ⟨gb167, 4, none⟩ = some (.int .i64 a0_4) ∧ w15.cell? ⟨gb167, 5, none⟩ = some (.bool a0_5) ∧ w15.cell? ⟨gb167, 6, none⟩ = some (.int .i64 a0_6) ∧ w15.cell? ⟨gb167, 7, none⟩ = some (.int .i64 a0_7) := hS_
                        refine norm_ (a' := ?_) ?_ ?_
                        rotate_left
                        ·simp only [putAll, Act.put, List.setIfInBounds_toArray, List.set_cons_zero, List.set_cons_succ]
                         rfl
                        refine one_ (i := 0) (N := some 4) (bA 23 2541159) rfl rfl (one_of HT_.out (by kernel_rfl)) (by decide) (fun K hK => ?_)
                        refine goes_ Try.func20 (by kernel_rfl) rfl #[] (by rfl) rfl rfl argN ?_
                        with_reducible refine (marigraphkeep_Metrics.calls  t169 _ A2.out).mono ?_
                        rintro e w16 ⟨v170, rfl, ho0, hb⟩
                        refine ⟨_, rfl, ?_⟩
                        have n0_ := Aside0.mk (Kd.R_lower ho0 (below_size (belS HB.out)))
                        have n1_ := Aside0.mk (bkB BK167.out hb)
                        have n2_ := Aside0.mk (bkB BK168.out hb)
                        have n3_ := Aside0.mk (bkB BK186.out hb)
                        have n4_ := Aside0.mk (below_step (belS HB.out) hb)
                        clear BK167
                        clear BK168
                        clear BK186
                        clear HB
                        have HO171 := n0_
                        have BK167 := n1_
                        have BK168 := n2_
                        have BK186 := n3_
                        have HB := n4_
                        clear n0_ n1_ n2_ n3_ n4_
                        (try clear hb)
                        (try clear hk)
                        (try clear ho0)
                        refine hK.out _ _ ⟨(blk_cell BK167.out 0).trans rfl, (blk_cell BK167.out 1).trans rfl, (blk_cell BK167.out 2).trans rfl, (blk_cell BK167.out 3).trans rfl, (blk_cell BK167.out 4).trans rfl, (blk_cell BK167.out 5).trans rfl, (blk_cell BK167.out 6).trans rfl, (blk_cell BK167.out 7).trans rfl⟩ (fun hHeld => ?_)
                        clear hK K
                        refine norm_ (a' := ?_) ?_ ?_
                        rotate_left
                        ·show Act.put _ (some 4) _ = _
                         simp only [Act.put, List.setIfInBounds_toArray, List.set_cons_zero, List.set_cons_succ, i64_w, i32_w]
                         rfl
                        exact norm_ (by first | (simp only [putAll, Act.put, List.setIfInBounds_toArray, List.set_cons_zero, List.set_cons_succ]; done) | (simp only [putAll, Act.put, List.setIfInBounds_toArray, List.set_cons_zero, List.set_cons_succ]; rfl)) (hJ0_21 (v170, gb186) _ ⟨hHeld, (rowN HO171.out), (blkN BK167.out), (blkN BK168.out), (blkN BK186.out), GW186.out, GE186.out, NB167_186.out, NB186_167.out, NB168_186.out, NB186_168.out, (belS HB.out)⟩)
                      ·skip
                       rintro v170 w15 ⟨hS_, h0_, h1_, h2_, h3_⟩
                       have n0_ : Aside0 (Kd.R Kd.string 9 w15 w.heap.size (fun _ => True) v170 t169) := ⟨h0_⟩
                       have n1_ : Aside0 (w15.heap[gb167]? = some (.cells #[.int .i64 a0_0, .int .i64 a0_1, .int .i64 a0_2, .int .i64 a0_3, .int .i64 a0_4, .bool a0_5, .int .i64 a0_6, .int .i64 a0_7] 34 (0, 0))) := ⟨h1_⟩
                       have n2_ : Aside0 (w15.heap[gb168]? = some (.cells #[.string (⟨#[]⟩ : ByteArray), .slice none 0 0, .int .i64 0, .int .i64 0] 31 (0, 0))) := ⟨h2_⟩
                       have n3_ : Aside0 (Below w.heap.size w w15) := ⟨h3_⟩
                       clear BK167
                       clear BK168
                       clear HB
                       clear h0_ h1_ h2_ h3_
                       have HO171 := n0_
                       have BK167 := n1_
                       have BK168 := n2_
                       have HB := n3_
                       clear n0_ n1_ n2_ n3_
                       have hHeld : w15.cell? ⟨gb167, 0, none⟩ = some (.int .i64 a0_0) ∧ w15.cell? ⟨gb167, 1, none⟩ = some (.int .i64 a0_1) ∧ w15.cell? ⟨gb167, 2, none⟩ = some (.int .i64 a0_2) ∧ w15.cell? ⟨gb167, 3, none⟩ = some (.int .i64 a0_3) ∧ w15.cell? ⟨gb167, 4, none⟩ = some (.int .i64 a0_4) ∧ w15.cell? ⟨gb167, 5, none⟩ = some (.bool a0_5) ∧ w15.cell? ⟨gb167, 6, none⟩ = some (.int .i64 a0_6) ∧ w15.cell? ⟨gb167, 7, none⟩ = some (.int .i64 a0_7) := hS_
                       obtain ⟨Ao16, co16, eo16⟩ := Kd.R_slice HO171.out
                       (first | subst eo16 | (injection eo16 with f1_ f2_ f3_; have f4_ := f1_.symm; have f5_ := f3_.symm; clear f1_ f2_ f3_; subst f4_; subst f5_))
                       refine norm_ (a' := ?_) ?_ ?_
                       rotate_left
                       ·simp only [putAll, Act.put, List.setIfInBounds_toArray, List.set_cons_zero, List.set_cons_succ]
                        rfl
                       refine two_ (i := 3) (j := 21) (Ni := some 7) (Nj := some 3) (bA 23 444015) (bA 23 2541159) rfl rfl rfl rfl (two_of HT_.out (by kernel_rfl)) (by decide) (by decide) (fun K hK => ?_) (fun K hK => ?_)
                       ·skip
                        refine goes_ Try.func19 (by kernel_rfl) rfl #[.slice Ao16 t169.length co16, .int .i64 a0_0] (by rfl) rfl rfl argN ?_
                        with_reducible refine (marigraphkeep_pick.calls k _ _ t169 a0_0 t172 _ ?side1 ?side2 A3.out).mono ?_
                        (case side1 => repeat (first | exact (Kd.R_reads' HO171.out).2.2 | (with_reducible refine Kd.C_alloc ?_ _) | (with_reducible refine Kd.C_drewN ?_ _) | (with_reducible refine Kd.C_drew ?_)))
                        (case side2 => exact (Kd.R_reads' HO171.out).2.1)
                        rintro e w' ⟨rfl, ⟨nd, rfl⟩⟩
                        refine ⟨_, rfl, ?_⟩
                        refine hK.out _ _ ⟨(blk_cell BK167.out 0).trans rfl, (blk_cell BK167.out 1).trans rfl, (blk_cell BK167.out 2).trans rfl, (blk_cell BK167.out 3).trans rfl, (blk_cell BK167.out 4).trans rfl, (blk_cell BK167.out 5).trans rfl, (blk_cell BK167.out 6).trans rfl, (blk_cell BK167.out 7).trans rfl⟩ (fun hHeld => ?_)
                        clear hK K
                        refine norm_ (a' := ?_) ?_ ?_
                        rotate_left
                        ·show Act.put _ (some 7) _ = _
                         simp only [Act.put, List.setIfInBounds_toArray, List.set_cons_zero, List.set_cons_succ, i64_w, i32_w]
                         rfl
                        exact norm_ (by first | (simp only [putAll, Act.put, List.setIfInBounds_toArray, List.set_cons_zero, List.set_cons_succ]; done) | (simp only [putAll, Act.put, List.setIfInBounds_toArray, List.set_cons_zero, List.set_cons_succ]; rfl)) (hJ0_3 (.slice Ao16 t169.length co16) _ ⟨hHeld, (rowN HO171.out), (blkN BK167.out), (blkN BK168.out), (belS HB.out)⟩)
                       ·skip
                        refine box_step ?hg (N := 3) ?hd (cs := #[.string (⟨#[]⟩ : ByteArray), .slice none 0 0, .int .i64 0, .int .i64 0]) (t := 31) ?hr ?_; (case hd => rfl); (case hg => rfl); (case hr => first | (go_simp; done) | (go_simp; rfl))
                        intro gb186 hg w16 hbox hb
                        have n0_ := Aside0.mk (Kd.R_below (rowN HO171.out) hb)
                        have n1_ := Aside0.mk (bkB BK167.out hb)
                        have n2_ := Aside0.mk (bkB BK168.out hb)
                        have n3_ := Aside0.mk (below_step (belS HB.out) hb)
                        have n4_ := Aside0.mk (hbox)
                        have n5_ := Aside0.mk (szB hg HB.out)
                        have n6_ := Aside0.mk (szB hg HB.out)
                        have n7_ := Aside0.mk ((bk1 hg BK167.out))
                        have n8_ := Aside0.mk ((bk2 hg BK167.out))
                        have n9_ := Aside0.mk ((bk1 hg BK168.out))
                        have n10_ := Aside0.mk ((bk2 hg BK168.out))
                        clear HO171
                        clear BK167
                        clear BK168
                        clear HB
                        have HO171 := n0_
                        have BK167 := n1_
                        have BK168 := n2_
                        have HB := n3_
                        have BK186 := n4_
                        have GW186 := n5_
                        have GE186 := n6_
                        have NB167_186 := n7_
                        have NB186_167 := n8_
                        have NB168_186 := n9_
                        have NB186_168 := n10_
                        clear n0_ n1_ n2_ n3_ n4_ n5_ n6_ n7_ n8_ n9_ n10_
                        clear hb hbox hg
                        refine hK.out _ _ ⟨(blk_cell BK167.out 0).trans rfl, (blk_cell BK167.out 1).trans rfl, (blk_cell BK167.out 2).trans rfl, (blk_cell BK167.out 3).trans rfl, (blk_cell BK167.out 4).trans rfl, (blk_cell BK167.out 5).trans rfl, (blk_cell BK167.out 6).trans rfl, (blk_cell BK167.out 7).trans rfl⟩ (fun hHeld => ?_)
                        clear hK K
                        refine norm_ (a' := ?_) ?_ ?_
                        rotate_left
                        ·show Act.put _ (some 3) _ = _
                         simp only [Act.put, List.setIfInBounds_toArray, List.set_cons_zero, List.set_cons_succ, i64_w, i32_w]
                         rfl
                        exact norm_ (by first | (simp only [putAll, Act.put, List.setIfInBounds_toArray, List.set_cons_zero, List.set_cons_succ]; done) | (simp only [putAll, Act.put, List.setIfInBounds_toArray, List.set_cons_zero, List.set_cons_succ]; rfl)) (hJ0_21 ((.slice Ao16 t169.length co16), gb186) _ ⟨hHeld, (rowN HO171.out), (blkN BK167.out), (blkN BK168.out), (blkN BK186.out), GW186.out, GE186.out, NB167_186.out, NB186_167.out, NB168_186.out, NB186_168.out, (belS HB.out)⟩)
                     ·skip
                      rintro ⟨v170, gb186⟩ w16 ⟨hS_, h0_, h1_, h2_, h3_, h4_, h5_, h6_, h7_, h8_, h9_, h10_⟩
                      have n0_ : Aside0 (Kd.R Kd.string 9 w16 w.heap.size (fun _ => True) v170 t169) := ⟨h0_⟩
                      have n1_ : Aside0 (w16.heap[gb167]? = some (.cells #[.int .i64 a0_0, .int .i64 a0_1, .int .i64 a0_2, .int .i64 a0_3, .int .i64 a0_4, .bool a0_5, .int .i64 a0_6, .int .i64 a0_7] 34 (0, 0))) := ⟨h1_⟩
                      have n2_ : Aside0 (w16.heap[gb168]? = some (.cells #[.string (⟨#[]⟩ : ByteArray), .slice none 0 0, .int .i64 0, .int .i64 0] 31 (0, 0))) := ⟨h2_⟩
                      have n3_ : Aside0 (w16.heap[gb186]? = some (.cells #[.string (⟨#[]⟩ : ByteArray), .slice none 0 0, .int .i64 0, .int .i64 0] 31 (0, 0))) := ⟨h3_⟩
                      have n4_ : Aside0 (w.heap.size ≤ gb186) := ⟨h4_⟩
                      have n5_ : Aside0 (w.heap.size ≤ gb186) := ⟨h5_⟩
                      have n6_ : Aside0 (gb167 ≠ gb186) := ⟨h6_⟩
                      have n7_ : Aside0 (gb186 ≠ gb167) := ⟨h7_⟩
                      have n8_ : Aside0 (gb168 ≠ gb186) := ⟨h8_⟩
                      have n9_ : Aside0 (gb186 ≠ gb168) := ⟨h9_⟩
                      have n10_ : Aside0 (Below w.heap.size w w16) := ⟨h10_⟩
                      clear BK167
                      clear BK168
                      clear HB
                      clear h0_ h1_ h2_ h3_ h4_ h5_ h6_ h7_ h8_ h9_ h10_
                      have HO171 := n0_
                      have BK167 := n1_
                      have BK168 := n2_
                      have BK186 := n3_
                      have GW186 := n4_
                      have GE186 := n5_
                      have NB167_186 := n6_
                      have NB186_167 := n7_
                      have NB168_186 := n8_
                      have NB186_168 := n9_
                      have HB := n10_
                      clear n0_ n1_ n2_ n3_ n4_ n5_ n6_ n7_ n8_ n9_ n10_
                      have hHeld : w16.cell? ⟨gb167, 0, none⟩ = some (.int .i64 a0_0) ∧ w16.cell? ⟨gb167, 1, none⟩ = some (.int .i64 a0_1) ∧ w16.cell? ⟨gb167, 2, none⟩ = some (.int .i64 a0_2) ∧ w16.cell? ⟨gb167, 3, none⟩ = some (.int .i64 a0_3) ∧ w16.cell? ⟨gb167, 4, none⟩ = some (.int .i64 a0_4) ∧ w16.cell? ⟨gb167, 5, none⟩ = some (.bool a0_5) ∧ w16.cell? ⟨gb167, 6, none⟩ = some (.int .i64 a0_6) ∧ w16.cell? ⟨gb167, 7, none⟩ = some (.int .i64 a0_7) := hS_
                      obtain ⟨Ao17, co17, eo17⟩ := Kd.R_slice HO171.out
                      (first | subst eo17 | (injection eo17 with f1_ f2_ f3_; have f4_ := f1_.symm; have f5_ := f3_.symm; clear f1_ f2_ f3_; subst f4_; subst f5_))
                      refine norm_ (a' := ?_) ?_ ?_
                      rotate_left
                      ·simp only [putAll, Act.put, List.setIfInBounds_toArray, List.set_cons_zero, List.set_cons_succ]
                       rfl
                      refine one_ (i := 3) (N := some 7) (bA 23 2541167) rfl rfl (one_of HT_.out (by kernel_rfl)) (by decide) (fun K hK => ?_)
                      refine goes_ Try.func19 (by kernel_rfl) rfl #[.slice Ao17 t169.length co17, .int .i64 a0_0] (by rfl) rfl rfl argN ?_
                      with_reducible refine (marigraphkeep_pick.calls k _ _ t169 a0_0 t172 _ ?side1 ?side2 A3.out).mono ?_
                      (case side1 => repeat (first | exact (Kd.R_reads' HO171.out).2.2 | (with_reducible refine Kd.C_alloc ?_ _) | (with_reducible refine Kd.C_drewN ?_ _) | (with_reducible refine Kd.C_drew ?_)))
                      (case side2 => exact (Kd.R_reads' HO171.out).2.1)
                      rintro e w' ⟨rfl, ⟨nd, rfl⟩⟩
                      refine ⟨_, rfl, ?_⟩
                      refine hK.out _ _ ⟨(blk_cell BK167.out 0).trans rfl, (blk_cell BK167.out 1).trans rfl, (blk_cell BK167.out 2).trans rfl, (blk_cell BK167.out 3).trans rfl, (blk_cell BK167.out 4).trans rfl, (blk_cell BK167.out 5).trans rfl, (blk_cell BK167.out 6).trans rfl, (blk_cell BK167.out 7).trans rfl⟩ (fun hHeld => ?_)
                      clear hK K
                      refine norm_ (a' := ?_) ?_ ?_
                      rotate_left
                      ·show Act.put _ (some 7) _ = _
                       simp only [Act.put, List.setIfInBounds_toArray, List.set_cons_zero, List.set_cons_succ, i64_w, i32_w]
                       rfl
                      exact norm_ (by first | (simp only [putAll, Act.put, List.setIfInBounds_toArray, List.set_cons_zero, List.set_cons_succ]; done) | (simp only [putAll, Act.put, List.setIfInBounds_toArray, List.set_cons_zero, List.set_cons_succ]; rfl)) (hJ0_3_21 (.slice Ao17 t169.length co17, gb186) _ ⟨hHeld, (rowN HO171.out), (blkN BK167.out), (blkN BK168.out), (blkN BK186.out), GW186.out, GE186.out, NB167_186.out, NB186_167.out, NB168_186.out, NB186_168.out, (belS HB.out)⟩)
                    ·skip
                     rintro v170 w16 ⟨hS_, h0_, h1_, h2_, h3_⟩
                     have n0_ : Aside0 (Kd.R Kd.string 9 w16 w.heap.size (fun _ => True) v170 t169) := ⟨h0_⟩
                     have n1_ : Aside0 (w16.heap[gb167]? = some (.cells #[.int .i64 a0_0, .int .i64 a0_1, .int .i64 a0_2, .int .i64 a0_3, .int .i64 a0_4, .bool a0_5, .int .i64 a0_6, .int .i64 a0_7] 34 (0, 0))) := ⟨h1_⟩
                     have n2_ : Aside0 (w16.heap[gb168]? = some (.cells #[.string (⟨#[]⟩ : ByteArray), .slice none 0 0, .int .i64 0, .int .i64 0] 31 (0, 0))) := ⟨h2_⟩
                     have n3_ : Aside0 (Below w.heap.size w w16) := ⟨h3_⟩
                     clear BK167
                     clear BK168
                     clear HB
                     clear h0_ h1_ h2_ h3_
                     have HO171 := n0_
                     have BK167 := n1_
                     have BK168 := n2_
                     have HB := n3_
                     clear n0_ n1_ n2_ n3_
                     have hHeld : w16.cell? ⟨gb167, 0, none⟩ = some (.int .i64 a0_0) ∧ w16.cell? ⟨gb167, 1, none⟩ = some (.int .i64 a0_1) ∧ w16.cell? ⟨gb167, 2, none⟩ = some (.int .i64 a0_2) ∧ w16.cell? ⟨gb167, 3, none⟩ = some (.int .i64 a0_3) ∧ w16.cell? ⟨gb167, 4, none⟩ = some (.int .i64 a0_4) ∧ w16.cell? ⟨gb167, 5, none⟩ = some (.bool a0_5) ∧ w16.cell? ⟨gb167, 6, none⟩ = some (.int .i64 a0_6) ∧ w16.cell? ⟨gb167, 7, none⟩ = some (.int .i64 a0_7) := hS_
                     refine norm_ (a' := ?_) ?_ ?_
                     rotate_left
                     ·simp only [putAll, Act.put, List.setIfInBounds_toArray, List.set_cons_zero, List.set_cons_succ]
                      rfl
                     refine two_ (i := 4) (j := 21) (Ni := some 8) (Nj := some 3) (bA 23 444031) (bA 23 2541167) rfl rfl rfl rfl (two_of HT_.out (by kernel_rfl)) (by decide) (by decide) (fun K hK => ?_) (fun K hK => ?_)
                     ·skip
                      refine goes_ Try.func21 (by kernel_rfl) rfl #[] (by rfl) rfl rfl argN ?_
                      with_reducible refine (marigraphkeep_Keys.calls  t173 _ A4.out).mono ?_
                      rintro e w17 ⟨v174, rfl, ho0, hb⟩
                      refine ⟨_, rfl, ?_⟩
                      have n0_ := Aside0.mk (Kd.R_elder' (rowN HO171.out) (Kd.R_base ho0) hb)
                      have n1_ := Aside0.mk (Kd.R_lower (Kd.R_new' ho0 (Kd.R_lt (rowN HO171.out))) (below_size (belS HB.out)))
                      have n2_ := Aside0.mk (bkB BK167.out hb)
                      have n3_ := Aside0.mk (bkB BK168.out hb)
                      have n4_ := Aside0.mk (below_step (belS HB.out) hb)
                      clear HO171
                      clear BK167
                      clear BK168
                      clear HB
                      have HO171 := n0_
                      have HO175 := n1_
                      have BK167 := n2_
                      have BK168 := n3_
                      have HB := n4_
                      clear n0_ n1_ n2_ n3_ n4_
                      (try clear hb)
                      (try clear hk)
                      (try clear ho0)
                      refine hK.out _ _ ⟨(blk_cell BK167.out 0).trans rfl, (blk_cell BK167.out 1).trans rfl, (blk_cell BK167.out 2).trans rfl, (blk_cell BK167.out 3).trans rfl, (blk_cell BK167.out 4).trans rfl, (blk_cell BK167.out 5).trans rfl, (blk_cell BK167.out 6).trans rfl, (blk_cell BK167.out 7).trans rfl⟩ (fun hHeld => ?_)
                      clear hK K
                      refine norm_ (a' := ?_) ?_ ?_
                      rotate_left
                      ·show Act.put _ (some 8) _ = _
                       simp only [Act.put, List.setIfInBounds_toArray, List.set_cons_zero, List.set_cons_succ, i64_w, i32_w]
                       rfl
                      exact norm_ (by first | (simp only [putAll, Act.put, List.setIfInBounds_toArray, List.set_cons_zero, List.set_cons_succ]; done) | (simp only [putAll, Act.put, List.setIfInBounds_toArray, List.set_cons_zero, List.set_cons_succ]; rfl)) (hJ0_3_4 (v170, v174) _ ⟨hHeld, (by (with_reducible repeat (first | apply Kd.R_alloc | apply Kd.R_drewN | apply Kd.R_drew)); exact Kd.R_mono HO171.out (fun _ hk => hk.2)), (by (with_reducible repeat (first | apply Kd.R_alloc | apply Kd.R_drewN | apply Kd.R_drew)); exact Kd.R_mono HO175.out (fun _ hk => hk.2)), (blkN BK167.out), (blkN BK168.out), (belS HB.out)⟩)
                     ·skip
                      refine box_step ?hg (N := 3) ?hd (cs := #[.string (⟨#[]⟩ : ByteArray), .slice none 0 0, .int .i64 0, .int .i64 0]) (t := 31) ?hr ?_; (case hd => rfl); (case hg => rfl); (case hr => first | (go_simp; done) | (go_simp; rfl))
                      intro gb186 hg w17 hbox hb
                      have n0_ := Aside0.mk (Kd.R_below (rowN HO171.out) hb)
                      have n1_ := Aside0.mk (bkB BK167.out hb)
                      have n2_ := Aside0.mk (bkB BK168.out hb)
                      have n3_ := Aside0.mk (below_step (belS HB.out) hb)
                      have n4_ := Aside0.mk (hbox)
                      have n5_ := Aside0.mk (szB hg HB.out)
                      have n6_ := Aside0.mk (szB hg HB.out)
                      have n7_ := Aside0.mk ((bk1 hg BK167.out))
                      have n8_ := Aside0.mk ((bk2 hg BK167.out))
                      have n9_ := Aside0.mk ((bk1 hg BK168.out))
                      have n10_ := Aside0.mk ((bk2 hg BK168.out))
                      clear HO171
                      clear BK167
                      clear BK168
                      clear HB
                      have HO171 := n0_
                      have BK167 := n1_
                      have BK168 := n2_
                      have HB := n3_
                      have BK186 := n4_
                      have GW186 := n5_
                      have GE186 := n6_
                      have NB167_186 := n7_
                      have NB186_167 := n8_
                      have NB168_186 := n9_
                      have NB186_168 := n10_
                      clear n0_ n1_ n2_ n3_ n4_ n5_ n6_ n7_ n8_ n9_ n10_
                      clear hb hbox hg
                      refine hK.out _ _ ⟨(blk_cell BK167.out 0).trans rfl, (blk_cell BK167.out 1).trans rfl, (blk_cell BK167.out 2).trans rfl, (blk_cell BK167.out 3).trans rfl, (blk_cell BK167.out 4).trans rfl, (blk_cell BK167.out 5).trans rfl, (blk_cell BK167.out 6).trans rfl, (blk_cell BK167.out 7).trans rfl⟩ (fun hHeld => ?_)
                      clear hK K
                      refine norm_ (a' := ?_) ?_ ?_
                      rotate_left
                      ·show Act.put _ (some 3) _ = _
                       simp only [Act.put, List.setIfInBounds_toArray, List.set_cons_zero, List.set_cons_succ, i64_w, i32_w]
                       rfl
                      exact norm_ (by first | (simp only [putAll, Act.put, List.setIfInBounds_toArray, List.set_cons_zero, List.set_cons_succ]; done) | (simp only [putAll, Act.put, List.setIfInBounds_toArray, List.set_cons_zero, List.set_cons_succ]; rfl)) (hJ0_3_21 (v170, gb186) _ ⟨hHeld, (rowN HO171.out), (blkN BK167.out), (blkN BK168.out), (blkN BK186.out), GW186.out, GE186.out, NB167_186.out, NB186_167.out, NB168_186.out, NB186_168.out, (belS HB.out)⟩)
                   ·skip
                    rintro ⟨v170, gb186⟩ w17 ⟨hS_, h0_, h1_, h2_, h3_, h4_, h5_, h6_, h7_, h8_, h9_, h10_⟩
                    have n0_ : Aside0 (Kd.R Kd.string 9 w17 w.heap.size (fun _ => True) v170 t169) := ⟨h0_⟩
                    have n1_ : Aside0 (w17.heap[gb167]? = some (.cells #[.int .i64 a0_0, .int .i64 a0_1, .int .i64 a0_2, .int .i64 a0_3, .int .i64 a0_4, .bool a0_5, .int .i64 a0_6, .int .i64 a0_7] 34 (0, 0))) := ⟨h1_⟩
                    have n2_ : Aside0 (w17.heap[gb168]? = some (.cells #[.string (⟨#[]⟩ : ByteArray), .slice none 0 0, .int .i64 0, .int .i64 0] 31 (0, 0))) := ⟨h2_⟩
                    have n3_ : Aside0 (w17.heap[gb186]? = some (.cells #[.string (⟨#[]⟩ : ByteArray), .slice none 0 0, .int .i64 0, .int .i64 0] 31 (0, 0))) := ⟨h3_⟩
                    have n4_ : Aside0 (w.heap.size ≤ gb186) := ⟨h4_⟩
                    have n5_ : Aside0 (w.heap.size ≤ gb186) := ⟨h5_⟩
                    have n6_ : Aside0 (gb167 ≠ gb186) := ⟨h6_⟩
                    have n7_ : Aside0 (gb186 ≠ gb167) := ⟨h7_⟩
                    have n8_ : Aside0 (gb168 ≠ gb186) := ⟨h8_⟩
                    have n9_ : Aside0 (gb186 ≠ gb168) := ⟨h9_⟩
                    have n10_ : Aside0 (Below w.heap.size w w17) := ⟨h10_⟩
                    clear BK167
                    clear BK168
                    clear HB
                    clear h0_ h1_ h2_ h3_ h4_ h5_ h6_ h7_ h8_ h9_ h10_
                    have HO171 := n0_
                    have BK167 := n1_
                    have BK168 := n2_
                    have BK186 := n3_
                    have GW186 := n4_
                    have GE186 := n5_
                    have NB167_186 := n6_
                    have NB186_167 := n7_
                    have NB168_186 := n8_
                    have NB186_168 := n9_
                    have HB := n10_
                    clear n0_ n1_ n2_ n3_ n4_ n5_ n6_ n7_ n8_ n9_ n10_
                    have hHeld : w17.cell? ⟨gb167, 0, none⟩ = some (.int .i64 a0_0) ∧ w17.cell? ⟨gb167, 1, none⟩ = some (.int .i64 a0_1) ∧ w17.cell? ⟨gb167, 2, none⟩ = some (.int .i64 a0_2) ∧ w17.cell? ⟨gb167, 3, none⟩ = some (.int .i64 a0_3) ∧ w17.cell? ⟨gb167, 4, none⟩ = some (.int .i64 a0_4) ∧ w17.cell? ⟨gb167, 5, none⟩ = some (.bool a0_5) ∧ w17.cell? ⟨gb167, 6, none⟩ = some (.int .i64 a0_6) ∧ w17.cell? ⟨gb167, 7, none⟩ = some (.int .i64 a0_7) := hS_
                    refine norm_ (a' := ?_) ?_ ?_
                    rotate_left
                    ·simp only [putAll, Act.put, List.setIfInBounds_toArray, List.set_cons_zero, List.set_cons_succ]
                     rfl
                    refine one_ (i := 4) (N := some 8) (bA 23 2541183) rfl rfl (one_of HT_.out (by kernel_rfl)) (by decide) (fun K hK => ?_)
                    refine goes_ Try.func21 (by kernel_rfl) rfl #[] (by rfl) rfl rfl argN ?_
                    with_reducible refine (marigraphkeep_Keys.calls  t173 _ A4.out).mono ?_
                    rintro e w18 ⟨v174, rfl, ho0, hb⟩
                    refine ⟨_, rfl, ?_⟩
                    have n0_ := Aside0.mk (Kd.R_elder' (rowN HO171.out) (Kd.R_base ho0) hb)
                    have n1_ := Aside0.mk (Kd.R_lower (Kd.R_new' ho0 (Kd.R_lt (rowN HO171.out))) (below_size (belS HB.out)))
                    have n2_ := Aside0.mk (bkB BK167.out hb)
                    have n3_ := Aside0.mk (bkB BK168.out hb)
                    have n4_ := Aside0.mk (bkB BK186.out hb)
                    have n5_ := Aside0.mk (below_step (belS HB.out) hb)
                    clear HO171
                    clear BK167
                    clear BK168
                    clear BK186
                    clear HB
                    have HO171 := n0_
                    have HO175 := n1_
                    have BK167 := n2_
                    have BK168 := n3_
                    have BK186 := n4_
                    have HB := n5_
                    clear n0_ n1_ n2_ n3_ n4_ n5_
                    (try clear hb)
                    (try clear hk)
                    (try clear ho0)
                    refine hK.out _ _ ⟨(blk_cell BK167.out 0).trans rfl, (blk_cell BK167.out 1).trans rfl, (blk_cell BK167.out 2).trans rfl, (blk_cell BK167.out 3).trans rfl, (blk_cell BK167.out 4).trans rfl, (blk_cell BK167.out 5).trans rfl, (blk_cell BK167.out 6).trans rfl, (blk_cell BK167.out 7).trans rfl⟩ (fun hHeld => ?_)
                    clear hK K
                    refine norm_ (a' := ?_) ?_ ?_
                    rotate_left
                    ·show Act.put _ (some 8) _ = _
                     simp only [Act.put, List.setIfInBounds_toArray, List.set_cons_zero, List.set_cons_succ, i64_w, i32_w]
                     rfl
                    exact norm_ (by first | (simp only [putAll, Act.put, List.setIfInBounds_toArray, List.set_cons_zero, List.set_cons_succ]; done) | (simp only [putAll, Act.put, List.setIfInBounds_toArray, List.set_cons_zero, List.set_cons_succ]; rfl)) (hJ0_3_4_21 (v170, v174, gb186) _ ⟨hHeld, (by (with_reducible repeat (first | apply Kd.R_alloc | apply Kd.R_drewN | apply Kd.R_drew)); exact Kd.R_mono HO171.out (fun _ hk => hk.2)), (by (with_reducible repeat (first | apply Kd.R_alloc | apply Kd.R_drewN | apply Kd.R_drew)); exact Kd.R_mono HO175.out (fun _ hk => hk.2)), (blkN BK167.out), (blkN BK168.out), (blkN BK186.out), GW186.out, GE186.out, NB167_186.out, NB186_167.out, NB168_186.out, NB186_168.out, (belS HB.out)⟩)
                  ·skip
                   rintro ⟨v170, v174⟩ w17 ⟨hS_, h0_, h1_, h2_, h3_, h4_⟩
                   have n0_ : Aside0 (Kd.R Kd.string 9 w17 w.heap.size (fun k_ => some k_ ≠ (v174 : Value).ownBlock) v170 t169) := ⟨h0_⟩
                   have n1_ : Aside0 (Kd.R Kd.string 9 w17 w.heap.size (fun k_ => some k_ ≠ (v170 : Value).ownBlock) v174 t173) := ⟨h1_⟩
                   have n2_ : Aside0 (w17.heap[gb167]? = some (.cells #[.int .i64 a0_0, .int .i64 a0_1, .int .i64 a0_2, .int .i64 a0_3, .int .i64 a0_4, .bool a0_5, .int .i64 a0_6, .int .i64 a0_7] 34 (0, 0))) := ⟨h2_⟩
                   have n3_ : Aside0 (w17.heap[gb168]? = some (.cells #[.string (⟨#[]⟩ : ByteArray), .slice none 0 0, .int .i64 0, .int .i64 0] 31 (0, 0))) := ⟨h3_⟩
                   have n4_ : Aside0 (Below w.heap.size w w17) := ⟨h4_⟩
                   clear BK167
                   clear BK168
                   clear HB
                   clear h0_ h1_ h2_ h3_ h4_
                   have HO171 := n0_
                   have HO175 := n1_
                   have BK167 := n2_
                   have BK168 := n3_
                   have HB := n4_
                   clear n0_ n1_ n2_ n3_ n4_
                   have hHeld : w17.cell? ⟨gb167, 0, none⟩ = some (.int .i64 a0_0) ∧ w17.cell? ⟨gb167, 1, none⟩ = some (.int .i64 a0_1) ∧ w17.cell? ⟨gb167, 2, none⟩ = some (.int .i64 a0_2) ∧ w17.cell? ⟨gb167, 3, none⟩ = some (.int .i64 a0_3) ∧ w17.cell? ⟨gb167, 4, none⟩ = some (.int .i64 a0_4) ∧ w17.cell? ⟨gb167, 5, none⟩ = some (.bool a0_5) ∧ w17.cell? ⟨gb167, 6, none⟩ = some (.int .i64 a0_6) ∧ w17.cell? ⟨gb167, 7, none⟩ = some (.int .i64 a0_7) := hS_
                   obtain ⟨Ao18, co18, eo18⟩ := Kd.R_slice HO175.out
                   (first | subst eo18 | (injection eo18 with f1_ f2_ f3_; have f4_ := f1_.symm; have f5_ := f3_.symm; clear f1_ f2_ f3_; subst f4_; subst f5_))
                   refine norm_ (a' := ?_) ?_ ?_
                   rotate_left
                   ·simp only [putAll, Act.put, List.setIfInBounds_toArray, List.set_cons_zero, List.set_cons_succ]
                    rfl
                   refine two_ (i := 7) (j := 21) (Ni := some 11) (Nj := some 3) (bA 23 444159) (bA 23 2541183) rfl rfl rfl rfl (two_of HT_.out (by kernel_rfl)) (by decide) (by decide) (fun K hK => ?_) (fun K hK => ?_)
                   ·skip
                    refine goes_ Try.func19 (by kernel_rfl) rfl #[.slice Ao18 t173.length co18, .int .i64 a0_1] (by rfl) rfl rfl argN ?_
                    with_reducible refine (marigraphkeep_pick.calls k _ _ t173 a0_1 t176 _ ?side1 ?side2 A5.out).mono ?_
                    (case side1 => repeat (first | exact (Kd.R_reads' HO175.out).2.2 | (with_reducible refine Kd.C_alloc ?_ _) | (with_reducible refine Kd.C_drewN ?_ _) | (with_reducible refine Kd.C_drew ?_)))
                    (case side2 => exact (Kd.R_reads' HO175.out).2.1)
                    rintro e w' ⟨rfl, ⟨nd, rfl⟩⟩
                    refine ⟨_, rfl, ?_⟩
                    refine hK.out _ _ ⟨(blk_cell BK167.out 0).trans rfl, (blk_cell BK167.out 1).trans rfl, (blk_cell BK167.out 2).trans rfl, (blk_cell BK167.out 3).trans rfl, (blk_cell BK167.out 4).trans rfl, (blk_cell BK167.out 5).trans rfl, (blk_cell BK167.out 6).trans rfl, (blk_cell BK167.out 7).trans rfl⟩ (fun hHeld => ?_)
                    clear hK K
                    refine norm_ (a' := ?_) ?_ ?_
                    rotate_left
                    ·show Act.put _ (some 11) _ = _
                     simp only [Act.put, List.setIfInBounds_toArray, List.set_cons_zero, List.set_cons_succ, i64_w, i32_w]
                     rfl
                    exact norm_ (by first | (simp only [putAll, Act.put, List.setIfInBounds_toArray, List.set_cons_zero, List.set_cons_succ]; done) | (simp only [putAll, Act.put, List.setIfInBounds_toArray, List.set_cons_zero, List.set_cons_succ]; rfl)) (hJ0_3_4_7 (v170, .slice Ao18 t173.length co18) _ ⟨hHeld, (rowN HO171.out), (rowN HO175.out), (blkN BK167.out), (blkN BK168.out), (belS HB.out)⟩)
                   ·skip
                    refine box_step ?hg (N := 3) ?hd (cs := #[.string (⟨#[]⟩ : ByteArray), .slice none 0 0, .int .i64 0, .int .i64 0]) (t := 31) ?hr ?_; (case hd => rfl); (case hg => rfl); (case hr => first | (go_simp; done) | (go_simp; rfl))
                    intro gb186 hg w18 hbox hb
                    have n0_ := Aside0.mk (Kd.R_below (rowN HO171.out) hb)
                    have n1_ := Aside0.mk (Kd.R_below (rowN HO175.out) hb)
                    have n2_ := Aside0.mk (bkB BK167.out hb)
                    have n3_ := Aside0.mk (bkB BK168.out hb)
                    have n4_ := Aside0.mk (below_step (belS HB.out) hb)
                    have n5_ := Aside0.mk (hbox)
                    have n6_ := Aside0.mk (szB hg HB.out)
                    have n7_ := Aside0.mk (szB hg HB.out)
                    have n8_ := Aside0.mk ((bk1 hg BK167.out))
                    have n9_ := Aside0.mk ((bk2 hg BK167.out))
                    have n10_ := Aside0.mk ((bk1 hg BK168.out))
                    have n11_ := Aside0.mk ((bk2 hg BK168.out))
                    clear HO171
                    clear HO175
                    clear BK167
                    clear BK168
                    clear HB
                    have HO171 := n0_
                    have HO175 := n1_
                    have BK167 := n2_
                    have BK168 := n3_
                    have HB := n4_
                    have BK186 := n5_
                    have GW186 := n6_
                    have GE186 := n7_
                    have NB167_186 := n8_
                    have NB186_167 := n9_
                    have NB168_186 := n10_
                    have NB186_168 := n11_
                    clear n0_ n1_ n2_ n3_ n4_ n5_ n6_ n7_ n8_ n9_ n10_ n11_
                    clear hb hbox hg
                    refine hK.out _ _ ⟨(blk_cell BK167.out 0).trans rfl, (blk_cell BK167.out 1).trans rfl, (blk_cell BK167.out 2).trans rfl, (blk_cell BK167.out 3).trans rfl, (blk_cell BK167.out 4).trans rfl, (blk_cell BK167.out 5).trans rfl, (blk_cell BK167.out 6).trans rfl, (blk_cell BK167.out 7).trans rfl⟩ (fun hHeld => ?_)
                    clear hK K
                    refine norm_ (a' := ?_) ?_ ?_
                    rotate_left
                    ·show Act.put _ (some 3) _ = _
                     simp only [Act.put, List.setIfInBounds_toArray, List.set_cons_zero, List.set_cons_succ, i64_w, i32_w]
                     rfl
                    exact norm_ (by first | (simp only [putAll, Act.put, List.setIfInBounds_toArray, List.set_cons_zero, List.set_cons_succ]; done) | (simp only [putAll, Act.put, List.setIfInBounds_toArray, List.set_cons_zero, List.set_cons_succ]; rfl)) (hJ0_3_4_21 (v170, (.slice Ao18 t173.length co18), gb186) _ ⟨hHeld, (rowN HO171.out), (rowN HO175.out), (blkN BK167.out), (blkN BK168.out), (blkN BK186.out), GW186.out, GE186.out, NB167_186.out, NB186_167.out, NB168_186.out, NB186_168.out, (belS HB.out)⟩)
                 ·skip
                  rintro ⟨v170, v174, gb186⟩ w18 ⟨hS_, h0_, h1_, h2_, h3_, h4_, h5_, h6_, h7_, h8_, h9_, h10_, h11_⟩
                  have n0_ : Aside0 (Kd.R Kd.string 9 w18 w.heap.size (fun k_ => some k_ ≠ (v174 : Value).ownBlock) v170 t169) := ⟨h0_⟩
                  have n1_ : Aside0 (Kd.R Kd.string 9 w18 w.heap.size (fun k_ => some k_ ≠ (v170 : Value).ownBlock) v174 t173) := ⟨h1_⟩
                  have n2_ : Aside0 (w18.heap[gb167]? = some (.cells #[.int .i64 a0_0, .int .i64 a0_1, .int .i64 a0_2, .int .i64 a0_3, .int .i64 a0_4, .bool a0_5, .int .i64 a0_6, .int .i64 a0_7] 34 (0, 0))) := ⟨h2_⟩
                  have n3_ : Aside0 (w18.heap[gb168]? = some (.cells #[.string (⟨#[]⟩ : ByteArray), .slice none 0 0, .int .i64 0, .int .i64 0] 31 (0, 0))) := ⟨h3_⟩
                  have n4_ : Aside0 (w18.heap[gb186]? = some (.cells #[.string (⟨#[]⟩ : ByteArray), .slice none 0 0, .int .i64 0, .int .i64 0] 31 (0, 0))) := ⟨h4_⟩
                  have n5_ : Aside0 (w.heap.size ≤ gb186) := ⟨h5_⟩
                  have n6_ : Aside0 (w.heap.size ≤ gb186) := ⟨h6_⟩
                  have n7_ : Aside0 (gb167 ≠ gb186) := ⟨h7_⟩
                  have n8_ : Aside0 (gb186 ≠ gb167) := ⟨h8_⟩
                  have n9_ : Aside0 (gb168 ≠ gb186) := ⟨h9_⟩
                  have n10_ : Aside0 (gb186 ≠ gb168) := ⟨h10_⟩
                  have n11_ : Aside0 (Below w.heap.size w w18) := ⟨h11_⟩
                  clear BK167
                  clear BK168
                  clear HB
                  clear h0_ h1_ h2_ h3_ h4_ h5_ h6_ h7_ h8_ h9_ h10_ h11_
                  have HO171 := n0_
                  have HO175 := n1_
                  have BK167 := n2_
                  have BK168 := n3_
                  have BK186 := n4_
                  have GW186 := n5_
                  have GE186 := n6_
                  have NB167_186 := n7_
                  have NB186_167 := n8_
                  have NB168_186 := n9_
                  have NB186_168 := n10_
                  have HB := n11_
                  clear n0_ n1_ n2_ n3_ n4_ n5_ n6_ n7_ n8_ n9_ n10_ n11_
                  have hHeld : w18.cell? ⟨gb167, 0, none⟩ = some (.int .i64 a0_0) ∧ w18.cell? ⟨gb167, 1, none⟩ = some (.int .i64 a0_1) ∧ w18.cell? ⟨gb167, 2, none⟩ = some (.int .i64 a0_2) ∧ w18.cell? ⟨gb167, 3, none⟩ = some (.int .i64 a0_3) ∧ w18.cell? ⟨gb167, 4, none⟩ = some (.int .i64 a0_4) ∧ w18.cell? ⟨gb167, 5, none⟩ = some (.bool a0_5) ∧ w18.cell? ⟨gb167, 6, none⟩ = some (.int .i64 a0_6) ∧ w18.cell? ⟨gb167, 7, none⟩ = some (.int .i64 a0_7) := hS_
                  obtain ⟨Ao19, co19, eo19⟩ := Kd.R_slice HO175.out
                  (first | subst eo19 | (injection eo19 with f1_ f2_ f3_; have f4_ := f1_.symm; have f5_ := f3_.symm; clear f1_ f2_ f3_; subst f4_; subst f5_))
                  refine norm_ (a' := ?_) ?_ ?_
                  rotate_left
                  ·simp only [putAll, Act.put, List.setIfInBounds_toArray, List.set_cons_zero, List.set_cons_succ]
                   rfl
                  refine one_ (i := 7) (N := some 11) (bA 23 2541311) rfl rfl (one_of HT_.out (by kernel_rfl)) (by decide) (fun K hK => ?_)
                  refine goes_ Try.func19 (by kernel_rfl) rfl #[.slice Ao19 t173.length co19, .int .i64 a0_1] (by rfl) rfl rfl argN ?_
                  with_reducible refine (marigraphkeep_pick.calls k _ _ t173 a0_1 t176 _ ?side1 ?side2 A5.out).mono ?_
                  (case side1 => repeat (first | exact (Kd.R_reads' HO175.out).2.2 | (with_reducible refine Kd.C_alloc ?_ _) | (with_reducible refine Kd.C_drewN ?_ _) | (with_reducible refine Kd.C_drew ?_)))
                  (case side2 => exact (Kd.R_reads' HO175.out).2.1)
                  rintro e w' ⟨rfl, ⟨nd, rfl⟩⟩
                  refine ⟨_, rfl, ?_⟩
                  refine hK.out _ _ ⟨(blk_cell BK167.out 0).trans rfl, (blk_cell BK167.out 1).trans rfl, (blk_cell BK167.out 2).trans rfl, (blk_cell BK167.out 3).trans rfl, (blk_cell BK167.out 4).trans rfl, (blk_cell BK167.out 5).trans rfl, (blk_cell BK167.out 6).trans rfl, (blk_cell BK167.out 7).trans rfl⟩ (fun hHeld => ?_)
                  clear hK K
                  refine norm_ (a' := ?_) ?_ ?_
                  rotate_left
                  ·show Act.put _ (some 11) _ = _
                   simp only [Act.put, List.setIfInBounds_toArray, List.set_cons_zero, List.set_cons_succ, i64_w, i32_w]
                   rfl
                  exact norm_ (by first | (simp only [putAll, Act.put, List.setIfInBounds_toArray, List.set_cons_zero, List.set_cons_succ]; done) | (simp only [putAll, Act.put, List.setIfInBounds_toArray, List.set_cons_zero, List.set_cons_succ]; rfl)) (hJ0_3_4_7_21 (v170, .slice Ao19 t173.length co19, gb186) _ ⟨hHeld, (rowN HO171.out), (rowN HO175.out), (blkN BK167.out), (blkN BK168.out), (blkN BK186.out), GW186.out, GE186.out, NB167_186.out, NB186_167.out, NB168_186.out, NB186_168.out, (belS HB.out)⟩)
                ·skip
                 rintro ⟨v170, v174⟩ w18 ⟨hS_, h0_, h1_, h2_, h3_, h4_⟩
                 have n0_ : Aside0 (Kd.R Kd.string 9 w18 w.heap.size (fun k_ => some k_ ≠ (v174 : Value).ownBlock) v170 t169) := ⟨h0_⟩
                 have n1_ : Aside0 (Kd.R Kd.string 9 w18 w.heap.size (fun k_ => some k_ ≠ (v170 : Value).ownBlock) v174 t173) := ⟨h1_⟩
                 have n2_ : Aside0 (w18.heap[gb167]? = some (.cells #[.int .i64 a0_0, .int .i64 a0_1, .int .i64 a0_2, .int .i64 a0_3, .int .i64 a0_4, .bool a0_5, .int .i64 a0_6, .int .i64 a0_7] 34 (0, 0))) := ⟨h2_⟩
                 have n3_ : Aside0 (w18.heap[gb168]? = some (.cells #[.string (⟨#[]⟩ : ByteArray), .slice none 0 0, .int .i64 0, .int .i64 0] 31 (0, 0))) := ⟨h3_⟩
                 have n4_ : Aside0 (Below w.heap.size w w18) := ⟨h4_⟩
                 clear BK167
                 clear BK168
                 clear HB
                 clear h0_ h1_ h2_ h3_ h4_
                 have HO171 := n0_
                 have HO175 := n1_
                 have BK167 := n2_
                 have BK168 := n3_
                 have HB := n4_
                 clear n0_ n1_ n2_ n3_ n4_
                 have hHeld : w18.cell? ⟨gb167, 0, none⟩ = some (.int .i64 a0_0) ∧ w18.cell? ⟨gb167, 1, none⟩ = some (.int .i64 a0_1) ∧ w18.cell? ⟨gb167, 2, none⟩ = some (.int .i64 a0_2) ∧ w18.cell? ⟨gb167, 3, none⟩ = some (.int .i64 a0_3) ∧ w18.cell? ⟨gb167, 4, none⟩ = some (.int .i64 a0_4) ∧ w18.cell? ⟨gb167, 5, none⟩ = some (.bool a0_5) ∧ w18.cell? ⟨gb167, 6, none⟩ = some (.int .i64 a0_6) ∧ w18.cell? ⟨gb167, 7, none⟩ = some (.int .i64 a0_7) := hS_
                 refine norm_ (a' := ?_) ?_ ?_
                 rotate_left
                 ·simp only [putAll, Act.put, List.setIfInBounds_toArray, List.set_cons_zero, List.set_cons_succ]
                  rfl
                 refine two_ (i := 8) (j := 21) (Ni := some 12) (Nj := some 3) (bA 23 444415) (bA 23 2541311) rfl rfl rfl rfl (two_of HT_.out (by kernel_rfl)) (by decide) (by decide) (fun K hK => ?_) (fun K hK => ?_)
                 ·skip
                  refine goes_ Try.func22 (by kernel_rfl) rfl #[] (by rfl) rfl rfl argN ?_
                  with_reducible refine (marigraphkeep_Values.calls  t177 _ A6.out).mono ?_
                  rintro e w19 ⟨v178, rfl, ho0, hb⟩
                  refine ⟨_, rfl, ?_⟩
                  have n0_ := Aside0.mk (Kd.R_elder' (rowN HO171.out) (Kd.R_base ho0) hb)
                  have n1_ := Aside0.mk (Kd.R_elder' (rowN HO175.out) (Kd.R_base ho0) hb)
                  have n2_ := Aside0.mk (Kd.R_lower (Kd.R_new' (Kd.R_new' ho0 (Kd.R_lt (rowN HO171.out))) (Kd.R_lt (rowN HO175.out))) (below_size (belS HB.out)))
                  have n3_ := Aside0.mk (bkB BK167.out hb)
                  have n4_ := Aside0.mk (bkB BK168.out hb)
                  have n5_ := Aside0.mk (below_step (belS HB.out) hb)
                  clear HO171
                  clear HO175
                  clear BK167
                  clear BK168
                  clear HB
                  have HO171 := n0_
                  have HO175 := n1_
                  have HO179 := n2_
                  have BK167 := n3_
                  have BK168 := n4_
                  have HB := n5_
                  clear n0_ n1_ n2_ n3_ n4_ n5_
                  (try clear hb)
                  (try clear hk)
                  (try clear ho0)
                  refine hK.out _ _ ⟨(blk_cell BK167.out 0).trans rfl, (blk_cell BK167.out 1).trans rfl, (blk_cell BK167.out 2).trans rfl, (blk_cell BK167.out 3).trans rfl, (blk_cell BK167.out 4).trans rfl, (blk_cell BK167.out 5).trans rfl, (blk_cell BK167.out 6).trans rfl, (blk_cell BK167.out 7).trans rfl⟩ (fun hHeld => ?_)
                  clear hK K
                  refine norm_ (a' := ?_) ?_ ?_
                  rotate_left
                  ·show Act.put _ (some 12) _ = _
                   simp only [Act.put, List.setIfInBounds_toArray, List.set_cons_zero, List.set_cons_succ, i64_w, i32_w]
                   rfl
                  exact norm_ (by first | (simp only [putAll, Act.put, List.setIfInBounds_toArray, List.set_cons_zero, List.set_cons_succ]; done) | (simp only [putAll, Act.put, List.setIfInBounds_toArray, List.set_cons_zero, List.set_cons_succ]; rfl)) (hJ0_3_4_7_8 (v170, v174, v178) _ ⟨hHeld, (rowN HO171.out), (rowN HO175.out), (by (with_reducible repeat (first | apply Kd.R_alloc | apply Kd.R_drewN | apply Kd.R_drew)); exact Kd.R_mono HO179.out (fun _ hk => ⟨hk.1.2, hk.2⟩)), (blkN BK167.out), (blkN BK168.out), (belS HB.out)⟩)
                 ·skip
                  refine box_step ?hg (N := 3) ?hd (cs := #[.string (⟨#[]⟩ : ByteArray), .slice none 0 0, .int .i64 0, .int .i64 0]) (t := 31) ?hr ?_; (case hd => rfl); (case hg => rfl); (case hr => first | (go_simp; done) | (go_simp; rfl))
                  intro gb186 hg w19 hbox hb
                  have n0_ := Aside0.mk (Kd.R_below (rowN HO171.out) hb)
                  have n1_ := Aside0.mk (Kd.R_below (rowN HO175.out) hb)
                  have n2_ := Aside0.mk (bkB BK167.out hb)
                  have n3_ := Aside0.mk (bkB BK168.out hb)
                  have n4_ := Aside0.mk (below_step (belS HB.out) hb)
                  have n5_ := Aside0.mk (hbox)
                  have n6_ := Aside0.mk (szB hg HB.out)
                  have n7_ := Aside0.mk (szB hg HB.out)
                  have n8_ := Aside0.mk ((bk1 hg BK167.out))
                  have n9_ := Aside0.mk ((bk2 hg BK167.out))
                  have n10_ := Aside0.mk ((bk1 hg BK168.out))
                  have n11_ := Aside0.mk ((bk2 hg BK168.out))
                  clear HO171
                  clear HO175
                  clear BK167
                  clear BK168
                  clear HB
                  have HO171 := n0_
                  have HO175 := n1_
                  have BK167 := n2_
                  have BK168 := n3_
                  have HB := n4_
                  have BK186 := n5_
                  have GW186 := n6_
                  have GE186 := n7_
                  have NB167_186 := n8_
                  have NB186_167 := n9_
                  have NB168_186 := n10_
                  have NB186_168 := n11_
                  clear n0_ n1_ n2_ n3_ n4_ n5_ n6_ n7_ n8_ n9_ n10_ n11_
                  clear hb hbox hg
                  refine hK.out _ _ ⟨(blk_cell BK167.out 0).trans rfl, (blk_cell BK167.out 1).trans rfl, (blk_cell BK167.out 2).trans rfl, (blk_cell BK167.out 3).trans rfl, (blk_cell BK167.out 4).trans rfl, (blk_cell BK167.out 5).trans rfl, (blk_cell BK167.out 6).trans rfl, (blk_cell BK167.out 7).trans rfl⟩ (fun hHeld => ?_)
                  clear hK K
                  refine norm_ (a' := ?_) ?_ ?_
                  rotate_left
                  ·show Act.put _ (some 3) _ = _
                   simp only [Act.put, List.setIfInBounds_toArray, List.set_cons_zero, List.set_cons_succ, i64_w, i32_w]
                   rfl
                  exact norm_ (by first | (simp only [putAll, Act.put, List.setIfInBounds_toArray, List.set_cons_zero, List.set_cons_succ]; done) | (simp only [putAll, Act.put, List.setIfInBounds_toArray, List.set_cons_zero, List.set_cons_succ]; rfl)) (hJ0_3_4_7_21 (v170, v174, gb186) _ ⟨hHeld, (rowN HO171.out), (rowN HO175.out), (blkN BK167.out), (blkN BK168.out), (blkN BK186.out), GW186.out, GE186.out, NB167_186.out, NB186_167.out, NB168_186.out, NB186_168.out, (belS HB.out)⟩)
               ·skip
                rintro ⟨v170, v174, gb186⟩ w19 ⟨hS_, h0_, h1_, h2_, h3_, h4_, h5_, h6_, h7_, h8_, h9_, h10_, h11_⟩
                have n0_ : Aside0 (Kd.R Kd.string 9 w19 w.heap.size (fun k_ => some k_ ≠ (v174 : Value).ownBlock) v170 t169) := ⟨h0_⟩
                have n1_ : Aside0 (Kd.R Kd.string 9 w19 w.heap.size (fun k_ => some k_ ≠ (v170 : Value).ownBlock) v174 t173) := ⟨h1_⟩
                have n2_ : Aside0 (w19.heap[gb167]? = some (.cells #[.int .i64 a0_0, .int .i64 a0_1, .int .i64 a0_2, .int .i64 a0_3, .int .i64 a0_4, .bool a0_5, .int .i64 a0_6, .int .i64 a0_7] 34 (0, 0))) := ⟨h2_⟩
                have n3_ : Aside0 (w19.heap[gb168]? = some (.cells #[.string (⟨#[]⟩ : ByteArray), .slice none 0 0, .int .i64 0, .int .i64 0] 31 (0, 0))) := ⟨h3_⟩
                have n4_ : Aside0 (w19.heap[gb186]? = some (.cells #[.string (⟨#[]⟩ : ByteArray), .slice none 0 0, .int .i64 0, .int .i64 0] 31 (0, 0))) := ⟨h4_⟩
                have n5_ : Aside0 (w.heap.size ≤ gb186) := ⟨h5_⟩
                have n6_ : Aside0 (w.heap.size ≤ gb186) := ⟨h6_⟩
                have n7_ : Aside0 (gb167 ≠ gb186) := ⟨h7_⟩
                have n8_ : Aside0 (gb186 ≠ gb167) := ⟨h8_⟩
                have n9_ : Aside0 (gb168 ≠ gb186) := ⟨h9_⟩
                have n10_ : Aside0 (gb186 ≠ gb168) := ⟨h10_⟩
                have n11_ : Aside0 (Below w.heap.size w w19) := ⟨h11_⟩
                clear BK167
                clear BK168
                clear HB
                clear h0_ h1_ h2_ h3_ h4_ h5_ h6_ h7_ h8_ h9_ h10_ h11_
                have HO171 := n0_
                have HO175 := n1_
                have BK167 := n2_
                have BK168 := n3_
                have BK186 := n4_
                have GW186 := n5_
                have GE186 := n6_
                have NB167_186 := n7_
                have NB186_167 := n8_
                have NB168_186 := n9_
                have NB186_168 := n10_
                have HB := n11_
                clear n0_ n1_ n2_ n3_ n4_ n5_ n6_ n7_ n8_ n9_ n10_ n11_
                have hHeld : w19.cell? ⟨gb167, 0, none⟩ = some (.int .i64 a0_0) ∧ w19.cell? ⟨gb167, 1, none⟩ = some (.int .i64 a0_1) ∧ w19.cell? ⟨gb167, 2, none⟩ = some (.int .i64 a0_2) ∧ w19.cell? ⟨gb167, 3, none⟩ = some (.int .i64 a0_3) ∧ w19.cell? ⟨gb167, 4, none⟩ = some (.int .i64 a0_4) ∧ w19.cell? ⟨gb167, 5, none⟩ = some (.bool a0_5) ∧ w19.cell? ⟨gb167, 6, none⟩ = some (.int .i64 a0_6) ∧ w19.cell? ⟨gb167, 7, none⟩ = some (.int .i64 a0_7) := hS_
                refine norm_ (a' := ?_) ?_ ?_
                rotate_left
                ·simp only [putAll, Act.put, List.setIfInBounds_toArray, List.set_cons_zero, List.set_cons_succ]
                 rfl
                refine one_ (i := 8) (N := some 12) (bA 23 2541567) rfl rfl (one_of HT_.out (by kernel_rfl)) (by decide) (fun K hK => ?_)
                refine goes_ Try.func22 (by kernel_rfl) rfl #[] (by rfl) rfl rfl argN ?_
                with_reducible refine (marigraphkeep_Values.calls  t177 _ A6.out).mono ?_
                rintro e w20 ⟨v178, rfl, ho0, hb⟩
                refine ⟨_, rfl, ?_⟩
                have n0_ := Aside0.mk (Kd.R_elder' (rowN HO171.out) (Kd.R_base ho0) hb)
                have n1_ := Aside0.mk (Kd.R_elder' (rowN HO175.out) (Kd.R_base ho0) hb)
                have n2_ := Aside0.mk (Kd.R_lower (Kd.R_new' (Kd.R_new' ho0 (Kd.R_lt (rowN HO171.out))) (Kd.R_lt (rowN HO175.out))) (below_size (belS HB.out)))
                have n3_ := Aside0.mk (bkB BK167.out hb)
                have n4_ := Aside0.mk (bkB BK168.out hb)
                have n5_ := Aside0.mk (bkB BK186.out hb)
                have n6_ := Aside0.mk (below_step (belS HB.out) hb)
                clear HO171
                clear HO175
                clear BK167
                clear BK168
                clear BK186
                clear HB
                have HO171 := n0_
                have HO175 := n1_
                have HO179 := n2_
                have BK167 := n3_
                have BK168 := n4_
                have BK186 := n5_
                have HB := n6_
                clear n0_ n1_ n2_ n3_ n4_ n5_ n6_
                (try clear hb)
                (try clear hk)
                (try clear ho0)
                refine hK.out _ _ ⟨(blk_cell BK167.out 0).trans rfl, (blk_cell BK167.out 1).trans rfl, (blk_cell BK167.out 2).trans rfl, (blk_cell BK167.out 3).trans rfl, (blk_cell BK167.out 4).trans rfl, (blk_cell BK167.out 5).trans rfl, (blk_cell BK167.out 6).trans rfl, (blk_cell BK167.out 7).trans rfl⟩ (fun hHeld => ?_)
                clear hK K
                refine norm_ (a' := ?_) ?_ ?_
                rotate_left
                ·show Act.put _ (some 12) _ = _
                 simp only [Act.put, List.setIfInBounds_toArray, List.set_cons_zero, List.set_cons_succ, i64_w, i32_w]
                 rfl
                exact norm_ (by first | (simp only [putAll, Act.put, List.setIfInBounds_toArray, List.set_cons_zero, List.set_cons_succ]; done) | (simp only [putAll, Act.put, List.setIfInBounds_toArray, List.set_cons_zero, List.set_cons_succ]; rfl)) (hJ0_3_4_7_8_21 (v170, v174, v178, gb186) _ ⟨hHeld, (rowN HO171.out), (rowN HO175.out), (by (with_reducible repeat (first | apply Kd.R_alloc | apply Kd.R_drewN | apply Kd.R_drew)); exact Kd.R_mono HO179.out (fun _ hk => ⟨hk.1.2, hk.2⟩)), (blkN BK167.out), (blkN BK168.out), (blkN BK186.out), GW186.out, GE186.out, NB167_186.out, NB186_167.out, NB168_186.out, NB186_168.out, (belS HB.out)⟩)
              ·skip
               rintro ⟨v170, v174, v178⟩ w19 ⟨hS_, h0_, h1_, h2_, h3_, h4_, h5_⟩
               have n0_ : Aside0 (Kd.R Kd.string 9 w19 w.heap.size (fun k_ => some k_ ≠ (v174 : Value).ownBlock ∧ some k_ ≠ (v178 : Value).ownBlock) v170 t169) := ⟨h0_⟩
               have n1_ : Aside0 (Kd.R Kd.string 9 w19 w.heap.size (fun k_ => some k_ ≠ (v170 : Value).ownBlock ∧ some k_ ≠ (v178 : Value).ownBlock) v174 t173) := ⟨h1_⟩
               have n2_ : Aside0 (Kd.R Kd.string 9 w19 w.heap.size (fun k_ => some k_ ≠ (v170 : Value).ownBlock ∧ some k_ ≠ (v174 : Value).ownBlock) v178 t177) := ⟨h2_⟩
               have n3_ : Aside0 (w19.heap[gb167]? = some (.cells #[.int .i64 a0_0, .int .i64 a0_1, .int .i64 a0_2, .int .i64 a0_3, .int .i64 a0_4, .bool a0_5, .int .i64 a0_6, .int .i64 a0_7] 34 (0, 0))) := ⟨h3_⟩
               have n4_ : Aside0 (w19.heap[gb168]? = some (.cells #[.string (⟨#[]⟩ : ByteArray), .slice none 0 0, .int .i64 0, .int .i64 0] 31 (0, 0))) := ⟨h4_⟩
               have n5_ : Aside0 (Below w.heap.size w w19) := ⟨h5_⟩
               clear BK167
               clear BK168
               clear HB
               clear h0_ h1_ h2_ h3_ h4_ h5_
               have HO171 := n0_
               have HO175 := n1_
               have HO179 := n2_
               have BK167 := n3_
               have BK168 := n4_
               have HB := n5_
               clear n0_ n1_ n2_ n3_ n4_ n5_
               have hHeld : w19.cell? ⟨gb167, 0, none⟩ = some (.int .i64 a0_0) ∧ w19.cell? ⟨gb167, 1, none⟩ = some (.int .i64 a0_1) ∧ w19.cell? ⟨gb167, 2, none⟩ = some (.int .i64 a0_2) ∧ w19.cell? ⟨gb167, 3, none⟩ = some (.int .i64 a0_3) ∧ w19.cell? ⟨gb167, 4, none⟩ = some (.int .i64 a0_4) ∧ w19.cell? ⟨gb167, 5, none⟩ = some (.bool a0_5) ∧ w19.cell? ⟨gb167, 6, none⟩ = some (.int .i64 a0_6) ∧ w19.cell? ⟨gb167, 7, none⟩ = some (.int .i64 a0_7) := hS_
               obtain ⟨Ao20, co20, eo20⟩ := Kd.R_slice HO179.out
               (first | subst eo20 | (injection eo20 with f1_ f2_ f3_; have f4_ := f1_.symm; have f5_ := f3_.symm; clear f1_ f2_ f3_; subst f4_; subst f5_))
               refine norm_ (a' := ?_) ?_ ?_
               rotate_left
               ·simp only [putAll, Act.put, List.setIfInBounds_toArray, List.set_cons_zero, List.set_cons_succ]
                rfl
               refine two_ (i := 11) (j := 21) (Ni := some 15) (Nj := some 3) (bA 23 446463) (bA 23 2541567) rfl rfl rfl rfl (two_of HT_.out (by kernel_rfl)) (by decide) (by decide) (fun K hK => ?_) (fun K hK => ?_)
               ·skip
                refine goes_ Try.func19 (by kernel_rfl) rfl #[.slice Ao20 t177.length co20, .int .i64 a0_2] (by rfl) rfl rfl argN ?_
                with_reducible refine (marigraphkeep_pick.calls k _ _ t177 a0_2 t180 _ ?side1 ?side2 A7.out).mono ?_
                (case side1 => repeat (first | exact (Kd.R_reads' HO179.out).2.2 | (with_reducible refine Kd.C_alloc ?_ _) | (with_reducible refine Kd.C_drewN ?_ _) | (with_reducible refine Kd.C_drew ?_)))
                (case side2 => exact (Kd.R_reads' HO179.out).2.1)
                rintro e w' ⟨rfl, ⟨nd, rfl⟩⟩
                refine ⟨_, rfl, ?_⟩
                refine hK.out _ _ ⟨(blk_cell BK167.out 0).trans rfl, (blk_cell BK167.out 1).trans rfl, (blk_cell BK167.out 2).trans rfl, (blk_cell BK167.out 3).trans rfl, (blk_cell BK167.out 4).trans rfl, (blk_cell BK167.out 5).trans rfl, (blk_cell BK167.out 6).trans rfl, (blk_cell BK167.out 7).trans rfl⟩ (fun hHeld => ?_)
                clear hK K
                refine norm_ (a' := ?_) ?_ ?_
                rotate_left
                ·show Act.put _ (some 15) _ = _
                 simp only [Act.put, List.setIfInBounds_toArray, List.set_cons_zero, List.set_cons_succ, i64_w, i32_w]
                 rfl
                refine pA 12 (some 16) (bA 23 450559) HT_.out ?_
                exact norm_ (by first | (simp only [putAll, Act.put, List.setIfInBounds_toArray, List.set_cons_zero, List.set_cons_succ]; done) | (simp only [putAll, Act.put, List.setIfInBounds_toArray, List.set_cons_zero, List.set_cons_succ]; rfl)) (hJ0_3_4_7_8_11 (v170, v174, .slice Ao20 t177.length co20) _ ⟨hHeld, (rowN HO171.out), (rowN HO175.out), (rowN HO179.out), (blkN BK167.out), (blkN BK168.out), (belS HB.out)⟩)
               ·skip
                refine box_step ?hg (N := 3) ?hd (cs := #[.string (⟨#[]⟩ : ByteArray), .slice none 0 0, .int .i64 0, .int .i64 0]) (t := 31) ?hr ?_; (case hd => rfl); (case hg => rfl); (case hr => first | (go_simp; done) | (go_simp; rfl))
                intro gb186 hg w20 hbox hb
                have n0_ := Aside0.mk (Kd.R_below (rowN HO171.out) hb)
                have n1_ := Aside0.mk (Kd.R_below (rowN HO175.out) hb)
                have n2_ := Aside0.mk (Kd.R_below (rowN HO179.out) hb)
                have n3_ := Aside0.mk (bkB BK167.out hb)
                have n4_ := Aside0.mk (bkB BK168.out hb)
                have n5_ := Aside0.mk (below_step (belS HB.out) hb)
                have n6_ := Aside0.mk (hbox)
                have n7_ := Aside0.mk (szB hg HB.out)
                have n8_ := Aside0.mk (szB hg HB.out)
                have n9_ := Aside0.mk ((bk1 hg BK167.out))
                have n10_ := Aside0.mk ((bk2 hg BK167.out))
                have n11_ := Aside0.mk ((bk1 hg BK168.out))
                have n12_ := Aside0.mk ((bk2 hg BK168.out))
                clear HO171
                clear HO175
                clear HO179
                clear BK167
                clear BK168
                clear HB
                have HO171 := n0_
                have HO175 := n1_
                have HO179 := n2_
                have BK167 := n3_
                have BK168 := n4_
                have HB := n5_
                have BK186 := n6_
                have GW186 := n7_
                have GE186 := n8_
                have NB167_186 := n9_
                have NB186_167 := n10_
                have NB168_186 := n11_
                have NB186_168 := n12_
                clear n0_ n1_ n2_ n3_ n4_ n5_ n6_ n7_ n8_ n9_ n10_ n11_ n12_
                clear hb hbox hg
                refine hK.out _ _ ⟨(blk_cell BK167.out 0).trans rfl, (blk_cell BK167.out 1).trans rfl, (blk_cell BK167.out 2).trans rfl, (blk_cell BK167.out 3).trans rfl, (blk_cell BK167.out 4).trans rfl, (blk_cell BK167.out 5).trans rfl, (blk_cell BK167.out 6).trans rfl, (blk_cell BK167.out 7).trans rfl⟩ (fun hHeld => ?_)
                clear hK K
                refine norm_ (a' := ?_) ?_ ?_
                rotate_left
                ·show Act.put _ (some 3) _ = _
                 simp only [Act.put, List.setIfInBounds_toArray, List.set_cons_zero, List.set_cons_succ, i64_w, i32_w]
                 rfl
                exact norm_ (by first | (simp only [putAll, Act.put, List.setIfInBounds_toArray, List.set_cons_zero, List.set_cons_succ]; done) | (simp only [putAll, Act.put, List.setIfInBounds_toArray, List.set_cons_zero, List.set_cons_succ]; rfl)) (hJ0_3_4_7_8_21 (v170, v174, (.slice Ao20 t177.length co20), gb186) _ ⟨hHeld, (rowN HO171.out), (rowN HO175.out), (rowN HO179.out), (blkN BK167.out), (blkN BK168.out), (blkN BK186.out), GW186.out, GE186.out, NB167_186.out, NB186_167.out, NB168_186.out, NB186_168.out, (belS HB.out)⟩)
             ·skip
              rintro ⟨v170, v174, v178, gb186⟩ w20 ⟨hS_, h0_, h1_, h2_, h3_, h4_, h5_, h6_, h7_, h8_, h9_, h10_, h11_, h12_⟩
              have n0_ : Aside0 (Kd.R Kd.string 9 w20 w.heap.size (fun k_ => some k_ ≠ (v174 : Value).ownBlock ∧ some k_ ≠ (v178 : Value).ownBlock) v170 t169) := ⟨h0_⟩
              have n1_ : Aside0 (Kd.R Kd.string 9 w20 w.heap.size (fun k_ => some k_ ≠ (v170 : Value).ownBlock ∧ some k_ ≠ (v178 : Value).ownBlock) v174 t173) := ⟨h1_⟩
              have n2_ : Aside0 (Kd.R Kd.string 9 w20 w.heap.size (fun k_ => some k_ ≠ (v170 : Value).ownBlock ∧ some k_ ≠ (v174 : Value).ownBlock) v178 t177) := ⟨h2_⟩
              have n3_ : Aside0 (w20.heap[gb167]? = some (.cells #[.int .i64 a0_0, .int .i64 a0_1, .int .i64 a0_2, .int .i64 a0_3, .int .i64 a0_4, .bool a0_5, .int .i64 a0_6, .int .i64 a0_7] 34 (0, 0))) := ⟨h3_⟩
              have n4_ : Aside0 (w20.heap[gb168]? = some (.cells #[.string (⟨#[]⟩ : ByteArray), .slice none 0 0, .int .i64 0, .int .i64 0] 31 (0, 0))) := ⟨h4_⟩
              have n5_ : Aside0 (w20.heap[gb186]? = some (.cells #[.string (⟨#[]⟩ : ByteArray), .slice none 0 0, .int .i64 0, .int .i64 0] 31 (0, 0))) := ⟨h5_⟩
              have n6_ : Aside0 (w.heap.size ≤ gb186) := ⟨h6_⟩
              have n7_ : Aside0 (w.heap.size ≤ gb186) := ⟨h7_⟩
              have n8_ : Aside0 (gb167 ≠ gb186) := ⟨h8_⟩
              have n9_ : Aside0 (gb186 ≠ gb167) := ⟨h9_⟩
              have n10_ : Aside0 (gb168 ≠ gb186) := ⟨h10_⟩
              have n11_ : Aside0 (gb186 ≠ gb168) := ⟨h11_⟩
              have n12_ : Aside0 (Below w.heap.size w w20) := ⟨h12_⟩
              clear BK167
              clear BK168
              clear HB
              clear h0_ h1_ h2_ h3_ h4_ h5_ h6_ h7_ h8_ h9_ h10_ h11_ h12_
              have HO171 := n0_
              have HO175 := n1_
              have HO179 := n2_
              have BK167 := n3_
              have BK168 := n4_
              have BK186 := n5_
              have GW186 := n6_
              have GE186 := n7_
              have NB167_186 := n8_
              have NB186_167 := n9_
              have NB168_186 := n10_
              have NB186_168 := n11_
              have HB := n12_
              clear n0_ n1_ n2_ n3_ n4_ n5_ n6_ n7_ n8_ n9_ n10_ n11_ n12_
              have hHeld : w20.cell? ⟨gb167, 0, none⟩ = some (.int .i64 a0_0) ∧ w20.cell? ⟨gb167, 1, none⟩ = some (.int .i64 a0_1) ∧ w20.cell? ⟨gb167, 2, none⟩ = some (.int .i64 a0_2) ∧ w20.cell? ⟨gb167, 3, none⟩ = some (.int .i64 a0_3) ∧ w20.cell? ⟨gb167, 4, none⟩ = some (.int .i64 a0_4) ∧ w20.cell? ⟨gb167, 5, none⟩ = some (.bool a0_5) ∧ w20.cell? ⟨gb167, 6, none⟩ = some (.int .i64 a0_6) ∧ w20.cell? ⟨gb167, 7, none⟩ = some (.int .i64 a0_7) := hS_
              obtain ⟨Ao21, co21, eo21⟩ := Kd.R_slice HO179.out
              (first | subst eo21 | (injection eo21 with f1_ f2_ f3_; have f4_ := f1_.symm; have f5_ := f3_.symm; clear f1_ f2_ f3_; subst f4_; subst f5_))
              refine norm_ (a' := ?_) ?_ ?_
              rotate_left
              ·simp only [putAll, Act.put, List.setIfInBounds_toArray, List.set_cons_zero, List.set_cons_succ]
               rfl
              refine one_ (i := 11) (N := some 15) (bA 23 2543615) rfl rfl (one_of HT_.out (by kernel_rfl)) (by decide) (fun K hK => ?_)
              refine goes_ Try.func19 (by kernel_rfl) rfl #[.slice Ao21 t177.length co21, .int .i64 a0_2] (by rfl) rfl rfl argN ?_
              with_reducible refine (marigraphkeep_pick.calls k _ _ t177 a0_2 t180 _ ?side1 ?side2 A7.out).mono ?_
              (case side1 => repeat (first | exact (Kd.R_reads' HO179.out).2.2 | (with_reducible refine Kd.C_alloc ?_ _) | (with_reducible refine Kd.C_drewN ?_ _) | (with_reducible refine Kd.C_drew ?_)))
              (case side2 => exact (Kd.R_reads' HO179.out).2.1)
              rintro e w' ⟨rfl, ⟨nd, rfl⟩⟩
              refine ⟨_, rfl, ?_⟩
              refine hK.out _ _ ⟨(blk_cell BK167.out 0).trans rfl, (blk_cell BK167.out 1).trans rfl, (blk_cell BK167.out 2).trans rfl, (blk_cell BK167.out 3).trans rfl, (blk_cell BK167.out 4).trans rfl, (blk_cell BK167.out 5).trans rfl, (blk_cell BK167.out 6).trans rfl, (blk_cell BK167.out 7).trans rfl⟩ (fun hHeld => ?_)
              clear hK K
              refine norm_ (a' := ?_) ?_ ?_
              rotate_left
              ·show Act.put _ (some 15) _ = _
               simp only [Act.put, List.setIfInBounds_toArray, List.set_cons_zero, List.set_cons_succ, i64_w, i32_w]
               rfl
              refine pA 12 (some 16) (bA 23 2547711) HT_.out ?_
              exact norm_ (by first | (simp only [putAll, Act.put, List.setIfInBounds_toArray, List.set_cons_zero, List.set_cons_succ]; done) | (simp only [putAll, Act.put, List.setIfInBounds_toArray, List.set_cons_zero, List.set_cons_succ]; rfl)) (hJ0_3_4_7_8_11_21 (v170, v174, .slice Ao21 t177.length co21, gb186) _ ⟨hHeld, (rowN HO171.out), (rowN HO175.out), (rowN HO179.out), (blkN BK167.out), (blkN BK168.out), (blkN BK186.out), GW186.out, GE186.out, NB167_186.out, NB186_167.out, NB168_186.out, NB186_168.out, (belS HB.out)⟩)
            ·skip
             rintro ⟨v170, v174, v178⟩ w20 ⟨hS_, h0_, h1_, h2_, h3_, h4_, h5_⟩
             have n0_ : Aside0 (Kd.R Kd.string 9 w20 w.heap.size (fun k_ => some k_ ≠ (v174 : Value).ownBlock ∧ some k_ ≠ (v178 : Value).ownBlock) v170 t169) := ⟨h0_⟩
             have n1_ : Aside0 (Kd.R Kd.string 9 w20 w.heap.size (fun k_ => some k_ ≠ (v170 : Value).ownBlock ∧ some k_ ≠ (v178 : Value).ownBlock) v174 t173) := ⟨h1_⟩
             have n2_ : Aside0 (Kd.R Kd.string 9 w20 w.heap.size (fun k_ => some k_ ≠ (v170 : Value).ownBlock ∧ some k_ ≠ (v174 : Value).ownBlock) v178 t177) := ⟨h2_⟩
             have n3_ : Aside0 (w20.heap[gb167]? = some (.cells #[.int .i64 a0_0, .int .i64 a0_1, .int .i64 a0_2, .int .i64 a0_3, .int .i64 a0_4, .bool a0_5, .int .i64 a0_6, .int .i64 a0_7] 34 (0, 0))) := ⟨h3_⟩
             have n4_ : Aside0 (w20.heap[gb168]? = some (.cells #[.string (⟨#[]⟩ : ByteArray), .slice none 0 0, .int .i64 0, .int .i64 0] 31 (0, 0))) := ⟨h4_⟩
             have n5_ : Aside0 (Below w.heap.size w w20) := ⟨h5_⟩
             clear BK167
             clear BK168
             clear HB
             clear h0_ h1_ h2_ h3_ h4_ h5_
             have HO171 := n0_
             have HO175 := n1_
             have HO179 := n2_
             have BK167 := n3_
             have BK168 := n4_
             have HB := n5_
             clear n0_ n1_ n2_ n3_ n4_ n5_
             have hHeld : w20.cell? ⟨gb167, 0, none⟩ = some (.int .i64 a0_0) ∧ w20.cell? ⟨gb167, 1, none⟩ = some (.int .i64 a0_1) ∧ w20.cell? ⟨gb167, 2, none⟩ = some (.int .i64 a0_2) ∧ w20.cell? ⟨gb167, 3, none⟩ = some (.int .i64 a0_3) ∧ w20.cell? ⟨gb167, 4, none⟩ = some (.int .i64 a0_4) ∧ w20.cell? ⟨gb167, 5, none⟩ = some (.bool a0_5) ∧ w20.cell? ⟨gb167, 6, none⟩ = some (.int .i64 a0_6) ∧ w20.cell? ⟨gb167, 7, none⟩ = some (.int .i64 a0_7) := hS_
             refine norm_ (a' := ?_) ?_ ?_
             rotate_left
             ·simp only [putAll, Act.put, List.setIfInBounds_toArray, List.set_cons_zero, List.set_cons_succ]
              rfl
             refine three_ (i := 13) (j := 16) (k := 21) (Ni := some 17) (Nj := some 20) (Nk := some 3) (bA 23 458751) (bA 23 516095) (bA 23 2547711) rfl rfl rfl rfl rfl rfl (three_of HT_.out (by kernel_rfl)) (by decide) (by decide) (by decide) (fun K hK => ?_) (fun K hK => ?_) (fun K hK => ?_)
             ·skip
              refine Kd.R_lit_step k25 _ 25 ?hg (N := 17) ?hd (xs := ([(⟨t176, t180⟩ : S25)] : List (S25))) (inner := [.string t176, .string t180]) (ok := fun _ => True) (okp := fun _ => True) ?hr ?hp (fun _ hk => hk) trivial (Below.refl _ _) (Nat.le_refl _) (by simp) ?_; (case hd => rfl); (case hg => rfl); (case hr => first | (go_simp; done) | (go_simp; rfl)); (case hp => exact (Reps.c2 (show Kd.M k25 _ _ _ (⟨t176, t180⟩ : S25) [.string t176, .string t180] from (k25_mkM _ _ _ (⟨t176, t180⟩ : S25) )) (Reps.none _ _)))
              intro v182 w21 ho22 hb hg_ hnew_
              clear hg_ hnew_
              (first | rw [← Ny181.out] at ho22 | (simp only [Int.reduceToNat] at ho22; rw [← Ny181.out] at ho22))
              have n0_ := Aside0.mk (Kd.R_below (rowN HO171.out) hb)
              have n1_ := Aside0.mk (Kd.R_below (rowN HO175.out) hb)
              have n2_ := Aside0.mk (Kd.R_below (rowN HO179.out) hb)
              have n3_ := Aside0.mk (Kd.R_lower ho22 (below_size (belS HB.out)))
              have n4_ := Aside0.mk (bkB BK167.out hb)
              have n5_ := Aside0.mk (bkB BK168.out hb)
              have n6_ := Aside0.mk (below_step (belS HB.out) hb)
              clear HO171
              clear HO175
              clear HO179
              clear BK167
              clear BK168
              clear HB
              have HO171 := n0_
              have HO175 := n1_
              have HO179 := n2_
              have HO183 := n3_
              have BK167 := n4_
              have BK168 := n5_
              have HB := n6_
              clear n0_ n1_ n2_ n3_ n4_ n5_ n6_
              clear hb ho22
              refine hK.out _ _ ⟨(blk_cell BK167.out 0).trans rfl, (blk_cell BK167.out 1).trans rfl, (blk_cell BK167.out 2).trans rfl, (blk_cell BK167.out 3).trans rfl, (blk_cell BK167.out 4).trans rfl, (blk_cell BK167.out 5).trans rfl, (blk_cell BK167.out 6).trans rfl, (blk_cell BK167.out 7).trans rfl⟩ (fun hHeld => ?_)
              clear hK K
              refine norm_ (a' := ?_) ?_ ?_
              rotate_left
              ·show Act.put _ (some 17) _ = _
               simp only [Act.put, List.setIfInBounds_toArray, List.set_cons_zero, List.set_cons_succ, i64_w, i32_w]
               rfl
              exact norm_ (by first | (simp only [putAll, Act.put, List.setIfInBounds_toArray, List.set_cons_zero, List.set_cons_succ]; done) | (simp only [putAll, Act.put, List.setIfInBounds_toArray, List.set_cons_zero, List.set_cons_succ]; rfl)) (hJ0_3_4_7_8_11_13 (v170, v174, v178, v182) _ ⟨hHeld, (rowN HO171.out), (rowN HO175.out), (rowN HO179.out), (rowN HO183.out), (blkN BK167.out), (blkN BK168.out), (belS HB.out)⟩)
             ·skip
              refine goes_ Try.func23 (by kernel_rfl) rfl #[.int .i64 a0_6, .int .i64 0, .int .i64 9000] (by rfl) rfl rfl argN ?_
              with_reducible refine (marigraphbook_Within.calls k a0_6 0 9000 t184 _ A8.out).mono ?_
              rintro e w' ⟨rfl, ⟨nd, rfl⟩⟩
              refine ⟨_, rfl, ?_⟩
              refine hK.out _ _ ⟨(blk_cell BK167.out 0).trans rfl, (blk_cell BK167.out 1).trans rfl, (blk_cell BK167.out 2).trans rfl, (blk_cell BK167.out 3).trans rfl, (blk_cell BK167.out 4).trans rfl, (blk_cell BK167.out 5).trans rfl, (blk_cell BK167.out 6).trans rfl, (blk_cell BK167.out 7).trans rfl⟩ (fun hHeld => ?_)
              clear hK K
              refine norm_ (a' := ?_) ?_ ?_
              rotate_left
              ·show Act.put _ (some 20) _ = _
               simp only [Act.put, List.setIfInBounds_toArray, List.set_cons_zero, List.set_cons_succ, i64_w, i32_w]
               rfl
              exact norm_ (by first | (simp only [putAll, Act.put, List.setIfInBounds_toArray, List.set_cons_zero, List.set_cons_succ]; done) | (simp only [putAll, Act.put, List.setIfInBounds_toArray, List.set_cons_zero, List.set_cons_succ]; rfl)) (hJ0_3_4_7_8_11_16 (v170, v174, v178) _ ⟨hHeld, (rowN HO171.out), (rowN HO175.out), (rowN HO179.out), (blkN BK167.out), (blkN BK168.out), (belS HB.out)⟩)
             ·skip
              refine box_step ?hg (N := 3) ?hd (cs := #[.string (⟨#[]⟩ : ByteArray), .slice none 0 0, .int .i64 0, .int .i64 0]) (t := 31) ?hr ?_; (case hd => rfl); (case hg => rfl); (case hr => first | (go_simp; done) | (go_simp; rfl))
              intro gb186 hg w21 hbox hb
              have n0_ := Aside0.mk (Kd.R_below (rowN HO171.out) hb)
              have n1_ := Aside0.mk (Kd.R_below (rowN HO175.out) hb)
              have n2_ := Aside0.mk (Kd.R_below (rowN HO179.out) hb)
              have n3_ := Aside0.mk (bkB BK167.out hb)
              have n4_ := Aside0.mk (bkB BK168.out hb)
              have n5_ := Aside0.mk (below_step (belS HB.out) hb)
              have n6_ := Aside0.mk (hbox)
              have n7_ := Aside0.mk (szB hg HB.out)
              have n8_ := Aside0.mk (szB hg HB.out)
              have n9_ := Aside0.mk ((bk1 hg BK167.out))
              have n10_ := Aside0.mk ((bk2 hg BK167.out))
              have n11_ := Aside0.mk ((bk1 hg BK168.out))
              have n12_ := Aside0.mk ((bk2 hg BK168.out))
              clear HO171
              clear HO175
              clear HO179
              clear BK167
              clear BK168
              clear HB
              have HO171 := n0_
              have HO175 := n1_
              have HO179 := n2_
              have BK167 := n3_
              have BK168 := n4_
              have HB := n5_
              have BK186 := n6_
              have GW186 := n7_
              have GE186 := n8_
              have NB167_186 := n9_
              have NB186_167 := n10_
              have NB168_186 := n11_
              have NB186_168 := n12_
              clear n0_ n1_ n2_ n3_ n4_ n5_ n6_ n7_ n8_ n9_ n10_ n11_ n12_
              clear hb hbox hg
              refine hK.out _ _ ⟨(blk_cell BK167.out 0).trans rfl, (blk_cell BK167.out 1).trans rfl, (blk_cell BK167.out 2).trans rfl, (blk_cell BK167.out 3).trans rfl, (blk_cell BK167.out 4).trans rfl, (blk_cell BK167.out 5).trans rfl, (blk_cell BK167.out 6).trans rfl, (blk_cell BK167.out 7).trans rfl⟩ (fun hHeld => ?_)
              clear hK K
              refine norm_ (a' := ?_) ?_ ?_
              rotate_left
              ·show Act.put _ (some 3) _ = _
               simp only [Act.put, List.setIfInBounds_toArray, List.set_cons_zero, List.set_cons_succ, i64_w, i32_w]
               rfl
              exact norm_ (by first | (simp only [putAll, Act.put, List.setIfInBounds_toArray, List.set_cons_zero, List.set_cons_succ]; done) | (simp only [putAll, Act.put, List.setIfInBounds_toArray, List.set_cons_zero, List.set_cons_succ]; rfl)) (hJ0_3_4_7_8_11_21 (v170, v174, v178, gb186) _ ⟨hHeld, (rowN HO171.out), (rowN HO175.out), (rowN HO179.out), (blkN BK167.out), (blkN BK168.out), (blkN BK186.out), GW186.out, GE186.out, NB167_186.out, NB186_167.out, NB168_186.out, NB186_168.out, (belS HB.out)⟩)
           ·skip
            rintro ⟨v170, v174, v178, gb186⟩ w21 ⟨hS_, h0_, h1_, h2_, h3_, h4_, h5_, h6_, h7_, h8_, h9_, h10_, h11_, h12_⟩
            have n0_ : Aside0 (Kd.R Kd.string 9 w21 w.heap.size (fun k_ => some k_ ≠ (v174 : Value).ownBlock ∧ some k_ ≠ (v178 : Value).ownBlock) v170 t169) := ⟨h0_⟩
            have n1_ : Aside0 (Kd.R Kd.string 9 w21 w.heap.size (fun k_ => some k_ ≠ (v170 : Value).ownBlock ∧ some k_ ≠ (v178 : Value).ownBlock) v174 t173) := ⟨h1_⟩
            have n2_ : Aside0 (Kd.R Kd.string 9 w21 w.heap.size (fun k_ => some k_ ≠ (v170 : Value).ownBlock ∧ some k_ ≠ (v174 : Value).ownBlock) v178 t177) := ⟨h2_⟩
            have n3_ : Aside0 (w21.heap[gb167]? = some (.cells #[.int .i64 a0_0, .int .i64 a0_1, .int .i64 a0_2, .int .i64 a0_3, .int .i64 a0_4, .bool a0_5, .int .i64 a0_6, .int .i64 a0_7] 34 (0, 0))) := ⟨h3_⟩
            have n4_ : Aside0 (w21.heap[gb168]? = some (.cells #[.string (⟨#[]⟩ : ByteArray), .slice none 0 0, .int .i64 0, .int .i64 0] 31 (0, 0))) := ⟨h4_⟩
            have n5_ : Aside0 (w21.heap[gb186]? = some (.cells #[.string (⟨#[]⟩ : ByteArray), .slice none 0 0, .int .i64 0, .int .i64 0] 31 (0, 0))) := ⟨h5_⟩
            have n6_ : Aside0 (w.heap.size ≤ gb186) := ⟨h6_⟩
            have n7_ : Aside0 (w.heap.size ≤ gb186) := ⟨h7_⟩
            have n8_ : Aside0 (gb167 ≠ gb186) := ⟨h8_⟩
            have n9_ : Aside0 (gb186 ≠ gb167) := ⟨h9_⟩
            have n10_ : Aside0 (gb168 ≠ gb186) := ⟨h10_⟩
            have n11_ : Aside0 (gb186 ≠ gb168) := ⟨h11_⟩
            have n12_ : Aside0 (Below w.heap.size w w21) := ⟨h12_⟩
            clear BK167
            clear BK168
            clear HB
            clear h0_ h1_ h2_ h3_ h4_ h5_ h6_ h7_ h8_ h9_ h10_ h11_ h12_
            have HO171 := n0_
            have HO175 := n1_
            have HO179 := n2_
            have BK167 := n3_
            have BK168 := n4_
            have BK186 := n5_
            have GW186 := n6_
            have GE186 := n7_
            have NB167_186 := n8_
            have NB186_167 := n9_
            have NB168_186 := n10_
            have NB186_168 := n11_
            have HB := n12_
            clear n0_ n1_ n2_ n3_ n4_ n5_ n6_ n7_ n8_ n9_ n10_ n11_ n12_
            have hHeld : w21.cell? ⟨gb167, 0, none⟩ = some (.int .i64 a0_0) ∧ w21.cell? ⟨gb167, 1, none⟩ = some (.int .i64 a0_1) ∧ w21.cell? ⟨gb167, 2, none⟩ = some (.int .i64 a0_2) ∧ w21.cell? ⟨gb167, 3, none⟩ = some (.int .i64 a0_3) ∧ w21.cell? ⟨gb167, 4, none⟩ = some (.int .i64 a0_4) ∧ w21.cell? ⟨gb167, 5, none⟩ = some (.bool a0_5) ∧ w21.cell? ⟨gb167, 6, none⟩ = some (.int .i64 a0_6) ∧ w21.cell? ⟨gb167, 7, none⟩ = some (.int .i64 a0_7) := hS_
            refine norm_ (a' := ?_) ?_ ?_
            rotate_left
            ·simp only [putAll, Act.put, List.setIfInBounds_toArray, List.set_cons_zero, List.set_cons_succ]
             rfl
            refine two_ (i := 13) (j := 16) (Ni := some 17) (Nj := some 20) (bA 23 2555903) (bA 23 2613247) rfl rfl rfl rfl (two_of HT_.out (by kernel_rfl)) (by decide) (by decide) (fun K hK => ?_) (fun K hK => ?_)
            ·skip
             refine Kd.R_lit_step k25 _ 25 ?hg (N := 17) ?hd (xs := ([(⟨t176, t180⟩ : S25)] : List (S25))) (inner := [.string t176, .string t180]) (ok := fun _ => True) (okp := fun _ => True) ?hr ?hp (fun _ hk => hk) trivial (Below.refl _ _) (Nat.le_refl _) (by simp) ?_; (case hd => rfl); (case hg => rfl); (case hr => first | (go_simp; done) | (go_simp; rfl)); (case hp => exact (Reps.c2 (show Kd.M k25 _ _ _ (⟨t176, t180⟩ : S25) [.string t176, .string t180] from (k25_mkM _ _ _ (⟨t176, t180⟩ : S25) )) (Reps.none _ _)))
             intro v182 w22 ho23 hb hg_ hnew_
             clear hg_ hnew_
             (first | rw [← Ny181.out] at ho23 | (simp only [Int.reduceToNat] at ho23; rw [← Ny181.out] at ho23))
             have n0_ := Aside0.mk (Kd.R_below (rowN HO171.out) hb)
             have n1_ := Aside0.mk (Kd.R_below (rowN HO175.out) hb)
             have n2_ := Aside0.mk (Kd.R_below (rowN HO179.out) hb)
             have n3_ := Aside0.mk (Kd.R_lower ho23 (below_size (belS HB.out)))
             have n4_ := Aside0.mk (bkB BK167.out hb)
             have n5_ := Aside0.mk (bkB BK168.out hb)
             have n6_ := Aside0.mk (bkB BK186.out hb)
             have n7_ := Aside0.mk (below_step (belS HB.out) hb)
             clear HO171
             clear HO175
             clear HO179
             clear BK167
             clear BK168
             clear BK186
             clear HB
             have HO171 := n0_
             have HO175 := n1_
             have HO179 := n2_
             have HO183 := n3_
             have BK167 := n4_
             have BK168 := n5_
             have BK186 := n6_
             have HB := n7_
             clear n0_ n1_ n2_ n3_ n4_ n5_ n6_ n7_
             clear hb ho23
             refine hK.out _ _ ⟨(blk_cell BK167.out 0).trans rfl, (blk_cell BK167.out 1).trans rfl, (blk_cell BK167.out 2).trans rfl, (blk_cell BK167.out 3).trans rfl, (blk_cell BK167.out 4).trans rfl, (blk_cell BK167.out 5).trans rfl, (blk_cell BK167.out 6).trans rfl, (blk_cell BK167.out 7).trans rfl⟩ (fun hHeld => ?_)
             clear hK K
             refine norm_ (a' := ?_) ?_ ?_
             rotate_left
             ·show Act.put _ (some 17) _ = _
              simp only [Act.put, List.setIfInBounds_toArray, List.set_cons_zero, List.set_cons_succ, i64_w, i32_w]
              rfl
             exact norm_ (by first | (simp only [putAll, Act.put, List.setIfInBounds_toArray, List.set_cons_zero, List.set_cons_succ]; done) | (simp only [putAll, Act.put, List.setIfInBounds_toArray, List.set_cons_zero, List.set_cons_succ]; rfl)) (hJ0_3_4_7_8_11_13_21 (v170, v174, v178, v182, gb186) _ ⟨hHeld, (rowN HO171.out), (rowN HO175.out), (rowN HO179.out), (rowN HO183.out), (blkN BK167.out), (blkN BK168.out), (blkN BK186.out), GW186.out, GE186.out, NB167_186.out, NB186_167.out, NB168_186.out, NB186_168.out, (belS HB.out)⟩)
            ·skip
             refine goes_ Try.func23 (by kernel_rfl) rfl #[.int .i64 a0_6, .int .i64 0, .int .i64 9000] (by rfl) rfl rfl argN ?_
             with_reducible refine (marigraphbook_Within.calls k a0_6 0 9000 t184 _ A8.out).mono ?_
             rintro e w' ⟨rfl, ⟨nd, rfl⟩⟩
             refine ⟨_, rfl, ?_⟩
             refine hK.out _ _ ⟨(blk_cell BK167.out 0).trans rfl, (blk_cell BK167.out 1).trans rfl, (blk_cell BK167.out 2).trans rfl, (blk_cell BK167.out 3).trans rfl, (blk_cell BK167.out 4).trans rfl, (blk_cell BK167.out 5).trans rfl, (blk_cell BK167.out 6).trans rfl, (blk_cell BK167.out 7).trans rfl⟩ (fun hHeld => ?_)
             clear hK K
             refine norm_ (a' := ?_) ?_ ?_
             rotate_left
             ·show Act.put _ (some 20) _ = _
              simp only [Act.put, List.setIfInBounds_toArray, List.set_cons_zero, List.set_cons_succ, i64_w, i32_w]
              rfl
             exact norm_ (by first | (simp only [putAll, Act.put, List.setIfInBounds_toArray, List.set_cons_zero, List.set_cons_succ]; done) | (simp only [putAll, Act.put, List.setIfInBounds_toArray, List.set_cons_zero, List.set_cons_succ]; rfl)) (hJ0_3_4_7_8_11_16_21 (v170, v174, v178, gb186) _ ⟨hHeld, (rowN HO171.out), (rowN HO175.out), (rowN HO179.out), (blkN BK167.out), (blkN BK168.out), (blkN BK186.out), GW186.out, GE186.out, NB167_186.out, NB186_167.out, NB168_186.out, NB186_168.out, (belS HB.out)⟩)
          ·skip
           rintro ⟨v170, v174, v178⟩ w20 ⟨hS_, h0_, h1_, h2_, h3_, h4_, h5_⟩
           have n0_ : Aside0 (Kd.R Kd.string 9 w20 w.heap.size (fun k_ => some k_ ≠ (v174 : Value).ownBlock ∧ some k_ ≠ (v178 : Value).ownBlock) v170 t169) := ⟨h0_⟩
           have n1_ : Aside0 (Kd.R Kd.string 9 w20 w.heap.size (fun k_ => some k_ ≠ (v170 : Value).ownBlock ∧ some k_ ≠ (v178 : Value).ownBlock) v174 t173) := ⟨h1_⟩
           have n2_ : Aside0 (Kd.R Kd.string 9 w20 w.heap.size (fun k_ => some k_ ≠ (v170 : Value).ownBlock ∧ some k_ ≠ (v174 : Value).ownBlock) v178 t177) := ⟨h2_⟩
           have n3_ : Aside0 (w20.heap[gb167]? = some (.cells #[.int .i64 a0_0, .int .i64 a0_1, .int .i64 a0_2, .int .i64 a0_3, .int .i64 a0_4, .bool a0_5, .int .i64 a0_6, .int .i64 a0_7] 34 (0, 0))) := ⟨h3_⟩
           have n4_ : Aside0 (w20.heap[gb168]? = some (.cells #[.string (⟨#[]⟩ : ByteArray), .slice none 0 0, .int .i64 0, .int .i64 0] 31 (0, 0))) := ⟨h4_⟩
           have n5_ : Aside0 (Below w.heap.size w w20) := ⟨h5_⟩
           clear BK167
           clear BK168
           clear HB
           clear h0_ h1_ h2_ h3_ h4_ h5_
           have HO171 := n0_
           have HO175 := n1_
           have HO179 := n2_
           have BK167 := n3_
           have BK168 := n4_
           have HB := n5_
           clear n0_ n1_ n2_ n3_ n4_ n5_
           have hHeld : w20.cell? ⟨gb167, 0, none⟩ = some (.int .i64 a0_0) ∧ w20.cell? ⟨gb167, 1, none⟩ = some (.int .i64 a0_1) ∧ w20.cell? ⟨gb167, 2, none⟩ = some (.int .i64 a0_2) ∧ w20.cell? ⟨gb167, 3, none⟩ = some (.int .i64 a0_3) ∧ w20.cell? ⟨gb167, 4, none⟩ = some (.int .i64 a0_4) ∧ w20.cell? ⟨gb167, 5, none⟩ = some (.bool a0_5) ∧ w20.cell? ⟨gb167, 6, none⟩ = some (.int .i64 a0_6) ∧ w20.cell? ⟨gb167, 7, none⟩ = some (.int .i64 a0_7) := hS_
           refine norm_ (a' := ?_) ?_ ?_
           rotate_left
           ·simp only [putAll, Act.put, List.setIfInBounds_toArray, List.set_cons_zero, List.set_cons_succ]
            rfl
           refine three_ (i := 13) (j := 19) (k := 21) (Ni := some 17) (Nj := some 23) (Nk := some 3) (bA 23 524287) (bA 23 1040383) (bA 23 2613247) rfl rfl rfl rfl rfl rfl (three_of HT_.out (by kernel_rfl)) (by decide) (by decide) (by decide) (fun K hK => ?_) (fun K hK => ?_) (fun K hK => ?_)
           ·skip
            refine Kd.R_lit_step k25 _ 25 ?hg (N := 17) ?hd (xs := ([(⟨t176, t180⟩ : S25)] : List (S25))) (inner := [.string t176, .string t180]) (ok := fun _ => True) (okp := fun _ => True) ?hr ?hp (fun _ hk => hk) trivial (Below.refl _ _) (Nat.le_refl _) (by simp) ?_; (case hd => rfl); (case hg => rfl); (case hr => first | (go_simp; done) | (go_simp; rfl)); (case hp => exact (Reps.c2 (show Kd.M k25 _ _ _ (⟨t176, t180⟩ : S25) [.string t176, .string t180] from (k25_mkM _ _ _ (⟨t176, t180⟩ : S25) )) (Reps.none _ _)))
            intro v182 w21 ho22 hb hg_ hnew_
            clear hg_ hnew_
            (first | rw [← Ny181.out] at ho22 | (simp only [Int.reduceToNat] at ho22; rw [← Ny181.out] at ho22))
            have n0_ := Aside0.mk (Kd.R_below (rowN HO171.out) hb)
            have n1_ := Aside0.mk (Kd.R_below (rowN HO175.out) hb)
            have n2_ := Aside0.mk (Kd.R_below (rowN HO179.out) hb)
            have n3_ := Aside0.mk (Kd.R_lower ho22 (below_size (belS HB.out)))
            have n4_ := Aside0.mk (bkB BK167.out hb)
            have n5_ := Aside0.mk (bkB BK168.out hb)
            have n6_ := Aside0.mk (below_step (belS HB.out) hb)
            clear HO171
            clear HO175
            clear HO179
            clear BK167
            clear BK168
            clear HB
            have HO171 := n0_
            have HO175 := n1_
            have HO179 := n2_
            have HO183 := n3_
            have BK167 := n4_
            have BK168 := n5_
            have HB := n6_
            clear n0_ n1_ n2_ n3_ n4_ n5_ n6_
            clear hb ho22
            refine hK.out _ _ ⟨(blk_cell BK167.out 0).trans rfl, (blk_cell BK167.out 1).trans rfl, (blk_cell BK167.out 2).trans rfl, (blk_cell BK167.out 3).trans rfl, (blk_cell BK167.out 4).trans rfl, (blk_cell BK167.out 5).trans rfl, (blk_cell BK167.out 6).trans rfl, (blk_cell BK167.out 7).trans rfl⟩ (fun hHeld => ?_)
            clear hK K
            refine norm_ (a' := ?_) ?_ ?_
            rotate_left
            ·show Act.put _ (some 17) _ = _
             simp only [Act.put, List.setIfInBounds_toArray, List.set_cons_zero, List.set_cons_succ, i64_w, i32_w]
             rfl
            exact norm_ (by first | (simp only [putAll, Act.put, List.setIfInBounds_toArray, List.set_cons_zero, List.set_cons_succ]; done) | (simp only [putAll, Act.put, List.setIfInBounds_toArray, List.set_cons_zero, List.set_cons_succ]; rfl)) (hJ0_3_4_7_8_11_13_16 (v170, v174, v178, v182) _ ⟨hHeld, (rowN HO171.out), (rowN HO175.out), (rowN HO179.out), (rowN HO183.out), (blkN BK167.out), (blkN BK168.out), (belS HB.out)⟩)
           ·skip
            refine goes_ Try.func23 (by kernel_rfl) rfl #[.int .i64 a0_7, .int .i64 (-2147483647), .int .i64 2147483647] (by rfl) rfl rfl argN ?_
            with_reducible refine (marigraphbook_Within.calls k a0_7 (-2147483647) 2147483647 t185 _ A9.out).mono ?_
            rintro e w' ⟨rfl, ⟨nd, rfl⟩⟩
            refine ⟨_, rfl, ?_⟩
            refine hK.out _ _ ⟨(blk_cell BK167.out 0).trans rfl, (blk_cell BK167.out 1).trans rfl, (blk_cell BK167.out 2).trans rfl, (blk_cell BK167.out 3).trans rfl, (blk_cell BK167.out 4).trans rfl, (blk_cell BK167.out 5).trans rfl, (blk_cell BK167.out 6).trans rfl, (blk_cell BK167.out 7).trans rfl⟩ (fun hHeld => ?_)
            clear hK K
            refine norm_ (a' := ?_) ?_ ?_
            rotate_left
            ·show Act.put _ (some 23) _ = _
             simp only [Act.put, List.setIfInBounds_toArray, List.set_cons_zero, List.set_cons_succ, i64_w, i32_w]
             rfl
            exact norm_ (by first | (simp only [putAll, Act.put, List.setIfInBounds_toArray, List.set_cons_zero, List.set_cons_succ]; done) | (simp only [putAll, Act.put, List.setIfInBounds_toArray, List.set_cons_zero, List.set_cons_succ]; rfl)) (hJ0_3_4_7_8_11_16_19 (v170, v174, v178) _ ⟨hHeld, (rowN HO171.out), (rowN HO175.out), (rowN HO179.out), (blkN BK167.out), (blkN BK168.out), (belS HB.out)⟩)
           ·skip
            refine box_step ?hg (N := 3) ?hd (cs := #[.string (⟨#[]⟩ : ByteArray), .slice none 0 0, .int .i64 0, .int .i64 0]) (t := 31) ?hr ?_; (case hd => rfl); (case hg => rfl); (case hr => first | (go_simp; done) | (go_simp; rfl))
            intro gb186 hg w21 hbox hb
            have n0_ := Aside0.mk (Kd.R_below (rowN HO171.out) hb)
            have n1_ := Aside0.mk (Kd.R_below (rowN HO175.out) hb)
            have n2_ := Aside0.mk (Kd.R_below (rowN HO179.out) hb)
            have n3_ := Aside0.mk (bkB BK167.out hb)
            have n4_ := Aside0.mk (bkB BK168.out hb)
            have n5_ := Aside0.mk (below_step (belS HB.out) hb)
            have n6_ := Aside0.mk (hbox)
            have n7_ := Aside0.mk (szB hg HB.out)
            have n8_ := Aside0.mk (szB hg HB.out)
            have n9_ := Aside0.mk ((bk1 hg BK167.out))
            have n10_ := Aside0.mk ((bk2 hg BK167.out))
            have n11_ := Aside0.mk ((bk1 hg BK168.out))
            have n12_ := Aside0.mk ((bk2 hg BK168.out))
            clear HO171
            clear HO175
            clear HO179
            clear BK167
            clear BK168
            clear HB
            have HO171 := n0_
            have HO175 := n1_
            have HO179 := n2_
            have BK167 := n3_
            have BK168 := n4_
            have HB := n5_
            have BK186 := n6_
            have GW186 := n7_
            have GE186 := n8_
            have NB167_186 := n9_
            have NB186_167 := n10_
            have NB168_186 := n11_
            have NB186_168 := n12_
            clear n0_ n1_ n2_ n3_ n4_ n5_ n6_ n7_ n8_ n9_ n10_ n11_ n12_
            clear hb hbox hg
            refine hK.out _ _ ⟨(blk_cell BK167.out 0).trans rfl, (blk_cell BK167.out 1).trans rfl, (blk_cell BK167.out 2).trans rfl, (blk_cell BK167.out 3).trans rfl, (blk_cell BK167.out 4).trans rfl, (blk_cell BK167.out 5).trans rfl, (blk_cell BK167.out 6).trans rfl, (blk_cell BK167.out 7).trans rfl⟩ (fun hHeld => ?_)
            clear hK K
            refine norm_ (a' := ?_) ?_ ?_
            rotate_left
            ·show Act.put _ (some 3) _ = _
             simp only [Act.put, List.setIfInBounds_toArray, List.set_cons_zero, List.set_cons_succ, i64_w, i32_w]
             rfl
            exact norm_ (by first | (simp only [putAll, Act.put, List.setIfInBounds_toArray, List.set_cons_zero, List.set_cons_succ]; done) | (simp only [putAll, Act.put, List.setIfInBounds_toArray, List.set_cons_zero, List.set_cons_succ]; rfl)) (hJ0_3_4_7_8_11_16_21 (v170, v174, v178, gb186) _ ⟨hHeld, (rowN HO171.out), (rowN HO175.out), (rowN HO179.out), (blkN BK167.out), (blkN BK168.out), (blkN BK186.out), GW186.out, GE186.out, NB167_186.out, NB186_167.out, NB168_186.out, NB186_168.out, (belS HB.out)⟩)
         ·skip
          rintro ⟨v170, v174, v178, v182⟩ w22 ⟨hS_, h0_, h1_, h2_, h3_, h4_, h5_, h6_⟩
          have n0_ : Aside0 (Kd.R Kd.string 9 w22 w.heap.size (fun k_ => some k_ ≠ (v174 : Value).ownBlock ∧ some k_ ≠ (v178 : Value).ownBlock) v170 t169) := ⟨h0_⟩
          have n1_ : Aside0 (Kd.R Kd.string 9 w22 w.heap.size (fun k_ => some k_ ≠ (v170 : Value).ownBlock ∧ some k_ ≠ (v178 : Value).ownBlock) v174 t173) := ⟨h1_⟩
          have n2_ : Aside0 (Kd.R Kd.string 9 w22 w.heap.size (fun k_ => some k_ ≠ (v170 : Value).ownBlock ∧ some k_ ≠ (v174 : Value).ownBlock) v178 t177) := ⟨h2_⟩
          have n3_ : Aside0 (Kd.R k25 25 w22 w.heap.size (fun _ => True) v182 y181) := ⟨h3_⟩
          have n4_ : Aside0 (w22.heap[gb167]? = some (.cells #[.int .i64 a0_0, .int .i64 a0_1, .int .i64 a0_2, .int .i64 a0_3, .int .i64 a0_4, .bool a0_5, .int .i64 a0_6, .int .i64 a0_7] 34 (0, 0))) := ⟨h4_⟩
          have n5_ : Aside0 (w22.heap[gb168]? = some (.cells #[.string (⟨#[]⟩ : ByteArray), .slice none 0 0, .int .i64 0, .int .i64 0] 31 (0, 0))) := ⟨h5_⟩
          have n6_ : Aside0 (Below w.heap.size w w22) := ⟨h6_⟩
          clear BK167
          clear BK168
          clear HB
          clear h0_ h1_ h2_ h3_ h4_ h5_ h6_
          have HO171 := n0_
          have HO175 := n1_
          have HO179 := n2_
          have HO183 := n3_
          have BK167 := n4_
          have BK168 := n5_
          have HB := n6_
          clear n0_ n1_ n2_ n3_ n4_ n5_ n6_
          have hHeld : w22.cell? ⟨gb167, 0, none⟩ = some (.int .i64 a0_0) ∧ w22.cell? ⟨gb167, 1, none⟩ = some (.int .i64 a0_1) ∧ w22.cell? ⟨gb167, 2, none⟩ = some (.int .i64 a0_2) ∧ w22.cell? ⟨gb167, 3, none⟩ = some (.int .i64 a0_3) ∧ w22.cell? ⟨gb167, 4, none⟩ = some (.int .i64 a0_4) ∧ w22.cell? ⟨gb167, 5, none⟩ = some (.bool a0_5) ∧ w22.cell? ⟨gb167, 6, none⟩ = some (.int .i64 a0_6) ∧ w22.cell? ⟨gb167, 7, none⟩ = some (.int .i64 a0_7) := hS_
          refine norm_ (a' := ?_) ?_ ?_
          rotate_left
          ·simp only [putAll, Act.put, List.setIfInBounds_toArray, List.set_cons_zero, List.set_cons_succ]
           rfl
          refine two_ (i := 16) (j := 21) (Ni := some 20) (Nj := some 3) (bA 23 524287) (bA 23 2555903) rfl rfl rfl rfl (two_of HT_.out (by kernel_rfl)) (by decide) (by decide) (fun K hK => ?_) (fun K hK => ?_)
          ·skip
           refine goes_ Try.func23 (by kernel_rfl) rfl #[.int .i64 a0_6, .int .i64 0, .int .i64 9000] (by rfl) rfl rfl argN ?_
           with_reducible refine (marigraphbook_Within.calls k a0_6 0 9000 t184 _ A8.out).mono ?_
           rintro e w' ⟨rfl, ⟨nd, rfl⟩⟩
           refine ⟨_, rfl, ?_⟩
           refine hK.out _ _ ⟨(blk_cell BK167.out 0).trans rfl, (blk_cell BK167.out 1).trans rfl, (blk_cell BK167.out 2).trans rfl, (blk_cell BK167.out 3).trans rfl, (blk_cell BK167.out 4).trans rfl, (blk_cell BK167.out 5).trans rfl, (blk_cell BK167.out 6).trans rfl, (blk_cell BK167.out 7).trans rfl⟩ (fun hHeld => ?_)
           clear hK K
           refine norm_ (a' := ?_) ?_ ?_
           rotate_left
           ·show Act.put _ (some 20) _ = _
            simp only [Act.put, List.setIfInBounds_toArray, List.set_cons_zero, List.set_cons_succ, i64_w, i32_w]
            rfl
           exact norm_ (by first | (simp only [putAll, Act.put, List.setIfInBounds_toArray, List.set_cons_zero, List.set_cons_succ]; done) | (simp only [putAll, Act.put, List.setIfInBounds_toArray, List.set_cons_zero, List.set_cons_succ]; rfl)) (hJ0_3_4_7_8_11_13_16 (v170, v174, v178, v182) _ ⟨hHeld, (rowN HO171.out), (rowN HO175.out), (rowN HO179.out), (rowN HO183.out), (blkN BK167.out), (blkN BK168.out), (belS HB.out)⟩)
          ·skip
           refine box_step ?hg (N := 3) ?hd (cs := #[.string (⟨#[]⟩ : ByteArray), .slice none 0 0, .int .i64 0, .int .i64 0]) (t := 31) ?hr ?_; (case hd => rfl); (case hg => rfl); (case hr => first | (go_simp; done) | (go_simp; rfl))
           intro gb186 hg w23 hbox hb
           have n0_ := Aside0.mk (Kd.R_below (rowN HO171.out) hb)
           have n1_ := Aside0.mk (Kd.R_below (rowN HO175.out) hb)
           have n2_ := Aside0.mk (Kd.R_below (rowN HO179.out) hb)
           have n3_ := Aside0.mk (Kd.R_below (rowN HO183.out) hb)
           have n4_ := Aside0.mk (bkB BK167.out hb)
           have n5_ := Aside0.mk (bkB BK168.out hb)
           have n6_ := Aside0.mk (below_step (belS HB.out) hb)
           have n7_ := Aside0.mk (hbox)
           have n8_ := Aside0.mk (szB hg HB.out)
           have n9_ := Aside0.mk (szB hg HB.out)
           have n10_ := Aside0.mk ((bk1 hg BK167.out))
           have n11_ := Aside0.mk ((bk2 hg BK167.out))
           have n12_ := Aside0.mk ((bk1 hg BK168.out))
           have n13_ := Aside0.mk ((bk2 hg BK168.out))
           clear HO171
           clear HO175
           clear HO179
           clear HO183
           clear BK167
           clear BK168
           clear HB
           have HO171 := n0_
           have HO175 := n1_
           have HO179 := n2_
           have HO183 := n3_
           have BK167 := n4_
           have BK168 := n5_
           have HB := n6_
           have BK186 := n7_
           have GW186 := n8_
           have GE186 := n9_
           have NB167_186 := n10_
           have NB186_167 := n11_
           have NB168_186 := n12_
           have NB186_168 := n13_
           clear n0_ n1_ n2_ n3_ n4_ n5_ n6_ n7_ n8_ n9_ n10_ n11_ n12_ n13_
           clear hb hbox hg
           refine hK.out _ _ ⟨(blk_cell BK167.out 0).trans rfl, (blk_cell BK167.out 1).trans rfl, (blk_cell BK167.out 2).trans rfl, (blk_cell BK167.out 3).trans rfl, (blk_cell BK167.out 4).trans rfl, (blk_cell BK167.out 5).trans rfl, (blk_cell BK167.out 6).trans rfl, (blk_cell BK167.out 7).trans rfl⟩ (fun hHeld => ?_)
           clear hK K
           refine norm_ (a' := ?_) ?_ ?_
           rotate_left
           ·show Act.put _ (some 3) _ = _
            simp only [Act.put, List.setIfInBounds_toArray, List.set_cons_zero, List.set_cons_succ, i64_w, i32_w]
            rfl
           exact norm_ (by first | (simp only [putAll, Act.put, List.setIfInBounds_toArray, List.set_cons_zero, List.set_cons_succ]; done) | (simp only [putAll, Act.put, List.setIfInBounds_toArray, List.set_cons_zero, List.set_cons_succ]; rfl)) (hJ0_3_4_7_8_11_13_21 (v170, v174, v178, v182, gb186) _ ⟨hHeld, (rowN HO171.out), (rowN HO175.out), (rowN HO179.out), (rowN HO183.out), (blkN BK167.out), (blkN BK168.out), (blkN BK186.out), GW186.out, GE186.out, NB167_186.out, NB186_167.out, NB168_186.out, NB186_168.out, (belS HB.out)⟩)
        ·skip
         rintro ⟨v170, v174, v178, gb186⟩ w21 ⟨hS_, h0_, h1_, h2_, h3_, h4_, h5_, h6_, h7_, h8_, h9_, h10_, h11_, h12_⟩
         have n0_ : Aside0 (Kd.R Kd.string 9 w21 w.heap.size (fun k_ => some k_ ≠ (v174 : Value).ownBlock ∧ some k_ ≠ (v178 : Value).ownBlock) v170 t169) := ⟨h0_⟩
         have n1_ : Aside0 (Kd.R Kd.string 9 w21 w.heap.size (fun k_ => some k_ ≠ (v170 : Value).ownBlock ∧ some k_ ≠ (v178 : Value).ownBlock) v174 t173) := ⟨h1_⟩
         have n2_ : Aside0 (Kd.R Kd.string 9 w21 w.heap.size (fun k_ => some k_ ≠ (v170 : Value).ownBlock ∧ some k_ ≠ (v174 : Value).ownBlock) v178 t177) := ⟨h2_⟩
         have n3_ : Aside0 (w21.heap[gb167]? = some (.cells #[.int .i64 a0_0, .int .i64 a0_1, .int .i64 a0_2, .int .i64 a0_3, .int .i64 a0_4, .bool a0_5, .int .i64 a0_6, .int .i64 a0_7] 34 (0, 0))) := ⟨h3_⟩
         have n4_ : Aside0 (w21.heap[gb168]? = some (.cells #[.string (⟨#[]⟩ : ByteArray), .slice none 0 0, .int .i64 0, .int .i64 0] 31 (0, 0))) := ⟨h4_⟩
         have n5_ : Aside0 (w21.heap[gb186]? = some (.cells #[.string (⟨#[]⟩ : ByteArray), .slice none 0 0, .int .i64 0, .int .i64 0] 31 (0, 0))) := ⟨h5_⟩
         have n6_ : Aside0 (w.heap.size ≤ gb186) := ⟨h6_⟩
         have n7_ : Aside0 (w.heap.size ≤ gb186) := ⟨h7_⟩
         have n8_ : Aside0 (gb167 ≠ gb186) := ⟨h8_⟩
         have n9_ : Aside0 (gb186 ≠ gb167) := ⟨h9_⟩
         have n10_ : Aside0 (gb168 ≠ gb186) := ⟨h10_⟩
         have n11_ : Aside0 (gb186 ≠ gb168) := ⟨h11_⟩
         have n12_ : Aside0 (Below w.heap.size w w21) := ⟨h12_⟩
         clear BK167
         clear BK168
         clear HB
         clear h0_ h1_ h2_ h3_ h4_ h5_ h6_ h7_ h8_ h9_ h10_ h11_ h12_
         have HO171 := n0_
         have HO175 := n1_
         have HO179 := n2_
         have BK167 := n3_
         have BK168 := n4_
         have BK186 := n5_
         have GW186 := n6_
         have GE186 := n7_
         have NB167_186 := n8_
         have NB186_167 := n9_
         have NB168_186 := n10_
         have NB186_168 := n11_
         have HB := n12_
         clear n0_ n1_ n2_ n3_ n4_ n5_ n6_ n7_ n8_ n9_ n10_ n11_ n12_
         have hHeld : w21.cell? ⟨gb167, 0, none⟩ = some (.int .i64 a0_0) ∧ w21.cell? ⟨gb167, 1, none⟩ = some (.int .i64 a0_1) ∧ w21.cell? ⟨gb167, 2, none⟩ = some (.int .i64 a0_2) ∧ w21.cell? ⟨gb167, 3, none⟩ = some (.int .i64 a0_3) ∧ w21.cell? ⟨gb167, 4, none⟩ = some (.int .i64 a0_4) ∧ w21.cell? ⟨gb167, 5, none⟩ = some (.bool a0_5) ∧ w21.cell? ⟨gb167, 6, none⟩ = some (.int .i64 a0_6) ∧ w21.cell? ⟨gb167, 7, none⟩ = some (.int .i64 a0_7) := hS_
         refine norm_ (a' := ?_) ?_ ?_
         rotate_left
         ·simp only [putAll, Act.put, List.setIfInBounds_toArray, List.set_cons_zero, List.set_cons_succ]
          rfl
         refine two_ (i := 13) (j := 19) (Ni := some 17) (Nj := some 23) (bA 23 2621439) (bA 23 3137535) rfl rfl rfl rfl (two_of HT_.out (by kernel_rfl)) (by decide) (by decide) (fun K hK => ?_) (fun K hK => ?_)
         ·skip
          refine Kd.R_lit_step k25 _ 25 ?hg (N := 17) ?hd (xs := ([(⟨t176, t180⟩ : S25)] : List (S25))) (inner := [.string t176, .string t180]) (ok := fun _ => True) (okp := fun _ => True) ?hr ?hp (fun _ hk => hk) trivial (Below.refl _ _) (Nat.le_refl _) (by simp) ?_; (case hd => rfl); (case hg => rfl); (case hr => first | (go_simp; done) | (go_simp; rfl)); (case hp => exact (Reps.c2 (show Kd.M k25 _ _ _ (⟨t176, t180⟩ : S25) [.string t176, .string t180] from (k25_mkM _ _ _ (⟨t176, t180⟩ : S25) )) (Reps.none _ _)))
          intro v182 w22 ho23 hb hg_ hnew_
          clear hg_ hnew_
          (first | rw [← Ny181.out] at ho23 | (simp only [Int.reduceToNat] at ho23; rw [← Ny181.out] at ho23))
          have n0_ := Aside0.mk (Kd.R_below (rowN HO171.out) hb)
          have n1_ := Aside0.mk (Kd.R_below (rowN HO175.out) hb)
          have n2_ := Aside0.mk (Kd.R_below (rowN HO179.out) hb)
          have n3_ := Aside0.mk (Kd.R_lower ho23 (below_size (belS HB.out)))
          have n4_ := Aside0.mk (bkB BK167.out hb)
          have n5_ := Aside0.mk (bkB BK168.out hb)
          have n6_ := Aside0.mk (bkB BK186.out hb)
          have n7_ := Aside0.mk (below_step (belS HB.out) hb)
          clear HO171
          clear HO175
          clear HO179
          clear BK167
          clear BK168
          clear BK186
          clear HB
          have HO171 := n0_
          have HO175 := n1_
          have HO179 := n2_
          have HO183 := n3_
          have BK167 := n4_
          have BK168 := n5_
          have BK186 := n6_
          have HB := n7_
          clear n0_ n1_ n2_ n3_ n4_ n5_ n6_ n7_
          clear hb ho23
          refine hK.out _ _ ⟨(blk_cell BK167.out 0).trans rfl, (blk_cell BK167.out 1).trans rfl, (blk_cell BK167.out 2).trans rfl, (blk_cell BK167.out 3).trans rfl, (blk_cell BK167.out 4).trans rfl, (blk_cell BK167.out 5).trans rfl, (blk_cell BK167.out 6).trans rfl, (blk_cell BK167.out 7).trans rfl⟩ (fun hHeld => ?_)
          clear hK K
          refine norm_ (a' := ?_) ?_ ?_
          rotate_left
          ·show Act.put _ (some 17) _ = _
           simp only [Act.put, List.setIfInBounds_toArray, List.set_cons_zero, List.set_cons_succ, i64_w, i32_w]
           rfl
          exact norm_ (by first | (simp only [putAll, Act.put, List.setIfInBounds_toArray, List.set_cons_zero, List.set_cons_succ]; done) | (simp only [putAll, Act.put, List.setIfInBounds_toArray, List.set_cons_zero, List.set_cons_succ]; rfl)) (hJ0_3_4_7_8_11_13_16_21 (v170, v174, v178, v182, gb186) _ ⟨hHeld, (rowN HO171.out), (rowN HO175.out), (rowN HO179.out), (rowN HO183.out), (blkN BK167.out), (blkN BK168.out), (blkN BK186.out), GW186.out, GE186.out, NB167_186.out, NB186_167.out, NB168_186.out, NB186_168.out, (belS HB.out)⟩)
         ·skip
          refine goes_ Try.func23 (by kernel_rfl) rfl #[.int .i64 a0_7, .int .i64 (-2147483647), .int .i64 2147483647] (by rfl) rfl rfl argN ?_
          with_reducible refine (marigraphbook_Within.calls k a0_7 (-2147483647) 2147483647 t185 _ A9.out).mono ?_
          rintro e w' ⟨rfl, ⟨nd, rfl⟩⟩
          refine ⟨_, rfl, ?_⟩
          refine hK.out _ _ ⟨(blk_cell BK167.out 0).trans rfl, (blk_cell BK167.out 1).trans rfl, (blk_cell BK167.out 2).trans rfl, (blk_cell BK167.out 3).trans rfl, (blk_cell BK167.out 4).trans rfl, (blk_cell BK167.out 5).trans rfl, (blk_cell BK167.out 6).trans rfl, (blk_cell BK167.out 7).trans rfl⟩ (fun hHeld => ?_)
          clear hK K
          refine norm_ (a' := ?_) ?_ ?_
          rotate_left
          ·show Act.put _ (some 23) _ = _
           simp only [Act.put, List.setIfInBounds_toArray, List.set_cons_zero, List.set_cons_succ, i64_w, i32_w]
           rfl
          exact norm_ (by first | (simp only [putAll, Act.put, List.setIfInBounds_toArray, List.set_cons_zero, List.set_cons_succ]; done) | (simp only [putAll, Act.put, List.setIfInBounds_toArray, List.set_cons_zero, List.set_cons_succ]; rfl)) (hJ0_3_4_7_8_11_16_19_21 (v170, v174, v178, gb186) _ ⟨hHeld, (rowN HO171.out), (rowN HO175.out), (rowN HO179.out), (blkN BK167.out), (blkN BK168.out), (blkN BK186.out), GW186.out, GE186.out, NB167_186.out, NB186_167.out, NB168_186.out, NB186_168.out, (belS HB.out)⟩)
       ·skip
        rintro ⟨v170, v174, v178⟩ w20 ⟨hS_, h0_, h1_, h2_, h3_, h4_, h5_⟩
        have n0_ : Aside0 (Kd.R Kd.string 9 w20 w.heap.size (fun k_ => some k_ ≠ (v174 : Value).ownBlock ∧ some k_ ≠ (v178 : Value).ownBlock) v170 t169) := ⟨h0_⟩
        have n1_ : Aside0 (Kd.R Kd.string 9 w20 w.heap.size (fun k_ => some k_ ≠ (v170 : Value).ownBlock ∧ some k_ ≠ (v178 : Value).ownBlock) v174 t173) := ⟨h1_⟩
        have n2_ : Aside0 (Kd.R Kd.string 9 w20 w.heap.size (fun k_ => some k_ ≠ (v170 : Value).ownBlock ∧ some k_ ≠ (v174 : Value).ownBlock) v178 t177) := ⟨h2_⟩
        have n3_ : Aside0 (w20.heap[gb167]? = some (.cells #[.int .i64 a0_0, .int .i64 a0_1, .int .i64 a0_2, .int .i64 a0_3, .int .i64 a0_4, .bool a0_5, .int .i64 a0_6, .int .i64 a0_7] 34 (0, 0))) := ⟨h3_⟩
        have n4_ : Aside0 (w20.heap[gb168]? = some (.cells #[.string (⟨#[]⟩ : ByteArray), .slice none 0 0, .int .i64 0, .int .i64 0] 31 (0, 0))) := ⟨h4_⟩
        have n5_ : Aside0 (Below w.heap.size w w20) := ⟨h5_⟩
        clear BK167
        clear BK168
        clear HB
        clear h0_ h1_ h2_ h3_ h4_ h5_
        have HO171 := n0_
        have HO175 := n1_
        have HO179 := n2_
        have BK167 := n3_
        have BK168 := n4_
        have HB := n5_
        clear n0_ n1_ n2_ n3_ n4_ n5_
        have hHeld : w20.cell? ⟨gb167, 0, none⟩ = some (.int .i64 a0_0) ∧ w20.cell? ⟨gb167, 1, none⟩ = some (.int .i64 a0_1) ∧ w20.cell? ⟨gb167, 2, none⟩ = some (.int .i64 a0_2) ∧ w20.cell? ⟨gb167, 3, none⟩ = some (.int .i64 a0_3) ∧ w20.cell? ⟨gb167, 4, none⟩ = some (.int .i64 a0_4) ∧ w20.cell? ⟨gb167, 5, none⟩ = some (.bool a0_5) ∧ w20.cell? ⟨gb167, 6, none⟩ = some (.int .i64 a0_6) ∧ w20.cell? ⟨gb167, 7, none⟩ = some (.int .i64 a0_7) := hS_
        refine norm_ (a' := ?_) ?_ ?_
        rotate_left
        ·simp only [putAll, Act.put, List.setIfInBounds_toArray, List.set_cons_zero, List.set_cons_succ]
         rfl
        refine two_ (i := 13) (j := 21) (Ni := some 17) (Nj := some 3) (bA 23 1048575) (bA 23 3137535) rfl rfl rfl rfl (two_of HT_.out (by kernel_rfl)) (by decide) (by decide) (fun K hK => ?_) (fun K hK => ?_)
        ·skip
         refine Kd.R_lit_step k25 _ 25 ?hg (N := 17) ?hd (xs := ([(⟨t176, t180⟩ : S25)] : List (S25))) (inner := [.string t176, .string t180]) (ok := fun _ => True) (okp := fun _ => True) ?hr ?hp (fun _ hk => hk) trivial (Below.refl _ _) (Nat.le_refl _) (by simp) ?_; (case hd => rfl); (case hg => rfl); (case hr => first | (go_simp; done) | (go_simp; rfl)); (case hp => exact (Reps.c2 (show Kd.M k25 _ _ _ (⟨t176, t180⟩ : S25) [.string t176, .string t180] from (k25_mkM _ _ _ (⟨t176, t180⟩ : S25) )) (Reps.none _ _)))
         intro v182 w21 ho22 hb hg_ hnew_
         clear hg_ hnew_
         (first | rw [← Ny181.out] at ho22 | (simp only [Int.reduceToNat] at ho22; rw [← Ny181.out] at ho22))
         have n0_ := Aside0.mk (Kd.R_below (rowN HO171.out) hb)
         have n1_ := Aside0.mk (Kd.R_below (rowN HO175.out) hb)
         have n2_ := Aside0.mk (Kd.R_below (rowN HO179.out) hb)
         have n3_ := Aside0.mk (Kd.R_lower ho22 (below_size (belS HB.out)))
         have n4_ := Aside0.mk (bkB BK167.out hb)
         have n5_ := Aside0.mk (bkB BK168.out hb)
         have n6_ := Aside0.mk (below_step (belS HB.out) hb)
         clear HO171
         clear HO175
         clear HO179
         clear BK167
         clear BK168
         clear HB
         have HO171 := n0_
         have HO175 := n1_
         have HO179 := n2_
         have HO183 := n3_
         have BK167 := n4_
         have BK168 := n5_
         have HB := n6_
         clear n0_ n1_ n2_ n3_ n4_ n5_ n6_
         clear hb ho22
         obtain ⟨Ao23, co23, eo23⟩ := Kd.R_slice HO183.out
         (first | subst eo23 | (injection eo23 with f1_ f2_ f3_; have f4_ := f1_.symm; have f5_ := f3_.symm; clear f1_ f2_ f3_; subst f4_; subst f5_))
         refine hK.out _ _ ⟨(blk_cell BK167.out 0).trans rfl, (blk_cell BK167.out 1).trans rfl, (blk_cell BK167.out 2).trans rfl, (blk_cell BK167.out 3).trans rfl, (blk_cell BK167.out 4).trans rfl, (blk_cell BK167.out 5).trans rfl, (blk_cell BK167.out 6).trans rfl, (blk_cell BK167.out 7).trans rfl⟩ (fun hHeld => ?_)
         clear hK K
         refine norm_ (a' := ?_) ?_ ?_
         rotate_left
         ·show Act.put _ (some 17) _ = _
          simp only [Act.put, List.setIfInBounds_toArray, List.set_cons_zero, List.set_cons_succ, i64_w, i32_w]
          rfl
         refine pA 20 (some 24) (bA 23 2097151) HT_.out ?_
         exact norm_ (by first | (simp only [putAll, Act.put, List.setIfInBounds_toArray, List.set_cons_zero, List.set_cons_succ]; done) | (simp only [putAll, Act.put, List.setIfInBounds_toArray, List.set_cons_zero, List.set_cons_succ]; rfl)) (hJ0_3_4_7_8_11_13_16_19 (v170, v174, v178, .slice Ao23 y181.length co23) _ ⟨hHeld, (rowN HO171.out), (rowN HO175.out), (rowN HO179.out), (rowN HO183.out), (blkN BK167.out), (blkN BK168.out), (belS HB.out)⟩)
        ·skip
         refine box_step ?hg (N := 3) ?hd (cs := #[.string (⟨#[]⟩ : ByteArray), .slice none 0 0, .int .i64 0, .int .i64 0]) (t := 31) ?hr ?_; (case hd => rfl); (case hg => rfl); (case hr => first | (go_simp; done) | (go_simp; rfl))
         intro gb186 hg w21 hbox hb
         have n0_ := Aside0.mk (Kd.R_below (rowN HO171.out) hb)
         have n1_ := Aside0.mk (Kd.R_below (rowN HO175.out) hb)
         have n2_ := Aside0.mk (Kd.R_below (rowN HO179.out) hb)
         have n3_ := Aside0.mk (bkB BK167.out hb)
         have n4_ := Aside0.mk (bkB BK168.out hb)
         have n5_ := Aside0.mk (below_step (belS HB.out) hb)
         have n6_ := Aside0.mk (hbox)
         have n7_ := Aside0.mk (szB hg HB.out)
         have n8_ := Aside0.mk (szB hg HB.out)
         have n9_ := Aside0.mk ((bk1 hg BK167.out))
         have n10_ := Aside0.mk ((bk2 hg BK167.out))
         have n11_ := Aside0.mk ((bk1 hg BK168.out))
         have n12_ := Aside0.mk ((bk2 hg BK168.out))
         clear HO171
         clear HO175
         clear HO179
         clear BK167
         clear BK168
         clear HB
         have HO171 := n0_
         have HO175 := n1_
         have HO179 := n2_
         have BK167 := n3_
         have BK168 := n4_
         have HB := n5_
         have BK186 := n6_
         have GW186 := n7_
         have GE186 := n8_
         have NB167_186 := n9_
         have NB186_167 := n10_
         have NB168_186 := n11_
         have NB186_168 := n12_
         clear n0_ n1_ n2_ n3_ n4_ n5_ n6_ n7_ n8_ n9_ n10_ n11_ n12_
         clear hb hbox hg
         refine hK.out _ _ ⟨(blk_cell BK167.out 0).trans rfl, (blk_cell BK167.out 1).trans rfl, (blk_cell BK167.out 2).trans rfl, (blk_cell BK167.out 3).trans rfl, (blk_cell BK167.out 4).trans rfl, (blk_cell BK167.out 5).trans rfl, (blk_cell BK167.out 6).trans rfl, (blk_cell BK167.out 7).trans rfl⟩ (fun hHeld => ?_)
         clear hK K
         refine norm_ (a' := ?_) ?_ ?_
         rotate_left
         ·show Act.put _ (some 3) _ = _
          simp only [Act.put, List.setIfInBounds_toArray, List.set_cons_zero, List.set_cons_succ, i64_w, i32_w]
          rfl
         exact norm_ (by first | (simp only [putAll, Act.put, List.setIfInBounds_toArray, List.set_cons_zero, List.set_cons_succ]; done) | (simp only [putAll, Act.put, List.setIfInBounds_toArray, List.set_cons_zero, List.set_cons_succ]; rfl)) (hJ0_3_4_7_8_11_16_19_21 (v170, v174, v178, gb186) _ ⟨hHeld, (rowN HO171.out), (rowN HO175.out), (rowN HO179.out), (blkN BK167.out), (blkN BK168.out), (blkN BK186.out), GW186.out, GE186.out, NB167_186.out, NB186_167.out, NB168_186.out, NB186_168.out, (belS HB.out)⟩)
      ·skip
       rintro ⟨v170, v174, v178, v182, gb186⟩ w23 ⟨hS_, h0_, h1_, h2_, h3_, h4_, h5_, h6_, h7_, h8_, h9_, h10_, h11_, h12_, h13_⟩
       have n0_ : Aside0 (Kd.R Kd.string 9 w23 w.heap.size (fun k_ => some k_ ≠ (v174 : Value).ownBlock ∧ some k_ ≠ (v178 : Value).ownBlock) v170 t169) := ⟨h0_⟩
       have n1_ : Aside0 (Kd.R Kd.string 9 w23 w.heap.size (fun k_ => some k_ ≠ (v170 : Value).ownBlock ∧ some k_ ≠ (v178 : Value).ownBlock) v174 t173) := ⟨h1_⟩
       have n2_ : Aside0 (Kd.R Kd.string 9 w23 w.heap.size (fun k_ => some k_ ≠ (v170 : Value).ownBlock ∧ some k_ ≠ (v174 : Value).ownBlock) v178 t177) := ⟨h2_⟩
       have n3_ : Aside0 (Kd.R k25 25 w23 w.heap.size (fun _ => True) v182 y181) := ⟨h3_⟩
       have n4_ : Aside0 (w23.heap[gb167]? = some (.cells #[.int .i64 a0_0, .int .i64 a0_1, .int .i64 a0_2, .int .i64 a0_3, .int .i64 a0_4, .bool a0_5, .int .i64 a0_6, .int .i64 a0_7] 34 (0, 0))) := ⟨h4_⟩
       have n5_ : Aside0 (w23.heap[gb168]? = some (.cells #[.string (⟨#[]⟩ : ByteArray), .slice none 0 0, .int .i64 0, .int .i64 0] 31 (0, 0))) := ⟨h5_⟩
       have n6_ : Aside0 (w23.heap[gb186]? = some (.cells #[.string (⟨#[]⟩ : ByteArray), .slice none 0 0, .int .i64 0, .int .i64 0] 31 (0, 0))) := ⟨h6_⟩
       have n7_ : Aside0 (w.heap.size ≤ gb186) := ⟨h7_⟩
       have n8_ : Aside0 (w.heap.size ≤ gb186) := ⟨h8_⟩
       have n9_ : Aside0 (gb167 ≠ gb186) := ⟨h9_⟩
       have n10_ : Aside0 (gb186 ≠ gb167) := ⟨h10_⟩
       have n11_ : Aside0 (gb168 ≠ gb186) := ⟨h11_⟩
       have n12_ : Aside0 (gb186 ≠ gb168) := ⟨h12_⟩
       have n13_ : Aside0 (Below w.heap.size w w23) := ⟨h13_⟩
       clear BK167
       clear BK168
       clear HB
       clear h0_ h1_ h2_ h3_ h4_ h5_ h6_ h7_ h8_ h9_ h10_ h11_ h12_ h13_
       have HO171 := n0_
       have HO175 := n1_
       have HO179 := n2_
       have HO183 := n3_
       have BK167 := n4_
       have BK168 := n5_
       have BK186 := n6_
       have GW186 := n7_
       have GE186 := n8_
       have NB167_186 := n9_
       have NB186_167 := n10_
       have NB168_186 := n11_
       have NB186_168 := n12_
       have HB := n13_
       clear n0_ n1_ n2_ n3_ n4_ n5_ n6_ n7_ n8_ n9_ n10_ n11_ n12_ n13_
       have hHeld : w23.cell? ⟨gb167, 0, none⟩ = some (.int .i64 a0_0) ∧ w23.cell? ⟨gb167, 1, none⟩ = some (.int .i64 a0_1) ∧ w23.cell? ⟨gb167, 2, none⟩ = some (.int .i64 a0_2) ∧ w23.cell? ⟨gb167, 3, none⟩ = some (.int .i64 a0_3) ∧ w23.cell? ⟨gb167, 4, none⟩ = some (.int .i64 a0_4) ∧ w23.cell? ⟨gb167, 5, none⟩ = some (.bool a0_5) ∧ w23.cell? ⟨gb167, 6, none⟩ = some (.int .i64 a0_6) ∧ w23.cell? ⟨gb167, 7, none⟩ = some (.int .i64 a0_7) := hS_
       refine norm_ (a' := ?_) ?_ ?_
       rotate_left
       ·simp only [putAll, Act.put, List.setIfInBounds_toArray, List.set_cons_zero, List.set_cons_succ]
        rfl
       refine one_ (i := 16) (N := some 20) (bA 23 2621439) rfl rfl (one_of HT_.out (by kernel_rfl)) (by decide) (fun K hK => ?_)
       refine goes_ Try.func23 (by kernel_rfl) rfl #[.int .i64 a0_6, .int .i64 0, .int .i64 9000] (by rfl) rfl rfl argN ?_
       with_reducible refine (marigraphbook_Within.calls k a0_6 0 9000 t184 _ A8.out).mono ?_
       rintro e w' ⟨rfl, ⟨nd, rfl⟩⟩
       refine ⟨_, rfl, ?_⟩
       refine hK.out _ _ ⟨(blk_cell BK167.out 0).trans rfl, (blk_cell BK167.out 1).trans rfl, (blk_cell BK167.out 2).trans rfl, (blk_cell BK167.out 3).trans rfl, (blk_cell BK167.out 4).trans rfl, (blk_cell BK167.out 5).trans rfl, (blk_cell BK167.out 6).trans rfl, (blk_cell BK167.out 7).trans rfl⟩ (fun hHeld => ?_)
       clear hK K
       refine norm_ (a' := ?_) ?_ ?_
       rotate_left
       ·show Act.put _ (some 20) _ = _
        simp only [Act.put, List.setIfInBounds_toArray, List.set_cons_zero, List.set_cons_succ, i64_w, i32_w]
        rfl
       exact norm_ (by first | (simp only [putAll, Act.put, List.setIfInBounds_toArray, List.set_cons_zero, List.set_cons_succ]; done) | (simp only [putAll, Act.put, List.setIfInBounds_toArray, List.set_cons_zero, List.set_cons_succ]; rfl)) (hJ0_3_4_7_8_11_13_16_21 (v170, v174, v178, v182, gb186) _ ⟨hHeld, (rowN HO171.out), (rowN HO175.out), (rowN HO179.out), (rowN HO183.out), (blkN BK167.out), (blkN BK168.out), (blkN BK186.out), GW186.out, GE186.out, NB167_186.out, NB186_167.out, NB168_186.out, NB186_168.out, (belS HB.out)⟩)
     ·skip
      rintro ⟨v170, v174, v178, v182⟩ w22 ⟨hS_, h0_, h1_, h2_, h3_, h4_, h5_, h6_⟩
      have n0_ : Aside0 (Kd.R Kd.string 9 w22 w.heap.size (fun k_ => some k_ ≠ (v174 : Value).ownBlock ∧ some k_ ≠ (v178 : Value).ownBlock) v170 t169) := ⟨h0_⟩
      have n1_ : Aside0 (Kd.R Kd.string 9 w22 w.heap.size (fun k_ => some k_ ≠ (v170 : Value).ownBlock ∧ some k_ ≠ (v178 : Value).ownBlock) v174 t173) := ⟨h1_⟩
      have n2_ : Aside0 (Kd.R Kd.string 9 w22 w.heap.size (fun k_ => some k_ ≠ (v170 : Value).ownBlock ∧ some k_ ≠ (v174 : Value).ownBlock) v178 t177) := ⟨h2_⟩
      have n3_ : Aside0 (Kd.R k25 25 w22 w.heap.size (fun _ => True) v182 y181) := ⟨h3_⟩
      have n4_ : Aside0 (w22.heap[gb167]? = some (.cells #[.int .i64 a0_0, .int .i64 a0_1, .int .i64 a0_2, .int .i64 a0_3, .int .i64 a0_4, .bool a0_5, .int .i64 a0_6, .int .i64 a0_7] 34 (0, 0))) := ⟨h4_⟩
      have n5_ : Aside0 (w22.heap[gb168]? = some (.cells #[.string (⟨#[]⟩ : ByteArray), .slice none 0 0, .int .i64 0, .int .i64 0] 31 (0, 0))) := ⟨h5_⟩
      have n6_ : Aside0 (Below w.heap.size w w22) := ⟨h6_⟩
      clear BK167
      clear BK168
      clear HB
      clear h0_ h1_ h2_ h3_ h4_ h5_ h6_
      have HO171 := n0_
      have HO175 := n1_
      have HO179 := n2_
      have HO183 := n3_
      have BK167 := n4_
      have BK168 := n5_
      have HB := n6_
      clear n0_ n1_ n2_ n3_ n4_ n5_ n6_
      have hHeld : w22.cell? ⟨gb167, 0, none⟩ = some (.int .i64 a0_0) ∧ w22.cell? ⟨gb167, 1, none⟩ = some (.int .i64 a0_1) ∧ w22.cell? ⟨gb167, 2, none⟩ = some (.int .i64 a0_2) ∧ w22.cell? ⟨gb167, 3, none⟩ = some (.int .i64 a0_3) ∧ w22.cell? ⟨gb167, 4, none⟩ = some (.int .i64 a0_4) ∧ w22.cell? ⟨gb167, 5, none⟩ = some (.bool a0_5) ∧ w22.cell? ⟨gb167, 6, none⟩ = some (.int .i64 a0_6) ∧ w22.cell? ⟨gb167, 7, none⟩ = some (.int .i64 a0_7) := hS_
      refine norm_ (a' := ?_) ?_ ?_
      rotate_left
      ·simp only [putAll, Act.put, List.setIfInBounds_toArray, List.set_cons_zero, List.set_cons_succ]
       rfl
      refine two_ (i := 19) (j := 21) (Ni := some 23) (Nj := some 3) (bA 23 1048575) (bA 23 2621439) rfl rfl rfl rfl (two_of HT_.out (by kernel_rfl)) (by decide) (by decide) (fun K hK => ?_) (fun K hK => ?_)
      ·skip
       refine goes_ Try.func23 (by kernel_rfl) rfl #[.int .i64 a0_7, .int .i64 (-2147483647), .int .i64 2147483647] (by rfl) rfl rfl argN ?_
       with_reducible refine (marigraphbook_Within.calls k a0_7 (-2147483647) 2147483647 t185 _ A9.out).mono ?_
       rintro e w' ⟨rfl, ⟨nd, rfl⟩⟩
       refine ⟨_, rfl, ?_⟩
       obtain ⟨Ao23, co23, eo23⟩ := Kd.R_slice HO183.out
       (first | subst eo23 | (injection eo23 with f1_ f2_ f3_; have f4_ := f1_.symm; have f5_ := f3_.symm; clear f1_ f2_ f3_; subst f4_; subst f5_))
       refine hK.out _ _ ⟨(blk_cell BK167.out 0).trans rfl, (blk_cell BK167.out 1).trans rfl, (blk_cell BK167.out 2).trans rfl, (blk_cell BK167.out 3).trans rfl, (blk_cell BK167.out 4).trans rfl, (blk_cell BK167.out 5).trans rfl, (blk_cell BK167.out 6).trans rfl, (blk_cell BK167.out 7).trans rfl⟩ (fun hHeld => ?_)
       clear hK K
       refine norm_ (a' := ?_) ?_ ?_
       rotate_left
       ·show Act.put _ (some 23) _ = _
        simp only [Act.put, List.setIfInBounds_toArray, List.set_cons_zero, List.set_cons_succ, i64_w, i32_w]
        rfl
       refine pA 20 (some 24) (bA 23 2097151) HT_.out ?_
       exact norm_ (by first | (simp only [putAll, Act.put, List.setIfInBounds_toArray, List.set_cons_zero, List.set_cons_succ]; done) | (simp only [putAll, Act.put, List.setIfInBounds_toArray, List.set_cons_zero, List.set_cons_succ]; rfl)) (hJ0_3_4_7_8_11_13_16_19 (v170, v174, v178, .slice Ao23 y181.length co23) _ ⟨hHeld, (rowN HO171.out), (rowN HO175.out), (rowN HO179.out), (rowN HO183.out), (blkN BK167.out), (blkN BK168.out), (belS HB.out)⟩)
      ·skip
       refine box_step ?hg (N := 3) ?hd (cs := #[.string (⟨#[]⟩ : ByteArray), .slice none 0 0, .int .i64 0, .int .i64 0]) (t := 31) ?hr ?_; (case hd => rfl); (case hg => rfl); (case hr => first | (go_simp; done) | (go_simp; rfl))
       intro gb186 hg w23 hbox hb
       have n0_ := Aside0.mk (Kd.R_below (rowN HO171.out) hb)
       have n1_ := Aside0.mk (Kd.R_below (rowN HO175.out) hb)
       have n2_ := Aside0.mk (Kd.R_below (rowN HO179.out) hb)
       have n3_ := Aside0.mk (Kd.R_below (rowN HO183.out) hb)
       have n4_ := Aside0.mk (bkB BK167.out hb)
       have n5_ := Aside0.mk (bkB BK168.out hb)
       have n6_ := Aside0.mk (below_step (belS HB.out) hb)
       have n7_ := Aside0.mk (hbox)
       have n8_ := Aside0.mk (szB hg HB.out)
       have n9_ := Aside0.mk (szB hg HB.out)
       have n10_ := Aside0.mk ((bk1 hg BK167.out))
       have n11_ := Aside0.mk ((bk2 hg BK167.out))
       have n12_ := Aside0.mk ((bk1 hg BK168.out))
       have n13_ := Aside0.mk ((bk2 hg BK168.out))
       clear HO171
       clear HO175
       clear HO179
       clear HO183
       clear BK167
       clear BK168
       clear HB
       have HO171 := n0_
       have HO175 := n1_
       have HO179 := n2_
       have HO183 := n3_
       have BK167 := n4_
       have BK168 := n5_
       have HB := n6_
       have BK186 := n7_
       have GW186 := n8_
       have GE186 := n9_
       have NB167_186 := n10_
       have NB186_167 := n11_
       have NB168_186 := n12_
       have NB186_168 := n13_
       clear n0_ n1_ n2_ n3_ n4_ n5_ n6_ n7_ n8_ n9_ n10_ n11_ n12_ n13_
       clear hb hbox hg
       refine hK.out _ _ ⟨(blk_cell BK167.out 0).trans rfl, (blk_cell BK167.out 1).trans rfl, (blk_cell BK167.out 2).trans rfl, (blk_cell BK167.out 3).trans rfl, (blk_cell BK167.out 4).trans rfl, (blk_cell BK167.out 5).trans rfl, (blk_cell BK167.out 6).trans rfl, (blk_cell BK167.out 7).trans rfl⟩ (fun hHeld => ?_)
       clear hK K
       refine norm_ (a' := ?_) ?_ ?_
       rotate_left
       ·show Act.put _ (some 3) _ = _
        simp only [Act.put, List.setIfInBounds_toArray, List.set_cons_zero, List.set_cons_succ, i64_w, i32_w]
        rfl
       exact norm_ (by first | (simp only [putAll, Act.put, List.setIfInBounds_toArray, List.set_cons_zero, List.set_cons_succ]; done) | (simp only [putAll, Act.put, List.setIfInBounds_toArray, List.set_cons_zero, List.set_cons_succ]; rfl)) (hJ0_3_4_7_8_11_13_16_21 (v170, v174, v178, v182, gb186) _ ⟨hHeld, (rowN HO171.out), (rowN HO175.out), (rowN HO179.out), (rowN HO183.out), (blkN BK167.out), (blkN BK168.out), (blkN BK186.out), GW186.out, GE186.out, NB167_186.out, NB186_167.out, NB168_186.out, NB186_168.out, (belS HB.out)⟩)
    ·skip
     rintro ⟨v170, v174, v178, gb186⟩ w21 ⟨hS_, h0_, h1_, h2_, h3_, h4_, h5_, h6_, h7_, h8_, h9_, h10_, h11_, h12_⟩
     have n0_ : Aside0 (Kd.R Kd.string 9 w21 w.heap.size (fun k_ => some k_ ≠ (v174 : Value).ownBlock ∧ some k_ ≠ (v178 : Value).ownBlock) v170 t169) := ⟨h0_⟩
     have n1_ : Aside0 (Kd.R Kd.string 9 w21 w.heap.size (fun k_ => some k_ ≠ (v170 : Value).ownBlock ∧ some k_ ≠ (v178 : Value).ownBlock) v174 t173) := ⟨h1_⟩
     have n2_ : Aside0 (Kd.R Kd.string 9 w21 w.heap.size (fun k_ => some k_ ≠ (v170 : Value).ownBlock ∧ some k_ ≠ (v174 : Value).ownBlock) v178 t177) := ⟨h2_⟩
     have n3_ : Aside0 (w21.heap[gb167]? = some (.cells #[.int .i64 a0_0, .int .i64 a0_1, .int .i64 a0_2, .int .i64 a0_3, .int .i64 a0_4, .bool a0_5, .int .i64 a0_6, .int .i64 a0_7] 34 (0, 0))) := ⟨h3_⟩
     have n4_ : Aside0 (w21.heap[gb168]? = some (.cells #[.string (⟨#[]⟩ : ByteArray), .slice none 0 0, .int .i64 0, .int .i64 0] 31 (0, 0))) := ⟨h4_⟩
     have n5_ : Aside0 (w21.heap[gb186]? = some (.cells #[.string (⟨#[]⟩ : ByteArray), .slice none 0 0, .int .i64 0, .int .i64 0] 31 (0, 0))) := ⟨h5_⟩
     have n6_ : Aside0 (w.heap.size ≤ gb186) := ⟨h6_⟩
     have n7_ : Aside0 (w.heap.size ≤ gb186) := ⟨h7_⟩
     have n8_ : Aside0 (gb167 ≠ gb186) := ⟨h8_⟩
     have n9_ : Aside0 (gb186 ≠ gb167) := ⟨h9_⟩
     have n10_ : Aside0 (gb168 ≠ gb186) := ⟨h10_⟩
     have n11_ : Aside0 (gb186 ≠ gb168) := ⟨h11_⟩
     have n12_ : Aside0 (Below w.heap.size w w21) := ⟨h12_⟩
     clear BK167
     clear BK168
     clear HB
     clear h0_ h1_ h2_ h3_ h4_ h5_ h6_ h7_ h8_ h9_ h10_ h11_ h12_
     have HO171 := n0_
     have HO175 := n1_
     have HO179 := n2_
     have BK167 := n3_
     have BK168 := n4_
     have BK186 := n5_
     have GW186 := n6_
     have GE186 := n7_
     have NB167_186 := n8_
     have NB186_167 := n9_
     have NB168_186 := n10_
     have NB186_168 := n11_
     have HB := n12_
     clear n0_ n1_ n2_ n3_ n4_ n5_ n6_ n7_ n8_ n9_ n10_ n11_ n12_
     have hHeld : w21.cell? ⟨gb167, 0, none⟩ = some (.int .i64 a0_0) ∧ w21.cell? ⟨gb167, 1, none⟩ = some (.int .i64 a0_1) ∧ w21.cell? ⟨gb167, 2, none⟩ = some (.int .i64 a0_2) ∧ w21.cell? ⟨gb167, 3, none⟩ = some (.int .i64 a0_3) ∧ w21.cell? ⟨gb167, 4, none⟩ = some (.int .i64 a0_4) ∧ w21.cell? ⟨gb167, 5, none⟩ = some (.bool a0_5) ∧ w21.cell? ⟨gb167, 6, none⟩ = some (.int .i64 a0_6) ∧ w21.cell? ⟨gb167, 7, none⟩ = some (.int .i64 a0_7) := hS_
     refine norm_ (a' := ?_) ?_ ?_
     rotate_left
     ·simp only [putAll, Act.put, List.setIfInBounds_toArray, List.set_cons_zero, List.set_cons_succ]
      rfl
     refine one_ (i := 13) (N := some 17) (bA 23 3145727) rfl rfl (one_of HT_.out (by kernel_rfl)) (by decide) (fun K hK => ?_)
     refine Kd.R_lit_step k25 _ 25 ?hg (N := 17) ?hd (xs := ([(⟨t176, t180⟩ : S25)] : List (S25))) (inner := [.string t176, .string t180]) (ok := fun _ => True) (okp := fun _ => True) ?hr ?hp (fun _ hk => hk) trivial (Below.refl _ _) (Nat.le_refl _) (by simp) ?_; (case hd => rfl); (case hg => rfl); (case hr => first | (go_simp; done) | (go_simp; rfl)); (case hp => exact (Reps.c2 (show Kd.M k25 _ _ _ (⟨t176, t180⟩ : S25) [.string t176, .string t180] from (k25_mkM _ _ _ (⟨t176, t180⟩ : S25) )) (Reps.none _ _)))
     intro v182 w22 ho23 hb hg_ hnew_
     clear hg_ hnew_
     (first | rw [← Ny181.out] at ho23 | (simp only [Int.reduceToNat] at ho23; rw [← Ny181.out] at ho23))
     have n0_ := Aside0.mk (Kd.R_below (rowN HO171.out) hb)
     have n1_ := Aside0.mk (Kd.R_below (rowN HO175.out) hb)
     have n2_ := Aside0.mk (Kd.R_below (rowN HO179.out) hb)
     have n3_ := Aside0.mk (Kd.R_lower ho23 (below_size (belS HB.out)))
     have n4_ := Aside0.mk (bkB BK167.out hb)
     have n5_ := Aside0.mk (bkB BK168.out hb)
     have n6_ := Aside0.mk (bkB BK186.out hb)
     have n7_ := Aside0.mk (below_step (belS HB.out) hb)
     clear HO171
     clear HO175
     clear HO179
     clear BK167
     clear BK168
     clear BK186
     clear HB
     have HO171 := n0_
     have HO175 := n1_
     have HO179 := n2_
     have HO183 := n3_
     have BK167 := n4_
     have BK168 := n5_
     have BK186 := n6_
     have HB := n7_
     clear n0_ n1_ n2_ n3_ n4_ n5_ n6_ n7_
     clear hb ho23
     obtain ⟨Ao24, co24, eo24⟩ := Kd.R_slice HO183.out
     (first | subst eo24 | (injection eo24 with f1_ f2_ f3_; have f4_ := f1_.symm; have f5_ := f3_.symm; clear f1_ f2_ f3_; subst f4_; subst f5_))
     refine hK.out _ _ ⟨(blk_cell BK167.out 0).trans rfl, (blk_cell BK167.out 1).trans rfl, (blk_cell BK167.out 2).trans rfl, (blk_cell BK167.out 3).trans rfl, (blk_cell BK167.out 4).trans rfl, (blk_cell BK167.out 5).trans rfl, (blk_cell BK167.out 6).trans rfl, (blk_cell BK167.out 7).trans rfl⟩ (fun hHeld => ?_)
     clear hK K
     refine norm_ (a' := ?_) ?_ ?_
     rotate_left
     ·show Act.put _ (some 17) _ = _
      simp only [Act.put, List.setIfInBounds_toArray, List.set_cons_zero, List.set_cons_succ, i64_w, i32_w]
      rfl
     refine pA 20 (some 24) (bA 23 4194303) HT_.out ?_
     exact norm_ (by first | (simp only [putAll, Act.put, List.setIfInBounds_toArray, List.set_cons_zero, List.set_cons_succ]; done) | (simp only [putAll, Act.put, List.setIfInBounds_toArray, List.set_cons_zero, List.set_cons_succ]; rfl)) (hJ0_3_4_7_8_11_13_16_19_21 (v170, v174, v178, .slice Ao24 y181.length co24, gb186) _ ⟨hHeld, (rowN HO171.out), (rowN HO175.out), (rowN HO179.out), (rowN HO183.out), (blkN BK167.out), (blkN BK168.out), (blkN BK186.out), GW186.out, GE186.out, NB167_186.out, NB186_167.out, NB168_186.out, NB186_168.out, (belS HB.out)⟩)
   ·skip
    rintro ⟨v170, v174, v178, v182, gb186⟩ w23 ⟨hS_, h0_, h1_, h2_, h3_, h4_, h5_, h6_, h7_, h8_, h9_, h10_, h11_, h12_, h13_⟩
    have n0_ : Aside0 (Kd.R Kd.string 9 w23 w.heap.size (fun k_ => some k_ ≠ (v174 : Value).ownBlock ∧ some k_ ≠ (v178 : Value).ownBlock) v170 t169) := ⟨h0_⟩
    have n1_ : Aside0 (Kd.R Kd.string 9 w23 w.heap.size (fun k_ => some k_ ≠ (v170 : Value).ownBlock ∧ some k_ ≠ (v178 : Value).ownBlock) v174 t173) := ⟨h1_⟩
    have n2_ : Aside0 (Kd.R Kd.string 9 w23 w.heap.size (fun k_ => some k_ ≠ (v170 : Value).ownBlock ∧ some k_ ≠ (v174 : Value).ownBlock) v178 t177) := ⟨h2_⟩
    have n3_ : Aside0 (Kd.R k25 25 w23 w.heap.size (fun _ => True) v182 y181) := ⟨h3_⟩
    have n4_ : Aside0 (w23.heap[gb167]? = some (.cells #[.int .i64 a0_0, .int .i64 a0_1, .int .i64 a0_2, .int .i64 a0_3, .int .i64 a0_4, .bool a0_5, .int .i64 a0_6, .int .i64 a0_7] 34 (0, 0))) := ⟨h4_⟩
    have n5_ : Aside0 (w23.heap[gb168]? = some (.cells #[.string (⟨#[]⟩ : ByteArray), .slice none 0 0, .int .i64 0, .int .i64 0] 31 (0, 0))) := ⟨h5_⟩
    have n6_ : Aside0 (w23.heap[gb186]? = some (.cells #[.string (⟨#[]⟩ : ByteArray), .slice none 0 0, .int .i64 0, .int .i64 0] 31 (0, 0))) := ⟨h6_⟩
    have n7_ : Aside0 (w.heap.size ≤ gb186) := ⟨h7_⟩
    have n8_ : Aside0 (w.heap.size ≤ gb186) := ⟨h8_⟩
    have n9_ : Aside0 (gb167 ≠ gb186) := ⟨h9_⟩
    have n10_ : Aside0 (gb186 ≠ gb167) := ⟨h10_⟩
    have n11_ : Aside0 (gb168 ≠ gb186) := ⟨h11_⟩
    have n12_ : Aside0 (gb186 ≠ gb168) := ⟨h12_⟩
    have n13_ : Aside0 (Below w.heap.size w w23) := ⟨h13_⟩
    clear BK167
    clear BK168
    clear HB
    clear h0_ h1_ h2_ h3_ h4_ h5_ h6_ h7_ h8_ h9_ h10_ h11_ h12_ h13_
    have HO171 := n0_
    have HO175 := n1_
    have HO179 := n2_
    have HO183 := n3_
    have BK167 := n4_
    have BK168 := n5_
    have BK186 := n6_
    have GW186 := n7_
    have GE186 := n8_
    have NB167_186 := n9_
    have NB186_167 := n10_
    have NB168_186 := n11_
    have NB186_168 := n12_
    have HB := n13_
    clear n0_ n1_ n2_ n3_ n4_ n5_ n6_ n7_ n8_ n9_ n10_ n11_ n12_ n13_
    have hHeld : w23.cell? ⟨gb167, 0, none⟩ = some (.int .i64 a0_0) ∧ w23.cell? ⟨gb167, 1, none⟩ = some (.int .i64 a0_1) ∧ w23.cell? ⟨gb167, 2, none⟩ = some (.int .i64 a0_2) ∧ w23.cell? ⟨gb167, 3, none⟩ = some (.int .i64 a0_3) ∧ w23.cell? ⟨gb167, 4, none⟩ = some (.int .i64 a0_4) ∧ w23.cell? ⟨gb167, 5, none⟩ = some (.bool a0_5) ∧ w23.cell? ⟨gb167, 6, none⟩ = some (.int .i64 a0_6) ∧ w23.cell? ⟨gb167, 7, none⟩ = some (.int .i64 a0_7) := hS_
    refine norm_ (a' := ?_) ?_ ?_
    rotate_left
    ·simp only [putAll, Act.put, List.setIfInBounds_toArray, List.set_cons_zero, List.set_cons_succ]
     rfl
    refine one_ (i := 19) (N := some 23) (bA 23 3145727) rfl rfl (one_of HT_.out (by kernel_rfl)) (by decide) (fun K hK => ?_)
    refine goes_ Try.func23 (by kernel_rfl) rfl #[.int .i64 a0_7, .int .i64 (-2147483647), .int .i64 2147483647] (by rfl) rfl rfl argN ?_
    with_reducible refine (marigraphbook_Within.calls k a0_7 (-2147483647) 2147483647 t185 _ A9.out).mono ?_
    rintro e w' ⟨rfl, ⟨nd, rfl⟩⟩
    refine ⟨_, rfl, ?_⟩
    obtain ⟨Ao24, co24, eo24⟩ := Kd.R_slice HO183.out
    (first | subst eo24 | (injection eo24 with f1_ f2_ f3_; have f4_ := f1_.symm; have f5_ := f3_.symm; clear f1_ f2_ f3_; subst f4_; subst f5_))
    refine hK.out _ _ ⟨(blk_cell BK167.out 0).trans rfl, (blk_cell BK167.out 1).trans rfl, (blk_cell BK167.out 2).trans rfl, (blk_cell BK167.out 3).trans rfl, (blk_cell BK167.out 4).trans rfl, (blk_cell BK167.out 5).trans rfl, (blk_cell BK167.out 6).trans rfl, (blk_cell BK167.out 7).trans rfl⟩ (fun hHeld => ?_)
    clear hK K
    refine norm_ (a' := ?_) ?_ ?_
    rotate_left
    ·show Act.put _ (some 23) _ = _
     simp only [Act.put, List.setIfInBounds_toArray, List.set_cons_zero, List.set_cons_succ, i64_w, i32_w]
     rfl
    refine pA 20 (some 24) (bA 23 4194303) HT_.out ?_
    exact norm_ (by first | (simp only [putAll, Act.put, List.setIfInBounds_toArray, List.set_cons_zero, List.set_cons_succ]; done) | (simp only [putAll, Act.put, List.setIfInBounds_toArray, List.set_cons_zero, List.set_cons_succ]; rfl)) (hJ0_3_4_7_8_11_13_16_19_21 (v170, v174, v178, .slice Ao24 y181.length co24, gb186) _ ⟨hHeld, (rowN HO171.out), (rowN HO175.out), (rowN HO179.out), (rowN HO183.out), (blkN BK167.out), (blkN BK168.out), (blkN BK186.out), GW186.out, GE186.out, NB167_186.out, NB186_167.out, NB168_186.out, NB186_168.out, (belS HB.out)⟩)
  ·skip
   rintro ⟨v170, v174, v178, v182⟩ w23 ⟨hS_, h0_, h1_, h2_, h3_, h4_, h5_, h6_⟩
   have n0_ : Aside0 (Kd.R Kd.string 9 w23 w.heap.size (fun k_ => some k_ ≠ (v174 : Value).ownBlock ∧ some k_ ≠ (v178 : Value).ownBlock) v170 t169) := ⟨h0_⟩
   have n1_ : Aside0 (Kd.R Kd.string 9 w23 w.heap.size (fun k_ => some k_ ≠ (v170 : Value).ownBlock ∧ some k_ ≠ (v178 : Value).ownBlock) v174 t173) := ⟨h1_⟩
   have n2_ : Aside0 (Kd.R Kd.string 9 w23 w.heap.size (fun k_ => some k_ ≠ (v170 : Value).ownBlock ∧ some k_ ≠ (v174 : Value).ownBlock) v178 t177) := ⟨h2_⟩
   have n3_ : Aside0 (Kd.R k25 25 w23 w.heap.size (fun _ => True) v182 y181) := ⟨h3_⟩
   have n4_ : Aside0 (w23.heap[gb167]? = some (.cells #[.int .i64 a0_0, .int .i64 a0_1, .int .i64 a0_2, .int .i64 a0_3, .int .i64 a0_4, .bool a0_5, .int .i64 a0_6, .int .i64 a0_7] 34 (0, 0))) := ⟨h4_⟩
   have n5_ : Aside0 (w23.heap[gb168]? = some (.cells #[.string (⟨#[]⟩ : ByteArray), .slice none 0 0, .int .i64 0, .int .i64 0] 31 (0, 0))) := ⟨h5_⟩
   have n6_ : Aside0 (Below w.heap.size w w23) := ⟨h6_⟩
   clear BK167
   clear BK168
   clear HB
   clear h0_ h1_ h2_ h3_ h4_ h5_ h6_
   have HO171 := n0_
   have HO175 := n1_
   have HO179 := n2_
   have HO183 := n3_
   have BK167 := n4_
   have BK168 := n5_
   have HB := n6_
   clear n0_ n1_ n2_ n3_ n4_ n5_ n6_
   have hHeld : w23.cell? ⟨gb167, 0, none⟩ = some (.int .i64 a0_0) ∧ w23.cell? ⟨gb167, 1, none⟩ = some (.int .i64 a0_1) ∧ w23.cell? ⟨gb167, 2, none⟩ = some (.int .i64 a0_2) ∧ w23.cell? ⟨gb167, 3, none⟩ = some (.int .i64 a0_3) ∧ w23.cell? ⟨gb167, 4, none⟩ = some (.int .i64 a0_4) ∧ w23.cell? ⟨gb167, 5, none⟩ = some (.bool a0_5) ∧ w23.cell? ⟨gb167, 6, none⟩ = some (.int .i64 a0_6) ∧ w23.cell? ⟨gb167, 7, none⟩ = some (.int .i64 a0_7) := hS_
   obtain ⟨Ao24, co24, eo24⟩ := Kd.R_slice HO183.out
   (first | subst eo24 | (injection eo24 with f1_ f2_ f3_; have f4_ := f1_.symm; have f5_ := f3_.symm; clear f1_ f2_ f3_; subst f4_; subst f5_))
   refine norm_ (a' := ?_) ?_ ?_
   rotate_left
   ·simp only [putAll, Act.put, List.setIfInBounds_toArray, List.set_cons_zero, List.set_cons_succ]
    rfl
   refine one_ (i := 21) (N := some 3) (bA 23 4194303) rfl rfl (one_of HT_.out (by kernel_rfl)) (by decide) (fun K hK => ?_)
   refine box_step ?hg (N := 3) ?hd (cs := #[.string (⟨#[]⟩ : ByteArray), .slice none 0 0, .int .i64 0, .int .i64 0]) (t := 31) ?hr ?_; (case hd => rfl); (case hg => rfl); (case hr => first | (go_simp; done) | (go_simp; rfl))
   intro gb186 hg w25 hbox hb
   have n0_ := Aside0.mk (Kd.R_below (rowN HO171.out) hb)
   have n1_ := Aside0.mk (Kd.R_below (rowN HO175.out) hb)
   have n2_ := Aside0.mk (Kd.R_below (rowN HO179.out) hb)
   have n3_ := Aside0.mk (Kd.R_below (rowN HO183.out) hb)
   have n4_ := Aside0.mk (bkB BK167.out hb)
   have n5_ := Aside0.mk (bkB BK168.out hb)
   have n6_ := Aside0.mk (below_step (belS HB.out) hb)
   have n7_ := Aside0.mk (hbox)
   have n8_ := Aside0.mk (szB hg HB.out)
   have n9_ := Aside0.mk (szB hg HB.out)
   have n10_ := Aside0.mk ((bk1 hg BK167.out))
   have n11_ := Aside0.mk ((bk2 hg BK167.out))
   have n12_ := Aside0.mk ((bk1 hg BK168.out))
   have n13_ := Aside0.mk ((bk2 hg BK168.out))
   clear HO171
   clear HO175
   clear HO179
   clear HO183
   clear BK167
   clear BK168
   clear HB
   have HO171 := n0_
   have HO175 := n1_
   have HO179 := n2_
   have HO183 := n3_
   have BK167 := n4_
   have BK168 := n5_
   have HB := n6_
   have BK186 := n7_
   have GW186 := n8_
   have GE186 := n9_
   have NB167_186 := n10_
   have NB186_167 := n11_
   have NB168_186 := n12_
   have NB186_168 := n13_
   clear n0_ n1_ n2_ n3_ n4_ n5_ n6_ n7_ n8_ n9_ n10_ n11_ n12_ n13_
   clear hb hbox hg
   refine hK.out _ _ ⟨(blk_cell BK167.out 0).trans rfl, (blk_cell BK167.out 1).trans rfl, (blk_cell BK167.out 2).trans rfl, (blk_cell BK167.out 3).trans rfl, (blk_cell BK167.out 4).trans rfl, (blk_cell BK167.out 5).trans rfl, (blk_cell BK167.out 6).trans rfl, (blk_cell BK167.out 7).trans rfl⟩ (fun hHeld => ?_)
   clear hK K
   refine norm_ (a' := ?_) ?_ ?_
   rotate_left
   ·show Act.put _ (some 3) _ = _
    simp only [Act.put, List.setIfInBounds_toArray, List.set_cons_zero, List.set_cons_succ, i64_w, i32_w]
    rfl
   exact norm_ (by first | (simp only [putAll, Act.put, List.setIfInBounds_toArray, List.set_cons_zero, List.set_cons_succ]; done) | (simp only [putAll, Act.put, List.setIfInBounds_toArray, List.set_cons_zero, List.set_cons_succ]; rfl)) (hJ0_3_4_7_8_11_13_16_19_21 (v170, v174, v178, .slice Ao24 y181.length co24, gb186) _ ⟨hHeld, (rowN HO171.out), (rowN HO175.out), (rowN HO179.out), (rowN HO183.out), (blkN BK167.out), (blkN BK168.out), (blkN BK186.out), GW186.out, GE186.out, NB167_186.out, NB186_167.out, NB168_186.out, NB186_168.out, (belS HB.out)⟩)
 rintro ⟨v170, v174, v178, v182, gb186⟩ w24 ⟨hS_, h0_, h1_, h2_, h3_, h4_, h5_, h6_, h7_, h8_, h9_, h10_, h11_, h12_, h13_⟩
 have n0_ : Aside0 (Kd.R Kd.string 9 w24 w.heap.size (fun k_ => some k_ ≠ (v174 : Value).ownBlock ∧ some k_ ≠ (v178 : Value).ownBlock) v170 t169) := ⟨h0_⟩
 have n1_ : Aside0 (Kd.R Kd.string 9 w24 w.heap.size (fun k_ => some k_ ≠ (v170 : Value).ownBlock ∧ some k_ ≠ (v178 : Value).ownBlock) v174 t173) := ⟨h1_⟩
 have n2_ : Aside0 (Kd.R Kd.string 9 w24 w.heap.size (fun k_ => some k_ ≠ (v170 : Value).ownBlock ∧ some k_ ≠ (v174 : Value).ownBlock) v178 t177) := ⟨h2_⟩
 have n3_ : Aside0 (Kd.R k25 25 w24 w.heap.size (fun _ => True) v182 y181) := ⟨h3_⟩
 have n4_ : Aside0 (w24.heap[gb167]? = some (.cells #[.int .i64 a0_0, .int .i64 a0_1, .int .i64 a0_2, .int .i64 a0_3, .int .i64 a0_4, .bool a0_5, .int .i64 a0_6, .int .i64 a0_7] 34 (0, 0))) := ⟨h4_⟩
 have n5_ : Aside0 (w24.heap[gb168]? = some (.cells #[.string (⟨#[]⟩ : ByteArray), .slice none 0 0, .int .i64 0, .int .i64 0] 31 (0, 0))) := ⟨h5_⟩
 have n6_ : Aside0 (w24.heap[gb186]? = some (.cells #[.string (⟨#[]⟩ : ByteArray), .slice none 0 0, .int .i64 0, .int .i64 0] 31 (0, 0))) := ⟨h6_⟩
 have n7_ : Aside0 (w.heap.size ≤ gb186) := ⟨h7_⟩
 have n8_ : Aside0 (w.heap.size ≤ gb186) := ⟨h8_⟩
 have n9_ : Aside0 (gb167 ≠ gb186) := ⟨h9_⟩
 have n10_ : Aside0 (gb186 ≠ gb167) := ⟨h10_⟩
 have n11_ : Aside0 (gb168 ≠ gb186) := ⟨h11_⟩
 have n12_ : Aside0 (gb186 ≠ gb168) := ⟨h12_⟩
 have n13_ : Aside0 (Below w.heap.size w w24) := ⟨h13_⟩
 clear BK167
 clear BK168
 clear HB
 clear h0_ h1_ h2_ h3_ h4_ h5_ h6_ h7_ h8_ h9_ h10_ h11_ h12_ h13_
 have HO171 := n0_
 have HO175 := n1_
 have HO179 := n2_
 have HO183 := n3_
 have BK167 := n4_
 have BK168 := n5_
 have BK186 := n6_
 have GW186 := n7_
 have GE186 := n8_
 have NB167_186 := n9_
 have NB186_167 := n10_
 have NB168_186 := n11_
 have NB186_168 := n12_
 have HB := n13_
 clear n0_ n1_ n2_ n3_ n4_ n5_ n6_ n7_ n8_ n9_ n10_ n11_ n12_ n13_
 have hHeld : w24.cell? ⟨gb167, 0, none⟩ = some (.int .i64 a0_0) ∧ w24.cell? ⟨gb167, 1, none⟩ = some (.int .i64 a0_1) ∧ w24.cell? ⟨gb167, 2, none⟩ = some (.int .i64 a0_2) ∧ w24.cell? ⟨gb167, 3, none⟩ = some (.int .i64 a0_3) ∧ w24.cell? ⟨gb167, 4, none⟩ = some (.int .i64 a0_4) ∧ w24.cell? ⟨gb167, 5, none⟩ = some (.bool a0_5) ∧ w24.cell? ⟨gb167, 6, none⟩ = some (.int .i64 a0_6) ∧ w24.cell? ⟨gb167, 7, none⟩ = some (.int .i64 a0_7) := hS_
 obtain ⟨Ao25, co25, eo25⟩ := Kd.R_slice HO183.out
 (first | subst eo25 | (injection eo25 with f1_ f2_ f3_; have f4_ := f1_.symm; have f5_ := f3_.symm; clear f1_ f2_ f3_; subst f4_; subst f5_))
 refine norm_ (a' := ?_) ?_ ?_
 rotate_left
 ·simp only [putAll, Act.put, List.setIfInBounds_toArray, List.set_cons_zero, List.set_cons_succ]
  rfl
 refine one_ (i := 22) (N := none) (bA 23 8388607) rfl rfl (one_of HT_.out (by kernel_rfl)) (by decide) (fun K hK => ?_)
 have hs26 : w24.cell? ⟨gb186, 0, none⟩ = some (.string (⟨#[]⟩ : ByteArray)) := (blk_cell BK186.out 0).trans rfl
 have hfs26 := blk_frozen BK186.out 0
 have hns26_0 := NB167_186.out
 have hns26_1 := NB168_186.out
 have hms26_0 := NB186_167.out
 have hms26_1 := NB186_168.out
 have hs27 : w24.cell? ⟨gb186, 1, none⟩ = some (.slice none 0 0) := (blk_cell BK186.out 1).trans rfl
 have hfs27 := blk_frozen BK186.out 1
 have hns27_0 := NB167_186.out
 have hns27_1 := NB168_186.out
 have hms27_0 := NB186_167.out
 have hms27_1 := NB186_168.out
 have hs28 : w24.cell? ⟨gb186, 2, none⟩ = some (.int .i64 0) := (blk_cell BK186.out 2).trans rfl
 have hfs28 := blk_frozen BK186.out 2
 have hns28_0 := NB167_186.out
 have hns28_1 := NB168_186.out
 have hms28_0 := NB186_167.out
 have hms28_1 := NB186_168.out
 have hs29 : w24.cell? ⟨gb186, 3, none⟩ = some (.int .i64 0) := (blk_cell BK186.out 3).trans rfl
 have hfs29 := blk_frozen BK186.out 3
 have hns29_0 := NB167_186.out
 have hns29_1 := NB168_186.out
 have hms29_0 := NB186_167.out
 have hms29_1 := NB186_168.out
 refine skip_ (w1 := ?_) (by rfl) rfl ?_ ?_
 rotate_left
 ·go_simp
  rfl
 refine hK.out _ _ ⟨((cell_far (p := ⟨gb186, _, none⟩) NB167_186.out _).trans (((cell_far (p := ⟨gb186, _, none⟩) NB167_186.out _).trans (((cell_far (p := ⟨gb186, _, none⟩) NB167_186.out _).trans (((cell_far (p := ⟨gb186, _, none⟩) NB167_186.out _).trans (hHeld.1)))))))), ((cell_far (p := ⟨gb186, _, none⟩) NB167_186.out _).trans (((cell_far (p := ⟨gb186, _, none⟩) NB167_186.out _).trans (((cell_far (p := ⟨gb186, _, none⟩) NB167_186.out _).trans (((cell_far (p := ⟨gb186, _, none⟩) NB167_186.out _).trans (hHeld.2.1)))))))), ((cell_far (p := ⟨gb186, _, none⟩) NB167_186.out _).trans (((cell_far (p := ⟨gb186, _, none⟩) NB167_186.out _).trans (((cell_far (p := ⟨gb186, _, none⟩) NB167_186.out _).trans (((cell_far (p := ⟨gb186, _, none⟩) NB167_186.out _).trans (hHeld.2.2.1)))))))), ((cell_far (p := ⟨gb186, _, none⟩) NB167_186.out _).trans (((cell_far (p := ⟨gb186, _, none⟩) NB167_186.out _).trans (((cell_far (p := ⟨gb186, _, none⟩) NB167_186.out _).trans (((cell_far (p := ⟨gb186, _, none⟩) NB167_186.out _).trans (hHeld.2.2.2.1)))))))), ((cell_far (p := ⟨gb186, _, none⟩) NB167_186.out _).trans (((cell_far (p := ⟨gb186, _, none⟩) NB167_186.out _).trans (((cell_far (p := ⟨gb186, _, none⟩) NB167_186.out _).trans (((cell_far (p := ⟨gb186, _, none⟩) NB167_186.out _).trans (hHeld.2.2.2.2.1)))))))), ((cell_far (p := ⟨gb186, _, none⟩) NB167_186.out _).trans (((cell_far (p := ⟨gb186, _, none⟩) NB167_186.out _).trans (((cell_far (p := ⟨gb186, _, none⟩) NB167_186.out _).trans (((cell_far (p := ⟨gb186, _, none⟩) NB167_186.out _).trans (hHeld.2.2.2.2.2.1)))))))), ((cell_far (p := ⟨gb186, _, none⟩) NB167_186.out _).trans (((cell_far (p := ⟨gb186, _, none⟩) NB167_186.out _).trans (((cell_far (p := ⟨gb186, _, none⟩) NB167_186.out _).trans (((cell_far (p := ⟨gb186, _, none⟩) NB167_186.out _).trans (hHeld.2.2.2.2.2.2.1)))))))), ((cell_far (p := ⟨gb186, _, none⟩) NB167_186.out _).trans (((cell_far (p := ⟨gb186, _, none⟩) NB167_186.out _).trans (((cell_far (p := ⟨gb186, _, none⟩) NB167_186.out _).trans (((cell_far (p := ⟨gb186, _, none⟩) NB167_186.out _).trans (hHeld.2.2.2.2.2.2.2))))))))⟩ (fun hHeld => ?_)
 clear hK K
 refine done_ (done_of HT_.out (by kernel_rfl)) ?_
 go_upto_region 2 with (fail)
 go_cut [37] (fun v37 wc => ∃ (kq : Nat) (x37_9 : Bool), v37 = .bool x37_9 ∧ Aside0 (marigraphkeep_Of.j0 kq x37_9 a0_0 a0_1 a0_2 a0_3 a0_4 a0_5 a0_6 a0_7 t172 y181 t184 t185 = some (r1, r2, r3, r4)) ∧ Aside0 (kq ≤ k) ∧ Aside0 (Kd.R k25 25 wc w.heap.size (fun _ => True) (.slice Ao25 y181.length co25) y181) ∧ Aside0 (wc.heap[gb167]? = some (.cells #[.int .i64 a0_0, .int .i64 a0_1, .int .i64 a0_2, .int .i64 a0_3, .int .i64 a0_4, .bool a0_5, .int .i64 a0_6, .int .i64 a0_7] 34 (0, 0))) ∧ Aside0 (wc.heap[gb168]? = some (.cells #[.string (⟨#[]⟩ : ByteArray), (.slice none 0 0), .int .i64 0, .int .i64 0] 31 (0, 0))) ∧ Aside0 (wc.heap[gb186]? = some (.cells #[.string t172, (.slice Ao25 y181.length co25), .int .i64 t184, .int .i64 t185] 31 (0, 0))) ∧ Aside0 (Below w.heap.size w wc))
 case first =>
  have H := HC10.out
  clear HC10
  by_cases c30 : a0_5 = true
  ·subst c30
   have H1 : ((marigraphkeep_Keys.f).bind fun t187 => ((marigraphkeep_pick.f k t187 a0_1).bind fun t190 => ((marigraphkeep_Keys.f).bind fun t191 => ((marigraphkeep_pick.f k t191 a0_3).bind fun t194 => (marigraphkeep_Of.j0 k (t190.toList != t194.toList) a0_0 a0_1 a0_2 a0_3 a0_4 true a0_6 a0_7 t172 y181 t184 t185))))) = some (r1, r2, r3, r4) := by rw [if_pos rfl] at H; exact H
   clear H
   have H := H1
   clear H1
   replace H := Option.bind_eq_some_iff.mp H
   obtain ⟨t187, A310, H⟩ := H
   replace H : ((marigraphkeep_pick.f k t187 a0_1).bind fun t190 => ((marigraphkeep_Keys.f).bind fun t191 => ((marigraphkeep_pick.f k t191 a0_3).bind fun t194 => (marigraphkeep_Of.j0 k (t190.toList != t194.toList) a0_0 a0_1 a0_2 a0_3 a0_4 true a0_6 a0_7 t172 y181 t184 t185)))) = some (r1, r2, r3, r4) := H
   have A31 := Aside0.mk A310
   clear A310
   replace H := Option.bind_eq_some_iff.mp H
   obtain ⟨t190, A320, H⟩ := H
   replace H : ((marigraphkeep_Keys.f).bind fun t191 => ((marigraphkeep_pick.f k t191 a0_3).bind fun t194 => (marigraphkeep_Of.j0 k (t190.toList != t194.toList) a0_0 a0_1 a0_2 a0_3 a0_4 true a0_6 a0_7 t172 y181 t184 t185))) = some (r1, r2, r3, r4) := H
   have A32 := Aside0.mk A320
   clear A320
   replace H := Option.bind_eq_some_iff.mp H
   obtain ⟨t191, A330, H⟩ := H
   replace H : ((marigraphkeep_pick.f k t191 a0_3).bind fun t194 => (marigraphkeep_Of.j0 k (t190.toList != t194.toList) a0_0 a0_1 a0_2 a0_3 a0_4 true a0_6 a0_7 t172 y181 t184 t185)) = some (r1, r2, r3, r4) := H
   have A33 := Aside0.mk A330
   clear A330
   replace H := Option.bind_eq_some_iff.mp H
   obtain ⟨t194, A340, H⟩ := H
   replace H : (marigraphkeep_Of.j0 k (t190.toList != t194.toList) a0_0 a0_1 a0_2 a0_3 a0_4 true a0_6 a0_7 t172 y181 t184 t185) = some (r1, r2, r3, r4) := H
   have A34 := Aside0.mk A340
   clear A340
   have H' := Aside0.mk H
   clear H
   try go_wp2
   have n0_ : Aside0 (Kd.R Kd.string 9 ((((w24.setCell ⟨gb186, 0, none⟩ (.string t172)).setCell ⟨gb186, 1, none⟩ (.slice Ao25 y181.length co25)).setCell ⟨gb186, 2, none⟩ (.int .i64 t184)).setCell ⟨gb186, 3, none⟩ (.int .i64 t185)) w.heap.size (fun k_ => some k_ ≠ (v174 : Value).ownBlock ∧ some k_ ≠ (v178 : Value).ownBlock) v170 t169) := ⟨by (with_reducible repeat (first | apply Kd.R_alloc | apply Kd.R_drewN | apply Kd.R_drew)); exact Kd.R_mono (Kd.R_far (p := ⟨gb186, 3, none⟩) (Kd.R_far (p := ⟨gb186, 2, none⟩) (Kd.R_far (p := ⟨gb186, 1, none⟩) (Kd.R_far (p := ⟨gb186, 0, none⟩) (Kd.R_types HO171.out BK186.out (by decide)) (fun _ hk => hk.2) (.string t172)) (fun _ hk => hk.2) (.slice Ao25 y181.length co25)) (fun _ hk => hk.2) (.int .i64 t184)) (fun _ hk => hk.2) (.int .i64 t185)) (fun _ hk => ⟨hk.1.1, hk.1.2⟩)⟩
   have n1_ : Aside0 (Kd.R Kd.string 9 ((((w24.setCell ⟨gb186, 0, none⟩ (.string t172)).setCell ⟨gb186, 1, none⟩ (.slice Ao25 y181.length co25)).setCell ⟨gb186, 2, none⟩ (.int .i64 t184)).setCell ⟨gb186, 3, none⟩ (.int .i64 t185)) w.heap.size (fun k_ => some k_ ≠ (v170 : Value).ownBlock ∧ some k_ ≠ (v178 : Value).ownBlock) v174 t173) := ⟨by (with_reducible repeat (first | apply Kd.R_alloc | apply Kd.R_drewN | apply Kd.R_drew)); exact Kd.R_mono (Kd.R_far (p := ⟨gb186, 3, none⟩) (Kd.R_far (p := ⟨gb186, 2, none⟩) (Kd.R_far (p := ⟨gb186, 1, none⟩) (Kd.R_far (p := ⟨gb186, 0, none⟩) (Kd.R_types HO175.out BK186.out (by decide)) (fun _ hk => hk.2) (.string t172)) (fun _ hk => hk.2) (.slice Ao25 y181.length co25)) (fun _ hk => hk.2) (.int .i64 t184)) (fun _ hk => hk.2) (.int .i64 t185)) (fun _ hk => ⟨hk.1.1, hk.1.2⟩)⟩
   have n2_ : Aside0 (Kd.R Kd.string 9 ((((w24.setCell ⟨gb186, 0, none⟩ (.string t172)).setCell ⟨gb186, 1, none⟩ (.slice Ao25 y181.length co25)).setCell ⟨gb186, 2, none⟩ (.int .i64 t184)).setCell ⟨gb186, 3, none⟩ (.int .i64 t185)) w.heap.size (fun k_ => some k_ ≠ (v170 : Value).ownBlock ∧ some k_ ≠ (v174 : Value).ownBlock) v178 t177) := ⟨by (with_reducible repeat (first | apply Kd.R_alloc | apply Kd.R_drewN | apply Kd.R_drew)); exact Kd.R_mono (Kd.R_far (p := ⟨gb186, 3, none⟩) (Kd.R_far (p := ⟨gb186, 2, none⟩) (Kd.R_far (p := ⟨gb186, 1, none⟩) (Kd.R_far (p := ⟨gb186, 0, none⟩) (Kd.R_types HO179.out BK186.out (by decide)) (fun _ hk => hk.2) (.string t172)) (fun _ hk => hk.2) (.slice Ao25 y181.length co25)) (fun _ hk => hk.2) (.int .i64 t184)) (fun _ hk => hk.2) (.int .i64 t185)) (fun _ hk => ⟨hk.1.1, hk.1.2⟩)⟩
   have n3_ : Aside0 (Kd.R k25 25 ((((w24.setCell ⟨gb186, 0, none⟩ (.string t172)).setCell ⟨gb186, 1, none⟩ (.slice Ao25 y181.length co25)).setCell ⟨gb186, 2, none⟩ (.int .i64 t184)).setCell ⟨gb186, 3, none⟩ (.int .i64 t185)) w.heap.size (fun _ => True) (.slice Ao25 y181.length co25) y181) := ⟨by (with_reducible repeat (first | apply Kd.R_alloc | apply Kd.R_drewN | apply Kd.R_drew)); exact Kd.R_mono (Kd.R_far (p := ⟨gb186, 3, none⟩) (Kd.R_far (p := ⟨gb186, 2, none⟩) (Kd.R_far (p := ⟨gb186, 1, none⟩) (Kd.R_far (p := ⟨gb186, 0, none⟩) (Kd.R_types HO183.out BK186.out (by decide)) (fun _ hk => hk.2) (.string t172)) (fun _ hk => hk.2) (.slice Ao25 y181.length co25)) (fun _ hk => hk.2) (.int .i64 t184)) (fun _ hk => hk.2) (.int .i64 t185)) (fun _ hk => trivial)⟩
   have n4_ : Aside0 (((((w24.setCell ⟨gb186, 0, none⟩ (.string t172)).setCell ⟨gb186, 1, none⟩ (.slice Ao25 y181.length co25)).setCell ⟨gb186, 2, none⟩ (.int .i64 t184)).setCell ⟨gb186, 3, none⟩ (.int .i64 t185)).heap[gb167]? = some (.cells #[.int .i64 a0_0, .int .i64 a0_1, .int .i64 a0_2, .int .i64 a0_3, .int .i64 a0_4, .bool true, .int .i64 a0_6, .int .i64 a0_7] 34 (0, 0))) := ⟨blkF BK167.out⟩
   have n5_ : Aside0 (((((w24.setCell ⟨gb186, 0, none⟩ (.string t172)).setCell ⟨gb186, 1, none⟩ (.slice Ao25 y181.length co25)).setCell ⟨gb186, 2, none⟩ (.int .i64 t184)).setCell ⟨gb186, 3, none⟩ (.int .i64 t185)).heap[gb168]? = some (.cells #[.string (⟨#[]⟩ : ByteArray), .slice none 0 0, .int .i64 0, .int .i64 0] 31 (0, 0))) := ⟨blkF BK168.out⟩
   have n6_ : Aside0 (((((w24.setCell ⟨gb186, 0, none⟩ (.string t172)).setCell ⟨gb186, 1, none⟩ (.slice Ao25 y181.length co25)).setCell ⟨gb186, 2, none⟩ (.int .i64 t184)).setCell ⟨gb186, 3, none⟩ (.int .i64 t185)).heap[gb186]? = some (.cells #[.string t172, .slice Ao25 y181.length co25, .int .i64 t184, .int .i64 t185] 31 (0, 0))) := ⟨by (with_reducible repeat (first | refine blk_drewN ?_ _ | refine blk_drew ?_ | refine blk_alloc ?_ _)); refine blk_put (cs := #[.string t172, .slice Ao25 y181.length co25, .int .i64 t184, .int .i64 0]) ?_ 3 _ rfl; (with_reducible repeat (first | refine blk_drewN ?_ _ | refine blk_drew ?_ | refine blk_alloc ?_ _)); refine blk_put (cs := #[.string t172, .slice Ao25 y181.length co25, .int .i64 0, .int .i64 0]) ?_ 2 _ rfl; (with_reducible repeat (first | refine blk_drewN ?_ _ | refine blk_drew ?_ | refine blk_alloc ?_ _)); refine blk_put (cs := #[.string t172, .slice none 0 0, .int .i64 0, .int .i64 0]) ?_ 1 _ rfl; (with_reducible repeat (first | refine blk_drewN ?_ _ | refine blk_drew ?_ | refine blk_alloc ?_ _)); refine blk_put (cs := #[.string (⟨#[]⟩ : ByteArray), .slice none 0 0, .int .i64 0, .int .i64 0]) ?_ 0 _ rfl; (with_reducible repeat (first | refine blk_drewN ?_ _ | refine blk_drew ?_ | refine blk_alloc ?_ _)); exact BK186.out⟩
   have n7_ : Aside0 (Below w.heap.size w ((((w24.setCell ⟨gb186, 0, none⟩ (.string t172)).setCell ⟨gb186, 1, none⟩ (.slice Ao25 y181.length co25)).setCell ⟨gb186, 2, none⟩ (.int .i64 t184)).setCell ⟨gb186, 3, none⟩ (.int .i64 t185))) := ⟨(belS HB.out)⟩
   (try clear HO171)
   (try clear HO175)
   (try clear HO179)
   (try clear HO183)
   (try clear BK167)
   (try clear BK168)
   (try clear BK186)
   (try clear HB)
   generalize ((((w24.setCell ⟨gb186, 0, none⟩ (.string t172)).setCell ⟨gb186, 1, none⟩ (.slice Ao25 y181.length co25)).setCell ⟨gb186, 2, none⟩ (.int .i64 t184)).setCell ⟨gb186, 3, none⟩ (.int .i64 t185)) = w35 at n0_ n1_ n2_ n3_ n4_ n5_ n6_ n7_ ⊢
   have HO171 := n0_
   have HO175 := n1_
   have HO179 := n2_
   have HO183 := n3_
   have BK167 := n4_
   have BK168 := n5_
   have BK186 := n6_
   have HB := n7_
   clear n0_ n1_ n2_ n3_ n4_ n5_ n6_ n7_
   have n0_ := Aside0.mk (Kd.R_drew HO171.out)
   have n1_ := Aside0.mk (Kd.R_drew HO175.out)
   have n2_ := Aside0.mk (Kd.R_drew HO179.out)
   have n3_ := Aside0.mk (Kd.R_drew HO183.out)
   have n4_ := Aside0.mk (blk_drew BK167.out)
   have n5_ := Aside0.mk (blk_drew BK168.out)
   have n6_ := Aside0.mk (blk_drew BK186.out)
   have n7_ := Aside0.mk (below_drew1 HB.out)
   clear HO171
   clear HO175
   clear HO179
   clear HO183
   clear BK167
   clear BK168
   clear BK186
   clear HB
   have HO171 := n0_
   have HO175 := n1_
   have HO179 := n2_
   have HO183 := n3_
   have BK167 := n4_
   have BK168 := n5_
   have BK186 := n6_
   have HB := n7_
   clear n0_ n1_ n2_ n3_ n4_ n5_ n6_ n7_
   refine start_ (n := 13) (S := fun w' => w'.cell? ⟨gb167, 0, none⟩ = some (.int .i64 a0_0) ∧ w'.cell? ⟨gb167, 1, none⟩ = some (.int .i64 a0_1) ∧ w'.cell? ⟨gb167, 2, none⟩ = some (.int .i64 a0_2) ∧ w'.cell? ⟨gb167, 3, none⟩ = some (.int .i64 a0_3) ∧ w'.cell? ⟨gb167, 4, none⟩ = some (.int .i64 a0_4) ∧ w'.cell? ⟨gb167, 5, none⟩ = some (.bool true) ∧ w'.cell? ⟨gb167, 6, none⟩ = some (.int .i64 a0_6) ∧ w'.cell? ⟨gb167, 7, none⟩ = some (.int .i64 a0_7)) (ds := []) #[false, false, false, false, false, false, false, false, false, false, false, false, false] (by kernel_rfl) rfl rfl ⟨(blk_cell BK167.out 0).trans rfl, (blk_cell BK167.out 1).trans rfl, (blk_cell BK167.out 2).trans rfl, (blk_cell BK167.out 3).trans rfl, (blk_cell BK167.out 4).trans rfl, (blk_cell BK167.out 5).trans rfl, (blk_cell BK167.out 6).trans rfl, (blk_cell BK167.out 7).trans rfl⟩ (fun hHeld => ?_); refine with_tabW marigraphkeep_Of.tab2 marigraphkeep_Of.bits2 (fun HT_ HW_ => ?_)
   generalize w35.drew = w36 at HO171 HO175 HO179 HO183 BK167 BK168 BK186 HB hHeld ⊢
   refine pA 0 (some 25) (bA 13 1) HT_.out ?_
   refine take_ (i := 1) (N := some 26) (v := ?_) (a' := ?_) (bA 13 3) rfl rfl (take_ofW HT_.out HW_.out (by kernel_rfl)) (fun _ _ _ h => h) (Or.inl ⟨by rfl, ?_⟩) hHeld ?_ ?_
   rotate_left
   ·rintro w' ⟨s0, s1, s2, s3, s4, s5, s6, s7⟩
    go_simp
    with_reducible rfl
   rotate_left
   ·simp only [Act.put, List.setIfInBounds_toArray, List.set_cons_zero, List.set_cons_succ, i64_w, i32_w]
    rfl
   refine pA 2 (some 27) (bA 13 7) HT_.out ?_
   refine pA 4 (some 29) (bA 13 23) HT_.out ?_
   refine pA 8 (some 33) (bA 13 279) HT_.out ?_
   refine take_ (i := 5) (N := some 30) (v := ?_) (a' := ?_) (bA 13 311) rfl rfl (take_ofW HT_.out HW_.out (by kernel_rfl)) (fun _ _ _ h => h) (Or.inl ⟨by rfl, ?_⟩) hHeld ?_ ?_
   rotate_left
   ·rintro w' ⟨s0, s1, s2, s3, s4, s5, s6, s7⟩
    go_simp
    with_reducible rfl
   rotate_left
   ·simp only [Act.put, List.setIfInBounds_toArray, List.set_cons_zero, List.set_cons_succ, i64_w, i32_w]
    rfl
   refine take_ (i := 9) (N := some 34) (v := ?_) (a' := ?_) (bA 13 823) rfl rfl (take_ofW HT_.out HW_.out (by kernel_rfl)) (fun _ _ _ h => h) (Or.inl ⟨by rfl, ?_⟩) hHeld ?_ ?_
   rotate_left
   ·rintro w' ⟨s0, s1, s2, s3, s4, s5, s6, s7⟩
    go_simp
    with_reducible rfl
   rotate_left
   ·simp only [Act.put, List.setIfInBounds_toArray, List.set_cons_zero, List.set_cons_succ, i64_w, i32_w]
    rfl
   refine one_ (i := 3) (N := some 28) (bA 13 831) rfl rfl (one_of HT_.out (by kernel_rfl)) (by decide) (fun K hK => ?_)
   refine goes_ Try.func21 (by kernel_rfl) rfl #[] (by rfl) rfl rfl argN ?_
   with_reducible refine (marigraphkeep_Keys.calls  t187 _ A31.out).mono ?_
   rintro e w37 ⟨v188, rfl, ho0, hb⟩
   refine ⟨_, rfl, ?_⟩
   have n0_ := Aside0.mk (Kd.R_elder' (rowN HO171.out) (Kd.R_base ho0) hb)
   have n1_ := Aside0.mk (Kd.R_elder' (rowN HO175.out) (Kd.R_base ho0) hb)
   have n2_ := Aside0.mk (Kd.R_elder' (rowN HO179.out) (Kd.R_base ho0) hb)
   have n3_ := Aside0.mk (Kd.R_below (rowN HO183.out) hb)
   have n4_ := Aside0.mk (Kd.R_lower (Kd.R_new' (Kd.R_new' (Kd.R_new' ho0 (Kd.R_lt (rowN HO171.out))) (Kd.R_lt (rowN HO175.out))) (Kd.R_lt (rowN HO179.out))) (below_size (belS HB.out)))
   have n5_ := Aside0.mk (bkB BK167.out hb)
   have n6_ := Aside0.mk (bkB BK168.out hb)
   have n7_ := Aside0.mk (bkB BK186.out hb)
   have n8_ := Aside0.mk (below_step (belS HB.out) hb)
   clear HO171
   clear HO175
   clear HO179
   clear HO183
   clear BK167
   clear BK168
   clear BK186
   clear HB
   have HO171 := n0_
   have HO175 := n1_
   have HO179 := n2_
   have HO183 := n3_
   have HO189 := n4_
   have BK167 := n5_
   have BK168 := n6_
   have BK186 := n7_
   have HB := n8_
   clear n0_ n1_ n2_ n3_ n4_ n5_ n6_ n7_ n8_
   (try clear hb)
   (try clear hk)
   (try clear ho0)
   obtain ⟨Ao38, co38, eo38⟩ := Kd.R_slice HO189.out
   (first | subst eo38 | (injection eo38 with f1_ f2_ f3_; have f4_ := f1_.symm; have f5_ := f3_.symm; clear f1_ f2_ f3_; subst f4_; subst f5_))
   refine hK.out _ _ ⟨(blk_cell BK167.out 0).trans rfl, (blk_cell BK167.out 1).trans rfl, (blk_cell BK167.out 2).trans rfl, (blk_cell BK167.out 3).trans rfl, (blk_cell BK167.out 4).trans rfl, (blk_cell BK167.out 5).trans rfl, (blk_cell BK167.out 6).trans rfl, (blk_cell BK167.out 7).trans rfl⟩ (fun hHeld => ?_)
   clear hK K
   refine norm_ (a' := ?_) ?_ ?_
   rotate_left
   ·show Act.put _ (some 28) _ = _
    simp only [Act.put, List.setIfInBounds_toArray, List.set_cons_zero, List.set_cons_succ, i64_w, i32_w]
    rfl
   refine one_ (i := 6) (N := some 31) (bA 13 895) rfl rfl (one_of HT_.out (by kernel_rfl)) (by decide) (fun K hK => ?_)
   refine goes_ Try.func19 (by kernel_rfl) rfl #[.slice Ao38 t187.length co38, .int .i64 a0_1] (by rfl) rfl rfl argN ?_
   with_reducible refine (marigraphkeep_pick.calls k _ _ t187 a0_1 t190 _ ?side1 ?side2 A32.out).mono ?_
   (case side1 => repeat (first | exact (Kd.R_reads' HO189.out).2.2 | (with_reducible refine Kd.C_alloc ?_ _) | (with_reducible refine Kd.C_drewN ?_ _) | (with_reducible refine Kd.C_drew ?_)))
   (case side2 => exact (Kd.R_reads' HO189.out).2.1)
   rintro e w' ⟨rfl, ⟨nd, rfl⟩⟩
   refine ⟨_, rfl, ?_⟩
   refine hK.out _ _ ⟨(blk_cell BK167.out 0).trans rfl, (blk_cell BK167.out 1).trans rfl, (blk_cell BK167.out 2).trans rfl, (blk_cell BK167.out 3).trans rfl, (blk_cell BK167.out 4).trans rfl, (blk_cell BK167.out 5).trans rfl, (blk_cell BK167.out 6).trans rfl, (blk_cell BK167.out 7).trans rfl⟩ (fun hHeld => ?_)
   clear hK K
   refine norm_ (a' := ?_) ?_ ?_
   rotate_left
   ·show Act.put _ (some 31) _ = _
    simp only [Act.put, List.setIfInBounds_toArray, List.set_cons_zero, List.set_cons_succ, i64_w, i32_w]
    rfl
   refine one_ (i := 7) (N := some 32) (bA 13 1023) rfl rfl (one_of HT_.out (by kernel_rfl)) (by decide) (fun K hK => ?_)
   refine goes_ Try.func21 (by kernel_rfl) rfl #[] (by rfl) rfl rfl argN ?_
   with_reducible refine (marigraphkeep_Keys.calls  t191 _ A33.out).mono ?_
   rintro e w39 ⟨v192, rfl, ho0, hb⟩
   refine ⟨_, rfl, ?_⟩
   have n0_ := Aside0.mk (Kd.R_elder' (rowN HO171.out) (Kd.R_base ho0) hb)
   have n1_ := Aside0.mk (Kd.R_elder' (rowN HO175.out) (Kd.R_base ho0) hb)
   have n2_ := Aside0.mk (Kd.R_elder' (rowN HO179.out) (Kd.R_base ho0) hb)
   have n3_ := Aside0.mk (Kd.R_below (rowN HO183.out) hb)
   have n4_ := Aside0.mk (Kd.R_elder' (rowN HO189.out) (Kd.R_base ho0) hb)
   have n5_ := Aside0.mk (Kd.R_lower (Kd.R_new' (Kd.R_new' (Kd.R_new' (Kd.R_new' ho0 (Kd.R_lt (rowN HO171.out))) (Kd.R_lt (rowN HO175.out))) (Kd.R_lt (rowN HO179.out))) (Kd.R_lt (rowN HO189.out))) (below_size (belS HB.out)))
   have n6_ := Aside0.mk (bkB BK167.out hb)
   have n7_ := Aside0.mk (bkB BK168.out hb)
   have n8_ := Aside0.mk (bkB BK186.out hb)
   have n9_ := Aside0.mk (below_step (belS HB.out) hb)
   clear HO171
   clear HO175
   clear HO179
   clear HO183
   clear HO189
   clear BK167
   clear BK168
   clear BK186
   clear HB
   have HO171 := n0_
   have HO175 := n1_
   have HO179 := n2_
   have HO183 := n3_
   have HO189 := n4_
   have HO193 := n5_
   have BK167 := n6_
   have BK168 := n7_
   have BK186 := n8_
   have HB := n9_
   clear n0_ n1_ n2_ n3_ n4_ n5_ n6_ n7_ n8_ n9_
   (try clear hb)
   (try clear hk)
   (try clear ho0)
   obtain ⟨Ao40, co40, eo40⟩ := Kd.R_slice HO193.out
   (first | subst eo40 | (injection eo40 with f1_ f2_ f3_; have f4_ := f1_.symm; have f5_ := f3_.symm; clear f1_ f2_ f3_; subst f4_; subst f5_))
   refine hK.out _ _ ⟨(blk_cell BK167.out 0).trans rfl, (blk_cell BK167.out 1).trans rfl, (blk_cell BK167.out 2).trans rfl, (blk_cell BK167.out 3).trans rfl, (blk_cell BK167.out 4).trans rfl, (blk_cell BK167.out 5).trans rfl, (blk_cell BK167.out 6).trans rfl, (blk_cell BK167.out 7).trans rfl⟩ (fun hHeld => ?_)
   clear hK K
   refine norm_ (a' := ?_) ?_ ?_
   rotate_left
   ·show Act.put _ (some 32) _ = _
    simp only [Act.put, List.setIfInBounds_toArray, List.set_cons_zero, List.set_cons_succ, i64_w, i32_w]
    rfl
   refine one_ (i := 10) (N := some 35) (bA 13 2047) rfl rfl (one_of HT_.out (by kernel_rfl)) (by decide) (fun K hK => ?_)
   refine goes_ Try.func19 (by kernel_rfl) rfl #[.slice Ao40 t191.length co40, .int .i64 a0_3] (by rfl) rfl rfl argN ?_
   with_reducible refine (marigraphkeep_pick.calls k _ _ t191 a0_3 t194 _ ?side1 ?side2 A34.out).mono ?_
   (case side1 => repeat (first | exact (Kd.R_reads' HO193.out).2.2 | (with_reducible refine Kd.C_alloc ?_ _) | (with_reducible refine Kd.C_drewN ?_ _) | (with_reducible refine Kd.C_drew ?_)))
   (case side2 => exact (Kd.R_reads' HO193.out).2.1)
   rintro e w' ⟨rfl, ⟨nd, rfl⟩⟩
   refine ⟨_, rfl, ?_⟩
   refine hK.out _ _ ⟨(blk_cell BK167.out 0).trans rfl, (blk_cell BK167.out 1).trans rfl, (blk_cell BK167.out 2).trans rfl, (blk_cell BK167.out 3).trans rfl, (blk_cell BK167.out 4).trans rfl, (blk_cell BK167.out 5).trans rfl, (blk_cell BK167.out 6).trans rfl, (blk_cell BK167.out 7).trans rfl⟩ (fun hHeld => ?_)
   clear hK K
   refine norm_ (a' := ?_) ?_ ?_
   rotate_left
   ·show Act.put _ (some 35) _ = _
    simp only [Act.put, List.setIfInBounds_toArray, List.set_cons_zero, List.set_cons_succ, i64_w, i32_w]
    rfl
   refine pA 11 (some 36) (bA 13 4095) HT_.out ?_
   refine pA 12 (some 37) (bA 13 8191) HT_.out ?_
   refine done_ (done_of HT_.out (by kernel_rfl)) ?_
   try go_wp2
   go_meet
   case rel => exact ⟨_, ((t190.toList != t194.toList)), (by first | rfl | (simp; done) | (simp [*]; done)), H', ⟨by first | omega | exact Nat.le_refl _⟩, ⟨(rowN HO183.out)⟩, ⟨blkN BK167.out⟩, ⟨blkN BK168.out⟩, ⟨blkN BK186.out⟩, ⟨(belS HB.out)⟩⟩
  ·replace c30 := Bool.eq_false_iff.mpr c30
   subst c30
   have H1 : (marigraphkeep_Of.j0 k false a0_0 a0_1 a0_2 a0_3 a0_4 false a0_6 a0_7 t172 y181 t184 t185) = some (r1, r2, r3, r4) := by rw [if_neg (show ¬ (false = true) by decide)] at H; exact H
   clear H
   have H := H1
   clear H1
   have H' := Aside0.mk H
   clear H
   try go_wp2
   have n0_ : Aside0 (Kd.R Kd.string 9 ((((w24.setCell ⟨gb186, 0, none⟩ (.string t172)).setCell ⟨gb186, 1, none⟩ (.slice Ao25 y181.length co25)).setCell ⟨gb186, 2, none⟩ (.int .i64 t184)).setCell ⟨gb186, 3, none⟩ (.int .i64 t185)) w.heap.size (fun k_ => some k_ ≠ (v174 : Value).ownBlock ∧ some k_ ≠ (v178 : Value).ownBlock) v170 t169) := ⟨by (with_reducible repeat (first | apply Kd.R_alloc | apply Kd.R_drewN | apply Kd.R_drew)); exact Kd.R_mono (Kd.R_far (p := ⟨gb186, 3, none⟩) (Kd.R_far (p := ⟨gb186, 2, none⟩) (Kd.R_far (p := ⟨gb186, 1, none⟩) (Kd.R_far (p := ⟨gb186, 0, none⟩) (Kd.R_types HO171.out BK186.out (by decide)) (fun _ hk => hk.2) (.string t172)) (fun _ hk => hk.2) (.slice Ao25 y181.length co25)) (fun _ hk => hk.2) (.int .i64 t184)) (fun _ hk => hk.2) (.int .i64 t185)) (fun _ hk => ⟨hk.1.1, hk.1.2⟩)⟩
   have n1_ : Aside0 (Kd.R Kd.string 9 ((((w24.setCell ⟨gb186, 0, none⟩ (.string t172)).setCell ⟨gb186, 1, none⟩ (.slice Ao25 y181.length co25)).setCell ⟨gb186, 2, none⟩ (.int .i64 t184)).setCell ⟨gb186, 3, none⟩ (.int .i64 t185)) w.heap.size (fun k_ => some k_ ≠ (v170 : Value).ownBlock ∧ some k_ ≠ (v178 : Value).ownBlock) v174 t173) := ⟨by (with_reducible repeat (first | apply Kd.R_alloc | apply Kd.R_drewN | apply Kd.R_drew)); exact Kd.R_mono (Kd.R_far (p := ⟨gb186, 3, none⟩) (Kd.R_far (p := ⟨gb186, 2, none⟩) (Kd.R_far (p := ⟨gb186, 1, none⟩) (Kd.R_far (p := ⟨gb186, 0, none⟩) (Kd.R_types HO175.out BK186.out (by decide)) (fun _ hk => hk.2) (.string t172)) (fun _ hk => hk.2) (.slice Ao25 y181.length co25)) (fun _ hk => hk.2) (.int .i64 t184)) (fun _ hk => hk.2) (.int .i64 t185)) (fun _ hk => ⟨hk.1.1, hk.1.2⟩)⟩
   have n2_ : Aside0 (Kd.R Kd.string 9 ((((w24.setCell ⟨gb186, 0, none⟩ (.string t172)).setCell ⟨gb186, 1, none⟩ (.slice Ao25 y181.length co25)).setCell ⟨gb186, 2, none⟩ (.int .i64 t184)).setCell ⟨gb186, 3, none⟩ (.int .i64 t185)) w.heap.size (fun k_ => some k_ ≠ (v170 : Value).ownBlock ∧ some k_ ≠ (v174 : Value).ownBlock) v178 t177) := ⟨by (with_reducible repeat (first | apply Kd.R_alloc | apply Kd.R_drewN | apply Kd.R_drew)); exact Kd.R_mono (Kd.R_far (p := ⟨gb186, 3, none⟩) (Kd.R_far (p := ⟨gb186, 2, none⟩) (Kd.R_far (p := ⟨gb186, 1, none⟩) (Kd.R_far (p := ⟨gb186, 0, none⟩) (Kd.R_types HO179.out BK186.out (by decide)) (fun _ hk => hk.2) (.string t172)) (fun _ hk => hk.2) (.slice Ao25 y181.length co25)) (fun _ hk => hk.2) (.int .i64 t184)) (fun _ hk => hk.2) (.int .i64 t185)) (fun _ hk => ⟨hk.1.1, hk.1.2⟩)⟩
   have n3_ : Aside0 (Kd.R k25 25 ((((w24.setCell ⟨gb186, 0, none⟩ (.string t172)).setCell ⟨gb186, 1, none⟩ (.slice Ao25 y181.length co25)).setCell ⟨gb186, 2, none⟩ (.int .i64 t184)).setCell ⟨gb186, 3, none⟩ (.int .i64 t185)) w.heap.size (fun _ => True) (.slice Ao25 y181.length co25) y181) := ⟨by (with_reducible repeat (first | apply Kd.R_alloc | apply Kd.R_drewN | apply Kd.R_drew)); exact Kd.R_mono (Kd.R_far (p := ⟨gb186, 3, none⟩) (Kd.R_far (p := ⟨gb186, 2, none⟩) (Kd.R_far (p := ⟨gb186, 1, none⟩) (Kd.R_far (p := ⟨gb186, 0, none⟩) (Kd.R_types HO183.out BK186.out (by decide)) (fun _ hk => hk.2) (.string t172)) (fun _ hk => hk.2) (.slice Ao25 y181.length co25)) (fun _ hk => hk.2) (.int .i64 t184)) (fun _ hk => hk.2) (.int .i64 t185)) (fun _ hk => trivial)⟩
   have n4_ : Aside0 (((((w24.setCell ⟨gb186, 0, none⟩ (.string t172)).setCell ⟨gb186, 1, none⟩ (.slice Ao25 y181.length co25)).setCell ⟨gb186, 2, none⟩ (.int .i64 t184)).setCell ⟨gb186, 3, none⟩ (.int .i64 t185)).heap[gb167]? = some (.cells #[.int .i64 a0_0, .int .i64 a0_1, .int .i64 a0_2, .int .i64 a0_3, .int .i64 a0_4, .bool false, .int .i64 a0_6, .int .i64 a0_7] 34 (0, 0))) := ⟨blkF BK167.out⟩
   have n5_ : Aside0 (((((w24.setCell ⟨gb186, 0, none⟩ (.string t172)).setCell ⟨gb186, 1, none⟩ (.slice Ao25 y181.length co25)).setCell ⟨gb186, 2, none⟩ (.int .i64 t184)).setCell ⟨gb186, 3, none⟩ (.int .i64 t185)).heap[gb168]? = some (.cells #[.string (⟨#[]⟩ : ByteArray), .slice none 0 0, .int .i64 0, .int .i64 0] 31 (0, 0))) := ⟨blkF BK168.out⟩
   have n6_ : Aside0 (((((w24.setCell ⟨gb186, 0, none⟩ (.string t172)).setCell ⟨gb186, 1, none⟩ (.slice Ao25 y181.length co25)).setCell ⟨gb186, 2, none⟩ (.int .i64 t184)).setCell ⟨gb186, 3, none⟩ (.int .i64 t185)).heap[gb186]? = some (.cells #[.string t172, .slice Ao25 y181.length co25, .int .i64 t184, .int .i64 t185] 31 (0, 0))) := ⟨by (with_reducible repeat (first | refine blk_drewN ?_ _ | refine blk_drew ?_ | refine blk_alloc ?_ _)); refine blk_put (cs := #[.string t172, .slice Ao25 y181.length co25, .int .i64 t184, .int .i64 0]) ?_ 3 _ rfl; (with_reducible repeat (first | refine blk_drewN ?_ _ | refine blk_drew ?_ | refine blk_alloc ?_ _)); refine blk_put (cs := #[.string t172, .slice Ao25 y181.length co25, .int .i64 0, .int .i64 0]) ?_ 2 _ rfl; (with_reducible repeat (first | refine blk_drewN ?_ _ | refine blk_drew ?_ | refine blk_alloc ?_ _)); refine blk_put (cs := #[.string t172, .slice none 0 0, .int .i64 0, .int .i64 0]) ?_ 1 _ rfl; (with_reducible repeat (first | refine blk_drewN ?_ _ | refine blk_drew ?_ | refine blk_alloc ?_ _)); refine blk_put (cs := #[.string (⟨#[]⟩ : ByteArray), .slice none 0 0, .int .i64 0, .int .i64 0]) ?_ 0 _ rfl; (with_reducible repeat (first | refine blk_drewN ?_ _ | refine blk_drew ?_ | refine blk_alloc ?_ _)); exact BK186.out⟩
   have n7_ : Aside0 (Below w.heap.size w ((((w24.setCell ⟨gb186, 0, none⟩ (.string t172)).setCell ⟨gb186, 1, none⟩ (.slice Ao25 y181.length co25)).setCell ⟨gb186, 2, none⟩ (.int .i64 t184)).setCell ⟨gb186, 3, none⟩ (.int .i64 t185))) := ⟨(belS HB.out)⟩
   (try clear HO171)
   (try clear HO175)
   (try clear HO179)
   (try clear HO183)
   (try clear BK167)
   (try clear BK168)
   (try clear BK186)
   (try clear HB)
   generalize ((((w24.setCell ⟨gb186, 0, none⟩ (.string t172)).setCell ⟨gb186, 1, none⟩ (.slice Ao25 y181.length co25)).setCell ⟨gb186, 2, none⟩ (.int .i64 t184)).setCell ⟨gb186, 3, none⟩ (.int .i64 t185)) = w41 at n0_ n1_ n2_ n3_ n4_ n5_ n6_ n7_ ⊢
   have HO171 := n0_
   have HO175 := n1_
   have HO179 := n2_
   have HO183 := n3_
   have BK167 := n4_
   have BK168 := n5_
   have BK186 := n6_
   have HB := n7_
   clear n0_ n1_ n2_ n3_ n4_ n5_ n6_ n7_
   have n0_ := Aside0.mk (Kd.R_drew HO171.out)
   have n1_ := Aside0.mk (Kd.R_drew HO175.out)
   have n2_ := Aside0.mk (Kd.R_drew HO179.out)
   have n3_ := Aside0.mk (Kd.R_drew HO183.out)
   have n4_ := Aside0.mk (blk_drew BK167.out)
   have n5_ := Aside0.mk (blk_drew BK168.out)
   have n6_ := Aside0.mk (blk_drew BK186.out)
   have n7_ := Aside0.mk (below_drew1 HB.out)
   clear HO171
   clear HO175
   clear HO179
   clear HO183
   clear BK167
   clear BK168
   clear BK186
   clear HB
   have HO171 := n0_
   have HO175 := n1_
   have HO179 := n2_
   have HO183 := n3_
   have BK167 := n4_
   have BK168 := n5_
   have BK186 := n6_
   have HB := n7_
   clear n0_ n1_ n2_ n3_ n4_ n5_ n6_ n7_
   refine start_ (n := 13) (S := fun w' => w'.cell? ⟨gb167, 0, none⟩ = some (.int .i64 a0_0) ∧ w'.cell? ⟨gb167, 1, none⟩ = some (.int .i64 a0_1) ∧ w'.cell? ⟨gb167, 2, none⟩ = some (.int .i64 a0_2) ∧ w'.cell? ⟨gb167, 3, none⟩ = some (.int .i64 a0_3) ∧ w'.cell? ⟨gb167, 4, none⟩ = some (.int .i64 a0_4) ∧ w'.cell? ⟨gb167, 5, none⟩ = some (.bool false) ∧ w'.cell? ⟨gb167, 6, none⟩ = some (.int .i64 a0_6) ∧ w'.cell? ⟨gb167, 7, none⟩ = some (.int .i64 a0_7)) (ds := []) #[false, false, false, false, false, false, false, false, false, false, false, false, false] (by kernel_rfl) rfl rfl ⟨(blk_cell BK167.out 0).trans rfl, (blk_cell BK167.out 1).trans rfl, (blk_cell BK167.out 2).trans rfl, (blk_cell BK167.out 3).trans rfl, (blk_cell BK167.out 4).trans rfl, (blk_cell BK167.out 5).trans rfl, (blk_cell BK167.out 6).trans rfl, (blk_cell BK167.out 7).trans rfl⟩ (fun hHeld => ?_); refine with_tabW marigraphkeep_Of.tab2 marigraphkeep_Of.bits2 (fun HT_ HW_ => ?_)
   generalize w41.drew = w42 at HO171 HO175 HO179 HO183 BK167 BK168 BK186 HB hHeld ⊢
   refine pA 0 (some 25) (bA 13 1) HT_.out ?_
   refine take_ (i := 1) (N := some 26) (v := ?_) (a' := ?_) (bA 13 3) rfl rfl (take_ofW HT_.out HW_.out (by kernel_rfl)) (fun _ _ _ h => h) (Or.inl ⟨by rfl, ?_⟩) hHeld ?_ ?_
   rotate_left
   ·rintro w' ⟨s0, s1, s2, s3, s4, s5, s6, s7⟩
    go_simp
    with_reducible rfl
   rotate_left
   ·simp only [Act.put, List.setIfInBounds_toArray, List.set_cons_zero, List.set_cons_succ, i64_w, i32_w]
    rfl
   refine pA 2 (some 27) (bA 13 7) HT_.out ?_
   refine pU 3 (some 28) (bA 13 15) HT_.out ?_
   refine pU 4 (some 29) (bA 13 31) HT_.out ?_
   refine pU 5 (some 30) (bA 13 63) HT_.out ?_
   refine pU 6 (some 31) (bA 13 127) HT_.out ?_
   refine pU 7 (some 32) (bA 13 255) HT_.out ?_
   refine pU 8 (some 33) (bA 13 511) HT_.out ?_
   refine pU 9 (some 34) (bA 13 1023) HT_.out ?_
   refine pU 10 (some 35) (bA 13 2047) HT_.out ?_
   refine pU 11 (some 36) (bA 13 4095) HT_.out ?_
   refine pA 12 (some 37) (bA 13 8191) HT_.out ?_
   refine done_ (done_of HT_.out (by kernel_rfl)) ?_
   try go_wp2
   go_meet
   case rel => exact ⟨_, (false), (by first | rfl | (simp; done) | (simp [*]; done)), H', ⟨by first | omega | exact Nat.le_refl _⟩, ⟨(rowN HO183.out)⟩, ⟨blkN BK167.out⟩, ⟨blkN BK168.out⟩, ⟨blkN BK186.out⟩, ⟨(belS HB.out)⟩⟩
 case rest =>
  clear HC10
  try clear c1
  try clear c2
  try clear p2
  try clear c3
  try clear c19
  try clear c21
  try clear c23
  try clear c30
  obtain ⟨kq, x37_9, rfl, HA, HJ9, HO_187001, BK167, BK168, BK186, HB⟩ := hcut
  cases kq with
  | zero => exact absurd HA.out (by simp [marigraphkeep_Of.j0])
  | succ kj9 =>
   have H := HA.out
   clear HA
   simp only [marigraphkeep_Of.j0] at H
   by_cases c43 : x37_9 = true
   ·subst c43
    have H1 : ((marigraphkeep_Keys.f).bind fun t195 => ((marigraphkeep_pick.f kj9 t195 a0_3).bind fun t198 => ((marigraphkeep_Values.f).bind fun t199 => ((marigraphkeep_pick.f kj9 t199 a0_4).bind fun t202 => (if y181.length < 4398046511104 then (some (t172, (y181 ++ [(⟨t198, t202⟩ : S25)]), t184, t185)) else (none)))))) = some (r1, r2, r3, r4) := by rw [if_pos rfl] at H; exact H
    clear H
    have H := H1
    clear H1
    replace H := Option.bind_eq_some_iff.mp H
    obtain ⟨t195, A440, H⟩ := H
    replace H : ((marigraphkeep_pick.f kj9 t195 a0_3).bind fun t198 => ((marigraphkeep_Values.f).bind fun t199 => ((marigraphkeep_pick.f kj9 t199 a0_4).bind fun t202 => (if y181.length < 4398046511104 then (some (t172, (y181 ++ [(⟨t198, t202⟩ : S25)]), t184, t185)) else (none))))) = some (r1, r2, r3, r4) := H
    have A44 := Aside0.mk A440
    clear A440
    replace H := Option.bind_eq_some_iff.mp H
    obtain ⟨t198, A450, H⟩ := H
    replace H : ((marigraphkeep_Values.f).bind fun t199 => ((marigraphkeep_pick.f kj9 t199 a0_4).bind fun t202 => (if y181.length < 4398046511104 then (some (t172, (y181 ++ [(⟨t198, t202⟩ : S25)]), t184, t185)) else (none)))) = some (r1, r2, r3, r4) := H
    have A45 := Aside0.mk A450
    clear A450
    replace H := Option.bind_eq_some_iff.mp H
    obtain ⟨t199, A460, H⟩ := H
    replace H : ((marigraphkeep_pick.f kj9 t199 a0_4).bind fun t202 => (if y181.length < 4398046511104 then (some (t172, (y181 ++ [(⟨t198, t202⟩ : S25)]), t184, t185)) else (none))) = some (r1, r2, r3, r4) := H
    have A46 := Aside0.mk A460
    clear A460
    replace H := Option.bind_eq_some_iff.mp H
    obtain ⟨t202, A470, H⟩ := H
    replace H : (if y181.length < 4398046511104 then (some (t172, (y181 ++ [(⟨t198, t202⟩ : S25)]), t184, t185)) else (none)) = some (r1, r2, r3, r4) := H
    have A47 := Aside0.mk A470
    clear A470
    by_cases c48 : y181.length < 4398046511104
    ·rw [if_pos c48] at H
     have LMc48 := Aside0.mk c48
     clear c48
     obtain ⟨y203, hy203⟩ : ∃ y_ : List (S25), y_ = (y181 ++ [(⟨t198, t202⟩ : S25)]) := ⟨_, rfl⟩
     replace H : (some (t172, y203, t184, t185)) = some (r1, r2, r3, r4) := by first | (rw [hy203]; with_reducible exact H) | (have H2_ := (Option.bind_some _ _).symm.trans H; rw [hy203]; with_reducible exact H2_) | (have H2_ := (Option.bind_some _ _).symm.trans H; with_reducible exact H2_) | with_reducible exact H | (rw [hy203]; exact H) | exact H
     have Ny203 := Aside0.mk hy203
     clear hy203
     simp only [Option.some.injEq, Prod.mk.injEq] at H
     obtain ⟨rfl, rfl, rfl, rfl⟩ := H
     try go_wp2
     have n0_ := Aside0.mk (Kd.R_drew HO_187001.out)
     have n1_ := Aside0.mk (blk_drew BK167.out)
     have n2_ := Aside0.mk (blk_drew BK168.out)
     have n3_ := Aside0.mk (blk_drew BK186.out)
     have n4_ := Aside0.mk (below_drew1 HB.out)
     clear HO_187001
     clear BK167
     clear BK168
     clear BK186
     clear HB
     have HO_187001 := n0_
     have BK167 := n1_
     have BK168 := n2_
     have BK186 := n3_
     have HB := n4_
     clear n0_ n1_ n2_ n3_ n4_
     refine start_ (n := 15) (S := fun w' => w'.cell? ⟨gb186, 0, none⟩ = some (.string t172) ∧ w'.cell? ⟨gb186, 1, none⟩ = some (.slice Ao25 y181.length co25) ∧ w'.cell? ⟨gb186, 2, none⟩ = some (.int .i64 t184) ∧ w'.cell? ⟨gb186, 3, none⟩ = some (.int .i64 t185) ∧ w'.cell? ⟨gb167, 0, none⟩ = some (.int .i64 a0_0) ∧ w'.cell? ⟨gb167, 1, none⟩ = some (.int .i64 a0_1) ∧ w'.cell? ⟨gb167, 2, none⟩ = some (.int .i64 a0_2) ∧ w'.cell? ⟨gb167, 3, none⟩ = some (.int .i64 a0_3) ∧ w'.cell? ⟨gb167, 4, none⟩ = some (.int .i64 a0_4) ∧ w'.cell? ⟨gb167, 5, none⟩ = some (.bool a0_5) ∧ w'.cell? ⟨gb167, 6, none⟩ = some (.int .i64 a0_6) ∧ w'.cell? ⟨gb167, 7, none⟩ = some (.int .i64 a0_7)) (ds := [14]) #[false, false, false, false, false, false, false, false, false, false, false, false, false, false, false] (by kernel_rfl) rfl rfl ⟨(blk_cell BK186.out 0).trans rfl, (blk_cell BK186.out 1).trans rfl, (blk_cell BK186.out 2).trans rfl, (blk_cell BK186.out 3).trans rfl, (blk_cell BK167.out 0).trans rfl, (blk_cell BK167.out 1).trans rfl, (blk_cell BK167.out 2).trans rfl, (blk_cell BK167.out 3).trans rfl, (blk_cell BK167.out 4).trans rfl, (blk_cell BK167.out 5).trans rfl, (blk_cell BK167.out 6).trans rfl, (blk_cell BK167.out 7).trans rfl⟩ (fun hHeld => ?_); refine with_tabW marigraphkeep_Of.tab3 marigraphkeep_Of.bits3 (fun HT_ HW_ => ?_)
     generalize wc.drew = w49 at HO_187001 BK167 BK168 BK186 HB hHeld ⊢
     refine pA 0 (some 38) (bA 15 1) HT_.out ?_
     refine pA 3 (some 41) (bA 15 9) HT_.out ?_
     refine pA 7 (some 45) (bA 15 137) HT_.out ?_
     refine take_ (i := 1) (N := some 39) (v := ?_) (a' := ?_) (bA 15 139) rfl rfl (take_ofW HT_.out HW_.out (by kernel_rfl)) (fun _ _ _ h => h) (Or.inl ⟨by rfl, ?_⟩) hHeld ?_ ?_
     rotate_left
     ·rintro w' ⟨s0, s1, s2, s3, s4, s5, s6, s7, s8, s9, s10, s11⟩
      go_simp
      with_reducible rfl
     rotate_left
     ·simp only [Act.put, List.setIfInBounds_toArray, List.set_cons_zero, List.set_cons_succ, i64_w, i32_w]
      rfl
     refine take_ (i := 4) (N := some 42) (v := ?_) (a' := ?_) (bA 15 155) rfl rfl (take_ofW HT_.out HW_.out (by kernel_rfl)) (fun _ _ _ h => h) (Or.inl ⟨by rfl, ?_⟩) hHeld ?_ ?_
     rotate_left
     ·rintro w' ⟨s0, s1, s2, s3, s4, s5, s6, s7, s8, s9, s10, s11⟩
      go_simp
      with_reducible rfl
     rotate_left
     ·simp only [Act.put, List.setIfInBounds_toArray, List.set_cons_zero, List.set_cons_succ, i64_w, i32_w]
      rfl
     refine take_ (i := 8) (N := some 46) (v := ?_) (a' := ?_) (bA 15 411) rfl rfl (take_ofW HT_.out HW_.out (by kernel_rfl)) (fun _ _ _ h => h) (Or.inl ⟨by rfl, ?_⟩) hHeld ?_ ?_
     rotate_left
     ·rintro w' ⟨s0, s1, s2, s3, s4, s5, s6, s7, s8, s9, s10, s11⟩
      go_simp
      with_reducible rfl
     rotate_left
     ·simp only [Act.put, List.setIfInBounds_toArray, List.set_cons_zero, List.set_cons_succ, i64_w, i32_w]
      rfl
     refine one_ (i := 2) (N := some 40) (bA 15 415) rfl rfl (one_of HT_.out (by kernel_rfl)) (by decide) (fun K hK => ?_)
     refine goes_ Try.func21 (by kernel_rfl) rfl #[] (by rfl) rfl rfl argN ?_
     with_reducible refine (marigraphkeep_Keys.calls  t195 _ A44.out).mono ?_
     rintro e w50 ⟨v196, rfl, ho0, hb⟩
     refine ⟨_, rfl, ?_⟩
     have n0_ := Aside0.mk (Kd.R_below (rowN HO_187001.out) hb)
     have n1_ := Aside0.mk (Kd.R_lower ho0 (below_size (belS HB.out)))
     have n2_ := Aside0.mk (bkB BK167.out hb)
     have n3_ := Aside0.mk (bkB BK168.out hb)
     have n4_ := Aside0.mk (bkB BK186.out hb)
     have n5_ := Aside0.mk (below_step (belS HB.out) hb)
     clear HO_187001
     clear BK167
     clear BK168
     clear BK186
     clear HB
     have HO_187001 := n0_
     have HO197 := n1_
     have BK167 := n2_
     have BK168 := n3_
     have BK186 := n4_
     have HB := n5_
     clear n0_ n1_ n2_ n3_ n4_ n5_
     (try clear hb)
     (try clear hk)
     (try clear ho0)
     obtain ⟨Ao51, co51, eo51⟩ := Kd.R_slice HO197.out
     (first | subst eo51 | (injection eo51 with f1_ f2_ f3_; have f4_ := f1_.symm; have f5_ := f3_.symm; clear f1_ f2_ f3_; subst f4_; subst f5_))
     refine hK.out _ _ ⟨(blk_cell BK186.out 0).trans rfl, (blk_cell BK186.out 1).trans rfl, (blk_cell BK186.out 2).trans rfl, (blk_cell BK186.out 3).trans rfl, (blk_cell BK167.out 0).trans rfl, (blk_cell BK167.out 1).trans rfl, (blk_cell BK167.out 2).trans rfl, (blk_cell BK167.out 3).trans rfl, (blk_cell BK167.out 4).trans rfl, (blk_cell BK167.out 5).trans rfl, (blk_cell BK167.out 6).trans rfl, (blk_cell BK167.out 7).trans rfl⟩ (fun hHeld => ?_)
     clear hK K
     refine norm_ (a' := ?_) ?_ ?_
     rotate_left
     ·show Act.put _ (some 40) _ = _
      simp only [Act.put, List.setIfInBounds_toArray, List.set_cons_zero, List.set_cons_succ, i64_w, i32_w]
      rfl
     refine one_ (i := 5) (N := some 43) (bA 15 447) rfl rfl (one_of HT_.out (by kernel_rfl)) (by decide) (fun K hK => ?_)
     refine goes_ Try.func19 (by kernel_rfl) rfl #[.slice Ao51 t195.length co51, .int .i64 a0_3] (by rfl) rfl rfl argN ?_
     with_reducible refine (marigraphkeep_pick.calls kj9 _ _ t195 a0_3 t198 _ ?side1 ?side2 A45.out).mono ?_
     (case side1 => repeat (first | exact (Kd.R_reads' HO197.out).2.2 | (with_reducible refine Kd.C_alloc ?_ _) | (with_reducible refine Kd.C_drewN ?_ _) | (with_reducible refine Kd.C_drew ?_)))
     (case side2 => exact (Kd.R_reads' HO197.out).2.1)
     rintro e w' ⟨rfl, ⟨nd, rfl⟩⟩
     refine ⟨_, rfl, ?_⟩
     refine hK.out _ _ ⟨(blk_cell BK186.out 0).trans rfl, (blk_cell BK186.out 1).trans rfl, (blk_cell BK186.out 2).trans rfl, (blk_cell BK186.out 3).trans rfl, (blk_cell BK167.out 0).trans rfl, (blk_cell BK167.out 1).trans rfl, (blk_cell BK167.out 2).trans rfl, (blk_cell BK167.out 3).trans rfl, (blk_cell BK167.out 4).trans rfl, (blk_cell BK167.out 5).trans rfl, (blk_cell BK167.out 6).trans rfl, (blk_cell BK167.out 7).trans rfl⟩ (fun hHeld => ?_)
     clear hK K
     refine norm_ (a' := ?_) ?_ ?_
     rotate_left
     ·show Act.put _ (some 43) _ = _
      simp only [Act.put, List.setIfInBounds_toArray, List.set_cons_zero, List.set_cons_succ, i64_w, i32_w]
      rfl
     refine one_ (i := 6) (N := some 44) (bA 15 511) rfl rfl (one_of HT_.out (by kernel_rfl)) (by decide) (fun K hK => ?_)
     refine goes_ Try.func22 (by kernel_rfl) rfl #[] (by rfl) rfl rfl argN ?_
     with_reducible refine (marigraphkeep_Values.calls  t199 _ A46.out).mono ?_
     rintro e w52 ⟨v200, rfl, ho0, hb⟩
     refine ⟨_, rfl, ?_⟩
     have n0_ := Aside0.mk (Kd.R_below (rowN HO_187001.out) hb)
     have n1_ := Aside0.mk (Kd.R_elder' (rowN HO197.out) (Kd.R_base ho0) hb)
     have n2_ := Aside0.mk (Kd.R_lower (Kd.R_new' ho0 (Kd.R_lt (rowN HO197.out))) (below_size (belS HB.out)))
     have n3_ := Aside0.mk (bkB BK167.out hb)
     have n4_ := Aside0.mk (bkB BK168.out hb)
     have n5_ := Aside0.mk (bkB BK186.out hb)
     have n6_ := Aside0.mk (below_step (belS HB.out) hb)
     clear HO_187001
     clear HO197
     clear BK167
     clear BK168
     clear BK186
     clear HB
     have HO_187001 := n0_
     have HO197 := n1_
     have HO201 := n2_
     have BK167 := n3_
     have BK168 := n4_
     have BK186 := n5_
     have HB := n6_
     clear n0_ n1_ n2_ n3_ n4_ n5_ n6_
     (try clear hb)
     (try clear hk)
     (try clear ho0)
     obtain ⟨Ao53, co53, eo53⟩ := Kd.R_slice HO201.out
     (first | subst eo53 | (injection eo53 with f1_ f2_ f3_; have f4_ := f1_.symm; have f5_ := f3_.symm; clear f1_ f2_ f3_; subst f4_; subst f5_))
     refine hK.out _ _ ⟨(blk_cell BK186.out 0).trans rfl, (blk_cell BK186.out 1).trans rfl, (blk_cell BK186.out 2).trans rfl, (blk_cell BK186.out 3).trans rfl, (blk_cell BK167.out 0).trans rfl, (blk_cell BK167.out 1).trans rfl, (blk_cell BK167.out 2).trans rfl, (blk_cell BK167.out 3).trans rfl, (blk_cell BK167.out 4).trans rfl, (blk_cell BK167.out 5).trans rfl, (blk_cell BK167.out 6).trans rfl, (blk_cell BK167.out 7).trans rfl⟩ (fun hHeld => ?_)
     clear hK K
     refine norm_ (a' := ?_) ?_ ?_
     rotate_left
     ·show Act.put _ (some 44) _ = _
      simp only [Act.put, List.setIfInBounds_toArray, List.set_cons_zero, List.set_cons_succ, i64_w, i32_w]
      rfl
     refine one_ (i := 9) (N := some 47) (bA 15 1023) rfl rfl (one_of HT_.out (by kernel_rfl)) (by decide) (fun K hK => ?_)
     refine goes_ Try.func19 (by kernel_rfl) rfl #[.slice Ao53 t199.length co53, .int .i64 a0_4] (by rfl) rfl rfl argN ?_
     with_reducible refine (marigraphkeep_pick.calls kj9 _ _ t199 a0_4 t202 _ ?side1 ?side2 A47.out).mono ?_
     (case side1 => repeat (first | exact (Kd.R_reads' HO201.out).2.2 | (with_reducible refine Kd.C_alloc ?_ _) | (with_reducible refine Kd.C_drewN ?_ _) | (with_reducible refine Kd.C_drew ?_)))
     (case side2 => exact (Kd.R_reads' HO201.out).2.1)
     rintro e w' ⟨rfl, ⟨nd, rfl⟩⟩
     refine ⟨_, rfl, ?_⟩
     refine hK.out _ _ ⟨(blk_cell BK186.out 0).trans rfl, (blk_cell BK186.out 1).trans rfl, (blk_cell BK186.out 2).trans rfl, (blk_cell BK186.out 3).trans rfl, (blk_cell BK167.out 0).trans rfl, (blk_cell BK167.out 1).trans rfl, (blk_cell BK167.out 2).trans rfl, (blk_cell BK167.out 3).trans rfl, (blk_cell BK167.out 4).trans rfl, (blk_cell BK167.out 5).trans rfl, (blk_cell BK167.out 6).trans rfl, (blk_cell BK167.out 7).trans rfl⟩ (fun hHeld => ?_)
     clear hK K
     refine norm_ (a' := ?_) ?_ ?_
     rotate_left
     ·show Act.put _ (some 47) _ = _
      simp only [Act.put, List.setIfInBounds_toArray, List.set_cons_zero, List.set_cons_succ, i64_w, i32_w]
      rfl
     refine pA 10 (some 48) (bA 15 2047) HT_.out ?_
     refine one_ (i := 11) (N := some 49) (bA 15 4095) rfl rfl (one_of HT_.out (by kernel_rfl)) (by decide) (fun K hK => ?_)
     refine value_ (w1 := ?_) (v := ?_) (by rfl) rfl ?_ ?_
     rotate_left 2
     ·go_simp
      constructor
      ·rfl
      ·rfl
     refine hK.out _ _ ⟨(blk_cell (blk_alloc BK186.out _) 0).trans rfl, (blk_cell (blk_alloc BK186.out _) 1).trans rfl, (blk_cell (blk_alloc BK186.out _) 2).trans rfl, (blk_cell (blk_alloc BK186.out _) 3).trans rfl, (blk_cell (blk_alloc BK167.out _) 0).trans rfl, (blk_cell (blk_alloc BK167.out _) 1).trans rfl, (blk_cell (blk_alloc BK167.out _) 2).trans rfl, (blk_cell (blk_alloc BK167.out _) 3).trans rfl, (blk_cell (blk_alloc BK167.out _) 4).trans rfl, (blk_cell (blk_alloc BK167.out _) 5).trans rfl, (blk_cell (blk_alloc BK167.out _) 6).trans rfl, (blk_cell (blk_alloc BK167.out _) 7).trans rfl⟩ (fun hHeld => ?_)
     clear hK K
     refine norm_ (a' := ?_) ?_ ?_
     rotate_left
     ·show Act.put _ (some 49) _ = _
      simp only [Act.put, List.setIfInBounds_toArray, List.set_cons_zero, List.set_cons_succ, i64_w, i32_w]
      rfl
     refine one_ (i := 12) (N := some 50) (bA 15 8191) rfl rfl (one_of HT_.out (by kernel_rfl)) (by decide) (fun K hK => ?_)
     refine Kd.R_append_step k25 (w0 := w) w.heap.size (by rfl) (.tmp 39) (.tmp 49) 27 25 (.agg #[(.string ⟨#[]⟩), (.string ⟨#[]⟩)]) 32 rfl Try.underlying27 info25 rfl (by decide) (by omega) (.slice Ao25 y181.length co25) y181 (⟨t198, t202⟩ : S25) [.string t198, .string t202] (fun _ => True) (fun _ => False) rfl rfl ?aP (fun _ hk => hk.elim) ?aF ?aO ?aB ?aS ?aL ?_
     (case aP => exact k25_mkM _ _ _ (⟨t198, t202⟩ : S25))
     (case aB => exact (belS HB.out))
     (case aF => exact (fun _ _ => trivial))
     (case aO => exact (rowN HO_187001.out))
     (case aS => exact (below_size (belS HB.out)))
     (case aL => have := LMc48.out; omega)
     intro v204 w54 ho hb hg hat
     rw [← Ny203.out] at ho
     have n0_ := Aside0.mk (blk_grown (g := gb167) (o := .cells #[.int .i64 a0_0, .int .i64 a0_1, .int .i64 a0_2, .int .i64 a0_3, .int .i64 a0_4, .bool a0_5, .int .i64 a0_6, .int .i64 a0_7] 34 (0, 0)) (blkN BK167.out) hg (Kd.R_ne HO_187001.out BK167.out (by decide)))
     have n1_ := Aside0.mk (blk_grown (g := gb168) (o := .cells #[.string (⟨#[]⟩ : ByteArray), .slice none 0 0, .int .i64 0, .int .i64 0] 31 (0, 0)) (blkN BK168.out) hg (Kd.R_ne HO_187001.out BK168.out (by decide)))
     have n2_ := Aside0.mk (blk_grown (g := gb186) (o := .cells #[.string t172, .slice Ao25 y181.length co25, .int .i64 t184, .int .i64 t185] 31 (0, 0)) (blkN BK186.out) hg (Kd.R_ne HO_187001.out BK186.out (by decide)))
     have n3_ := Aside0.mk (Kd.R_over' (rowN HO197.out) (Kd.R_typed (rowN HO_187001.out)) (by decide) hg)
     have n4_ := Aside0.mk (Kd.R_over' (rowN HO201.out) (Kd.R_typed (rowN HO_187001.out)) (by decide) hg)
     have n5_ := Aside0.mk (hb)
     have n6_ := Aside0.mk (ho)
     clear BK167
     clear BK168
     clear BK186
     clear HO197
     clear HO201
     clear HB
     clear HO_187001
     have BK167 := n0_
     have BK168 := n1_
     have BK186 := n2_
     have HO197 := n3_
     have HO201 := n4_
     have HB := n5_
     have HO205 := n6_
     clear n0_ n1_ n2_ n3_ n4_ n5_ n6_
     clear ho hb hg hat
     obtain ⟨Ao55, co55, eo55⟩ := Kd.R_slice HO205.out
     (first | subst eo55 | (injection eo55 with f1_ f2_ f3_; have f4_ := f1_.symm; have f5_ := f3_.symm; clear f1_ f2_ f3_; subst f4_; subst f5_))
     refine hK.out _ _ ⟨(blk_cell BK186.out 0).trans rfl, (blk_cell BK186.out 1).trans rfl, (blk_cell BK186.out 2).trans rfl, (blk_cell BK186.out 3).trans rfl, (blk_cell BK167.out 0).trans rfl, (blk_cell BK167.out 1).trans rfl, (blk_cell BK167.out 2).trans rfl, (blk_cell BK167.out 3).trans rfl, (blk_cell BK167.out 4).trans rfl, (blk_cell BK167.out 5).trans rfl, (blk_cell BK167.out 6).trans rfl, (blk_cell BK167.out 7).trans rfl⟩ (fun hHeld => ?_)
     clear hK K
     refine norm_ (a' := ?_) ?_ ?_
     rotate_left
     ·show Act.put _ (some 50) _ = _
      simp only [Act.put, List.setIfInBounds_toArray, List.set_cons_zero, List.set_cons_succ, i64_w, i32_w]
      rfl
     refine pA 13 (some 51) (bA 15 16383) HT_.out ?_
     refine last_ (i := 14) (N := none) (bA 15 32767) rfl rfl (one_of HT_.out (by kernel_rfl)) (by decide) (fun K hK => ?_)
     have hs56 : w54.cell? ⟨gb186, 1, none⟩ = some (.slice Ao25 y181.length co25) := (blk_cell BK186.out 1).trans rfl
     have hfs56 := blk_frozen BK186.out 1
     have hns56_0 := NB167_186.out
     have hns56_1 := NB168_186.out
     have hms56_0 := NB186_167.out
     have hms56_1 := NB186_168.out
     refine skip_ (w1 := ?_) (by rfl) rfl ?_ ?_
     rotate_left
     ·go_simp
      rfl
     refine hK.out _ _ ?_
     clear hK K
     refine done_ (done_of HT_.out (by kernel_rfl)) ?_
     have hnb57 := NB186_167.out
     have hnc57 := NB167_186.out
     have hnb58 := NB186_168.out
     have hnc58 := NB168_186.out
     have hcz59_0 : w54.cell? ⟨gb186, 0, none⟩ = some (.string t172) := (blk_cell BK186.out 0).trans rfl
     have hcz59_1 : w54.cell? ⟨gb186, 1, none⟩ = some (.slice Ao25 y181.length co25) := (blk_cell BK186.out 1).trans rfl
     have hcz59_2 : w54.cell? ⟨gb186, 2, none⟩ = some (.int .i64 t184) := (blk_cell BK186.out 2).trans rfl
     have hcz59_3 : w54.cell? ⟨gb186, 3, none⟩ = some (.int .i64 t185) := (blk_cell BK186.out 3).trans rfl
     have hfz59_0 := blk_frozen BK186.out 0
     have hfz59_1 := blk_frozen BK186.out 1
     have hfz59_2 := blk_frozen BK186.out 2
     have hfz59_3 := blk_frozen BK186.out 3
     have hnb60 := NB168_167.out
     have hnc60 := NB167_168.out
     have hcz61_0 : w54.cell? ⟨gb168, 0, none⟩ = some (.string (⟨#[]⟩ : ByteArray)) := (blk_cell BK168.out 0).trans rfl
     have hcz61_1 : w54.cell? ⟨gb168, 1, none⟩ = some (.slice none 0 0) := (blk_cell BK168.out 1).trans rfl
     have hcz61_2 : w54.cell? ⟨gb168, 2, none⟩ = some (.int .i64 0) := (blk_cell BK168.out 2).trans rfl
     have hcz61_3 : w54.cell? ⟨gb168, 3, none⟩ = some (.int .i64 0) := (blk_cell BK168.out 3).trans rfl
     have hfz61_0 := blk_frozen BK168.out 0
     have hfz61_1 := blk_frozen BK168.out 1
     have hfz61_2 := blk_frozen BK168.out 2
     have hfz61_3 := blk_frozen BK168.out 3
     try go_wp2
     refine bodyPost_ret (results_cell_row rfl _ _ gb168 31 #[.string t172, .slice Ao55 y203.length co55, .int .i64 t184, .int .i64 t185] (0, 0) _ rfl (by (with_reducible repeat (first | refine blk_drewN ?_ _ | refine blk_drew ?_ | refine blk_alloc ?_ _)); refine blk_put (cs := #[.string t172, .slice Ao55 y203.length co55, .int .i64 t184, .int .i64 0]) ?_ 3 _ rfl; (with_reducible repeat (first | refine blk_drewN ?_ _ | refine blk_drew ?_ | refine blk_alloc ?_ _)); refine blk_put (cs := #[.string t172, .slice Ao55 y203.length co55, .int .i64 0, .int .i64 0]) ?_ 2 _ rfl; (with_reducible repeat (first | refine blk_drewN ?_ _ | refine blk_drew ?_ | refine blk_alloc ?_ _)); refine blk_put (cs := #[.string t172, .slice none 0 0, .int .i64 0, .int .i64 0]) ?_ 1 _ rfl; (with_reducible repeat (first | refine blk_drewN ?_ _ | refine blk_drew ?_ | refine blk_alloc ?_ _)); refine blk_put (cs := #[.string (⟨#[]⟩ : ByteArray), .slice none 0 0, .int .i64 0, .int .i64 0]) ?_ 0 _ rfl; (with_reducible repeat (first | refine blk_drewN ?_ _ | refine blk_drew ?_ | refine blk_alloc ?_ _)); refine blk_far ?_ NB168_186.out _; (with_reducible repeat (first | refine blk_drewN ?_ _ | refine blk_drew ?_ | refine blk_alloc ?_ _)); exact BK168.out) Try.underlying31 rfl (by kernel_rfl)) rfl ?_
     exact ⟨_, by first | rfl | (simp [errW_none, errW_some] <;> rfl) | (simp [*, errW_none, errW_some] <;> rfl), by (with_reducible repeat (first | apply Kd.R_alloc | apply Kd.R_drewN | apply Kd.R_drew)); exact Kd.R_mono (Kd.R_far (p := ⟨gb168, 3, none⟩) (Kd.R_far (p := ⟨gb168, 2, none⟩) (Kd.R_far (p := ⟨gb168, 1, none⟩) (Kd.R_far (p := ⟨gb168, 0, none⟩) (Kd.R_far (p := ⟨gb186, 1, none⟩) (Kd.R_types (Kd.R_types HO205.out BK186.out (by decide)) BK168.out (by decide)) (fun _ hk => hk.1.2) (.slice Ao55 y203.length co55)) (fun _ hk => hk.2) (.string t172)) (fun _ hk => hk.2) (.slice Ao55 y203.length co55)) (fun _ hk => hk.2) (.int .i64 t184)) (fun _ hk => hk.2) (.int .i64 t185)) (fun _ hk => trivial), (belS HB.out)⟩
    ·rw [if_neg c48] at H
     exact absurd H (by simp)
   ·replace c43 := Bool.eq_false_iff.mpr c43
    subst c43
    have H1 : (some (t172, y181, t184, t185)) = some (r1, r2, r3, r4) := by rw [if_neg (show ¬ (false = true) by decide)] at H; exact H
    clear H
    have H := H1
    clear H1
    simp only [Option.some.injEq, Prod.mk.injEq] at H
    obtain ⟨rfl, rfl, rfl, rfl⟩ := H
    have hnb62 := NB186_167.out
    have hnc62 := NB167_186.out
    have hnb63 := NB186_168.out
    have hnc63 := NB168_186.out
    have hcz64_0 : wc.cell? ⟨gb186, 0, none⟩ = some (.string t172) := (blk_cell BK186.out 0).trans rfl
    have hcz64_1 : wc.cell? ⟨gb186, 1, none⟩ = some (.slice Ao25 y181.length co25) := (blk_cell BK186.out 1).trans rfl
    have hcz64_2 : wc.cell? ⟨gb186, 2, none⟩ = some (.int .i64 t184) := (blk_cell BK186.out 2).trans rfl
    have hcz64_3 : wc.cell? ⟨gb186, 3, none⟩ = some (.int .i64 t185) := (blk_cell BK186.out 3).trans rfl
    have hfz64_0 := blk_frozen BK186.out 0
    have hfz64_1 := blk_frozen BK186.out 1
    have hfz64_2 := blk_frozen BK186.out 2
    have hfz64_3 := blk_frozen BK186.out 3
    have hnb65 := NB168_167.out
    have hnc65 := NB167_168.out
    have hcz66_0 : wc.cell? ⟨gb168, 0, none⟩ = some (.string (⟨#[]⟩ : ByteArray)) := (blk_cell BK168.out 0).trans rfl
    have hcz66_1 : wc.cell? ⟨gb168, 1, none⟩ = some (.slice none 0 0) := (blk_cell BK168.out 1).trans rfl
    have hcz66_2 : wc.cell? ⟨gb168, 2, none⟩ = some (.int .i64 0) := (blk_cell BK168.out 2).trans rfl
    have hcz66_3 : wc.cell? ⟨gb168, 3, none⟩ = some (.int .i64 0) := (blk_cell BK168.out 3).trans rfl
    have hfz66_0 := blk_frozen BK168.out 0
    have hfz66_1 := blk_frozen BK168.out 1
    have hfz66_2 := blk_frozen BK168.out 2
    have hfz66_3 := blk_frozen BK168.out 3
    go_wp2
    refine bodyPost_ret (results_cell_row rfl _ _ gb168 31 #[.string t172, .slice Ao25 y181.length co25, .int .i64 t184, .int .i64 t185] (0, 0) _ rfl (by (with_reducible repeat (first | refine blk_drewN ?_ _ | refine blk_drew ?_ | refine blk_alloc ?_ _)); refine blk_put (cs := #[.string t172, .slice Ao25 y181.length co25, .int .i64 t184, .int .i64 0]) ?_ 3 _ rfl; (with_reducible repeat (first | refine blk_drewN ?_ _ | refine blk_drew ?_ | refine blk_alloc ?_ _)); refine blk_put (cs := #[.string t172, .slice Ao25 y181.length co25, .int .i64 0, .int .i64 0]) ?_ 2 _ rfl; (with_reducible repeat (first | refine blk_drewN ?_ _ | refine blk_drew ?_ | refine blk_alloc ?_ _)); refine blk_put (cs := #[.string t172, .slice none 0 0, .int .i64 0, .int .i64 0]) ?_ 1 _ rfl; (with_reducible repeat (first | refine blk_drewN ?_ _ | refine blk_drew ?_ | refine blk_alloc ?_ _)); refine blk_put (cs := #[.string (⟨#[]⟩ : ByteArray), .slice none 0 0, .int .i64 0, .int .i64 0]) ?_ 0 _ rfl; (with_reducible repeat (first | refine blk_drewN ?_ _ | refine blk_drew ?_ | refine blk_alloc ?_ _)); exact BK168.out) Try.underlying31 rfl (by kernel_rfl)) rfl ?_
    exact ⟨_, by first | rfl | (simp [errW_none, errW_some] <;> rfl) | (simp [*, errW_none, errW_some] <;> rfl), by (with_reducible repeat (first | apply Kd.R_alloc | apply Kd.R_drewN | apply Kd.R_drew)); exact Kd.R_mono (Kd.R_far (p := ⟨gb168, 3, none⟩) (Kd.R_far (p := ⟨gb168, 2, none⟩) (Kd.R_far (p := ⟨gb168, 1, none⟩) (Kd.R_far (p := ⟨gb168, 0, none⟩) (Kd.R_types HO_187001.out BK168.out (by decide)) (fun _ hk => hk.2) (.string t172)) (fun _ hk => hk.2) (.slice Ao25 y181.length co25)) (fun _ hk => hk.2) (.int .i64 t184)) (fun _ hk => hk.2) (.int .i64 t185)) (fun _ hk => trivial), (belS HB.out)⟩

end Go.Proofs.Ytfijbkabjmgomaa.PNameTells

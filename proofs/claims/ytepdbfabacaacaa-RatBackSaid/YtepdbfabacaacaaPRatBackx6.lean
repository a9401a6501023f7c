/- The walk of the Go functions that a law reaches, told as plain functions; a program of this session has written it. No condition beyond the statement's own. -/
import Derived.Test.YtepdbfabacaacaaPRatBackx0
import Derived.Test.YtepdbfabacaacaaPRatBackx1
import Derived.Test.YtepdbfabacaacaaPRatBackx2
import Derived.Test.YtepdbfabacaacaaPRatBackx3
import Derived.Test.YtepdbfabacaacaaPRatBackx4
import Derived.Test.YtepdbfabacaacaaPRatBackx5
namespace Go.Proofs.Ytepdbfabacaacaa.PRatBack
open Go.RowKit Go.Proofs.YtepdbfabacaacaaW.PrintWords Go.Proofs.YtepdbfabacaacaaW.PrintLast Go.Proofs.YtepdbfabacaacaaW.PrintMore
attribute [local go_sem] max2_int min2_int max_two min_two max_three min_three max_four min_four   -- for this text's walks alone
set_option linter.unusedVariables false
set_option linter.unusedSimpArgs false

attribute [local go_sem high] eqA23
/-! ### marigraphlaw1_RatBack: function 3 -/
mutual
def marigraphlaw1_RatBack.j0 : Nat → ByteArray → Bool → Int → Int → Option (Bool)
 | 0, _, _, _, _ => none
 | k + 1, x3, x29, x163000, x163001 => if x29 = true then (some false) else ((rat_Right.f k x163000 x163001).bind fun t171 => (if t171 = true then ((rat_Text.f k x163000 x163001).bind fun t172 => ((rat_Parse.f k t172).bind fun bt173 => (if bt173.2.2 = 0 then (if (!(bt173.1 == x163000) || (!(bt173.2.1 == x163001))) = true then (some false) else (marigraphlaw1_RatBack.j1 k x3)) else (some false)))) else (marigraphlaw1_RatBack.j1 k x3)))
def marigraphlaw1_RatBack.j1 : Nat → ByteArray → Option (Bool)
 | 0, _ => none
 | k + 1, x3 => (rat_Parse.f k x3).bind fun bt176 => (if bt176.2.2 = 0 then ((rat_Right.f k bt176.1 bt176.2.1).bind fun t180 => (if t180 = true then ((rat_Text.f k bt176.1 bt176.2.1).bind fun t181 => (if t181.toList = x3.toList then ((marigraphlaw1_known.f k).bind fun t182 => (some t182)) else (some false))) else (some false))) else ((marigraphlaw1_known.f k).bind fun t183 => (some t183)))
end
def marigraphlaw1_RatBack.f (k : Nat) (a0_0 : Int) (a0_1 : Int) (a1 : Int) (a2 : Int) (a3 : ByteArray) : Option (Bool) := (marigraphkeep_Rat.f k a1 a2).bind fun bt163 => ((rat_Text.f k bt163.1 bt163.2).bind fun t166 => ((rat_Parse.f k t166).bind fun bt167 => (if bt167.2.2 = 0 then (marigraphlaw1_RatBack.j0 k a3 (!(bt167.1 == bt163.1) || (!(bt167.2.1 == bt163.2))) a0_0 a0_1) else (marigraphlaw1_RatBack.j0 k a3 true a0_0 a0_1))))
theorem marigraphlaw1_RatBack.mono_l : ∀ k, (∀ y0 y1 y2 y3, LeO (marigraphlaw1_RatBack.j0 k y0 y1 y2 y3) (marigraphlaw1_RatBack.j0 (k + 1) y0 y1 y2 y3)) ∧ (∀ y0, LeO (marigraphlaw1_RatBack.j1 k y0) (marigraphlaw1_RatBack.j1 (k + 1) y0))
 | 0 => ⟨fun _ _ _ _ r h => by simp [marigraphlaw1_RatBack.j0] at h, fun _ r h => by simp [marigraphlaw1_RatBack.j1] at h⟩
 | k + 1 => by
  obtain ⟨ih0, ih1⟩ := marigraphlaw1_RatBack.mono_l k
  refine ⟨?_, ?_⟩
  ·intro y0 y1 y2 y3
   unfold marigraphlaw1_RatBack.j0
   repeat' first
   | (with_reducible exact ih0 _ _ _ _)
   | (with_reducible exact ih1 _)
   | (with_reducible exact marigraphkeep_Rat.mono _ _ _)
   | (with_reducible exact marigraphlaw1_known.mono _)
   | (with_reducible exact rat_Parse.mono _ _)
   | (with_reducible exact rat_Right.mono _ _ _)
   | (with_reducible exact rat_Text.mono _ _ _)
   | (with_reducible exact LeO.refl _)
   | (with_reducible exact LeO.none _)
   | (with_reducible refine LeO.ite ?_ ?_)
   | (with_reducible refine LeO.bind ?_ (fun _ => ?_))
   | exact ih0 _ _ _ _
   | exact ih1 _
   | exact marigraphkeep_Rat.mono _ _ _
   | exact marigraphlaw1_known.mono _
   | exact rat_Parse.mono _ _
   | exact rat_Right.mono _ _ _
   | exact rat_Text.mono _ _ _
   | exact LeO.none _
   | refine LeO.ite ?_ ?_
   | refine LeO.bind ?_ (fun _ => ?_)
  ·intro y0
   unfold marigraphlaw1_RatBack.j1
   repeat' first
   | (with_reducible exact ih0 _ _ _ _)
   | (with_reducible exact ih1 _)
   | (with_reducible exact marigraphkeep_Rat.mono _ _ _)
   | (with_reducible exact marigraphlaw1_known.mono _)
   | (with_reducible exact rat_Parse.mono _ _)
   | (with_reducible exact rat_Right.mono _ _ _)
   | (with_reducible exact rat_Text.mono _ _ _)
   | (with_reducible exact LeO.refl _)
   | (with_reducible exact LeO.none _)
   | (with_reducible refine LeO.ite ?_ ?_)
   | (with_reducible refine LeO.bind ?_ (fun _ => ?_))
   | exact ih0 _ _ _ _
   | exact ih1 _
   | exact marigraphkeep_Rat.mono _ _ _
   | exact marigraphlaw1_known.mono _
   | exact rat_Parse.mono _ _
   | exact rat_Right.mono _ _ _
   | exact rat_Text.mono _ _ _
   | exact LeO.none _
   | refine LeO.ite ?_ ?_
   | refine LeO.bind ?_ (fun _ => ?_)
theorem marigraphlaw1_RatBack.mono : ∀ a0 a1 a2 a3 a4 k, LeO (marigraphlaw1_RatBack.f k a0 a1 a2 a3 a4) (marigraphlaw1_RatBack.f (k + 1) a0 a1 a2 a3 a4) := by
 intro a0 a1 a2 a3 a4 k
 obtain ⟨ih0, ih1⟩ := marigraphlaw1_RatBack.mono_l k
 unfold marigraphlaw1_RatBack.f
 repeat' first
   | (with_reducible exact ih0 _ _ _ _)
   | (with_reducible exact ih1 _)
   | (with_reducible exact marigraphkeep_Rat.mono _ _ _)
   | (with_reducible exact marigraphlaw1_known.mono _)
   | (with_reducible exact rat_Parse.mono _ _)
   | (with_reducible exact rat_Right.mono _ _ _)
   | (with_reducible exact rat_Text.mono _ _ _)
   | (with_reducible exact LeO.refl _)
   | (with_reducible exact LeO.none _)
   | (with_reducible refine LeO.ite ?_ ?_)
   | (with_reducible refine LeO.bind ?_ (fun _ => ?_))
   | exact ih0 _ _ _ _
   | exact ih1 _
   | exact marigraphkeep_Rat.mono _ _ _
   | exact marigraphlaw1_known.mono _
   | exact rat_Parse.mono _ _
   | exact rat_Right.mono _ _ _
   | exact rat_Text.mono _ _ _
   | exact LeO.none _
   | refine LeO.ite ?_ ?_
   | refine LeO.bind ?_ (fun _ => ?_)
set_option maxHeartbeats 8000000 in
set_option maxRecDepth 100000 in
theorem marigraphlaw1_RatBack.calls (k : Nat) (a0_0 : Int) (a0_1 : Int) (a1 : Int) (a2 : Int) (a3 : ByteArray) (r : Bool) (w : World) (h : marigraphlaw1_RatBack.f k a0_0 a0_1 a1 a2 a3 = some r) :
  Calls Try.prog 3 #[.agg #[.int .i64 a0_0, .int .i64 a0_1], .int .i64 a1, .int .i64 a2, .string a3] w fun e w' => e = .returned (.bool r) ∧ Below w.heap.size w w' := by
 have hu23 := Try.underlying23
 have HB := Aside0.mk (Below.refl w.heap.size w)
 have H : ((marigraphkeep_Rat.f k a1 a2).bind fun bt163 => ((rat_Text.f k bt163.1 bt163.2).bind fun t166 => ((rat_Parse.f k t166).bind fun bt167 => (if bt167.2.2 = 0 then (marigraphlaw1_RatBack.j0 k a3 (!(bt167.1 == bt163.1) || (!(bt167.2.1 == bt163.2))) a0_0 a0_1) else (marigraphlaw1_RatBack.j0 k a3 true a0_0 a0_1))))) = some r := h
 clear h
 replace H := Option.bind_eq_some_iff.mp H
 obtain ⟨⟨t163, t164⟩, A50, H⟩ := H
 replace H : ((rat_Text.f k t163 t164).bind fun t166 => ((rat_Parse.f k t166).bind fun bt167 => (if bt167.2.2 = 0 then (marigraphlaw1_RatBack.j0 k a3 (!(bt167.1 == t163) || (!(bt167.2.1 == t164))) a0_0 a0_1) else (marigraphlaw1_RatBack.j0 k a3 true a0_0 a0_1)))) = some r := H
 have A5 := Aside0.mk A50
 clear A50
 replace H := Option.bind_eq_some_iff.mp H
 obtain ⟨t166, A60, H⟩ := H
 replace H : ((rat_Parse.f k t166).bind fun bt167 => (if bt167.2.2 = 0 then (marigraphlaw1_RatBack.j0 k a3 (!(bt167.1 == t163) || (!(bt167.2.1 == t164))) a0_0 a0_1) else (marigraphlaw1_RatBack.j0 k a3 true a0_0 a0_1))) = some r := H
 have A6 := Aside0.mk A60
 clear A60
 replace H := Option.bind_eq_some_iff.mp H
 obtain ⟨⟨t167, t168, t169⟩, A70, H⟩ := H
 replace H : (if t169 = 0 then (marigraphlaw1_RatBack.j0 k a3 (!(t167 == t163) || (!(t168 == t164))) a0_0 a0_1) else (marigraphlaw1_RatBack.j0 k a3 true a0_0 a0_1)) = some r := H
 have A7 := Aside0.mk A70
 clear A70
 have HC8 := Aside0.mk H
 clear H
 go_enter Try.func3, Try.ntmps3
 go_upto_region 3 with (first | ((with_reducible refine gate_dst (N := 4) rfl ?_); refine box_event ?hg (N := 4) ?hd (cs := #[.int .i64 a0_0, .int .i64 a0_1]) (t := 23) ?hr ?_; (case hd => rfl); (case hg => rfl); (case hr => first | (go_simp; done) | (go_simp; rfl)); intro gb162 hg w9 hbox hb; have n0_ := Aside0.mk (below_step (belN HB.out) hb); have n1_ := Aside0.mk (hbox); have n2_ := Aside0.mk (szB hg HB.out); have n3_ := Aside0.mk (szB hg HB.out); clear HB; have HB := n0_; have BK162 := n1_; have GW162 := n2_; have GE162 := n3_; clear n0_ n1_ n2_ n3_; clear hb hbox hg) | ((with_reducible refine gate_callee (f := 7) rfl ?_); refine goesL_ (some 16) rfl rfl Try.func7 (by kernel_rfl) rfl #[.int .i64 a1, .int .i64 a2] rfl argN ?_; (with_reducible refine (marigraphkeep_Rat.calls k a1 a2 t163 t164 _ A5.out).mono ?_); rintro e w10 ⟨rfl, hb⟩; refine ⟨_, rfl, ?_⟩; have n0_ := Aside0.mk (bkB BK162.out hb); have n1_ := Aside0.mk (below_step (belS HB.out) hb); clear BK162; clear HB; have BK162 := n0_; have HB := n1_; clear n0_ n1_; (try clear hb)) | ((with_reducible refine gate_dst (N := 9) rfl ?_); refine box_event ?hg (N := 9) ?hd (cs := #[.int .i64 0, .int .i64 0]) (t := 23) ?hr ?_; (case hd => rfl); (case hg => rfl); (case hr => first | (go_simp; done) | (go_simp; rfl)); intro gb165 hg w11 hbox hb; have n0_ := Aside0.mk (bkB BK162.out hb); have n1_ := Aside0.mk (below_step (belS HB.out) hb); have n2_ := Aside0.mk (hbox); have n3_ := Aside0.mk (szB hg HB.out); have n4_ := Aside0.mk (szB hg HB.out); have n5_ := Aside0.mk ((bk1 hg BK162.out)); have n6_ := Aside0.mk ((bk2 hg BK162.out)); clear BK162; clear HB; have BK162 := n0_; have HB := n1_; have BK165 := n2_; have GW165 := n3_; have GE165 := n4_; have NB162_165 := n5_; have NB165_162 := n6_; clear n0_ n1_ n2_ n3_ n4_ n5_ n6_; clear hb hbox hg; have hnb12 := NB165_162.out; have hnc12 := NB162_165.out; have hcz13_0 : w11.cell? ⟨gb165, 0, none⟩ = some (.int .i64 0) := (blk_cell BK165.out 0).trans rfl; have hcz13_1 : w11.cell? ⟨gb165, 1, none⟩ = some (.int .i64 0) := (blk_cell BK165.out 1).trans rfl; have hfz13_0 := blk_frozen BK165.out 0; have hfz13_1 := blk_frozen BK165.out 1) | ((with_reducible refine gate_callee (f := 9) rfl ?_); refine goesL_ (some 19) rfl rfl Try.func9 (by kernel_rfl) rfl #[.agg #[.int .i64 t163, .int .i64 t164]] rfl argN ?_; (with_reducible refine (rat_Text.calls k t163 t164 t166 _ A6.out).mono ?_); rintro e w14 ⟨rfl, hb⟩; refine ⟨_, rfl, ?_⟩; have n0_ := Aside0.mk (bkBF BK162.out hb); have n1_ := Aside0.mk (blk_below (g := gb165) (o := .cells #[.int .i64 t163, .int .i64 t164] 23 (0, 0)) (by (with_reducible repeat (first | refine blk_drewN ?_ _ | refine blk_drew ?_ | refine blk_alloc ?_ _)); refine blk_put (cs := #[.int .i64 t163, .int .i64 0]) ?_ 1 _ rfl; (with_reducible repeat (first | refine blk_drewN ?_ _ | refine blk_drew ?_ | refine blk_alloc ?_ _)); refine blk_put (cs := #[.int .i64 0, .int .i64 0]) ?_ 0 _ rfl; (with_reducible repeat (first | refine blk_drewN ?_ _ | refine blk_drew ?_ | refine blk_alloc ?_ _)); exact BK165.out) hb); have n2_ := Aside0.mk (below_step (belS HB.out) hb); clear BK162; clear BK165; clear HB; have BK162 := n0_; have BK165 := n1_; have HB := n2_; clear n0_ n1_ n2_; (try clear hb)) | ((with_reducible refine gate_callee (f := 8) rfl ?_); refine goesL_ (some 20) rfl rfl Try.func8 (by kernel_rfl) rfl #[.string t166] rfl argN ?_; (with_reducible refine (rat_Parse.calls k t166 t167 t168 t169 _ A7.out).mono ?_); rintro e w15 ⟨rfl, hb⟩; refine ⟨_, rfl, ?_⟩; have n0_ := Aside0.mk (bkB BK162.out hb); have n1_ := Aside0.mk (bkB BK165.out hb); have n2_ := Aside0.mk (below_step (belS HB.out) hb); clear BK162; clear BK165; clear HB; have BK162 := n0_; have BK165 := n1_; have HB := n2_; clear n0_ n1_ n2_; (try clear hb)) | ((with_reducible refine gate_dst (N := 10) rfl ?_); refine box_event ?hg (N := 10) ?hd (cs := #[.int .i64 0, .int .i64 0]) (t := 23) ?hr ?_; (case hd => rfl); (case hg => rfl); (case hr => first | (go_simp; done) | (go_simp; rfl)); intro gb170 hg w16 hbox hb; have n0_ := Aside0.mk (bkB BK162.out hb); have n1_ := Aside0.mk (bkB BK165.out hb); have n2_ := Aside0.mk (below_step (belS HB.out) hb); have n3_ := Aside0.mk (hbox); have n4_ := Aside0.mk (szB hg HB.out); have n5_ := Aside0.mk (szB hg HB.out); have n6_ := Aside0.mk ((bk1 hg BK162.out)); have n7_ := Aside0.mk ((bk2 hg BK162.out)); have n8_ := Aside0.mk ((bk1 hg BK165.out)); have n9_ := Aside0.mk ((bk2 hg BK165.out)); clear BK162; clear BK165; clear HB; have BK162 := n0_; have BK165 := n1_; have HB := n2_; have BK170 := n3_; have GW170 := n4_; have GE170 := n5_; have NB162_170 := n6_; have NB170_162 := n7_; have NB165_170 := n8_; have NB170_165 := n9_; clear n0_ n1_ n2_ n3_ n4_ n5_ n6_ n7_ n8_ n9_; clear hb hbox hg; have hnb17 := NB170_162.out; have hnc17 := NB162_170.out; have hnb18 := NB170_165.out; have hnc18 := NB165_170.out; have hcz19_0 : w16.cell? ⟨gb170, 0, none⟩ = some (.int .i64 0) := (blk_cell BK170.out 0).trans rfl; have hcz19_1 : w16.cell? ⟨gb170, 1, none⟩ = some (.int .i64 0) := (blk_cell BK170.out 1).trans rfl; have hfz19_0 := blk_frozen BK170.out 0; have hfz19_1 := blk_frozen BK170.out 1))
 (try simp only [Act.put, List.setIfInBounds_toArray, List.set_cons_zero, List.set_cons_succ])
 go_cut [29] (fun v29 wc => ∃ (kq : Nat) (x29_7 : Bool), v29 = .bool x29_7 ∧ Aside0 (marigraphlaw1_RatBack.j0 kq a3 x29_7 a0_0 a0_1 = some r) ∧ Aside0 (kq ≤ k) ∧ Aside0 (wc.heap[gb162]? = some (.cells #[.int .i64 a0_0, .int .i64 a0_1] 23 (0, 0))) ∧ Aside0 (wc.heap[gb165]? = some (.cells #[.int .i64 t163, .int .i64 t164] 23 (0, 0))) ∧ Aside0 (wc.heap[gb170]? = some (.cells #[.int .i64 t167, .int .i64 t168] 23 (0, 0))) ∧ Aside0 (Below w.heap.size w wc))
 case first =>
  have H := HC8.out
  clear HC8
  by_cases c20 : t169 = 0
  ·rw [if_pos c20] at H
   have c20b0 : (t169 == 0) = true := beq_iff_eq.mpr c20
   have c20b1 : (t169 != 0) = false := bne_eq_false_iff_eq.mpr c20
   clear c20
   (first | rw [c20b0] | rw [c20b1] | (simp only [i64_w, i32_w]; rw [c20b0]) | skip)
   have H' := Aside0.mk H
   clear H
   have hnb21 := NB170_162.out
   have hnc21 := NB162_170.out
   have hnb22 := NB170_165.out
   have hnc22 := NB165_170.out
   have hcz23_0 : w16.cell? ⟨gb170, 0, none⟩ = some (.int .i64 0) := (blk_cell BK170.out 0).trans rfl
   have hcz23_1 : w16.cell? ⟨gb170, 1, none⟩ = some (.int .i64 0) := (blk_cell BK170.out 1).trans rfl
   have hfz23_0 := blk_frozen BK170.out 0
   have hfz23_1 := blk_frozen BK170.out 1
   have hnb24 := NB165_162.out
   have hnc24 := NB162_165.out
   have hcz25_0 : w16.cell? ⟨gb165, 0, none⟩ = some (.int .i64 t163) := (blk_cell BK165.out 0).trans rfl
   have hcz25_1 : w16.cell? ⟨gb165, 1, none⟩ = some (.int .i64 t164) := (blk_cell BK165.out 1).trans rfl
   have hfz25_0 := blk_frozen BK165.out 0
   have hfz25_1 := blk_frozen BK165.out 1
   go_wp2
   go_meet
   case rel => exact ⟨_, ((!(t167 == t163) || (!(t168 == t164)))), (by first | rfl | (simp; done) | (simp [*]; done)), H', ⟨by first | omega | exact Nat.le_refl _⟩, ⟨blkF BK162.out⟩, ⟨blkF BK165.out⟩, ⟨by (with_reducible repeat (first | refine blk_drewN ?_ _ | refine blk_drew ?_ | refine blk_alloc ?_ _)); refine blk_put (cs := #[.int .i64 t167, .int .i64 0]) ?_ 1 _ rfl; (with_reducible repeat (first | refine blk_drewN ?_ _ | refine blk_drew ?_ | refine blk_alloc ?_ _)); refine blk_put (cs := #[.int .i64 0, .int .i64 0]) ?_ 0 _ rfl; (with_reducible repeat (first | refine blk_drewN ?_ _ | refine blk_drew ?_ | refine blk_alloc ?_ _)); exact BK170.out⟩, ⟨(belS HB.out)⟩⟩
  ·rw [if_neg c20] at H
   have c20b0 : (t169 == 0) = false := beq_eq_false_iff_ne.mpr c20
   have c20b1 : (t169 != 0) = true := bne_iff_ne.mpr c20
   (first | rw [c20b0] | rw [c20b1] | (simp only [i64_w, i32_w]; rw [c20b0]) | skip)
   have H' := Aside0.mk H
   clear H
   go_wp2
   go_meet
   case rel => exact ⟨_, (true), (by first | rfl | (simp; done) | (simp [*]; done)), H', ⟨by first | omega | exact Nat.le_refl _⟩, ⟨blkF BK162.out⟩, ⟨blkF BK165.out⟩, ⟨by (with_reducible repeat (first | refine blk_drewN ?_ _ | refine blk_drew ?_ | refine blk_alloc ?_ _)); refine blk_put (cs := #[.int .i64 t167, .int .i64 0]) ?_ 1 _ rfl; (with_reducible repeat (first | refine blk_drewN ?_ _ | refine blk_drew ?_ | refine blk_alloc ?_ _)); refine blk_put (cs := #[.int .i64 0, .int .i64 0]) ?_ 0 _ rfl; (with_reducible repeat (first | refine blk_drewN ?_ _ | refine blk_drew ?_ | refine blk_alloc ?_ _)); exact BK170.out⟩, ⟨(belS HB.out)⟩⟩
 case rest =>
  clear HC8
  try clear c1
  try clear c2
  try clear p2
  try clear c3
  try clear c7
  try clear c8
  try clear c9
  try clear c12
  try clear c17
  try clear c18
  try clear c20
  try clear c20b0
  try clear c20b1
  try clear c21
  try clear c22
  try clear c24
  try clear hcz13_0
  try clear hcz13_1
  try clear hcz19_0
  try clear hcz19_1
  try clear hcz23_0
  try clear hcz23_1
  try clear hcz25_0
  try clear hcz25_1
  try clear hfz13_0
  try clear hfz13_1
  try clear hfz19_0
  try clear hfz19_1
  try clear hfz23_0
  try clear hfz23_1
  try clear hfz25_0
  try clear hfz25_1
  obtain ⟨kq, x29_7, rfl, HA, HJ7, BK162, BK165, BK170, HB⟩ := hcut
  cases kq with
  | zero => exact absurd HA.out (by simp [marigraphlaw1_RatBack.j0])
  | succ kj7 =>
   have H := HA.out
   clear HA
   simp only [marigraphlaw1_RatBack.j0] at H
   by_cases c26 : x29_7 = true
   ·subst c26
    have H1 : (some false) = some r := by rw [if_pos rfl] at H; exact H
    clear H
    have H := H1
    clear H1
    obtain rfl := Option.some.inj H
    go_wp2
    go_ret
    exact ⟨by first | rfl | (simp [errW_none, errW_some] <;> rfl) | (simp [*, errW_none, errW_some] <;> rfl), (belS HB.out)⟩
   ·replace c26 := Bool.eq_false_iff.mpr c26
    subst c26
    have H1 : ((rat_Right.f kj7 a0_0 a0_1).bind fun t171 => (if t171 = true then ((rat_Text.f kj7 a0_0 a0_1).bind fun t172 => ((rat_Parse.f kj7 t172).bind fun bt173 => (if bt173.2.2 = 0 then (if (!(bt173.1 == a0_0) || (!(bt173.2.1 == a0_1))) = true then (some false) else (marigraphlaw1_RatBack.j1 kj7 a3)) else (some false)))) else (marigraphlaw1_RatBack.j1 kj7 a3))) = some r := by rw [if_neg (show ¬ (false = true) by decide)] at H; exact H
    clear H
    have H := H1
    clear H1
    replace H := Option.bind_eq_some_iff.mp H
    obtain ⟨t171, A270, H⟩ := H
    replace H : (if t171 = true then ((rat_Text.f kj7 a0_0 a0_1).bind fun t172 => ((rat_Parse.f kj7 t172).bind fun bt173 => (if bt173.2.2 = 0 then (if (!(bt173.1 == a0_0) || (!(bt173.2.1 == a0_1))) = true then (some false) else (marigraphlaw1_RatBack.j1 kj7 a3)) else (some false)))) else (marigraphlaw1_RatBack.j1 kj7 a3)) = some r := H
    have A27 := Aside0.mk A270
    clear A270
    have HC28 := Aside0.mk H
    clear H
    have hnb29 := NB162_165.out
    have hnc29 := NB165_162.out
    have hnb30 := NB162_170.out
    have hnc30 := NB170_162.out
    have hcz31_0 : wc.cell? ⟨gb162, 0, none⟩ = some (.int .i64 a0_0) := (blk_cell BK162.out 0).trans rfl
    have hcz31_1 : wc.cell? ⟨gb162, 1, none⟩ = some (.int .i64 a0_1) := (blk_cell BK162.out 1).trans rfl
    have hfz31_0 := blk_frozen BK162.out 0
    have hfz31_1 := blk_frozen BK162.out 1
    go_upto_if 31 with (first | ((with_reducible refine gate_callee (f := 10) rfl ?_); refine goesL_ (some 31) rfl rfl Try.func10 (by kernel_rfl) rfl #[.agg #[.int .i64 a0_0, .int .i64 a0_1]] rfl argN ?_; (with_reducible refine (rat_Right.calls kj7 a0_0 a0_1 t171 _ A27.out).mono ?_); rintro e w32 ⟨rfl, hb⟩; refine ⟨_, rfl, ?_⟩; have n0_ := Aside0.mk (bkB BK162.out hb); have n1_ := Aside0.mk (bkB BK165.out hb); have n2_ := Aside0.mk (bkB BK170.out hb); have n3_ := Aside0.mk (below_step (belS HB.out) hb); clear BK162; clear BK165; clear BK170; clear HB; have BK162 := n0_; have BK165 := n1_; have BK170 := n2_; have HB := n3_; clear n0_ n1_ n2_ n3_; (try clear hb)))
    (try simp only [Act.put, List.setIfInBounds_toArray, List.set_cons_zero, List.set_cons_succ])
    go_cut [] (fun wc => ∃ (kq : Nat) (x171000_27 : Int) (x171001_27 : Int), Aside0 (marigraphlaw1_RatBack.j1 kq a3 = some r) ∧ Aside0 (kq ≤ kj7) ∧ Aside0 (wc.heap[gb162]? = some (.cells #[.int .i64 a0_0, .int .i64 a0_1] 23 (0, 0))) ∧ Aside0 (wc.heap[gb165]? = some (.cells #[.int .i64 t163, .int .i64 t164] 23 (0, 0))) ∧ Aside0 (wc.heap[gb170]? = some (.cells #[.int .i64 x171000_27, .int .i64 x171001_27] 23 (0, 0))) ∧ Aside0 (Below w.heap.size w wc))
    case first =>
     have H := HC28.out
     clear HC28
     by_cases c33 : t171 = true
     ·subst c33
      have H1 : ((rat_Text.f kj7 a0_0 a0_1).bind fun t172 => ((rat_Parse.f kj7 t172).bind fun bt173 => (if bt173.2.2 = 0 then (if (!(bt173.1 == a0_0) || (!(bt173.2.1 == a0_1))) = true then (some false) else (marigraphlaw1_RatBack.j1 kj7 a3)) else (some false)))) = some r := by rw [if_pos rfl] at H; exact H
      clear H
      have H := H1
      clear H1
      replace H := Option.bind_eq_some_iff.mp H
      obtain ⟨t172, A340, H⟩ := H
      replace H : ((rat_Parse.f kj7 t172).bind fun bt173 => (if bt173.2.2 = 0 then (if (!(bt173.1 == a0_0) || (!(bt173.2.1 == a0_1))) = true then (some false) else (marigraphlaw1_RatBack.j1 kj7 a3)) else (some false))) = some r := H
      have A34 := Aside0.mk A340
      clear A340
      replace H := Option.bind_eq_some_iff.mp H
      obtain ⟨⟨t173, t174, t175⟩, A350, H⟩ := H
      replace H : (if t175 = 0 then (if (!(t173 == a0_0) || (!(t174 == a0_1))) = true then (some false) else (marigraphlaw1_RatBack.j1 kj7 a3)) else (some false)) = some r := H
      have A35 := Aside0.mk A350
      clear A350
      by_cases c36 : t175 = 0
      ·rw [if_pos c36] at H
       have c36b0 : (t175 == 0) = true := beq_iff_eq.mpr c36
       have c36b1 : (t175 != 0) = false := bne_eq_false_iff_eq.mpr c36
       clear c36
       (first | rw [c36b0] | rw [c36b1] | (simp only [i64_w, i32_w]; rw [c36b0]) | skip)
       by_cases c37 : (!(t173 == a0_0) || (!(t174 == a0_1))) = true
       ·rw [if_pos c37] at H
        have c37b0 : (!(t173 == a0_0) || (!(t174 == a0_1))) = true := c37
        clear c37
        obtain rfl := Option.some.inj H
        have hnb38 := NB162_165.out
        have hnc38 := NB165_162.out
        have hnb39 := NB162_170.out
        have hnc39 := NB170_162.out
        have hcz40_0 : w32.cell? ⟨gb162, 0, none⟩ = some (.int .i64 a0_0) := (blk_cell BK162.out 0).trans rfl
        have hcz40_1 : w32.cell? ⟨gb162, 1, none⟩ = some (.int .i64 a0_1) := (blk_cell BK162.out 1).trans rfl
        have hfz40_0 := blk_frozen BK162.out 0
        have hfz40_1 := blk_frozen BK162.out 1
        go_wp2_with (first | ((with_reducible refine gate_callee (f := 9) rfl ?_); refine goesL_ (some 34) rfl rfl Try.func9 (by kernel_rfl) rfl #[.agg #[.int .i64 a0_0, .int .i64 a0_1]] rfl argN ?_; (with_reducible refine (rat_Text.calls kj7 a0_0 a0_1 t172 _ A34.out).mono ?_); rintro e w41 ⟨rfl, hb⟩; refine ⟨_, rfl, ?_⟩; have n0_ := Aside0.mk (bkB BK162.out hb); have n1_ := Aside0.mk (bkB BK165.out hb); have n2_ := Aside0.mk (bkB BK170.out hb); have n3_ := Aside0.mk (below_step (belS HB.out) hb); clear BK162; clear BK165; clear BK170; clear HB; have BK162 := n0_; have BK165 := n1_; have BK170 := n2_; have HB := n3_; clear n0_ n1_ n2_ n3_; (try clear hb)) | ((with_reducible refine gate_callee (f := 8) rfl ?_); refine goesL_ (some 35) rfl rfl Try.func8 (by kernel_rfl) rfl #[.string t172] rfl argN ?_; (with_reducible refine (rat_Parse.calls kj7 t172 t173 t174 t175 _ A35.out).mono ?_); rintro e w42 ⟨rfl, hb⟩; refine ⟨_, rfl, ?_⟩; have n0_ := Aside0.mk (bkB BK162.out hb); have n1_ := Aside0.mk (bkB BK165.out hb); have n2_ := Aside0.mk (bkB BK170.out hb); have n3_ := Aside0.mk (below_step (belS HB.out) hb); clear BK162; clear BK165; clear BK170; clear HB; have BK162 := n0_; have BK165 := n1_; have BK170 := n2_; have HB := n3_; clear n0_ n1_ n2_ n3_; (try clear hb); have hnb43 := NB170_165.out; have hnc43 := NB165_170.out; have hcz44_0 : w42.cell? ⟨gb170, 0, none⟩ = some (.int .i64 t167) := (blk_cell BK170.out 0).trans rfl; have hcz44_1 : w42.cell? ⟨gb170, 1, none⟩ = some (.int .i64 t168) := (blk_cell BK170.out 1).trans rfl; have hfz44_0 := blk_frozen BK170.out 0; have hfz44_1 := blk_frozen BK170.out 1; have hcz45_0 : w42.cell? ⟨gb162, 0, none⟩ = some (.int .i64 a0_0) := (blk_cell BK162.out 0).trans rfl; have hcz45_1 : w42.cell? ⟨gb162, 1, none⟩ = some (.int .i64 a0_1) := (blk_cell BK162.out 1).trans rfl; have hfz45_0 := blk_frozen BK162.out 0; have hfz45_1 := blk_frozen BK162.out 1))
        go_ret
        exact ⟨by first | rfl | (simp [errW_none, errW_some] <;> rfl) | (simp [*, errW_none, errW_some] <;> rfl), (belS HB.out)⟩
       ·rw [if_neg c37] at H
        have c37b0 : (!(t173 == a0_0) || (!(t174 == a0_1))) = false := by simpa using c37
        clear c37
        have H' := Aside0.mk H
        clear H
        have hnb46 := NB162_165.out
        have hnc46 := NB165_162.out
        have hnb47 := NB162_170.out
        have hnc47 := NB170_162.out
        have hcz48_0 : w32.cell? ⟨gb162, 0, none⟩ = some (.int .i64 a0_0) := (blk_cell BK162.out 0).trans rfl
        have hcz48_1 : w32.cell? ⟨gb162, 1, none⟩ = some (.int .i64 a0_1) := (blk_cell BK162.out 1).trans rfl
        have hfz48_0 := blk_frozen BK162.out 0
        have hfz48_1 := blk_frozen BK162.out 1
        go_wp2_with (first | ((with_reducible refine gate_callee (f := 9) rfl ?_); refine goesL_ (some 34) rfl rfl Try.func9 (by kernel_rfl) rfl #[.agg #[.int .i64 a0_0, .int .i64 a0_1]] rfl argN ?_; (with_reducible refine (rat_Text.calls kj7 a0_0 a0_1 t172 _ A34.out).mono ?_); rintro e w49 ⟨rfl, hb⟩; refine ⟨_, rfl, ?_⟩; have n0_ := Aside0.mk (bkB BK162.out hb); have n1_ := Aside0.mk (bkB BK165.out hb); have n2_ := Aside0.mk (bkB BK170.out hb); have n3_ := Aside0.mk (below_step (belS HB.out) hb); clear BK162; clear BK165; clear BK170; clear HB; have BK162 := n0_; have BK165 := n1_; have BK170 := n2_; have HB := n3_; clear n0_ n1_ n2_ n3_; (try clear hb)) | ((with_reducible refine gate_callee (f := 8) rfl ?_); refine goesL_ (some 35) rfl rfl Try.func8 (by kernel_rfl) rfl #[.string t172] rfl argN ?_; (with_reducible refine (rat_Parse.calls kj7 t172 t173 t174 t175 _ A35.out).mono ?_); rintro e w50 ⟨rfl, hb⟩; refine ⟨_, rfl, ?_⟩; have n0_ := Aside0.mk (bkB BK162.out hb); have n1_ := Aside0.mk (bkB BK165.out hb); have n2_ := Aside0.mk (bkB BK170.out hb); have n3_ := Aside0.mk (below_step (belS HB.out) hb); clear BK162; clear BK165; clear BK170; clear HB; have BK162 := n0_; have BK165 := n1_; have BK170 := n2_; have HB := n3_; clear n0_ n1_ n2_ n3_; (try clear hb); have hnb51 := NB170_165.out; have hnc51 := NB165_170.out; have hcz52_0 : w50.cell? ⟨gb170, 0, none⟩ = some (.int .i64 t167) := (blk_cell BK170.out 0).trans rfl; have hcz52_1 : w50.cell? ⟨gb170, 1, none⟩ = some (.int .i64 t168) := (blk_cell BK170.out 1).trans rfl; have hfz52_0 := blk_frozen BK170.out 0; have hfz52_1 := blk_frozen BK170.out 1; have hcz53_0 : w50.cell? ⟨gb162, 0, none⟩ = some (.int .i64 a0_0) := (blk_cell BK162.out 0).trans rfl; have hcz53_1 : w50.cell? ⟨gb162, 1, none⟩ = some (.int .i64 a0_1) := (blk_cell BK162.out 1).trans rfl; have hfz53_0 := blk_frozen BK162.out 0; have hfz53_1 := blk_frozen BK162.out 1))
        go_meet
        case rel => exact ⟨_, (t173), (t174), H', ⟨by have := HJ7.out; first | omega | exact Nat.le_refl _⟩, ⟨blkF BK162.out⟩, ⟨blkF BK165.out⟩, ⟨by (with_reducible repeat (first | refine blk_drewN ?_ _ | refine blk_drew ?_ | refine blk_alloc ?_ _)); refine blk_put (cs := #[.int .i64 t173, .int .i64 t168]) ?_ 1 _ rfl; (with_reducible repeat (first | refine blk_drewN ?_ _ | refine blk_drew ?_ | refine blk_alloc ?_ _)); refine blk_put (cs := #[.int .i64 t167, .int .i64 t168]) ?_ 0 _ rfl; (with_reducible repeat (first | refine blk_drewN ?_ _ | refine blk_drew ?_ | refine blk_alloc ?_ _)); exact BK170.out⟩, ⟨(belS HB.out)⟩⟩
      ·rw [if_neg c36] at H
       have c36b0 : (t175 == 0) = false := beq_eq_false_iff_ne.mpr c36
       have c36b1 : (t175 != 0) = true := bne_iff_ne.mpr c36
       (first | rw [c36b0] | rw [c36b1] | (simp only [i64_w, i32_w]; rw [c36b0]) | skip)
       obtain rfl := Option.some.inj H
       have hnb54 := NB162_165.out
       have hnc54 := NB165_162.out
       have hnb55 := NB162_170.out
       have hnc55 := NB170_162.out
       have hcz56_0 : w32.cell? ⟨gb162, 0, none⟩ = some (.int .i64 a0_0) := (blk_cell BK162.out 0).trans rfl
       have hcz56_1 : w32.cell? ⟨gb162, 1, none⟩ = some (.int .i64 a0_1) := (blk_cell BK162.out 1).trans rfl
       have hfz56_0 := blk_frozen BK162.out 0
       have hfz56_1 := blk_frozen BK162.out 1
       go_wp2_with (first | ((with_reducible refine gate_callee (f := 9) rfl ?_); refine goesL_ (some 34) rfl rfl Try.func9 (by kernel_rfl) rfl #[.agg #[.int .i64 a0_0, .int .i64 a0_1]] rfl argN ?_; (with_reducible refine (rat_Text.calls kj7 a0_0 a0_1 t172 _ A34.out).mono ?_); rintro e w57 ⟨rfl, hb⟩; refine ⟨_, rfl, ?_⟩; have n0_ := Aside0.mk (bkB BK162.out hb); have n1_ := Aside0.mk (bkB BK165.out hb); have n2_ := Aside0.mk (bkB BK170.out hb); have n3_ := Aside0.mk (below_step (belS HB.out) hb); clear BK162; clear BK165; clear BK170; clear HB; have BK162 := n0_; have BK165 := n1_; have BK170 := n2_; have HB := n3_; clear n0_ n1_ n2_ n3_; (try clear hb)) | ((with_reducible refine gate_callee (f := 8) rfl ?_); refine goesL_ (some 35) rfl rfl Try.func8 (by kernel_rfl) rfl #[.string t172] rfl argN ?_; (with_reducible refine (rat_Parse.calls kj7 t172 t173 t174 t175 _ A35.out).mono ?_); rintro e w58 ⟨rfl, hb⟩; refine ⟨_, rfl, ?_⟩; have n0_ := Aside0.mk (bkB BK162.out hb); have n1_ := Aside0.mk (bkB BK165.out hb); have n2_ := Aside0.mk (bkB BK170.out hb); have n3_ := Aside0.mk (below_step (belS HB.out) hb); clear BK162; clear BK165; clear BK170; clear HB; have BK162 := n0_; have BK165 := n1_; have BK170 := n2_; have HB := n3_; clear n0_ n1_ n2_ n3_; (try clear hb); have hnb59 := NB170_165.out; have hnc59 := NB165_170.out; have hcz60_0 : w58.cell? ⟨gb170, 0, none⟩ = some (.int .i64 t167) := (blk_cell BK170.out 0).trans rfl; have hcz60_1 : w58.cell? ⟨gb170, 1, none⟩ = some (.int .i64 t168) := (blk_cell BK170.out 1).trans rfl; have hfz60_0 := blk_frozen BK170.out 0; have hfz60_1 := blk_frozen BK170.out 1))
       go_ret
       exact ⟨by first | rfl | (simp [errW_none, errW_some] <;> rfl) | (simp [*, errW_none, errW_some] <;> rfl), (belS HB.out)⟩
     ·replace c33 := Bool.eq_false_iff.mpr c33
      subst c33
      have H1 : (marigraphlaw1_RatBack.j1 kj7 a3) = some r := by rw [if_neg (show ¬ (false = true) by decide)] at H; exact H
      clear H
      have H := H1
      clear H1
      have H' := Aside0.mk H
      clear H
      go_wp2
      go_meet
      case rel => exact ⟨_, (t167), (t168), H', ⟨by have := HJ7.out; first | omega | exact Nat.le_refl _⟩, ⟨blkN BK162.out⟩, ⟨blkN BK165.out⟩, ⟨blkN BK170.out⟩, ⟨(belS HB.out)⟩⟩
    case rest =>
     clear HC28
     try clear c1
     try clear c2
     try clear p2
     try clear c3
     try clear c4
     try clear c5
     try clear c7
     try clear c8
     try clear c9
     try clear c10
     try clear c12
     try clear c17
     try clear c18
     try clear c20
     try clear c20b0
     try clear c20b1
     try clear c21
     try clear c22
     try clear c24
     try clear c26
     try clear c29
     try clear c30
     try clear c33
     try clear c36
     try clear c36b0
     try clear c36b1
     try clear c37
     try clear c37b0
     try clear c38
     try clear c39
     try clear c43
     try clear c46
     try clear c47
     try clear c51
     try clear c54
     try clear c55
     try clear c59
     try clear hcz13_0
     try clear hcz13_1
     try clear hcz19_0
     try clear hcz19_1
     try clear hcz23_0
     try clear hcz23_1
     try clear hcz25_0
     try clear hcz25_1
     try clear hcz31_0
     try clear hcz31_1
     try clear hcz40_0
     try clear hcz40_1
     try clear hcz44_0
     try clear hcz44_1
     try clear hcz45_0
     try clear hcz45_1
     try clear hcz48_0
     try clear hcz48_1
     try clear hcz52_0
     try clear hcz52_1
     try clear hcz53_0
     try clear hcz53_1
     try clear hcz56_0
     try clear hcz56_1
     try clear hcz60_0
     try clear hcz60_1
     try clear hfz13_0
     try clear hfz13_1
     try clear hfz19_0
     try clear hfz19_1
     try clear hfz23_0
     try clear hfz23_1
     try clear hfz25_0
     try clear hfz25_1
     try clear hfz31_0
     try clear hfz31_1
     try clear hfz40_0
     try clear hfz40_1
     try clear hfz44_0
     try clear hfz44_1
     try clear hfz45_0
     try clear hfz45_1
     try clear hfz48_0
     try clear hfz48_1
     try clear hfz52_0
     try clear hfz52_1
     try clear hfz53_0
     try clear hfz53_1
     try clear hfz56_0
     try clear hfz56_1
     try clear hfz60_0
     try clear hfz60_1
     try clear p2
     obtain ⟨kq, x171000_27, x171001_27, HA, HJ27, BK162, BK165, BK170, HB⟩ := hcut
     cases kq with
     | zero => exact absurd HA.out (by simp [marigraphlaw1_RatBack.j1])
     | succ kj27 =>
      have H := HA.out
      clear HA
      simp only [marigraphlaw1_RatBack.j1] at H
      replace H := Option.bind_eq_some_iff.mp H
      obtain ⟨⟨t176, t177, t178⟩, A610, H⟩ := H
      replace H : (if t178 = 0 then ((rat_Right.f kj27 t176 t177).bind fun t180 => (if t180 = true then ((rat_Text.f kj27 t176 t177).bind fun t181 => (if t181.toList = a3.toList then ((marigraphlaw1_known.f kj27).bind fun t182 => (some t182)) else (some false))) else (some false))) else ((marigraphlaw1_known.f kj27).bind fun t183 => (some t183))) = some r := H
      have A61 := Aside0.mk A610
      clear A610
      by_cases c62 : t178 = 0
      ·rw [if_pos c62] at H
       have c62b0 : (t178 == 0) = true := beq_iff_eq.mpr c62
       have c62b1 : (t178 != 0) = false := bne_eq_false_iff_eq.mpr c62
       clear c62
       replace H := Option.bind_eq_some_iff.mp H
       obtain ⟨t180, A630, H⟩ := H
       replace H : (if t180 = true then ((rat_Text.f kj27 t176 t177).bind fun t181 => (if t181.toList = a3.toList then ((marigraphlaw1_known.f kj27).bind fun t182 => (some t182)) else (some false))) else (some false)) = some r := H
       have A63 := Aside0.mk A630
       clear A630
       by_cases c64 : t180 = true
       ·subst c64
        have H1 : ((rat_Text.f kj27 t176 t177).bind fun t181 => (if t181.toList = a3.toList then ((marigraphlaw1_known.f kj27).bind fun t182 => (some t182)) else (some false))) = some r := by rw [if_pos rfl] at H; exact H
        clear H
        have H := H1
        clear H1
        replace H := Option.bind_eq_some_iff.mp H
        obtain ⟨t181, A650, H⟩ := H
        replace H : (if t181.toList = a3.toList then ((marigraphlaw1_known.f kj27).bind fun t182 => (some t182)) else (some false)) = some r := H
        have A65 := Aside0.mk A650
        clear A650
        by_cases c66 : t181.toList = a3.toList
        ·rw [if_pos c66] at H
         have c66b0 : (t181.toList == a3.toList) = true := beq_iff_eq.mpr c66
         have c66b1 : (t181.toList != a3.toList) = false := bne_eq_false_iff_eq.mpr c66
         clear c66
         replace H := Option.bind_eq_some_iff.mp H
         obtain ⟨t182, A670, H⟩ := H
         replace H : (some t182) = some r := H
         have A67 := Aside0.mk A670
         clear A670
         obtain rfl := Option.some.inj H
         go_wp2_with (first | ((with_reducible refine gate_callee (f := 8) rfl ?_); refine goesL_ (some 47) rfl rfl Try.func8 (by kernel_rfl) rfl #[.string a3] rfl argN ?_; (with_reducible refine (rat_Parse.calls kj27 a3 t176 t177 t178 _ A61.out).mono ?_); rintro e w68 ⟨rfl, hb⟩; refine ⟨_, rfl, ?_⟩; have n0_ := Aside0.mk (bkB BK162.out hb); have n1_ := Aside0.mk (bkB BK165.out hb); have n2_ := Aside0.mk (bkB BK170.out hb); have n3_ := Aside0.mk (below_step (belS HB.out) hb); clear BK162; clear BK165; clear BK170; clear HB; have BK162 := n0_; have BK165 := n1_; have BK170 := n2_; have HB := n3_; clear n0_ n1_ n2_ n3_; (try clear hb)) | ((with_reducible refine gate_dst (N := 12) rfl ?_); refine box_event ?hg (N := 12) ?hd (cs := #[.int .i64 0, .int .i64 0]) (t := 23) ?hr ?_; (case hd => rfl); (case hg => rfl); (case hr => first | (go_simp; done) | (go_simp; rfl)); intro gb179 hg w69 hbox hb; have n0_ := Aside0.mk (bkB BK162.out hb); have n1_ := Aside0.mk (bkB BK165.out hb); have n2_ := Aside0.mk (bkB BK170.out hb); have n3_ := Aside0.mk (below_step (belS HB.out) hb); have n4_ := Aside0.mk (hbox); have n5_ := Aside0.mk (szB hg HB.out); have n6_ := Aside0.mk (szB hg HB.out); have n7_ := Aside0.mk ((bk1 hg BK162.out)); have n8_ := Aside0.mk ((bk2 hg BK162.out)); have n9_ := Aside0.mk ((bk1 hg BK165.out)); have n10_ := Aside0.mk ((bk2 hg BK165.out)); have n11_ := Aside0.mk ((bk1 hg BK170.out)); have n12_ := Aside0.mk ((bk2 hg BK170.out)); clear BK162; clear BK165; clear BK170; clear HB; have BK162 := n0_; have BK165 := n1_; have BK170 := n2_; have HB := n3_; have BK179 := n4_; have GW179 := n5_; have GE179 := n6_; have NB162_179 := n7_; have NB179_162 := n8_; have NB165_179 := n9_; have NB179_165 := n10_; have NB170_179 := n11_; have NB179_170 := n12_; clear n0_ n1_ n2_ n3_ n4_ n5_ n6_ n7_ n8_ n9_ n10_ n11_ n12_; clear hb hbox hg; have hnb70 := NB179_162.out; have hnc70 := NB162_179.out; have hnb71 := NB179_165.out; have hnc71 := NB165_179.out; have hnb72 := NB179_170.out; have hnc72 := NB170_179.out; have hcz73_0 : w69.cell? ⟨gb179, 0, none⟩ = some (.int .i64 0) := (blk_cell BK179.out 0).trans rfl; have hcz73_1 : w69.cell? ⟨gb179, 1, none⟩ = some (.int .i64 0) := (blk_cell BK179.out 1).trans rfl; have hfz73_0 := blk_frozen BK179.out 0; have hfz73_1 := blk_frozen BK179.out 1) | (go_at_call 10; (with_reducible refine (rat_Right.calls kj27 t176 t177 true _ A63.out).mono ?_); rintro e w74 ⟨rfl, hb⟩; have n0_ := Aside0.mk (bkBF BK162.out hb); have n1_ := Aside0.mk (bkBF BK165.out hb); have n2_ := Aside0.mk (bkBF BK170.out hb); have n3_ := Aside0.mk (blk_below (g := gb179) (o := .cells #[.int .i64 t176, .int .i64 t177] 23 (0, 0)) (by (with_reducible repeat (first | refine blk_drewN ?_ _ | refine blk_drew ?_ | refine blk_alloc ?_ _)); refine blk_put (cs := #[.int .i64 t176, .int .i64 0]) ?_ 1 _ rfl; (with_reducible repeat (first | refine blk_drewN ?_ _ | refine blk_drew ?_ | refine blk_alloc ?_ _)); refine blk_put (cs := #[.int .i64 0, .int .i64 0]) ?_ 0 _ rfl; (with_reducible repeat (first | refine blk_drewN ?_ _ | refine blk_drew ?_ | refine blk_alloc ?_ _)); exact BK179.out) hb); have n4_ := Aside0.mk (below_step (belS HB.out) hb); clear BK162; clear BK165; clear BK170; clear BK179; clear HB; have BK162 := n0_; have BK165 := n1_; have BK170 := n2_; have BK179 := n3_; have HB := n4_; clear n0_ n1_ n2_ n3_ n4_; (try clear hb); have hcz75_0 : w74.cell? ⟨gb179, 0, none⟩ = some (.int .i64 t176) := (blk_cell BK179.out 0).trans rfl; have hcz75_1 : w74.cell? ⟨gb179, 1, none⟩ = some (.int .i64 t177) := (blk_cell BK179.out 1).trans rfl; have hfz75_0 := blk_frozen BK179.out 0; have hfz75_1 := blk_frozen BK179.out 1) | (go_at_call 9; (with_reducible refine (rat_Text.calls kj27 t176 t177 t181 _ A65.out).mono ?_); rintro e w76 ⟨rfl, hb⟩; have n0_ := Aside0.mk (bkB BK162.out hb); have n1_ := Aside0.mk (bkB BK165.out hb); have n2_ := Aside0.mk (bkB BK170.out hb); have n3_ := Aside0.mk (bkB BK179.out hb); have n4_ := Aside0.mk (below_step (belS HB.out) hb); clear BK162; clear BK165; clear BK170; clear BK179; clear HB; have BK162 := n0_; have BK165 := n1_; have BK170 := n2_; have BK179 := n3_; have HB := n4_; clear n0_ n1_ n2_ n3_ n4_; (try clear hb)) | (go_at_call 11; (with_reducible refine (marigraphlaw1_known.calls kj27  t182 _ A67.out).mono ?_); rintro e w77 ⟨rfl, hb⟩; have n0_ := Aside0.mk (bkB BK162.out hb); have n1_ := Aside0.mk (bkB BK165.out hb); have n2_ := Aside0.mk (bkB BK170.out hb); have n3_ := Aside0.mk (bkB BK179.out hb); have n4_ := Aside0.mk (below_step (belS HB.out) hb); clear BK162; clear BK165; clear BK170; clear BK179; clear HB; have BK162 := n0_; have BK165 := n1_; have BK170 := n2_; have BK179 := n3_; have HB := n4_; clear n0_ n1_ n2_ n3_ n4_; (try clear hb)))
         go_ret
         exact ⟨by first | rfl | (simp [errW_none, errW_some] <;> rfl) | (simp [*, errW_none, errW_some] <;> rfl), (belS HB.out)⟩
        ·rw [if_neg c66] at H
         have c66b0 : (t181.toList == a3.toList) = false := beq_eq_false_iff_ne.mpr c66
         have c66b1 : (t181.toList != a3.toList) = true := bne_iff_ne.mpr c66
         obtain rfl := Option.some.inj H
         go_wp2_with (first | ((with_reducible refine gate_callee (f := 8) rfl ?_); refine goesL_ (some 47) rfl rfl Try.func8 (by kernel_rfl) rfl #[.string a3] rfl argN ?_; (with_reducible refine (rat_Parse.calls kj27 a3 t176 t177 t178 _ A61.out).mono ?_); rintro e w78 ⟨rfl, hb⟩; refine ⟨_, rfl, ?_⟩; have n0_ := Aside0.mk (bkB BK162.out hb); have n1_ := Aside0.mk (bkB BK165.out hb); have n2_ := Aside0.mk (bkB BK170.out hb); have n3_ := Aside0.mk (below_step (belS HB.out) hb); clear BK162; clear BK165; clear BK170; clear HB; have BK162 := n0_; have BK165 := n1_; have BK170 := n2_; have HB := n3_; clear n0_ n1_ n2_ n3_; (try clear hb)) | ((with_reducible refine gate_dst (N := 12) rfl ?_); refine box_event ?hg (N := 12) ?hd (cs := #[.int .i64 0, .int .i64 0]) (t := 23) ?hr ?_; (case hd => rfl); (case hg => rfl); (case hr => first | (go_simp; done) | (go_simp; rfl)); intro gb179 hg w79 hbox hb; have n0_ := Aside0.mk (bkB BK162.out hb); have n1_ := Aside0.mk (bkB BK165.out hb); have n2_ := Aside0.mk (bkB BK170.out hb); have n3_ := Aside0.mk (below_step (belS HB.out) hb); have n4_ := Aside0.mk (hbox); have n5_ := Aside0.mk (szB hg HB.out); have n6_ := Aside0.mk (szB hg HB.out); have n7_ := Aside0.mk ((bk1 hg BK162.out)); have n8_ := Aside0.mk ((bk2 hg BK162.out)); have n9_ := Aside0.mk ((bk1 hg BK165.out)); have n10_ := Aside0.mk ((bk2 hg BK165.out)); have n11_ := Aside0.mk ((bk1 hg BK170.out)); have n12_ := Aside0.mk ((bk2 hg BK170.out)); clear BK162; clear BK165; clear BK170; clear HB; have BK162 := n0_; have BK165 := n1_; have BK170 := n2_; have HB := n3_; have BK179 := n4_; have GW179 := n5_; have GE179 := n6_; have NB162_179 := n7_; have NB179_162 := n8_; have NB165_179 := n9_; have NB179_165 := n10_; have NB170_179 := n11_; have NB179_170 := n12_; clear n0_ n1_ n2_ n3_ n4_ n5_ n6_ n7_ n8_ n9_ n10_ n11_ n12_; clear hb hbox hg; have hnb80 := NB179_162.out; have hnc80 := NB162_179.out; have hnb81 := NB179_165.out; have hnc81 := NB165_179.out; have hnb82 := NB179_170.out; have hnc82 := NB170_179.out; have hcz83_0 : w79.cell? ⟨gb179, 0, none⟩ = some (.int .i64 0) := (blk_cell BK179.out 0).trans rfl; have hcz83_1 : w79.cell? ⟨gb179, 1, none⟩ = some (.int .i64 0) := (blk_cell BK179.out 1).trans rfl; have hfz83_0 := blk_frozen BK179.out 0; have hfz83_1 := blk_frozen BK179.out 1) | (go_at_call 10; (with_reducible refine (rat_Right.calls kj27 t176 t177 true _ A63.out).mono ?_); rintro e w84 ⟨rfl, hb⟩; have n0_ := Aside0.mk (bkBF BK162.out hb); have n1_ := Aside0.mk (bkBF BK165.out hb); have n2_ := Aside0.mk (bkBF BK170.out hb); have n3_ := Aside0.mk (blk_below (g := gb179) (o := .cells #[.int .i64 t176, .int .i64 t177] 23 (0, 0)) (by (with_reducible repeat (first | refine blk_drewN ?_ _ | refine blk_drew ?_ | refine blk_alloc ?_ _)); refine blk_put (cs := #[.int .i64 t176, .int .i64 0]) ?_ 1 _ rfl; (with_reducible repeat (first | refine blk_drewN ?_ _ | refine blk_drew ?_ | refine blk_alloc ?_ _)); refine blk_put (cs := #[.int .i64 0, .int .i64 0]) ?_ 0 _ rfl; (with_reducible repeat (first | refine blk_drewN ?_ _ | refine blk_drew ?_ | refine blk_alloc ?_ _)); exact BK179.out) hb); have n4_ := Aside0.mk (below_step (belS HB.out) hb); clear BK162; clear BK165; clear BK170; clear BK179; clear HB; have BK162 := n0_; have BK165 := n1_; have BK170 := n2_; have BK179 := n3_; have HB := n4_; clear n0_ n1_ n2_ n3_ n4_; (try clear hb); have hcz85_0 : w84.cell? ⟨gb179, 0, none⟩ = some (.int .i64 t176) := (blk_cell BK179.out 0).trans rfl; have hcz85_1 : w84.cell? ⟨gb179, 1, none⟩ = some (.int .i64 t177) := (blk_cell BK179.out 1).trans rfl; have hfz85_0 := blk_frozen BK179.out 0; have hfz85_1 := blk_frozen BK179.out 1) | (go_at_call 9; (with_reducible refine (rat_Text.calls kj27 t176 t177 t181 _ A65.out).mono ?_); rintro e w86 ⟨rfl, hb⟩; have n0_ := Aside0.mk (bkB BK162.out hb); have n1_ := Aside0.mk (bkB BK165.out hb); have n2_ := Aside0.mk (bkB BK170.out hb); have n3_ := Aside0.mk (bkB BK179.out hb); have n4_ := Aside0.mk (below_step (belS HB.out) hb); clear BK162; clear BK165; clear BK170; clear BK179; clear HB; have BK162 := n0_; have BK165 := n1_; have BK170 := n2_; have BK179 := n3_; have HB := n4_; clear n0_ n1_ n2_ n3_ n4_; (try clear hb)))
         go_ret
         exact ⟨by first | rfl | (simp [errW_none, errW_some] <;> rfl) | (simp [*, errW_none, errW_some] <;> rfl), (belS HB.out)⟩
       ·replace c64 := Bool.eq_false_iff.mpr c64
        subst c64
        have H1 : (some false) = some r := by rw [if_neg (show ¬ (false = true) by decide)] at H; exact H
        clear H
        have H := H1
        clear H1
        obtain rfl := Option.some.inj H
        go_wp2_with (first | ((with_reducible refine gate_callee (f := 8) rfl ?_); refine goesL_ (some 47) rfl rfl Try.func8 (by kernel_rfl) rfl #[.string a3] rfl argN ?_; (with_reducible refine (rat_Parse.calls kj27 a3 t176 t177 t178 _ A61.out).mono ?_); rintro e w87 ⟨rfl, hb⟩; refine ⟨_, rfl, ?_⟩; have n0_ := Aside0.mk (bkB BK162.out hb); have n1_ := Aside0.mk (bkB BK165.out hb); have n2_ := Aside0.mk (bkB BK170.out hb); have n3_ := Aside0.mk (below_step (belS HB.out) hb); clear BK162; clear BK165; clear BK170; clear HB; have BK162 := n0_; have BK165 := n1_; have BK170 := n2_; have HB := n3_; clear n0_ n1_ n2_ n3_; (try clear hb)) | ((with_reducible refine gate_dst (N := 12) rfl ?_); refine box_event ?hg (N := 12) ?hd (cs := #[.int .i64 0, .int .i64 0]) (t := 23) ?hr ?_; (case hd => rfl); (case hg => rfl); (case hr => first | (go_simp; done) | (go_simp; rfl)); intro gb179 hg w88 hbox hb; have n0_ := Aside0.mk (bkB BK162.out hb); have n1_ := Aside0.mk (bkB BK165.out hb); have n2_ := Aside0.mk (bkB BK170.out hb); have n3_ := Aside0.mk (below_step (belS HB.out) hb); have n4_ := Aside0.mk (hbox); have n5_ := Aside0.mk (szB hg HB.out); have n6_ := Aside0.mk (szB hg HB.out); have n7_ := Aside0.mk ((bk1 hg BK162.out)); have n8_ := Aside0.mk ((bk2 hg BK162.out)); have n9_ := Aside0.mk ((bk1 hg BK165.out)); have n10_ := Aside0.mk ((bk2 hg BK165.out)); have n11_ := Aside0.mk ((bk1 hg BK170.out)); have n12_ := Aside0.mk ((bk2 hg BK170.out)); clear BK162; clear BK165; clear BK170; clear HB; have BK162 := n0_; have BK165 := n1_; have BK170 := n2_; have HB := n3_; have BK179 := n4_; have GW179 := n5_; have GE179 := n6_; have NB162_179 := n7_; have NB179_162 := n8_; have NB165_179 := n9_; have NB179_165 := n10_; have NB170_179 := n11_; have NB179_170 := n12_; clear n0_ n1_ n2_ n3_ n4_ n5_ n6_ n7_ n8_ n9_ n10_ n11_ n12_; clear hb hbox hg; have hnb89 := NB179_162.out; have hnc89 := NB162_179.out; have hnb90 := NB179_165.out; have hnc90 := NB165_179.out; have hnb91 := NB179_170.out; have hnc91 := NB170_179.out; have hcz92_0 : w88.cell? ⟨gb179, 0, none⟩ = some (.int .i64 0) := (blk_cell BK179.out 0).trans rfl; have hcz92_1 : w88.cell? ⟨gb179, 1, none⟩ = some (.int .i64 0) := (blk_cell BK179.out 1).trans rfl; have hfz92_0 := blk_frozen BK179.out 0; have hfz92_1 := blk_frozen BK179.out 1) | (go_at_call 10; (with_reducible refine (rat_Right.calls kj27 t176 t177 false _ A63.out).mono ?_); rintro e w93 ⟨rfl, hb⟩; have n0_ := Aside0.mk (bkBF BK162.out hb); have n1_ := Aside0.mk (bkBF BK165.out hb); have n2_ := Aside0.mk (bkBF BK170.out hb); have n3_ := Aside0.mk (blk_below (g := gb179) (o := .cells #[.int .i64 t176, .int .i64 t177] 23 (0, 0)) (by (with_reducible repeat (first | refine blk_drewN ?_ _ | refine blk_drew ?_ | refine blk_alloc ?_ _)); refine blk_put (cs := #[.int .i64 t176, .int .i64 0]) ?_ 1 _ rfl; (with_reducible repeat (first | refine blk_drewN ?_ _ | refine blk_drew ?_ | refine blk_alloc ?_ _)); refine blk_put (cs := #[.int .i64 0, .int .i64 0]) ?_ 0 _ rfl; (with_reducible repeat (first | refine blk_drewN ?_ _ | refine blk_drew ?_ | refine blk_alloc ?_ _)); exact BK179.out) hb); have n4_ := Aside0.mk (below_step (belS HB.out) hb); clear BK162; clear BK165; clear BK170; clear BK179; clear HB; have BK162 := n0_; have BK165 := n1_; have BK170 := n2_; have BK179 := n3_; have HB := n4_; clear n0_ n1_ n2_ n3_ n4_; (try clear hb)))
        go_ret
        exact ⟨by first | rfl | (simp [errW_none, errW_some] <;> rfl) | (simp [*, errW_none, errW_some] <;> rfl), (belS HB.out)⟩
      ·rw [if_neg c62] at H
       have c62b0 : (t178 == 0) = false := beq_eq_false_iff_ne.mpr c62
       have c62b1 : (t178 != 0) = true := bne_iff_ne.mpr c62
       replace H := Option.bind_eq_some_iff.mp H
       obtain ⟨t183, A940, H⟩ := H
       replace H : (some t183) = some r := H
       have A94 := Aside0.mk A940
       clear A940
       obtain rfl := Option.some.inj H
       go_wp2_with (first | ((with_reducible refine gate_callee (f := 8) rfl ?_); refine goesL_ (some 47) rfl rfl Try.func8 (by kernel_rfl) rfl #[.string a3] rfl argN ?_; (with_reducible refine (rat_Parse.calls kj27 a3 t176 t177 t178 _ A61.out).mono ?_); rintro e w95 ⟨rfl, hb⟩; refine ⟨_, rfl, ?_⟩; have n0_ := Aside0.mk (bkB BK162.out hb); have n1_ := Aside0.mk (bkB BK165.out hb); have n2_ := Aside0.mk (bkB BK170.out hb); have n3_ := Aside0.mk (below_step (belS HB.out) hb); clear BK162; clear BK165; clear BK170; clear HB; have BK162 := n0_; have BK165 := n1_; have BK170 := n2_; have HB := n3_; clear n0_ n1_ n2_ n3_; (try clear hb)) | ((with_reducible refine gate_dst (N := 12) rfl ?_); refine box_event ?hg (N := 12) ?hd (cs := #[.int .i64 0, .int .i64 0]) (t := 23) ?hr ?_; (case hd => rfl); (case hg => rfl); (case hr => first | (go_simp; done) | (go_simp; rfl)); intro gb179 hg w96 hbox hb; have n0_ := Aside0.mk (bkB BK162.out hb); have n1_ := Aside0.mk (bkB BK165.out hb); have n2_ := Aside0.mk (bkB BK170.out hb); have n3_ := Aside0.mk (below_step (belS HB.out) hb); have n4_ := Aside0.mk (hbox); have n5_ := Aside0.mk (szB hg HB.out); have n6_ := Aside0.mk (szB hg HB.out); have n7_ := Aside0.mk ((bk1 hg BK162.out)); have n8_ := Aside0.mk ((bk2 hg BK162.out)); have n9_ := Aside0.mk ((bk1 hg BK165.out)); have n10_ := Aside0.mk ((bk2 hg BK165.out)); have n11_ := Aside0.mk ((bk1 hg BK170.out)); have n12_ := Aside0.mk ((bk2 hg BK170.out)); clear BK162; clear BK165; clear BK170; clear HB; have BK162 := n0_; have BK165 := n1_; have BK170 := n2_; have HB := n3_; have BK179 := n4_; have GW179 := n5_; have GE179 := n6_; have NB162_179 := n7_; have NB179_162 := n8_; have NB165_179 := n9_; have NB179_165 := n10_; have NB170_179 := n11_; have NB179_170 := n12_; clear n0_ n1_ n2_ n3_ n4_ n5_ n6_ n7_ n8_ n9_ n10_ n11_ n12_; clear hb hbox hg; have hnb97 := NB179_162.out; have hnc97 := NB162_179.out; have hnb98 := NB179_165.out; have hnc98 := NB165_179.out; have hnb99 := NB179_170.out; have hnc99 := NB170_179.out; have hcz100_0 : w96.cell? ⟨gb179, 0, none⟩ = some (.int .i64 0) := (blk_cell BK179.out 0).trans rfl; have hcz100_1 : w96.cell? ⟨gb179, 1, none⟩ = some (.int .i64 0) := (blk_cell BK179.out 1).trans rfl; have hfz100_0 := blk_frozen BK179.out 0; have hfz100_1 := blk_frozen BK179.out 1) | (go_at_call 11; (with_reducible refine (marigraphlaw1_known.calls kj27  t183 _ A94.out).mono ?_); rintro e w101 ⟨rfl, hb⟩; have n0_ := Aside0.mk (bkBF BK162.out hb); have n1_ := Aside0.mk (bkBF BK165.out hb); have n2_ := Aside0.mk (bkBF BK170.out hb); have n3_ := Aside0.mk (blk_below (g := gb179) (o := .cells #[.int .i64 t176, .int .i64 t177] 23 (0, 0)) (by (with_reducible repeat (first | refine blk_drewN ?_ _ | refine blk_drew ?_ | refine blk_alloc ?_ _)); refine blk_put (cs := #[.int .i64 t176, .int .i64 0]) ?_ 1 _ rfl; (with_reducible repeat (first | refine blk_drewN ?_ _ | refine blk_drew ?_ | refine blk_alloc ?_ _)); refine blk_put (cs := #[.int .i64 0, .int .i64 0]) ?_ 0 _ rfl; (with_reducible repeat (first | refine blk_drewN ?_ _ | refine blk_drew ?_ | refine blk_alloc ?_ _)); exact BK179.out) hb); have n4_ := Aside0.mk (below_step (belS HB.out) hb); clear BK162; clear BK165; clear BK170; clear BK179; clear HB; have BK162 := n0_; have BK165 := n1_; have BK170 := n2_; have BK179 := n3_; have HB := n4_; clear n0_ n1_ n2_ n3_ n4_; (try clear hb)))
       go_ret
       exact ⟨by first | rfl | (simp [errW_none, errW_some] <;> rfl) | (simp [*, errW_none, errW_some] <;> rfl), (belS HB.out)⟩

end Go.Proofs.Ytepdbfabacaacaa.PRatBack

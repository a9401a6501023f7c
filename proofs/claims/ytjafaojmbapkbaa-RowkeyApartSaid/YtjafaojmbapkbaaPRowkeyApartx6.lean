/- The walk of the Go functions that a law reaches, told as plain functions; a program of this session has written it. No condition beyond the statement's own. -/
import Derived.Test.YtjafaojmbapkbaaPRowkeyApartx0
import Derived.Test.YtjafaojmbapkbaaPRowkeyApartx2
import Derived.Test.YtjafaojmbapkbaaPRowkeyApartx3
import Derived.Test.YtjafaojmbapkbaaPRowkeyApartx4
import Derived.Test.YtjafaojmbapkbaaPRowkeyApartx5
namespace Go.Proofs.Ytjafaojmbapkbaa.PRowkeyApart
open Go.RowKit Go.Proofs.YtjafaojmbapkbaaW.PrintWords Go.Proofs.YtjafaojmbapkbaaW.PrintLast Go.Proofs.YtjafaojmbapkbaaW.PrintMore
attribute [local go_sem] max2_int min2_int max_two min_two max_three min_three max_four min_four   -- for this text's walks alone
set_option linter.unusedVariables false
set_option linter.unusedSimpArgs false

/-! ### marigraphlaw14_RowkeyApart: function 10 -/
mutual
def marigraphlaw14_RowkeyApart.j0 : Nat → List Int → List Int → Bool → Int → Int → List (S53) → Int → Int → List (S53) → Option (Bool)
 | 0, _, _, _, _, _, _, _, _, _ => none
 | k + 1, x15, x17, x43, x221000, x221001, x221002, x222000, x222001, x222002 => if x43 = true then (some false) else (if (x15.length : Int) = 0 then (marigraphlaw14_RowkeyApart.j1 k x15 x17 true x221000 x221001 x221002 x222000 x222001 x222002) else (marigraphlaw14_RowkeyApart.j1 k x15 x17 ((x17.length : Int) == 0) x221000 x221001 x221002 x222000 x222001 x222002))
def marigraphlaw14_RowkeyApart.j1 : Nat → List Int → List Int → Bool → Int → Int → List (S53) → Int → Int → List (S53) → Option (Bool)
 | 0, _, _, _, _, _, _, _, _, _ => none
 | k + 1, x15, x17, x51, x221000, x221001, x221002, x222000, x222001, x222002 => if x51 = true then (some false) else (if 0 ≤ (mn (x15.length : Int) (x17.length : Int)) then (if (mn (x15.length : Int) (x17.length : Int)) ≤ (x15.length : Int) then (if (mn (x15.length : Int) (x17.length : Int)) ≤ (x17.length : Int) then ((rowkey_Same.f k x221000 x221001 x221002 x222000 x222001 x222002).bind fun t238 => (if (((strOfNums (x15.take ((mn (x15.length : Int) (x17.length : Int)) : Int).toNat)).toList == (strOfNums (x17.take ((mn (x15.length : Int) (x17.length : Int)) : Int).toNat)).toList) == t238) = true then (if 0 < (x15.length : Int) then ((rowkey_Salt.f k x221000 x221001 x221002).bind fun t240 => (if (wrap64 (rd x15 0)) = t240 then ((rowkey_Salt.f k x221000 x221001 x221002).bind fun t241 => (if t241 < 4 then ((marigraphlaw14_known.f k).bind fun t242 => (some t242)) else (some false))) else (some false))) else (none)) else (some false))) else (none)) else (none)) else (none))
end
def marigraphlaw14_RowkeyApart.f (k : Nat) (a0 : Int) (a1 : Int) (a2 : Int) (a3 : Int) (l4 : List Int) (l5 : List Int) : Option (Bool) := (marigraphlaw14_made.f k a0 a2 l4).bind fun bt210 => ((marigraphlaw14_made.f k a1 a3 l5).bind fun bt215 => ((rowkey_Encode.f k bt210.1 bt210.2.1 bt210.2.2).bind fun bt222 => ((rowkey_Encode.f k bt215.1 bt215.2.1 bt215.2.2).bind fun bt226 => (if bt222.2 = 0 then (marigraphlaw14_RowkeyApart.j0 k bt222.1 bt226.1 (bt226.2 != 0) bt210.1 bt210.2.1 bt210.2.2 bt215.1 bt215.2.1 bt215.2.2) else (marigraphlaw14_RowkeyApart.j0 k bt222.1 bt226.1 true bt210.1 bt210.2.1 bt210.2.2 bt215.1 bt215.2.1 bt215.2.2)))))
theorem marigraphlaw14_RowkeyApart.mono_l : ∀ k, (∀ y0 y1 y2 y3 y4 y5 y6 y7 y8, LeO (marigraphlaw14_RowkeyApart.j0 k y0 y1 y2 y3 y4 y5 y6 y7 y8) (marigraphlaw14_RowkeyApart.j0 (k + 1) y0 y1 y2 y3 y4 y5 y6 y7 y8)) ∧ (∀ y0 y1 y2 y3 y4 y5 y6 y7 y8, LeO (marigraphlaw14_RowkeyApart.j1 k y0 y1 y2 y3 y4 y5 y6 y7 y8) (marigraphlaw14_RowkeyApart.j1 (k + 1) y0 y1 y2 y3 y4 y5 y6 y7 y8))
 | 0 => ⟨fun _ _ _ _ _ _ _ _ _ r h => by simp [marigraphlaw14_RowkeyApart.j0] at h, fun _ _ _ _ _ _ _ _ _ r h => by simp [marigraphlaw14_RowkeyApart.j1] at h⟩
 | k + 1 => by
  obtain ⟨ih0, ih1⟩ := marigraphlaw14_RowkeyApart.mono_l k
  refine ⟨?_, ?_⟩
  ·intro y0 y1 y2 y3 y4 y5 y6 y7 y8
   unfold marigraphlaw14_RowkeyApart.j0
   repeat' first
   | (with_reducible exact ih0 _ _ _ _ _ _ _ _ _)
   | (with_reducible exact ih1 _ _ _ _ _ _ _ _ _)
   | (with_reducible exact marigraphlaw14_known.mono _)
   | (with_reducible exact marigraphlaw14_made.mono _ _ _ _)
   | (with_reducible exact rowkey_Encode.mono _ _ _ _)
   | (with_reducible exact rowkey_Salt.mono _ _ _ _)
   | (with_reducible exact rowkey_Same.mono _ _ _ _ _ _ _)
   | (with_reducible exact LeO.refl _)
   | (with_reducible exact LeO.none _)
   | (with_reducible refine LeO.ite ?_ ?_)
   | (with_reducible refine LeO.bind ?_ (fun _ => ?_))
   | exact ih0 _ _ _ _ _ _ _ _ _
   | exact ih1 _ _ _ _ _ _ _ _ _
   | exact marigraphlaw14_known.mono _
   | exact marigraphlaw14_made.mono _ _ _ _
   | exact rowkey_Encode.mono _ _ _ _
   | exact rowkey_Salt.mono _ _ _ _
   | exact rowkey_Same.mono _ _ _ _ _ _ _
   | exact LeO.none _
   | refine LeO.ite ?_ ?_
   | refine LeO.bind ?_ (fun _ => ?_)
  ·intro y0 y1 y2 y3 y4 y5 y6 y7 y8
   unfold marigraphlaw14_RowkeyApart.j1
   repeat' first
   | (with_reducible exact ih0 _ _ _ _ _ _ _ _ _)
   | (with_reducible exact ih1 _ _ _ _ _ _ _ _ _)
   | (with_reducible exact marigraphlaw14_known.mono _)
   | (with_reducible exact marigraphlaw14_made.mono _ _ _ _)
   | (with_reducible exact rowkey_Encode.mono _ _ _ _)
   | (with_reducible exact rowkey_Salt.mono _ _ _ _)
   | (with_reducible exact rowkey_Same.mono _ _ _ _ _ _ _)
   | (with_reducible exact LeO.refl _)
   | (with_reducible exact LeO.none _)
   | (with_reducible refine LeO.ite ?_ ?_)
   | (with_reducible refine LeO.bind ?_ (fun _ => ?_))
   | exact ih0 _ _ _ _ _ _ _ _ _
   | exact ih1 _ _ _ _ _ _ _ _ _
   | exact marigraphlaw14_known.mono _
   | exact marigraphlaw14_made.mono _ _ _ _
   | exact rowkey_Encode.mono _ _ _ _
   | exact rowkey_Salt.mono _ _ _ _
   | exact rowkey_Same.mono _ _ _ _ _ _ _
   | exact LeO.none _
   | refine LeO.ite ?_ ?_
   | refine LeO.bind ?_ (fun _ => ?_)
theorem marigraphlaw14_RowkeyApart.mono : ∀ a0 a1 a2 a3 a4 a5 k, LeO (marigraphlaw14_RowkeyApart.f k a0 a1 a2 a3 a4 a5) (marigraphlaw14_RowkeyApart.f (k + 1) a0 a1 a2 a3 a4 a5) := by
 intro a0 a1 a2 a3 a4 a5 k
 obtain ⟨ih0, ih1⟩ := marigraphlaw14_RowkeyApart.mono_l k
 unfold marigraphlaw14_RowkeyApart.f
 repeat' first
   | (with_reducible exact ih0 _ _ _ _ _ _ _ _ _)
   | (with_reducible exact ih1 _ _ _ _ _ _ _ _ _)
   | (with_reducible exact marigraphlaw14_known.mono _)
   | (with_reducible exact marigraphlaw14_made.mono _ _ _ _)
   | (with_reducible exact rowkey_Encode.mono _ _ _ _)
   | (with_reducible exact rowkey_Salt.mono _ _ _ _)
   | (with_reducible exact rowkey_Same.mono _ _ _ _ _ _ _)
   | (with_reducible exact LeO.refl _)
   | (with_reducible exact LeO.none _)
   | (with_reducible refine LeO.ite ?_ ?_)
   | (with_reducible refine LeO.bind ?_ (fun _ => ?_))
   | exact ih0 _ _ _ _ _ _ _ _ _
   | exact ih1 _ _ _ _ _ _ _ _ _
   | exact marigraphlaw14_known.mono _
   | exact marigraphlaw14_made.mono _ _ _ _
   | exact rowkey_Encode.mono _ _ _ _
   | exact rowkey_Salt.mono _ _ _ _
   | exact rowkey_Same.mono _ _ _ _ _ _ _
   | exact LeO.none _
   | refine LeO.ite ?_ ?_
   | refine LeO.bind ?_ (fun _ => ?_)
def marigraphlaw14_RowkeyApart.T9 : Bool × List (List Nat × List Nat) := (true, [([], []), ([], []), ([0, 1], [0, 1]), ([2], [2]), ([], []), ([], []), ([4, 5], [4, 5]), ([6], [6]), ([3, 7], [3, 7]), ([], []), ([], []), ([9, 10], [9, 10]), ([8, 11], [8, 11]), ([12, 11], [12]), ([13], [13]), ([14, 13], [13, 14]), ([15, 13], [13, 15]), ([16, 13], [13, 16]), ([13], [13]), ([18, 13, 13], [13, 18]), ([17, 19, 13], [13, 17, 19]), ([13, 20], [13, 20]), ([21, 19], [21]), ([22], [22]), ([23, 22, 22], [22, 23]), ([24, 22], [22, 24]), ([22, 25], [22, 25]), ([26, 24], [26]), ([27, 27], [27]), ([27, 28], [27, 28]), ([29, 28, 0, 1, 2, 3, 4, 5, 6, 7, 8, 9, 10, 11, 12, 13, 14, 15, 16, 17, 18, 19, 20, 21, 22, 23, 24, 25, 26, 27, 28, 29], [29])])
def marigraphlaw14_RowkeyApart.B9 : List Nat := [0, 0, 3, 7, 0, 0, 48, 112, 255, 0, 0, 1536, 4095, 8191, 16383, 32767, 65535, 131071, 16383, 278527, 1048575, 2097151, 4194303, 8388607, 16777215, 33554431, 67108863, 134217727, 268435455, 536870911, 1073741823]
theorem marigraphlaw14_RowkeyApart.tab9 : rtab .any (opsOf Try.f10 9) = marigraphlaw14_RowkeyApart.T9 := by kernel_rfl
theorem marigraphlaw14_RowkeyApart.bits9 : waitsOk marigraphlaw14_RowkeyApart.T9.2 marigraphlaw14_RowkeyApart.B9 = true := by kernel_rfl
set_option maxHeartbeats 8000000 in
set_option maxRecDepth 100000 in
theorem marigraphlaw14_RowkeyApart.calls (k : Nat) (a0 : Int) (a1 : Int) (a2 : Int) (a3 : Int) (A4 : Option Addr) (c4 : Nat) (l4 : List Int) (A5 : Option Addr) (c5 : Nat) (l5 : List Int) (r : Bool) (w : World) (hr4 : Kd.C (Kd.int .i64) w A4 l4.length l4) (hc4 : l4.length ≤ c4) (hr5 : Kd.C (Kd.int .i64) w A5 l5.length l5) (hc5 : l5.length ≤ c5) (h : marigraphlaw14_RowkeyApart.f k a0 a1 a2 a3 l4 l5 = some r) :
  Calls Try.prog 10 #[.int .i64 a0, .int .i64 a1, .int .i64 a2, .int .i64 a3, .slice A4 l4.length c4, .slice A5 l5.length c5] w fun e w' => e = .returned (.bool r) ∧ Below w.heap.size w w' := by
 have hu56 := Try.underlying56
 have HR4 := Aside0.mk hr4
 have HC4 := Aside0.mk hc4
 clear hr4 hc4
 have HR5 := Aside0.mk hr5
 have HC5 := Aside0.mk hc5
 clear hr5 hc5
 have HB := Aside0.mk (Below.refl w.heap.size w)
 have H : ((marigraphlaw14_made.f k a0 a2 l4).bind fun bt210 => ((marigraphlaw14_made.f k a1 a3 l5).bind fun bt215 => ((rowkey_Encode.f k bt210.1 bt210.2.1 bt210.2.2).bind fun bt222 => ((rowkey_Encode.f k bt215.1 bt215.2.1 bt215.2.2).bind fun bt226 => (if bt222.2 = 0 then (marigraphlaw14_RowkeyApart.j0 k bt222.1 bt226.1 (bt226.2 != 0) bt210.1 bt210.2.1 bt210.2.2 bt215.1 bt215.2.1 bt215.2.2) else (marigraphlaw14_RowkeyApart.j0 k bt222.1 bt226.1 true bt210.1 bt210.2.1 bt210.2.2 bt215.1 bt215.2.1 bt215.2.2)))))) = some r := h
 clear h
 replace H := Option.bind_eq_some_iff.mp H
 obtain ⟨⟨t210, t211, t212⟩, A70, H⟩ := H
 replace H : ((marigraphlaw14_made.f k a1 a3 l5).bind fun bt215 => ((rowkey_Encode.f k t210 t211 t212).bind fun bt222 => ((rowkey_Encode.f k bt215.1 bt215.2.1 bt215.2.2).bind fun bt226 => (if bt222.2 = 0 then (marigraphlaw14_RowkeyApart.j0 k bt222.1 bt226.1 (bt226.2 != 0) t210 t211 t212 bt215.1 bt215.2.1 bt215.2.2) else (marigraphlaw14_RowkeyApart.j0 k bt222.1 bt226.1 true t210 t211 t212 bt215.1 bt215.2.1 bt215.2.2))))) = some r := H
 have A7 := Aside0.mk A70
 clear A70
 replace H := Option.bind_eq_some_iff.mp H
 obtain ⟨⟨t215, t216, t217⟩, A80, H⟩ := H
 replace H : ((rowkey_Encode.f k t210 t211 t212).bind fun bt222 => ((rowkey_Encode.f k t215 t216 t217).bind fun bt226 => (if bt222.2 = 0 then (marigraphlaw14_RowkeyApart.j0 k bt222.1 bt226.1 (bt226.2 != 0) t210 t211 t212 t215 t216 t217) else (marigraphlaw14_RowkeyApart.j0 k bt222.1 bt226.1 true t210 t211 t212 t215 t216 t217)))) = some r := H
 have A8 := Aside0.mk A80
 clear A80
 replace H := Option.bind_eq_some_iff.mp H
 obtain ⟨⟨t222, t225⟩, A90, H⟩ := H
 replace H : ((rowkey_Encode.f k t215 t216 t217).bind fun bt226 => (if t225 = 0 then (marigraphlaw14_RowkeyApart.j0 k t222 bt226.1 (bt226.2 != 0) t210 t211 t212 t215 t216 t217) else (marigraphlaw14_RowkeyApart.j0 k t222 bt226.1 true t210 t211 t212 t215 t216 t217))) = some r := H
 have A9 := Aside0.mk A90
 clear A90
 replace H := Option.bind_eq_some_iff.mp H
 obtain ⟨⟨t226, t229⟩, A100, H⟩ := H
 replace H : (if t225 = 0 then (marigraphlaw14_RowkeyApart.j0 k t222 t226 (t229 != 0) t210 t211 t212 t215 t216 t217) else (marigraphlaw14_RowkeyApart.j0 k t222 t226 true t210 t211 t212 t215 t216 t217)) = some r := H
 have A10 := Aside0.mk A100
 clear A100
 have HC11 := Aside0.mk H
 clear H
 go_enter Try.func10, Try.ntmps10
 go_upto_region 4 with (first | ((with_reducible refine gate_callee (f := 39) rfl ?_); refine goesL_ (some 23) rfl rfl Try.func39 (by kernel_rfl) rfl #[.int .i64 a0, .int .i64 a2, .slice A4 l4.length c4] rfl argN ?_; (with_reducible refine (marigraphlaw14_made.calls k a0 a2 _ _ l4 t210 t211 t212 _ ?side1 ?side2 A7.out).mono ?_); (case side1 => repeat (first | exact HR4.out | (with_reducible refine Kd.C_alloc ?_ _) | (with_reducible refine Kd.C_drewN ?_ _) | (with_reducible refine Kd.C_drew ?_))); (case side2 => exact HC4.out); rintro e w12 ⟨v213, rfl, ho0, hb⟩; refine ⟨_, rfl, ?_⟩; have n0_ := Aside0.mk (Kd.R_lower ho0 (below_size (belN HB.out))); have n1_ := Aside0.mk (below_step (belN HB.out) hb); clear HB; have HO214 := n0_; have HB := n1_; clear n0_ n1_; (try clear hb); (try clear hk); (try clear ho0)) | ((with_reducible refine gate_callee (f := 39) rfl ?_); refine goesL_ (some 27) rfl rfl Try.func39 (by kernel_rfl) rfl #[.int .i64 a1, .int .i64 a3, .slice A5 l5.length c5] rfl argN ?_; (with_reducible refine (marigraphlaw14_made.calls k a1 a3 _ _ l5 t215 t216 t217 _ ?side1 ?side2 A8.out).mono ?_); (case side1 => repeat (first | exact (Kd.C_below HR5.out HB.out) | (with_reducible refine Kd.C_alloc ?_ _) | (with_reducible refine Kd.C_drewN ?_ _) | (with_reducible refine Kd.C_drew ?_))); (case side2 => exact HC5.out); rintro e w13 ⟨v218, rfl, ho0, hb⟩; refine ⟨_, rfl, ?_⟩; have n0_ := Aside0.mk (Kd.R_elder' (rowN HO214.out) (Kd.R_base ho0) hb); have n1_ := Aside0.mk (Kd.R_lower (Kd.R_new' ho0 (Kd.R_lt (rowN HO214.out))) (below_size (belN HB.out))); have n2_ := Aside0.mk (below_step (belN HB.out) hb); clear HO214; clear HB; have HO214 := n0_; have HO219 := n1_; have HB := n2_; clear n0_ n1_ n2_; (try clear hb); (try clear hk); (try clear ho0)) | ((with_reducible refine gate_dst (N := 13) rfl ?_); (try (refine gate_guard (by rfl) ?_; dsimp only)); refine box_event ?hg (N := 13) ?hd (cs := #[.int .i64 0, .int .i64 0, .slice none 0 0]) (t := 56) ?hr ?_; (case hd => rfl); (case hg => rfl); (case hr => first | (go_simp; done) | (go_simp; rfl)); intro gb220 hg w14 hbox hb; have n0_ := Aside0.mk (Kd.R_below (rowN HO214.out) hb); have n1_ := Aside0.mk (Kd.R_below (rowN HO219.out) hb); have n2_ := Aside0.mk (below_step (belN HB.out) hb); have n3_ := Aside0.mk (hbox); have n4_ := Aside0.mk (szB hg HB.out); have n5_ := Aside0.mk (szB hg HB.out); clear HO214; clear HO219; clear HB; have HO214 := n0_; have HO219 := n1_; have HB := n2_; have BK220 := n3_; have GW220 := n4_; have GE220 := n5_; clear n0_ n1_ n2_ n3_ n4_ n5_; clear hb hbox hg) | ((with_reducible refine gate_dst (N := 14) rfl ?_); (try (refine gate_guard (by rfl) ?_; dsimp only)); refine box_event ?hg (N := 14) ?hd (cs := #[.int .i64 0, .int .i64 0, .slice none 0 0]) (t := 56) ?hr ?_; (case hd => rfl); (case hg => rfl); (case hr => first | (go_simp; done) | (go_simp; rfl)); intro gb221 hg w15 hbox hb; have n0_ := Aside0.mk (Kd.R_below (rowN HO214.out) hb); have n1_ := Aside0.mk (Kd.R_below (rowN HO219.out) hb); have n2_ := Aside0.mk (bkB BK220.out hb); have n3_ := Aside0.mk (below_step (belS HB.out) hb); have n4_ := Aside0.mk (hbox); have n5_ := Aside0.mk (szB hg HB.out); have n6_ := Aside0.mk (szB hg HB.out); have n7_ := Aside0.mk ((bk1 hg BK220.out)); have n8_ := Aside0.mk ((bk2 hg BK220.out)); clear HO214; clear HO219; clear BK220; clear HB; have HO214 := n0_; have HO219 := n1_; have BK220 := n2_; have HB := n3_; have BK221 := n4_; have GW221 := n5_; have GE221 := n6_; have NB220_221 := n7_; have NB221_220 := n8_; clear n0_ n1_ n2_ n3_ n4_ n5_ n6_ n7_ n8_; clear hb hbox hg; have hnb16 := NB220_221.out; have hnc16 := NB221_220.out; have hcz17_0 : w15.cell? ⟨gb220, 0, none⟩ = some (.int .i64 0) := (blk_cell BK220.out 0).trans rfl; have hcz17_1 : w15.cell? ⟨gb220, 1, none⟩ = some (.int .i64 0) := (blk_cell BK220.out 1).trans rfl; have hcz17_2 : w15.cell? ⟨gb220, 2, none⟩ = some (.slice none 0 0) := (blk_cell BK220.out 2).trans rfl; have hfz17_0 := blk_frozen BK220.out 0; have hfz17_1 := blk_frozen BK220.out 1; have hfz17_2 := blk_frozen BK220.out 2; obtain ⟨Ao18, co18, eo18⟩ := Kd.R_slice HO214.out; subst eo18; have hcz19_0 : w15.cell? ⟨gb221, 0, none⟩ = some (.int .i64 0) := (blk_cell BK221.out 0).trans rfl; have hcz19_1 : w15.cell? ⟨gb221, 1, none⟩ = some (.int .i64 0) := (blk_cell BK221.out 1).trans rfl; have hcz19_2 : w15.cell? ⟨gb221, 2, none⟩ = some (.slice none 0 0) := (blk_cell BK221.out 2).trans rfl; have hfz19_0 := blk_frozen BK221.out 0; have hfz19_1 := blk_frozen BK221.out 1; have hfz19_2 := blk_frozen BK221.out 2; obtain ⟨Ao20, co20, eo20⟩ := Kd.R_slice HO219.out; subst eo20) | ((with_reducible refine gate_callee (f := 40) rfl ?_); refine goesL_ (some 30) rfl rfl Try.func40 (by kernel_rfl) rfl #[.agg #[.int .i64 t210, .int .i64 t211, .slice Ao18 t212.length co18]] rfl argN ?_; (with_reducible refine (rowkey_Encode.calls k t210 t211 _ _ t212 t222 t225 _ ?side1 ?side2 A9.out).mono ?_); (case side1 => refine (Kd.R_reads' (e := 53) (base := w.heap.size) (ok := fun k_ => (True ∧ some k_ ≠ (.slice Ao20 t217.length co20 : Value).ownBlock)) (n := t212.length) (c := co18) ?_).2.2; exact (by (with_reducible repeat (first | apply Kd.R_alloc | apply Kd.R_drewN | apply Kd.R_drew)); exact (Kd.R_mono (Kd.R_mono (Kd.R_far (p := ⟨gb221, 2, none⟩) (Kd.R_far (p := ⟨gb221, 1, none⟩) (Kd.R_far (p := ⟨gb221, 0, none⟩) (Kd.R_far (p := ⟨gb220, 2, none⟩) (Kd.R_far (p := ⟨gb220, 1, none⟩) (Kd.R_far (p := ⟨gb220, 0, none⟩) (Kd.R_types (Kd.R_types HO214.out BK220.out (by decide)) BK221.out (by decide)) (fun _ hk => hk.1.2) (.int .i64 t210)) (fun _ hk => hk.1.2) (.int .i64 t211)) (fun _ hk => hk.1.2) (.slice Ao18 t212.length co18)) (fun _ hk => hk.2) (.int .i64 t215)) (fun _ hk => hk.2) (.int .i64 t216)) (fun _ hk => hk.2) (.slice Ao20 t217.length co20)) (fun _ h_ => h_.1)) (fun _ h_ => h_.1)))); (case side2 => exact (Kd.R_reads' HO214.out).2.1); rintro e w21 ⟨v223, rfl, ho0, hb⟩; refine ⟨_, rfl, ?_⟩; have n0_ := Aside0.mk (Kd.R_below (by (with_reducible repeat (first | apply Kd.R_alloc | apply Kd.R_drewN | apply Kd.R_drew)); exact (Kd.R_mono (Kd.R_mono (Kd.R_far (p := ⟨gb221, 2, none⟩) (Kd.R_far (p := ⟨gb221, 1, none⟩) (Kd.R_far (p := ⟨gb221, 0, none⟩) (Kd.R_far (p := ⟨gb220, 2, none⟩) (Kd.R_far (p := ⟨gb220, 1, none⟩) (Kd.R_far (p := ⟨gb220, 0, none⟩) (Kd.R_types (Kd.R_types HO214.out BK220.out (by decide)) BK221.out (by decide)) (fun _ hk => hk.1.2) (.int .i64 t210)) (fun _ hk => hk.1.2) (.int .i64 t211)) (fun _ hk => hk.1.2) (.slice Ao18 t212.length co18)) (fun _ hk => hk.2) (.int .i64 t215)) (fun _ hk => hk.2) (.int .i64 t216)) (fun _ hk => hk.2) (.slice Ao20 t217.length co20)) (fun _ h_ => h_.1)) (fun _ h_ => h_.1))) hb); have n1_ := Aside0.mk (Kd.R_below (by (with_reducible repeat (first | apply Kd.R_alloc | apply Kd.R_drewN | apply Kd.R_drew)); exact (Kd.R_mono (Kd.R_mono (Kd.R_far (p := ⟨gb221, 2, none⟩) (Kd.R_far (p := ⟨gb221, 1, none⟩) (Kd.R_far (p := ⟨gb221, 0, none⟩) (Kd.R_far (p := ⟨gb220, 2, none⟩) (Kd.R_far (p := ⟨gb220, 1, none⟩) (Kd.R_far (p := ⟨gb220, 0, none⟩) (Kd.R_types (Kd.R_types HO219.out BK220.out (by decide)) BK221.out (by decide)) (fun _ hk => hk.1.2) (.int .i64 t210)) (fun _ hk => hk.1.2) (.int .i64 t211)) (fun _ hk => hk.1.2) (.slice Ao18 t212.length co18)) (fun _ hk => hk.2) (.int .i64 t215)) (fun _ hk => hk.2) (.int .i64 t216)) (fun _ hk => hk.2) (.slice Ao20 t217.length co20)) (fun _ h_ => h_.1)) (fun _ h_ => h_.1))) hb); have n2_ := Aside0.mk (Kd.R_lower ho0 (below_size (belS HB.out))); have n3_ := Aside0.mk (blk_below (g := gb220) (o := .cells #[.int .i64 t210, .int .i64 t211, .slice Ao18 t212.length co18] 56 (0, 0)) (by (with_reducible repeat (first | refine blk_drewN ?_ _ | refine blk_drew ?_ | refine blk_alloc ?_ _)); refine blk_far ?_ NB220_221.out _; (with_reducible repeat (first | refine blk_drewN ?_ _ | refine blk_drew ?_ | refine blk_alloc ?_ _)); refine blk_far ?_ NB220_221.out _; (with_reducible repeat (first | refine blk_drewN ?_ _ | refine blk_drew ?_ | refine blk_alloc ?_ _)); refine blk_far ?_ NB220_221.out _; (with_reducible repeat (first | refine blk_drewN ?_ _ | refine blk_drew ?_ | refine blk_alloc ?_ _)); refine blk_put (cs := #[.int .i64 t210, .int .i64 t211, .slice none 0 0]) ?_ 2 _ rfl; (with_reducible repeat (first | refine blk_drewN ?_ _ | refine blk_drew ?_ | refine blk_alloc ?_ _)); refine blk_put (cs := #[.int .i64 t210, .int .i64 0, .slice none 0 0]) ?_ 1 _ rfl; (with_reducible repeat (first | refine blk_drewN ?_ _ | refine blk_drew ?_ | refine blk_alloc ?_ _)); refine blk_put (cs := #[.int .i64 0, .int .i64 0, .slice none 0 0]) ?_ 0 _ rfl; (with_reducible repeat (first | refine blk_drewN ?_ _ | refine blk_drew ?_ | refine blk_alloc ?_ _)); exact BK220.out) hb); have n4_ := Aside0.mk (blk_below (g := gb221) (o := .cells #[.int .i64 t215, .int .i64 t216, .slice Ao20 t217.length co20] 56 (0, 0)) (by (with_reducible repeat (first | refine blk_drewN ?_ _ | refine blk_drew ?_ | refine blk_alloc ?_ _)); refine blk_put (cs := #[.int .i64 t215, .int .i64 t216, .slice none 0 0]) ?_ 2 _ rfl; (with_reducible repeat (first | refine blk_drewN ?_ _ | refine blk_drew ?_ | refine blk_alloc ?_ _)); refine blk_put (cs := #[.int .i64 t215, .int .i64 0, .slice none 0 0]) ?_ 1 _ rfl; (with_reducible repeat (first | refine blk_drewN ?_ _ | refine blk_drew ?_ | refine blk_alloc ?_ _)); refine blk_put (cs := #[.int .i64 0, .int .i64 0, .slice none 0 0]) ?_ 0 _ rfl; (with_reducible repeat (first | refine blk_drewN ?_ _ | refine blk_drew ?_ | refine blk_alloc ?_ _)); refine blk_far ?_ NB221_220.out _; (with_reducible repeat (first | refine blk_drewN ?_ _ | refine blk_drew ?_ | refine blk_alloc ?_ _)); refine blk_far ?_ NB221_220.out _; (with_reducible repeat (first | refine blk_drewN ?_ _ | refine blk_drew ?_ | refine blk_alloc ?_ _)); refine blk_far ?_ NB221_220.out _; (with_reducible repeat (first | refine blk_drewN ?_ _ | refine blk_drew ?_ | refine blk_alloc ?_ _)); exact BK221.out) hb); have n5_ := Aside0.mk (below_step (belS HB.out) hb); clear HO214; clear HO219; clear BK220; clear BK221; clear HB; have HO214 := n0_; have HO219 := n1_; have HO224 := n2_; have BK220 := n3_; have BK221 := n4_; have HB := n5_; clear n0_ n1_ n2_ n3_ n4_ n5_; (try clear hb); (try clear hk); (try clear ho0); have hcz22_0 : w21.cell? ⟨gb221, 0, none⟩ = some (.int .i64 t215) := (blk_cell BK221.out 0).trans rfl; have hcz22_1 : w21.cell? ⟨gb221, 1, none⟩ = some (.int .i64 t216) := (blk_cell BK221.out 1).trans rfl; have hcz22_2 : w21.cell? ⟨gb221, 2, none⟩ = some (.slice Ao20 t217.length co20) := (blk_cell BK221.out 2).trans rfl; have hfz22_0 := blk_frozen BK221.out 0; have hfz22_1 := blk_frozen BK221.out 1; have hfz22_2 := blk_frozen BK221.out 2) | ((with_reducible refine gate_callee (f := 40) rfl ?_); refine goesL_ (some 35) rfl rfl Try.func40 (by kernel_rfl) rfl #[.agg #[.int .i64 t215, .int .i64 t216, .slice Ao20 t217.length co20]] rfl argN ?_; (with_reducible refine (rowkey_Encode.calls k t215 t216 _ _ t217 t226 t229 _ ?side1 ?side2 A10.out).mono ?_); (case side1 => repeat (first | exact (Kd.R_reads' HO219.out).2.2 | (with_reducible refine Kd.C_alloc ?_ _) | (with_reducible refine Kd.C_drewN ?_ _) | (with_reducible refine Kd.C_drew ?_))); (case side2 => exact (Kd.R_reads' HO219.out).2.1); rintro e w23 ⟨v227, rfl, ho0, hb⟩; refine ⟨_, rfl, ?_⟩; have n0_ := Aside0.mk (Kd.R_below (rowN HO214.out) hb); have n1_ := Aside0.mk (Kd.R_below (rowN HO219.out) hb); have n2_ := Aside0.mk (Kd.R_elder' (rowN HO224.out) (Kd.R_base ho0) hb); have n3_ := Aside0.mk (Kd.R_lower (Kd.R_new' ho0 (Kd.R_lt (rowN HO224.out))) (below_size (belS HB.out))); have n4_ := Aside0.mk (bkB BK220.out hb); have n5_ := Aside0.mk (bkB BK221.out hb); have n6_ := Aside0.mk (below_step (belS HB.out) hb); clear HO214; clear HO219; clear HO224; clear BK220; clear BK221; clear HB; have HO214 := n0_; have HO219 := n1_; have HO224 := n2_; have HO228 := n3_; have BK220 := n4_; have BK221 := n5_; have HB := n6_; clear n0_ n1_ n2_ n3_ n4_ n5_ n6_; (try clear hb); (try clear hk); (try clear ho0)))
 (try simp only [Act.put, List.setIfInBounds_toArray, List.set_cons_zero, List.set_cons_succ])
 go_cut [43] (fun v43 wc => ∃ (kq : Nat) (x43_10 : Bool), v43 = .bool x43_10 ∧ Aside0 (marigraphlaw14_RowkeyApart.j0 kq t222 t226 x43_10 t210 t211 t212 t215 t216 t217 = some r) ∧ Aside0 (kq ≤ k) ∧ Aside0 (Kd.R (Kd.int .u8) 5 wc w.heap.size (fun k_ => some k_ ≠ (v227 : Value).ownBlock) v223 t222) ∧ Aside0 (Kd.R (Kd.int .u8) 5 wc w.heap.size (fun k_ => some k_ ≠ (v223 : Value).ownBlock) v227 t226) ∧ Aside0 (Kd.R k53 53 wc w.heap.size (fun k_ => some k_ ≠ ((.slice Ao20 t217.length co20) : Value).ownBlock) (.slice Ao18 t212.length co18) t212) ∧ Aside0 (Kd.R k53 53 wc w.heap.size (fun k_ => some k_ ≠ ((.slice Ao18 t212.length co18) : Value).ownBlock) (.slice Ao20 t217.length co20) t217) ∧ Aside0 (wc.heap[gb220]? = some (.cells #[.int .i64 t210, .int .i64 t211, (.slice Ao18 t212.length co18)] 56 (0, 0))) ∧ Aside0 (wc.heap[gb221]? = some (.cells #[.int .i64 t215, .int .i64 t216, (.slice Ao20 t217.length co20)] 56 (0, 0))) ∧ Aside0 (Below w.heap.size w wc))
 case first =>
  have H := HC11.out
  clear HC11
  by_cases c24 : t225 = 0
  ·rw [if_pos c24] at H
   have c24b0 : (t225 == 0) = true := beq_iff_eq.mpr c24
   have c24b1 : (t225 != 0) = false := bne_eq_false_iff_eq.mpr c24
   clear c24
   (first | rw [c24b0] | rw [c24b1] | (simp only [i64_w, i32_w]; rw [c24b0]) | skip)
   have H' := Aside0.mk H
   clear H
   go_wp2
   go_meet
   case rel => exact ⟨_, ((t229 != 0)), (by first | rfl | (simp; done) | (simp [*]; done)), H', ⟨by first | omega | exact Nat.le_refl _⟩, ⟨by (with_reducible repeat (first | apply Kd.R_alloc | apply Kd.R_drewN | apply Kd.R_drew)); exact Kd.R_mono HO224.out (fun _ hk => hk.2)⟩, ⟨by (with_reducible repeat (first | apply Kd.R_alloc | apply Kd.R_drewN | apply Kd.R_drew)); exact Kd.R_mono HO228.out (fun _ hk => hk.2)⟩, ⟨by (with_reducible repeat (first | apply Kd.R_alloc | apply Kd.R_drewN | apply Kd.R_drew)); exact Kd.R_mono HO214.out (fun _ hk => hk.2)⟩, ⟨by (with_reducible repeat (first | apply Kd.R_alloc | apply Kd.R_drewN | apply Kd.R_drew)); exact Kd.R_mono HO219.out (fun _ hk => hk.2)⟩, ⟨blkN BK220.out⟩, ⟨blkN BK221.out⟩, ⟨(belS HB.out)⟩⟩
  ·rw [if_neg c24] at H
   have c24b0 : (t225 == 0) = false := beq_eq_false_iff_ne.mpr c24
   have c24b1 : (t225 != 0) = true := bne_iff_ne.mpr c24
   (first | rw [c24b0] | rw [c24b1] | (simp only [i64_w, i32_w]; rw [c24b0]) | skip)
   have H' := Aside0.mk H
   clear H
   go_wp2
   go_meet
   case rel => exact ⟨_, (true), (by first | rfl | (simp; done) | (simp [*]; done)), H', ⟨by first | omega | exact Nat.le_refl _⟩, ⟨by (with_reducible repeat (first | apply Kd.R_alloc | apply Kd.R_drewN | apply Kd.R_drew)); exact Kd.R_mono HO224.out (fun _ hk => hk.2)⟩, ⟨by (with_reducible repeat (first | apply Kd.R_alloc | apply Kd.R_drewN | apply Kd.R_drew)); exact Kd.R_mono HO228.out (fun _ hk => hk.2)⟩, ⟨by (with_reducible repeat (first | apply Kd.R_alloc | apply Kd.R_drewN | apply Kd.R_drew)); exact Kd.R_mono HO214.out (fun _ hk => hk.2)⟩, ⟨by (with_reducible repeat (first | apply Kd.R_alloc | apply Kd.R_drewN | apply Kd.R_drew)); exact Kd.R_mono HO219.out (fun _ hk => hk.2)⟩, ⟨blkN BK220.out⟩, ⟨blkN BK221.out⟩, ⟨(belS HB.out)⟩⟩
 case rest =>
  clear HC11
  try clear c1
  try clear c2
  try clear p2
  try clear c3
  try clear c4
  try clear c5
  try clear c10
  try clear c16
  try clear c24
  try clear c24b0
  try clear c24b1
  try clear hcz17_0
  try clear hcz17_1
  try clear hcz17_2
  try clear hcz19_0
  try clear hcz19_1
  try clear hcz19_2
  try clear hcz22_0
  try clear hcz22_1
  try clear hcz22_2
  try clear hfz17_0
  try clear hfz17_1
  try clear hfz17_2
  try clear hfz19_0
  try clear hfz19_1
  try clear hfz19_2
  try clear hfz22_0
  try clear hfz22_1
  try clear hfz22_2
  obtain ⟨kq, x43_10, rfl, HA, HJ10, HO_15, HO_17, HO_221002, HO_222002, BK220, BK221, HB⟩ := hcut
  cases kq with
  | zero => exact absurd HA.out (by simp [marigraphlaw14_RowkeyApart.j0])
  | succ kj10 =>
   have H := HA.out
   clear HA
   simp only [marigraphlaw14_RowkeyApart.j0] at H
   by_cases c25 : x43_10 = true
   ·subst c25
    have H1 : (some false) = some r := by rw [if_pos rfl] at H; exact H
    clear H
    have H := H1
    clear H1
    obtain rfl := Option.some.inj H
    go_wp2
    go_ret
    exact ⟨by first | rfl | (simp [errW_none, errW_some] <;> rfl) | (simp [*, errW_none, errW_some] <;> rfl), (belS HB.out)⟩
   ·replace c25 := Bool.eq_false_iff.mpr c25
    subst c25
    have H1 : (if (t222.length : Int) = 0 then (marigraphlaw14_RowkeyApart.j1 kj10 t222 t226 true t210 t211 t212 t215 t216 t217) else (marigraphlaw14_RowkeyApart.j1 kj10 t222 t226 ((t226.length : Int) == 0) t210 t211 t212 t215 t216 t217)) = some r := by rw [if_neg (show ¬ (false = true) by decide)] at H; exact H
    clear H
    have H := H1
    clear H1
    have HC26 := Aside0.mk H
    clear H
    go_upto_region 6 with (fail)
    go_cut [51] (fun v51 wc => ∃ (kq : Nat) (x51_25 : Bool), v51 = .bool x51_25 ∧ Aside0 (marigraphlaw14_RowkeyApart.j1 kq t222 t226 x51_25 t210 t211 t212 t215 t216 t217 = some r) ∧ Aside0 (kq ≤ kj10) ∧ Aside0 (Kd.R (Kd.int .u8) 5 wc w.heap.size (fun k_ => some k_ ≠ (v227 : Value).ownBlock) v223 t222) ∧ Aside0 (Kd.R (Kd.int .u8) 5 wc w.heap.size (fun k_ => some k_ ≠ (v223 : Value).ownBlock) v227 t226) ∧ Aside0 (Kd.R k53 53 wc w.heap.size (fun k_ => some k_ ≠ ((.slice Ao20 t217.length co20) : Value).ownBlock) (.slice Ao18 t212.length co18) t212) ∧ Aside0 (Kd.R k53 53 wc w.heap.size (fun k_ => some k_ ≠ ((.slice Ao18 t212.length co18) : Value).ownBlock) (.slice Ao20 t217.length co20) t217) ∧ Aside0 (wc.heap[gb220]? = some (.cells #[.int .i64 t210, .int .i64 t211, (.slice Ao18 t212.length co18)] 56 (0, 0))) ∧ Aside0 (wc.heap[gb221]? = some (.cells #[.int .i64 t215, .int .i64 t216, (.slice Ao20 t217.length co20)] 56 (0, 0))) ∧ Aside0 (Below w.heap.size w wc))
    case first =>
     have H := HC26.out
     clear HC26
     by_cases c27 : (t222.length : Int) = 0
     ·rw [if_pos c27] at H
      have c27b0 : ((t222.length : Int) == 0) = true := beq_iff_eq.mpr c27
      have c27b1 : ((t222.length : Int) != 0) = false := bne_eq_false_iff_eq.mpr c27
      clear c27
      (first | rw [c27b0] | rw [c27b1] | (simp only [i64_w, i32_w]; rw [c27b0]) | skip)
      have H' := Aside0.mk H
      clear H
      obtain ⟨Ao28, co28, eo28⟩ := Kd.R_slice HO_15.out
      subst eo28
      go_wp2
      go_meet
      case rel => exact ⟨_, (true), (by first | rfl | (simp; done) | (simp [*]; done)), H', ⟨by have := HJ10.out; first | omega | exact Nat.le_refl _⟩, ⟨(rowN HO_15.out)⟩, ⟨(rowN HO_17.out)⟩, ⟨(rowN HO_221002.out)⟩, ⟨(rowN HO_222002.out)⟩, ⟨blkN BK220.out⟩, ⟨blkN BK221.out⟩, ⟨(belS HB.out)⟩⟩
     ·rw [if_neg c27] at H
      have c27b0 : ((t222.length : Int) == 0) = false := beq_eq_false_iff_ne.mpr c27
      have c27b1 : ((t222.length : Int) != 0) = true := bne_iff_ne.mpr c27
      have c27b2 : ¬ (t222 = []) := fun h_ => c27 (by rw [h_]; rfl)
      (first | rw [c27b0] | rw [c27b1] | (simp only [i64_w, i32_w]; rw [c27b0]) | skip)
      have H' := Aside0.mk H
      clear H
      obtain ⟨Ao29, co29, eo29⟩ := Kd.R_slice HO_15.out
      subst eo29
      obtain ⟨Ao30, co30, eo30⟩ := Kd.R_slice HO_17.out
      subst eo30
      go_wp2
      go_meet
      case rel => exact ⟨_, (((t226.length : Int) == 0)), (by first | rfl | (simp; done) | (simp [*]; done)), H', ⟨by have := HJ10.out; first | omega | exact Nat.le_refl _⟩, ⟨(rowN HO_15.out)⟩, ⟨(rowN HO_17.out)⟩, ⟨(rowN HO_221002.out)⟩, ⟨(rowN HO_222002.out)⟩, ⟨blkN BK220.out⟩, ⟨blkN BK221.out⟩, ⟨(belS HB.out)⟩⟩
    case rest =>
     clear HC26
     try clear c1
     try clear c2
     try clear p2
     try clear c3
     try clear c4
     try clear c5
     try clear c10
     try clear c16
     try clear c24
     try clear c24b0
     try clear c24b1
     try clear c25
     try clear c27
     try clear c27b0
     try clear c27b1
     try clear c27b2
     try clear hcz17_0
     try clear hcz17_1
     try clear hcz17_2
     try clear hcz19_0
     try clear hcz19_1
     try clear hcz19_2
     try clear hcz22_0
     try clear hcz22_1
     try clear hcz22_2
     try clear hfz17_0
     try clear hfz17_1
     try clear hfz17_2
     try clear hfz19_0
     try clear hfz19_1
     try clear hfz19_2
     try clear hfz22_0
     try clear hfz22_1
     try clear hfz22_2
     try clear p2
     obtain ⟨kq, x51_25, rfl, HA, HJ25, HO_15, HO_17, HO_221002, HO_222002, BK220, BK221, HB⟩ := hcut
     cases kq with
     | zero => exact absurd HA.out (by simp [marigraphlaw14_RowkeyApart.j1])
     | succ kj25 =>
      have H := HA.out
      clear HA
      simp only [marigraphlaw14_RowkeyApart.j1] at H
      by_cases c31 : x51_25 = true
      ·subst c31
       have H1 : (some false) = some r := by rw [if_pos rfl] at H; exact H
       clear H
       have H := H1
       clear H1
       obtain rfl := Option.some.inj H
       go_wp2
       go_ret
       exact ⟨by first | rfl | (simp [errW_none, errW_some] <;> rfl) | (simp [*, errW_none, errW_some] <;> rfl), (belS HB.out)⟩
      ·replace c31 := Bool.eq_false_iff.mpr c31
       subst c31
       have H1 : (if 0 ≤ (mn (t222.length : Int) (t226.length : Int)) then (if (mn (t222.length : Int) (t226.length : Int)) ≤ (t222.length : Int) then (if (mn (t222.length : Int) (t226.length : Int)) ≤ (t226.length : Int) then ((rowkey_Same.f kj25 t210 t211 t212 t215 t216 t217).bind fun t238 => (if (((strOfNums (t222.take ((mn (t222.length : Int) (t226.length : Int)) : Int).toNat)).toList == (strOfNums (t226.take ((mn (t222.length : Int) (t226.length : Int)) : Int).toNat)).toList) == t238) = true then (if 0 < (t222.length : Int) then ((rowkey_Salt.f kj25 t210 t211 t212).bind fun t240 => (if (wrap64 (rd t222 0)) = t240 then ((rowkey_Salt.f kj25 t210 t211 t212).bind fun t241 => (if t241 < 4 then ((marigraphlaw14_known.f kj25).bind fun t242 => (some t242)) else (some false))) else (some false))) else (none)) else (some false))) else (none)) else (none)) else (none)) = some r := by rw [if_neg (show ¬ (false = true) by decide)] at H; exact H
       clear H
       have H := H1
       clear H1
       obtain ⟨ji32, hji32⟩ : ∃ j_ : Int, (mn (t222.length : Int) (t226.length : Int)) = j_ := ⟨_, rfl⟩
       replace H : (if 0 ≤ (ji32) then (if (ji32) ≤ (t222.length : Int) then (if (ji32) ≤ (t226.length : Int) then ((rowkey_Same.f kj25 t210 t211 t212 t215 t216 t217).bind fun t238 => (if (((strOfNums (t222.take ((ji32) : Int).toNat)).toList == (strOfNums (t226.take ((ji32) : Int).toNat)).toList) == t238) = true then (if 0 < (t222.length : Int) then ((rowkey_Salt.f kj25 t210 t211 t212).bind fun t240 => (if (wrap64 (rd t222 0)) = t240 then ((rowkey_Salt.f kj25 t210 t211 t212).bind fun t241 => (if t241 < 4 then ((marigraphlaw14_known.f kj25).bind fun t242 => (some t242)) else (some false))) else (some false))) else (none)) else (some false))) else (none)) else (none)) else (none)) = some r := by first | (rw [hji32] at H; exact H) | (simp only [hji32] at H ⊢; exact H)
       have hji32_ : (if (t226.length : Int) < (t222.length : Int) then (t226.length : Int) else (t222.length : Int)) = ji32 := hji32
       have hji32n_ : (if t226.length < t222.length then (t226.length : Int) else (t222.length : Int)) = ji32 := (by have e_ := hji32_; simp only [Int.ofNat_lt] at e_; exact e_)
       by_cases c33 : 0 ≤ (ji32)
       ·rw [if_pos c33] at H
        have c33b0 := eq_true c33
        have c33b1 : decide (0 ≤ (ji32)) = true := decide_eq_true c33
        clear c33
        by_cases c34 : (ji32) ≤ (t222.length : Int)
        ·rw [if_pos c34] at H
         have c34b0 := eq_true c34
         have c34b1 : decide ((ji32) ≤ (t222.length : Int)) = true := decide_eq_true c34
         clear c34
         obtain ⟨y230, hy230⟩ : ∃ y_ : List Int, y_ = (t222.take ((ji32) : Int).toNat) := ⟨_, rfl⟩
         replace H : (if (ji32) ≤ (t226.length : Int) then ((rowkey_Same.f kj25 t210 t211 t212 t215 t216 t217).bind fun t238 => (if (((strOfNums y230).toList == (strOfNums (t226.take ((ji32) : Int).toNat)).toList) == t238) = true then (if 0 < (t222.length : Int) then ((rowkey_Salt.f kj25 t210 t211 t212).bind fun t240 => (if (wrap64 (rd t222 0)) = t240 then ((rowkey_Salt.f kj25 t210 t211 t212).bind fun t241 => (if t241 < 4 then ((marigraphlaw14_known.f kj25).bind fun t242 => (some t242)) else (some false))) else (some false))) else (none)) else (some false))) else (none)) = some r := by first | (rw [hy230]; with_reducible exact H) | (have H2_ := (Option.bind_some _ _).symm.trans H; rw [hy230]; with_reducible exact H2_) | (have H2_ := (Option.bind_some _ _).symm.trans H; with_reducible exact H2_) | with_reducible exact H | (rw [hy230]; exact H) | exact H
         have Ny230 := Aside0.mk hy230
         clear hy230
         have c35b0 := eq_true (of_decide_eq_true (by first | (with_reducible assumption) | assumption) : 0 ≤ (ji32))
         by_cases c36 : (ji32) ≤ (t226.length : Int)
         ·rw [if_pos c36] at H
          have c36b0 := eq_true c36
          have c36b1 : decide ((ji32) ≤ (t226.length : Int)) = true := decide_eq_true c36
          clear c36
          obtain ⟨y234, hy234⟩ : ∃ y_ : List Int, y_ = (t226.take ((ji32) : Int).toNat) := ⟨_, rfl⟩
          replace H : ((rowkey_Same.f kj25 t210 t211 t212 t215 t216 t217).bind fun t238 => (if (((strOfNums y230).toList == (strOfNums y234).toList) == t238) = true then (if 0 < (t222.length : Int) then ((rowkey_Salt.f kj25 t210 t211 t212).bind fun t240 => (if (wrap64 (rd t222 0)) = t240 then ((rowkey_Salt.f kj25 t210 t211 t212).bind fun t241 => (if t241 < 4 then ((marigraphlaw14_known.f kj25).bind fun t242 => (some t242)) else (some false))) else (some false))) else (none)) else (some false))) = some r := by first | (rw [hy234]; with_reducible exact H) | (have H2_ := (Option.bind_some _ _).symm.trans H; rw [hy234]; with_reducible exact H2_) | (have H2_ := (Option.bind_some _ _).symm.trans H; with_reducible exact H2_) | with_reducible exact H | (rw [hy234]; exact H) | exact H
          have Ny234 := Aside0.mk hy234
          clear hy234
          replace H := Option.bind_eq_some_iff.mp H
          obtain ⟨t238, A370, H⟩ := H
          replace H : (if (((strOfNums y230).toList == (strOfNums y234).toList) == t238) = true then (if 0 < (t222.length : Int) then ((rowkey_Salt.f kj25 t210 t211 t212).bind fun t240 => (if (wrap64 (rd t222 0)) = t240 then ((rowkey_Salt.f kj25 t210 t211 t212).bind fun t241 => (if t241 < 4 then ((marigraphlaw14_known.f kj25).bind fun t242 => (some t242)) else (some false))) else (some false))) else (none)) else (some false)) = some r := H
          have A37 := Aside0.mk A370
          clear A370
          by_cases c38 : (((strOfNums y230).toList == (strOfNums y234).toList) == t238) = true
          ·rw [if_pos c38] at H
           have c38b0 : (((strOfNums y230).toList == (strOfNums y234).toList) == t238) = true := c38
           (try (have c38b1 : decide (((strOfNums y230).toList == (strOfNums y234).toList) = t238) = true := by simpa using c38))
           (try (have c38b2 : (((strOfNums y230).toList == (strOfNums y234).toList) == t238) = true := by simpa using c38))
           clear c38
           by_cases c39 : 0 < (t222.length : Int)
           ·rw [if_pos c39] at H
            have c39b0 : decide (0 < (t222.length : Int)) = true := decide_eq_true c39
            have c39b1 : decide (0 < t222.length) = true := decide_eq_true (by omega)
            clear c39
            replace H := Option.bind_eq_some_iff.mp H
            obtain ⟨t240, A400, H⟩ := H
            replace H : (if (wrap64 (rd t222 0)) = t240 then ((rowkey_Salt.f kj25 t210 t211 t212).bind fun t241 => (if t241 < 4 then ((marigraphlaw14_known.f kj25).bind fun t242 => (some t242)) else (some false))) else (some false)) = some r := H
            have A40 := Aside0.mk A400
            clear A400
            by_cases c41 : (wrap64 (rd t222 0)) = t240
            ·rw [if_pos c41] at H
             have c41b0 : ((wrap64 (rd t222 0)) == t240) = true := beq_iff_eq.mpr c41
             have c41b1 : ((wrap64 (rd t222 0)) != t240) = false := bne_eq_false_iff_eq.mpr c41
             clear c41
             replace H := Option.bind_eq_some_iff.mp H
             obtain ⟨t241, A420, H⟩ := H
             replace H : (if t241 < 4 then ((marigraphlaw14_known.f kj25).bind fun t242 => (some t242)) else (some false)) = some r := H
             have A42 := Aside0.mk A420
             clear A420
             by_cases c43 : t241 < 4
             ·rw [if_pos c43] at H
              have c43b0 : decide (t241 < 4) = true := decide_eq_true c43
              clear c43
              replace H := Option.bind_eq_some_iff.mp H
              obtain ⟨t242, A440, H⟩ := H
              replace H : (some t242) = some r := H
              have A44 := Aside0.mk A440
              clear A440
              obtain rfl := Option.some.inj H
              obtain ⟨Ao45, co45, eo45⟩ := Kd.R_slice HO_15.out
              subst eo45
              obtain ⟨Ao46, co46, eo46⟩ := Kd.R_slice HO_17.out
              subst eo46
              try go_wp2
              have n0_ := Aside0.mk (Kd.R_drew HO_15.out)
              have n1_ := Aside0.mk (Kd.R_drew HO_17.out)
              have n2_ := Aside0.mk (Kd.R_drew HO_221002.out)
              have n3_ := Aside0.mk (Kd.R_drew HO_222002.out)
              have n4_ := Aside0.mk (blk_drew BK220.out)
              have n5_ := Aside0.mk (blk_drew BK221.out)
              have n6_ := Aside0.mk (below_drew1 HB.out)
              clear HO_15
              clear HO_17
              clear HO_221002
              clear HO_222002
              clear BK220
              clear BK221
              clear HB
              have HO_15 := n0_
              have HO_17 := n1_
              have HO_221002 := n2_
              have HO_222002 := n3_
              have BK220 := n4_
              have BK221 := n5_
              have HB := n6_
              clear n0_ n1_ n2_ n3_ n4_ n5_ n6_
              have q48 : ((ji32) : Int) ≤ ((t222.length : Int) : Int) := of_decide_eq_true (by first | (with_reducible assumption) | assumption)
              obtain ⟨i048, hi048, _, hsz48, _⟩ := info_parts info5
              have hroom48 : t222.length ≤ co45 := (Kd.R_reads' HO_15.out).2.1
              have hC48 : Kd.C (Kd.int .u8) _ Ao45 t222.length t222 := (Kd.R_reads' HO_15.out).2.2
              have hcut48 := cut_to (P := Try.prog) 30 5 .i64 Try.underlying30 hi048 Ao45 t222.length co45 (ji32) (of_decide_eq_true (by first | (with_reducible assumption) | assumption)) q48 hroom48
              have hr48 := Kd.C_take (m := ((ji32) : Int).toNat) hC48 (by omega)
              have hy48 : y230.length = ((ji32) : Int).toNat := (by rw [Ny230.out, List.length_take]; omega)
              rw [← Ny230.out] at hr48
              rw [← hy48] at hcut48
              have HR233 := Aside0.mk hr48
              have HC233 := Aside0.mk (show y230.length ≤ co45 from by omega)
              clear hr48 hC48 hroom48 hi048 hsz48
              have KY48 := Aside0.mk hy48
              clear hy48
              have KL48 := Aside0.mk (show ((ji32) : Int).toNat ≤ t222.length from by omega)
              replace q48 := eq_true q48
              have q49 : ((ji32) : Int) ≤ ((t226.length : Int) : Int) := of_decide_eq_true (by first | (with_reducible assumption) | assumption)
              obtain ⟨i049, hi049, _, hsz49, _⟩ := info_parts info5
              have hroom49 : t226.length ≤ co46 := (Kd.R_reads' HO_17.out).2.1
              have hC49 : Kd.C (Kd.int .u8) _ Ao46 t226.length t226 := (Kd.R_reads' HO_17.out).2.2
              have hcut49 := cut_to (P := Try.prog) 30 5 .i64 Try.underlying30 hi049 Ao46 t226.length co46 (ji32) (of_decide_eq_true (by first | (with_reducible assumption) | assumption)) q49 hroom49
              have hr49 := Kd.C_take (m := ((ji32) : Int).toNat) hC49 (by omega)
              have hy49 : y234.length = ((ji32) : Int).toNat := (by rw [Ny234.out, List.length_take]; omega)
              rw [← Ny234.out] at hr49
              rw [← hy49] at hcut49
              have HR237 := Aside0.mk hr49
              have HC237 := Aside0.mk (show y234.length ≤ co46 from by omega)
              clear hr49 hC49 hroom49 hi049 hsz49
              have KY49 := Aside0.mk hy49
              clear hy49
              have KL49 := Aside0.mk (show ((ji32) : Int).toNat ≤ t226.length from by omega)
              replace q49 := eq_true q49
              have p239 : 0 ≤ (0 : Int) := (by omega)
              have q239 : 0 < (t222.length : Int) := of_decide_eq_true (by first | (with_reducible assumption) | assumption)
              obtain ⟨ad239, e239, hx239_0⟩ := Kd.at_int (Kd.R_reads' HO_15.out).2.2 0 p239 q239
              cases e239
              have qi239 : (0 < t222.length) = True := eq_true (by omega)
              (try rw [show ((0 : Int)).toNat = 0 from rfl] at hx239_0)
              (try rw [Addr.add_zero'] at hx239_0)
              replace p239 := eq_true p239
              replace q239 := eq_true q239
              refine start_ (n := 31) (S := fun w' => w'.cell? ⟨gb220, 0, none⟩ = some (.int .i64 t210) ∧ w'.cell? ⟨gb220, 1, none⟩ = some (.int .i64 t211) ∧ w'.cell? ⟨gb220, 2, none⟩ = some (.slice Ao18 t212.length co18) ∧ w'.cell? ⟨gb221, 0, none⟩ = some (.int .i64 t215) ∧ w'.cell? ⟨gb221, 1, none⟩ = some (.int .i64 t216) ∧ w'.cell? ⟨gb221, 2, none⟩ = some (.slice Ao20 t217.length co20) ∧ (convert 30 9 (.slice (some ad239) y230.length co45)).run Try.prog w' = .ok (.string (strOfNums y230)) w' ∧ (convert 30 9 (.slice Ao46 y234.length co46)).run Try.prog w' = .ok (.string (strOfNums y234)) w' ∧ w'.cell? ad239 = some (.int .u8 (rd t222 0))) (ds := []) #[false, false, false, false, false, false, false, false, false, false, false, false, false, false, false, false, false, false, false, false, false, false, false, false, false, false, false, false, false, false, false] (by kernel_rfl) rfl rfl ⟨(blk_cell BK220.out 0).trans rfl, (blk_cell BK220.out 1).trans rfl, (blk_cell BK220.out 2).trans rfl, (blk_cell BK221.out 0).trans rfl, (blk_cell BK221.out 1).trans rfl, (blk_cell BK221.out 2).trans rfl, (Kd.C_string (P := Try.prog) Try.underlying30 Try.underlying5 Try.underlying9 (by repeat (first | (with_reducible exact HR233.out) | (with_reducible refine Kd.C_alloc ?_ _) | (with_reducible refine Kd.C_drewN ?_ _) | (with_reducible refine Kd.C_drew ?_) | exact HR233.out))), (Kd.C_string (P := Try.prog) Try.underlying30 Try.underlying5 Try.underlying9 (by repeat (first | (with_reducible exact HR237.out) | (with_reducible refine Kd.C_alloc ?_ _) | (with_reducible refine Kd.C_drewN ?_ _) | (with_reducible refine Kd.C_drew ?_) | exact HR237.out))), hx239_0⟩ (fun hHeld => ?_); refine with_tabW marigraphlaw14_RowkeyApart.tab9 marigraphlaw14_RowkeyApart.bits9 (fun HT_ HW_ => ?_)
              generalize wc.drew = w47 at HO_15 HO_17 HO_221002 HO_222002 BK220 BK221 HB HR233 HR237 hx239_0 hHeld ⊢
              have HV50 := HR233
              have HV51 := HR237
              refine pA 0 (some 57) (bA 31 1) HT_.out ?_
              refine pA 1 (some 58) (bA 31 3) HT_.out ?_
              refine pA 2 (some 59) (bA 31 7) HT_.out ?_
              refine pA 4 (some 61) (bA 31 23) HT_.out ?_
              refine pA 5 (some 62) (bA 31 55) HT_.out ?_
              refine pA 6 (some 63) (bA 31 119) HT_.out ?_
              refine take_ (i := 3) (N := some 60) (v := ?_) (a' := ?_) (bA 31 127) rfl rfl (take_ofW HT_.out HW_.out (by kernel_rfl)) (fun _ _ _ h => h) (Or.inl ⟨by rfl, ?_⟩) hHeld ?_ ?_
              rotate_left
              ·rintro w' ⟨s0, s1, s2, s3, s4, s5, s6, s7, s8⟩
               go_simp
               with_reducible rfl
              rotate_left
              ·simp only [Act.put, List.setIfInBounds_toArray, List.set_cons_zero, List.set_cons_succ, i64_w, i32_w]
               rfl
              refine take_ (i := 7) (N := some 64) (v := ?_) (a' := ?_) (bA 31 255) rfl rfl (take_ofW HT_.out HW_.out (by kernel_rfl)) (fun _ _ _ h => h) (Or.inl ⟨by rfl, ?_⟩) hHeld ?_ ?_
              rotate_left
              ·rintro w' ⟨s0, s1, s2, s3, s4, s5, s6, s7, s8⟩
               go_simp
               with_reducible rfl
              rotate_left
              ·simp only [Act.put, List.setIfInBounds_toArray, List.set_cons_zero, List.set_cons_succ, i64_w, i32_w]
               rfl
              refine pA 8 (some 65) (bA 31 511) HT_.out ?_
              refine take_ (i := 9) (N := some 66) (v := ?_) (a' := ?_) (bA 31 1023) rfl rfl (take_ofW HT_.out HW_.out (by kernel_rfl)) (fun _ _ _ h => h) (Or.inl ⟨by rfl, ?_⟩) hHeld ?_ ?_
              rotate_left
              ·rintro w' ⟨s0, s1, s2, s3, s4, s5, s6, s7, s8⟩
               go_simp
               with_reducible rfl
              rotate_left
              ·simp only [Act.put, List.setIfInBounds_toArray, List.set_cons_zero, List.set_cons_succ, i64_w, i32_w]
               rfl
              refine take_ (i := 10) (N := some 67) (v := ?_) (a' := ?_) (bA 31 2047) rfl rfl (take_ofW HT_.out HW_.out (by kernel_rfl)) (fun _ _ _ h => h) (Or.inl ⟨by rfl, ?_⟩) hHeld ?_ ?_
              rotate_left
              ·rintro w' ⟨s0, s1, s2, s3, s4, s5, s6, s7, s8⟩
               go_simp
               with_reducible rfl
              rotate_left
              ·simp only [Act.put, List.setIfInBounds_toArray, List.set_cons_zero, List.set_cons_succ, i64_w, i32_w]
               rfl
              refine one_ (i := 11) (N := some 68) (bA 31 4095) rfl rfl (one_of HT_.out (by kernel_rfl)) (by decide) (fun K hK => ?_)
              refine goes_ Try.func33 (by kernel_rfl) rfl #[.agg #[.int .i64 t210, .int .i64 t211, .slice Ao18 t212.length co18], .agg #[.int .i64 t215, .int .i64 t216, .slice Ao20 t217.length co20]] (by rfl) rfl rfl argN ?_
              with_reducible refine (rowkey_Same.calls kj25 t210 t211 _ _ t212 t215 t216 _ _ t217 t238 _ ?side1 ?side2 ?side3 ?side4 A37.out).mono ?_
              (case side1 => repeat (first | exact (Kd.R_reads' HO_221002.out).2.2 | (with_reducible refine Kd.C_alloc ?_ _) | (with_reducible refine Kd.C_drewN ?_ _) | (with_reducible refine Kd.C_drew ?_)))
              (case side2 => exact (Kd.R_reads' HO_221002.out).2.1)
              (case side3 => repeat (first | exact (Kd.R_reads' HO_222002.out).2.2 | (with_reducible refine Kd.C_alloc ?_ _) | (with_reducible refine Kd.C_drewN ?_ _) | (with_reducible refine Kd.C_drew ?_)))
              (case side4 => exact (Kd.R_reads' HO_222002.out).2.1)
              rintro e w52 ⟨rfl, hb⟩
              have HV50 := Aside0.mk (cbN HV50.out hb)
              have HV51 := Aside0.mk (cbN HV51.out hb)
              have HS8_ := (hb.cell (World.block_lt_of_cell? _ _ (hHeld.2.2.2.2.2.2.2.2))).trans (hHeld.2.2.2.2.2.2.2.2)
              refine ⟨_, rfl, ?_⟩
              have n0_ := Aside0.mk (Kd.R_below (rowN HO_15.out) hb)
              have n1_ := Aside0.mk (Kd.R_below (rowN HO_17.out) hb)
              have n2_ := Aside0.mk (Kd.R_below (rowN HO_221002.out) hb)
              have n3_ := Aside0.mk (Kd.R_below (rowN HO_222002.out) hb)
              have n4_ := Aside0.mk (bkB BK220.out hb)
              have n5_ := Aside0.mk (bkB BK221.out hb)
              have n6_ := Aside0.mk (cbN HR233.out hb)
              have n7_ := Aside0.mk (cbN HR237.out hb)
              have n8_ := Aside0.mk (below_step (belS HB.out) hb)
              clear HO_15
              clear HO_17
              clear HO_221002
              clear HO_222002
              clear BK220
              clear BK221
              clear HR233
              clear HR237
              clear HB
              have HO_15 := n0_
              have HO_17 := n1_
              have HO_221002 := n2_
              have HO_222002 := n3_
              have BK220 := n4_
              have BK221 := n5_
              have HR233 := n6_
              have HR237 := n7_
              have HB := n8_
              clear n0_ n1_ n2_ n3_ n4_ n5_ n6_ n7_ n8_
              (try clear hb)
              (try clear hk)
              refine hK.out _ _ ⟨(blk_cell BK220.out 0).trans rfl, (blk_cell BK220.out 1).trans rfl, (blk_cell BK220.out 2).trans rfl, (blk_cell BK221.out 0).trans rfl, (blk_cell BK221.out 1).trans rfl, (blk_cell BK221.out 2).trans rfl, (Kd.C_string (P := Try.prog) Try.underlying30 Try.underlying5 Try.underlying9 (by repeat (first | (with_reducible exact HV50.out) | (with_reducible refine Kd.C_alloc ?_ _) | (with_reducible refine Kd.C_drewN ?_ _) | (with_reducible refine Kd.C_drew ?_) | exact HV50.out))), (Kd.C_string (P := Try.prog) Try.underlying30 Try.underlying5 Try.underlying9 (by repeat (first | (with_reducible exact HV51.out) | (with_reducible refine Kd.C_alloc ?_ _) | (with_reducible refine Kd.C_drewN ?_ _) | (with_reducible refine Kd.C_drew ?_) | exact HV51.out))), HS8_⟩ (fun hHeld => ?_)
              clear hK K
              refine norm_ (a' := ?_) ?_ ?_
              rotate_left
              ·show Act.put _ (some 68) _ = _
               simp only [Act.put, List.setIfInBounds_toArray, List.set_cons_zero, List.set_cons_succ, i64_w, i32_w]
               rfl
              refine pA 12 (some 69) (bA 31 8191) HT_.out ?_
              refine pA 13 (some 70) (bA 31 16383) HT_.out ?_
              refine pA 14 (some 71) (bA 31 32767) HT_.out ?_
              refine pA 15 (some 72) (bA 31 65535) HT_.out ?_
              refine take_ (i := 16) (N := some 73) (v := ?_) (a' := ?_) (bA 31 131071) rfl rfl (take_ofW HT_.out HW_.out (by kernel_rfl)) (fun _ _ _ h => h) (Or.inl ⟨by rfl, ?_⟩) hHeld ?_ ?_
              rotate_left
              ·rintro w' ⟨s0, s1, s2, s3, s4, s5, s6, s7, s8⟩
               go_simp
               with_reducible rfl
              rotate_left
              ·simp only [Act.put, List.setIfInBounds_toArray, List.set_cons_zero, List.set_cons_succ, i64_w, i32_w]
               rfl
              refine pA 17 (some 74) (bA 31 262143) HT_.out ?_
              refine take_ (i := 18) (N := some 75) (v := ?_) (a' := ?_) (bA 31 524287) rfl rfl (take_ofW HT_.out HW_.out (by kernel_rfl)) (fun _ _ _ h => h) (Or.inl ⟨by rfl, ?_⟩) hHeld ?_ ?_
              rotate_left
              ·rintro w' ⟨s0, s1, s2, s3, s4, s5, s6, s7, s8⟩
               go_simp
               with_reducible rfl
              rotate_left
              ·simp only [Act.put, List.setIfInBounds_toArray, List.set_cons_zero, List.set_cons_succ, i64_w, i32_w]
               rfl
              refine one_ (i := 19) (N := some 76) (bA 31 1048575) rfl rfl (one_of HT_.out (by kernel_rfl)) (by decide) (fun K hK => ?_)
              refine goes_ Try.func42 (by kernel_rfl) rfl #[.agg #[.int .i64 t210, .int .i64 t211, .slice Ao18 t212.length co18]] (by rfl) rfl rfl argN ?_
              with_reducible refine (rowkey_Salt.calls kj25 t210 t211 _ _ t212 t240 _ ?side1 ?side2 A40.out).mono ?_
              (case side1 => repeat (first | exact (Kd.R_reads' HO_221002.out).2.2 | (with_reducible refine Kd.C_alloc ?_ _) | (with_reducible refine Kd.C_drewN ?_ _) | (with_reducible refine Kd.C_drew ?_)))
              (case side2 => exact (Kd.R_reads' HO_221002.out).2.1)
              rintro e w54 ⟨rfl, hb⟩
              have HV50 := Aside0.mk (cbN HV50.out hb)
              have HV51 := Aside0.mk (cbN HV51.out hb)
              have HS8_ := (hb.cell (World.block_lt_of_cell? _ _ (hHeld.2.2.2.2.2.2.2.2))).trans (hHeld.2.2.2.2.2.2.2.2)
              refine ⟨_, rfl, ?_⟩
              have n0_ := Aside0.mk (Kd.R_below (rowN HO_15.out) hb)
              have n1_ := Aside0.mk (Kd.R_below (rowN HO_17.out) hb)
              have n2_ := Aside0.mk (Kd.R_below (rowN HO_221002.out) hb)
              have n3_ := Aside0.mk (Kd.R_below (rowN HO_222002.out) hb)
              have n4_ := Aside0.mk (bkB BK220.out hb)
              have n5_ := Aside0.mk (bkB BK221.out hb)
              have n6_ := Aside0.mk (below_step (belS HB.out) hb)
              clear HO_15
              clear HO_17
              clear HO_221002
              clear HO_222002
              clear BK220
              clear BK221
              clear HB
              have HO_15 := n0_
              have HO_17 := n1_
              have HO_221002 := n2_
              have HO_222002 := n3_
              have BK220 := n4_
              have BK221 := n5_
              have HB := n6_
              clear n0_ n1_ n2_ n3_ n4_ n5_ n6_
              (try clear hb)
              (try clear hk)
              refine hK.out _ _ ⟨(blk_cell BK220.out 0).trans rfl, (blk_cell BK220.out 1).trans rfl, (blk_cell BK220.out 2).trans rfl, (blk_cell BK221.out 0).trans rfl, (blk_cell BK221.out 1).trans rfl, (blk_cell BK221.out 2).trans rfl, (Kd.C_string (P := Try.prog) Try.underlying30 Try.underlying5 Try.underlying9 (by repeat (first | (with_reducible exact HV50.out) | (with_reducible refine Kd.C_alloc ?_ _) | (with_reducible refine Kd.C_drewN ?_ _) | (with_reducible refine Kd.C_drew ?_) | exact HV50.out))), (Kd.C_string (P := Try.prog) Try.underlying30 Try.underlying5 Try.underlying9 (by repeat (first | (with_reducible exact HV51.out) | (with_reducible refine Kd.C_alloc ?_ _) | (with_reducible refine Kd.C_drewN ?_ _) | (with_reducible refine Kd.C_drew ?_) | exact HV51.out))), HS8_⟩ (fun hHeld => ?_)
              clear hK K
              refine norm_ (a' := ?_) ?_ ?_
              rotate_left
              ·show Act.put _ (some 76) _ = _
               simp only [Act.put, List.setIfInBounds_toArray, List.set_cons_zero, List.set_cons_succ, i64_w, i32_w]
               rfl
              refine pA 20 (some 77) (bA 31 2097151) HT_.out ?_
              refine pA 21 (some 78) (bA 31 4194303) HT_.out ?_
              refine pA 22 (some 79) (bA 31 8388607) HT_.out ?_
              refine take_ (i := 23) (N := some 80) (v := ?_) (a' := ?_) (bA 31 16777215) rfl rfl (take_ofW HT_.out HW_.out (by kernel_rfl)) (fun _ _ _ h => h) (Or.inl ⟨by rfl, ?_⟩) hHeld ?_ ?_
              rotate_left
              ·rintro w' ⟨s0, s1, s2, s3, s4, s5, s6, s7, s8⟩
               go_simp
               with_reducible rfl
              rotate_left
              ·simp only [Act.put, List.setIfInBounds_toArray, List.set_cons_zero, List.set_cons_succ, i64_w, i32_w]
               rfl
              refine one_ (i := 24) (N := some 81) (bA 31 33554431) rfl rfl (one_of HT_.out (by kernel_rfl)) (by decide) (fun K hK => ?_)
              refine goes_ Try.func42 (by kernel_rfl) rfl #[.agg #[.int .i64 t210, .int .i64 t211, .slice Ao18 t212.length co18]] (by rfl) rfl rfl argN ?_
              with_reducible refine (rowkey_Salt.calls kj25 t210 t211 _ _ t212 t241 _ ?side1 ?side2 A42.out).mono ?_
              (case side1 => repeat (first | exact (Kd.R_reads' HO_221002.out).2.2 | (with_reducible refine Kd.C_alloc ?_ _) | (with_reducible refine Kd.C_drewN ?_ _) | (with_reducible refine Kd.C_drew ?_)))
              (case side2 => exact (Kd.R_reads' HO_221002.out).2.1)
              rintro e w55 ⟨rfl, hb⟩
              have HV50 := Aside0.mk (cbN HV50.out hb)
              have HV51 := Aside0.mk (cbN HV51.out hb)
              have HS8_ := (hb.cell (World.block_lt_of_cell? _ _ (hHeld.2.2.2.2.2.2.2.2))).trans (hHeld.2.2.2.2.2.2.2.2)
              refine ⟨_, rfl, ?_⟩
              have n0_ := Aside0.mk (Kd.R_below (rowN HO_15.out) hb)
              have n1_ := Aside0.mk (Kd.R_below (rowN HO_17.out) hb)
              have n2_ := Aside0.mk (Kd.R_below (rowN HO_221002.out) hb)
              have n3_ := Aside0.mk (Kd.R_below (rowN HO_222002.out) hb)
              have n4_ := Aside0.mk (bkB BK220.out hb)
              have n5_ := Aside0.mk (bkB BK221.out hb)
              have n6_ := Aside0.mk (below_step (belS HB.out) hb)
              clear HO_15
              clear HO_17
              clear HO_221002
              clear HO_222002
              clear BK220
              clear BK221
              clear HB
              have HO_15 := n0_
              have HO_17 := n1_
              have HO_221002 := n2_
              have HO_222002 := n3_
              have BK220 := n4_
              have BK221 := n5_
              have HB := n6_
              clear n0_ n1_ n2_ n3_ n4_ n5_ n6_
              (try clear hb)
              (try clear hk)
              refine hK.out _ _ ⟨(blk_cell BK220.out 0).trans rfl, (blk_cell BK220.out 1).trans rfl, (blk_cell BK220.out 2).trans rfl, (blk_cell BK221.out 0).trans rfl, (blk_cell BK221.out 1).trans rfl, (blk_cell BK221.out 2).trans rfl, (Kd.C_string (P := Try.prog) Try.underlying30 Try.underlying5 Try.underlying9 (by repeat (first | (with_reducible exact HV50.out) | (with_reducible refine Kd.C_alloc ?_ _) | (with_reducible refine Kd.C_drewN ?_ _) | (with_reducible refine Kd.C_drew ?_) | exact HV50.out))), (Kd.C_string (P := Try.prog) Try.underlying30 Try.underlying5 Try.underlying9 (by repeat (first | (with_reducible exact HV51.out) | (with_reducible refine Kd.C_alloc ?_ _) | (with_reducible refine Kd.C_drewN ?_ _) | (with_reducible refine Kd.C_drew ?_) | exact HV51.out))), HS8_⟩ (fun hHeld => ?_)
              clear hK K
              refine norm_ (a' := ?_) ?_ ?_
              rotate_left
              ·show Act.put _ (some 81) _ = _
               simp only [Act.put, List.setIfInBounds_toArray, List.set_cons_zero, List.set_cons_succ, i64_w, i32_w]
               rfl
              refine pA 25 (some 82) (bA 31 67108863) HT_.out ?_
              refine pA 26 (some 83) (bA 31 134217727) HT_.out ?_
              refine pA 27 (some 84) (bA 31 268435455) HT_.out ?_
              refine one_ (i := 28) (N := some 85) (bA 31 536870911) rfl rfl (one_of HT_.out (by kernel_rfl)) (by decide) (fun K hK => ?_)
              refine goes_ Try.func38 (by kernel_rfl) rfl #[] (by rfl) rfl rfl argN ?_
              with_reducible refine (marigraphlaw14_known.calls kj25  t242 _ A44.out).mono ?_
              rintro e w56 ⟨rfl, hb⟩
              have HV50 := Aside0.mk (cbN HV50.out hb)
              have HV51 := Aside0.mk (cbN HV51.out hb)
              have HS8_ := (hb.cell (World.block_lt_of_cell? _ _ (hHeld.2.2.2.2.2.2.2.2))).trans (hHeld.2.2.2.2.2.2.2.2)
              refine ⟨_, rfl, ?_⟩
              have n0_ := Aside0.mk (Kd.R_below (rowN HO_15.out) hb)
              have n1_ := Aside0.mk (Kd.R_below (rowN HO_17.out) hb)
              have n2_ := Aside0.mk (Kd.R_below (rowN HO_221002.out) hb)
              have n3_ := Aside0.mk (Kd.R_below (rowN HO_222002.out) hb)
              have n4_ := Aside0.mk (bkB BK220.out hb)
              have n5_ := Aside0.mk (bkB BK221.out hb)
              have n6_ := Aside0.mk (below_step (belS HB.out) hb)
              clear HO_15
              clear HO_17
              clear HO_221002
              clear HO_222002
              clear BK220
              clear BK221
              clear HB
              have HO_15 := n0_
              have HO_17 := n1_
              have HO_221002 := n2_
              have HO_222002 := n3_
              have BK220 := n4_
              have BK221 := n5_
              have HB := n6_
              clear n0_ n1_ n2_ n3_ n4_ n5_ n6_
              (try clear hb)
              (try clear hk)
              refine hK.out _ _ ⟨(blk_cell BK220.out 0).trans rfl, (blk_cell BK220.out 1).trans rfl, (blk_cell BK220.out 2).trans rfl, (blk_cell BK221.out 0).trans rfl, (blk_cell BK221.out 1).trans rfl, (blk_cell BK221.out 2).trans rfl, (Kd.C_string (P := Try.prog) Try.underlying30 Try.underlying5 Try.underlying9 (by repeat (first | (with_reducible exact HV50.out) | (with_reducible refine Kd.C_alloc ?_ _) | (with_reducible refine Kd.C_drewN ?_ _) | (with_reducible refine Kd.C_drew ?_) | exact HV50.out))), (Kd.C_string (P := Try.prog) Try.underlying30 Try.underlying5 Try.underlying9 (by repeat (first | (with_reducible exact HV51.out) | (with_reducible refine Kd.C_alloc ?_ _) | (with_reducible refine Kd.C_drewN ?_ _) | (with_reducible refine Kd.C_drew ?_) | exact HV51.out))), HS8_⟩ (fun hHeld => ?_)
              clear hK K
              refine norm_ (a' := ?_) ?_ ?_
              rotate_left
              ·show Act.put _ (some 85) _ = _
               simp only [Act.put, List.setIfInBounds_toArray, List.set_cons_zero, List.set_cons_succ, i64_w, i32_w]
               rfl
              refine pA 29 (some 86) (bA 31 1073741823) HT_.out ?_
              refine pA 30 (some 12) (bA 31 2147483647) HT_.out ?_
              refine done_ (done_of HT_.out (by kernel_rfl)) ?_
              try go_wp2
              go_ret
              exact ⟨by first | rfl | (simp [errW_none, errW_some] <;> rfl) | (simp only [← hji32]; first | rfl | (simp [errW_none, errW_some] <;> rfl)) | (simp [*, errW_none, errW_some] <;> rfl), (belS HB.out)⟩
             ·rw [if_neg c43] at H
              have c43b0 : decide (t241 < 4) = false := decide_eq_false c43
              clear c43
              obtain rfl := Option.some.inj H
              obtain ⟨Ao57, co57, eo57⟩ := Kd.R_slice HO_15.out
              subst eo57
              obtain ⟨Ao58, co58, eo58⟩ := Kd.R_slice HO_17.out
              subst eo58
              try go_wp2
              have n0_ := Aside0.mk (Kd.R_drew HO_15.out)
              have n1_ := Aside0.mk (Kd.R_drew HO_17.out)
              have n2_ := Aside0.mk (Kd.R_drew HO_221002.out)
              have n3_ := Aside0.mk (Kd.R_drew HO_222002.out)
              have n4_ := Aside0.mk (blk_drew BK220.out)
              have n5_ := Aside0.mk (blk_drew BK221.out)
              have n6_ := Aside0.mk (below_drew1 HB.out)
              clear HO_15
              clear HO_17
              clear HO_221002
              clear HO_222002
              clear BK220
              clear BK221
              clear HB
              have HO_15 := n0_
              have HO_17 := n1_
              have HO_221002 := n2_
              have HO_222002 := n3_
              have BK220 := n4_
              have BK221 := n5_
              have HB := n6_
              clear n0_ n1_ n2_ n3_ n4_ n5_ n6_
              have q60 : ((ji32) : Int) ≤ ((t222.length : Int) : Int) := of_decide_eq_true (by first | (with_reducible assumption) | assumption)
              obtain ⟨i060, hi060, _, hsz60, _⟩ := info_parts info5
              have hroom60 : t222.length ≤ co57 := (Kd.R_reads' HO_15.out).2.1
              have hC60 : Kd.C (Kd.int .u8) _ Ao57 t222.length t222 := (Kd.R_reads' HO_15.out).2.2
              have hcut60 := cut_to (P := Try.prog) 30 5 .i64 Try.underlying30 hi060 Ao57 t222.length co57 (ji32) (of_decide_eq_true (by first | (with_reducible assumption) | assumption)) q60 hroom60
              have hr60 := Kd.C_take (m := ((ji32) : Int).toNat) hC60 (by omega)
              have hy60 : y230.length = ((ji32) : Int).toNat := (by rw [Ny230.out, List.length_take]; omega)
              rw [← Ny230.out] at hr60
              rw [← hy60] at hcut60
              have HR233 := Aside0.mk hr60
              have HC233 := Aside0.mk (show y230.length ≤ co57 from by omega)
              clear hr60 hC60 hroom60 hi060 hsz60
              have KY60 := Aside0.mk hy60
              clear hy60
              have KL60 := Aside0.mk (show ((ji32) : Int).toNat ≤ t222.length from by omega)
              replace q60 := eq_true q60
              have q61 : ((ji32) : Int) ≤ ((t226.length : Int) : Int) := of_decide_eq_true (by first | (with_reducible assumption) | assumption)
              obtain ⟨i061, hi061, _, hsz61, _⟩ := info_parts info5
              have hroom61 : t226.length ≤ co58 := (Kd.R_reads' HO_17.out).2.1
              have hC61 : Kd.C (Kd.int .u8) _ Ao58 t226.length t226 := (Kd.R_reads' HO_17.out).2.2
              have hcut61 := cut_to (P := Try.prog) 30 5 .i64 Try.underlying30 hi061 Ao58 t226.length co58 (ji32) (of_decide_eq_true (by first | (with_reducible assumption) | assumption)) q61 hroom61
              have hr61 := Kd.C_take (m := ((ji32) : Int).toNat) hC61 (by omega)
              have hy61 : y234.length = ((ji32) : Int).toNat := (by rw [Ny234.out, List.length_take]; omega)
              rw [← Ny234.out] at hr61
              rw [← hy61] at hcut61
              have HR237 := Aside0.mk hr61
              have HC237 := Aside0.mk (show y234.length ≤ co58 from by omega)
              clear hr61 hC61 hroom61 hi061 hsz61
              have KY61 := Aside0.mk hy61
              clear hy61
              have KL61 := Aside0.mk (show ((ji32) : Int).toNat ≤ t226.length from by omega)
              replace q61 := eq_true q61
              have p239 : 0 ≤ (0 : Int) := (by omega)
              have q239 : 0 < (t222.length : Int) := of_decide_eq_true (by first | (with_reducible assumption) | assumption)
              obtain ⟨ad239, e239, hx239_0⟩ := Kd.at_int (Kd.R_reads' HO_15.out).2.2 0 p239 q239
              cases e239
              have qi239 : (0 < t222.length) = True := eq_true (by omega)
              (try rw [show ((0 : Int)).toNat = 0 from rfl] at hx239_0)
              (try rw [Addr.add_zero'] at hx239_0)
              replace p239 := eq_true p239
              replace q239 := eq_true q239
              refine start_ (n := 31) (S := fun w' => w'.cell? ⟨gb220, 0, none⟩ = some (.int .i64 t210) ∧ w'.cell? ⟨gb220, 1, none⟩ = some (.int .i64 t211) ∧ w'.cell? ⟨gb220, 2, none⟩ = some (.slice Ao18 t212.length co18) ∧ w'.cell? ⟨gb221, 0, none⟩ = some (.int .i64 t215) ∧ w'.cell? ⟨gb221, 1, none⟩ = some (.int .i64 t216) ∧ w'.cell? ⟨gb221, 2, none⟩ = some (.slice Ao20 t217.length co20) ∧ (convert 30 9 (.slice (some ad239) y230.length co57)).run Try.prog w' = .ok (.string (strOfNums y230)) w' ∧ (convert 30 9 (.slice Ao58 y234.length co58)).run Try.prog w' = .ok (.string (strOfNums y234)) w' ∧ w'.cell? ad239 = some (.int .u8 (rd t222 0))) (ds := []) #[false, false, false, false, false, false, false, false, false, false, false, false, false, false, false, false, false, false, false, false, false, false, false, false, false, false, false, false, false, false, false] (by kernel_rfl) rfl rfl ⟨(blk_cell BK220.out 0).trans rfl, (blk_cell BK220.out 1).trans rfl, (blk_cell BK220.out 2).trans rfl, (blk_cell BK221.out 0).trans rfl, (blk_cell BK221.out 1).trans rfl, (blk_cell BK221.out 2).trans rfl, (Kd.C_string (P := Try.prog) Try.underlying30 Try.underlying5 Try.underlying9 (by repeat (first | (with_reducible exact HR233.out) | (with_reducible refine Kd.C_alloc ?_ _) | (with_reducible refine Kd.C_drewN ?_ _) | (with_reducible refine Kd.C_drew ?_) | exact HR233.out))), (Kd.C_string (P := Try.prog) Try.underlying30 Try.underlying5 Try.underlying9 (by repeat (first | (with_reducible exact HR237.out) | (with_reducible refine Kd.C_alloc ?_ _) | (with_reducible refine Kd.C_drewN ?_ _) | (with_reducible refine Kd.C_drew ?_) | exact HR237.out))), hx239_0⟩ (fun hHeld => ?_); refine with_tabW marigraphlaw14_RowkeyApart.tab9 marigraphlaw14_RowkeyApart.bits9 (fun HT_ HW_ => ?_)
              generalize wc.drew = w59 at HO_15 HO_17 HO_221002 HO_222002 BK220 BK221 HB HR233 HR237 hx239_0 hHeld ⊢
              have HV62 := HR233
              have HV63 := HR237
              refine pA 0 (some 57) (bA 31 1) HT_.out ?_
              refine pA 1 (some 58) (bA 31 3) HT_.out ?_
              refine pA 2 (some 59) (bA 31 7) HT_.out ?_
              refine pA 4 (some 61) (bA 31 23) HT_.out ?_
              refine pA 5 (some 62) (bA 31 55) HT_.out ?_
              refine pA 6 (some 63) (bA 31 119) HT_.out ?_
              refine take_ (i := 3) (N := some 60) (v := ?_) (a' := ?_) (bA 31 127) rfl rfl (take_ofW HT_.out HW_.out (by kernel_rfl)) (fun _ _ _ h => h) (Or.inl ⟨by rfl, ?_⟩) hHeld ?_ ?_
              rotate_left
              ·rintro w' ⟨s0, s1, s2, s3, s4, s5, s6, s7, s8⟩
               go_simp
               with_reducible rfl
              rotate_left
              ·simp only [Act.put, List.setIfInBounds_toArray, List.set_cons_zero, List.set_cons_succ, i64_w, i32_w]
               rfl
              refine take_ (i := 7) (N := some 64) (v := ?_) (a' := ?_) (bA 31 255) rfl rfl (take_ofW HT_.out HW_.out (by kernel_rfl)) (fun _ _ _ h => h) (Or.inl ⟨by rfl, ?_⟩) hHeld ?_ ?_
              rotate_left
              ·rintro w' ⟨s0, s1, s2, s3, s4, s5, s6, s7, s8⟩
               go_simp
               with_reducible rfl
              rotate_left
              ·simp only [Act.put, List.setIfInBounds_toArray, List.set_cons_zero, List.set_cons_succ, i64_w, i32_w]
               rfl
              refine pA 8 (some 65) (bA 31 511) HT_.out ?_
              refine take_ (i := 9) (N := some 66) (v := ?_) (a' := ?_) (bA 31 1023) rfl rfl (take_ofW HT_.out HW_.out (by kernel_rfl)) (fun _ _ _ h => h) (Or.inl ⟨by rfl, ?_⟩) hHeld ?_ ?_
              rotate_left
              ·rintro w' ⟨s0, s1, s2, s3, s4, s5, s6, s7, s8⟩
               go_simp
               with_reducible rfl
              rotate_left
              ·simp only [Act.put, List.setIfInBounds_toArray, List.set_cons_zero, List.set_cons_succ, i64_w, i32_w]
               rfl
              refine take_ (i := 10) (N := some 67) (v := ?_) (a' := ?_) (bA 31 2047) rfl rfl (take_ofW HT_.out HW_.out (by kernel_rfl)) (fun _ _ _ h => h) (Or.inl ⟨by rfl, ?_⟩) hHeld ?_ ?_
              rotate_left
              ·rintro w' ⟨s0, s1, s2, s3, s4, s5, s6, s7, s8⟩
               go_simp
               with_reducible rfl
              rotate_left
              ·simp only [Act.put, List.setIfInBounds_toArray, List.set_cons_zero, List.set_cons_succ, i64_w, i32_w]
               rfl
              refine one_ (i := 11) (N := some 68) (bA 31 4095) rfl rfl (one_of HT_.out (by kernel_rfl)) (by decide) (fun K hK => ?_)
              refine goes_ Try.func33 (by kernel_rfl) rfl #[.agg #[.int .i64 t210, .int .i64 t211, .slice Ao18 t212.length co18], .agg #[.int .i64 t215, .int .i64 t216, .slice Ao20 t217.length co20]] (by rfl) rfl rfl argN ?_
              with_reducible refine (rowkey_Same.calls kj25 t210 t211 _ _ t212 t215 t216 _ _ t217 t238 _ ?side1 ?side2 ?side3 ?side4 A37.out).mono ?_
              (case side1 => repeat (first | exact (Kd.R_reads' HO_221002.out).2.2 | (with_reducible refine Kd.C_alloc ?_ _) | (with_reducible refine Kd.C_drewN ?_ _) | (with_reducible refine Kd.C_drew ?_)))
              (case side2 => exact (Kd.R_reads' HO_221002.out).2.1)
              (case side3 => repeat (first | exact (Kd.R_reads' HO_222002.out).2.2 | (with_reducible refine Kd.C_alloc ?_ _) | (with_reducible refine Kd.C_drewN ?_ _) | (with_reducible refine Kd.C_drew ?_)))
              (case side4 => exact (Kd.R_reads' HO_222002.out).2.1)
              rintro e w64 ⟨rfl, hb⟩
              have HV62 := Aside0.mk (cbN HV62.out hb)
              have HV63 := Aside0.mk (cbN HV63.out hb)
              have HS8_ := (hb.cell (World.block_lt_of_cell? _ _ (hHeld.2.2.2.2.2.2.2.2))).trans (hHeld.2.2.2.2.2.2.2.2)
              refine ⟨_, rfl, ?_⟩
              have n0_ := Aside0.mk (Kd.R_below (rowN HO_15.out) hb)
              have n1_ := Aside0.mk (Kd.R_below (rowN HO_17.out) hb)
              have n2_ := Aside0.mk (Kd.R_below (rowN HO_221002.out) hb)
              have n3_ := Aside0.mk (Kd.R_below (rowN HO_222002.out) hb)
              have n4_ := Aside0.mk (bkB BK220.out hb)
              have n5_ := Aside0.mk (bkB BK221.out hb)
              have n6_ := Aside0.mk (cbN HR233.out hb)
              have n7_ := Aside0.mk (cbN HR237.out hb)
              have n8_ := Aside0.mk (below_step (belS HB.out) hb)
              clear HO_15
              clear HO_17
              clear HO_221002
              clear HO_222002
              clear BK220
              clear BK221
              clear HR233
              clear HR237
              clear HB
              have HO_15 := n0_
              have HO_17 := n1_
              have HO_221002 := n2_
              have HO_222002 := n3_
              have BK220 := n4_
              have BK221 := n5_
              have HR233 := n6_
              have HR237 := n7_
              have HB := n8_
              clear n0_ n1_ n2_ n3_ n4_ n5_ n6_ n7_ n8_
              (try clear hb)
              (try clear hk)
              refine hK.out _ _ ⟨(blk_cell BK220.out 0).trans rfl, (blk_cell BK220.out 1).trans rfl, (blk_cell BK220.out 2).trans rfl, (blk_cell BK221.out 0).trans rfl, (blk_cell BK221.out 1).trans rfl, (blk_cell BK221.out 2).trans rfl, (Kd.C_string (P := Try.prog) Try.underlying30 Try.underlying5 Try.underlying9 (by repeat (first | (with_reducible exact HV62.out) | (with_reducible refine Kd.C_alloc ?_ _) | (with_reducible refine Kd.C_drewN ?_ _) | (with_reducible refine Kd.C_drew ?_) | exact HV62.out))), (Kd.C_string (P := Try.prog) Try.underlying30 Try.underlying5 Try.underlying9 (by repeat (first | (with_reducible exact HV63.out) | (with_reducible refine Kd.C_alloc ?_ _) | (with_reducible refine Kd.C_drewN ?_ _) | (with_reducible refine Kd.C_drew ?_) | exact HV63.out))), HS8_⟩ (fun hHeld => ?_)
              clear hK K
              refine norm_ (a' := ?_) ?_ ?_
              rotate_left
              ·show Act.put _ (some 68) _ = _
               simp only [Act.put, List.setIfInBounds_toArray, List.set_cons_zero, List.set_cons_succ, i64_w, i32_w]
               rfl
              refine pA 12 (some 69) (bA 31 8191) HT_.out ?_
              refine pA 13 (some 70) (bA 31 16383) HT_.out ?_
              refine pA 14 (some 71) (bA 31 32767) HT_.out ?_
              refine pA 15 (some 72) (bA 31 65535) HT_.out ?_
              refine take_ (i := 16) (N := some 73) (v := ?_) (a' := ?_) (bA 31 131071) rfl rfl (take_ofW HT_.out HW_.out (by kernel_rfl)) (fun _ _ _ h => h) (Or.inl ⟨by rfl, ?_⟩) hHeld ?_ ?_
              rotate_left
              ·rintro w' ⟨s0, s1, s2, s3, s4, s5, s6, s7, s8⟩
               go_simp
               with_reducible rfl
              rotate_left
              ·simp only [Act.put, List.setIfInBounds_toArray, List.set_cons_zero, List.set_cons_succ, i64_w, i32_w]
               rfl
              refine pA 17 (some 74) (bA 31 262143) HT_.out ?_
              refine take_ (i := 18) (N := some 75) (v := ?_) (a' := ?_) (bA 31 524287) rfl rfl (take_ofW HT_.out HW_.out (by kernel_rfl)) (fun _ _ _ h => h) (Or.inl ⟨by rfl, ?_⟩) hHeld ?_ ?_
              rotate_left
              ·rintro w' ⟨s0, s1, s2, s3, s4, s5, s6, s7, s8⟩
               go_simp
               with_reducible rfl
              rotate_left
              ·simp only [Act.put, List.setIfInBounds_toArray, List.set_cons_zero, List.set_cons_succ, i64_w, i32_w]
               rfl
              refine one_ (i := 19) (N := some 76) (bA 31 1048575) rfl rfl (one_of HT_.out (by kernel_rfl)) (by decide) (fun K hK => ?_)
              refine goes_ Try.func42 (by kernel_rfl) rfl #[.agg #[.int .i64 t210, .int .i64 t211, .slice Ao18 t212.length co18]] (by rfl) rfl rfl argN ?_
              with_reducible refine (rowkey_Salt.calls kj25 t210 t211 _ _ t212 t240 _ ?side1 ?side2 A40.out).mono ?_
              (case side1 => repeat (first | exact (Kd.R_reads' HO_221002.out).2.2 | (with_reducible refine Kd.C_alloc ?_ _) | (with_reducible refine Kd.C_drewN ?_ _) | (with_reducible refine Kd.C_drew ?_)))
              (case side2 => exact (Kd.R_reads' HO_221002.out).2.1)
              rintro e w66 ⟨rfl, hb⟩
              have HV62 := Aside0.mk (cbN HV62.out hb)
              have HV63 := Aside0.mk (cbN HV63.out hb)
              have HS8_ := (hb.cell (World.block_lt_of_cell? _ _ (hHeld.2.2.2.2.2.2.2.2))).trans (hHeld.2.2.2.2.2.2.2.2)
              refine ⟨_, rfl, ?_⟩
              have n0_ := Aside0.mk (Kd.R_below (rowN HO_15.out) hb)
              have n1_ := Aside0.mk (Kd.R_below (rowN HO_17.out) hb)
              have n2_ := Aside0.mk (Kd.R_below (rowN HO_221002.out) hb)
              have n3_ := Aside0.mk (Kd.R_below (rowN HO_222002.out) hb)
              have n4_ := Aside0.mk (bkB BK220.out hb)
              have n5_ := Aside0.mk (bkB BK221.out hb)
              have n6_ := Aside0.mk (below_step (belS HB.out) hb)
              clear HO_15
              clear HO_17
              clear HO_221002
              clear HO_222002
              clear BK220
              clear BK221
              clear HB
              have HO_15 := n0_
              have HO_17 := n1_
              have HO_221002 := n2_
              have HO_222002 := n3_
              have BK220 := n4_
              have BK221 := n5_
              have HB := n6_
              clear n0_ n1_ n2_ n3_ n4_ n5_ n6_
              (try clear hb)
              (try clear hk)
              refine hK.out _ _ ⟨(blk_cell BK220.out 0).trans rfl, (blk_cell BK220.out 1).trans rfl, (blk_cell BK220.out 2).trans rfl, (blk_cell BK221.out 0).trans rfl, (blk_cell BK221.out 1).trans rfl, (blk_cell BK221.out 2).trans rfl, (Kd.C_string (P := Try.prog) Try.underlying30 Try.underlying5 Try.underlying9 (by repeat (first | (with_reducible exact HV62.out) | (with_reducible refine Kd.C_alloc ?_ _) | (with_reducible refine Kd.C_drewN ?_ _) | (with_reducible refine Kd.C_drew ?_) | exact HV62.out))), (Kd.C_string (P := Try.prog) Try.underlying30 Try.underlying5 Try.underlying9 (by repeat (first | (with_reducible exact HV63.out) | (with_reducible refine Kd.C_alloc ?_ _) | (with_reducible refine Kd.C_drewN ?_ _) | (with_reducible refine Kd.C_drew ?_) | exact HV63.out))), HS8_⟩ (fun hHeld => ?_)
              clear hK K
              refine norm_ (a' := ?_) ?_ ?_
              rotate_left
              ·show Act.put _ (some 76) _ = _
               simp only [Act.put, List.setIfInBounds_toArray, List.set_cons_zero, List.set_cons_succ, i64_w, i32_w]
               rfl
              refine pA 20 (some 77) (bA 31 2097151) HT_.out ?_
              refine pA 21 (some 78) (bA 31 4194303) HT_.out ?_
              refine pA 22 (some 79) (bA 31 8388607) HT_.out ?_
              refine take_ (i := 23) (N := some 80) (v := ?_) (a' := ?_) (bA 31 16777215) rfl rfl (take_ofW HT_.out HW_.out (by kernel_rfl)) (fun _ _ _ h => h) (Or.inl ⟨by rfl, ?_⟩) hHeld ?_ ?_
              rotate_left
              ·rintro w' ⟨s0, s1, s2, s3, s4, s5, s6, s7, s8⟩
               go_simp
               with_reducible rfl
              rotate_left
              ·simp only [Act.put, List.setIfInBounds_toArray, List.set_cons_zero, List.set_cons_succ, i64_w, i32_w]
               rfl
              refine one_ (i := 24) (N := some 81) (bA 31 33554431) rfl rfl (one_of HT_.out (by kernel_rfl)) (by decide) (fun K hK => ?_)
              refine goes_ Try.func42 (by kernel_rfl) rfl #[.agg #[.int .i64 t210, .int .i64 t211, .slice Ao18 t212.length co18]] (by rfl) rfl rfl argN ?_
              with_reducible refine (rowkey_Salt.calls kj25 t210 t211 _ _ t212 t241 _ ?side1 ?side2 A42.out).mono ?_
              (case side1 => repeat (first | exact (Kd.R_reads' HO_221002.out).2.2 | (with_reducible refine Kd.C_alloc ?_ _) | (with_reducible refine Kd.C_drewN ?_ _) | (with_reducible refine Kd.C_drew ?_)))
              (case side2 => exact (Kd.R_reads' HO_221002.out).2.1)
              rintro e w67 ⟨rfl, hb⟩
              have HV62 := Aside0.mk (cbN HV62.out hb)
              have HV63 := Aside0.mk (cbN HV63.out hb)
              have HS8_ := (hb.cell (World.block_lt_of_cell? _ _ (hHeld.2.2.2.2.2.2.2.2))).trans (hHeld.2.2.2.2.2.2.2.2)
              refine ⟨_, rfl, ?_⟩
              have n0_ := Aside0.mk (Kd.R_below (rowN HO_15.out) hb)
              have n1_ := Aside0.mk (Kd.R_below (rowN HO_17.out) hb)
              have n2_ := Aside0.mk (Kd.R_below (rowN HO_221002.out) hb)
              have n3_ := Aside0.mk (Kd.R_below (rowN HO_222002.out) hb)
              have n4_ := Aside0.mk (bkB BK220.out hb)
              have n5_ := Aside0.mk (bkB BK221.out hb)
              have n6_ := Aside0.mk (below_step (belS HB.out) hb)
              clear HO_15
              clear HO_17
              clear HO_221002
              clear HO_222002
              clear BK220
              clear BK221
              clear HB
              have HO_15 := n0_
              have HO_17 := n1_
              have HO_221002 := n2_
              have HO_222002 := n3_
              have BK220 := n4_
              have BK221 := n5_
              have HB := n6_
              clear n0_ n1_ n2_ n3_ n4_ n5_ n6_
              (try clear hb)
              (try clear hk)
              refine hK.out _ _ ⟨(blk_cell BK220.out 0).trans rfl, (blk_cell BK220.out 1).trans rfl, (blk_cell BK220.out 2).trans rfl, (blk_cell BK221.out 0).trans rfl, (blk_cell BK221.out 1).trans rfl, (blk_cell BK221.out 2).trans rfl, (Kd.C_string (P := Try.prog) Try.underlying30 Try.underlying5 Try.underlying9 (by repeat (first | (with_reducible exact HV62.out) | (with_reducible refine Kd.C_alloc ?_ _) | (with_reducible refine Kd.C_drewN ?_ _) | (with_reducible refine Kd.C_drew ?_) | exact HV62.out))), (Kd.C_string (P := Try.prog) Try.underlying30 Try.underlying5 Try.underlying9 (by repeat (first | (with_reducible exact HV63.out) | (with_reducible refine Kd.C_alloc ?_ _) | (with_reducible refine Kd.C_drewN ?_ _) | (with_reducible refine Kd.C_drew ?_) | exact HV63.out))), HS8_⟩ (fun hHeld => ?_)
              clear hK K
              refine norm_ (a' := ?_) ?_ ?_
              rotate_left
              ·show Act.put _ (some 81) _ = _
               simp only [Act.put, List.setIfInBounds_toArray, List.set_cons_zero, List.set_cons_succ, i64_w, i32_w]
               rfl
              refine pA 25 (some 82) (bA 31 67108863) HT_.out ?_
              refine pA 26 (some 83) (bA 31 134217727) HT_.out ?_
              refine pA 27 (some 84) (bA 31 268435455) HT_.out ?_
              refine pU 28 (some 85) (bA 31 536870911) HT_.out ?_
              refine pA 29 (some 86) (bA 31 1073741823) HT_.out ?_
              refine pA 30 (some 12) (bA 31 2147483647) HT_.out ?_
              refine done_ (done_of HT_.out (by kernel_rfl)) ?_
              try go_wp2
              go_ret
              exact ⟨by first | rfl | (simp [errW_none, errW_some] <;> rfl) | (simp only [← hji32]; first | rfl | (simp [errW_none, errW_some] <;> rfl)) | (simp [*, errW_none, errW_some] <;> rfl), (belS HB.out)⟩
            ·rw [if_neg c41] at H
             have c41b0 : ((wrap64 (rd t222 0)) == t240) = false := beq_eq_false_iff_ne.mpr c41
             have c41b1 : ((wrap64 (rd t222 0)) != t240) = true := bne_iff_ne.mpr c41
             obtain rfl := Option.some.inj H
             obtain ⟨Ao68, co68, eo68⟩ := Kd.R_slice HO_15.out
             subst eo68
             obtain ⟨Ao69, co69, eo69⟩ := Kd.R_slice HO_17.out
             subst eo69
             try go_wp2
             have n0_ := Aside0.mk (Kd.R_drew HO_15.out)
             have n1_ := Aside0.mk (Kd.R_drew HO_17.out)
             have n2_ := Aside0.mk (Kd.R_drew HO_221002.out)
             have n3_ := Aside0.mk (Kd.R_drew HO_222002.out)
             have n4_ := Aside0.mk (blk_drew BK220.out)
             have n5_ := Aside0.mk (blk_drew BK221.out)
             have n6_ := Aside0.mk (below_drew1 HB.out)
             clear HO_15
             clear HO_17
             clear HO_221002
             clear HO_222002
             clear BK220
             clear BK221
             clear HB
             have HO_15 := n0_
             have HO_17 := n1_
             have HO_221002 := n2_
             have HO_222002 := n3_
             have BK220 := n4_
             have BK221 := n5_
             have HB := n6_
             clear n0_ n1_ n2_ n3_ n4_ n5_ n6_
             have q71 : ((ji32) : Int) ≤ ((t222.length : Int) : Int) := of_decide_eq_true (by first | (with_reducible assumption) | assumption)
             obtain ⟨i071, hi071, _, hsz71, _⟩ := info_parts info5
             have hroom71 : t222.length ≤ co68 := (Kd.R_reads' HO_15.out).2.1
             have hC71 : Kd.C (Kd.int .u8) _ Ao68 t222.length t222 := (Kd.R_reads' HO_15.out).2.2
             have hcut71 := cut_to (P := Try.prog) 30 5 .i64 Try.underlying30 hi071 Ao68 t222.length co68 (ji32) (of_decide_eq_true (by first | (with_reducible assumption) | assumption)) q71 hroom71
             have hr71 := Kd.C_take (m := ((ji32) : Int).toNat) hC71 (by omega)
             have hy71 : y230.length = ((ji32) : Int).toNat := (by rw [Ny230.out, List.length_take]; omega)
             rw [← Ny230.out] at hr71
             rw [← hy71] at hcut71
             have HR233 := Aside0.mk hr71
             have HC233 := Aside0.mk (show y230.length ≤ co68 from by omega)
             clear hr71 hC71 hroom71 hi071 hsz71
             have KY71 := Aside0.mk hy71
             clear hy71
             have KL71 := Aside0.mk (show ((ji32) : Int).toNat ≤ t222.length from by omega)
             replace q71 := eq_true q71
             have q72 : ((ji32) : Int) ≤ ((t226.length : Int) : Int) := of_decide_eq_true (by first | (with_reducible assumption) | assumption)
             obtain ⟨i072, hi072, _, hsz72, _⟩ := info_parts info5
             have hroom72 : t226.length ≤ co69 := (Kd.R_reads' HO_17.out).2.1
             have hC72 : Kd.C (Kd.int .u8) _ Ao69 t226.length t226 := (Kd.R_reads' HO_17.out).2.2
             have hcut72 := cut_to (P := Try.prog) 30 5 .i64 Try.underlying30 hi072 Ao69 t226.length co69 (ji32) (of_decide_eq_true (by first | (with_reducible assumption) | assumption)) q72 hroom72
             have hr72 := Kd.C_take (m := ((ji32) : Int).toNat) hC72 (by omega)
             have hy72 : y234.length = ((ji32) : Int).toNat := (by rw [Ny234.out, List.length_take]; omega)
             rw [← Ny234.out] at hr72
             rw [← hy72] at hcut72
             have HR237 := Aside0.mk hr72
             have HC237 := Aside0.mk (show y234.length ≤ co69 from by omega)
             clear hr72 hC72 hroom72 hi072 hsz72
             have KY72 := Aside0.mk hy72
             clear hy72
             have KL72 := Aside0.mk (show ((ji32) : Int).toNat ≤ t226.length from by omega)
             replace q72 := eq_true q72
             have p239 : 0 ≤ (0 : Int) := (by omega)
             have q239 : 0 < (t222.length : Int) := of_decide_eq_true (by first | (with_reducible assumption) | assumption)
             obtain ⟨ad239, e239, hx239_0⟩ := Kd.at_int (Kd.R_reads' HO_15.out).2.2 0 p239 q239
             cases e239
             have qi239 : (0 < t222.length) = True := eq_true (by omega)
             (try rw [show ((0 : Int)).toNat = 0 from rfl] at hx239_0)
             (try rw [Addr.add_zero'] at hx239_0)
             replace p239 := eq_true p239
             replace q239 := eq_true q239
             refine start_ (n := 31) (S := fun w' => w'.cell? ⟨gb220, 0, none⟩ = some (.int .i64 t210) ∧ w'.cell? ⟨gb220, 1, none⟩ = some (.int .i64 t211) ∧ w'.cell? ⟨gb220, 2, none⟩ = some (.slice Ao18 t212.length co18) ∧ w'.cell? ⟨gb221, 0, none⟩ = some (.int .i64 t215) ∧ w'.cell? ⟨gb221, 1, none⟩ = some (.int .i64 t216) ∧ w'.cell? ⟨gb221, 2, none⟩ = some (.slice Ao20 t217.length co20) ∧ (convert 30 9 (.slice (some ad239) y230.length co68)).run Try.prog w' = .ok (.string (strOfNums y230)) w' ∧ (convert 30 9 (.slice Ao69 y234.length co69)).run Try.prog w' = .ok (.string (strOfNums y234)) w' ∧ w'.cell? ad239 = some (.int .u8 (rd t222 0))) (ds := []) #[false, false, false, false, false, false, false, false, false, false, false, false, false, false, false, false, false, false, false, false, false, false, false, false, false, false, false, false, false, false, false] (by kernel_rfl) rfl rfl ⟨(blk_cell BK220.out 0).trans rfl, (blk_cell BK220.out 1).trans rfl, (blk_cell BK220.out 2).trans rfl, (blk_cell BK221.out 0).trans rfl, (blk_cell BK221.out 1).trans rfl, (blk_cell BK221.out 2).trans rfl, (Kd.C_string (P := Try.prog) Try.underlying30 Try.underlying5 Try.underlying9 (by repeat (first | (with_reducible exact HR233.out) | (with_reducible refine Kd.C_alloc ?_ _) | (with_reducible refine Kd.C_drewN ?_ _) | (with_reducible refine Kd.C_drew ?_) | exact HR233.out))), (Kd.C_string (P := Try.prog) Try.underlying30 Try.underlying5 Try.underlying9 (by repeat (first | (with_reducible exact HR237.out) | (with_reducible refine Kd.C_alloc ?_ _) | (with_reducible refine Kd.C_drewN ?_ _) | (with_reducible refine Kd.C_drew ?_) | exact HR237.out))), hx239_0⟩ (fun hHeld => ?_); refine with_tabW marigraphlaw14_RowkeyApart.tab9 marigraphlaw14_RowkeyApart.bits9 (fun HT_ HW_ => ?_)
             generalize wc.drew = w70 at HO_15 HO_17 HO_221002 HO_222002 BK220 BK221 HB HR233 HR237 hx239_0 hHeld ⊢
             have HV73 := HR233
             have HV74 := HR237
             refine pA 0 (some 57) (bA 31 1) HT_.out ?_
             refine pA 1 (some 58) (bA 31 3) HT_.out ?_
             refine pA 2 (some 59) (bA 31 7) HT_.out ?_
             refine pA 4 (some 61) (bA 31 23) HT_.out ?_
             refine pA 5 (some 62) (bA 31 55) HT_.out ?_
             refine pA 6 (some 63) (bA 31 119) HT_.out ?_
             refine take_ (i := 3) (N := some 60) (v := ?_) (a' := ?_) (bA 31 127) rfl rfl (take_ofW HT_.out HW_.out (by kernel_rfl)) (fun _ _ _ h => h) (Or.inl ⟨by rfl, ?_⟩) hHeld ?_ ?_
             rotate_left
             ·rintro w' ⟨s0, s1, s2, s3, s4, s5, s6, s7, s8⟩
              go_simp
              with_reducible rfl
             rotate_left
             ·simp only [Act.put, List.setIfInBounds_toArray, List.set_cons_zero, List.set_cons_succ, i64_w, i32_w]
              rfl
             refine take_ (i := 7) (N := some 64) (v := ?_) (a' := ?_) (bA 31 255) rfl rfl (take_ofW HT_.out HW_.out (by kernel_rfl)) (fun _ _ _ h => h) (Or.inl ⟨by rfl, ?_⟩) hHeld ?_ ?_
             rotate_left
             ·rintro w' ⟨s0, s1, s2, s3, s4, s5, s6, s7, s8⟩
              go_simp
              with_reducible rfl
             rotate_left
             ·simp only [Act.put, List.setIfInBounds_toArray, List.set_cons_zero, List.set_cons_succ, i64_w, i32_w]
              rfl
             refine pA 8 (some 65) (bA 31 511) HT_.out ?_
             refine take_ (i := 9) (N := some 66) (v := ?_) (a' := ?_) (bA 31 1023) rfl rfl (take_ofW HT_.out HW_.out (by kernel_rfl)) (fun _ _ _ h => h) (Or.inl ⟨by rfl, ?_⟩) hHeld ?_ ?_
             rotate_left
             ·rintro w' ⟨s0, s1, s2, s3, s4, s5, s6, s7, s8⟩
              go_simp
              with_reducible rfl
             rotate_left
             ·simp only [Act.put, List.setIfInBounds_toArray, List.set_cons_zero, List.set_cons_succ, i64_w, i32_w]
              rfl
             refine take_ (i := 10) (N := some 67) (v := ?_) (a' := ?_) (bA 31 2047) rfl rfl (take_ofW HT_.out HW_.out (by kernel_rfl)) (fun _ _ _ h => h) (Or.inl ⟨by rfl, ?_⟩) hHeld ?_ ?_
             rotate_left
             ·rintro w' ⟨s0, s1, s2, s3, s4, s5, s6, s7, s8⟩
              go_simp
              with_reducible rfl
             rotate_left
             ·simp only [Act.put, List.setIfInBounds_toArray, List.set_cons_zero, List.set_cons_succ, i64_w, i32_w]
              rfl
             refine one_ (i := 11) (N := some 68) (bA 31 4095) rfl rfl (one_of HT_.out (by kernel_rfl)) (by decide) (fun K hK => ?_)
             refine goes_ Try.func33 (by kernel_rfl) rfl #[.agg #[.int .i64 t210, .int .i64 t211, .slice Ao18 t212.length co18], .agg #[.int .i64 t215, .int .i64 t216, .slice Ao20 t217.length co20]] (by rfl) rfl rfl argN ?_
             with_reducible refine (rowkey_Same.calls kj25 t210 t211 _ _ t212 t215 t216 _ _ t217 t238 _ ?side1 ?side2 ?side3 ?side4 A37.out).mono ?_
             (case side1 => repeat (first | exact (Kd.R_reads' HO_221002.out).2.2 | (with_reducible refine Kd.C_alloc ?_ _) | (with_reducible refine Kd.C_drewN ?_ _) | (with_reducible refine Kd.C_drew ?_)))
             (case side2 => exact (Kd.R_reads' HO_221002.out).2.1)
             (case side3 => repeat (first | exact (Kd.R_reads' HO_222002.out).2.2 | (with_reducible refine Kd.C_alloc ?_ _) | (with_reducible refine Kd.C_drewN ?_ _) | (with_reducible refine Kd.C_drew ?_)))
             (case side4 => exact (Kd.R_reads' HO_222002.out).2.1)
             rintro e w75 ⟨rfl, hb⟩
             have HV73 := Aside0.mk (cbN HV73.out hb)
             have HV74 := Aside0.mk (cbN HV74.out hb)
             have HS8_ := (hb.cell (World.block_lt_of_cell? _ _ (hHeld.2.2.2.2.2.2.2.2))).trans (hHeld.2.2.2.2.2.2.2.2)
             refine ⟨_, rfl, ?_⟩
             have n0_ := Aside0.mk (Kd.R_below (rowN HO_15.out) hb)
             have n1_ := Aside0.mk (Kd.R_below (rowN HO_17.out) hb)
             have n2_ := Aside0.mk (Kd.R_below (rowN HO_221002.out) hb)
             have n3_ := Aside0.mk (Kd.R_below (rowN HO_222002.out) hb)
             have n4_ := Aside0.mk (bkB BK220.out hb)
             have n5_ := Aside0.mk (bkB BK221.out hb)
             have n6_ := Aside0.mk (cbN HR233.out hb)
             have n7_ := Aside0.mk (cbN HR237.out hb)
             have n8_ := Aside0.mk (below_step (belS HB.out) hb)
             clear HO_15
             clear HO_17
             clear HO_221002
             clear HO_222002
             clear BK220
             clear BK221
             clear HR233
             clear HR237
             clear HB
             have HO_15 := n0_
             have HO_17 := n1_
             have HO_221002 := n2_
             have HO_222002 := n3_
             have BK220 := n4_
             have BK221 := n5_
             have HR233 := n6_
             have HR237 := n7_
             have HB := n8_
             clear n0_ n1_ n2_ n3_ n4_ n5_ n6_ n7_ n8_
             (try clear hb)
             (try clear hk)
             refine hK.out _ _ ⟨(blk_cell BK220.out 0).trans rfl, (blk_cell BK220.out 1).trans rfl, (blk_cell BK220.out 2).trans rfl, (blk_cell BK221.out 0).trans rfl, (blk_cell BK221.out 1).trans rfl, (blk_cell BK221.out 2).trans rfl, (Kd.C_string (P := Try.prog) Try.underlying30 Try.underlying5 Try.underlying9 (by repeat (first | (with_reducible exact HV73.out) | (with_reducible refine Kd.C_alloc ?_ _) | (with_reducible refine Kd.C_drewN ?_ _) | (with_reducible refine Kd.C_drew ?_) | exact HV73.out))), (Kd.C_string (P := Try.prog) Try.underlying30 Try.underlying5 Try.underlying9 (by repeat (first | (with_reducible exact HV74.out) | (with_reducible refine Kd.C_alloc ?_ _) | (with_reducible refine Kd.C_drewN ?_ _) | (with_reducible refine Kd.C_drew ?_) | exact HV74.out))), HS8_⟩ (fun hHeld => ?_)
             clear hK K
             refine norm_ (a' := ?_) ?_ ?_
             rotate_left
             ·show Act.put _ (some 68) _ = _
              simp only [Act.put, List.setIfInBounds_toArray, List.set_cons_zero, List.set_cons_succ, i64_w, i32_w]
              rfl
             refine pA 12 (some 69) (bA 31 8191) HT_.out ?_
             refine pA 13 (some 70) (bA 31 16383) HT_.out ?_
             refine pA 14 (some 71) (bA 31 32767) HT_.out ?_
             refine pA 15 (some 72) (bA 31 65535) HT_.out ?_
             refine take_ (i := 16) (N := some 73) (v := ?_) (a' := ?_) (bA 31 131071) rfl rfl (take_ofW HT_.out HW_.out (by kernel_rfl)) (fun _ _ _ h => h) (Or.inl ⟨by rfl, ?_⟩) hHeld ?_ ?_
             rotate_left
             ·rintro w' ⟨s0, s1, s2, s3, s4, s5, s6, s7, s8⟩
              go_simp
              with_reducible rfl
             rotate_left
             ·simp only [Act.put, List.setIfInBounds_toArray, List.set_cons_zero, List.set_cons_succ, i64_w, i32_w]
              rfl
             refine pA 17 (some 74) (bA 31 262143) HT_.out ?_
             refine take_ (i := 18) (N := some 75) (v := ?_) (a' := ?_) (bA 31 524287) rfl rfl (take_ofW HT_.out HW_.out (by kernel_rfl)) (fun _ _ _ h => h) (Or.inl ⟨by rfl, ?_⟩) hHeld ?_ ?_
             rotate_left
             ·rintro w' ⟨s0, s1, s2, s3, s4, s5, s6, s7, s8⟩
              go_simp
              with_reducible rfl
             rotate_left
             ·simp only [Act.put, List.setIfInBounds_toArray, List.set_cons_zero, List.set_cons_succ, i64_w, i32_w]
              rfl
             refine one_ (i := 19) (N := some 76) (bA 31 1048575) rfl rfl (one_of HT_.out (by kernel_rfl)) (by decide) (fun K hK => ?_)
             refine goes_ Try.func42 (by kernel_rfl) rfl #[.agg #[.int .i64 t210, .int .i64 t211, .slice Ao18 t212.length co18]] (by rfl) rfl rfl argN ?_
             with_reducible refine (rowkey_Salt.calls kj25 t210 t211 _ _ t212 t240 _ ?side1 ?side2 A40.out).mono ?_
             (case side1 => repeat (first | exact (Kd.R_reads' HO_221002.out).2.2 | (with_reducible refine Kd.C_alloc ?_ _) | (with_reducible refine Kd.C_drewN ?_ _) | (with_reducible refine Kd.C_drew ?_)))
             (case side2 => exact (Kd.R_reads' HO_221002.out).2.1)
             rintro e w77 ⟨rfl, hb⟩
             have HV73 := Aside0.mk (cbN HV73.out hb)
             have HV74 := Aside0.mk (cbN HV74.out hb)
             have HS8_ := (hb.cell (World.block_lt_of_cell? _ _ (hHeld.2.2.2.2.2.2.2.2))).trans (hHeld.2.2.2.2.2.2.2.2)
             refine ⟨_, rfl, ?_⟩
             have n0_ := Aside0.mk (Kd.R_below (rowN HO_15.out) hb)
             have n1_ := Aside0.mk (Kd.R_below (rowN HO_17.out) hb)
             have n2_ := Aside0.mk (Kd.R_below (rowN HO_221002.out) hb)
             have n3_ := Aside0.mk (Kd.R_below (rowN HO_222002.out) hb)
             have n4_ := Aside0.mk (bkB BK220.out hb)
             have n5_ := Aside0.mk (bkB BK221.out hb)
             have n6_ := Aside0.mk (below_step (belS HB.out) hb)
             clear HO_15
             clear HO_17
             clear HO_221002
             clear HO_222002
             clear BK220
             clear BK221
             clear HB
             have HO_15 := n0_
             have HO_17 := n1_
             have HO_221002 := n2_
             have HO_222002 := n3_
             have BK220 := n4_
             have BK221 := n5_
             have HB := n6_
             clear n0_ n1_ n2_ n3_ n4_ n5_ n6_
             (try clear hb)
             (try clear hk)
             refine hK.out _ _ ⟨(blk_cell BK220.out 0).trans rfl, (blk_cell BK220.out 1).trans rfl, (blk_cell BK220.out 2).trans rfl, (blk_cell BK221.out 0).trans rfl, (blk_cell BK221.out 1).trans rfl, (blk_cell BK221.out 2).trans rfl, (Kd.C_string (P := Try.prog) Try.underlying30 Try.underlying5 Try.underlying9 (by repeat (first | (with_reducible exact HV73.out) | (with_reducible refine Kd.C_alloc ?_ _) | (with_reducible refine Kd.C_drewN ?_ _) | (with_reducible refine Kd.C_drew ?_) | exact HV73.out))), (Kd.C_string (P := Try.prog) Try.underlying30 Try.underlying5 Try.underlying9 (by repeat (first | (with_reducible exact HV74.out) | (with_reducible refine Kd.C_alloc ?_ _) | (with_reducible refine Kd.C_drewN ?_ _) | (with_reducible refine Kd.C_drew ?_) | exact HV74.out))), HS8_⟩ (fun hHeld => ?_)
             clear hK K
             refine norm_ (a' := ?_) ?_ ?_
             rotate_left
             ·show Act.put _ (some 76) _ = _
              simp only [Act.put, List.setIfInBounds_toArray, List.set_cons_zero, List.set_cons_succ, i64_w, i32_w]
              rfl
             refine pA 20 (some 77) (bA 31 2097151) HT_.out ?_
             refine pA 21 (some 78) (bA 31 4194303) HT_.out ?_
             refine pA 22 (some 79) (bA 31 8388607) HT_.out ?_
             refine pU 23 (some 80) (bA 31 16777215) HT_.out ?_
             refine pU 24 (some 81) (bA 31 33554431) HT_.out ?_
             refine pU 25 (some 82) (bA 31 67108863) HT_.out ?_
             refine pA 26 (some 83) (bA 31 134217727) HT_.out ?_
             refine pA 27 (some 84) (bA 31 268435455) HT_.out ?_
             refine pU 28 (some 85) (bA 31 536870911) HT_.out ?_
             refine pA 29 (some 86) (bA 31 1073741823) HT_.out ?_
             refine pA 30 (some 12) (bA 31 2147483647) HT_.out ?_
             refine done_ (done_of HT_.out (by kernel_rfl)) ?_
             try go_wp2
             go_ret
             exact ⟨by first | rfl | (simp [errW_none, errW_some] <;> rfl) | (simp only [← hji32]; first | rfl | (simp [errW_none, errW_some] <;> rfl)) | (simp [*, errW_none, errW_some] <;> rfl), (belS HB.out)⟩
           ·rw [if_neg c39] at H
            exact absurd H (by simp)
          ·rw [if_neg c38] at H
           have c38b0 : (((strOfNums y230).toList == (strOfNums y234).toList) == t238) = false := by simpa using c38
           (try (have c38b1 : decide (((strOfNums y230).toList == (strOfNums y234).toList) = t238) = false := by simpa using c38))
           (try (have c38b2 : (((strOfNums y230).toList == (strOfNums y234).toList) == t238) = false := by simpa using c38))
           (try (have c38b3 : ¬ (((strOfNums y230).toList == (strOfNums y234).toList) = t238) := by simpa using c38))
           clear c38
           obtain rfl := Option.some.inj H
           obtain ⟨Ao78, co78, eo78⟩ := Kd.R_slice HO_15.out
           subst eo78
           obtain ⟨Ao79, co79, eo79⟩ := Kd.R_slice HO_17.out
           subst eo79
           try go_wp2
           have n0_ := Aside0.mk (Kd.R_drew HO_15.out)
           have n1_ := Aside0.mk (Kd.R_drew HO_17.out)
           have n2_ := Aside0.mk (Kd.R_drew HO_221002.out)
           have n3_ := Aside0.mk (Kd.R_drew HO_222002.out)
           have n4_ := Aside0.mk (blk_drew BK220.out)
           have n5_ := Aside0.mk (blk_drew BK221.out)
           have n6_ := Aside0.mk (below_drew1 HB.out)
           clear HO_15
           clear HO_17
           clear HO_221002
           clear HO_222002
           clear BK220
           clear BK221
           clear HB
           have HO_15 := n0_
           have HO_17 := n1_
           have HO_221002 := n2_
           have HO_222002 := n3_
           have BK220 := n4_
           have BK221 := n5_
           have HB := n6_
           clear n0_ n1_ n2_ n3_ n4_ n5_ n6_
           have q81 : ((ji32) : Int) ≤ ((t222.length : Int) : Int) := of_decide_eq_true (by first | (with_reducible assumption) | assumption)
           obtain ⟨i081, hi081, _, hsz81, _⟩ := info_parts info5
           have hroom81 : t222.length ≤ co78 := (Kd.R_reads' HO_15.out).2.1
           have hC81 : Kd.C (Kd.int .u8) _ Ao78 t222.length t222 := (Kd.R_reads' HO_15.out).2.2
           have hcut81 := cut_to (P := Try.prog) 30 5 .i64 Try.underlying30 hi081 Ao78 t222.length co78 (ji32) (of_decide_eq_true (by first | (with_reducible assumption) | assumption)) q81 hroom81
           have hr81 := Kd.C_take (m := ((ji32) : Int).toNat) hC81 (by omega)
           have hy81 : y230.length = ((ji32) : Int).toNat := (by rw [Ny230.out, List.length_take]; omega)
           rw [← Ny230.out] at hr81
           rw [← hy81] at hcut81
           have HR233 := Aside0.mk hr81
           have HC233 := Aside0.mk (show y230.length ≤ co78 from by omega)
           clear hr81 hC81 hroom81 hi081 hsz81
           have KY81 := Aside0.mk hy81
           clear hy81
           have KL81 := Aside0.mk (show ((ji32) : Int).toNat ≤ t222.length from by omega)
           replace q81 := eq_true q81
           have q82 : ((ji32) : Int) ≤ ((t226.length : Int) : Int) := of_decide_eq_true (by first | (with_reducible assumption) | assumption)
           obtain ⟨i082, hi082, _, hsz82, _⟩ := info_parts info5
           have hroom82 : t226.length ≤ co79 := (Kd.R_reads' HO_17.out).2.1
           have hC82 : Kd.C (Kd.int .u8) _ Ao79 t226.length t226 := (Kd.R_reads' HO_17.out).2.2
           have hcut82 := cut_to (P := Try.prog) 30 5 .i64 Try.underlying30 hi082 Ao79 t226.length co79 (ji32) (of_decide_eq_true (by first | (with_reducible assumption) | assumption)) q82 hroom82
           have hr82 := Kd.C_take (m := ((ji32) : Int).toNat) hC82 (by omega)
           have hy82 : y234.length = ((ji32) : Int).toNat := (by rw [Ny234.out, List.length_take]; omega)
           rw [← Ny234.out] at hr82
           rw [← hy82] at hcut82
           have HR237 := Aside0.mk hr82
           have HC237 := Aside0.mk (show y234.length ≤ co79 from by omega)
           clear hr82 hC82 hroom82 hi082 hsz82
           have KY82 := Aside0.mk hy82
           clear hy82
           have KL82 := Aside0.mk (show ((ji32) : Int).toNat ≤ t226.length from by omega)
           replace q82 := eq_true q82
           refine start_ (n := 31) (S := fun w' => w'.cell? ⟨gb220, 0, none⟩ = some (.int .i64 t210) ∧ w'.cell? ⟨gb220, 1, none⟩ = some (.int .i64 t211) ∧ w'.cell? ⟨gb220, 2, none⟩ = some (.slice Ao18 t212.length co18) ∧ w'.cell? ⟨gb221, 0, none⟩ = some (.int .i64 t215) ∧ w'.cell? ⟨gb221, 1, none⟩ = some (.int .i64 t216) ∧ w'.cell? ⟨gb221, 2, none⟩ = some (.slice Ao20 t217.length co20) ∧ (convert 30 9 (.slice Ao78 y230.length co78)).run Try.prog w' = .ok (.string (strOfNums y230)) w' ∧ (convert 30 9 (.slice Ao79 y234.length co79)).run Try.prog w' = .ok (.string (strOfNums y234)) w') (ds := []) #[false, false, false, false, false, false, false, false, false, false, false, false, false, false, false, false, false, false, false, false, false, false, false, false, false, false, false, false, false, false, false] (by kernel_rfl) rfl rfl ⟨(blk_cell BK220.out 0).trans rfl, (blk_cell BK220.out 1).trans rfl, (blk_cell BK220.out 2).trans rfl, (blk_cell BK221.out 0).trans rfl, (blk_cell BK221.out 1).trans rfl, (blk_cell BK221.out 2).trans rfl, (Kd.C_string (P := Try.prog) Try.underlying30 Try.underlying5 Try.underlying9 (by repeat (first | (with_reducible exact HR233.out) | (with_reducible refine Kd.C_alloc ?_ _) | (with_reducible refine Kd.C_drewN ?_ _) | (with_reducible refine Kd.C_drew ?_) | exact HR233.out))), (Kd.C_string (P := Try.prog) Try.underlying30 Try.underlying5 Try.underlying9 (by repeat (first | (with_reducible exact HR237.out) | (with_reducible refine Kd.C_alloc ?_ _) | (with_reducible refine Kd.C_drewN ?_ _) | (with_reducible refine Kd.C_drew ?_) | exact HR237.out)))⟩ (fun hHeld => ?_); refine with_tabW marigraphlaw14_RowkeyApart.tab9 marigraphlaw14_RowkeyApart.bits9 (fun HT_ HW_ => ?_)
           generalize wc.drew = w80 at HO_15 HO_17 HO_221002 HO_222002 BK220 BK221 HB HR233 HR237 hHeld ⊢
           have HV83 := HR233
           have HV84 := HR237
           refine pA 0 (some 57) (bA 31 1) HT_.out ?_
           refine pA 1 (some 58) (bA 31 3) HT_.out ?_
           refine pA 2 (some 59) (bA 31 7) HT_.out ?_
           refine pA 4 (some 61) (bA 31 23) HT_.out ?_
           refine pA 5 (some 62) (bA 31 55) HT_.out ?_
           refine pA 6 (some 63) (bA 31 119) HT_.out ?_
           refine take_ (i := 3) (N := some 60) (v := ?_) (a' := ?_) (bA 31 127) rfl rfl (take_ofW HT_.out HW_.out (by kernel_rfl)) (fun _ _ _ h => h) (Or.inl ⟨by rfl, ?_⟩) hHeld ?_ ?_
           rotate_left
           ·rintro w' ⟨s0, s1, s2, s3, s4, s5, s6, s7⟩
            go_simp
            with_reducible rfl
           rotate_left
           ·simp only [Act.put, List.setIfInBounds_toArray, List.set_cons_zero, List.set_cons_succ, i64_w, i32_w]
            rfl
           refine take_ (i := 7) (N := some 64) (v := ?_) (a' := ?_) (bA 31 255) rfl rfl (take_ofW HT_.out HW_.out (by kernel_rfl)) (fun _ _ _ h => h) (Or.inl ⟨by rfl, ?_⟩) hHeld ?_ ?_
           rotate_left
           ·rintro w' ⟨s0, s1, s2, s3, s4, s5, s6, s7⟩
            go_simp
            with_reducible rfl
           rotate_left
           ·simp only [Act.put, List.setIfInBounds_toArray, List.set_cons_zero, List.set_cons_succ, i64_w, i32_w]
            rfl
           refine pA 8 (some 65) (bA 31 511) HT_.out ?_
           refine take_ (i := 9) (N := some 66) (v := ?_) (a' := ?_) (bA 31 1023) rfl rfl (take_ofW HT_.out HW_.out (by kernel_rfl)) (fun _ _ _ h => h) (Or.inl ⟨by rfl, ?_⟩) hHeld ?_ ?_
           rotate_left
           ·rintro w' ⟨s0, s1, s2, s3, s4, s5, s6, s7⟩
            go_simp
            with_reducible rfl
           rotate_left
           ·simp only [Act.put, List.setIfInBounds_toArray, List.set_cons_zero, List.set_cons_succ, i64_w, i32_w]
            rfl
           refine take_ (i := 10) (N := some 67) (v := ?_) (a' := ?_) (bA 31 2047) rfl rfl (take_ofW HT_.out HW_.out (by kernel_rfl)) (fun _ _ _ h => h) (Or.inl ⟨by rfl, ?_⟩) hHeld ?_ ?_
           rotate_left
           ·rintro w' ⟨s0, s1, s2, s3, s4, s5, s6, s7⟩
            go_simp
            with_reducible rfl
           rotate_left
           ·simp only [Act.put, List.setIfInBounds_toArray, List.set_cons_zero, List.set_cons_succ, i64_w, i32_w]
            rfl
           refine one_ (i := 11) (N := some 68) (bA 31 4095) rfl rfl (one_of HT_.out (by kernel_rfl)) (by decide) (fun K hK => ?_)
           refine goes_ Try.func33 (by kernel_rfl) rfl #[.agg #[.int .i64 t210, .int .i64 t211, .slice Ao18 t212.length co18], .agg #[.int .i64 t215, .int .i64 t216, .slice Ao20 t217.length co20]] (by rfl) rfl rfl argN ?_
           with_reducible refine (rowkey_Same.calls kj25 t210 t211 _ _ t212 t215 t216 _ _ t217 t238 _ ?side1 ?side2 ?side3 ?side4 A37.out).mono ?_
           (case side1 => repeat (first | exact (Kd.R_reads' HO_221002.out).2.2 | (with_reducible refine Kd.C_alloc ?_ _) | (with_reducible refine Kd.C_drewN ?_ _) | (with_reducible refine Kd.C_drew ?_)))
           (case side2 => exact (Kd.R_reads' HO_221002.out).2.1)
           (case side3 => repeat (first | exact (Kd.R_reads' HO_222002.out).2.2 | (with_reducible refine Kd.C_alloc ?_ _) | (with_reducible refine Kd.C_drewN ?_ _) | (with_reducible refine Kd.C_drew ?_)))
           (case side4 => exact (Kd.R_reads' HO_222002.out).2.1)
           rintro e w85 ⟨rfl, hb⟩
           have HV83 := Aside0.mk (cbN HV83.out hb)
           have HV84 := Aside0.mk (cbN HV84.out hb)
           refine ⟨_, rfl, ?_⟩
           have n0_ := Aside0.mk (Kd.R_below (rowN HO_15.out) hb)
           have n1_ := Aside0.mk (Kd.R_below (rowN HO_17.out) hb)
           have n2_ := Aside0.mk (Kd.R_below (rowN HO_221002.out) hb)
           have n3_ := Aside0.mk (Kd.R_below (rowN HO_222002.out) hb)
           have n4_ := Aside0.mk (bkB BK220.out hb)
           have n5_ := Aside0.mk (bkB BK221.out hb)
           have n6_ := Aside0.mk (cbN HR233.out hb)
           have n7_ := Aside0.mk (cbN HR237.out hb)
           have n8_ := Aside0.mk (below_step (belS HB.out) hb)
           clear HO_15
           clear HO_17
           clear HO_221002
           clear HO_222002
           clear BK220
           clear BK221
           clear HR233
           clear HR237
           clear HB
           have HO_15 := n0_
           have HO_17 := n1_
           have HO_221002 := n2_
           have HO_222002 := n3_
           have BK220 := n4_
           have BK221 := n5_
           have HR233 := n6_
           have HR237 := n7_
           have HB := n8_
           clear n0_ n1_ n2_ n3_ n4_ n5_ n6_ n7_ n8_
           (try clear hb)
           (try clear hk)
           refine hK.out _ _ ⟨(blk_cell BK220.out 0).trans rfl, (blk_cell BK220.out 1).trans rfl, (blk_cell BK220.out 2).trans rfl, (blk_cell BK221.out 0).trans rfl, (blk_cell BK221.out 1).trans rfl, (blk_cell BK221.out 2).trans rfl, (Kd.C_string (P := Try.prog) Try.underlying30 Try.underlying5 Try.underlying9 (by repeat (first | (with_reducible exact HV83.out) | (with_reducible refine Kd.C_alloc ?_ _) | (with_reducible refine Kd.C_drewN ?_ _) | (with_reducible refine Kd.C_drew ?_) | exact HV83.out))), (Kd.C_string (P := Try.prog) Try.underlying30 Try.underlying5 Try.underlying9 (by repeat (first | (with_reducible exact HV84.out) | (with_reducible refine Kd.C_alloc ?_ _) | (with_reducible refine Kd.C_drewN ?_ _) | (with_reducible refine Kd.C_drew ?_) | exact HV84.out)))⟩ (fun hHeld => ?_)
           clear hK K
           refine norm_ (a' := ?_) ?_ ?_
           rotate_left
           ·show Act.put _ (some 68) _ = _
            simp only [Act.put, List.setIfInBounds_toArray, List.set_cons_zero, List.set_cons_succ, i64_w, i32_w]
            rfl
           refine pA 12 (some 69) (bA 31 8191) HT_.out ?_
           refine pA 13 (some 70) (bA 31 16383) HT_.out ?_
           refine pU 14 (some 71) (bA 31 32767) HT_.out ?_
           refine pU 15 (some 72) (bA 31 65535) HT_.out ?_
           refine pU 16 (some 73) (bA 31 131071) HT_.out ?_
           refine pU 17 (some 74) (bA 31 262143) HT_.out ?_
           refine pU 18 (some 75) (bA 31 524287) HT_.out ?_
           refine pU 19 (some 76) (bA 31 1048575) HT_.out ?_
           refine pU 20 (some 77) (bA 31 2097151) HT_.out ?_
           refine pA 21 (some 78) (bA 31 4194303) HT_.out ?_
           refine pA 22 (some 79) (bA 31 8388607) HT_.out ?_
           refine pU 23 (some 80) (bA 31 16777215) HT_.out ?_
           refine pU 24 (some 81) (bA 31 33554431) HT_.out ?_
           refine pU 25 (some 82) (bA 31 67108863) HT_.out ?_
           refine pA 26 (some 83) (bA 31 134217727) HT_.out ?_
           refine pA 27 (some 84) (bA 31 268435455) HT_.out ?_
           refine pU 28 (some 85) (bA 31 536870911) HT_.out ?_
           refine pA 29 (some 86) (bA 31 1073741823) HT_.out ?_
           refine pA 30 (some 12) (bA 31 2147483647) HT_.out ?_
           refine done_ (done_of HT_.out (by kernel_rfl)) ?_
           try go_wp2
           go_ret
           exact ⟨by first | rfl | (simp [errW_none, errW_some] <;> rfl) | (simp only [← hji32]; first | rfl | (simp [errW_none, errW_some] <;> rfl)) | (simp [*, errW_none, errW_some] <;> rfl), (belS HB.out)⟩
         ·rw [if_neg c36] at H
          exact absurd H (by simp)
        ·rw [if_neg c34] at H
         exact absurd H (by simp)
       ·rw [if_neg c33] at H
        exact absurd H (by simp)

/-- THE ONE PURE STATEMENT of marigraphlaw14_RowkeyApart: yours. -/
def marigraphlaw14_RowkeyApart.Pure : Prop := ∀ (a0 : Int) (a1 : Int) (a2 : Int) (a3 : Int) (l4 : List Int) (l5 : List Int), (Lit.int .i64 a0).wf = true → (Lit.int .i64 a1).wf = true → (Lit.int .i64 a2).wf = true → (Lit.int .i64 a3).wf = true → l4.length ≤ maxLen → l4.length * 8 ≤ 140737488351232 → (∀ x ∈ l4, (Lit.int .i64 x).wf = true) → l5.length ≤ maxLen → l5.length * 8 ≤ 140737488351232 → (∀ x ∈ l5, (Lit.int .i64 x).wf = true) → ∃ k, marigraphlaw14_RowkeyApart.f k a0 a1 a2 a3 l4 l5 = some true
theorem marigraphlaw14_RowkeyApart.walk (P : marigraphlaw14_RowkeyApart.Pure) (a0 : Int) (a1 : Int) (a2 : Int) (a3 : Int) (a4 : Option Addr) (len4 cap4 : Nat) (z4 : List Int) (a5 : Option Addr) (len5 cap5 : Nat) (z5 : List Int) (w : World) (w0 : (Lit.int .i64 a0).wf = true) (w1 : (Lit.int .i64 a1).wf = true) (w2 : (Lit.int .i64 a2).wf = true) (w3 : (Lit.int .i64 a3).wf = true) (w4 : (a4 = none ∧ len4 = 0 ∧ cap4 = 0 ∧ z4 = []) ∨ ∃ x, a4 = some x ∧ len4 ≤ cap4 ∧ cap4 ≤ maxLen ∧ z4.length = cap4 ∧ (∀ i, i < z4.length → w.cell? (x.add i) = some (.int .i64 (z4.getD i 0))) ∧ ∀ n ∈ z4, (Lit.int .i64 n).wf = true) (y4 : len4 * 8 ≤ 140737488351232) (w5 : (a5 = none ∧ len5 = 0 ∧ cap5 = 0 ∧ z5 = []) ∨ ∃ x, a5 = some x ∧ len5 ≤ cap5 ∧ cap5 ≤ maxLen ∧ z5.length = cap5 ∧ (∀ i, i < z5.length → w.cell? (x.add i) = some (.int .i64 (z5.getD i 0))) ∧ ∀ n ∈ z5, (Lit.int .i64 n).wf = true) (y5 : len5 * 8 ≤ 140737488351232) :
  Calls Try.prog 10 #[.int .i64 a0, .int .i64 a1, .int .i64 a2, .int .i64 a3, .slice a4 len4 cap4, .slice a5 len5 cap5] w fun e w' => e = .returned (.bool true) ∧ Below w.heap.size w w' := by
 obtain ⟨l4, rfl, hr4, hm4, hw4, hc4⟩ := ReadsInt.ofRowC w4
 obtain ⟨l5, rfl, hr5, hm5, hw5, hc5⟩ := ReadsInt.ofRowC w5
 obtain ⟨k, h⟩ := P a0 a1 a2 a3 l4 l5 w0 w1 w2 w3 hm4 y4 hw4 hm5 y5 hw5
 refine (marigraphlaw14_RowkeyApart.calls k a0 a1 a2 a3 _ _ l4 _ _ l5 true w (Kd.C_of_reads (d := (0 : Int)) (h1 := fun _ => rfl) hr4) hc4 (Kd.C_of_reads (d := (0 : Int)) (h1 := fun _ => rfl) hr5) hc5 h).mono ?_
 rintro e w' ⟨rfl, hd⟩
 exact ⟨rfl, hd⟩

end Go.Proofs.Ytjafaojmbapkbaa.PRowkeyApart

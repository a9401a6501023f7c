/- The walk of the Go functions that a law reaches, told as plain functions; a program of this session has written it. No condition beyond the statement's own. -/
import Derived.Test.YtjafaojmbapkbaaPRowkeyBackx0
import Derived.Test.YtjafaojmbapkbaaPRowkeyBackx2
import Derived.Test.YtjafaojmbapkbaaPRowkeyBackx4
import Derived.Test.YtjafaojmbapkbaaPRowkeyBackx5
namespace Go.Proofs.Ytjafaojmbapkbaa.PRowkeyBack
open Go.RowKit Go.Proofs.YtjafaojmbapkbaaW.PrintWords Go.Proofs.YtjafaojmbapkbaaW.PrintLast Go.Proofs.YtjafaojmbapkbaaW.PrintMore
attribute [local go_sem] max2_int min2_int max_two min_two max_three min_three max_four min_four   -- for this text's walks alone
set_option linter.unusedVariables false
set_option linter.unusedSimpArgs false

/-! ### marigraphlaw14_RowkeyBack: function 9 -/
mutual
def marigraphlaw14_RowkeyBack.j0 : Nat → List Int → List Int → List Int → Bool → Int → Int → List (S53) → Int → Int → List (S53) → Option (Bool)
 | 0, _, _, _, _, _, _, _, _, _, _ => none
 | k + 1, x4, x13, x15, x43, x224000, x224001, x224002, x225000, x225001, x225002 => if x43 = true then (some false) else (if (x13.length : Int) = 0 then (marigraphlaw14_RowkeyBack.j1 k x4 x13 x15 true x224000 x224001 x224002 x225000 x225001 x225002) else (marigraphlaw14_RowkeyBack.j1 k x4 x13 x15 ((x15.length : Int) == 0) x224000 x224001 x224002 x225000 x225001 x225002))
def marigraphlaw14_RowkeyBack.j1 : Nat → List Int → List Int → List Int → Bool → Int → Int → List (S53) → Int → Int → List (S53) → Option (Bool)
 | 0, _, _, _, _, _, _, _, _, _, _ => none
 | k + 1, x4, x13, x15, x51, x224000, x224001, x224002, x225000, x225001, x225002 => if x51 = true then (some false) else ((some (([] : List Int) : List Int)).bind fun y233 => (if y233.length + x13.length < 140737488355328 then ((some (y233 ++ x13 : List Int)).bind fun y236 => (if y236.length + (cutI x4 20).length < 140737488355328 then ((rowkey_Decode.f k (y236 ++ (cutI x4 20))).bind fun bt243 => (if bt243.2.2.2.2 = 0 then (if bt243.2.2.2.1 = (x13.length : Int) then ((rowkey_Same.f k bt243.1 bt243.2.1 bt243.2.2.1 x224000 x224001 x224002).bind fun t251 => (if t251 = true then (if 0 < (x13.length : Int) then (if 0 < (x15.length : Int) then (if (rd x13 0) = (rd x15 0) then (if ((Op.bytesLess ((strOfNums x13).toList) ((strOfNums x15).toList)) == (decide (x224001 < x225001))) = true then (if (((strOfNums x13).toList == (strOfNums x15).toList) == (x224001 == x225001)) = true then ((marigraphlaw14_known.f k).bind fun t254 => (some t254)) else (some false)) else (some false)) else (if (((strOfNums x13).toList == (strOfNums x15).toList) == (x224001 == x225001)) = true then ((marigraphlaw14_known.f k).bind fun t255 => (some t255)) else (some false))) else (none)) else (none)) else (some false))) else (some false)) else (some false))) else (none))) else (none)))
end
def marigraphlaw14_RowkeyBack.f (k : Nat) (a0 : Int) (a1 : Int) (a2 : Int) (l3 : List Int) (l4 : List Int) : Option (Bool) := (marigraphlaw14_made.f k a0 a1 l3).bind fun bt213 => ((marigraphlaw14_made.f k a0 a2 l3).bind fun bt218 => ((rowkey_Encode.f k bt213.1 bt213.2.1 bt213.2.2).bind fun bt225 => ((rowkey_Encode.f k bt218.1 bt218.2.1 bt218.2.2).bind fun bt229 => (if bt225.2 = 0 then (marigraphlaw14_RowkeyBack.j0 k l4 bt225.1 bt229.1 (bt229.2 != 0) bt213.1 bt213.2.1 bt213.2.2 bt218.1 bt218.2.1 bt218.2.2) else (marigraphlaw14_RowkeyBack.j0 k l4 bt225.1 bt229.1 true bt213.1 bt213.2.1 bt213.2.2 bt218.1 bt218.2.1 bt218.2.2)))))
theorem marigraphlaw14_RowkeyBack.mono_l : ∀ k, (∀ y0 y1 y2 y3 y4 y5 y6 y7 y8 y9, LeO (marigraphlaw14_RowkeyBack.j0 k y0 y1 y2 y3 y4 y5 y6 y7 y8 y9) (marigraphlaw14_RowkeyBack.j0 (k + 1) y0 y1 y2 y3 y4 y5 y6 y7 y8 y9)) ∧ (∀ y0 y1 y2 y3 y4 y5 y6 y7 y8 y9, LeO (marigraphlaw14_RowkeyBack.j1 k y0 y1 y2 y3 y4 y5 y6 y7 y8 y9) (marigraphlaw14_RowkeyBack.j1 (k + 1) y0 y1 y2 y3 y4 y5 y6 y7 y8 y9))
 | 0 => ⟨fun _ _ _ _ _ _ _ _ _ _ r h => by simp [marigraphlaw14_RowkeyBack.j0] at h, fun _ _ _ _ _ _ _ _ _ _ r h => by simp [marigraphlaw14_RowkeyBack.j1] at h⟩
 | k + 1 => by
  obtain ⟨ih0, ih1⟩ := marigraphlaw14_RowkeyBack.mono_l k
  refine ⟨?_, ?_⟩
  ·intro y0 y1 y2 y3 y4 y5 y6 y7 y8 y9
   unfold marigraphlaw14_RowkeyBack.j0
   repeat' first
   | (with_reducible exact ih0 _ _ _ _ _ _ _ _ _ _)
   | (with_reducible exact ih1 _ _ _ _ _ _ _ _ _ _)
   | (with_reducible exact marigraphlaw14_known.mono _)
   | (with_reducible exact marigraphlaw14_made.mono _ _ _ _)
   | (with_reducible exact rowkey_Decode.mono _ _)
   | (with_reducible exact rowkey_Encode.mono _ _ _ _)
   | (with_reducible exact rowkey_Same.mono _ _ _ _ _ _ _)
   | (with_reducible exact LeO.refl _)
   | (with_reducible exact LeO.none _)
   | (with_reducible refine LeO.ite ?_ ?_)
   | (with_reducible refine LeO.bind ?_ (fun _ => ?_))
   | exact ih0 _ _ _ _ _ _ _ _ _ _
   | exact ih1 _ _ _ _ _ _ _ _ _ _
   | exact marigraphlaw14_known.mono _
   | exact marigraphlaw14_made.mono _ _ _ _
   | exact rowkey_Decode.mono _ _
   | exact rowkey_Encode.mono _ _ _ _
   | exact rowkey_Same.mono _ _ _ _ _ _ _
   | exact LeO.none _
   | refine LeO.ite ?_ ?_
   | refine LeO.bind ?_ (fun _ => ?_)
  ·intro y0 y1 y2 y3 y4 y5 y6 y7 y8 y9
   unfold marigraphlaw14_RowkeyBack.j1
   repeat' first
   | (with_reducible exact ih0 _ _ _ _ _ _ _ _ _ _)
   | (with_reducible exact ih1 _ _ _ _ _ _ _ _ _ _)
   | (with_reducible exact marigraphlaw14_known.mono _)
   | (with_reducible exact marigraphlaw14_made.mono _ _ _ _)
   | (with_reducible exact rowkey_Decode.mono _ _)
   | (with_reducible exact rowkey_Encode.mono _ _ _ _)
   | (with_reducible exact rowkey_Same.mono _ _ _ _ _ _ _)
   | (with_reducible exact LeO.refl _)
   | (with_reducible exact LeO.none _)
   | (with_reducible refine LeO.ite ?_ ?_)
   | (with_reducible refine LeO.bind ?_ (fun _ => ?_))
   | exact ih0 _ _ _ _ _ _ _ _ _ _
   | exact ih1 _ _ _ _ _ _ _ _ _ _
   | exact marigraphlaw14_known.mono _
   | exact marigraphlaw14_made.mono _ _ _ _
   | exact rowkey_Decode.mono _ _
   | exact rowkey_Encode.mono _ _ _ _
   | exact rowkey_Same.mono _ _ _ _ _ _ _
   | exact LeO.none _
   | refine LeO.ite ?_ ?_
   | refine LeO.bind ?_ (fun _ => ?_)
theorem marigraphlaw14_RowkeyBack.mono : ∀ a0 a1 a2 a3 a4 k, LeO (marigraphlaw14_RowkeyBack.f k a0 a1 a2 a3 a4) (marigraphlaw14_RowkeyBack.f (k + 1) a0 a1 a2 a3 a4) := by
 intro a0 a1 a2 a3 a4 k
 obtain ⟨ih0, ih1⟩ := marigraphlaw14_RowkeyBack.mono_l k
 unfold marigraphlaw14_RowkeyBack.f
 repeat' first
   | (with_reducible exact ih0 _ _ _ _ _ _ _ _ _ _)
   | (with_reducible exact ih1 _ _ _ _ _ _ _ _ _ _)
   | (with_reducible exact marigraphlaw14_known.mono _)
   | (with_reducible exact marigraphlaw14_made.mono _ _ _ _)
   | (with_reducible exact rowkey_Decode.mono _ _)
   | (with_reducible exact rowkey_Encode.mono _ _ _ _)
   | (with_reducible exact rowkey_Same.mono _ _ _ _ _ _ _)
   | (with_reducible exact LeO.refl _)
   | (with_reducible exact LeO.none _)
   | (with_reducible refine LeO.ite ?_ ?_)
   | (with_reducible refine LeO.bind ?_ (fun _ => ?_))
   | exact ih0 _ _ _ _ _ _ _ _ _ _
   | exact ih1 _ _ _ _ _ _ _ _ _ _
   | exact marigraphlaw14_known.mono _
   | exact marigraphlaw14_made.mono _ _ _ _
   | exact rowkey_Decode.mono _ _
   | exact rowkey_Encode.mono _ _ _ _
   | exact rowkey_Same.mono _ _ _ _ _ _ _
   | exact LeO.none _
   | refine LeO.ite ?_ ?_
   | refine LeO.bind ?_ (fun _ => ?_)
def marigraphlaw14_RowkeyBack.T11 : Bool × List (List Nat × List Nat) := (true, [([], []), ([0], [0]), ([1], [1]), ([], []), ([3], [3]), ([4], [4]), ([2, 5], [2, 5]), ([6], [6]), ([7], [7]), ([8, 7], [7, 8]), ([7], [7]), ([10, 7], [7, 10]), ([9, 11, 7], [7, 9, 11]), ([7], [7]), ([13, 7], [7, 13]), ([7], [7]), ([15, 7], [7, 15]), ([14, 16, 7], [7, 14, 16]), ([12, 17, 7], [7, 12, 17]), ([7, 18], [7, 18]), ([19, 7], [19]), ([20], [20]), ([21, 20], [20, 21]), ([20], [20]), ([23, 20], [20, 23]), ([22, 24, 20], [20, 22, 24]), ([20], [20]), ([26, 20], [20, 26]), ([20], [20]), ([28, 20], [20, 28]), ([27, 29, 20], [20, 27, 29]), ([25, 30, 20], [20, 25, 30]), ([20, 31], [20, 31]), ([32, 20], [32]), ([33, 33], [33]), ([33, 34], [33, 34]), ([35, 34, 0, 1, 2, 3, 4, 5, 6, 7, 8, 9, 10, 11, 12, 13, 14, 15, 16, 17, 18, 19, 20, 21, 22, 23, 24, 25, 26, 27, 28, 29, 30, 31, 32, 33, 34, 35], [35])])
def marigraphlaw14_RowkeyBack.B11 : List Nat := [0, 1, 3, 0, 8, 24, 63, 127, 255, 511, 255, 1279, 4095, 255, 8447, 255, 33023, 123135, 262143, 524287, 1048575, 2097151, 4194303, 2097151, 10485759, 33554431, 2097151, 69206015, 2097151, 270532607, 1008730111, 2147483647, 4294967295, 8589934591, 17179869183, 34359738367, 68719476735]
theorem marigraphlaw14_RowkeyBack.tab11 : rtab .any (opsOf Try.f9 11) = marigraphlaw14_RowkeyBack.T11 := by kernel_rfl
theorem marigraphlaw14_RowkeyBack.bits11 : waitsOk marigraphlaw14_RowkeyBack.T11.2 marigraphlaw14_RowkeyBack.B11 = true := by kernel_rfl
set_option maxHeartbeats 8000000 in
set_option maxRecDepth 100000 in
theorem marigraphlaw14_RowkeyBack.calls (k : Nat) (a0 : Int) (a1 : Int) (a2 : Int) (A3 : Option Addr) (c3 : Nat) (l3 : List Int) (A4 : Option Addr) (c4 : Nat) (l4 : List Int) (r : Bool) (w : World) (hr3 : Kd.C (Kd.int .i64) w A3 l3.length l3) (hc3 : l3.length ≤ c3) (hr4 : Kd.C (Kd.int .u8) w A4 l4.length l4) (hc4 : l4.length ≤ c4) (h : marigraphlaw14_RowkeyBack.f k a0 a1 a2 l3 l4 = some r) :
  Calls Try.prog 9 #[.int .i64 a0, .int .i64 a1, .int .i64 a2, .slice A3 l3.length c3, .slice A4 l4.length c4] w fun e w' => e = .returned (.bool r) ∧ Below w.heap.size w w' := by
 have hu56 := Try.underlying56
 have HR3 := Aside0.mk hr3
 have HC3 := Aside0.mk hc3
 clear hr3 hc3
 have HR4 := Aside0.mk hr4
 have HC4 := Aside0.mk hc4
 clear hr4 hc4
 have HB := Aside0.mk (Below.refl w.heap.size w)
 have H : ((marigraphlaw14_made.f k a0 a1 l3).bind fun bt213 => ((marigraphlaw14_made.f k a0 a2 l3).bind fun bt218 => ((rowkey_Encode.f k bt213.1 bt213.2.1 bt213.2.2).bind fun bt225 => ((rowkey_Encode.f k bt218.1 bt218.2.1 bt218.2.2).bind fun bt229 => (if bt225.2 = 0 then (marigraphlaw14_RowkeyBack.j0 k l4 bt225.1 bt229.1 (bt229.2 != 0) bt213.1 bt213.2.1 bt213.2.2 bt218.1 bt218.2.1 bt218.2.2) else (marigraphlaw14_RowkeyBack.j0 k l4 bt225.1 bt229.1 true bt213.1 bt213.2.1 bt213.2.2 bt218.1 bt218.2.1 bt218.2.2)))))) = some r := h
 clear h
 replace H := Option.bind_eq_some_iff.mp H
 obtain ⟨⟨t213, t214, t215⟩, A60, H⟩ := H
 replace H : ((marigraphlaw14_made.f k a0 a2 l3).bind fun bt218 => ((rowkey_Encode.f k t213 t214 t215).bind fun bt225 => ((rowkey_Encode.f k bt218.1 bt218.2.1 bt218.2.2).bind fun bt229 => (if bt225.2 = 0 then (marigraphlaw14_RowkeyBack.j0 k l4 bt225.1 bt229.1 (bt229.2 != 0) t213 t214 t215 bt218.1 bt218.2.1 bt218.2.2) else (marigraphlaw14_RowkeyBack.j0 k l4 bt225.1 bt229.1 true t213 t214 t215 bt218.1 bt218.2.1 bt218.2.2))))) = some r := H
 have A6 := Aside0.mk A60
 clear A60
 replace H := Option.bind_eq_some_iff.mp H
 obtain ⟨⟨t218, t219, t220⟩, A70, H⟩ := H
 replace H : ((rowkey_Encode.f k t213 t214 t215).bind fun bt225 => ((rowkey_Encode.f k t218 t219 t220).bind fun bt229 => (if bt225.2 = 0 then (marigraphlaw14_RowkeyBack.j0 k l4 bt225.1 bt229.1 (bt229.2 != 0) t213 t214 t215 t218 t219 t220) else (marigraphlaw14_RowkeyBack.j0 k l4 bt225.1 bt229.1 true t213 t214 t215 t218 t219 t220)))) = some r := H
 have A7 := Aside0.mk A70
 clear A70
 replace H := Option.bind_eq_some_iff.mp H
 obtain ⟨⟨t225, t228⟩, A80, H⟩ := H
 replace H : ((rowkey_Encode.f k t218 t219 t220).bind fun bt229 => (if t228 = 0 then (marigraphlaw14_RowkeyBack.j0 k l4 t225 bt229.1 (bt229.2 != 0) t213 t214 t215 t218 t219 t220) else (marigraphlaw14_RowkeyBack.j0 k l4 t225 bt229.1 true t213 t214 t215 t218 t219 t220))) = some r := H
 have A8 := Aside0.mk A80
 clear A80
 replace H := Option.bind_eq_some_iff.mp H
 obtain ⟨⟨t229, t232⟩, A90, H⟩ := H
 replace H : (if t228 = 0 then (marigraphlaw14_RowkeyBack.j0 k l4 t225 t229 (t232 != 0) t213 t214 t215 t218 t219 t220) else (marigraphlaw14_RowkeyBack.j0 k l4 t225 t229 true t213 t214 t215 t218 t219 t220)) = some r := H
 have A9 := Aside0.mk A90
 clear A90
 have HC10 := Aside0.mk H
 clear H
 go_enter Try.func9, Try.ntmps9
 go_upto_region 4 with (first | ((with_reducible refine gate_callee (f := 39) rfl ?_); refine goesL_ (some 23) rfl rfl Try.func39 (by kernel_rfl) rfl #[.int .i64 a0, .int .i64 a1, .slice A3 l3.length c3] rfl argN ?_; (with_reducible refine (marigraphlaw14_made.calls k a0 a1 _ _ l3 t213 t214 t215 _ ?side1 ?side2 A6.out).mono ?_); (case side1 => repeat (first | exact HR3.out | (with_reducible refine Kd.C_alloc ?_ _) | (with_reducible refine Kd.C_drewN ?_ _) | (with_reducible refine Kd.C_drew ?_))); (case side2 => exact HC3.out); rintro e w11 ⟨v216, rfl, ho0, hb⟩; refine ⟨_, rfl, ?_⟩; have n0_ := Aside0.mk (Kd.R_lower ho0 (below_size (belN HB.out))); have n1_ := Aside0.mk (below_step (belN HB.out) hb); clear HB; have HO217 := n0_; have HB := n1_; clear n0_ n1_; (try clear hb); (try clear hk); (try clear ho0)) | ((with_reducible refine gate_callee (f := 39) rfl ?_); refine goesL_ (some 27) rfl rfl Try.func39 (by kernel_rfl) rfl #[.int .i64 a0, .int .i64 a2, .slice A3 l3.length c3] rfl argN ?_; (with_reducible refine (marigraphlaw14_made.calls k a0 a2 _ _ l3 t218 t219 t220 _ ?side1 ?side2 A7.out).mono ?_); (case side1 => repeat (first | exact (Kd.C_below HR3.out HB.out) | (with_reducible refine Kd.C_alloc ?_ _) | (with_reducible refine Kd.C_drewN ?_ _) | (with_reducible refine Kd.C_drew ?_))); (case side2 => exact HC3.out); rintro e w12 ⟨v221, rfl, ho0, hb⟩; refine ⟨_, rfl, ?_⟩; have n0_ := Aside0.mk (Kd.R_elder' (rowN HO217.out) (Kd.R_base ho0) hb); have n1_ := Aside0.mk (Kd.R_lower (Kd.R_new' ho0 (Kd.R_lt (rowN HO217.out))) (below_size (belN HB.out))); have n2_ := Aside0.mk (below_step (belN HB.out) hb); clear HO217; clear HB; have HO217 := n0_; have HO222 := n1_; have HB := n2_; clear n0_ n1_ n2_; (try clear hb); (try clear hk); (try clear ho0)) | ((with_reducible refine gate_dst (N := 11) rfl ?_); (try (refine gate_guard (by rfl) ?_; dsimp only)); refine box_event ?hg (N := 11) ?hd (cs := #[.int .i64 0, .int .i64 0, .slice none 0 0]) (t := 56) ?hr ?_; (case hd => rfl); (case hg => rfl); (case hr => first | (go_simp; done) | (go_simp; rfl)); intro gb223 hg w13 hbox hb; have n0_ := Aside0.mk (Kd.R_below (rowN HO217.out) hb); have n1_ := Aside0.mk (Kd.R_below (rowN HO222.out) hb); have n2_ := Aside0.mk (below_step (belN HB.out) hb); have n3_ := Aside0.mk (hbox); have n4_ := Aside0.mk (szB hg HB.out); have n5_ := Aside0.mk (szB hg HB.out); clear HO217; clear HO222; clear HB; have HO217 := n0_; have HO222 := n1_; have HB := n2_; have BK223 := n3_; have GW223 := n4_; have GE223 := n5_; clear n0_ n1_ n2_ n3_ n4_ n5_; clear hb hbox hg) | ((with_reducible refine gate_dst (N := 12) rfl ?_); (try (refine gate_guard (by rfl) ?_; dsimp only)); refine box_event ?hg (N := 12) ?hd (cs := #[.int .i64 0, .int .i64 0, .slice none 0 0]) (t := 56) ?hr ?_; (case hd => rfl); (case hg => rfl); (case hr => first | (go_simp; done) | (go_simp; rfl)); intro gb224 hg w14 hbox hb; have n0_ := Aside0.mk (Kd.R_below (rowN HO217.out) hb); have n1_ := Aside0.mk (Kd.R_below (rowN HO222.out) hb); have n2_ := Aside0.mk (bkB BK223.out hb); have n3_ := Aside0.mk (below_step (belS HB.out) hb); have n4_ := Aside0.mk (hbox); have n5_ := Aside0.mk (szB hg HB.out); have n6_ := Aside0.mk (szB hg HB.out); have n7_ := Aside0.mk ((bk1 hg BK223.out)); have n8_ := Aside0.mk ((bk2 hg BK223.out)); clear HO217; clear HO222; clear BK223; clear HB; have HO217 := n0_; have HO222 := n1_; have BK223 := n2_; have HB := n3_; have BK224 := n4_; have GW224 := n5_; have GE224 := n6_; have NB223_224 := n7_; have NB224_223 := n8_; clear n0_ n1_ n2_ n3_ n4_ n5_ n6_ n7_ n8_; clear hb hbox hg; have hnb15 := NB223_224.out; have hnc15 := NB224_223.out; have hcz16_0 : w14.cell? ⟨gb223, 0, none⟩ = some (.int .i64 0) := (blk_cell BK223.out 0).trans rfl; have hcz16_1 : w14.cell? ⟨gb223, 1, none⟩ = some (.int .i64 0) := (blk_cell BK223.out 1).trans rfl; have hcz16_2 : w14.cell? ⟨gb223, 2, none⟩ = some (.slice none 0 0) := (blk_cell BK223.out 2).trans rfl; have hfz16_0 := blk_frozen BK223.out 0; have hfz16_1 := blk_frozen BK223.out 1; have hfz16_2 := blk_frozen BK223.out 2; obtain ⟨Ao17, co17, eo17⟩ := Kd.R_slice HO217.out; subst eo17; have hcz18_0 : w14.cell? ⟨gb224, 0, none⟩ = some (.int .i64 0) := (blk_cell BK224.out 0).trans rfl; have hcz18_1 : w14.cell? ⟨gb224, 1, none⟩ = some (.int .i64 0) := (blk_cell BK224.out 1).trans rfl; have hcz18_2 : w14.cell? ⟨gb224, 2, none⟩ = some (.slice none 0 0) := (blk_cell BK224.out 2).trans rfl; have hfz18_0 := blk_frozen BK224.out 0; have hfz18_1 := blk_frozen BK224.out 1; have hfz18_2 := blk_frozen BK224.out 2; obtain ⟨Ao19, co19, eo19⟩ := Kd.R_slice HO222.out; subst eo19) | ((with_reducible refine gate_callee (f := 40) rfl ?_); refine goesL_ (some 30) rfl rfl Try.func40 (by kernel_rfl) rfl #[.agg #[.int .i64 t213, .int .i64 t214, .slice Ao17 t215.length co17]] rfl argN ?_; (with_reducible refine (rowkey_Encode.calls k t213 t214 _ _ t215 t225 t228 _ ?side1 ?side2 A8.out).mono ?_); (case side1 => refine (Kd.R_reads' (e := 53) (base := w.heap.size) (ok := fun k_ => (True ∧ some k_ ≠ (.slice Ao19 t220.length co19 : Value).ownBlock)) (n := t215.length) (c := co17) ?_).2.2; exact (by (with_reducible repeat (first | apply Kd.R_alloc | apply Kd.R_drewN | apply Kd.R_drew)); exact (Kd.R_mono (Kd.R_mono (Kd.R_far (p := ⟨gb224, 2, none⟩) (Kd.R_far (p := ⟨gb224, 1, none⟩) (Kd.R_far (p := ⟨gb224, 0, none⟩) (Kd.R_far (p := ⟨gb223, 2, none⟩) (Kd.R_far (p := ⟨gb223, 1, none⟩) (Kd.R_far (p := ⟨gb223, 0, none⟩) (Kd.R_types (Kd.R_types HO217.out BK223.out (by decide)) BK224.out (by decide)) (fun _ hk => hk.1.2) (.int .i64 t213)) (fun _ hk => hk.1.2) (.int .i64 t214)) (fun _ hk => hk.1.2) (.slice Ao17 t215.length co17)) (fun _ hk => hk.2) (.int .i64 t218)) (fun _ hk => hk.2) (.int .i64 t219)) (fun _ hk => hk.2) (.slice Ao19 t220.length co19)) (fun _ h_ => h_.1)) (fun _ h_ => h_.1)))); (case side2 => exact (Kd.R_reads' HO217.out).2.1); rintro e w20 ⟨v226, rfl, ho0, hb⟩; refine ⟨_, rfl, ?_⟩; have n0_ := Aside0.mk (Kd.R_below (by (with_reducible repeat (first | apply Kd.R_alloc | apply Kd.R_drewN | apply Kd.R_drew)); exact (Kd.R_mono (Kd.R_mono (Kd.R_far (p := ⟨gb224, 2, none⟩) (Kd.R_far (p := ⟨gb224, 1, none⟩) (Kd.R_far (p := ⟨gb224, 0, none⟩) (Kd.R_far (p := ⟨gb223, 2, none⟩) (Kd.R_far (p := ⟨gb223, 1, none⟩) (Kd.R_far (p := ⟨gb223, 0, none⟩) (Kd.R_types (Kd.R_types HO217.out BK223.out (by decide)) BK224.out (by decide)) (fun _ hk => hk.1.2) (.int .i64 t213)) (fun _ hk => hk.1.2) (.int .i64 t214)) (fun _ hk => hk.1.2) (.slice Ao17 t215.length co17)) (fun _ hk => hk.2) (.int .i64 t218)) (fun _ hk => hk.2) (.int .i64 t219)) (fun _ hk => hk.2) (.slice Ao19 t220.length co19)) (fun _ h_ => h_.1)) (fun _ h_ => h_.1))) hb); have n1_ := Aside0.mk (Kd.R_below (by (with_reducible repeat (first | apply Kd.R_alloc | apply Kd.R_drewN | apply Kd.R_drew)); exact (Kd.R_mono (Kd.R_mono (Kd.R_far (p := ⟨gb224, 2, none⟩) (Kd.R_far (p := ⟨gb224, 1, none⟩) (Kd.R_far (p := ⟨gb224, 0, none⟩) (Kd.R_far (p := ⟨gb223, 2, none⟩) (Kd.R_far (p := ⟨gb223, 1, none⟩) (Kd.R_far (p := ⟨gb223, 0, none⟩) (Kd.R_types (Kd.R_types HO222.out BK223.out (by decide)) BK224.out (by decide)) (fun _ hk => hk.1.2) (.int .i64 t213)) (fun _ hk => hk.1.2) (.int .i64 t214)) (fun _ hk => hk.1.2) (.slice Ao17 t215.length co17)) (fun _ hk => hk.2) (.int .i64 t218)) (fun _ hk => hk.2) (.int .i64 t219)) (fun _ hk => hk.2) (.slice Ao19 t220.length co19)) (fun _ h_ => h_.1)) (fun _ h_ => h_.1))) hb); have n2_ := Aside0.mk (Kd.R_lower ho0 (below_size (belS HB.out))); have n3_ := Aside0.mk (blk_below (g := gb223) (o := .cells #[.int .i64 t213, .int .i64 t214, .slice Ao17 t215.length co17] 56 (0, 0)) (by (with_reducible repeat (first | refine blk_drewN ?_ _ | refine blk_drew ?_ | refine blk_alloc ?_ _)); refine blk_far ?_ NB223_224.out _; (with_reducible repeat (first | refine blk_drewN ?_ _ | refine blk_drew ?_ | refine blk_alloc ?_ _)); refine blk_far ?_ NB223_224.out _; (with_reducible repeat (first | refine blk_drewN ?_ _ | refine blk_drew ?_ | refine blk_alloc ?_ _)); refine blk_far ?_ NB223_224.out _; (with_reducible repeat (first | refine blk_drewN ?_ _ | refine blk_drew ?_ | refine blk_alloc ?_ _)); refine blk_put (cs := #[.int .i64 t213, .int .i64 t214, .slice none 0 0]) ?_ 2 _ rfl; (with_reducible repeat (first | refine blk_drewN ?_ _ | refine blk_drew ?_ | refine blk_alloc ?_ _)); refine blk_put (cs := #[.int .i64 t213, .int .i64 0, .slice none 0 0]) ?_ 1 _ rfl; (with_reducible repeat (first | refine blk_drewN ?_ _ | refine blk_drew ?_ | refine blk_alloc ?_ _)); refine blk_put (cs := #[.int .i64 0, .int .i64 0, .slice none 0 0]) ?_ 0 _ rfl; (with_reducible repeat (first | refine blk_drewN ?_ _ | refine blk_drew ?_ | refine blk_alloc ?_ _)); exact BK223.out) hb); have n4_ := Aside0.mk (blk_below (g := gb224) (o := .cells #[.int .i64 t218, .int .i64 t219, .slice Ao19 t220.length co19] 56 (0, 0)) (by (with_reducible repeat (first | refine blk_drewN ?_ _ | refine blk_drew ?_ | refine blk_alloc ?_ _)); refine blk_put (cs := #[.int .i64 t218, .int .i64 t219, .slice none 0 0]) ?_ 2 _ rfl; (with_reducible repeat (first | refine blk_drewN ?_ _ | refine blk_drew ?_ | refine blk_alloc ?_ _)); refine blk_put (cs := #[.int .i64 t218, .int .i64 0, .slice none 0 0]) ?_ 1 _ rfl; (with_reducible repeat (first | refine blk_drewN ?_ _ | refine blk_drew ?_ | refine blk_alloc ?_ _)); refine blk_put (cs := #[.int .i64 0, .int .i64 0, .slice none 0 0]) ?_ 0 _ rfl; (with_reducible repeat (first | refine blk_drewN ?_ _ | refine blk_drew ?_ | refine blk_alloc ?_ _)); refine blk_far ?_ NB224_223.out _; (with_reducible repeat (first | refine blk_drewN ?_ _ | refine blk_drew ?_ | refine blk_alloc ?_ _)); refine blk_far ?_ NB224_223.out _; (with_reducible repeat (first | refine blk_drewN ?_ _ | refine blk_drew ?_ | refine blk_alloc ?_ _)); refine blk_far ?_ NB224_223.out _; (with_reducible repeat (first | refine blk_drewN ?_ _ | refine blk_drew ?_ | refine blk_alloc ?_ _)); exact BK224.out) hb); have n5_ := Aside0.mk (below_step (belS HB.out) hb); clear HO217; clear HO222; clear BK223; clear BK224; clear HB; have HO217 := n0_; have HO222 := n1_; have HO227 := n2_; have BK223 := n3_; have BK224 := n4_; have HB := n5_; clear n0_ n1_ n2_ n3_ n4_ n5_; (try clear hb); (try clear hk); (try clear ho0); have hcz21_0 : w20.cell? ⟨gb224, 0, none⟩ = some (.int .i64 t218) := (blk_cell BK224.out 0).trans rfl; have hcz21_1 : w20.cell? ⟨gb224, 1, none⟩ = some (.int .i64 t219) := (blk_cell BK224.out 1).trans rfl; have hcz21_2 : w20.cell? ⟨gb224, 2, none⟩ = some (.slice Ao19 t220.length co19) := (blk_cell BK224.out 2).trans rfl; have hfz21_0 := blk_frozen BK224.out 0; have hfz21_1 := blk_frozen BK224.out 1; have hfz21_2 := blk_frozen BK224.out 2) | ((with_reducible refine gate_callee (f := 40) rfl ?_); refine goesL_ (some 35) rfl rfl Try.func40 (by kernel_rfl) rfl #[.agg #[.int .i64 t218, .int .i64 t219, .slice Ao19 t220.length co19]] rfl argN ?_; (with_reducible refine (rowkey_Encode.calls k t218 t219 _ _ t220 t229 t232 _ ?side1 ?side2 A9.out).mono ?_); (case side1 => repeat (first | exact (Kd.R_reads' HO222.out).2.2 | (with_reducible refine Kd.C_alloc ?_ _) | (with_reducible refine Kd.C_drewN ?_ _) | (with_reducible refine Kd.C_drew ?_))); (case side2 => exact (Kd.R_reads' HO222.out).2.1); rintro e w22 ⟨v230, rfl, ho0, hb⟩; refine ⟨_, rfl, ?_⟩; have n0_ := Aside0.mk (Kd.R_below (rowN HO217.out) hb); have n1_ := Aside0.mk (Kd.R_below (rowN HO222.out) hb); have n2_ := Aside0.mk (Kd.R_elder' (rowN HO227.out) (Kd.R_base ho0) hb); have n3_ := Aside0.mk (Kd.R_lower (Kd.R_new' ho0 (Kd.R_lt (rowN HO227.out))) (below_size (belS HB.out))); have n4_ := Aside0.mk (bkB BK223.out hb); have n5_ := Aside0.mk (bkB BK224.out hb); have n6_ := Aside0.mk (below_step (belS HB.out) hb); clear HO217; clear HO222; clear HO227; clear BK223; clear BK224; clear HB; have HO217 := n0_; have HO222 := n1_; have HO227 := n2_; have HO231 := n3_; have BK223 := n4_; have BK224 := n5_; have HB := n6_; clear n0_ n1_ n2_ n3_ n4_ n5_ n6_; (try clear hb); (try clear hk); (try clear ho0)))
 (try simp only [Act.put, List.setIfInBounds_toArray, List.set_cons_zero, List.set_cons_succ])
 go_cut [43] (fun v43 wc => ∃ (kq : Nat) (x43_9 : Bool), v43 = .bool x43_9 ∧ Aside0 (marigraphlaw14_RowkeyBack.j0 kq l4 t225 t229 x43_9 t213 t214 t215 t218 t219 t220 = some r) ∧ Aside0 (kq ≤ k) ∧ Aside0 (Kd.R (Kd.int .u8) 5 wc w.heap.size (fun k_ => some k_ ≠ (v230 : Value).ownBlock) v226 t225) ∧ Aside0 (Kd.R (Kd.int .u8) 5 wc w.heap.size (fun k_ => some k_ ≠ (v226 : Value).ownBlock) v230 t229) ∧ Aside0 (Kd.R k53 53 wc w.heap.size (fun k_ => some k_ ≠ ((.slice Ao19 t220.length co19) : Value).ownBlock) (.slice Ao17 t215.length co17) t215) ∧ Aside0 (Kd.R k53 53 wc w.heap.size (fun k_ => some k_ ≠ ((.slice Ao17 t215.length co17) : Value).ownBlock) (.slice Ao19 t220.length co19) t220) ∧ Aside0 (wc.heap[gb223]? = some (.cells #[.int .i64 t213, .int .i64 t214, (.slice Ao17 t215.length co17)] 56 (0, 0))) ∧ Aside0 (wc.heap[gb224]? = some (.cells #[.int .i64 t218, .int .i64 t219, (.slice Ao19 t220.length co19)] 56 (0, 0))) ∧ Aside0 (Below w.heap.size w wc))
 case first =>
  have H := HC10.out
  clear HC10
  by_cases c23 : t228 = 0
  ·rw [if_pos c23] at H
   have c23b0 : (t228 == 0) = true := beq_iff_eq.mpr c23
   have c23b1 : (t228 != 0) = false := bne_eq_false_iff_eq.mpr c23
   clear c23
   (first | rw [c23b0] | rw [c23b1] | (simp only [i64_w, i32_w]; rw [c23b0]) | skip)
   have H' := Aside0.mk H
   clear H
   go_wp2
   go_meet
   case rel => exact ⟨_, ((t232 != 0)), (by first | rfl | (simp; done) | (simp [*]; done)), H', ⟨by first | omega | exact Nat.le_refl _⟩, ⟨by (with_reducible repeat (first | apply Kd.R_alloc | apply Kd.R_drewN | apply Kd.R_drew)); exact Kd.R_mono HO227.out (fun _ hk => hk.2)⟩, ⟨by (with_reducible repeat (first | apply Kd.R_alloc | apply Kd.R_drewN | apply Kd.R_drew)); exact Kd.R_mono HO231.out (fun _ hk => hk.2)⟩, ⟨by (with_reducible repeat (first | apply Kd.R_alloc | apply Kd.R_drewN | apply Kd.R_drew)); exact Kd.R_mono HO217.out (fun _ hk => hk.2)⟩, ⟨by (with_reducible repeat (first | apply Kd.R_alloc | apply Kd.R_drewN | apply Kd.R_drew)); exact Kd.R_mono HO222.out (fun _ hk => hk.2)⟩, ⟨blkN BK223.out⟩, ⟨blkN BK224.out⟩, ⟨(belS HB.out)⟩⟩
  ·rw [if_neg c23] at H
   have c23b0 : (t228 == 0) = false := beq_eq_false_iff_ne.mpr c23
   have c23b1 : (t228 != 0) = true := bne_iff_ne.mpr c23
   (first | rw [c23b0] | rw [c23b1] | (simp only [i64_w, i32_w]; rw [c23b0]) | skip)
   have H' := Aside0.mk H
   clear H
   go_wp2
   go_meet
   case rel => exact ⟨_, (true), (by first | rfl | (simp; done) | (simp [*]; done)), H', ⟨by first | omega | exact Nat.le_refl _⟩, ⟨by (with_reducible repeat (first | apply Kd.R_alloc | apply Kd.R_drewN | apply Kd.R_drew)); exact Kd.R_mono HO227.out (fun _ hk => hk.2)⟩, ⟨by (with_reducible repeat (first | apply Kd.R_alloc | apply Kd.R_drewN | apply Kd.R_drew)); exact Kd.R_mono HO231.out (fun _ hk => hk.2)⟩, ⟨by (with_reducible repeat (first | apply Kd.R_alloc | apply Kd.R_drewN | apply Kd.R_drew)); exact Kd.R_mono HO217.out (fun _ hk => hk.2)⟩, ⟨by (with_reducible repeat (first | apply Kd.R_alloc | apply Kd.R_drewN | apply Kd.R_drew)); exact Kd.R_mono HO222.out (fun _ hk => hk.2)⟩, ⟨blkN BK223.out⟩, ⟨blkN BK224.out⟩, ⟨(belS HB.out)⟩⟩
 case rest =>
  clear HC10
  try clear c1
  try clear c2
  try clear p2
  try clear c3
  try clear c4
  try clear c9
  try clear c15
  try clear c23
  try clear c23b0
  try clear c23b1
  try clear hcz16_0
  try clear hcz16_1
  try clear hcz16_2
  try clear hcz18_0
  try clear hcz18_1
  try clear hcz18_2
  try clear hcz21_0
  try clear hcz21_1
  try clear hcz21_2
  try clear hfz16_0
  try clear hfz16_1
  try clear hfz16_2
  try clear hfz18_0
  try clear hfz18_1
  try clear hfz18_2
  try clear hfz21_0
  try clear hfz21_1
  try clear hfz21_2
  obtain ⟨kq, x43_9, rfl, HA, HJ9, HO_13, HO_15, HO_224002, HO_225002, BK223, BK224, HB⟩ := hcut
  cases kq with
  | zero => exact absurd HA.out (by simp [marigraphlaw14_RowkeyBack.j0])
  | succ kj9 =>
   have H := HA.out
   clear HA
   simp only [marigraphlaw14_RowkeyBack.j0] at H
   by_cases c24 : x43_9 = true
   ·subst c24
    have H1 : (some false) = some r := by rw [if_pos rfl] at H; exact H
    clear H
    have H := H1
    clear H1
    obtain rfl := Option.some.inj H
    go_wp2
    go_ret
    exact ⟨by first | rfl | (simp [errW_none, errW_some] <;> rfl) | (simp [*, errW_none, errW_some] <;> rfl), (belS HB.out)⟩
   ·replace c24 := Bool.eq_false_iff.mpr c24
    subst c24
    have H1 : (if (t225.length : Int) = 0 then (marigraphlaw14_RowkeyBack.j1 kj9 l4 t225 t229 true t213 t214 t215 t218 t219 t220) else (marigraphlaw14_RowkeyBack.j1 kj9 l4 t225 t229 ((t229.length : Int) == 0) t213 t214 t215 t218 t219 t220)) = some r := by rw [if_neg (show ¬ (false = true) by decide)] at H; exact H
    clear H
    have H := H1
    clear H1
    have HC25 := Aside0.mk H
    clear H
    go_upto_region 6 with (fail)
    go_cut [51] (fun v51 wc => ∃ (kq : Nat) (x51_24 : Bool), v51 = .bool x51_24 ∧ Aside0 (marigraphlaw14_RowkeyBack.j1 kq l4 t225 t229 x51_24 t213 t214 t215 t218 t219 t220 = some r) ∧ Aside0 (kq ≤ kj9) ∧ Aside0 (Kd.R (Kd.int .u8) 5 wc w.heap.size (fun k_ => some k_ ≠ (v230 : Value).ownBlock) v226 t225) ∧ Aside0 (Kd.R (Kd.int .u8) 5 wc w.heap.size (fun k_ => some k_ ≠ (v226 : Value).ownBlock) v230 t229) ∧ Aside0 (Kd.R k53 53 wc w.heap.size (fun k_ => some k_ ≠ ((.slice Ao19 t220.length co19) : Value).ownBlock) (.slice Ao17 t215.length co17) t215) ∧ Aside0 (Kd.R k53 53 wc w.heap.size (fun k_ => some k_ ≠ ((.slice Ao17 t215.length co17) : Value).ownBlock) (.slice Ao19 t220.length co19) t220) ∧ Aside0 (wc.heap[gb223]? = some (.cells #[.int .i64 t213, .int .i64 t214, (.slice Ao17 t215.length co17)] 56 (0, 0))) ∧ Aside0 (wc.heap[gb224]? = some (.cells #[.int .i64 t218, .int .i64 t219, (.slice Ao19 t220.length co19)] 56 (0, 0))) ∧ Aside0 (Below w.heap.size w wc))
    case first =>
     have H := HC25.out
     clear HC25
     by_cases c26 : (t225.length : Int) = 0
     ·rw [if_pos c26] at H
      have c26b0 : ((t225.length : Int) == 0) = true := beq_iff_eq.mpr c26
      have c26b1 : ((t225.length : Int) != 0) = false := bne_eq_false_iff_eq.mpr c26
      clear c26
      (first | rw [c26b0] | rw [c26b1] | (simp only [i64_w, i32_w]; rw [c26b0]) | skip)
      have H' := Aside0.mk H
      clear H
      obtain ⟨Ao27, co27, eo27⟩ := Kd.R_slice HO_13.out
      subst eo27
      go_wp2
      go_meet
      case rel => exact ⟨_, (true), (by first | rfl | (simp; done) | (simp [*]; done)), H', ⟨by have := HJ9.out; first | omega | exact Nat.le_refl _⟩, ⟨(rowN HO_13.out)⟩, ⟨(rowN HO_15.out)⟩, ⟨(rowN HO_224002.out)⟩, ⟨(rowN HO_225002.out)⟩, ⟨blkN BK223.out⟩, ⟨blkN BK224.out⟩, ⟨(belS HB.out)⟩⟩
     ·rw [if_neg c26] at H
      have c26b0 : ((t225.length : Int) == 0) = false := beq_eq_false_iff_ne.mpr c26
      have c26b1 : ((t225.length : Int) != 0) = true := bne_iff_ne.mpr c26
      have c26b2 : ¬ (t225 = []) := fun h_ => c26 (by rw [h_]; rfl)
      (first | rw [c26b0] | rw [c26b1] | (simp only [i64_w, i32_w]; rw [c26b0]) | skip)
      have H' := Aside0.mk H
      clear H
      obtain ⟨Ao28, co28, eo28⟩ := Kd.R_slice HO_13.out
      subst eo28
      obtain ⟨Ao29, co29, eo29⟩ := Kd.R_slice HO_15.out
      subst eo29
      go_wp2
      go_meet
      case rel => exact ⟨_, (((t229.length : Int) == 0)), (by first | rfl | (simp; done) | (simp [*]; done)), H', ⟨by have := HJ9.out; first | omega | exact Nat.le_refl _⟩, ⟨(rowN HO_13.out)⟩, ⟨(rowN HO_15.out)⟩, ⟨(rowN HO_224002.out)⟩, ⟨(rowN HO_225002.out)⟩, ⟨blkN BK223.out⟩, ⟨blkN BK224.out⟩, ⟨(belS HB.out)⟩⟩
    case rest =>
     clear HC25
     try clear c1
     try clear c2
     try clear p2
     try clear c3
     try clear c4
     try clear c9
     try clear c15
     try clear c23
     try clear c23b0
     try clear c23b1
     try clear c24
     try clear c26
     try clear c26b0
     try clear c26b1
     try clear c26b2
     try clear hcz16_0
     try clear hcz16_1
     try clear hcz16_2
     try clear hcz18_0
     try clear hcz18_1
     try clear hcz18_2
     try clear hcz21_0
     try clear hcz21_1
     try clear hcz21_2
     try clear hfz16_0
     try clear hfz16_1
     try clear hfz16_2
     try clear hfz18_0
     try clear hfz18_1
     try clear hfz18_2
     try clear hfz21_0
     try clear hfz21_1
     try clear hfz21_2
     try clear p2
     obtain ⟨kq, x51_24, rfl, HA, HJ24, HO_13, HO_15, HO_224002, HO_225002, BK223, BK224, HB⟩ := hcut
     cases kq with
     | zero => exact absurd HA.out (by simp [marigraphlaw14_RowkeyBack.j1])
     | succ kj24 =>
      have H := HA.out
      clear HA
      simp only [marigraphlaw14_RowkeyBack.j1] at H
      by_cases c30 : x51_24 = true
      ·subst c30
       have H1 : (some false) = some r := by rw [if_pos rfl] at H; exact H
       clear H
       have H := H1
       clear H1
       obtain rfl := Option.some.inj H
       go_wp2
       go_ret
       exact ⟨by first | rfl | (simp [errW_none, errW_some] <;> rfl) | (simp [*, errW_none, errW_some] <;> rfl), (belS HB.out)⟩
      ·replace c30 := Bool.eq_false_iff.mpr c30
       subst c30
       have H1 : ((some (([] : List Int) : List Int)).bind fun y233 => (if y233.length + t225.length < 140737488355328 then ((some (y233 ++ t225 : List Int)).bind fun y236 => (if y236.length + (cutI l4 20).length < 140737488355328 then ((rowkey_Decode.f kj24 (y236 ++ (cutI l4 20))).bind fun bt243 => (if bt243.2.2.2.2 = 0 then (if bt243.2.2.2.1 = (t225.length : Int) then ((rowkey_Same.f kj24 bt243.1 bt243.2.1 bt243.2.2.1 t213 t214 t215).bind fun t251 => (if t251 = true then (if 0 < (t225.length : Int) then (if 0 < (t229.length : Int) then (if (rd t225 0) = (rd t229 0) then (if ((Op.bytesLess ((strOfNums t225).toList) ((strOfNums t229).toList)) == (decide (t214 < t219))) = true then (if (((strOfNums t225).toList == (strOfNums t229).toList) == (t214 == t219)) = true then ((marigraphlaw14_known.f kj24).bind fun t254 => (some t254)) else (some false)) else (some false)) else (if (((strOfNums t225).toList == (strOfNums t229).toList) == (t214 == t219)) = true then ((marigraphlaw14_known.f kj24).bind fun t255 => (some t255)) else (some false))) else (none)) else (none)) else (some false))) else (some false)) else (some false))) else (none))) else (none))) = some r := by rw [if_neg (show ¬ (false = true) by decide)] at H; exact H
       clear H
       have H := H1
       clear H1
       obtain ⟨y233, hy233⟩ : ∃ y_ : List Int, y_ = (([] : List Int)) := ⟨_, rfl⟩
       replace H : (if y233.length + t225.length < 140737488355328 then ((some (y233 ++ t225 : List Int)).bind fun y236 => (if y236.length + (cutI l4 20).length < 140737488355328 then ((rowkey_Decode.f kj24 (y236 ++ (cutI l4 20))).bind fun bt243 => (if bt243.2.2.2.2 = 0 then (if bt243.2.2.2.1 = (t225.length : Int) then ((rowkey_Same.f kj24 bt243.1 bt243.2.1 bt243.2.2.1 t213 t214 t215).bind fun t251 => (if t251 = true then (if 0 < (t225.length : Int) then (if 0 < (t229.length : Int) then (if (rd t225 0) = (rd t229 0) then (if ((Op.bytesLess ((strOfNums t225).toList) ((strOfNums t229).toList)) == (decide (t214 < t219))) = true then (if (((strOfNums t225).toList == (strOfNums t229).toList) == (t214 == t219)) = true then ((marigraphlaw14_known.f kj24).bind fun t254 => (some t254)) else (some false)) else (some false)) else (if (((strOfNums t225).toList == (strOfNums t229).toList) == (t214 == t219)) = true then ((marigraphlaw14_known.f kj24).bind fun t255 => (some t255)) else (some false))) else (none)) else (none)) else (some false))) else (some false)) else (some false))) else (none))) else (none)) = some r := by first | (rw [hy233]; with_reducible exact H) | (have H2_ := (Option.bind_some _ _).symm.trans H; rw [hy233]; with_reducible exact H2_) | (have H2_ := (Option.bind_some _ _).symm.trans H; with_reducible exact H2_) | with_reducible exact H | (rw [hy233]; exact H) | exact H
       have Ny233 := Aside0.mk hy233
       clear hy233
       by_cases c31 : y233.length + t225.length < 140737488355328
       ·rw [if_pos c31] at H
        have LMc31 := Aside0.mk c31
        clear c31
        obtain ⟨y236, hy236⟩ : ∃ y_ : List Int, y_ = (y233 ++ t225) := ⟨_, rfl⟩
        replace H : (if y236.length + (cutI l4 20).length < 140737488355328 then ((rowkey_Decode.f kj24 (y236 ++ (cutI l4 20))).bind fun bt243 => (if bt243.2.2.2.2 = 0 then (if bt243.2.2.2.1 = (t225.length : Int) then ((rowkey_Same.f kj24 bt243.1 bt243.2.1 bt243.2.2.1 t213 t214 t215).bind fun t251 => (if t251 = true then (if 0 < (t225.length : Int) then (if 0 < (t229.length : Int) then (if (rd t225 0) = (rd t229 0) then (if ((Op.bytesLess ((strOfNums t225).toList) ((strOfNums t229).toList)) == (decide (t214 < t219))) = true then (if (((strOfNums t225).toList == (strOfNums t229).toList) == (t214 == t219)) = true then ((marigraphlaw14_known.f kj24).bind fun t254 => (some t254)) else (some false)) else (some false)) else (if (((strOfNums t225).toList == (strOfNums t229).toList) == (t214 == t219)) = true then ((marigraphlaw14_known.f kj24).bind fun t255 => (some t255)) else (some false))) else (none)) else (none)) else (some false))) else (some false)) else (some false))) else (none)) = some r := by first | (rw [hy236]; with_reducible exact H) | (have H2_ := (Option.bind_some _ _).symm.trans H; rw [hy236]; with_reducible exact H2_) | (have H2_ := (Option.bind_some _ _).symm.trans H; with_reducible exact H2_) | with_reducible exact H | (rw [hy236]; exact H) | exact H
        have Ny236 := Aside0.mk hy236
        clear hy236
        by_cases c32 : y236.length + (cutI l4 20).length < 140737488355328
        ·rw [if_pos c32] at H
         have LMc32 := Aside0.mk c32
         clear c32
         obtain ⟨y240, hy240⟩ : ∃ y_ : List Int, y_ = (y236 ++ (cutI l4 20)) := ⟨_, rfl⟩
         replace H : ((rowkey_Decode.f kj24 y240).bind fun bt243 => (if bt243.2.2.2.2 = 0 then (if bt243.2.2.2.1 = (t225.length : Int) then ((rowkey_Same.f kj24 bt243.1 bt243.2.1 bt243.2.2.1 t213 t214 t215).bind fun t251 => (if t251 = true then (if 0 < (t225.length : Int) then (if 0 < (t229.length : Int) then (if (rd t225 0) = (rd t229 0) then (if ((Op.bytesLess ((strOfNums t225).toList) ((strOfNums t229).toList)) == (decide (t214 < t219))) = true then (if (((strOfNums t225).toList == (strOfNums t229).toList) == (t214 == t219)) = true then ((marigraphlaw14_known.f kj24).bind fun t254 => (some t254)) else (some false)) else (some false)) else (if (((strOfNums t225).toList == (strOfNums t229).toList) == (t214 == t219)) = true then ((marigraphlaw14_known.f kj24).bind fun t255 => (some t255)) else (some false))) else (none)) else (none)) else (some false))) else (some false)) else (some false))) = some r := by first | (rw [hy240]; with_reducible exact H) | (have H2_ := (Option.bind_some _ _).symm.trans H; rw [hy240]; with_reducible exact H2_) | (have H2_ := (Option.bind_some _ _).symm.trans H; with_reducible exact H2_) | with_reducible exact H | (rw [hy240]; exact H) | exact H
         have Ny240 := Aside0.mk hy240
         clear hy240
         replace H := Option.bind_eq_some_iff.mp H
         obtain ⟨⟨t243, t244, t245, t248, t249⟩, A330, H⟩ := H
         replace H : (if t249 = 0 then (if t248 = (t225.length : Int) then ((rowkey_Same.f kj24 t243 t244 t245 t213 t214 t215).bind fun t251 => (if t251 = true then (if 0 < (t225.length : Int) then (if 0 < (t229.length : Int) then (if (rd t225 0) = (rd t229 0) then (if ((Op.bytesLess ((strOfNums t225).toList) ((strOfNums t229).toList)) == (decide (t214 < t219))) = true then (if (((strOfNums t225).toList == (strOfNums t229).toList) == (t214 == t219)) = true then ((marigraphlaw14_known.f kj24).bind fun t254 => (some t254)) else (some false)) else (some false)) else (if (((strOfNums t225).toList == (strOfNums t229).toList) == (t214 == t219)) = true then ((marigraphlaw14_known.f kj24).bind fun t255 => (some t255)) else (some false))) else (none)) else (none)) else (some false))) else (some false)) else (some false)) = some r := H
         have A33 := Aside0.mk A330
         clear A330
         by_cases c34 : t249 = 0
         ·rw [if_pos c34] at H
          have c34b0 : (t249 == 0) = true := beq_iff_eq.mpr c34
          have c34b1 : (t249 != 0) = false := bne_eq_false_iff_eq.mpr c34
          clear c34
          by_cases c35 : t248 = (t225.length : Int)
          ·rw [if_pos c35] at H
           have c35b0 : (t248 == (t225.length : Int)) = true := beq_iff_eq.mpr c35
           have c35b1 : (t248 != (t225.length : Int)) = false := bne_eq_false_iff_eq.mpr c35
           clear c35
           replace H := Option.bind_eq_some_iff.mp H
           obtain ⟨t251, A360, H⟩ := H
           replace H : (if t251 = true then (if 0 < (t225.length : Int) then (if 0 < (t229.length : Int) then (if (rd t225 0) = (rd t229 0) then (if ((Op.bytesLess ((strOfNums t225).toList) ((strOfNums t229).toList)) == (decide (t214 < t219))) = true then (if (((strOfNums t225).toList == (strOfNums t229).toList) == (t214 == t219)) = true then ((marigraphlaw14_known.f kj24).bind fun t254 => (some t254)) else (some false)) else (some false)) else (if (((strOfNums t225).toList == (strOfNums t229).toList) == (t214 == t219)) = true then ((marigraphlaw14_known.f kj24).bind fun t255 => (some t255)) else (some false))) else (none)) else (none)) else (some false)) = some r := H
           have A36 := Aside0.mk A360
           clear A360
           by_cases c37 : t251 = true
           ·subst c37
            have H1 : (if 0 < (t225.length : Int) then (if 0 < (t229.length : Int) then (if (rd t225 0) = (rd t229 0) then (if ((Op.bytesLess ((strOfNums t225).toList) ((strOfNums t229).toList)) == (decide (t214 < t219))) = true then (if (((strOfNums t225).toList == (strOfNums t229).toList) == (t214 == t219)) = true then ((marigraphlaw14_known.f kj24).bind fun t254 => (some t254)) else (some false)) else (some false)) else (if (((strOfNums t225).toList == (strOfNums t229).toList) == (t214 == t219)) = true then ((marigraphlaw14_known.f kj24).bind fun t255 => (some t255)) else (some false))) else (none)) else (none)) = some r := by rw [if_pos rfl] at H; exact H
            clear H
            have H := H1
            clear H1
            by_cases c38 : 0 < (t225.length : Int)
            ·rw [if_pos c38] at H
             have c38b0 : decide (0 < (t225.length : Int)) = true := decide_eq_true c38
             have c38b1 : decide (0 < t225.length) = true := decide_eq_true (by omega)
             clear c38
             by_cases c39 : 0 < (t229.length : Int)
             ·rw [if_pos c39] at H
              have c39b0 : decide (0 < (t229.length : Int)) = true := decide_eq_true c39
              have c39b1 : decide (0 < t229.length) = true := decide_eq_true (by omega)
              clear c39
              by_cases c40 : (rd t225 0) = (rd t229 0)
              ·rw [if_pos c40] at H
               have c40b0 : ((rd t225 0) == (rd t229 0)) = true := beq_iff_eq.mpr c40
               have c40b1 : ((rd t225 0) != (rd t229 0)) = false := bne_eq_false_iff_eq.mpr c40
               clear c40
               by_cases c41 : ((Op.bytesLess ((strOfNums t225).toList) ((strOfNums t229).toList)) == (decide (t214 < t219))) = true
               ·rw [if_pos c41] at H
                have c41b0 : ((Op.bytesLess ((strOfNums t225).toList) ((strOfNums t229).toList)) == (decide (t214 < t219))) = true := c41
                (try (have c41b1 : decide ((Op.bytesLess ((strOfNums t225).toList) ((strOfNums t229).toList)) = (decide (t214 < t219))) = true := by simpa using c41))
                (try (have c41b2 : ((Op.bytesLess ((strOfNums t225).toList) ((strOfNums t229).toList)) == (decide (t214 < t219))) = true := by simpa using c41))
                clear c41
                by_cases c42 : (((strOfNums t225).toList == (strOfNums t229).toList) == (t214 == t219)) = true
                ·rw [if_pos c42] at H
                 have c42b0 : (((strOfNums t225).toList == (strOfNums t229).toList) == (t214 == t219)) = true := c42
                 (try (have c42b1 : decide (((strOfNums t225).toList == (strOfNums t229).toList) = (t214 == t219)) = true := by simpa using c42))
                 (try (have c42b2 : (((strOfNums t225).toList == (strOfNums t229).toList) == (t214 == t219)) = true := by simpa using c42))
                 clear c42
                 replace H := Option.bind_eq_some_iff.mp H
                 obtain ⟨t254, A430, H⟩ := H
                 replace H : (some t254) = some r := H
                 have A43 := Aside0.mk A430
                 clear A430
                 obtain rfl := Option.some.inj H
                 try go_wp2_with (first | ((with_reducible refine gate_dst (N := 53) rfl ?_); (try (refine gate_guard (by rfl) ?_; dsimp only)); refine Kd.R_lit (Kd.int .u8) _ 5 ?hg (N := 53) ?hd (xs := ([] : List Int)) (inner := []) (ok := fun _ => True) (okp := fun _ => True) ?hr ?hp (fun _ hk => hk) trivial (Below.refl _ _) (Nat.le_refl _) (by simp) ?_; (case hd => rfl); (case hg => rfl); (case hr => first | (go_simp; done) | (go_simp; rfl)); (case hp => exact (Reps.none _ _)); intro v234 w44 ho45 hb hg_ hnew_; clear hg_ hnew_; (first | rw [← Ny233.out] at ho45 | (simp only [Int.reduceToNat] at ho45; rw [← Ny233.out] at ho45)); have n0_ := Aside0.mk (Kd.R_elder' (rowN HO_13.out) (Kd.R_base ho45) hb); have n1_ := Aside0.mk (Kd.R_elder' (rowN HO_15.out) (Kd.R_base ho45) hb); have n2_ := Aside0.mk (Kd.R_below (rowN HO_224002.out) hb); have n3_ := Aside0.mk (Kd.R_below (rowN HO_225002.out) hb); have n4_ := Aside0.mk (Kd.R_lower (Kd.R_new' (Kd.R_new' ho45 (Kd.R_lt (rowN HO_13.out))) (Kd.R_lt (rowN HO_15.out))) (below_size (belS HB.out))); have n5_ := Aside0.mk (bkB BK223.out hb); have n6_ := Aside0.mk (bkB BK224.out hb); have n7_ := Aside0.mk (below_step (belS HB.out) hb); clear HO_13; clear HO_15; clear HO_224002; clear HO_225002; clear BK223; clear BK224; clear HB; have HO_13 := n0_; have HO_15 := n1_; have HO_224002 := n2_; have HO_225002 := n3_; have HO235 := n4_; have BK223 := n5_; have BK224 := n6_; have HB := n7_; clear n0_ n1_ n2_ n3_ n4_ n5_ n6_ n7_; clear hb ho45; obtain ⟨Ao47, co47, eo47⟩ := Kd.R_slice HO_13.out; subst eo47) | ((with_reducible refine gate_builtin (b := .append) (xs := #[.tmp 53, .tmp 54]) rfl ?_); (try (refine gate_guard (by rfl) ?_; dsimp only)); at_builtin; refine Kd.R_append_rows (Kd.int .u8) (w0 := w) w.heap.size rfl (.tmp 53) (.tmp 54) 30 5 (.int .u8 0) 1 rfl Try.underlying30 info5 rfl (by decide) (by omega) v234 y233 t225 _ _ _ (fun k_ => some k_ ≠ (.slice Ao47 t225.length co47 : Value).ownBlock ∧ some k_ ≠ (v230 : Value).ownBlock) (fun _ => False) rfl rfl ?aO ?aR (fun _ _ h => h) (fun _ h => h.elim) ?aF ?aB ?aS ?aL ?_; (case aR => repeat (first | exact (Kd.R_reads' HO_13.out).2.2 | (with_reducible refine Kd.C_alloc ?_ _) | (with_reducible refine Kd.C_drewN ?_ _) | (with_reducible refine Kd.C_drew ?_))); (case aB => exact (belS HB.out)); (case aF => exact (fun k_ hk => ⟨Kd.fresh' (Kd.R_lt (rowN HO_13.out)) k_ hk, Kd.fresh' (Kd.R_lt (rowN HO_15.out)) k_ hk⟩)); (case aO => exact (by (with_reducible repeat (first | apply Kd.R_alloc | apply Kd.R_drewN | apply Kd.R_drew)); exact Kd.R_mono HO235.out (fun _ hk => ⟨hk.1.2, hk.2⟩))); (case aS => exact (below_size (belS HB.out))); (case aL => have := LMc31.out; omega); intro v237 w46 ho hb hg hat; rw [← Ny236.out] at ho; have n0_ := Aside0.mk (Kd.R_after (ok := (fun k_ => some k_ ≠ (v230 : Value).ownBlock)) (rowN HO_13.out) hg hat); have n1_ := Aside0.mk (Kd.R_after (ok := (fun k_ => some k_ ≠ (.slice Ao47 t225.length co47 : Value).ownBlock)) (rowN HO_15.out) hg hat); have n2_ := Aside0.mk (Kd.R_over' (rowN HO_224002.out) (Kd.R_typed (rowN HO235.out)) (by decide) hg); have n3_ := Aside0.mk (Kd.R_over' (rowN HO_225002.out) (Kd.R_typed (rowN HO235.out)) (by decide) hg); have n4_ := Aside0.mk (blk_grown (g := gb223) (o := .cells #[.int .i64 t213, .int .i64 t214, .slice Ao17 t215.length co17] 56 (0, 0)) (blkN BK223.out) hg (Kd.R_ne HO235.out BK223.out (by decide))); have n5_ := Aside0.mk (blk_grown (g := gb224) (o := .cells #[.int .i64 t218, .int .i64 t219, .slice Ao19 t220.length co19] 56 (0, 0)) (blkN BK224.out) hg (Kd.R_ne HO235.out BK224.out (by decide))); have n6_ := Aside0.mk (hb); have n7_ := Aside0.mk (ho); clear HO_13; clear HO_15; clear HO_224002; clear HO_225002; clear BK223; clear BK224; clear HB; clear HO235; have HO_13 := n0_; have HO_15 := n1_; have HO_224002 := n2_; have HO_225002 := n3_; have BK223 := n4_; have BK224 := n5_; have HB := n6_; have HO238 := n7_; clear n0_ n1_ n2_ n3_ n4_ n5_ n6_ n7_; clear ho hb hg hat; have HR239 := Aside0.mk (cutI_C (n := 20) HR4.out); have HC239 := Aside0.mk (cutI_le (n := 20) HC4.out)) | ((with_reducible refine gate_callee (f := 25) rfl ?_); refine goesL_ (some 57) rfl rfl Try.func25 (by kernel_rfl) rfl #[.slice A4 l4.length c4, .int .i64 20] rfl (by (try simp only [List.map_toArray, List.map_cons, List.map_nil]); first | done | rfl) ?_; (with_reducible refine (marigraphkeep_Cut.callsR A4 c4 l4 20 20 _ HC4.out rfl).mono ?_); rintro e w' ⟨rfl, ⟨nd, rfl⟩⟩; refine ⟨_, rfl, ?_⟩) | ((with_reducible refine gate_builtin (b := .append) (xs := #[.tmp 55, .tmp 57]) rfl ?_); (try (refine gate_guard (by rfl) ?_; dsimp only)); at_builtin; refine Kd.R_append_rows (Kd.int .u8) (w0 := w) w.heap.size rfl (.tmp 55) (.tmp 57) 30 5 (.int .u8 0) 1 rfl Try.underlying30 info5 rfl (by decide) (by omega) v237 y236 (cutI l4 20) _ _ _ (fun k_ => some k_ ≠ (.slice Ao47 t225.length co47 : Value).ownBlock ∧ some k_ ≠ (v230 : Value).ownBlock) (fun _ => False) rfl rfl ?aO ?aR (fun _ _ h => h) (fun _ h => h.elim) ?aF ?aB ?aS ?aL ?_; (case aR => repeat (first | exact (Kd.C_below HR239.out (belS HB.out)) | (with_reducible refine Kd.C_alloc ?_ _) | (with_reducible refine Kd.C_drewN ?_ _) | (with_reducible refine Kd.C_drew ?_))); (case aB => exact (belS HB.out)); (case aF => exact (fun k_ hk => ⟨Kd.fresh' (Kd.R_lt (rowN HO_13.out)) k_ hk, Kd.fresh' (Kd.R_lt (rowN HO_15.out)) k_ hk⟩)); (case aO => exact (rowN HO238.out)); (case aS => exact (below_size (belS HB.out))); (case aL => have := LMc32.out; omega); intro v241 w48 ho hb hg hat; rw [← Ny240.out] at ho; have n0_ := Aside0.mk (Kd.R_after (ok := (fun k_ => some k_ ≠ (v230 : Value).ownBlock)) (rowN HO_13.out) hg hat); have n1_ := Aside0.mk (Kd.R_after (ok := (fun k_ => some k_ ≠ (.slice Ao47 t225.length co47 : Value).ownBlock)) (rowN HO_15.out) hg hat); have n2_ := Aside0.mk (Kd.R_over' (rowN HO_224002.out) (Kd.R_typed (rowN HO238.out)) (by decide) hg); have n3_ := Aside0.mk (Kd.R_over' (rowN HO_225002.out) (Kd.R_typed (rowN HO238.out)) (by decide) hg); have n4_ := Aside0.mk (blk_grown (g := gb223) (o := .cells #[.int .i64 t213, .int .i64 t214, .slice Ao17 t215.length co17] 56 (0, 0)) (blkN BK223.out) hg (Kd.R_ne HO238.out BK223.out (by decide))); have n5_ := Aside0.mk (blk_grown (g := gb224) (o := .cells #[.int .i64 t218, .int .i64 t219, .slice Ao19 t220.length co19] 56 (0, 0)) (blkN BK224.out) hg (Kd.R_ne HO238.out BK224.out (by decide))); have n6_ := Aside0.mk (hb); have n7_ := Aside0.mk (ho); clear HO_13; clear HO_15; clear HO_224002; clear HO_225002; clear BK223; clear BK224; clear HB; clear HO238; have HO_13 := n0_; have HO_15 := n1_; have HO_224002 := n2_; have HO_225002 := n3_; have BK223 := n4_; have BK224 := n5_; have HB := n6_; have HO242 := n7_; clear n0_ n1_ n2_ n3_ n4_ n5_ n6_ n7_; clear ho hb hg hat; obtain ⟨Ao49, co49, eo49⟩ := Kd.R_slice HO242.out; subst eo49) | ((with_reducible refine gate_callee (f := 41) rfl ?_); refine goesL_ (some 59) rfl rfl Try.func41 (by kernel_rfl) rfl #[.slice Ao49 y240.length co49] rfl argN ?_; (with_reducible refine (rowkey_Decode.calls kj24 _ _ y240 t243 t244 t245 t248 t249 _ ?side1 ?side2 A33.out).mono ?_); (case side1 => repeat (first | exact (Kd.R_reads' HO242.out).2.2 | (with_reducible refine Kd.C_alloc ?_ _) | (with_reducible refine Kd.C_drewN ?_ _) | (with_reducible refine Kd.C_drew ?_))); (case side2 => exact (Kd.R_reads' HO242.out).2.1); rintro e w50 ⟨v246, rfl, ho0, hb⟩; refine ⟨_, rfl, ?_⟩; have n0_ := Aside0.mk (Kd.R_below (rowN HO_13.out) hb); have n1_ := Aside0.mk (Kd.R_below (rowN HO_15.out) hb); have n2_ := Aside0.mk (Kd.R_elder' (rowN HO_224002.out) (Kd.R_base ho0) hb); have n3_ := Aside0.mk (Kd.R_elder' (rowN HO_225002.out) (Kd.R_base ho0) hb); have n4_ := Aside0.mk (Kd.R_below (rowN HO242.out) hb); have n5_ := Aside0.mk (Kd.R_lower (Kd.R_new' (Kd.R_new' ho0 (Kd.R_lt (rowN HO_224002.out))) (Kd.R_lt (rowN HO_225002.out))) (below_size (belS HB.out))); have n6_ := Aside0.mk (bkB BK223.out hb); have n7_ := Aside0.mk (bkB BK224.out hb); have n8_ := Aside0.mk (below_step (belS HB.out) hb); clear HO_13; clear HO_15; clear HO_224002; clear HO_225002; clear HO242; clear BK223; clear BK224; clear HB; have HO_13 := n0_; have HO_15 := n1_; have HO_224002 := n2_; have HO_225002 := n3_; have HO242 := n4_; have HO247 := n5_; have BK223 := n6_; have BK224 := n7_; have HB := n8_; clear n0_ n1_ n2_ n3_ n4_ n5_ n6_ n7_ n8_; (try clear hb); (try clear hk); (try clear ho0)) | ((with_reducible refine gate_dst (N := 17) rfl ?_); (try (refine gate_guard (by rfl) ?_; dsimp only)); refine box_event ?hg (N := 17) ?hd (cs := #[.int .i64 0, .int .i64 0, .slice none 0 0]) (t := 56) ?hr ?_; (case hd => rfl); (case hg => rfl); (case hr => first | (go_simp; done) | (go_simp; rfl)); intro gb250 hg w51 hbox hb; have n0_ := Aside0.mk (Kd.R_below (rowN HO_13.out) hb); have n1_ := Aside0.mk (Kd.R_below (rowN HO_15.out) hb); have n2_ := Aside0.mk (Kd.R_below (rowN HO_224002.out) hb); have n3_ := Aside0.mk (Kd.R_below (rowN HO_225002.out) hb); have n4_ := Aside0.mk (Kd.R_below (rowN HO242.out) hb); have n5_ := Aside0.mk (Kd.R_below (rowN HO247.out) hb); have n6_ := Aside0.mk (bkB BK223.out hb); have n7_ := Aside0.mk (bkB BK224.out hb); have n8_ := Aside0.mk (below_step (belS HB.out) hb); have n9_ := Aside0.mk (hbox); have n10_ := Aside0.mk (szB hg HB.out); have n11_ := Aside0.mk (szB hg HB.out); have n12_ := Aside0.mk ((bk1 hg BK223.out)); have n13_ := Aside0.mk ((bk2 hg BK223.out)); have n14_ := Aside0.mk ((bk1 hg BK224.out)); have n15_ := Aside0.mk ((bk2 hg BK224.out)); clear HO_13; clear HO_15; clear HO_224002; clear HO_225002; clear HO242; clear HO247; clear BK223; clear BK224; clear HB; have HO_13 := n0_; have HO_15 := n1_; have HO_224002 := n2_; have HO_225002 := n3_; have HO242 := n4_; have HO247 := n5_; have BK223 := n6_; have BK224 := n7_; have HB := n8_; have BK250 := n9_; have GW250 := n10_; have GE250 := n11_; have NB223_250 := n12_; have NB250_223 := n13_; have NB224_250 := n14_; have NB250_224 := n15_; clear n0_ n1_ n2_ n3_ n4_ n5_ n6_ n7_ n8_ n9_ n10_ n11_ n12_ n13_ n14_ n15_; clear hb hbox hg; have hnb52 := NB250_223.out; have hnc52 := NB223_250.out; have hnb53 := NB250_224.out; have hnc53 := NB224_250.out; have hcz54_0 : w51.cell? ⟨gb250, 0, none⟩ = some (.int .i64 0) := (blk_cell BK250.out 0).trans rfl; have hcz54_1 : w51.cell? ⟨gb250, 1, none⟩ = some (.int .i64 0) := (blk_cell BK250.out 1).trans rfl; have hcz54_2 : w51.cell? ⟨gb250, 2, none⟩ = some (.slice none 0 0) := (blk_cell BK250.out 2).trans rfl; have hfz54_0 := blk_frozen BK250.out 0; have hfz54_1 := blk_frozen BK250.out 1; have hfz54_2 := blk_frozen BK250.out 2; obtain ⟨Ao55, co55, eo55⟩ := Kd.R_slice HO247.out; subst eo55; have hnb56 := NB223_224.out; have hnc56 := NB224_223.out; have hcz57_0 : w51.cell? ⟨gb223, 0, none⟩ = some (.int .i64 t213) := (blk_cell BK223.out 0).trans rfl; have hcz57_1 : w51.cell? ⟨gb223, 1, none⟩ = some (.int .i64 t214) := (blk_cell BK223.out 1).trans rfl; have hcz57_2 : w51.cell? ⟨gb223, 2, none⟩ = some (.slice Ao17 t215.length co17) := (blk_cell BK223.out 2).trans rfl; have hfz57_0 := blk_frozen BK223.out 0; have hfz57_1 := blk_frozen BK223.out 1; have hfz57_2 := blk_frozen BK223.out 2) | (go_at_call 33; (with_reducible refine (rowkey_Same.calls kj24 t243 t244 _ _ t245 t213 t214 _ _ t215 true _ ?side1 ?side2 ?side3 ?side4 A36.out).mono ?_); (case side1 => refine (Kd.R_reads' (e := 53) (base := w.heap.size) (ok := fun k_ => ((True ∧ some k_ ≠ (.slice Ao17 t215.length co17 : Value).ownBlock) ∧ some k_ ≠ (.slice Ao19 t220.length co19 : Value).ownBlock)) (n := t245.length) (c := co55) ?_).2.2; exact (by (with_reducible repeat (first | apply Kd.R_alloc | apply Kd.R_drewN | apply Kd.R_drew)); exact (Kd.R_mono (Kd.R_far (p := ⟨gb250, 2, none⟩) (Kd.R_far (p := ⟨gb250, 1, none⟩) (Kd.R_far (p := ⟨gb250, 0, none⟩) (Kd.R_types HO247.out BK250.out (by decide)) (fun _ hk => hk.2) (.int .i64 t243)) (fun _ hk => hk.2) (.int .i64 t244)) (fun _ hk => hk.2) (.slice Ao55 t245.length co55)) (fun _ h_ => h_.1)))); (case side2 => exact (Kd.R_reads' HO247.out).2.1); (case side3 => refine (Kd.R_reads' (e := 53) (base := w.heap.size) (ok := fun k_ => (some k_ ≠ (.slice Ao19 t220.length co19 : Value).ownBlock ∧ some k_ ≠ (.slice Ao55 t245.length co55 : Value).ownBlock)) (n := t215.length) (c := co17) ?_).2.2; exact (by (with_reducible repeat (first | apply Kd.R_alloc | apply Kd.R_drewN | apply Kd.R_drew)); exact (Kd.R_mono (Kd.R_far (p := ⟨gb250, 2, none⟩) (Kd.R_far (p := ⟨gb250, 1, none⟩) (Kd.R_far (p := ⟨gb250, 0, none⟩) (Kd.R_types HO_224002.out BK250.out (by decide)) (fun _ hk => hk.2) (.int .i64 t243)) (fun _ hk => hk.2) (.int .i64 t244)) (fun _ hk => hk.2) (.slice Ao55 t245.length co55)) (fun _ h_ => h_.1)))); (case side4 => exact (Kd.R_reads' HO_224002.out).2.1); rintro e w58 ⟨rfl, hb⟩; have n0_ := Aside0.mk (Kd.R_below (by (with_reducible repeat (first | apply Kd.R_alloc | apply Kd.R_drewN | apply Kd.R_drew)); exact (Kd.R_mono (Kd.R_far (p := ⟨gb250, 2, none⟩) (Kd.R_far (p := ⟨gb250, 1, none⟩) (Kd.R_far (p := ⟨gb250, 0, none⟩) (Kd.R_types HO_13.out BK250.out (by decide)) (fun _ hk => hk.2) (.int .i64 t243)) (fun _ hk => hk.2) (.int .i64 t244)) (fun _ hk => hk.2) (.slice Ao55 t245.length co55)) (fun _ h_ => h_.1))) hb); have n1_ := Aside0.mk (Kd.R_below (by (with_reducible repeat (first | apply Kd.R_alloc | apply Kd.R_drewN | apply Kd.R_drew)); exact (Kd.R_mono (Kd.R_far (p := ⟨gb250, 2, none⟩) (Kd.R_far (p := ⟨gb250, 1, none⟩) (Kd.R_far (p := ⟨gb250, 0, none⟩) (Kd.R_types HO_15.out BK250.out (by decide)) (fun _ hk => hk.2) (.int .i64 t243)) (fun _ hk => hk.2) (.int .i64 t244)) (fun _ hk => hk.2) (.slice Ao55 t245.length co55)) (fun _ h_ => h_.1))) hb); have n2_ := Aside0.mk (Kd.R_below (by (with_reducible repeat (first | apply Kd.R_alloc | apply Kd.R_drewN | apply Kd.R_drew)); exact (Kd.R_mono (Kd.R_far (p := ⟨gb250, 2, none⟩) (Kd.R_far (p := ⟨gb250, 1, none⟩) (Kd.R_far (p := ⟨gb250, 0, none⟩) (Kd.R_types HO_224002.out BK250.out (by decide)) (fun _ hk => hk.2) (.int .i64 t243)) (fun _ hk => hk.2) (.int .i64 t244)) (fun _ hk => hk.2) (.slice Ao55 t245.length co55)) (fun _ h_ => h_.1))) hb); have n3_ := Aside0.mk (Kd.R_below (by (with_reducible repeat (first | apply Kd.R_alloc | apply Kd.R_drewN | apply Kd.R_drew)); exact (Kd.R_mono (Kd.R_far (p := ⟨gb250, 2, none⟩) (Kd.R_far (p := ⟨gb250, 1, none⟩) (Kd.R_far (p := ⟨gb250, 0, none⟩) (Kd.R_types HO_225002.out BK250.out (by decide)) (fun _ hk => hk.2) (.int .i64 t243)) (fun _ hk => hk.2) (.int .i64 t244)) (fun _ hk => hk.2) (.slice Ao55 t245.length co55)) (fun _ h_ => h_.1))) hb); have n4_ := Aside0.mk (Kd.R_below (by (with_reducible repeat (first | apply Kd.R_alloc | apply Kd.R_drewN | apply Kd.R_drew)); exact (Kd.R_mono (Kd.R_far (p := ⟨gb250, 2, none⟩) (Kd.R_far (p := ⟨gb250, 1, none⟩) (Kd.R_far (p := ⟨gb250, 0, none⟩) (Kd.R_types HO242.out BK250.out (by decide)) (fun _ hk => hk.2) (.int .i64 t243)) (fun _ hk => hk.2) (.int .i64 t244)) (fun _ hk => hk.2) (.slice Ao55 t245.length co55)) (fun _ h_ => h_.1))) hb); have n5_ := Aside0.mk (Kd.R_below (by (with_reducible repeat (first | apply Kd.R_alloc | apply Kd.R_drewN | apply Kd.R_drew)); exact (Kd.R_mono (Kd.R_far (p := ⟨gb250, 2, none⟩) (Kd.R_far (p := ⟨gb250, 1, none⟩) (Kd.R_far (p := ⟨gb250, 0, none⟩) (Kd.R_types HO247.out BK250.out (by decide)) (fun _ hk => hk.2) (.int .i64 t243)) (fun _ hk => hk.2) (.int .i64 t244)) (fun _ hk => hk.2) (.slice Ao55 t245.length co55)) (fun _ h_ => h_.1))) hb); have n6_ := Aside0.mk (bkBF BK223.out hb); have n7_ := Aside0.mk (bkBF BK224.out hb); have n8_ := Aside0.mk (blk_below (g := gb250) (o := .cells #[.int .i64 t243, .int .i64 t244, .slice Ao55 t245.length co55] 56 (0, 0)) (by (with_reducible repeat (first | refine blk_drewN ?_ _ | refine blk_drew ?_ | refine blk_alloc ?_ _)); refine blk_put (cs := #[.int .i64 t243, .int .i64 t244, .slice none 0 0]) ?_ 2 _ rfl; (with_reducible repeat (first | refine blk_drewN ?_ _ | refine blk_drew ?_ | refine blk_alloc ?_ _)); refine blk_put (cs := #[.int .i64 t243, .int .i64 0, .slice none 0 0]) ?_ 1 _ rfl; (with_reducible repeat (first | refine blk_drewN ?_ _ | refine blk_drew ?_ | refine blk_alloc ?_ _)); refine blk_put (cs := #[.int .i64 0, .int .i64 0, .slice none 0 0]) ?_ 0 _ rfl; (with_reducible repeat (first | refine blk_drewN ?_ _ | refine blk_drew ?_ | refine blk_alloc ?_ _)); exact BK250.out) hb); have n9_ := Aside0.mk (below_step (belS HB.out) hb); clear HO_13; clear HO_15; clear HO_224002; clear HO_225002; clear HO242; clear HO247; clear BK223; clear BK224; clear BK250; clear HB; have HO_13 := n0_; have HO_15 := n1_; have HO_224002 := n2_; have HO_225002 := n3_; have HO242 := n4_; have HO247 := n5_; have BK223 := n6_; have BK224 := n7_; have BK250 := n8_; have HB := n9_; clear n0_ n1_ n2_ n3_ n4_ n5_ n6_ n7_ n8_ n9_; (try clear hb); (try clear hk)))
                 have n0_ := Aside0.mk (Kd.R_drew HO_13.out)
                 have n1_ := Aside0.mk (Kd.R_drew HO_15.out)
                 have n2_ := Aside0.mk (Kd.R_drew HO_224002.out)
                 have n3_ := Aside0.mk (Kd.R_drew HO_225002.out)
                 have n4_ := Aside0.mk (Kd.R_drew HO242.out)
                 have n5_ := Aside0.mk (Kd.R_drew HO247.out)
                 have n6_ := Aside0.mk (blk_drew BK223.out)
                 have n7_ := Aside0.mk (blk_drew BK224.out)
                 have n8_ := Aside0.mk (blk_drew BK250.out)
                 have n9_ := Aside0.mk (below_drew1 HB.out)
                 clear HO_13
                 clear HO_15
                 clear HO_224002
                 clear HO_225002
                 clear HO242
                 clear HO247
                 clear BK223
                 clear BK224
                 clear BK250
                 clear HB
                 have HO_13 := n0_
                 have HO_15 := n1_
                 have HO_224002 := n2_
                 have HO_225002 := n3_
                 have HO242 := n4_
                 have HO247 := n5_
                 have BK223 := n6_
                 have BK224 := n7_
                 have BK250 := n8_
                 have HB := n9_
                 clear n0_ n1_ n2_ n3_ n4_ n5_ n6_ n7_ n8_ n9_
                 have p252 : 0 ≤ (0 : Int) := (by omega)
                 have q252 : 0 < (t225.length : Int) := of_decide_eq_true (by first | (with_reducible assumption) | assumption)
                 obtain ⟨ad252, e252, hx252_0⟩ := Kd.at_int (Kd.R_reads' HO_13.out).2.2 0 p252 q252
                 cases e252
                 have qi252 : (0 < t225.length) = True := eq_true (by omega)
                 (try rw [show ((0 : Int)).toNat = 0 from rfl] at hx252_0)
                 (try rw [Addr.add_zero'] at hx252_0)
                 replace p252 := eq_true p252
                 replace q252 := eq_true q252
                 obtain ⟨Ao60, co60, eo60⟩ := Kd.R_slice HO_15.out
                 (first | subst eo60 | (injection eo60 with f1_ f2_ f3_; have f4_ := f1_.symm; have f5_ := f3_.symm; clear f1_ f2_ f3_; subst f4_; subst f5_))
                 have p253 : 0 ≤ (0 : Int) := (by omega)
                 have q253 : 0 < (t229.length : Int) := of_decide_eq_true (by first | (with_reducible assumption) | assumption)
                 obtain ⟨ad253, e253, hx253_0⟩ := Kd.at_int (Kd.R_reads' HO_15.out).2.2 0 p253 q253
                 cases e253
                 have qi253 : (0 < t229.length) = True := eq_true (by omega)
                 (try rw [show ((0 : Int)).toNat = 0 from rfl] at hx253_0)
                 (try rw [Addr.add_zero'] at hx253_0)
                 replace p253 := eq_true p253
                 replace q253 := eq_true q253
                 refine start_ (n := 37) (S := fun w' => w'.cell? ⟨gb223, 0, none⟩ = some (.int .i64 t213) ∧ w'.cell? ⟨gb223, 1, none⟩ = some (.int .i64 t214) ∧ w'.cell? ⟨gb223, 2, none⟩ = some (.slice Ao17 t215.length co17) ∧ w'.cell? ⟨gb224, 0, none⟩ = some (.int .i64 t218) ∧ w'.cell? ⟨gb224, 1, none⟩ = some (.int .i64 t219) ∧ w'.cell? ⟨gb224, 2, none⟩ = some (.slice Ao19 t220.length co19) ∧ w'.cell? ad252 = some (.int .u8 (rd t225 0)) ∧ w'.cell? ad253 = some (.int .u8 (rd t229 0)) ∧ (convert 30 9 (.slice (some ad252) t225.length co47)).run Try.prog w' = .ok (.string (strOfNums t225)) w' ∧ (convert 30 9 (.slice (some ad253) t229.length co60)).run Try.prog w' = .ok (.string (strOfNums t229)) w' ∧ (convert 30 9 (.slice (some ad252) t225.length co47)).run Try.prog w' = .ok (.string (strOfNums t225)) w' ∧ (convert 30 9 (.slice (some ad253) t229.length co60)).run Try.prog w' = .ok (.string (strOfNums t229)) w') (ds := []) #[false, false, false, false, false, false, false, false, false, false, false, false, false, false, false, false, false, false, false, false, false, false, false, false, false, false, false, false, false, false, false, false, false, false, false, false, false] (by kernel_rfl) rfl rfl ⟨(blk_cell BK223.out 0).trans rfl, (blk_cell BK223.out 1).trans rfl, (blk_cell BK223.out 2).trans rfl, (blk_cell BK224.out 0).trans rfl, (blk_cell BK224.out 1).trans rfl, (blk_cell BK224.out 2).trans rfl, hx252_0, hx253_0, (own_string (P := Try.prog) Try.underlying30 Try.underlying5 Try.underlying9 (Kd.own_of_R HO_13.out)), (own_string (P := Try.prog) Try.underlying30 Try.underlying5 Try.underlying9 (Kd.own_of_R HO_15.out)), (own_string (P := Try.prog) Try.underlying30 Try.underlying5 Try.underlying9 (Kd.own_of_R HO_13.out)), (own_string (P := Try.prog) Try.underlying30 Try.underlying5 Try.underlying9 (Kd.own_of_R HO_15.out))⟩ (fun hHeld => ?_); refine with_tabW marigraphlaw14_RowkeyBack.tab11 marigraphlaw14_RowkeyBack.bits11 (fun HT_ HW_ => ?_)
                 generalize w58.drew = w59 at HO_13 HO_15 HO_224002 HO_225002 HO242 HO247 BK223 BK224 BK250 HB hx252_0 hx253_0 hHeld ⊢
                 have HV61 := HO_13
                 have HV62 := HO_15
                 have HV63 := HO_13
                 have HV64 := HO_15
                 refine pA 0 (some 77) (bA 37 1) HT_.out ?_
                 refine pA 1 (some 78) (bA 37 3) HT_.out ?_
                 refine pA 3 (some 80) (bA 37 11) HT_.out ?_
                 refine pA 4 (some 81) (bA 37 27) HT_.out ?_
                 refine take_ (i := 2) (N := some 79) (v := ?_) (a' := ?_) (bA 37 31) rfl rfl (take_ofW HT_.out HW_.out (by kernel_rfl)) (fun _ _ _ h => h) (Or.inl ⟨by rfl, ?_⟩) hHeld ?_ ?_
                 rotate_left
                 ·rintro w' ⟨s0, s1, s2, s3, s4, s5, s6, s7, s8, s9, s10, s11⟩
                  go_simp
                  with_reducible rfl
                 rotate_left
                 ·simp only [Act.put, List.setIfInBounds_toArray, List.set_cons_zero, List.set_cons_succ, i64_w, i32_w]
                  rfl
                 refine take_ (i := 5) (N := some 82) (v := ?_) (a' := ?_) (bA 37 63) rfl rfl (take_ofW HT_.out HW_.out (by kernel_rfl)) (fun _ _ _ h => h) (Or.inl ⟨by rfl, ?_⟩) hHeld ?_ ?_
                 rotate_left
                 ·rintro w' ⟨s0, s1, s2, s3, s4, s5, s6, s7, s8, s9, s10, s11⟩
                  go_simp
                  with_reducible rfl
                 rotate_left
                 ·simp only [Act.put, List.setIfInBounds_toArray, List.set_cons_zero, List.set_cons_succ, i64_w, i32_w]
                  rfl
                 refine pA 6 (some 83) (bA 37 127) HT_.out ?_
                 refine pA 7 (some 84) (bA 37 255) HT_.out ?_
                 refine pA 8 (some 85) (bA 37 511) HT_.out ?_
                 refine pA 10 (some 87) (bA 37 1535) HT_.out ?_
                 refine pA 13 (some 90) (bA 37 9727) HT_.out ?_
                 refine pA 15 (some 92) (bA 37 42495) HT_.out ?_
                 refine take_ (i := 9) (N := some 86) (v := ?_) (a' := ?_) (bA 37 43007) rfl rfl (take_ofW HT_.out HW_.out (by kernel_rfl)) (fun _ _ _ h => h) (Or.inl ⟨by rfl, ?_⟩) hHeld ?_ ?_
                 rotate_left
                 ·rintro w' ⟨s0, s1, s2, s3, s4, s5, s6, s7, s8, s9, s10, s11⟩
                  go_simp
                  with_reducible rfl
                 rotate_left
                 ·simp only [Act.put, List.setIfInBounds_toArray, List.set_cons_zero, List.set_cons_succ, i64_w, i32_w]
                  rfl
                 refine take_ (i := 11) (N := some 88) (v := ?_) (a' := ?_) (bA 37 45055) rfl rfl (take_ofW HT_.out HW_.out (by kernel_rfl)) (fun _ _ _ h => h) (Or.inl ⟨by rfl, ?_⟩) hHeld ?_ ?_
                 rotate_left
                 ·rintro w' ⟨s0, s1, s2, s3, s4, s5, s6, s7, s8, s9, s10, s11⟩
                  go_simp
                  with_reducible rfl
                 rotate_left
                 ·simp only [Act.put, List.setIfInBounds_toArray, List.set_cons_zero, List.set_cons_succ, i64_w, i32_w]
                  rfl
                 refine pA 12 (some 89) (bA 37 49151) HT_.out ?_
                 refine take_ (i := 14) (N := some 91) (v := ?_) (a' := ?_) (bA 37 65535) rfl rfl (take_ofW HT_.out HW_.out (by kernel_rfl)) (fun _ _ _ h => h) (Or.inl ⟨by rfl, ?_⟩) hHeld ?_ ?_
                 rotate_left
                 ·rintro w' ⟨s0, s1, s2, s3, s4, s5, s6, s7, s8, s9, s10, s11⟩
                  go_simp
                  with_reducible rfl
                 rotate_left
                 ·simp only [Act.put, List.setIfInBounds_toArray, List.set_cons_zero, List.set_cons_succ, i64_w, i32_w]
                  rfl
                 refine take_ (i := 16) (N := some 93) (v := ?_) (a' := ?_) (bA 37 131071) rfl rfl (take_ofW HT_.out HW_.out (by kernel_rfl)) (fun _ _ _ h => h) (Or.inl ⟨by rfl, ?_⟩) hHeld ?_ ?_
                 rotate_left
                 ·rintro w' ⟨s0, s1, s2, s3, s4, s5, s6, s7, s8, s9, s10, s11⟩
                  go_simp
                  with_reducible rfl
                 rotate_left
                 ·simp only [Act.put, List.setIfInBounds_toArray, List.set_cons_zero, List.set_cons_succ, i64_w, i32_w]
                  rfl
                 refine pA 17 (some 94) (bA 37 262143) HT_.out ?_
                 refine pA 18 (some 95) (bA 37 524287) HT_.out ?_
                 refine pA 19 (some 96) (bA 37 1048575) HT_.out ?_
                 refine pA 20 (some 97) (bA 37 2097151) HT_.out ?_
                 refine pA 21 (some 98) (bA 37 4194303) HT_.out ?_
                 refine pA 23 (some 100) (bA 37 12582911) HT_.out ?_
                 refine pA 26 (some 103) (bA 37 79691775) HT_.out ?_
                 refine pA 28 (some 105) (bA 37 348127231) HT_.out ?_
                 refine take_ (i := 22) (N := some 99) (v := ?_) (a' := ?_) (bA 37 352321535) rfl rfl (take_ofW HT_.out HW_.out (by kernel_rfl)) (fun _ _ _ h => h) (Or.inl ⟨by rfl, ?_⟩) hHeld ?_ ?_
                 rotate_left
                 ·rintro w' ⟨s0, s1, s2, s3, s4, s5, s6, s7, s8, s9, s10, s11⟩
                  go_simp
                  with_reducible rfl
                 rotate_left
                 ·simp only [Act.put, List.setIfInBounds_toArray, List.set_cons_zero, List.set_cons_succ, i64_w, i32_w]
                  rfl
                 refine take_ (i := 24) (N := some 101) (v := ?_) (a' := ?_) (bA 37 369098751) rfl rfl (take_ofW HT_.out HW_.out (by kernel_rfl)) (fun _ _ _ h => h) (Or.inl ⟨by rfl, ?_⟩) hHeld ?_ ?_
                 rotate_left
                 ·rintro w' ⟨s0, s1, s2, s3, s4, s5, s6, s7, s8, s9, s10, s11⟩
                  go_simp
                  with_reducible rfl
                 rotate_left
                 ·simp only [Act.put, List.setIfInBounds_toArray, List.set_cons_zero, List.set_cons_succ, i64_w, i32_w]
                  rfl
                 refine pA 25 (some 102) (bA 37 402653183) HT_.out ?_
                 refine take_ (i := 27) (N := some 104) (v := ?_) (a' := ?_) (bA 37 536870911) rfl rfl (take_ofW HT_.out HW_.out (by kernel_rfl)) (fun _ _ _ h => h) (Or.inl ⟨by rfl, ?_⟩) hHeld ?_ ?_
                 rotate_left
                 ·rintro w' ⟨s0, s1, s2, s3, s4, s5, s6, s7, s8, s9, s10, s11⟩
                  go_simp
                  with_reducible rfl
                 rotate_left
                 ·simp only [Act.put, List.setIfInBounds_toArray, List.set_cons_zero, List.set_cons_succ, i64_w, i32_w]
                  rfl
                 refine take_ (i := 29) (N := some 106) (v := ?_) (a' := ?_) (bA 37 1073741823) rfl rfl (take_ofW HT_.out HW_.out (by kernel_rfl)) (fun _ _ _ h => h) (Or.inl ⟨by rfl, ?_⟩) hHeld ?_ ?_
                 rotate_left
                 ·rintro w' ⟨s0, s1, s2, s3, s4, s5, s6, s7, s8, s9, s10, s11⟩
                  go_simp
                  with_reducible rfl
                 rotate_left
                 ·simp only [Act.put, List.setIfInBounds_toArray, List.set_cons_zero, List.set_cons_succ, i64_w, i32_w]
                  rfl
                 refine pA 30 (some 107) (bA 37 2147483647) HT_.out ?_
                 refine pA 31 (some 108) (bA 37 4294967295) HT_.out ?_
                 refine pA 32 (some 109) (bA 37 8589934591) HT_.out ?_
                 refine pA 33 (some 110) (bA 37 17179869183) HT_.out ?_
                 refine one_ (i := 34) (N := some 111) (bA 37 34359738367) rfl rfl (one_of HT_.out (by kernel_rfl)) (by decide) (fun K hK => ?_)
                 refine goes_ Try.func38 (by kernel_rfl) rfl #[] (by rfl) rfl rfl argN ?_
                 with_reducible refine (marigraphlaw14_known.calls kj24  t254 _ A43.out).mono ?_
                 rintro e w66 ⟨rfl, hb⟩
                 have HV61 := Aside0.mk (Kd.R_below (rowN HV61.out) hb)
                 have HV62 := Aside0.mk (Kd.R_below (rowN HV62.out) hb)
                 have HV63 := Aside0.mk (Kd.R_below (rowN HV63.out) hb)
                 have HV64 := Aside0.mk (Kd.R_below (rowN HV64.out) hb)
                 have HS6_ := (hb.cell (World.block_lt_of_cell? _ _ (hHeld.2.2.2.2.2.2.1))).trans (hHeld.2.2.2.2.2.2.1)
                 have HS7_ := (hb.cell (World.block_lt_of_cell? _ _ (hHeld.2.2.2.2.2.2.2.1))).trans (hHeld.2.2.2.2.2.2.2.1)
                 refine ⟨_, rfl, ?_⟩
                 have n0_ := Aside0.mk (Kd.R_below (rowN HO_13.out) hb)
                 have n1_ := Aside0.mk (Kd.R_below (rowN HO_15.out) hb)
                 have n2_ := Aside0.mk (Kd.R_below (rowN HO_224002.out) hb)
                 have n3_ := Aside0.mk (Kd.R_below (rowN HO_225002.out) hb)
                 have n4_ := Aside0.mk (Kd.R_below (rowN HO242.out) hb)
                 have n5_ := Aside0.mk (Kd.R_below (rowN HO247.out) hb)
                 have n6_ := Aside0.mk (bkB BK223.out hb)
                 have n7_ := Aside0.mk (bkB BK224.out hb)
                 have n8_ := Aside0.mk (bkB BK250.out hb)
                 have n9_ := Aside0.mk (below_step (belS HB.out) hb)
                 clear HO_13
                 clear HO_15
                 clear HO_224002
                 clear HO_225002
                 clear HO242
                 clear HO247
                 clear BK223
                 clear BK224
                 clear BK250
                 clear HB
                 have HO_13 := n0_
                 have HO_15 := n1_
                 have HO_224002 := n2_
                 have HO_225002 := n3_
                 have HO242 := n4_
                 have HO247 := n5_
                 have BK223 := n6_
                 have BK224 := n7_
                 have BK250 := n8_
                 have HB := n9_
                 clear n0_ n1_ n2_ n3_ n4_ n5_ n6_ n7_ n8_ n9_
                 (try clear hb)
                 (try clear hk)
                 refine hK.out _ _ ⟨(blk_cell BK223.out 0).trans rfl, (blk_cell BK223.out 1).trans rfl, (blk_cell BK223.out 2).trans rfl, (blk_cell BK224.out 0).trans rfl, (blk_cell BK224.out 1).trans rfl, (blk_cell BK224.out 2).trans rfl, HS6_, HS7_, (own_string (P := Try.prog) Try.underlying30 Try.underlying5 Try.underlying9 (Kd.own_of_R (rowN HV61.out))), (own_string (P := Try.prog) Try.underlying30 Try.underlying5 Try.underlying9 (Kd.own_of_R (rowN HV62.out))), (own_string (P := Try.prog) Try.underlying30 Try.underlying5 Try.underlying9 (Kd.own_of_R (rowN HV63.out))), (own_string (P := Try.prog) Try.underlying30 Try.underlying5 Try.underlying9 (Kd.own_of_R (rowN HV64.out)))⟩ (fun hHeld => ?_)
                 clear hK K
                 refine norm_ (a' := ?_) ?_ ?_
                 rotate_left
                 ·show Act.put _ (some 111) _ = _
                  simp only [Act.put, List.setIfInBounds_toArray, List.set_cons_zero, List.set_cons_succ, i64_w, i32_w]
                  rfl
                 refine pA 35 (some 112) (bA 37 68719476735) HT_.out ?_
                 refine pA 36 (some 10) (bA 37 137438953471) HT_.out ?_
                 refine done_ (done_of HT_.out (by kernel_rfl)) ?_
                 try go_wp2
                 go_ret
                 exact ⟨by first | rfl | (simp [errW_none, errW_some] <;> rfl) | (simp [*, errW_none, errW_some] <;> rfl), (belS HB.out)⟩
                ·rw [if_neg c42] at H
                 have c42b0 : (((strOfNums t225).toList == (strOfNums t229).toList) == (t214 == t219)) = false := by simpa using c42
                 (try (have c42b1 : decide (((strOfNums t225).toList == (strOfNums t229).toList) = (t214 == t219)) = false := by simpa using c42))
                 (try (have c42b2 : (((strOfNums t225).toList == (strOfNums t229).toList) == (t214 == t219)) = false := by simpa using c42))
                 (try (have c42b3 : ¬ (((strOfNums t225).toList == (strOfNums t229).toList) = (t214 == t219)) := by simpa using c42))
                 clear c42
                 obtain rfl := Option.some.inj H
                 try go_wp2_with (first | ((with_reducible refine gate_dst (N := 53) rfl ?_); (try (refine gate_guard (by rfl) ?_; dsimp only)); refine Kd.R_lit (Kd.int .u8) _ 5 ?hg (N := 53) ?hd (xs := ([] : List Int)) (inner := []) (ok := fun _ => True) (okp := fun _ => True) ?hr ?hp (fun _ hk => hk) trivial (Below.refl _ _) (Nat.le_refl _) (by simp) ?_; (case hd => rfl); (case hg => rfl); (case hr => first | (go_simp; done) | (go_simp; rfl)); (case hp => exact (Reps.none _ _)); intro v234 w67 ho68 hb hg_ hnew_; clear hg_ hnew_; (first | rw [← Ny233.out] at ho68 | (simp only [Int.reduceToNat] at ho68; rw [← Ny233.out] at ho68)); have n0_ := Aside0.mk (Kd.R_elder' (rowN HO_13.out) (Kd.R_base ho68) hb); have n1_ := Aside0.mk (Kd.R_elder' (rowN HO_15.out) (Kd.R_base ho68) hb); have n2_ := Aside0.mk (Kd.R_below (rowN HO_224002.out) hb); have n3_ := Aside0.mk (Kd.R_below (rowN HO_225002.out) hb); have n4_ := Aside0.mk (Kd.R_lower (Kd.R_new' (Kd.R_new' ho68 (Kd.R_lt (rowN HO_13.out))) (Kd.R_lt (rowN HO_15.out))) (below_size (belS HB.out))); have n5_ := Aside0.mk (bkB BK223.out hb); have n6_ := Aside0.mk (bkB BK224.out hb); have n7_ := Aside0.mk (below_step (belS HB.out) hb); clear HO_13; clear HO_15; clear HO_224002; clear HO_225002; clear BK223; clear BK224; clear HB; have HO_13 := n0_; have HO_15 := n1_; have HO_224002 := n2_; have HO_225002 := n3_; have HO235 := n4_; have BK223 := n5_; have BK224 := n6_; have HB := n7_; clear n0_ n1_ n2_ n3_ n4_ n5_ n6_ n7_; clear hb ho68; obtain ⟨Ao70, co70, eo70⟩ := Kd.R_slice HO_13.out; subst eo70) | ((with_reducible refine gate_builtin (b := .append) (xs := #[.tmp 53, .tmp 54]) rfl ?_); (try (refine gate_guard (by rfl) ?_; dsimp only)); at_builtin; refine Kd.R_append_rows (Kd.int .u8) (w0 := w) w.heap.size rfl (.tmp 53) (.tmp 54) 30 5 (.int .u8 0) 1 rfl Try.underlying30 info5 rfl (by decide) (by omega) v234 y233 t225 _ _ _ (fun k_ => some k_ ≠ (.slice Ao70 t225.length co70 : Value).ownBlock ∧ some k_ ≠ (v230 : Value).ownBlock) (fun _ => False) rfl rfl ?aO ?aR (fun _ _ h => h) (fun _ h => h.elim) ?aF ?aB ?aS ?aL ?_; (case aR => repeat (first | exact (Kd.R_reads' HO_13.out).2.2 | (with_reducible refine Kd.C_alloc ?_ _) | (with_reducible refine Kd.C_drewN ?_ _) | (with_reducible refine Kd.C_drew ?_))); (case aB => exact (belS HB.out)); (case aF => exact (fun k_ hk => ⟨Kd.fresh' (Kd.R_lt (rowN HO_13.out)) k_ hk, Kd.fresh' (Kd.R_lt (rowN HO_15.out)) k_ hk⟩)); (case aO => exact (by (with_reducible repeat (first | apply Kd.R_alloc | apply Kd.R_drewN | apply Kd.R_drew)); exact Kd.R_mono HO235.out (fun _ hk => ⟨hk.1.2, hk.2⟩))); (case aS => exact (below_size (belS HB.out))); (case aL => have := LMc31.out; omega); intro v237 w69 ho hb hg hat; rw [← Ny236.out] at ho; have n0_ := Aside0.mk (Kd.R_after (ok := (fun k_ => some k_ ≠ (v230 : Value).ownBlock)) (rowN HO_13.out) hg hat); have n1_ := Aside0.mk (Kd.R_after (ok := (fun k_ => some k_ ≠ (.slice Ao70 t225.length co70 : Value).ownBlock)) (rowN HO_15.out) hg hat); have n2_ := Aside0.mk (Kd.R_over' (rowN HO_224002.out) (Kd.R_typed (rowN HO235.out)) (by decide) hg); have n3_ := Aside0.mk (Kd.R_over' (rowN HO_225002.out) (Kd.R_typed (rowN HO235.out)) (by decide) hg); have n4_ := Aside0.mk (blk_grown (g := gb223) (o := .cells #[.int .i64 t213, .int .i64 t214, .slice Ao17 t215.length co17] 56 (0, 0)) (blkN BK223.out) hg (Kd.R_ne HO235.out BK223.out (by decide))); have n5_ := Aside0.mk (blk_grown (g := gb224) (o := .cells #[.int .i64 t218, .int .i64 t219, .slice Ao19 t220.length co19] 56 (0, 0)) (blkN BK224.out) hg (Kd.R_ne HO235.out BK224.out (by decide))); have n6_ := Aside0.mk (hb); have n7_ := Aside0.mk (ho); clear HO_13; clear HO_15; clear HO_224002; clear HO_225002; clear BK223; clear BK224; clear HB; clear HO235; have HO_13 := n0_; have HO_15 := n1_; have HO_224002 := n2_; have HO_225002 := n3_; have BK223 := n4_; have BK224 := n5_; have HB := n6_; have HO238 := n7_; clear n0_ n1_ n2_ n3_ n4_ n5_ n6_ n7_; clear ho hb hg hat; have HR239 := Aside0.mk (cutI_C (n := 20) HR4.out); have HC239 := Aside0.mk (cutI_le (n := 20) HC4.out)) | ((with_reducible refine gate_callee (f := 25) rfl ?_); refine goesL_ (some 57) rfl rfl Try.func25 (by kernel_rfl) rfl #[.slice A4 l4.length c4, .int .i64 20] rfl (by (try simp only [List.map_toArray, List.map_cons, List.map_nil]); first | done | rfl) ?_; (with_reducible refine (marigraphkeep_Cut.callsR A4 c4 l4 20 20 _ HC4.out rfl).mono ?_); rintro e w' ⟨rfl, ⟨nd, rfl⟩⟩; refine ⟨_, rfl, ?_⟩) | ((with_reducible refine gate_builtin (b := .append) (xs := #[.tmp 55, .tmp 57]) rfl ?_); (try (refine gate_guard (by rfl) ?_; dsimp only)); at_builtin; refine Kd.R_append_rows (Kd.int .u8) (w0 := w) w.heap.size rfl (.tmp 55) (.tmp 57) 30 5 (.int .u8 0) 1 rfl Try.underlying30 info5 rfl (by decide) (by omega) v237 y236 (cutI l4 20) _ _ _ (fun k_ => some k_ ≠ (.slice Ao70 t225.length co70 : Value).ownBlock ∧ some k_ ≠ (v230 : Value).ownBlock) (fun _ => False) rfl rfl ?aO ?aR (fun _ _ h => h) (fun _ h => h.elim) ?aF ?aB ?aS ?aL ?_; (case aR => repeat (first | exact (Kd.C_below HR239.out (belS HB.out)) | (with_reducible refine Kd.C_alloc ?_ _) | (with_reducible refine Kd.C_drewN ?_ _) | (with_reducible refine Kd.C_drew ?_))); (case aB => exact (belS HB.out)); (case aF => exact (fun k_ hk => ⟨Kd.fresh' (Kd.R_lt (rowN HO_13.out)) k_ hk, Kd.fresh' (Kd.R_lt (rowN HO_15.out)) k_ hk⟩)); (case aO => exact (rowN HO238.out)); (case aS => exact (below_size (belS HB.out))); (case aL => have := LMc32.out; omega); intro v241 w71 ho hb hg hat; rw [← Ny240.out] at ho; have n0_ := Aside0.mk (Kd.R_after (ok := (fun k_ => some k_ ≠ (v230 : Value).ownBlock)) (rowN HO_13.out) hg hat); have n1_ := Aside0.mk (Kd.R_after (ok := (fun k_ => some k_ ≠ (.slice Ao70 t225.length co70 : Value).ownBlock)) (rowN HO_15.out) hg hat); have n2_ := Aside0.mk (Kd.R_over' (rowN HO_224002.out) (Kd.R_typed (rowN HO238.out)) (by decide) hg); have n3_ := Aside0.mk (Kd.R_over' (rowN HO_225002.out) (Kd.R_typed (rowN HO238.out)) (by decide) hg); have n4_ := Aside0.mk (blk_grown (g := gb223) (o := .cells #[.int .i64 t213, .int .i64 t214, .slice Ao17 t215.length co17] 56 (0, 0)) (blkN BK223.out) hg (Kd.R_ne HO238.out BK223.out (by decide))); have n5_ := Aside0.mk (blk_grown (g := gb224) (o := .cells #[.int .i64 t218, .int .i64 t219, .slice Ao19 t220.length co19] 56 (0, 0)) (blkN BK224.out) hg (Kd.R_ne HO238.out BK224.out (by decide))); have n6_ := Aside0.mk (hb); have n7_ := Aside0.mk (ho); clear HO_13; clear HO_15; clear HO_224002; clear HO_225002; clear BK223; clear BK224; clear HB; clear HO238; have HO_13 := n0_; have HO_15 := n1_; have HO_224002 := n2_; have HO_225002 := n3_; have BK223 := n4_; have BK224 := n5_; have HB := n6_; have HO242 := n7_; clear n0_ n1_ n2_ n3_ n4_ n5_ n6_ n7_; clear ho hb hg hat; obtain ⟨Ao72, co72, eo72⟩ := Kd.R_slice HO242.out; subst eo72) | ((with_reducible refine gate_callee (f := 41) rfl ?_); refine goesL_ (some 59) rfl rfl Try.func41 (by kernel_rfl) rfl #[.slice Ao72 y240.length co72] rfl argN ?_; (with_reducible refine (rowkey_Decode.calls kj24 _ _ y240 t243 t244 t245 t248 t249 _ ?side1 ?side2 A33.out).mono ?_); (case side1 => repeat (first | exact (Kd.R_reads' HO242.out).2.2 | (with_reducible refine Kd.C_alloc ?_ _) | (with_reducible refine Kd.C_drewN ?_ _) | (with_reducible refine Kd.C_drew ?_))); (case side2 => exact (Kd.R_reads' HO242.out).2.1); rintro e w73 ⟨v246, rfl, ho0, hb⟩; refine ⟨_, rfl, ?_⟩; have n0_ := Aside0.mk (Kd.R_below (rowN HO_13.out) hb); have n1_ := Aside0.mk (Kd.R_below (rowN HO_15.out) hb); have n2_ := Aside0.mk (Kd.R_elder' (rowN HO_224002.out) (Kd.R_base ho0) hb); have n3_ := Aside0.mk (Kd.R_elder' (rowN HO_225002.out) (Kd.R_base ho0) hb); have n4_ := Aside0.mk (Kd.R_below (rowN HO242.out) hb); have n5_ := Aside0.mk (Kd.R_lower (Kd.R_new' (Kd.R_new' ho0 (Kd.R_lt (rowN HO_224002.out))) (Kd.R_lt (rowN HO_225002.out))) (below_size (belS HB.out))); have n6_ := Aside0.mk (bkB BK223.out hb); have n7_ := Aside0.mk (bkB BK224.out hb); have n8_ := Aside0.mk (below_step (belS HB.out) hb); clear HO_13; clear HO_15; clear HO_224002; clear HO_225002; clear HO242; clear BK223; clear BK224; clear HB; have HO_13 := n0_; have HO_15 := n1_; have HO_224002 := n2_; have HO_225002 := n3_; have HO242 := n4_; have HO247 := n5_; have BK223 := n6_; have BK224 := n7_; have HB := n8_; clear n0_ n1_ n2_ n3_ n4_ n5_ n6_ n7_ n8_; (try clear hb); (try clear hk); (try clear ho0)) | ((with_reducible refine gate_dst (N := 17) rfl ?_); (try (refine gate_guard (by rfl) ?_; dsimp only)); refine box_event ?hg (N := 17) ?hd (cs := #[.int .i64 0, .int .i64 0, .slice none 0 0]) (t := 56) ?hr ?_; (case hd => rfl); (case hg => rfl); (case hr => first | (go_simp; done) | (go_simp; rfl)); intro gb250 hg w74 hbox hb; have n0_ := Aside0.mk (Kd.R_below (rowN HO_13.out) hb); have n1_ := Aside0.mk (Kd.R_below (rowN HO_15.out) hb); have n2_ := Aside0.mk (Kd.R_below (rowN HO_224002.out) hb); have n3_ := Aside0.mk (Kd.R_below (rowN HO_225002.out) hb); have n4_ := Aside0.mk (Kd.R_below (rowN HO242.out) hb); have n5_ := Aside0.mk (Kd.R_below (rowN HO247.out) hb); have n6_ := Aside0.mk (bkB BK223.out hb); have n7_ := Aside0.mk (bkB BK224.out hb); have n8_ := Aside0.mk (below_step (belS HB.out) hb); have n9_ := Aside0.mk (hbox); have n10_ := Aside0.mk (szB hg HB.out); have n11_ := Aside0.mk (szB hg HB.out); have n12_ := Aside0.mk ((bk1 hg BK223.out)); have n13_ := Aside0.mk ((bk2 hg BK223.out)); have n14_ := Aside0.mk ((bk1 hg BK224.out)); have n15_ := Aside0.mk ((bk2 hg BK224.out)); clear HO_13; clear HO_15; clear HO_224002; clear HO_225002; clear HO242; clear HO247; clear BK223; clear BK224; clear HB; have HO_13 := n0_; have HO_15 := n1_; have HO_224002 := n2_; have HO_225002 := n3_; have HO242 := n4_; have HO247 := n5_; have BK223 := n6_; have BK224 := n7_; have HB := n8_; have BK250 := n9_; have GW250 := n10_; have GE250 := n11_; have NB223_250 := n12_; have NB250_223 := n13_; have NB224_250 := n14_; have NB250_224 := n15_; clear n0_ n1_ n2_ n3_ n4_ n5_ n6_ n7_ n8_ n9_ n10_ n11_ n12_ n13_ n14_ n15_; clear hb hbox hg; have hnb75 := NB250_223.out; have hnc75 := NB223_250.out; have hnb76 := NB250_224.out; have hnc76 := NB224_250.out; have hcz77_0 : w74.cell? ⟨gb250, 0, none⟩ = some (.int .i64 0) := (blk_cell BK250.out 0).trans rfl; have hcz77_1 : w74.cell? ⟨gb250, 1, none⟩ = some (.int .i64 0) := (blk_cell BK250.out 1).trans rfl; have hcz77_2 : w74.cell? ⟨gb250, 2, none⟩ = some (.slice none 0 0) := (blk_cell BK250.out 2).trans rfl; have hfz77_0 := blk_frozen BK250.out 0; have hfz77_1 := blk_frozen BK250.out 1; have hfz77_2 := blk_frozen BK250.out 2; obtain ⟨Ao78, co78, eo78⟩ := Kd.R_slice HO247.out; subst eo78; have hnb79 := NB223_224.out; have hnc79 := NB224_223.out; have hcz80_0 : w74.cell? ⟨gb223, 0, none⟩ = some (.int .i64 t213) := (blk_cell BK223.out 0).trans rfl; have hcz80_1 : w74.cell? ⟨gb223, 1, none⟩ = some (.int .i64 t214) := (blk_cell BK223.out 1).trans rfl; have hcz80_2 : w74.cell? ⟨gb223, 2, none⟩ = some (.slice Ao17 t215.length co17) := (blk_cell BK223.out 2).trans rfl; have hfz80_0 := blk_frozen BK223.out 0; have hfz80_1 := blk_frozen BK223.out 1; have hfz80_2 := blk_frozen BK223.out 2) | (go_at_call 33; (with_reducible refine (rowkey_Same.calls kj24 t243 t244 _ _ t245 t213 t214 _ _ t215 true _ ?side1 ?side2 ?side3 ?side4 A36.out).mono ?_); (case side1 => refine (Kd.R_reads' (e := 53) (base := w.heap.size) (ok := fun k_ => ((True ∧ some k_ ≠ (.slice Ao17 t215.length co17 : Value).ownBlock) ∧ some k_ ≠ (.slice Ao19 t220.length co19 : Value).ownBlock)) (n := t245.length) (c := co78) ?_).2.2; exact (by (with_reducible repeat (first | apply Kd.R_alloc | apply Kd.R_drewN | apply Kd.R_drew)); exact (Kd.R_mono (Kd.R_far (p := ⟨gb250, 2, none⟩) (Kd.R_far (p := ⟨gb250, 1, none⟩) (Kd.R_far (p := ⟨gb250, 0, none⟩) (Kd.R_types HO247.out BK250.out (by decide)) (fun _ hk => hk.2) (.int .i64 t243)) (fun _ hk => hk.2) (.int .i64 t244)) (fun _ hk => hk.2) (.slice Ao78 t245.length co78)) (fun _ h_ => h_.1)))); (case side2 => exact (Kd.R_reads' HO247.out).2.1); (case side3 => refine (Kd.R_reads' (e := 53) (base := w.heap.size) (ok := fun k_ => (some k_ ≠ (.slice Ao19 t220.length co19 : Value).ownBlock ∧ some k_ ≠ (.slice Ao78 t245.length co78 : Value).ownBlock)) (n := t215.length) (c := co17) ?_).2.2; exact (by (with_reducible repeat (first | apply Kd.R_alloc | apply Kd.R_drewN | apply Kd.R_drew)); exact (Kd.R_mono (Kd.R_far (p := ⟨gb250, 2, none⟩) (Kd.R_far (p := ⟨gb250, 1, none⟩) (Kd.R_far (p := ⟨gb250, 0, none⟩) (Kd.R_types HO_224002.out BK250.out (by decide)) (fun _ hk => hk.2) (.int .i64 t243)) (fun _ hk => hk.2) (.int .i64 t244)) (fun _ hk => hk.2) (.slice Ao78 t245.length co78)) (fun _ h_ => h_.1)))); (case side4 => exact (Kd.R_reads' HO_224002.out).2.1); rintro e w81 ⟨rfl, hb⟩; have n0_ := Aside0.mk (Kd.R_below (by (with_reducible repeat (first | apply Kd.R_alloc | apply Kd.R_drewN | apply Kd.R_drew)); exact (Kd.R_mono (Kd.R_far (p := ⟨gb250, 2, none⟩) (Kd.R_far (p := ⟨gb250, 1, none⟩) (Kd.R_far (p := ⟨gb250, 0, none⟩) (Kd.R_types HO_13.out BK250.out (by decide)) (fun _ hk => hk.2) (.int .i64 t243)) (fun _ hk => hk.2) (.int .i64 t244)) (fun _ hk => hk.2) (.slice Ao78 t245.length co78)) (fun _ h_ => h_.1))) hb); have n1_ := Aside0.mk (Kd.R_below (by (with_reducible repeat (first | apply Kd.R_alloc | apply Kd.R_drewN | apply Kd.R_drew)); exact (Kd.R_mono (Kd.R_far (p := ⟨gb250, 2, none⟩) (Kd.R_far (p := ⟨gb250, 1, none⟩) (Kd.R_far (p := ⟨gb250, 0, none⟩) (Kd.R_types HO_15.out BK250.out (by decide)) (fun _ hk => hk.2) (.int .i64 t243)) (fun _ hk => hk.2) (.int .i64 t244)) (fun _ hk => hk.2) (.slice Ao78 t245.length co78)) (fun _ h_ => h_.1))) hb); have n2_ := Aside0.mk (Kd.R_below (by (with_reducible repeat (first | apply Kd.R_alloc | apply Kd.R_drewN | apply Kd.R_drew)); exact (Kd.R_mono (Kd.R_far (p := ⟨gb250, 2, none⟩) (Kd.R_far (p := ⟨gb250, 1, none⟩) (Kd.R_far (p := ⟨gb250, 0, none⟩) (Kd.R_types HO_224002.out BK250.out (by decide)) (fun _ hk => hk.2) (.int .i64 t243)) (fun _ hk => hk.2) (.int .i64 t244)) (fun _ hk => hk.2) (.slice Ao78 t245.length co78)) (fun _ h_ => h_.1))) hb); have n3_ := Aside0.mk (Kd.R_below (by (with_reducible repeat (first | apply Kd.R_alloc | apply Kd.R_drewN | apply Kd.R_drew)); exact (Kd.R_mono (Kd.R_far (p := ⟨gb250, 2, none⟩) (Kd.R_far (p := ⟨gb250, 1, none⟩) (Kd.R_far (p := ⟨gb250, 0, none⟩) (Kd.R_types HO_225002.out BK250.out (by decide)) (fun _ hk => hk.2) (.int .i64 t243)) (fun _ hk => hk.2) (.int .i64 t244)) (fun _ hk => hk.2) (.slice Ao78 t245.length co78)) (fun _ h_ => h_.1))) hb); have n4_ := Aside0.mk (Kd.R_below (by (with_reducible repeat (first | apply Kd.R_alloc | apply Kd.R_drewN | apply Kd.R_drew)); exact (Kd.R_mono (Kd.R_far (p := ⟨gb250, 2, none⟩) (Kd.R_far (p := ⟨gb250, 1, none⟩) (Kd.R_far (p := ⟨gb250, 0, none⟩) (Kd.R_types HO242.out BK250.out (by decide)) (fun _ hk => hk.2) (.int .i64 t243)) (fun _ hk => hk.2) (.int .i64 t244)) (fun _ hk => hk.2) (.slice Ao78 t245.length co78)) (fun _ h_ => h_.1))) hb); have n5_ := Aside0.mk (Kd.R_below (by (with_reducible repeat (first | apply Kd.R_alloc | apply Kd.R_drewN | apply Kd.R_drew)); exact (Kd.R_mono (Kd.R_far (p := ⟨gb250, 2, none⟩) (Kd.R_far (p := ⟨gb250, 1, none⟩) (Kd.R_far (p := ⟨gb250, 0, none⟩) (Kd.R_types HO247.out BK250.out (by decide)) (fun _ hk => hk.2) (.int .i64 t243)) (fun _ hk => hk.2) (.int .i64 t244)) (fun _ hk => hk.2) (.slice Ao78 t245.length co78)) (fun _ h_ => h_.1))) hb); have n6_ := Aside0.mk (bkBF BK223.out hb); have n7_ := Aside0.mk (bkBF BK224.out hb); have n8_ := Aside0.mk (blk_below (g := gb250) (o := .cells #[.int .i64 t243, .int .i64 t244, .slice Ao78 t245.length co78] 56 (0, 0)) (by (with_reducible repeat (first | refine blk_drewN ?_ _ | refine blk_drew ?_ | refine blk_alloc ?_ _)); refine blk_put (cs := #[.int .i64 t243, .int .i64 t244, .slice none 0 0]) ?_ 2 _ rfl; (with_reducible repeat (first | refine blk_drewN ?_ _ | refine blk_drew ?_ | refine blk_alloc ?_ _)); refine blk_put (cs := #[.int .i64 t243, .int .i64 0, .slice none 0 0]) ?_ 1 _ rfl; (with_reducible repeat (first | refine blk_drewN ?_ _ | refine blk_drew ?_ | refine blk_alloc ?_ _)); refine blk_put (cs := #[.int .i64 0, .int .i64 0, .slice none 0 0]) ?_ 0 _ rfl; (with_reducible repeat (first | refine blk_drewN ?_ _ | refine blk_drew ?_ | refine blk_alloc ?_ _)); exact BK250.out) hb); have n9_ := Aside0.mk (below_step (belS HB.out) hb); clear HO_13; clear HO_15; clear HO_224002; clear HO_225002; clear HO242; clear HO247; clear BK223; clear BK224; clear BK250; clear HB; have HO_13 := n0_; have HO_15 := n1_; have HO_224002 := n2_; have HO_225002 := n3_; have HO242 := n4_; have HO247 := n5_; have BK223 := n6_; have BK224 := n7_; have BK250 := n8_; have HB := n9_; clear n0_ n1_ n2_ n3_ n4_ n5_ n6_ n7_ n8_ n9_; (try clear hb); (try clear hk)))
                 have n0_ := Aside0.mk (Kd.R_drew HO_13.out)
                 have n1_ := Aside0.mk (Kd.R_drew HO_15.out)
                 have n2_ := Aside0.mk (Kd.R_drew HO_224002.out)
                 have n3_ := Aside0.mk (Kd.R_drew HO_225002.out)
                 have n4_ := Aside0.mk (Kd.R_drew HO242.out)
                 have n5_ := Aside0.mk (Kd.R_drew HO247.out)
                 have n6_ := Aside0.mk (blk_drew BK223.out)
                 have n7_ := Aside0.mk (blk_drew BK224.out)
                 have n8_ := Aside0.mk (blk_drew BK250.out)
                 have n9_ := Aside0.mk (below_drew1 HB.out)
                 clear HO_13
                 clear HO_15
                 clear HO_224002
                 clear HO_225002
                 clear HO242
                 clear HO247
                 clear BK223
                 clear BK224
                 clear BK250
                 clear HB
                 have HO_13 := n0_
                 have HO_15 := n1_
                 have HO_224002 := n2_
                 have HO_225002 := n3_
                 have HO242 := n4_
                 have HO247 := n5_
                 have BK223 := n6_
                 have BK224 := n7_
                 have BK250 := n8_
                 have HB := n9_
                 clear n0_ n1_ n2_ n3_ n4_ n5_ n6_ n7_ n8_ n9_
                 have p252 : 0 ≤ (0 : Int) := (by omega)
                 have q252 : 0 < (t225.length : Int) := of_decide_eq_true (by first | (with_reducible assumption) | assumption)
                 obtain ⟨ad252, e252, hx252_0⟩ := Kd.at_int (Kd.R_reads' HO_13.out).2.2 0 p252 q252
                 cases e252
                 have qi252 : (0 < t225.length) = True := eq_true (by omega)
                 (try rw [show ((0 : Int)).toNat = 0 from rfl] at hx252_0)
                 (try rw [Addr.add_zero'] at hx252_0)
                 replace p252 := eq_true p252
                 replace q252 := eq_true q252
                 obtain ⟨Ao83, co83, eo83⟩ := Kd.R_slice HO_15.out
                 (first | subst eo83 | (injection eo83 with f1_ f2_ f3_; have f4_ := f1_.symm; have f5_ := f3_.symm; clear f1_ f2_ f3_; subst f4_; subst f5_))
                 have p253 : 0 ≤ (0 : Int) := (by omega)
                 have q253 : 0 < (t229.length : Int) := of_decide_eq_true (by first | (with_reducible assumption) | assumption)
                 obtain ⟨ad253, e253, hx253_0⟩ := Kd.at_int (Kd.R_reads' HO_15.out).2.2 0 p253 q253
                 cases e253
                 have qi253 : (0 < t229.length) = True := eq_true (by omega)
                 (try rw [show ((0 : Int)).toNat = 0 from rfl] at hx253_0)
                 (try rw [Addr.add_zero'] at hx253_0)
                 replace p253 := eq_true p253
                 replace q253 := eq_true q253
                 refine start_ (n := 37) (S := fun w' => w'.cell? ⟨gb223, 0, none⟩ = some (.int .i64 t213) ∧ w'.cell? ⟨gb223, 1, none⟩ = some (.int .i64 t214) ∧ w'.cell? ⟨gb223, 2, none⟩ = some (.slice Ao17 t215.length co17) ∧ w'.cell? ⟨gb224, 0, none⟩ = some (.int .i64 t218) ∧ w'.cell? ⟨gb224, 1, none⟩ = some (.int .i64 t219) ∧ w'.cell? ⟨gb224, 2, none⟩ = some (.slice Ao19 t220.length co19) ∧ w'.cell? ad252 = some (.int .u8 (rd t225 0)) ∧ w'.cell? ad253 = some (.int .u8 (rd t229 0)) ∧ (convert 30 9 (.slice (some ad252) t225.length co70)).run Try.prog w' = .ok (.string (strOfNums t225)) w' ∧ (convert 30 9 (.slice (some ad253) t229.length co83)).run Try.prog w' = .ok (.string (strOfNums t229)) w' ∧ (convert 30 9 (.slice (some ad252) t225.length co70)).run Try.prog w' = .ok (.string (strOfNums t225)) w' ∧ (convert 30 9 (.slice (some ad253) t229.length co83)).run Try.prog w' = .ok (.string (strOfNums t229)) w') (ds := []) #[false, false, false, false, false, false, false, false, false, false, false, false, false, false, false, false, false, false, false, false, false, false, false, false, false, false, false, false, false, false, false, false, false, false, false, false, false] (by kernel_rfl) rfl rfl ⟨(blk_cell BK223.out 0).trans rfl, (blk_cell BK223.out 1).trans rfl, (blk_cell BK223.out 2).trans rfl, (blk_cell BK224.out 0).trans rfl, (blk_cell BK224.out 1).trans rfl, (blk_cell BK224.out 2).trans rfl, hx252_0, hx253_0, (own_string (P := Try.prog) Try.underlying30 Try.underlying5 Try.underlying9 (Kd.own_of_R HO_13.out)), (own_string (P := Try.prog) Try.underlying30 Try.underlying5 Try.underlying9 (Kd.own_of_R HO_15.out)), (own_string (P := Try.prog) Try.underlying30 Try.underlying5 Try.underlying9 (Kd.own_of_R HO_13.out)), (own_string (P := Try.prog) Try.underlying30 Try.underlying5 Try.underlying9 (Kd.own_of_R HO_15.out))⟩ (fun hHeld => ?_); refine with_tabW marigraphlaw14_RowkeyBack.tab11 marigraphlaw14_RowkeyBack.bits11 (fun HT_ HW_ => ?_)
                 generalize w81.drew = w82 at HO_13 HO_15 HO_224002 HO_225002 HO242 HO247 BK223 BK224 BK250 HB hx252_0 hx253_0 hHeld ⊢
                 have HV84 := HO_13
                 have HV85 := HO_15
                 have HV86 := HO_13
                 have HV87 := HO_15
                 refine pA 0 (some 77) (bA 37 1) HT_.out ?_
                 refine pA 1 (some 78) (bA 37 3) HT_.out ?_
                 refine pA 3 (some 80) (bA 37 11) HT_.out ?_
                 refine pA 4 (some 81) (bA 37 27) HT_.out ?_
                 refine take_ (i := 2) (N := some 79) (v := ?_) (a' := ?_) (bA 37 31) rfl rfl (take_ofW HT_.out HW_.out (by kernel_rfl)) (fun _ _ _ h => h) (Or.inl ⟨by rfl, ?_⟩) hHeld ?_ ?_
                 rotate_left
                 ·rintro w' ⟨s0, s1, s2, s3, s4, s5, s6, s7, s8, s9, s10, s11⟩
                  go_simp
                  with_reducible rfl
                 rotate_left
                 ·simp only [Act.put, List.setIfInBounds_toArray, List.set_cons_zero, List.set_cons_succ, i64_w, i32_w]
                  rfl
                 refine take_ (i := 5) (N := some 82) (v := ?_) (a' := ?_) (bA 37 63) rfl rfl (take_ofW HT_.out HW_.out (by kernel_rfl)) (fun _ _ _ h => h) (Or.inl ⟨by rfl, ?_⟩) hHeld ?_ ?_
                 rotate_left
                 ·rintro w' ⟨s0, s1, s2, s3, s4, s5, s6, s7, s8, s9, s10, s11⟩
                  go_simp
                  with_reducible rfl
                 rotate_left
                 ·simp only [Act.put, List.setIfInBounds_toArray, List.set_cons_zero, List.set_cons_succ, i64_w, i32_w]
                  rfl
                 refine pA 6 (some 83) (bA 37 127) HT_.out ?_
                 refine pA 7 (some 84) (bA 37 255) HT_.out ?_
                 refine pA 8 (some 85) (bA 37 511) HT_.out ?_
                 refine pA 10 (some 87) (bA 37 1535) HT_.out ?_
                 refine pA 13 (some 90) (bA 37 9727) HT_.out ?_
                 refine pA 15 (some 92) (bA 37 42495) HT_.out ?_
                 refine take_ (i := 9) (N := some 86) (v := ?_) (a' := ?_) (bA 37 43007) rfl rfl (take_ofW HT_.out HW_.out (by kernel_rfl)) (fun _ _ _ h => h) (Or.inl ⟨by rfl, ?_⟩) hHeld ?_ ?_
                 rotate_left
                 ·rintro w' ⟨s0, s1, s2, s3, s4, s5, s6, s7, s8, s9, s10, s11⟩
                  go_simp
                  with_reducible rfl
                 rotate_left
                 ·simp only [Act.put, List.setIfInBounds_toArray, List.set_cons_zero, List.set_cons_succ, i64_w, i32_w]
                  rfl
                 refine take_ (i := 11) (N := some 88) (v := ?_) (a' := ?_) (bA 37 45055) rfl rfl (take_ofW HT_.out HW_.out (by kernel_rfl)) (fun _ _ _ h => h) (Or.inl ⟨by rfl, ?_⟩) hHeld ?_ ?_
                 rotate_left
                 ·rintro w' ⟨s0, s1, s2, s3, s4, s5, s6, s7, s8, s9, s10, s11⟩
                  go_simp
                  with_reducible rfl
                 rotate_left
                 ·simp only [Act.put, List.setIfInBounds_toArray, List.set_cons_zero, List.set_cons_succ, i64_w, i32_w]
                  rfl
                 refine pA 12 (some 89) (bA 37 49151) HT_.out ?_
                 refine take_ (i := 14) (N := some 91) (v := ?_) (a' := ?_) (bA 37 65535) rfl rfl (take_ofW HT_.out HW_.out (by kernel_rfl)) (fun _ _ _ h => h) (Or.inl ⟨by rfl, ?_⟩) hHeld ?_ ?_
                 rotate_left
                 ·rintro w' ⟨s0, s1, s2, s3, s4, s5, s6, s7, s8, s9, s10, s11⟩
                  go_simp
                  with_reducible rfl
                 rotate_left
                 ·simp only [Act.put, List.setIfInBounds_toArray, List.set_cons_zero, List.set_cons_succ, i64_w, i32_w]
                  rfl
                 refine take_ (i := 16) (N := some 93) (v := ?_) (a' := ?_) (bA 37 131071) rfl rfl (take_ofW HT_.out HW_.out (by kernel_rfl)) (fun _ _ _ h => h) (Or.inl ⟨by rfl, ?_⟩) hHeld ?_ ?_
                 rotate_left
                 ·rintro w' ⟨s0, s1, s2, s3, s4, s5, s6, s7, s8, s9, s10, s11⟩
                  go_simp
                  with_reducible rfl
                 rotate_left
                 ·simp only [Act.put, List.setIfInBounds_toArray, List.set_cons_zero, List.set_cons_succ, i64_w, i32_w]
                  rfl
                 refine pA 17 (some 94) (bA 37 262143) HT_.out ?_
                 refine pA 18 (some 95) (bA 37 524287) HT_.out ?_
                 refine pA 19 (some 96) (bA 37 1048575) HT_.out ?_
                 refine pA 20 (some 97) (bA 37 2097151) HT_.out ?_
                 refine pA 21 (some 98) (bA 37 4194303) HT_.out ?_
                 refine pA 23 (some 100) (bA 37 12582911) HT_.out ?_
                 refine pA 26 (some 103) (bA 37 79691775) HT_.out ?_
                 refine pA 28 (some 105) (bA 37 348127231) HT_.out ?_
                 refine take_ (i := 22) (N := some 99) (v := ?_) (a' := ?_) (bA 37 352321535) rfl rfl (take_ofW HT_.out HW_.out (by kernel_rfl)) (fun _ _ _ h => h) (Or.inl ⟨by rfl, ?_⟩) hHeld ?_ ?_
                 rotate_left
                 ·rintro w' ⟨s0, s1, s2, s3, s4, s5, s6, s7, s8, s9, s10, s11⟩
                  go_simp
                  with_reducible rfl
                 rotate_left
                 ·simp only [Act.put, List.setIfInBounds_toArray, List.set_cons_zero, List.set_cons_succ, i64_w, i32_w]
                  rfl
                 refine take_ (i := 24) (N := some 101) (v := ?_) (a' := ?_) (bA 37 369098751) rfl rfl (take_ofW HT_.out HW_.out (by kernel_rfl)) (fun _ _ _ h => h) (Or.inl ⟨by rfl, ?_⟩) hHeld ?_ ?_
                 rotate_left
                 ·rintro w' ⟨s0, s1, s2, s3, s4, s5, s6, s7, s8, s9, s10, s11⟩
                  go_simp
                  with_reducible rfl
                 rotate_left
                 ·simp only [Act.put, List.setIfInBounds_toArray, List.set_cons_zero, List.set_cons_succ, i64_w, i32_w]
                  rfl
                 refine pA 25 (some 102) (bA 37 402653183) HT_.out ?_
                 refine take_ (i := 27) (N := some 104) (v := ?_) (a' := ?_) (bA 37 536870911) rfl rfl (take_ofW HT_.out HW_.out (by kernel_rfl)) (fun _ _ _ h => h) (Or.inl ⟨by rfl, ?_⟩) hHeld ?_ ?_
                 rotate_left
                 ·rintro w' ⟨s0, s1, s2, s3, s4, s5, s6, s7, s8, s9, s10, s11⟩
                  go_simp
                  with_reducible rfl
                 rotate_left
                 ·simp only [Act.put, List.setIfInBounds_toArray, List.set_cons_zero, List.set_cons_succ, i64_w, i32_w]
                  rfl
                 refine take_ (i := 29) (N := some 106) (v := ?_) (a' := ?_) (bA 37 1073741823) rfl rfl (take_ofW HT_.out HW_.out (by kernel_rfl)) (fun _ _ _ h => h) (Or.inl ⟨by rfl, ?_⟩) hHeld ?_ ?_
                 rotate_left
                 ·rintro w' ⟨s0, s1, s2, s3, s4, s5, s6, s7, s8, s9, s10, s11⟩
                  go_simp
                  with_reducible rfl
                 rotate_left
                 ·simp only [Act.put, List.setIfInBounds_toArray, List.set_cons_zero, List.set_cons_succ, i64_w, i32_w]
                  rfl
                 refine pA 30 (some 107) (bA 37 2147483647) HT_.out ?_
                 refine pA 31 (some 108) (bA 37 4294967295) HT_.out ?_
                 refine pA 32 (some 109) (bA 37 8589934591) HT_.out ?_
                 refine pA 33 (some 110) (bA 37 17179869183) HT_.out ?_
                 refine pU 34 (some 111) (bA 37 34359738367) HT_.out ?_
                 refine pA 35 (some 112) (bA 37 68719476735) HT_.out ?_
                 refine pA 36 (some 10) (bA 37 137438953471) HT_.out ?_
                 refine done_ (done_of HT_.out (by kernel_rfl)) ?_
                 try go_wp2
                 go_ret
                 exact ⟨by first | rfl | (simp [errW_none, errW_some] <;> rfl) | (simp [*, errW_none, errW_some] <;> rfl), (belS HB.out)⟩
               ·rw [if_neg c41] at H
                have c41b0 : ((Op.bytesLess ((strOfNums t225).toList) ((strOfNums t229).toList)) == (decide (t214 < t219))) = false := by simpa using c41
                (try (have c41b1 : decide ((Op.bytesLess ((strOfNums t225).toList) ((strOfNums t229).toList)) = (decide (t214 < t219))) = false := by simpa using c41))
                (try (have c41b2 : ((Op.bytesLess ((strOfNums t225).toList) ((strOfNums t229).toList)) == (decide (t214 < t219))) = false := by simpa using c41))
                (try (have c41b3 : ¬ ((Op.bytesLess ((strOfNums t225).toList) ((strOfNums t229).toList)) = (decide (t214 < t219))) := by simpa using c41))
                clear c41
                obtain rfl := Option.some.inj H
                try go_wp2_with (first | ((with_reducible refine gate_dst (N := 53) rfl ?_); (try (refine gate_guard (by rfl) ?_; dsimp only)); refine Kd.R_lit (Kd.int .u8) _ 5 ?hg (N := 53) ?hd (xs := ([] : List Int)) (inner := []) (ok := fun _ => True) (okp := fun _ => True) ?hr ?hp (fun _ hk => hk) trivial (Below.refl _ _) (Nat.le_refl _) (by simp) ?_; (case hd => rfl); (case hg => rfl); (case hr => first | (go_simp; done) | (go_simp; rfl)); (case hp => exact (Reps.none _ _)); intro v234 w89 ho90 hb hg_ hnew_; clear hg_ hnew_; (first | rw [← Ny233.out] at ho90 | (simp only [Int.reduceToNat] at ho90; rw [← Ny233.out] at ho90)); have n0_ := Aside0.mk (Kd.R_elder' (rowN HO_13.out) (Kd.R_base ho90) hb); have n1_ := Aside0.mk (Kd.R_elder' (rowN HO_15.out) (Kd.R_base ho90) hb); have n2_ := Aside0.mk (Kd.R_below (rowN HO_224002.out) hb); have n3_ := Aside0.mk (Kd.R_below (rowN HO_225002.out) hb); have n4_ := Aside0.mk (Kd.R_lower (Kd.R_new' (Kd.R_new' ho90 (Kd.R_lt (rowN HO_13.out))) (Kd.R_lt (rowN HO_15.out))) (below_size (belS HB.out))); have n5_ := Aside0.mk (bkB BK223.out hb); have n6_ := Aside0.mk (bkB BK224.out hb); have n7_ := Aside0.mk (below_step (belS HB.out) hb); clear HO_13; clear HO_15; clear HO_224002; clear HO_225002; clear BK223; clear BK224; clear HB; have HO_13 := n0_; have HO_15 := n1_; have HO_224002 := n2_; have HO_225002 := n3_; have HO235 := n4_; have BK223 := n5_; have BK224 := n6_; have HB := n7_; clear n0_ n1_ n2_ n3_ n4_ n5_ n6_ n7_; clear hb ho90; obtain ⟨Ao92, co92, eo92⟩ := Kd.R_slice HO_13.out; subst eo92) | ((with_reducible refine gate_builtin (b := .append) (xs := #[.tmp 53, .tmp 54]) rfl ?_); (try (refine gate_guard (by rfl) ?_; dsimp only)); at_builtin; refine Kd.R_append_rows (Kd.int .u8) (w0 := w) w.heap.size rfl (.tmp 53) (.tmp 54) 30 5 (.int .u8 0) 1 rfl Try.underlying30 info5 rfl (by decide) (by omega) v234 y233 t225 _ _ _ (fun k_ => some k_ ≠ (.slice Ao92 t225.length co92 : Value).ownBlock ∧ some k_ ≠ (v230 : Value).ownBlock) (fun _ => False) rfl rfl ?aO ?aR (fun _ _ h => h) (fun _ h => h.elim) ?aF ?aB ?aS ?aL ?_; (case aR => repeat (first | exact (Kd.R_reads' HO_13.out).2.2 | (with_reducible refine Kd.C_alloc ?_ _) | (with_reducible refine Kd.C_drewN ?_ _) | (with_reducible refine Kd.C_drew ?_))); (case aB => exact (belS HB.out)); (case aF => exact (fun k_ hk => ⟨Kd.fresh' (Kd.R_lt (rowN HO_13.out)) k_ hk, Kd.fresh' (Kd.R_lt (rowN HO_15.out)) k_ hk⟩)); (case aO => exact (by (with_reducible repeat (first | apply Kd.R_alloc | apply Kd.R_drewN | apply Kd.R_drew)); exact Kd.R_mono HO235.out (fun _ hk => ⟨hk.1.2, hk.2⟩))); (case aS => exact (below_size (belS HB.out))); (case aL => have := LMc31.out; omega); intro v237 w91 ho hb hg hat; rw [← Ny236.out] at ho; have n0_ := Aside0.mk (Kd.R_after (ok := (fun k_ => some k_ ≠ (v230 : Value).ownBlock)) (rowN HO_13.out) hg hat); have n1_ := Aside0.mk (Kd.R_after (ok := (fun k_ => some k_ ≠ (.slice Ao92 t225.length co92 : Value).ownBlock)) (rowN HO_15.out) hg hat); have n2_ := Aside0.mk (Kd.R_over' (rowN HO_224002.out) (Kd.R_typed (rowN HO235.out)) (by decide) hg); have n3_ := Aside0.mk (Kd.R_over' (rowN HO_225002.out) (Kd.R_typed (rowN HO235.out)) (by decide) hg); have n4_ := Aside0.mk (blk_grown (g := gb223) (o := .cells #[.int .i64 t213, .int .i64 t214, .slice Ao17 t215.length co17] 56 (0, 0)) (blkN BK223.out) hg (Kd.R_ne HO235.out BK223.out (by decide))); have n5_ := Aside0.mk (blk_grown (g := gb224) (o := .cells #[.int .i64 t218, .int .i64 t219, .slice Ao19 t220.length co19] 56 (0, 0)) (blkN BK224.out) hg (Kd.R_ne HO235.out BK224.out (by decide))); have n6_ := Aside0.mk (hb); have n7_ := Aside0.mk (ho); clear HO_13; clear HO_15; clear HO_224002; clear HO_225002; clear BK223; clear BK224; clear HB; clear HO235; have HO_13 := n0_; have HO_15 := n1_; have HO_224002 := n2_; have HO_225002 := n3_; have BK223 := n4_; have BK224 := n5_; have HB := n6_; have HO238 := n7_; clear n0_ n1_ n2_ n3_ n4_ n5_ n6_ n7_; clear ho hb hg hat; have HR239 := Aside0.mk (cutI_C (n := 20) HR4.out); have HC239 := Aside0.mk (cutI_le (n := 20) HC4.out)) | ((with_reducible refine gate_callee (f := 25) rfl ?_); refine goesL_ (some 57) rfl rfl Try.func25 (by kernel_rfl) rfl #[.slice A4 l4.length c4, .int .i64 20] rfl (by (try simp only [List.map_toArray, List.map_cons, List.map_nil]); first | done | rfl) ?_; (with_reducible refine (marigraphkeep_Cut.callsR A4 c4 l4 20 20 _ HC4.out rfl).mono ?_); rintro e w' ⟨rfl, ⟨nd, rfl⟩⟩; refine ⟨_, rfl, ?_⟩) | ((with_reducible refine gate_builtin (b := .append) (xs := #[.tmp 55, .tmp 57]) rfl ?_); (try (refine gate_guard (by rfl) ?_; dsimp only)); at_builtin; refine Kd.R_append_rows (Kd.int .u8) (w0 := w) w.heap.size rfl (.tmp 55) (.tmp 57) 30 5 (.int .u8 0) 1 rfl Try.underlying30 info5 rfl (by decide) (by omega) v237 y236 (cutI l4 20) _ _ _ (fun k_ => some k_ ≠ (.slice Ao92 t225.length co92 : Value).ownBlock ∧ some k_ ≠ (v230 : Value).ownBlock) (fun _ => False) rfl rfl ?aO ?aR (fun _ _ h => h) (fun _ h => h.elim) ?aF ?aB ?aS ?aL ?_; (case aR => repeat (first | exact (Kd.C_below HR239.out (belS HB.out)) | (with_reducible refine Kd.C_alloc ?_ _) | (with_reducible refine Kd.C_drewN ?_ _) | (with_reducible refine Kd.C_drew ?_))); (case aB => exact (belS HB.out)); (case aF => exact (fun k_ hk => ⟨Kd.fresh' (Kd.R_lt (rowN HO_13.out)) k_ hk, Kd.fresh' (Kd.R_lt (rowN HO_15.out)) k_ hk⟩)); (case aO => exact (rowN HO238.out)); (case aS => exact (below_size (belS HB.out))); (case aL => have := LMc32.out; omega); intro v241 w93 ho hb hg hat; rw [← Ny240.out] at ho; have n0_ := Aside0.mk (Kd.R_after (ok := (fun k_ => some k_ ≠ (v230 : Value).ownBlock)) (rowN HO_13.out) hg hat); have n1_ := Aside0.mk (Kd.R_after (ok := (fun k_ => some k_ ≠ (.slice Ao92 t225.length co92 : Value).ownBlock)) (rowN HO_15.out) hg hat); have n2_ := Aside0.mk (Kd.R_over' (rowN HO_224002.out) (Kd.R_typed (rowN HO238.out)) (by decide) hg); have n3_ := Aside0.mk (Kd.R_over' (rowN HO_225002.out) (Kd.R_typed (rowN HO238.out)) (by decide) hg); have n4_ := Aside0.mk (blk_grown (g := gb223) (o := .cells #[.int .i64 t213, .int .i64 t214, .slice Ao17 t215.length co17] 56 (0, 0)) (blkN BK223.out) hg (Kd.R_ne HO238.out BK223.out (by decide))); have n5_ := Aside0.mk (blk_grown (g := gb224) (o := .cells #[.int .i64 t218, .int .i64 t219, .slice Ao19 t220.length co19] 56 (0, 0)) (blkN BK224.out) hg (Kd.R_ne HO238.out BK224.out (by decide))); have n6_ := Aside0.mk (hb); have n7_ := Aside0.mk (ho); clear HO_13; clear HO_15; clear HO_224002; clear HO_225002; clear BK223; clear BK224; clear HB; clear HO238; have HO_13 := n0_; have HO_15 := n1_; have HO_224002 := n2_; have HO_225002 := n3_; have BK223 := n4_; have BK224 := n5_; have HB := n6_; have HO242 := n7_; clear n0_ n1_ n2_ n3_ n4_ n5_ n6_ n7_; clear ho hb hg hat; obtain ⟨Ao94, co94, eo94⟩ := Kd.R_slice HO242.out; subst eo94) | ((with_reducible refine gate_callee (f := 41) rfl ?_); refine goesL_ (some 59) rfl rfl Try.func41 (by kernel_rfl) rfl #[.slice Ao94 y240.length co94] rfl argN ?_; (with_reducible refine (rowkey_Decode.calls kj24 _ _ y240 t243 t244 t245 t248 t249 _ ?side1 ?side2 A33.out).mono ?_); (case side1 => repeat (first | exact (Kd.R_reads' HO242.out).2.2 | (with_reducible refine Kd.C_alloc ?_ _) | (with_reducible refine Kd.C_drewN ?_ _) | (with_reducible refine Kd.C_drew ?_))); (case side2 => exact (Kd.R_reads' HO242.out).2.1); rintro e w95 ⟨v246, rfl, ho0, hb⟩; refine ⟨_, rfl, ?_⟩; have n0_ := Aside0.mk (Kd.R_below (rowN HO_13.out) hb); have n1_ := Aside0.mk (Kd.R_below (rowN HO_15.out) hb); have n2_ := Aside0.mk (Kd.R_elder' (rowN HO_224002.out) (Kd.R_base ho0) hb); have n3_ := Aside0.mk (Kd.R_elder' (rowN HO_225002.out) (Kd.R_base ho0) hb); have n4_ := Aside0.mk (Kd.R_below (rowN HO242.out) hb); have n5_ := Aside0.mk (Kd.R_lower (Kd.R_new' (Kd.R_new' ho0 (Kd.R_lt (rowN HO_224002.out))) (Kd.R_lt (rowN HO_225002.out))) (below_size (belS HB.out))); have n6_ := Aside0.mk (bkB BK223.out hb); have n7_ := Aside0.mk (bkB BK224.out hb); have n8_ := Aside0.mk (below_step (belS HB.out) hb); clear HO_13; clear HO_15; clear HO_224002; clear HO_225002; clear HO242; clear BK223; clear BK224; clear HB; have HO_13 := n0_; have HO_15 := n1_; have HO_224002 := n2_; have HO_225002 := n3_; have HO242 := n4_; have HO247 := n5_; have BK223 := n6_; have BK224 := n7_; have HB := n8_; clear n0_ n1_ n2_ n3_ n4_ n5_ n6_ n7_ n8_; (try clear hb); (try clear hk); (try clear ho0)) | ((with_reducible refine gate_dst (N := 17) rfl ?_); (try (refine gate_guard (by rfl) ?_; dsimp only)); refine box_event ?hg (N := 17) ?hd (cs := #[.int .i64 0, .int .i64 0, .slice none 0 0]) (t := 56) ?hr ?_; (case hd => rfl); (case hg => rfl); (case hr => first | (go_simp; done) | (go_simp; rfl)); intro gb250 hg w96 hbox hb; have n0_ := Aside0.mk (Kd.R_below (rowN HO_13.out) hb); have n1_ := Aside0.mk (Kd.R_below (rowN HO_15.out) hb); have n2_ := Aside0.mk (Kd.R_below (rowN HO_224002.out) hb); have n3_ := Aside0.mk (Kd.R_below (rowN HO_225002.out) hb); have n4_ := Aside0.mk (Kd.R_below (rowN HO242.out) hb); have n5_ := Aside0.mk (Kd.R_below (rowN HO247.out) hb); have n6_ := Aside0.mk (bkB BK223.out hb); have n7_ := Aside0.mk (bkB BK224.out hb); have n8_ := Aside0.mk (below_step (belS HB.out) hb); have n9_ := Aside0.mk (hbox); have n10_ := Aside0.mk (szB hg HB.out); have n11_ := Aside0.mk (szB hg HB.out); have n12_ := Aside0.mk ((bk1 hg BK223.out)); have n13_ := Aside0.mk ((bk2 hg BK223.out)); have n14_ := Aside0.mk ((bk1 hg BK224.out)); have n15_ := Aside0.mk ((bk2 hg BK224.out)); clear HO_13; clear HO_15; clear HO_224002; clear HO_225002; clear HO242; clear HO247; clear BK223; clear BK224; clear HB; have HO_13 := n0_; have HO_15 := n1_; have HO_224002 := n2_; have HO_225002 := n3_; have HO242 := n4_; have HO247 := n5_; have BK223 := n6_; have BK224 := n7_; have HB := n8_; have BK250 := n9_; have GW250 := n10_; have GE250 := n11_; have NB223_250 := n12_; have NB250_223 := n13_; have NB224_250 := n14_; have NB250_224 := n15_; clear n0_ n1_ n2_ n3_ n4_ n5_ n6_ n7_ n8_ n9_ n10_ n11_ n12_ n13_ n14_ n15_; clear hb hbox hg; have hnb97 := NB250_223.out; have hnc97 := NB223_250.out; have hnb98 := NB250_224.out; have hnc98 := NB224_250.out; have hcz99_0 : w96.cell? ⟨gb250, 0, none⟩ = some (.int .i64 0) := (blk_cell BK250.out 0).trans rfl; have hcz99_1 : w96.cell? ⟨gb250, 1, none⟩ = some (.int .i64 0) := (blk_cell BK250.out 1).trans rfl; have hcz99_2 : w96.cell? ⟨gb250, 2, none⟩ = some (.slice none 0 0) := (blk_cell BK250.out 2).trans rfl; have hfz99_0 := blk_frozen BK250.out 0; have hfz99_1 := blk_frozen BK250.out 1; have hfz99_2 := blk_frozen BK250.out 2; obtain ⟨Ao100, co100, eo100⟩ := Kd.R_slice HO247.out; subst eo100; have hnb101 := NB223_224.out; have hnc101 := NB224_223.out; have hcz102_0 : w96.cell? ⟨gb223, 0, none⟩ = some (.int .i64 t213) := (blk_cell BK223.out 0).trans rfl; have hcz102_1 : w96.cell? ⟨gb223, 1, none⟩ = some (.int .i64 t214) := (blk_cell BK223.out 1).trans rfl; have hcz102_2 : w96.cell? ⟨gb223, 2, none⟩ = some (.slice Ao17 t215.length co17) := (blk_cell BK223.out 2).trans rfl; have hfz102_0 := blk_frozen BK223.out 0; have hfz102_1 := blk_frozen BK223.out 1; have hfz102_2 := blk_frozen BK223.out 2) | (go_at_call 33; (with_reducible refine (rowkey_Same.calls kj24 t243 t244 _ _ t245 t213 t214 _ _ t215 true _ ?side1 ?side2 ?side3 ?side4 A36.out).mono ?_); (case side1 => refine (Kd.R_reads' (e := 53) (base := w.heap.size) (ok := fun k_ => ((True ∧ some k_ ≠ (.slice Ao17 t215.length co17 : Value).ownBlock) ∧ some k_ ≠ (.slice Ao19 t220.length co19 : Value).ownBlock)) (n := t245.length) (c := co100) ?_).2.2; exact (by (with_reducible repeat (first | apply Kd.R_alloc | apply Kd.R_drewN | apply Kd.R_drew)); exact (Kd.R_mono (Kd.R_far (p := ⟨gb250, 2, none⟩) (Kd.R_far (p := ⟨gb250, 1, none⟩) (Kd.R_far (p := ⟨gb250, 0, none⟩) (Kd.R_types HO247.out BK250.out (by decide)) (fun _ hk => hk.2) (.int .i64 t243)) (fun _ hk => hk.2) (.int .i64 t244)) (fun _ hk => hk.2) (.slice Ao100 t245.length co100)) (fun _ h_ => h_.1)))); (case side2 => exact (Kd.R_reads' HO247.out).2.1); (case side3 => refine (Kd.R_reads' (e := 53) (base := w.heap.size) (ok := fun k_ => (some k_ ≠ (.slice Ao19 t220.length co19 : Value).ownBlock ∧ some k_ ≠ (.slice Ao100 t245.length co100 : Value).ownBlock)) (n := t215.length) (c := co17) ?_).2.2; exact (by (with_reducible repeat (first | apply Kd.R_alloc | apply Kd.R_drewN | apply Kd.R_drew)); exact (Kd.R_mono (Kd.R_far (p := ⟨gb250, 2, none⟩) (Kd.R_far (p := ⟨gb250, 1, none⟩) (Kd.R_far (p := ⟨gb250, 0, none⟩) (Kd.R_types HO_224002.out BK250.out (by decide)) (fun _ hk => hk.2) (.int .i64 t243)) (fun _ hk => hk.2) (.int .i64 t244)) (fun _ hk => hk.2) (.slice Ao100 t245.length co100)) (fun _ h_ => h_.1)))); (case side4 => exact (Kd.R_reads' HO_224002.out).2.1); rintro e w103 ⟨rfl, hb⟩; have n0_ := Aside0.mk (Kd.R_below (by (with_reducible repeat (first | apply Kd.R_alloc | apply Kd.R_drewN | apply Kd.R_drew)); exact (Kd.R_mono (Kd.R_far (p := ⟨gb250, 2, none⟩) (Kd.R_far (p := ⟨gb250, 1, none⟩) (Kd.R_far (p := ⟨gb250, 0, none⟩) (Kd.R_types HO_13.out BK250.out (by decide)) (fun _ hk => hk.2) (.int .i64 t243)) (fun _ hk => hk.2) (.int .i64 t244)) (fun _ hk => hk.2) (.slice Ao100 t245.length co100)) (fun _ h_ => h_.1))) hb); have n1_ := Aside0.mk (Kd.R_below (by (with_reducible repeat (first | apply Kd.R_alloc | apply Kd.R_drewN | apply Kd.R_drew)); exact (Kd.R_mono (Kd.R_far (p := ⟨gb250, 2, none⟩) (Kd.R_far (p := ⟨gb250, 1, none⟩) (Kd.R_far (p := ⟨gb250, 0, none⟩) (Kd.R_types HO_15.out BK250.out (by decide)) (fun _ hk => hk.2) (.int .i64 t243)) (fun _ hk => hk.2) (.int .i64 t244)) (fun _ hk => hk.2) (.slice Ao100 t245.length co100)) (fun _ h_ => h_.1))) hb); have n2_ := Aside0.mk (Kd.R_below (by (with_reducible repeat (first | apply Kd.R_alloc | apply Kd.R_drewN | apply Kd.R_drew)); exact (Kd.R_mono (Kd.R_far (p := ⟨gb250, 2, none⟩) (Kd.R_far (p := ⟨gb250, 1, none⟩) (Kd.R_far (p := ⟨gb250, 0, none⟩) (Kd.R_types HO_224002.out BK250.out (by decide)) (fun _ hk => hk.2) (.int .i64 t243)) (fun _ hk => hk.2) (.int .i64 t244)) (fun _ hk => hk.2) (.slice Ao100 t245.length co100)) (fun _ h_ => h_.1))) hb); have n3_ := Aside0.mk (Kd.R_below (by (with_reducible repeat (first | apply Kd.R_alloc | apply Kd.R_drewN | apply Kd.R_drew)); exact (Kd.R_mono (Kd.R_far (p := ⟨gb250, 2, none⟩) (Kd.R_far (p := ⟨gb250, 1, none⟩) (Kd.R_far (p := ⟨gb250, 0, none⟩) (Kd.R_types HO_225002.out BK250.out (by decide)) (fun _ hk => hk.2) (.int .i64 t243)) (fun _ hk => hk.2) (.int .i64 t244)) (fun _ hk => hk.2) (.slice Ao100 t245.length co100)) (fun _ h_ => h_.1))) hb); have n4_ := Aside0.mk (Kd.R_below (by (with_reducible repeat (first | apply Kd.R_alloc | apply Kd.R_drewN | apply Kd.R_drew)); exact (Kd.R_mono (Kd.R_far (p := ⟨gb250, 2, none⟩) (Kd.R_far (p := ⟨gb250, 1, none⟩) (Kd.R_far (p := ⟨gb250, 0, none⟩) (Kd.R_types HO242.out BK250.out (by decide)) (fun _ hk => hk.2) (.int .i64 t243)) (fun _ hk => hk.2) (.int .i64 t244)) (fun _ hk => hk.2) (.slice Ao100 t245.length co100)) (fun _ h_ => h_.1))) hb); have n5_ := Aside0.mk (Kd.R_below (by (with_reducible repeat (first | apply Kd.R_alloc | apply Kd.R_drewN | apply Kd.R_drew)); exact (Kd.R_mono (Kd.R_far (p := ⟨gb250, 2, none⟩) (Kd.R_far (p := ⟨gb250, 1, none⟩) (Kd.R_far (p := ⟨gb250, 0, none⟩) (Kd.R_types HO247.out BK250.out (by decide)) (fun _ hk => hk.2) (.int .i64 t243)) (fun _ hk => hk.2) (.int .i64 t244)) (fun _ hk => hk.2) (.slice Ao100 t245.length co100)) (fun _ h_ => h_.1))) hb); have n6_ := Aside0.mk (bkBF BK223.out hb); have n7_ := Aside0.mk (bkBF BK224.out hb); have n8_ := Aside0.mk (blk_below (g := gb250) (o := .cells #[.int .i64 t243, .int .i64 t244, .slice Ao100 t245.length co100] 56 (0, 0)) (by (with_reducible repeat (first | refine blk_drewN ?_ _ | refine blk_drew ?_ | refine blk_alloc ?_ _)); refine blk_put (cs := #[.int .i64 t243, .int .i64 t244, .slice none 0 0]) ?_ 2 _ rfl; (with_reducible repeat (first | refine blk_drewN ?_ _ | refine blk_drew ?_ | refine blk_alloc ?_ _)); refine blk_put (cs := #[.int .i64 t243, .int .i64 0, .slice none 0 0]) ?_ 1 _ rfl; (with_reducible repeat (first | refine blk_drewN ?_ _ | refine blk_drew ?_ | refine blk_alloc ?_ _)); refine blk_put (cs := #[.int .i64 0, .int .i64 0, .slice none 0 0]) ?_ 0 _ rfl; (with_reducible repeat (first | refine blk_drewN ?_ _ | refine blk_drew ?_ | refine blk_alloc ?_ _)); exact BK250.out) hb); have n9_ := Aside0.mk (below_step (belS HB.out) hb); clear HO_13; clear HO_15; clear HO_224002; clear HO_225002; clear HO242; clear HO247; clear BK223; clear BK224; clear BK250; clear HB; have HO_13 := n0_; have HO_15 := n1_; have HO_224002 := n2_; have HO_225002 := n3_; have HO242 := n4_; have HO247 := n5_; have BK223 := n6_; have BK224 := n7_; have BK250 := n8_; have HB := n9_; clear n0_ n1_ n2_ n3_ n4_ n5_ n6_ n7_ n8_ n9_; (try clear hb); (try clear hk)))
                have n0_ := Aside0.mk (Kd.R_drew HO_13.out)
                have n1_ := Aside0.mk (Kd.R_drew HO_15.out)
                have n2_ := Aside0.mk (Kd.R_drew HO_224002.out)
                have n3_ := Aside0.mk (Kd.R_drew HO_225002.out)
                have n4_ := Aside0.mk (Kd.R_drew HO242.out)
                have n5_ := Aside0.mk (Kd.R_drew HO247.out)
                have n6_ := Aside0.mk (blk_drew BK223.out)
                have n7_ := Aside0.mk (blk_drew BK224.out)
                have n8_ := Aside0.mk (blk_drew BK250.out)
                have n9_ := Aside0.mk (below_drew1 HB.out)
                clear HO_13
                clear HO_15
                clear HO_224002
                clear HO_225002
                clear HO242
                clear HO247
                clear BK223
                clear BK224
                clear BK250
                clear HB
                have HO_13 := n0_
                have HO_15 := n1_
                have HO_224002 := n2_
                have HO_225002 := n3_
                have HO242 := n4_
                have HO247 := n5_
                have BK223 := n6_
                have BK224 := n7_
                have BK250 := n8_
                have HB := n9_
                clear n0_ n1_ n2_ n3_ n4_ n5_ n6_ n7_ n8_ n9_
                have p252 : 0 ≤ (0 : Int) := (by omega)
                have q252 : 0 < (t225.length : Int) := of_decide_eq_true (by first | (with_reducible assumption) | assumption)
                obtain ⟨ad252, e252, hx252_0⟩ := Kd.at_int (Kd.R_reads' HO_13.out).2.2 0 p252 q252
                cases e252
                have qi252 : (0 < t225.length) = True := eq_true (by omega)
                (try rw [show ((0 : Int)).toNat = 0 from rfl] at hx252_0)
                (try rw [Addr.add_zero'] at hx252_0)
                replace p252 := eq_true p252
                replace q252 := eq_true q252
                obtain ⟨Ao105, co105, eo105⟩ := Kd.R_slice HO_15.out
                (first | subst eo105 | (injection eo105 with f1_ f2_ f3_; have f4_ := f1_.symm; have f5_ := f3_.symm; clear f1_ f2_ f3_; subst f4_; subst f5_))
                have p253 : 0 ≤ (0 : Int) := (by omega)
                have q253 : 0 < (t229.length : Int) := of_decide_eq_true (by first | (with_reducible assumption) | assumption)
                obtain ⟨ad253, e253, hx253_0⟩ := Kd.at_int (Kd.R_reads' HO_15.out).2.2 0 p253 q253
                cases e253
                have qi253 : (0 < t229.length) = True := eq_true (by omega)
                (try rw [show ((0 : Int)).toNat = 0 from rfl] at hx253_0)
                (try rw [Addr.add_zero'] at hx253_0)
                replace p253 := eq_true p253
                replace q253 := eq_true q253
                refine start_ (n := 37) (S := fun w' => w'.cell? ⟨gb223, 0, none⟩ = some (.int .i64 t213) ∧ w'.cell? ⟨gb223, 1, none⟩ = some (.int .i64 t214) ∧ w'.cell? ⟨gb223, 2, none⟩ = some (.slice Ao17 t215.length co17) ∧ w'.cell? ⟨gb224, 0, none⟩ = some (.int .i64 t218) ∧ w'.cell? ⟨gb224, 1, none⟩ = some (.int .i64 t219) ∧ w'.cell? ⟨gb224, 2, none⟩ = some (.slice Ao19 t220.length co19) ∧ w'.cell? ad252 = some (.int .u8 (rd t225 0)) ∧ w'.cell? ad253 = some (.int .u8 (rd t229 0)) ∧ (convert 30 9 (.slice (some ad252) t225.length co92)).run Try.prog w' = .ok (.string (strOfNums t225)) w' ∧ (convert 30 9 (.slice (some ad253) t229.length co105)).run Try.prog w' = .ok (.string (strOfNums t229)) w') (ds := []) #[false, false, false, false, false, false, false, false, false, false, false, false, false, false, false, false, false, false, false, false, false, false, false, false, false, false, false, false, false, false, false, false, false, false, false, false, false] (by kernel_rfl) rfl rfl ⟨(blk_cell BK223.out 0).trans rfl, (blk_cell BK223.out 1).trans rfl, (blk_cell BK223.out 2).trans rfl, (blk_cell BK224.out 0).trans rfl, (blk_cell BK224.out 1).trans rfl, (blk_cell BK224.out 2).trans rfl, hx252_0, hx253_0, (own_string (P := Try.prog) Try.underlying30 Try.underlying5 Try.underlying9 (Kd.own_of_R HO_13.out)), (own_string (P := Try.prog) Try.underlying30 Try.underlying5 Try.underlying9 (Kd.own_of_R HO_15.out))⟩ (fun hHeld => ?_); refine with_tabW marigraphlaw14_RowkeyBack.tab11 marigraphlaw14_RowkeyBack.bits11 (fun HT_ HW_ => ?_)
                generalize w103.drew = w104 at HO_13 HO_15 HO_224002 HO_225002 HO242 HO247 BK223 BK224 BK250 HB hx252_0 hx253_0 hHeld ⊢
                have HV106 := HO_13
                have HV107 := HO_15
                refine pA 0 (some 77) (bA 37 1) HT_.out ?_
                refine pA 1 (some 78) (bA 37 3) HT_.out ?_
                refine pA 3 (some 80) (bA 37 11) HT_.out ?_
                refine pA 4 (some 81) (bA 37 27) HT_.out ?_
                refine take_ (i := 2) (N := some 79) (v := ?_) (a' := ?_) (bA 37 31) rfl rfl (take_ofW HT_.out HW_.out (by kernel_rfl)) (fun _ _ _ h => h) (Or.inl ⟨by rfl, ?_⟩) hHeld ?_ ?_
                rotate_left
                ·rintro w' ⟨s0, s1, s2, s3, s4, s5, s6, s7, s8, s9⟩
                 go_simp
                 with_reducible rfl
                rotate_left
                ·simp only [Act.put, List.setIfInBounds_toArray, List.set_cons_zero, List.set_cons_succ, i64_w, i32_w]
                 rfl
                refine take_ (i := 5) (N := some 82) (v := ?_) (a' := ?_) (bA 37 63) rfl rfl (take_ofW HT_.out HW_.out (by kernel_rfl)) (fun _ _ _ h => h) (Or.inl ⟨by rfl, ?_⟩) hHeld ?_ ?_
                rotate_left
                ·rintro w' ⟨s0, s1, s2, s3, s4, s5, s6, s7, s8, s9⟩
                 go_simp
                 with_reducible rfl
                rotate_left
                ·simp only [Act.put, List.setIfInBounds_toArray, List.set_cons_zero, List.set_cons_succ, i64_w, i32_w]
                 rfl
                refine pA 6 (some 83) (bA 37 127) HT_.out ?_
                refine pA 7 (some 84) (bA 37 255) HT_.out ?_
                refine pA 8 (some 85) (bA 37 511) HT_.out ?_
                refine pA 10 (some 87) (bA 37 1535) HT_.out ?_
                refine pA 13 (some 90) (bA 37 9727) HT_.out ?_
                refine pA 15 (some 92) (bA 37 42495) HT_.out ?_
                refine take_ (i := 9) (N := some 86) (v := ?_) (a' := ?_) (bA 37 43007) rfl rfl (take_ofW HT_.out HW_.out (by kernel_rfl)) (fun _ _ _ h => h) (Or.inl ⟨by rfl, ?_⟩) hHeld ?_ ?_
                rotate_left
                ·rintro w' ⟨s0, s1, s2, s3, s4, s5, s6, s7, s8, s9⟩
                 go_simp
                 with_reducible rfl
                rotate_left
                ·simp only [Act.put, List.setIfInBounds_toArray, List.set_cons_zero, List.set_cons_succ, i64_w, i32_w]
                 rfl
                refine take_ (i := 11) (N := some 88) (v := ?_) (a' := ?_) (bA 37 45055) rfl rfl (take_ofW HT_.out HW_.out (by kernel_rfl)) (fun _ _ _ h => h) (Or.inl ⟨by rfl, ?_⟩) hHeld ?_ ?_
                rotate_left
                ·rintro w' ⟨s0, s1, s2, s3, s4, s5, s6, s7, s8, s9⟩
                 go_simp
                 with_reducible rfl
                rotate_left
                ·simp only [Act.put, List.setIfInBounds_toArray, List.set_cons_zero, List.set_cons_succ, i64_w, i32_w]
                 rfl
                refine pA 12 (some 89) (bA 37 49151) HT_.out ?_
                refine take_ (i := 14) (N := some 91) (v := ?_) (a' := ?_) (bA 37 65535) rfl rfl (take_ofW HT_.out HW_.out (by kernel_rfl)) (fun _ _ _ h => h) (Or.inl ⟨by rfl, ?_⟩) hHeld ?_ ?_
                rotate_left
                ·rintro w' ⟨s0, s1, s2, s3, s4, s5, s6, s7, s8, s9⟩
                 go_simp
                 with_reducible rfl
                rotate_left
                ·simp only [Act.put, List.setIfInBounds_toArray, List.set_cons_zero, List.set_cons_succ, i64_w, i32_w]
                 rfl
                refine take_ (i := 16) (N := some 93) (v := ?_) (a' := ?_) (bA 37 131071) rfl rfl (take_ofW HT_.out HW_.out (by kernel_rfl)) (fun _ _ _ h => h) (Or.inl ⟨by rfl, ?_⟩) hHeld ?_ ?_
                rotate_left
                ·rintro w' ⟨s0, s1, s2, s3, s4, s5, s6, s7, s8, s9⟩
                 go_simp
                 with_reducible rfl
                rotate_left
                ·simp only [Act.put, List.setIfInBounds_toArray, List.set_cons_zero, List.set_cons_succ, i64_w, i32_w]
                 rfl
                refine pA 17 (some 94) (bA 37 262143) HT_.out ?_
                refine pA 18 (some 95) (bA 37 524287) HT_.out ?_
                refine pA 19 (some 96) (bA 37 1048575) HT_.out ?_
                refine pA 20 (some 97) (bA 37 2097151) HT_.out ?_
                refine pU 21 (some 98) (bA 37 4194303) HT_.out ?_
                refine pU 22 (some 99) (bA 37 8388607) HT_.out ?_
                refine pU 23 (some 100) (bA 37 16777215) HT_.out ?_
                refine pU 24 (some 101) (bA 37 33554431) HT_.out ?_
                refine pU 25 (some 102) (bA 37 67108863) HT_.out ?_
                refine pU 26 (some 103) (bA 37 134217727) HT_.out ?_
                refine pU 27 (some 104) (bA 37 268435455) HT_.out ?_
                refine pU 28 (some 105) (bA 37 536870911) HT_.out ?_
                refine pU 29 (some 106) (bA 37 1073741823) HT_.out ?_
                refine pU 30 (some 107) (bA 37 2147483647) HT_.out ?_
                refine pU 31 (some 108) (bA 37 4294967295) HT_.out ?_
                refine pA 32 (some 109) (bA 37 8589934591) HT_.out ?_
                refine pA 33 (some 110) (bA 37 17179869183) HT_.out ?_
                refine pU 34 (some 111) (bA 37 34359738367) HT_.out ?_
                refine pA 35 (some 112) (bA 37 68719476735) HT_.out ?_
                refine pA 36 (some 10) (bA 37 137438953471) HT_.out ?_
                refine done_ (done_of HT_.out (by kernel_rfl)) ?_
                try go_wp2
                go_ret
                exact ⟨by first | rfl | (simp [errW_none, errW_some] <;> rfl) | (simp [*, errW_none, errW_some] <;> rfl), (belS HB.out)⟩
              ·rw [if_neg c40] at H
               have c40b0 : ((rd t225 0) == (rd t229 0)) = false := beq_eq_false_iff_ne.mpr c40
               have c40b1 : ((rd t225 0) != (rd t229 0)) = true := bne_iff_ne.mpr c40
               by_cases c109 : (((strOfNums t225).toList == (strOfNums t229).toList) == (t214 == t219)) = true
               ·rw [if_pos c109] at H
                have c109b0 : (((strOfNums t225).toList == (strOfNums t229).toList) == (t214 == t219)) = true := c109
                (try (have c109b1 : decide (((strOfNums t225).toList == (strOfNums t229).toList) = (t214 == t219)) = true := by simpa using c109))
                (try (have c109b2 : (((strOfNums t225).toList == (strOfNums t229).toList) == (t214 == t219)) = true := by simpa using c109))
                clear c109
                replace H := Option.bind_eq_some_iff.mp H
                obtain ⟨t255, A1100, H⟩ := H
                replace H : (some t255) = some r := H
                have A110 := Aside0.mk A1100
                clear A1100
                obtain rfl := Option.some.inj H
                try go_wp2_with (first | ((with_reducible refine gate_dst (N := 53) rfl ?_); (try (refine gate_guard (by rfl) ?_; dsimp only)); refine Kd.R_lit (Kd.int .u8) _ 5 ?hg (N := 53) ?hd (xs := ([] : List Int)) (inner := []) (ok := fun _ => True) (okp := fun _ => True) ?hr ?hp (fun _ hk => hk) trivial (Below.refl _ _) (Nat.le_refl _) (by simp) ?_; (case hd => rfl); (case hg => rfl); (case hr => first | (go_simp; done) | (go_simp; rfl)); (case hp => exact (Reps.none _ _)); intro v234 w111 ho112 hb hg_ hnew_; clear hg_ hnew_; (first | rw [← Ny233.out] at ho112 | (simp only [Int.reduceToNat] at ho112; rw [← Ny233.out] at ho112)); have n0_ := Aside0.mk (Kd.R_elder' (rowN HO_13.out) (Kd.R_base ho112) hb); have n1_ := Aside0.mk (Kd.R_elder' (rowN HO_15.out) (Kd.R_base ho112) hb); have n2_ := Aside0.mk (Kd.R_below (rowN HO_224002.out) hb); have n3_ := Aside0.mk (Kd.R_below (rowN HO_225002.out) hb); have n4_ := Aside0.mk (Kd.R_lower (Kd.R_new' (Kd.R_new' ho112 (Kd.R_lt (rowN HO_13.out))) (Kd.R_lt (rowN HO_15.out))) (below_size (belS HB.out))); have n5_ := Aside0.mk (bkB BK223.out hb); have n6_ := Aside0.mk (bkB BK224.out hb); have n7_ := Aside0.mk (below_step (belS HB.out) hb); clear HO_13; clear HO_15; clear HO_224002; clear HO_225002; clear BK223; clear BK224; clear HB; have HO_13 := n0_; have HO_15 := n1_; have HO_224002 := n2_; have HO_225002 := n3_; have HO235 := n4_; have BK223 := n5_; have BK224 := n6_; have HB := n7_; clear n0_ n1_ n2_ n3_ n4_ n5_ n6_ n7_; clear hb ho112; obtain ⟨Ao114, co114, eo114⟩ := Kd.R_slice HO_13.out; subst eo114) | ((with_reducible refine gate_builtin (b := .append) (xs := #[.tmp 53, .tmp 54]) rfl ?_); (try (refine gate_guard (by rfl) ?_; dsimp only)); at_builtin; refine Kd.R_append_rows (Kd.int .u8) (w0 := w) w.heap.size rfl (.tmp 53) (.tmp 54) 30 5 (.int .u8 0) 1 rfl Try.underlying30 info5 rfl (by decide) (by omega) v234 y233 t225 _ _ _ (fun k_ => some k_ ≠ (.slice Ao114 t225.length co114 : Value).ownBlock ∧ some k_ ≠ (v230 : Value).ownBlock) (fun _ => False) rfl rfl ?aO ?aR (fun _ _ h => h) (fun _ h => h.elim) ?aF ?aB ?aS ?aL ?_; (case aR => repeat (first | exact (Kd.R_reads' HO_13.out).2.2 | (with_reducible refine Kd.C_alloc ?_ _) | (with_reducible refine Kd.C_drewN ?_ _) | (with_reducible refine Kd.C_drew ?_))); (case aB => exact (belS HB.out)); (case aF => exact (fun k_ hk => ⟨Kd.fresh' (Kd.R_lt (rowN HO_13.out)) k_ hk, Kd.fresh' (Kd.R_lt (rowN HO_15.out)) k_ hk⟩)); (case aO => exact (by (with_reducible repeat (first | apply Kd.R_alloc | apply Kd.R_drewN | apply Kd.R_drew)); exact Kd.R_mono HO235.out (fun _ hk => ⟨hk.1.2, hk.2⟩))); (case aS => exact (below_size (belS HB.out))); (case aL => have := LMc31.out; omega); intro v237 w113 ho hb hg hat; rw [← Ny236.out] at ho; have n0_ := Aside0.mk (Kd.R_after (ok := (fun k_ => some k_ ≠ (v230 : Value).ownBlock)) (rowN HO_13.out) hg hat); have n1_ := Aside0.mk (Kd.R_after (ok := (fun k_ => some k_ ≠ (.slice Ao114 t225.length co114 : Value).ownBlock)) (rowN HO_15.out) hg hat); have n2_ := Aside0.mk (Kd.R_over' (rowN HO_224002.out) (Kd.R_typed (rowN HO235.out)) (by decide) hg); have n3_ := Aside0.mk (Kd.R_over' (rowN HO_225002.out) (Kd.R_typed (rowN HO235.out)) (by decide) hg); have n4_ := Aside0.mk (blk_grown (g := gb223) (o := .cells #[.int .i64 t213, .int .i64 t214, .slice Ao17 t215.length co17] 56 (0, 0)) (blkN BK223.out) hg (Kd.R_ne HO235.out BK223.out (by decide))); have n5_ := Aside0.mk (blk_grown (g := gb224) (o := .cells #[.int .i64 t218, .int .i64 t219, .slice Ao19 t220.length co19] 56 (0, 0)) (blkN BK224.out) hg (Kd.R_ne HO235.out BK224.out (by decide))); have n6_ := Aside0.mk (hb); have n7_ := Aside0.mk (ho); clear HO_13; clear HO_15; clear HO_224002; clear HO_225002; clear BK223; clear BK224; clear HB; clear HO235; have HO_13 := n0_; have HO_15 := n1_; have HO_224002 := n2_; have HO_225002 := n3_; have BK223 := n4_; have BK224 := n5_; have HB := n6_; have HO238 := n7_; clear n0_ n1_ n2_ n3_ n4_ n5_ n6_ n7_; clear ho hb hg hat; have HR239 := Aside0.mk (cutI_C (n := 20) HR4.out); have HC239 := Aside0.mk (cutI_le (n := 20) HC4.out)) | ((with_reducible refine gate_callee (f := 25) rfl ?_); refine goesL_ (some 57) rfl rfl Try.func25 (by kernel_rfl) rfl #[.slice A4 l4.length c4, .int .i64 20] rfl (by (try simp only [List.map_toArray, List.map_cons, List.map_nil]); first | done | rfl) ?_; (with_reducible refine (marigraphkeep_Cut.callsR A4 c4 l4 20 20 _ HC4.out rfl).mono ?_); rintro e w' ⟨rfl, ⟨nd, rfl⟩⟩; refine ⟨_, rfl, ?_⟩) | ((with_reducible refine gate_builtin (b := .append) (xs := #[.tmp 55, .tmp 57]) rfl ?_); (try (refine gate_guard (by rfl) ?_; dsimp only)); at_builtin; refine Kd.R_append_rows (Kd.int .u8) (w0 := w) w.heap.size rfl (.tmp 55) (.tmp 57) 30 5 (.int .u8 0) 1 rfl Try.underlying30 info5 rfl (by decide) (by omega) v237 y236 (cutI l4 20) _ _ _ (fun k_ => some k_ ≠ (.slice Ao114 t225.length co114 : Value).ownBlock ∧ some k_ ≠ (v230 : Value).ownBlock) (fun _ => False) rfl rfl ?aO ?aR (fun _ _ h => h) (fun _ h => h.elim) ?aF ?aB ?aS ?aL ?_; (case aR => repeat (first | exact (Kd.C_below HR239.out (belS HB.out)) | (with_reducible refine Kd.C_alloc ?_ _) | (with_reducible refine Kd.C_drewN ?_ _) | (with_reducible refine Kd.C_drew ?_))); (case aB => exact (belS HB.out)); (case aF => exact (fun k_ hk => ⟨Kd.fresh' (Kd.R_lt (rowN HO_13.out)) k_ hk, Kd.fresh' (Kd.R_lt (rowN HO_15.out)) k_ hk⟩)); (case aO => exact (rowN HO238.out)); (case aS => exact (below_size (belS HB.out))); (case aL => have := LMc32.out; omega); intro v241 w115 ho hb hg hat; rw [← Ny240.out] at ho; have n0_ := Aside0.mk (Kd.R_after (ok := (fun k_ => some k_ ≠ (v230 : Value).ownBlock)) (rowN HO_13.out) hg hat); have n1_ := Aside0.mk (Kd.R_after (ok := (fun k_ => some k_ ≠ (.slice Ao114 t225.length co114 : Value).ownBlock)) (rowN HO_15.out) hg hat); have n2_ := Aside0.mk (Kd.R_over' (rowN HO_224002.out) (Kd.R_typed (rowN HO238.out)) (by decide) hg); have n3_ := Aside0.mk (Kd.R_over' (rowN HO_225002.out) (Kd.R_typed (rowN HO238.out)) (by decide) hg); have n4_ := Aside0.mk (blk_grown (g := gb223) (o := .cells #[.int .i64 t213, .int .i64 t214, .slice Ao17 t215.length co17] 56 (0, 0)) (blkN BK223.out) hg (Kd.R_ne HO238.out BK223.out (by decide))); have n5_ := Aside0.mk (blk_grown (g := gb224) (o := .cells #[.int .i64 t218, .int .i64 t219, .slice Ao19 t220.length co19] 56 (0, 0)) (blkN BK224.out) hg (Kd.R_ne HO238.out BK224.out (by decide))); have n6_ := Aside0.mk (hb); have n7_ := Aside0.mk (ho); clear HO_13; clear HO_15; clear HO_224002; clear HO_225002; clear BK223; clear BK224; clear HB; clear HO238; have HO_13 := n0_; have HO_15 := n1_; have HO_224002 := n2_; have HO_225002 := n3_; have BK223 := n4_; have BK224 := n5_; have HB := n6_; have HO242 := n7_; clear n0_ n1_ n2_ n3_ n4_ n5_ n6_ n7_; clear ho hb hg hat; obtain ⟨Ao116, co116, eo116⟩ := Kd.R_slice HO242.out; subst eo116) | ((with_reducible refine gate_callee (f := 41) rfl ?_); refine goesL_ (some 59) rfl rfl Try.func41 (by kernel_rfl) rfl #[.slice Ao116 y240.length co116] rfl argN ?_; (with_reducible refine (rowkey_Decode.calls kj24 _ _ y240 t243 t244 t245 t248 t249 _ ?side1 ?side2 A33.out).mono ?_); (case side1 => repeat (first | exact (Kd.R_reads' HO242.out).2.2 | (with_reducible refine Kd.C_alloc ?_ _) | (with_reducible refine Kd.C_drewN ?_ _) | (with_reducible refine Kd.C_drew ?_))); (case side2 => exact (Kd.R_reads' HO242.out).2.1); rintro e w117 ⟨v246, rfl, ho0, hb⟩; refine ⟨_, rfl, ?_⟩; have n0_ := Aside0.mk (Kd.R_below (rowN HO_13.out) hb); have n1_ := Aside0.mk (Kd.R_below (rowN HO_15.out) hb); have n2_ := Aside0.mk (Kd.R_elder' (rowN HO_224002.out) (Kd.R_base ho0) hb); have n3_ := Aside0.mk (Kd.R_elder' (rowN HO_225002.out) (Kd.R_base ho0) hb); have n4_ := Aside0.mk (Kd.R_below (rowN HO242.out) hb); have n5_ := Aside0.mk (Kd.R_lower (Kd.R_new' (Kd.R_new' ho0 (Kd.R_lt (rowN HO_224002.out))) (Kd.R_lt (rowN HO_225002.out))) (below_size (belS HB.out))); have n6_ := Aside0.mk (bkB BK223.out hb); have n7_ := Aside0.mk (bkB BK224.out hb); have n8_ := Aside0.mk (below_step (belS HB.out) hb); clear HO_13; clear HO_15; clear HO_224002; clear HO_225002; clear HO242; clear BK223; clear BK224; clear HB; have HO_13 := n0_; have HO_15 := n1_; have HO_224002 := n2_; have HO_225002 := n3_; have HO242 := n4_; have HO247 := n5_; have BK223 := n6_; have BK224 := n7_; have HB := n8_; clear n0_ n1_ n2_ n3_ n4_ n5_ n6_ n7_ n8_; (try clear hb); (try clear hk); (try clear ho0)) | ((with_reducible refine gate_dst (N := 17) rfl ?_); (try (refine gate_guard (by rfl) ?_; dsimp only)); refine box_event ?hg (N := 17) ?hd (cs := #[.int .i64 0, .int .i64 0, .slice none 0 0]) (t := 56) ?hr ?_; (case hd => rfl); (case hg => rfl); (case hr => first | (go_simp; done) | (go_simp; rfl)); intro gb250 hg w118 hbox hb; have n0_ := Aside0.mk (Kd.R_below (rowN HO_13.out) hb); have n1_ := Aside0.mk (Kd.R_below (rowN HO_15.out) hb); have n2_ := Aside0.mk (Kd.R_below (rowN HO_224002.out) hb); have n3_ := Aside0.mk (Kd.R_below (rowN HO_225002.out) hb); have n4_ := Aside0.mk (Kd.R_below (rowN HO242.out) hb); have n5_ := Aside0.mk (Kd.R_below (rowN HO247.out) hb); have n6_ := Aside0.mk (bkB BK223.out hb); have n7_ := Aside0.mk (bkB BK224.out hb); have n8_ := Aside0.mk (below_step (belS HB.out) hb); have n9_ := Aside0.mk (hbox); have n10_ := Aside0.mk (szB hg HB.out); have n11_ := Aside0.mk (szB hg HB.out); have n12_ := Aside0.mk ((bk1 hg BK223.out)); have n13_ := Aside0.mk ((bk2 hg BK223.out)); have n14_ := Aside0.mk ((bk1 hg BK224.out)); have n15_ := Aside0.mk ((bk2 hg BK224.out)); clear HO_13; clear HO_15; clear HO_224002; clear HO_225002; clear HO242; clear HO247; clear BK223; clear BK224; clear HB; have HO_13 := n0_; have HO_15 := n1_; have HO_224002 := n2_; have HO_225002 := n3_; have HO242 := n4_; have HO247 := n5_; have BK223 := n6_; have BK224 := n7_; have HB := n8_; have BK250 := n9_; have GW250 := n10_; have GE250 := n11_; have NB223_250 := n12_; have NB250_223 := n13_; have NB224_250 := n14_; have NB250_224 := n15_; clear n0_ n1_ n2_ n3_ n4_ n5_ n6_ n7_ n8_ n9_ n10_ n11_ n12_ n13_ n14_ n15_; clear hb hbox hg; have hnb119 := NB250_223.out; have hnc119 := NB223_250.out; have hnb120 := NB250_224.out; have hnc120 := NB224_250.out; have hcz121_0 : w118.cell? ⟨gb250, 0, none⟩ = some (.int .i64 0) := (blk_cell BK250.out 0).trans rfl; have hcz121_1 : w118.cell? ⟨gb250, 1, none⟩ = some (.int .i64 0) := (blk_cell BK250.out 1).trans rfl; have hcz121_2 : w118.cell? ⟨gb250, 2, none⟩ = some (.slice none 0 0) := (blk_cell BK250.out 2).trans rfl; have hfz121_0 := blk_frozen BK250.out 0; have hfz121_1 := blk_frozen BK250.out 1; have hfz121_2 := blk_frozen BK250.out 2; obtain ⟨Ao122, co122, eo122⟩ := Kd.R_slice HO247.out; subst eo122; have hnb123 := NB223_224.out; have hnc123 := NB224_223.out; have hcz124_0 : w118.cell? ⟨gb223, 0, none⟩ = some (.int .i64 t213) := (blk_cell BK223.out 0).trans rfl; have hcz124_1 : w118.cell? ⟨gb223, 1, none⟩ = some (.int .i64 t214) := (blk_cell BK223.out 1).trans rfl; have hcz124_2 : w118.cell? ⟨gb223, 2, none⟩ = some (.slice Ao17 t215.length co17) := (blk_cell BK223.out 2).trans rfl; have hfz124_0 := blk_frozen BK223.out 0; have hfz124_1 := blk_frozen BK223.out 1; have hfz124_2 := blk_frozen BK223.out 2) | (go_at_call 33; (with_reducible refine (rowkey_Same.calls kj24 t243 t244 _ _ t245 t213 t214 _ _ t215 true _ ?side1 ?side2 ?side3 ?side4 A36.out).mono ?_); (case side1 => refine (Kd.R_reads' (e := 53) (base := w.heap.size) (ok := fun k_ => ((True ∧ some k_ ≠ (.slice Ao17 t215.length co17 : Value).ownBlock) ∧ some k_ ≠ (.slice Ao19 t220.length co19 : Value).ownBlock)) (n := t245.length) (c := co122) ?_).2.2; exact (by (with_reducible repeat (first | apply Kd.R_alloc | apply Kd.R_drewN | apply Kd.R_drew)); exact (Kd.R_mono (Kd.R_far (p := ⟨gb250, 2, none⟩) (Kd.R_far (p := ⟨gb250, 1, none⟩) (Kd.R_far (p := ⟨gb250, 0, none⟩) (Kd.R_types HO247.out BK250.out (by decide)) (fun _ hk => hk.2) (.int .i64 t243)) (fun _ hk => hk.2) (.int .i64 t244)) (fun _ hk => hk.2) (.slice Ao122 t245.length co122)) (fun _ h_ => h_.1)))); (case side2 => exact (Kd.R_reads' HO247.out).2.1); (case side3 => refine (Kd.R_reads' (e := 53) (base := w.heap.size) (ok := fun k_ => (some k_ ≠ (.slice Ao19 t220.length co19 : Value).ownBlock ∧ some k_ ≠ (.slice Ao122 t245.length co122 : Value).ownBlock)) (n := t215.length) (c := co17) ?_).2.2; exact (by (with_reducible repeat (first | apply Kd.R_alloc | apply Kd.R_drewN | apply Kd.R_drew)); exact (Kd.R_mono (Kd.R_far (p := ⟨gb250, 2, none⟩) (Kd.R_far (p := ⟨gb250, 1, none⟩) (Kd.R_far (p := ⟨gb250, 0, none⟩) (Kd.R_types HO_224002.out BK250.out (by decide)) (fun _ hk => hk.2) (.int .i64 t243)) (fun _ hk => hk.2) (.int .i64 t244)) (fun _ hk => hk.2) (.slice Ao122 t245.length co122)) (fun _ h_ => h_.1)))); (case side4 => exact (Kd.R_reads' HO_224002.out).2.1); rintro e w125 ⟨rfl, hb⟩; have n0_ := Aside0.mk (Kd.R_below (by (with_reducible repeat (first | apply Kd.R_alloc | apply Kd.R_drewN | apply Kd.R_drew)); exact (Kd.R_mono (Kd.R_far (p := ⟨gb250, 2, none⟩) (Kd.R_far (p := ⟨gb250, 1, none⟩) (Kd.R_far (p := ⟨gb250, 0, none⟩) (Kd.R_types HO_13.out BK250.out (by decide)) (fun _ hk => hk.2) (.int .i64 t243)) (fun _ hk => hk.2) (.int .i64 t244)) (fun _ hk => hk.2) (.slice Ao122 t245.length co122)) (fun _ h_ => h_.1))) hb); have n1_ := Aside0.mk (Kd.R_below (by (with_reducible repeat (first | apply Kd.R_alloc | apply Kd.R_drewN | apply Kd.R_drew)); exact (Kd.R_mono (Kd.R_far (p := ⟨gb250, 2, none⟩) (Kd.R_far (p := ⟨gb250, 1, none⟩) (Kd.R_far (p := ⟨gb250, 0, none⟩) (Kd.R_types HO_15.out BK250.out (by decide)) (fun _ hk => hk.2) (.int .i64 t243)) (fun _ hk => hk.2) (.int .i64 t244)) (fun _ hk => hk.2) (.slice Ao122 t245.length co122)) (fun _ h_ => h_.1))) hb); have n2_ := Aside0.mk (Kd.R_below (by (with_reducible repeat (first | apply Kd.R_alloc | apply Kd.R_drewN | apply Kd.R_drew)); exact (Kd.R_mono (Kd.R_far (p := ⟨gb250, 2, none⟩) (Kd.R_far (p := ⟨gb250, 1, none⟩) (Kd.R_far (p := ⟨gb250, 0, none⟩) (Kd.R_types HO_224002.out BK250.out (by decide)) (fun _ hk => hk.2) (.int .i64 t243)) (fun _ hk => hk.2) (.int .i64 t244)) (fun _ hk => hk.2) (.slice Ao122 t245.length co122)) (fun _ h_ => h_.1))) hb); have n3_ := Aside0.mk (Kd.R_below (by (with_reducible repeat (first | apply Kd.R_alloc | apply Kd.R_drewN | apply Kd.R_drew)); exact (Kd.R_mono (Kd.R_far (p := ⟨gb250, 2, none⟩) (Kd.R_far (p := ⟨gb250, 1, none⟩) (Kd.R_far (p := ⟨gb250, 0, none⟩) (Kd.R_types HO_225002.out BK250.out (by decide)) (fun _ hk => hk.2) (.int .i64 t243)) (fun _ hk => hk.2) (.int .i64 t244)) (fun _ hk => hk.2) (.slice Ao122 t245.length co122)) (fun _ h_ => h_.1))) hb); have n4_ := Aside0.mk (Kd.R_below (by (with_reducible repeat (first | apply Kd.R_alloc | apply Kd.R_drewN | apply Kd.R_drew)); exact (Kd.R_mono (Kd.R_far (p := ⟨gb250, 2, none⟩) (Kd.R_far (p := ⟨gb250, 1, none⟩) (Kd.R_far (p := ⟨gb250, 0, none⟩) (Kd.R_types HO242.out BK250.out (by decide)) (fun _ hk => hk.2) (.int .i64 t243)) (fun _ hk => hk.2) (.int .i64 t244)) (fun _ hk => hk.2) (.slice Ao122 t245.length co122)) (fun _ h_ => h_.1))) hb); have n5_ := Aside0.mk (Kd.R_below (by (with_reducible repeat (first | apply Kd.R_alloc | apply Kd.R_drewN | apply Kd.R_drew)); exact (Kd.R_mono (Kd.R_far (p := ⟨gb250, 2, none⟩) (Kd.R_far (p := ⟨gb250, 1, none⟩) (Kd.R_far (p := ⟨gb250, 0, none⟩) (Kd.R_types HO247.out BK250.out (by decide)) (fun _ hk => hk.2) (.int .i64 t243)) (fun _ hk => hk.2) (.int .i64 t244)) (fun _ hk => hk.2) (.slice Ao122 t245.length co122)) (fun _ h_ => h_.1))) hb); have n6_ := Aside0.mk (bkBF BK223.out hb); have n7_ := Aside0.mk (bkBF BK224.out hb); have n8_ := Aside0.mk (blk_below (g := gb250) (o := .cells #[.int .i64 t243, .int .i64 t244, .slice Ao122 t245.length co122] 56 (0, 0)) (by (with_reducible repeat (first | refine blk_drewN ?_ _ | refine blk_drew ?_ | refine blk_alloc ?_ _)); refine blk_put (cs := #[.int .i64 t243, .int .i64 t244, .slice none 0 0]) ?_ 2 _ rfl; (with_reducible repeat (first | refine blk_drewN ?_ _ | refine blk_drew ?_ | refine blk_alloc ?_ _)); refine blk_put (cs := #[.int .i64 t243, .int .i64 0, .slice none 0 0]) ?_ 1 _ rfl; (with_reducible repeat (first | refine blk_drewN ?_ _ | refine blk_drew ?_ | refine blk_alloc ?_ _)); refine blk_put (cs := #[.int .i64 0, .int .i64 0, .slice none 0 0]) ?_ 0 _ rfl; (with_reducible repeat (first | refine blk_drewN ?_ _ | refine blk_drew ?_ | refine blk_alloc ?_ _)); exact BK250.out) hb); have n9_ := Aside0.mk (below_step (belS HB.out) hb); clear HO_13; clear HO_15; clear HO_224002; clear HO_225002; clear HO242; clear HO247; clear BK223; clear BK224; clear BK250; clear HB; have HO_13 := n0_; have HO_15 := n1_; have HO_224002 := n2_; have HO_225002 := n3_; have HO242 := n4_; have HO247 := n5_; have BK223 := n6_; have BK224 := n7_; have BK250 := n8_; have HB := n9_; clear n0_ n1_ n2_ n3_ n4_ n5_ n6_ n7_ n8_ n9_; (try clear hb); (try clear hk)))
                have n0_ := Aside0.mk (Kd.R_drew HO_13.out)
                have n1_ := Aside0.mk (Kd.R_drew HO_15.out)
                have n2_ := Aside0.mk (Kd.R_drew HO_224002.out)
                have n3_ := Aside0.mk (Kd.R_drew HO_225002.out)
                have n4_ := Aside0.mk (Kd.R_drew HO242.out)
                have n5_ := Aside0.mk (Kd.R_drew HO247.out)
                have n6_ := Aside0.mk (blk_drew BK223.out)
                have n7_ := Aside0.mk (blk_drew BK224.out)
                have n8_ := Aside0.mk (blk_drew BK250.out)
                have n9_ := Aside0.mk (below_drew1 HB.out)
                clear HO_13
                clear HO_15
                clear HO_224002
                clear HO_225002
                clear HO242
                clear HO247
                clear BK223
                clear BK224
                clear BK250
                clear HB
                have HO_13 := n0_
                have HO_15 := n1_
                have HO_224002 := n2_
                have HO_225002 := n3_
                have HO242 := n4_
                have HO247 := n5_
                have BK223 := n6_
                have BK224 := n7_
                have BK250 := n8_
                have HB := n9_
                clear n0_ n1_ n2_ n3_ n4_ n5_ n6_ n7_ n8_ n9_
                have p252 : 0 ≤ (0 : Int) := (by omega)
                have q252 : 0 < (t225.length : Int) := of_decide_eq_true (by first | (with_reducible assumption) | assumption)
                obtain ⟨ad252, e252, hx252_0⟩ := Kd.at_int (Kd.R_reads' HO_13.out).2.2 0 p252 q252
                cases e252
                have qi252 : (0 < t225.length) = True := eq_true (by omega)
                (try rw [show ((0 : Int)).toNat = 0 from rfl] at hx252_0)
                (try rw [Addr.add_zero'] at hx252_0)
                replace p252 := eq_true p252
                replace q252 := eq_true q252
                obtain ⟨Ao127, co127, eo127⟩ := Kd.R_slice HO_15.out
                (first | subst eo127 | (injection eo127 with f1_ f2_ f3_; have f4_ := f1_.symm; have f5_ := f3_.symm; clear f1_ f2_ f3_; subst f4_; subst f5_))
                have p253 : 0 ≤ (0 : Int) := (by omega)
                have q253 : 0 < (t229.length : Int) := of_decide_eq_true (by first | (with_reducible assumption) | assumption)
                obtain ⟨ad253, e253, hx253_0⟩ := Kd.at_int (Kd.R_reads' HO_15.out).2.2 0 p253 q253
                cases e253
                have qi253 : (0 < t229.length) = True := eq_true (by omega)
                (try rw [show ((0 : Int)).toNat = 0 from rfl] at hx253_0)
                (try rw [Addr.add_zero'] at hx253_0)
                replace p253 := eq_true p253
                replace q253 := eq_true q253
                refine start_ (n := 37) (S := fun w' => w'.cell? ⟨gb223, 0, none⟩ = some (.int .i64 t213) ∧ w'.cell? ⟨gb223, 1, none⟩ = some (.int .i64 t214) ∧ w'.cell? ⟨gb223, 2, none⟩ = some (.slice Ao17 t215.length co17) ∧ w'.cell? ⟨gb224, 0, none⟩ = some (.int .i64 t218) ∧ w'.cell? ⟨gb224, 1, none⟩ = some (.int .i64 t219) ∧ w'.cell? ⟨gb224, 2, none⟩ = some (.slice Ao19 t220.length co19) ∧ w'.cell? ad252 = some (.int .u8 (rd t225 0)) ∧ w'.cell? ad253 = some (.int .u8 (rd t229 0)) ∧ (convert 30 9 (.slice (some ad252) t225.length co114)).run Try.prog w' = .ok (.string (strOfNums t225)) w' ∧ (convert 30 9 (.slice (some ad253) t229.length co127)).run Try.prog w' = .ok (.string (strOfNums t229)) w') (ds := []) #[false, false, false, false, false, false, false, false, false, false, false, false, false, false, false, false, false, false, false, false, false, false, false, false, false, false, false, false, false, false, false, false, false, false, false, false, false] (by kernel_rfl) rfl rfl ⟨(blk_cell BK223.out 0).trans rfl, (blk_cell BK223.out 1).trans rfl, (blk_cell BK223.out 2).trans rfl, (blk_cell BK224.out 0).trans rfl, (blk_cell BK224.out 1).trans rfl, (blk_cell BK224.out 2).trans rfl, hx252_0, hx253_0, (own_string (P := Try.prog) Try.underlying30 Try.underlying5 Try.underlying9 (Kd.own_of_R HO_13.out)), (own_string (P := Try.prog) Try.underlying30 Try.underlying5 Try.underlying9 (Kd.own_of_R HO_15.out))⟩ (fun hHeld => ?_); refine with_tabW marigraphlaw14_RowkeyBack.tab11 marigraphlaw14_RowkeyBack.bits11 (fun HT_ HW_ => ?_)
                generalize w125.drew = w126 at HO_13 HO_15 HO_224002 HO_225002 HO242 HO247 BK223 BK224 BK250 HB hx252_0 hx253_0 hHeld ⊢
                have HV128 := HO_13
                have HV129 := HO_15
                refine pA 0 (some 77) (bA 37 1) HT_.out ?_
                refine pA 1 (some 78) (bA 37 3) HT_.out ?_
                refine pA 3 (some 80) (bA 37 11) HT_.out ?_
                refine pA 4 (some 81) (bA 37 27) HT_.out ?_
                refine take_ (i := 2) (N := some 79) (v := ?_) (a' := ?_) (bA 37 31) rfl rfl (take_ofW HT_.out HW_.out (by kernel_rfl)) (fun _ _ _ h => h) (Or.inl ⟨by rfl, ?_⟩) hHeld ?_ ?_
                rotate_left
                ·rintro w' ⟨s0, s1, s2, s3, s4, s5, s6, s7, s8, s9⟩
                 go_simp
                 with_reducible rfl
                rotate_left
                ·simp only [Act.put, List.setIfInBounds_toArray, List.set_cons_zero, List.set_cons_succ, i64_w, i32_w]
                 rfl
                refine take_ (i := 5) (N := some 82) (v := ?_) (a' := ?_) (bA 37 63) rfl rfl (take_ofW HT_.out HW_.out (by kernel_rfl)) (fun _ _ _ h => h) (Or.inl ⟨by rfl, ?_⟩) hHeld ?_ ?_
                rotate_left
                ·rintro w' ⟨s0, s1, s2, s3, s4, s5, s6, s7, s8, s9⟩
                 go_simp
                 with_reducible rfl
                rotate_left
                ·simp only [Act.put, List.setIfInBounds_toArray, List.set_cons_zero, List.set_cons_succ, i64_w, i32_w]
                 rfl
                refine pA 6 (some 83) (bA 37 127) HT_.out ?_
                refine pA 7 (some 84) (bA 37 255) HT_.out ?_
                refine pU 8 (some 85) (bA 37 511) HT_.out ?_
                refine pU 9 (some 86) (bA 37 1023) HT_.out ?_
                refine pU 10 (some 87) (bA 37 2047) HT_.out ?_
                refine pU 11 (some 88) (bA 37 4095) HT_.out ?_
                refine pU 12 (some 89) (bA 37 8191) HT_.out ?_
                refine pU 13 (some 90) (bA 37 16383) HT_.out ?_
                refine pU 14 (some 91) (bA 37 32767) HT_.out ?_
                refine pU 15 (some 92) (bA 37 65535) HT_.out ?_
                refine pU 16 (some 93) (bA 37 131071) HT_.out ?_
                refine pU 17 (some 94) (bA 37 262143) HT_.out ?_
                refine pU 18 (some 95) (bA 37 524287) HT_.out ?_
                refine pA 19 (some 96) (bA 37 1048575) HT_.out ?_
                refine pA 20 (some 97) (bA 37 2097151) HT_.out ?_
                refine pA 21 (some 98) (bA 37 4194303) HT_.out ?_
                refine pA 23 (some 100) (bA 37 12582911) HT_.out ?_
                refine pA 26 (some 103) (bA 37 79691775) HT_.out ?_
                refine pA 28 (some 105) (bA 37 348127231) HT_.out ?_
                refine take_ (i := 22) (N := some 99) (v := ?_) (a' := ?_) (bA 37 352321535) rfl rfl (take_ofW HT_.out HW_.out (by kernel_rfl)) (fun _ _ _ h => h) (Or.inl ⟨by rfl, ?_⟩) hHeld ?_ ?_
                rotate_left
                ·rintro w' ⟨s0, s1, s2, s3, s4, s5, s6, s7, s8, s9⟩
                 go_simp
                 with_reducible rfl
                rotate_left
                ·simp only [Act.put, List.setIfInBounds_toArray, List.set_cons_zero, List.set_cons_succ, i64_w, i32_w]
                 rfl
                refine take_ (i := 24) (N := some 101) (v := ?_) (a' := ?_) (bA 37 369098751) rfl rfl (take_ofW HT_.out HW_.out (by kernel_rfl)) (fun _ _ _ h => h) (Or.inl ⟨by rfl, ?_⟩) hHeld ?_ ?_
                rotate_left
                ·rintro w' ⟨s0, s1, s2, s3, s4, s5, s6, s7, s8, s9⟩
                 go_simp
                 with_reducible rfl
                rotate_left
                ·simp only [Act.put, List.setIfInBounds_toArray, List.set_cons_zero, List.set_cons_succ, i64_w, i32_w]
                 rfl
                refine pA 25 (some 102) (bA 37 402653183) HT_.out ?_
                refine take_ (i := 27) (N := some 104) (v := ?_) (a' := ?_) (bA 37 536870911) rfl rfl (take_ofW HT_.out HW_.out (by kernel_rfl)) (fun _ _ _ h => h) (Or.inl ⟨by rfl, ?_⟩) hHeld ?_ ?_
                rotate_left
                ·rintro w' ⟨s0, s1, s2, s3, s4, s5, s6, s7, s8, s9⟩
                 go_simp
                 with_reducible rfl
                rotate_left
                ·simp only [Act.put, List.setIfInBounds_toArray, List.set_cons_zero, List.set_cons_succ, i64_w, i32_w]
                 rfl
                refine take_ (i := 29) (N := some 106) (v := ?_) (a' := ?_) (bA 37 1073741823) rfl rfl (take_ofW HT_.out HW_.out (by kernel_rfl)) (fun _ _ _ h => h) (Or.inl ⟨by rfl, ?_⟩) hHeld ?_ ?_
                rotate_left
                ·rintro w' ⟨s0, s1, s2, s3, s4, s5, s6, s7, s8, s9⟩
                 go_simp
                 with_reducible rfl
                rotate_left
                ·simp only [Act.put, List.setIfInBounds_toArray, List.set_cons_zero, List.set_cons_succ, i64_w, i32_w]
                 rfl
                refine pA 30 (some 107) (bA 37 2147483647) HT_.out ?_
                refine pA 31 (some 108) (bA 37 4294967295) HT_.out ?_
                refine pA 32 (some 109) (bA 37 8589934591) HT_.out ?_
                refine pA 33 (some 110) (bA 37 17179869183) HT_.out ?_
                refine one_ (i := 34) (N := some 111) (bA 37 34359738367) rfl rfl (one_of HT_.out (by kernel_rfl)) (by decide) (fun K hK => ?_)
                refine goes_ Try.func38 (by kernel_rfl) rfl #[] (by rfl) rfl rfl argN ?_
                with_reducible refine (marigraphlaw14_known.calls kj24  t255 _ A110.out).mono ?_
                rintro e w131 ⟨rfl, hb⟩
                have HV128 := Aside0.mk (Kd.R_below (rowN HV128.out) hb)
                have HV129 := Aside0.mk (Kd.R_below (rowN HV129.out) hb)
                have HS6_ := (hb.cell (World.block_lt_of_cell? _ _ (hHeld.2.2.2.2.2.2.1))).trans (hHeld.2.2.2.2.2.2.1)
                have HS7_ := (hb.cell (World.block_lt_of_cell? _ _ (hHeld.2.2.2.2.2.2.2.1))).trans (hHeld.2.2.2.2.2.2.2.1)
                refine ⟨_, rfl, ?_⟩
                have n0_ := Aside0.mk (Kd.R_below (rowN HO_13.out) hb)
                have n1_ := Aside0.mk (Kd.R_below (rowN HO_15.out) hb)
                have n2_ := Aside0.mk (Kd.R_below (rowN HO_224002.out) hb)
                have n3_ := Aside0.mk (Kd.R_below (rowN HO_225002.out) hb)
                have n4_ := Aside0.mk (Kd.R_below (rowN HO242.out) hb)
                have n5_ := Aside0.mk (Kd.R_below (rowN HO247.out) hb)
                have n6_ := Aside0.mk (bkB BK223.out hb)
                have n7_ := Aside0.mk (bkB BK224.out hb)
                have n8_ := Aside0.mk (bkB BK250.out hb)
                have n9_ := Aside0.mk (below_step (belS HB.out) hb)
                clear HO_13
                clear HO_15
                clear HO_224002
                clear HO_225002
                clear HO242
                clear HO247
                clear BK223
                clear BK224
                clear BK250
                clear HB
                have HO_13 := n0_
                have HO_15 := n1_
                have HO_224002 := n2_
                have HO_225002 := n3_
                have HO242 := n4_
                have HO247 := n5_
                have BK223 := n6_
                have BK224 := n7_
                have BK250 := n8_
                have HB := n9_
                clear n0_ n1_ n2_ n3_ n4_ n5_ n6_ n7_ n8_ n9_
                (try clear hb)
                (try clear hk)
                refine hK.out _ _ ⟨(blk_cell BK223.out 0).trans rfl, (blk_cell BK223.out 1).trans rfl, (blk_cell BK223.out 2).trans rfl, (blk_cell BK224.out 0).trans rfl, (blk_cell BK224.out 1).trans rfl, (blk_cell BK224.out 2).trans rfl, HS6_, HS7_, (own_string (P := Try.prog) Try.underlying30 Try.underlying5 Try.underlying9 (Kd.own_of_R (rowN HV128.out))), (own_string (P := Try.prog) Try.underlying30 Try.underlying5 Try.underlying9 (Kd.own_of_R (rowN HV129.out)))⟩ (fun hHeld => ?_)
                clear hK K
                refine norm_ (a' := ?_) ?_ ?_
                rotate_left
                ·show Act.put _ (some 111) _ = _
                 simp only [Act.put, List.setIfInBounds_toArray, List.set_cons_zero, List.set_cons_succ, i64_w, i32_w]
                 rfl
                refine pA 35 (some 112) (bA 37 68719476735) HT_.out ?_
                refine pA 36 (some 10) (bA 37 137438953471) HT_.out ?_
                refine done_ (done_of HT_.out (by kernel_rfl)) ?_
                try go_wp2
                go_ret
                exact ⟨by first | rfl | (simp [errW_none, errW_some] <;> rfl) | (simp [*, errW_none, errW_some] <;> rfl), (belS HB.out)⟩
               ·rw [if_neg c109] at H
                have c109b0 : (((strOfNums t225).toList == (strOfNums t229).toList) == (t214 == t219)) = false := by simpa using c109
                (try (have c109b1 : decide (((strOfNums t225).toList == (strOfNums t229).toList) = (t214 == t219)) = false := by simpa using c109))
                (try (have c109b2 : (((strOfNums t225).toList == (strOfNums t229).toList) == (t214 == t219)) = false := by simpa using c109))
                (try (have c109b3 : ¬ (((strOfNums t225).toList == (strOfNums t229).toList) = (t214 == t219)) := by simpa using c109))
                clear c109
                obtain rfl := Option.some.inj H
                try go_wp2_with (first | ((with_reducible refine gate_dst (N := 53) rfl ?_); (try (refine gate_guard (by rfl) ?_; dsimp only)); refine Kd.R_lit (Kd.int .u8) _ 5 ?hg (N := 53) ?hd (xs := ([] : List Int)) (inner := []) (ok := fun _ => True) (okp := fun _ => True) ?hr ?hp (fun _ hk => hk) trivial (Below.refl _ _) (Nat.le_refl _) (by simp) ?_; (case hd => rfl); (case hg => rfl); (case hr => first | (go_simp; done) | (go_simp; rfl)); (case hp => exact (Reps.none _ _)); intro v234 w132 ho133 hb hg_ hnew_; clear hg_ hnew_; (first | rw [← Ny233.out] at ho133 | (simp only [Int.reduceToNat] at ho133; rw [← Ny233.out] at ho133)); have n0_ := Aside0.mk (Kd.R_elder' (rowN HO_13.out) (Kd.R_base ho133) hb); have n1_ := Aside0.mk (Kd.R_elder' (rowN HO_15.out) (Kd.R_base ho133) hb); have n2_ := Aside0.mk (Kd.R_below (rowN HO_224002.out) hb); have n3_ := Aside0.mk (Kd.R_below (rowN HO_225002.out) hb); have n4_ := Aside0.mk (Kd.R_lower (Kd.R_new' (Kd.R_new' ho133 (Kd.R_lt (rowN HO_13.out))) (Kd.R_lt (rowN HO_15.out))) (below_size (belS HB.out))); have n5_ := Aside0.mk (bkB BK223.out hb); have n6_ := Aside0.mk (bkB BK224.out hb); have n7_ := Aside0.mk (below_step (belS HB.out) hb); clear HO_13; clear HO_15; clear HO_224002; clear HO_225002; clear BK223; clear BK224; clear HB; have HO_13 := n0_; have HO_15 := n1_; have HO_224002 := n2_; have HO_225002 := n3_; have HO235 := n4_; have BK223 := n5_; have BK224 := n6_; have HB := n7_; clear n0_ n1_ n2_ n3_ n4_ n5_ n6_ n7_; clear hb ho133; obtain ⟨Ao135, co135, eo135⟩ := Kd.R_slice HO_13.out; subst eo135) | ((with_reducible refine gate_builtin (b := .append) (xs := #[.tmp 53, .tmp 54]) rfl ?_); (try (refine gate_guard (by rfl) ?_; dsimp only)); at_builtin; refine Kd.R_append_rows (Kd.int .u8) (w0 := w) w.heap.size rfl (.tmp 53) (.tmp 54) 30 5 (.int .u8 0) 1 rfl Try.underlying30 info5 rfl (by decide) (by omega) v234 y233 t225 _ _ _ (fun k_ => some k_ ≠ (.slice Ao135 t225.length co135 : Value).ownBlock ∧ some k_ ≠ (v230 : Value).ownBlock) (fun _ => False) rfl rfl ?aO ?aR (fun _ _ h => h) (fun _ h => h.elim) ?aF ?aB ?aS ?aL ?_; (case aR => repeat (first | exact (Kd.R_reads' HO_13.out).2.2 | (with_reducible refine Kd.C_alloc ?_ _) | (with_reducible refine Kd.C_drewN ?_ _) | (with_reducible refine Kd.C_drew ?_))); (case aB => exact (belS HB.out)); (case aF => exact (fun k_ hk => ⟨Kd.fresh' (Kd.R_lt (rowN HO_13.out)) k_ hk, Kd.fresh' (Kd.R_lt (rowN HO_15.out)) k_ hk⟩)); (case aO => exact (by (with_reducible repeat (first | apply Kd.R_alloc | apply Kd.R_drewN | apply Kd.R_drew)); exact Kd.R_mono HO235.out (fun _ hk => ⟨hk.1.2, hk.2⟩))); (case aS => exact (below_size (belS HB.out))); (case aL => have := LMc31.out; omega); intro v237 w134 ho hb hg hat; rw [← Ny236.out] at ho; have n0_ := Aside0.mk (Kd.R_after (ok := (fun k_ => some k_ ≠ (v230 : Value).ownBlock)) (rowN HO_13.out) hg hat); have n1_ := Aside0.mk (Kd.R_after (ok := (fun k_ => some k_ ≠ (.slice Ao135 t225.length co135 : Value).ownBlock)) (rowN HO_15.out) hg hat); have n2_ := Aside0.mk (Kd.R_over' (rowN HO_224002.out) (Kd.R_typed (rowN HO235.out)) (by decide) hg); have n3_ := Aside0.mk (Kd.R_over' (rowN HO_225002.out) (Kd.R_typed (rowN HO235.out)) (by decide) hg); have n4_ := Aside0.mk (blk_grown (g := gb223) (o := .cells #[.int .i64 t213, .int .i64 t214, .slice Ao17 t215.length co17] 56 (0, 0)) (blkN BK223.out) hg (Kd.R_ne HO235.out BK223.out (by decide))); have n5_ := Aside0.mk (blk_grown (g := gb224) (o := .cells #[.int .i64 t218, .int .i64 t219, .slice Ao19 t220.length co19] 56 (0, 0)) (blkN BK224.out) hg (Kd.R_ne HO235.out BK224.out (by decide))); have n6_ := Aside0.mk (hb); have n7_ := Aside0.mk (ho); clear HO_13; clear HO_15; clear HO_224002; clear HO_225002; clear BK223; clear BK224; clear HB; clear HO235; have HO_13 := n0_; have HO_15 := n1_; have HO_224002 := n2_; have HO_225002 := n3_; have BK223 := n4_; have BK224 := n5_; have HB := n6_; have HO238 := n7_; clear n0_ n1_ n2_ n3_ n4_ n5_ n6_ n7_; clear ho hb hg hat; have HR239 := Aside0.mk (cutI_C (n := 20) HR4.out); have HC239 := Aside0.mk (cutI_le (n := 20) HC4.out)) | ((with_reducible refine gate_callee (f := 25) rfl ?_); refine goesL_ (some 57) rfl rfl Try.func25 (by kernel_rfl) rfl #[.slice A4 l4.length c4, .int .i64 20] rfl (by (try simp only [List.map_toArray, List.map_cons, List.map_nil]); first | done | rfl) ?_; (with_reducible refine (marigraphkeep_Cut.callsR A4 c4 l4 20 20 _ HC4.out rfl).mono ?_); rintro e w' ⟨rfl, ⟨nd, rfl⟩⟩; refine ⟨_, rfl, ?_⟩) | ((with_reducible refine gate_builtin (b := .append) (xs := #[.tmp 55, .tmp 57]) rfl ?_); (try (refine gate_guard (by rfl) ?_; dsimp only)); at_builtin; refine Kd.R_append_rows (Kd.int .u8) (w0 := w) w.heap.size rfl (.tmp 55) (.tmp 57) 30 5 (.int .u8 0) 1 rfl Try.underlying30 info5 rfl (by decide) (by omega) v237 y236 (cutI l4 20) _ _ _ (fun k_ => some k_ ≠ (.slice Ao135 t225.length co135 : Value).ownBlock ∧ some k_ ≠ (v230 : Value).ownBlock) (fun _ => False) rfl rfl ?aO ?aR (fun _ _ h => h) (fun _ h => h.elim) ?aF ?aB ?aS ?aL ?_; (case aR => repeat (first | exact (Kd.C_below HR239.out (belS HB.out)) | (with_reducible refine Kd.C_alloc ?_ _) | (with_reducible refine Kd.C_drewN ?_ _) | (with_reducible refine Kd.C_drew ?_))); (case aB => exact (belS HB.out)); (case aF => exact (fun k_ hk => ⟨Kd.fresh' (Kd.R_lt (rowN HO_13.out)) k_ hk, Kd.fresh' (Kd.R_lt (rowN HO_15.out)) k_ hk⟩)); (case aO => exact (rowN HO238.out)); (case aS => exact (below_size (belS HB.out))); (case aL => have := LMc32.out; omega); intro v241 w136 ho hb hg hat; rw [← Ny240.out] at ho; have n0_ := Aside0.mk (Kd.R_after (ok := (fun k_ => some k_ ≠ (v230 : Value).ownBlock)) (rowN HO_13.out) hg hat); have n1_ := Aside0.mk (Kd.R_after (ok := (fun k_ => some k_ ≠ (.slice Ao135 t225.length co135 : Value).ownBlock)) (rowN HO_15.out) hg hat); have n2_ := Aside0.mk (Kd.R_over' (rowN HO_224002.out) (Kd.R_typed (rowN HO238.out)) (by decide) hg); have n3_ := Aside0.mk (Kd.R_over' (rowN HO_225002.out) (Kd.R_typed (rowN HO238.out)) (by decide) hg); have n4_ := Aside0.mk (blk_grown (g := gb223) (o := .cells #[.int .i64 t213, .int .i64 t214, .slice Ao17 t215.length co17] 56 (0, 0)) (blkN BK223.out) hg (Kd.R_ne HO238.out BK223.out (by decide))); have n5_ := Aside0.mk (blk_grown (g := gb224) (o := .cells #[.int .i64 t218, .int .i64 t219, .slice Ao19 t220.length co19] 56 (0, 0)) (blkN BK224.out) hg (Kd.R_ne HO238.out BK224.out (by decide))); have n6_ := Aside0.mk (hb); have n7_ := Aside0.mk (ho); clear HO_13; clear HO_15; clear HO_224002; clear HO_225002; clear BK223; clear BK224; clear HB; clear HO238; have HO_13 := n0_; have HO_15 := n1_; have HO_224002 := n2_; have HO_225002 := n3_; have BK223 := n4_; have BK224 := n5_; have HB := n6_; have HO242 := n7_; clear n0_ n1_ n2_ n3_ n4_ n5_ n6_ n7_; clear ho hb hg hat; obtain ⟨Ao137, co137, eo137⟩ := Kd.R_slice HO242.out; subst eo137) | ((with_reducible refine gate_callee (f := 41) rfl ?_); refine goesL_ (some 59) rfl rfl Try.func41 (by kernel_rfl) rfl #[.slice Ao137 y240.length co137] rfl argN ?_; (with_reducible refine (rowkey_Decode.calls kj24 _ _ y240 t243 t244 t245 t248 t249 _ ?side1 ?side2 A33.out).mono ?_); (case side1 => repeat (first | exact (Kd.R_reads' HO242.out).2.2 | (with_reducible refine Kd.C_alloc ?_ _) | (with_reducible refine Kd.C_drewN ?_ _) | (with_reducible refine Kd.C_drew ?_))); (case side2 => exact (Kd.R_reads' HO242.out).2.1); rintro e w138 ⟨v246, rfl, ho0, hb⟩; refine ⟨_, rfl, ?_⟩; have n0_ := Aside0.mk (Kd.R_below (rowN HO_13.out) hb); have n1_ := Aside0.mk (Kd.R_below (rowN HO_15.out) hb); have n2_ := Aside0.mk (Kd.R_elder' (rowN HO_224002.out) (Kd.R_base ho0) hb); have n3_ := Aside0.mk (Kd.R_elder' (rowN HO_225002.out) (Kd.R_base ho0) hb); have n4_ := Aside0.mk (Kd.R_below (rowN HO242.out) hb); have n5_ := Aside0.mk (Kd.R_lower (Kd.R_new' (Kd.R_new' ho0 (Kd.R_lt (rowN HO_224002.out))) (Kd.R_lt (rowN HO_225002.out))) (below_size (belS HB.out))); have n6_ := Aside0.mk (bkB BK223.out hb); have n7_ := Aside0.mk (bkB BK224.out hb); have n8_ := Aside0.mk (below_step (belS HB.out) hb); clear HO_13; clear HO_15; clear HO_224002; clear HO_225002; clear HO242; clear BK223; clear BK224; clear HB; have HO_13 := n0_; have HO_15 := n1_; have HO_224002 := n2_; have HO_225002 := n3_; have HO242 := n4_; have HO247 := n5_; have BK223 := n6_; have BK224 := n7_; have HB := n8_; clear n0_ n1_ n2_ n3_ n4_ n5_ n6_ n7_ n8_; (try clear hb); (try clear hk); (try clear ho0)) | ((with_reducible refine gate_dst (N := 17) rfl ?_); (try (refine gate_guard (by rfl) ?_; dsimp only)); refine box_event ?hg (N := 17) ?hd (cs := #[.int .i64 0, .int .i64 0, .slice none 0 0]) (t := 56) ?hr ?_; (case hd => rfl); (case hg => rfl); (case hr => first | (go_simp; done) | (go_simp; rfl)); intro gb250 hg w139 hbox hb; have n0_ := Aside0.mk (Kd.R_below (rowN HO_13.out) hb); have n1_ := Aside0.mk (Kd.R_below (rowN HO_15.out) hb); have n2_ := Aside0.mk (Kd.R_below (rowN HO_224002.out) hb); have n3_ := Aside0.mk (Kd.R_below (rowN HO_225002.out) hb); have n4_ := Aside0.mk (Kd.R_below (rowN HO242.out) hb); have n5_ := Aside0.mk (Kd.R_below (rowN HO247.out) hb); have n6_ := Aside0.mk (bkB BK223.out hb); have n7_ := Aside0.mk (bkB BK224.out hb); have n8_ := Aside0.mk (below_step (belS HB.out) hb); have n9_ := Aside0.mk (hbox); have n10_ := Aside0.mk (szB hg HB.out); have n11_ := Aside0.mk (szB hg HB.out); have n12_ := Aside0.mk ((bk1 hg BK223.out)); have n13_ := Aside0.mk ((bk2 hg BK223.out)); have n14_ := Aside0.mk ((bk1 hg BK224.out)); have n15_ := Aside0.mk ((bk2 hg BK224.out)); clear HO_13; clear HO_15; clear HO_224002; clear HO_225002; clear HO242; clear HO247; clear BK223; clear BK224; clear HB; have HO_13 := n0_; have HO_15 := n1_; have HO_224002 := n2_; have HO_225002 := n3_; have HO242 := n4_; have HO247 := n5_; have BK223 := n6_; have BK224 := n7_; have HB := n8_; have BK250 := n9_; have GW250 := n10_; have GE250 := n11_; have NB223_250 := n12_; have NB250_223 := n13_; have NB224_250 := n14_; have NB250_224 := n15_; clear n0_ n1_ n2_ n3_ n4_ n5_ n6_ n7_ n8_ n9_ n10_ n11_ n12_ n13_ n14_ n15_; clear hb hbox hg; have hnb140 := NB250_223.out; have hnc140 := NB223_250.out; have hnb141 := NB250_224.out; have hnc141 := NB224_250.out; have hcz142_0 : w139.cell? ⟨gb250, 0, none⟩ = some (.int .i64 0) := (blk_cell BK250.out 0).trans rfl; have hcz142_1 : w139.cell? ⟨gb250, 1, none⟩ = some (.int .i64 0) := (blk_cell BK250.out 1).trans rfl; have hcz142_2 : w139.cell? ⟨gb250, 2, none⟩ = some (.slice none 0 0) := (blk_cell BK250.out 2).trans rfl; have hfz142_0 := blk_frozen BK250.out 0; have hfz142_1 := blk_frozen BK250.out 1; have hfz142_2 := blk_frozen BK250.out 2; obtain ⟨Ao143, co143, eo143⟩ := Kd.R_slice HO247.out; subst eo143; have hnb144 := NB223_224.out; have hnc144 := NB224_223.out; have hcz145_0 : w139.cell? ⟨gb223, 0, none⟩ = some (.int .i64 t213) := (blk_cell BK223.out 0).trans rfl; have hcz145_1 : w139.cell? ⟨gb223, 1, none⟩ = some (.int .i64 t214) := (blk_cell BK223.out 1).trans rfl; have hcz145_2 : w139.cell? ⟨gb223, 2, none⟩ = some (.slice Ao17 t215.length co17) := (blk_cell BK223.out 2).trans rfl; have hfz145_0 := blk_frozen BK223.out 0; have hfz145_1 := blk_frozen BK223.out 1; have hfz145_2 := blk_frozen BK223.out 2) | (go_at_call 33; (with_reducible refine (rowkey_Same.calls kj24 t243 t244 _ _ t245 t213 t214 _ _ t215 true _ ?side1 ?side2 ?side3 ?side4 A36.out).mono ?_); (case side1 => refine (Kd.R_reads' (e := 53) (base := w.heap.size) (ok := fun k_ => ((True ∧ some k_ ≠ (.slice Ao17 t215.length co17 : Value).ownBlock) ∧ some k_ ≠ (.slice Ao19 t220.length co19 : Value).ownBlock)) (n := t245.length) (c := co143) ?_).2.2; exact (by (with_reducible repeat (first | apply Kd.R_alloc | apply Kd.R_drewN | apply Kd.R_drew)); exact (Kd.R_mono (Kd.R_far (p := ⟨gb250, 2, none⟩) (Kd.R_far (p := ⟨gb250, 1, none⟩) (Kd.R_far (p := ⟨gb250, 0, none⟩) (Kd.R_types HO247.out BK250.out (by decide)) (fun _ hk => hk.2) (.int .i64 t243)) (fun _ hk => hk.2) (.int .i64 t244)) (fun _ hk => hk.2) (.slice Ao143 t245.length co143)) (fun _ h_ => h_.1)))); (case side2 => exact (Kd.R_reads' HO247.out).2.1); (case side3 => refine (Kd.R_reads' (e := 53) (base := w.heap.size) (ok := fun k_ => (some k_ ≠ (.slice Ao19 t220.length co19 : Value).ownBlock ∧ some k_ ≠ (.slice Ao143 t245.length co143 : Value).ownBlock)) (n := t215.length) (c := co17) ?_).2.2; exact (by (with_reducible repeat (first | apply Kd.R_alloc | apply Kd.R_drewN | apply Kd.R_drew)); exact (Kd.R_mono (Kd.R_far (p := ⟨gb250, 2, none⟩) (Kd.R_far (p := ⟨gb250, 1, none⟩) (Kd.R_far (p := ⟨gb250, 0, none⟩) (Kd.R_types HO_224002.out BK250.out (by decide)) (fun _ hk => hk.2) (.int .i64 t243)) (fun _ hk => hk.2) (.int .i64 t244)) (fun _ hk => hk.2) (.slice Ao143 t245.length co143)) (fun _ h_ => h_.1)))); (case side4 => exact (Kd.R_reads' HO_224002.out).2.1); rintro e w146 ⟨rfl, hb⟩; have n0_ := Aside0.mk (Kd.R_below (by (with_reducible repeat (first | apply Kd.R_alloc | apply Kd.R_drewN | apply Kd.R_drew)); exact (Kd.R_mono (Kd.R_far (p := ⟨gb250, 2, none⟩) (Kd.R_far (p := ⟨gb250, 1, none⟩) (Kd.R_far (p := ⟨gb250, 0, none⟩) (Kd.R_types HO_13.out BK250.out (by decide)) (fun _ hk => hk.2) (.int .i64 t243)) (fun _ hk => hk.2) (.int .i64 t244)) (fun _ hk => hk.2) (.slice Ao143 t245.length co143)) (fun _ h_ => h_.1))) hb); have n1_ := Aside0.mk (Kd.R_below (by (with_reducible repeat (first | apply Kd.R_alloc | apply Kd.R_drewN | apply Kd.R_drew)); exact (Kd.R_mono (Kd.R_far (p := ⟨gb250, 2, none⟩) (Kd.R_far (p := ⟨gb250, 1, none⟩) (Kd.R_far (p := ⟨gb250, 0, none⟩) (Kd.R_types HO_15.out BK250.out (by decide)) (fun _ hk => hk.2) (.int .i64 t243)) (fun _ hk => hk.2) (.int .i64 t244)) (fun _ hk => hk.2) (.slice Ao143 t245.length co143)) (fun _ h_ => h_.1))) hb); have n2_ := Aside0.mk (Kd.R_below (by (with_reducible repeat (first | apply Kd.R_alloc | apply Kd.R_drewN | apply Kd.R_drew)); exact (Kd.R_mono (Kd.R_far (p := ⟨gb250, 2, none⟩) (Kd.R_far (p := ⟨gb250, 1, none⟩) (Kd.R_far (p := ⟨gb250, 0, none⟩) (Kd.R_types HO_224002.out BK250.out (by decide)) (fun _ hk => hk.2) (.int .i64 t243)) (fun _ hk => hk.2) (.int .i64 t244)) (fun _ hk => hk.2) (.slice Ao143 t245.length co143)) (fun _ h_ => h_.1))) hb); have n3_ := Aside0.mk (Kd.R_below (by (with_reducible repeat (first | apply Kd.R_alloc | apply Kd.R_drewN | apply Kd.R_drew)); exact (Kd.R_mono (Kd.R_far (p := ⟨gb250, 2, none⟩) (Kd.R_far (p := ⟨gb250, 1, none⟩) (Kd.R_far (p := ⟨gb250, 0, none⟩) (Kd.R_types HO_225002.out BK250.out (by decide)) (fun _ hk => hk.2) (.int .i64 t243)) (fun _ hk => hk.2) (.int .i64 t244)) (fun _ hk => hk.2) (.slice Ao143 t245.length co143)) (fun _ h_ => h_.1))) hb); have n4_ := Aside0.mk (Kd.R_below (by (with_reducible repeat (first | apply Kd.R_alloc | apply Kd.R_drewN | apply Kd.R_drew)); exact (Kd.R_mono (Kd.R_far (p := ⟨gb250, 2, none⟩) (Kd.R_far (p := ⟨gb250, 1, none⟩) (Kd.R_far (p := ⟨gb250, 0, none⟩) (Kd.R_types HO242.out BK250.out (by decide)) (fun _ hk => hk.2) (.int .i64 t243)) (fun _ hk => hk.2) (.int .i64 t244)) (fun _ hk => hk.2) (.slice Ao143 t245.length co143)) (fun _ h_ => h_.1))) hb); have n5_ := Aside0.mk (Kd.R_below (by (with_reducible repeat (first | apply Kd.R_alloc | apply Kd.R_drewN | apply Kd.R_drew)); exact (Kd.R_mono (Kd.R_far (p := ⟨gb250, 2, none⟩) (Kd.R_far (p := ⟨gb250, 1, none⟩) (Kd.R_far (p := ⟨gb250, 0, none⟩) (Kd.R_types HO247.out BK250.out (by decide)) (fun _ hk => hk.2) (.int .i64 t243)) (fun _ hk => hk.2) (.int .i64 t244)) (fun _ hk => hk.2) (.slice Ao143 t245.length co143)) (fun _ h_ => h_.1))) hb); have n6_ := Aside0.mk (bkBF BK223.out hb); have n7_ := Aside0.mk (bkBF BK224.out hb); have n8_ := Aside0.mk (blk_below (g := gb250) (o := .cells #[.int .i64 t243, .int .i64 t244, .slice Ao143 t245.length co143] 56 (0, 0)) (by (with_reducible repeat (first | refine blk_drewN ?_ _ | refine blk_drew ?_ | refine blk_alloc ?_ _)); refine blk_put (cs := #[.int .i64 t243, .int .i64 t244, .slice none 0 0]) ?_ 2 _ rfl; (with_reducible repeat (first | refine blk_drewN ?_ _ | refine blk_drew ?_ | refine blk_alloc ?_ _)); refine blk_put (cs := #[.int .i64 t243, .int .i64 0, .slice none 0 0]) ?_ 1 _ rfl; (with_reducible repeat (first | refine blk_drewN ?_ _ | refine blk_drew ?_ | refine blk_alloc ?_ _)); refine blk_put (cs := #[.int .i64 0, .int .i64 0, .slice none 0 0]) ?_ 0 _ rfl; (with_reducible repeat (first | refine blk_drewN ?_ _ | refine blk_drew ?_ | refine blk_alloc ?_ _)); exact BK250.out) hb); have n9_ := Aside0.mk (below_step (belS HB.out) hb); clear HO_13; clear HO_15; clear HO_224002; clear HO_225002; clear HO242; clear HO247; clear BK223; clear BK224; clear BK250; clear HB; have HO_13 := n0_; have HO_15 := n1_; have HO_224002 := n2_; have HO_225002 := n3_; have HO242 := n4_; have HO247 := n5_; have BK223 := n6_; have BK224 := n7_; have BK250 := n8_; have HB := n9_; clear n0_ n1_ n2_ n3_ n4_ n5_ n6_ n7_ n8_ n9_; (try clear hb); (try clear hk)))
                have n0_ := Aside0.mk (Kd.R_drew HO_13.out)
                have n1_ := Aside0.mk (Kd.R_drew HO_15.out)
                have n2_ := Aside0.mk (Kd.R_drew HO_224002.out)
                have n3_ := Aside0.mk (Kd.R_drew HO_225002.out)
                have n4_ := Aside0.mk (Kd.R_drew HO242.out)
                have n5_ := Aside0.mk (Kd.R_drew HO247.out)
                have n6_ := Aside0.mk (blk_drew BK223.out)
                have n7_ := Aside0.mk (blk_drew BK224.out)
                have n8_ := Aside0.mk (blk_drew BK250.out)
                have n9_ := Aside0.mk (below_drew1 HB.out)
                clear HO_13
                clear HO_15
                clear HO_224002
                clear HO_225002
                clear HO242
                clear HO247
                clear BK223
                clear BK224
                clear BK250
                clear HB
                have HO_13 := n0_
                have HO_15 := n1_
                have HO_224002 := n2_
                have HO_225002 := n3_
                have HO242 := n4_
                have HO247 := n5_
                have BK223 := n6_
                have BK224 := n7_
                have BK250 := n8_
                have HB := n9_
                clear n0_ n1_ n2_ n3_ n4_ n5_ n6_ n7_ n8_ n9_
                have p252 : 0 ≤ (0 : Int) := (by omega)
                have q252 : 0 < (t225.length : Int) := of_decide_eq_true (by first | (with_reducible assumption) | assumption)
                obtain ⟨ad252, e252, hx252_0⟩ := Kd.at_int (Kd.R_reads' HO_13.out).2.2 0 p252 q252
                cases e252
                have qi252 : (0 < t225.length) = True := eq_true (by omega)
                (try rw [show ((0 : Int)).toNat = 0 from rfl] at hx252_0)
                (try rw [Addr.add_zero'] at hx252_0)
                replace p252 := eq_true p252
                replace q252 := eq_true q252
                obtain ⟨Ao148, co148, eo148⟩ := Kd.R_slice HO_15.out
                (first | subst eo148 | (injection eo148 with f1_ f2_ f3_; have f4_ := f1_.symm; have f5_ := f3_.symm; clear f1_ f2_ f3_; subst f4_; subst f5_))
                have p253 : 0 ≤ (0 : Int) := (by omega)
                have q253 : 0 < (t229.length : Int) := of_decide_eq_true (by first | (with_reducible assumption) | assumption)
                obtain ⟨ad253, e253, hx253_0⟩ := Kd.at_int (Kd.R_reads' HO_15.out).2.2 0 p253 q253
                cases e253
                have qi253 : (0 < t229.length) = True := eq_true (by omega)
                (try rw [show ((0 : Int)).toNat = 0 from rfl] at hx253_0)
                (try rw [Addr.add_zero'] at hx253_0)
                replace p253 := eq_true p253
                replace q253 := eq_true q253
                refine start_ (n := 37) (S := fun w' => w'.cell? ⟨gb223, 0, none⟩ = some (.int .i64 t213) ∧ w'.cell? ⟨gb223, 1, none⟩ = some (.int .i64 t214) ∧ w'.cell? ⟨gb223, 2, none⟩ = some (.slice Ao17 t215.length co17) ∧ w'.cell? ⟨gb224, 0, none⟩ = some (.int .i64 t218) ∧ w'.cell? ⟨gb224, 1, none⟩ = some (.int .i64 t219) ∧ w'.cell? ⟨gb224, 2, none⟩ = some (.slice Ao19 t220.length co19) ∧ w'.cell? ad252 = some (.int .u8 (rd t225 0)) ∧ w'.cell? ad253 = some (.int .u8 (rd t229 0)) ∧ (convert 30 9 (.slice (some ad252) t225.length co135)).run Try.prog w' = .ok (.string (strOfNums t225)) w' ∧ (convert 30 9 (.slice (some ad253) t229.length co148)).run Try.prog w' = .ok (.string (strOfNums t229)) w') (ds := []) #[false, false, false, false, false, false, false, false, false, false, false, false, false, false, false, false, false, false, false, false, false, false, false, false, false, false, false, false, false, false, false, false, false, false, false, false, false] (by kernel_rfl) rfl rfl ⟨(blk_cell BK223.out 0).trans rfl, (blk_cell BK223.out 1).trans rfl, (blk_cell BK223.out 2).trans rfl, (blk_cell BK224.out 0).trans rfl, (blk_cell BK224.out 1).trans rfl, (blk_cell BK224.out 2).trans rfl, hx252_0, hx253_0, (own_string (P := Try.prog) Try.underlying30 Try.underlying5 Try.underlying9 (Kd.own_of_R HO_13.out)), (own_string (P := Try.prog) Try.underlying30 Try.underlying5 Try.underlying9 (Kd.own_of_R HO_15.out))⟩ (fun hHeld => ?_); refine with_tabW marigraphlaw14_RowkeyBack.tab11 marigraphlaw14_RowkeyBack.bits11 (fun HT_ HW_ => ?_)
                generalize w146.drew = w147 at HO_13 HO_15 HO_224002 HO_225002 HO242 HO247 BK223 BK224 BK250 HB hx252_0 hx253_0 hHeld ⊢
                have HV149 := HO_13
                have HV150 := HO_15
                refine pA 0 (some 77) (bA 37 1) HT_.out ?_
                refine pA 1 (some 78) (bA 37 3) HT_.out ?_
                refine pA 3 (some 80) (bA 37 11) HT_.out ?_
                refine pA 4 (some 81) (bA 37 27) HT_.out ?_
                refine take_ (i := 2) (N := some 79) (v := ?_) (a' := ?_) (bA 37 31) rfl rfl (take_ofW HT_.out HW_.out (by kernel_rfl)) (fun _ _ _ h => h) (Or.inl ⟨by rfl, ?_⟩) hHeld ?_ ?_
                rotate_left
                ·rintro w' ⟨s0, s1, s2, s3, s4, s5, s6, s7, s8, s9⟩
                 go_simp
                 with_reducible rfl
                rotate_left
                ·simp only [Act.put, List.setIfInBounds_toArray, List.set_cons_zero, List.set_cons_succ, i64_w, i32_w]
                 rfl
                refine take_ (i := 5) (N := some 82) (v := ?_) (a' := ?_) (bA 37 63) rfl rfl (take_ofW HT_.out HW_.out (by kernel_rfl)) (fun _ _ _ h => h) (Or.inl ⟨by rfl, ?_⟩) hHeld ?_ ?_
                rotate_left
                ·rintro w' ⟨s0, s1, s2, s3, s4, s5, s6, s7, s8, s9⟩
                 go_simp
                 with_reducible rfl
                rotate_left
                ·simp only [Act.put, List.setIfInBounds_toArray, List.set_cons_zero, List.set_cons_succ, i64_w, i32_w]
                 rfl
                refine pA 6 (some 83) (bA 37 127) HT_.out ?_
                refine pA 7 (some 84) (bA 37 255) HT_.out ?_
                refine pU 8 (some 85) (bA 37 511) HT_.out ?_
                refine pU 9 (some 86) (bA 37 1023) HT_.out ?_
                refine pU 10 (some 87) (bA 37 2047) HT_.out ?_
                refine pU 11 (some 88) (bA 37 4095) HT_.out ?_
                refine pU 12 (some 89) (bA 37 8191) HT_.out ?_
                refine pU 13 (some 90) (bA 37 16383) HT_.out ?_
                refine pU 14 (some 91) (bA 37 32767) HT_.out ?_
                refine pU 15 (some 92) (bA 37 65535) HT_.out ?_
                refine pU 16 (some 93) (bA 37 131071) HT_.out ?_
                refine pU 17 (some 94) (bA 37 262143) HT_.out ?_
                refine pU 18 (some 95) (bA 37 524287) HT_.out ?_
                refine pA 19 (some 96) (bA 37 1048575) HT_.out ?_
                refine pA 20 (some 97) (bA 37 2097151) HT_.out ?_
                refine pA 21 (some 98) (bA 37 4194303) HT_.out ?_
                refine pA 23 (some 100) (bA 37 12582911) HT_.out ?_
                refine pA 26 (some 103) (bA 37 79691775) HT_.out ?_
                refine pA 28 (some 105) (bA 37 348127231) HT_.out ?_
                refine take_ (i := 22) (N := some 99) (v := ?_) (a' := ?_) (bA 37 352321535) rfl rfl (take_ofW HT_.out HW_.out (by kernel_rfl)) (fun _ _ _ h => h) (Or.inl ⟨by rfl, ?_⟩) hHeld ?_ ?_
                rotate_left
                ·rintro w' ⟨s0, s1, s2, s3, s4, s5, s6, s7, s8, s9⟩
                 go_simp
                 with_reducible rfl
                rotate_left
                ·simp only [Act.put, List.setIfInBounds_toArray, List.set_cons_zero, List.set_cons_succ, i64_w, i32_w]
                 rfl
                refine take_ (i := 24) (N := some 101) (v := ?_) (a' := ?_) (bA 37 369098751) rfl rfl (take_ofW HT_.out HW_.out (by kernel_rfl)) (fun _ _ _ h => h) (Or.inl ⟨by rfl, ?_⟩) hHeld ?_ ?_
                rotate_left
                ·rintro w' ⟨s0, s1, s2, s3, s4, s5, s6, s7, s8, s9⟩
                 go_simp
                 with_reducible rfl
                rotate_left
                ·simp only [Act.put, List.setIfInBounds_toArray, List.set_cons_zero, List.set_cons_succ, i64_w, i32_w]
                 rfl
                refine pA 25 (some 102) (bA 37 402653183) HT_.out ?_
                refine take_ (i := 27) (N := some 104) (v := ?_) (a' := ?_) (bA 37 536870911) rfl rfl (take_ofW HT_.out HW_.out (by kernel_rfl)) (fun _ _ _ h => h) (Or.inl ⟨by rfl, ?_⟩) hHeld ?_ ?_
                rotate_left
                ·rintro w' ⟨s0, s1, s2, s3, s4, s5, s6, s7, s8, s9⟩
                 go_simp
                 with_reducible rfl
                rotate_left
                ·simp only [Act.put, List.setIfInBounds_toArray, List.set_cons_zero, List.set_cons_succ, i64_w, i32_w]
                 rfl
                refine take_ (i := 29) (N := some 106) (v := ?_) (a' := ?_) (bA 37 1073741823) rfl rfl (take_ofW HT_.out HW_.out (by kernel_rfl)) (fun _ _ _ h => h) (Or.inl ⟨by rfl, ?_⟩) hHeld ?_ ?_
                rotate_left
                ·rintro w' ⟨s0, s1, s2, s3, s4, s5, s6, s7, s8, s9⟩
                 go_simp
                 with_reducible rfl
                rotate_left
                ·simp only [Act.put, List.setIfInBounds_toArray, List.set_cons_zero, List.set_cons_succ, i64_w, i32_w]
                 rfl
                refine pA 30 (some 107) (bA 37 2147483647) HT_.out ?_
                refine pA 31 (some 108) (bA 37 4294967295) HT_.out ?_
                refine pA 32 (some 109) (bA 37 8589934591) HT_.out ?_
                refine pA 33 (some 110) (bA 37 17179869183) HT_.out ?_
                refine pU 34 (some 111) (bA 37 34359738367) HT_.out ?_
                refine pA 35 (some 112) (bA 37 68719476735) HT_.out ?_
                refine pA 36 (some 10) (bA 37 137438953471) HT_.out ?_
                refine done_ (done_of HT_.out (by kernel_rfl)) ?_
                try go_wp2
                go_ret
                exact ⟨by first | rfl | (simp [errW_none, errW_some] <;> rfl) | (simp [*, errW_none, errW_some] <;> rfl), (belS HB.out)⟩
             ·rw [if_neg c39] at H
              exact absurd H (by simp)
            ·rw [if_neg c38] at H
             exact absurd H (by simp)
           ·replace c37 := Bool.eq_false_iff.mpr c37
            subst c37
            have H1 : (some false) = some r := by rw [if_neg (show ¬ (false = true) by decide)] at H; exact H
            clear H
            have H := H1
            clear H1
            obtain rfl := Option.some.inj H
            go_wp2_with (first | ((with_reducible refine gate_dst (N := 53) rfl ?_); (try (refine gate_guard (by rfl) ?_; dsimp only)); refine Kd.R_lit (Kd.int .u8) _ 5 ?hg (N := 53) ?hd (xs := ([] : List Int)) (inner := []) (ok := fun _ => True) (okp := fun _ => True) ?hr ?hp (fun _ hk => hk) trivial (Below.refl _ _) (Nat.le_refl _) (by simp) ?_; (case hd => rfl); (case hg => rfl); (case hr => first | (go_simp; done) | (go_simp; rfl)); (case hp => exact (Reps.none _ _)); intro v234 w152 ho153 hb hg_ hnew_; clear hg_ hnew_; (first | rw [← Ny233.out] at ho153 | (simp only [Int.reduceToNat] at ho153; rw [← Ny233.out] at ho153)); have n0_ := Aside0.mk (Kd.R_elder' (rowN HO_13.out) (Kd.R_base ho153) hb); have n1_ := Aside0.mk (Kd.R_elder' (rowN HO_15.out) (Kd.R_base ho153) hb); have n2_ := Aside0.mk (Kd.R_below (rowN HO_224002.out) hb); have n3_ := Aside0.mk (Kd.R_below (rowN HO_225002.out) hb); have n4_ := Aside0.mk (Kd.R_lower (Kd.R_new' (Kd.R_new' ho153 (Kd.R_lt (rowN HO_13.out))) (Kd.R_lt (rowN HO_15.out))) (below_size (belS HB.out))); have n5_ := Aside0.mk (bkB BK223.out hb); have n6_ := Aside0.mk (bkB BK224.out hb); have n7_ := Aside0.mk (below_step (belS HB.out) hb); clear HO_13; clear HO_15; clear HO_224002; clear HO_225002; clear BK223; clear BK224; clear HB; have HO_13 := n0_; have HO_15 := n1_; have HO_224002 := n2_; have HO_225002 := n3_; have HO235 := n4_; have BK223 := n5_; have BK224 := n6_; have HB := n7_; clear n0_ n1_ n2_ n3_ n4_ n5_ n6_ n7_; clear hb ho153; obtain ⟨Ao155, co155, eo155⟩ := Kd.R_slice HO_13.out; subst eo155) | ((with_reducible refine gate_builtin (b := .append) (xs := #[.tmp 53, .tmp 54]) rfl ?_); (try (refine gate_guard (by rfl) ?_; dsimp only)); at_builtin; refine Kd.R_append_rows (Kd.int .u8) (w0 := w) w.heap.size rfl (.tmp 53) (.tmp 54) 30 5 (.int .u8 0) 1 rfl Try.underlying30 info5 rfl (by decide) (by omega) v234 y233 t225 _ _ _ (fun k_ => some k_ ≠ (.slice Ao155 t225.length co155 : Value).ownBlock ∧ some k_ ≠ (v230 : Value).ownBlock) (fun _ => False) rfl rfl ?aO ?aR (fun _ _ h => h) (fun _ h => h.elim) ?aF ?aB ?aS ?aL ?_; (case aR => repeat (first | exact (Kd.R_reads' HO_13.out).2.2 | (with_reducible refine Kd.C_alloc ?_ _) | (with_reducible refine Kd.C_drewN ?_ _) | (with_reducible refine Kd.C_drew ?_))); (case aB => exact (belS HB.out)); (case aF => exact (fun k_ hk => ⟨Kd.fresh' (Kd.R_lt (rowN HO_13.out)) k_ hk, Kd.fresh' (Kd.R_lt (rowN HO_15.out)) k_ hk⟩)); (case aO => exact (by (with_reducible repeat (first | apply Kd.R_alloc | apply Kd.R_drewN | apply Kd.R_drew)); exact Kd.R_mono HO235.out (fun _ hk => ⟨hk.1.2, hk.2⟩))); (case aS => exact (below_size (belS HB.out))); (case aL => have := LMc31.out; omega); intro v237 w154 ho hb hg hat; rw [← Ny236.out] at ho; have n0_ := Aside0.mk (Kd.R_after (ok := (fun k_ => some k_ ≠ (v230 : Value).ownBlock)) (rowN HO_13.out) hg hat); have n1_ := Aside0.mk (Kd.R_after (ok := (fun k_ => some k_ ≠ (.slice Ao155 t225.length co155 : Value).ownBlock)) (rowN HO_15.out) hg hat); have n2_ := Aside0.mk (Kd.R_over' (rowN HO_224002.out) (Kd.R_typed (rowN HO235.out)) (by decide) hg); have n3_ := Aside0.mk (Kd.R_over' (rowN HO_225002.out) (Kd.R_typed (rowN HO235.out)) (by decide) hg); have n4_ := Aside0.mk (blk_grown (g := gb223) (o := .cells #[.int .i64 t213, .int .i64 t214, .slice Ao17 t215.length co17] 56 (0, 0)) (blkN BK223.out) hg (Kd.R_ne HO235.out BK223.out (by decide))); have n5_ := Aside0.mk (blk_grown (g := gb224) (o := .cells #[.int .i64 t218, .int .i64 t219, .slice Ao19 t220.length co19] 56 (0, 0)) (blkN BK224.out) hg (Kd.R_ne HO235.out BK224.out (by decide))); have n6_ := Aside0.mk (hb); have n7_ := Aside0.mk (ho); clear HO_13; clear HO_15; clear HO_224002; clear HO_225002; clear BK223; clear BK224; clear HB; clear HO235; have HO_13 := n0_; have HO_15 := n1_; have HO_224002 := n2_; have HO_225002 := n3_; have BK223 := n4_; have BK224 := n5_; have HB := n6_; have HO238 := n7_; clear n0_ n1_ n2_ n3_ n4_ n5_ n6_ n7_; clear ho hb hg hat; have HR239 := Aside0.mk (cutI_C (n := 20) HR4.out); have HC239 := Aside0.mk (cutI_le (n := 20) HC4.out)) | ((with_reducible refine gate_callee (f := 25) rfl ?_); refine goesL_ (some 57) rfl rfl Try.func25 (by kernel_rfl) rfl #[.slice A4 l4.length c4, .int .i64 20] rfl (by (try simp only [List.map_toArray, List.map_cons, List.map_nil]); first | done | rfl) ?_; (with_reducible refine (marigraphkeep_Cut.callsR A4 c4 l4 20 20 _ HC4.out rfl).mono ?_); rintro e w' ⟨rfl, ⟨nd, rfl⟩⟩; refine ⟨_, rfl, ?_⟩) | ((with_reducible refine gate_builtin (b := .append) (xs := #[.tmp 55, .tmp 57]) rfl ?_); (try (refine gate_guard (by rfl) ?_; dsimp only)); at_builtin; refine Kd.R_append_rows (Kd.int .u8) (w0 := w) w.heap.size rfl (.tmp 55) (.tmp 57) 30 5 (.int .u8 0) 1 rfl Try.underlying30 info5 rfl (by decide) (by omega) v237 y236 (cutI l4 20) _ _ _ (fun k_ => some k_ ≠ (.slice Ao155 t225.length co155 : Value).ownBlock ∧ some k_ ≠ (v230 : Value).ownBlock) (fun _ => False) rfl rfl ?aO ?aR (fun _ _ h => h) (fun _ h => h.elim) ?aF ?aB ?aS ?aL ?_; (case aR => repeat (first | exact (Kd.C_below HR239.out (belS HB.out)) | (with_reducible refine Kd.C_alloc ?_ _) | (with_reducible refine Kd.C_drewN ?_ _) | (with_reducible refine Kd.C_drew ?_))); (case aB => exact (belS HB.out)); (case aF => exact (fun k_ hk => ⟨Kd.fresh' (Kd.R_lt (rowN HO_13.out)) k_ hk, Kd.fresh' (Kd.R_lt (rowN HO_15.out)) k_ hk⟩)); (case aO => exact (rowN HO238.out)); (case aS => exact (below_size (belS HB.out))); (case aL => have := LMc32.out; omega); intro v241 w156 ho hb hg hat; rw [← Ny240.out] at ho; have n0_ := Aside0.mk (Kd.R_after (ok := (fun k_ => some k_ ≠ (v230 : Value).ownBlock)) (rowN HO_13.out) hg hat); have n1_ := Aside0.mk (Kd.R_after (ok := (fun k_ => some k_ ≠ (.slice Ao155 t225.length co155 : Value).ownBlock)) (rowN HO_15.out) hg hat); have n2_ := Aside0.mk (Kd.R_over' (rowN HO_224002.out) (Kd.R_typed (rowN HO238.out)) (by decide) hg); have n3_ := Aside0.mk (Kd.R_over' (rowN HO_225002.out) (Kd.R_typed (rowN HO238.out)) (by decide) hg); have n4_ := Aside0.mk (blk_grown (g := gb223) (o := .cells #[.int .i64 t213, .int .i64 t214, .slice Ao17 t215.length co17] 56 (0, 0)) (blkN BK223.out) hg (Kd.R_ne HO238.out BK223.out (by decide))); have n5_ := Aside0.mk (blk_grown (g := gb224) (o := .cells #[.int .i64 t218, .int .i64 t219, .slice Ao19 t220.length co19] 56 (0, 0)) (blkN BK224.out) hg (Kd.R_ne HO238.out BK224.out (by decide))); have n6_ := Aside0.mk (hb); have n7_ := Aside0.mk (ho); clear HO_13; clear HO_15; clear HO_224002; clear HO_225002; clear BK223; clear BK224; clear HB; clear HO238; have HO_13 := n0_; have HO_15 := n1_; have HO_224002 := n2_; have HO_225002 := n3_; have BK223 := n4_; have BK224 := n5_; have HB := n6_; have HO242 := n7_; clear n0_ n1_ n2_ n3_ n4_ n5_ n6_ n7_; clear ho hb hg hat; obtain ⟨Ao157, co157, eo157⟩ := Kd.R_slice HO242.out; subst eo157) | ((with_reducible refine gate_callee (f := 41) rfl ?_); refine goesL_ (some 59) rfl rfl Try.func41 (by kernel_rfl) rfl #[.slice Ao157 y240.length co157] rfl argN ?_; (with_reducible refine (rowkey_Decode.calls kj24 _ _ y240 t243 t244 t245 t248 t249 _ ?side1 ?side2 A33.out).mono ?_); (case side1 => repeat (first | exact (Kd.R_reads' HO242.out).2.2 | (with_reducible refine Kd.C_alloc ?_ _) | (with_reducible refine Kd.C_drewN ?_ _) | (with_reducible refine Kd.C_drew ?_))); (case side2 => exact (Kd.R_reads' HO242.out).2.1); rintro e w158 ⟨v246, rfl, ho0, hb⟩; refine ⟨_, rfl, ?_⟩; have n0_ := Aside0.mk (Kd.R_below (rowN HO_13.out) hb); have n1_ := Aside0.mk (Kd.R_below (rowN HO_15.out) hb); have n2_ := Aside0.mk (Kd.R_elder' (rowN HO_224002.out) (Kd.R_base ho0) hb); have n3_ := Aside0.mk (Kd.R_elder' (rowN HO_225002.out) (Kd.R_base ho0) hb); have n4_ := Aside0.mk (Kd.R_below (rowN HO242.out) hb); have n5_ := Aside0.mk (Kd.R_lower (Kd.R_new' (Kd.R_new' ho0 (Kd.R_lt (rowN HO_224002.out))) (Kd.R_lt (rowN HO_225002.out))) (below_size (belS HB.out))); have n6_ := Aside0.mk (bkB BK223.out hb); have n7_ := Aside0.mk (bkB BK224.out hb); have n8_ := Aside0.mk (below_step (belS HB.out) hb); clear HO_13; clear HO_15; clear HO_224002; clear HO_225002; clear HO242; clear BK223; clear BK224; clear HB; have HO_13 := n0_; have HO_15 := n1_; have HO_224002 := n2_; have HO_225002 := n3_; have HO242 := n4_; have HO247 := n5_; have BK223 := n6_; have BK224 := n7_; have HB := n8_; clear n0_ n1_ n2_ n3_ n4_ n5_ n6_ n7_ n8_; (try clear hb); (try clear hk); (try clear ho0)) | ((with_reducible refine gate_dst (N := 17) rfl ?_); (try (refine gate_guard (by rfl) ?_; dsimp only)); refine box_event ?hg (N := 17) ?hd (cs := #[.int .i64 0, .int .i64 0, .slice none 0 0]) (t := 56) ?hr ?_; (case hd => rfl); (case hg => rfl); (case hr => first | (go_simp; done) | (go_simp; rfl)); intro gb250 hg w159 hbox hb; have n0_ := Aside0.mk (Kd.R_below (rowN HO_13.out) hb); have n1_ := Aside0.mk (Kd.R_below (rowN HO_15.out) hb); have n2_ := Aside0.mk (Kd.R_below (rowN HO_224002.out) hb); have n3_ := Aside0.mk (Kd.R_below (rowN HO_225002.out) hb); have n4_ := Aside0.mk (Kd.R_below (rowN HO242.out) hb); have n5_ := Aside0.mk (Kd.R_below (rowN HO247.out) hb); have n6_ := Aside0.mk (bkB BK223.out hb); have n7_ := Aside0.mk (bkB BK224.out hb); have n8_ := Aside0.mk (below_step (belS HB.out) hb); have n9_ := Aside0.mk (hbox); have n10_ := Aside0.mk (szB hg HB.out); have n11_ := Aside0.mk (szB hg HB.out); have n12_ := Aside0.mk ((bk1 hg BK223.out)); have n13_ := Aside0.mk ((bk2 hg BK223.out)); have n14_ := Aside0.mk ((bk1 hg BK224.out)); have n15_ := Aside0.mk ((bk2 hg BK224.out)); clear HO_13; clear HO_15; clear HO_224002; clear HO_225002; clear HO242; clear HO247; clear BK223; clear BK224; clear HB; have HO_13 := n0_; have HO_15 := n1_; have HO_224002 := n2_; have HO_225002 := n3_; have HO242 := n4_; have HO247 := n5_; have BK223 := n6_; have BK224 := n7_; have HB := n8_; have BK250 := n9_; have GW250 := n10_; have GE250 := n11_; have NB223_250 := n12_; have NB250_223 := n13_; have NB224_250 := n14_; have NB250_224 := n15_; clear n0_ n1_ n2_ n3_ n4_ n5_ n6_ n7_ n8_ n9_ n10_ n11_ n12_ n13_ n14_ n15_; clear hb hbox hg; have hnb160 := NB250_223.out; have hnc160 := NB223_250.out; have hnb161 := NB250_224.out; have hnc161 := NB224_250.out; have hcz162_0 : w159.cell? ⟨gb250, 0, none⟩ = some (.int .i64 0) := (blk_cell BK250.out 0).trans rfl; have hcz162_1 : w159.cell? ⟨gb250, 1, none⟩ = some (.int .i64 0) := (blk_cell BK250.out 1).trans rfl; have hcz162_2 : w159.cell? ⟨gb250, 2, none⟩ = some (.slice none 0 0) := (blk_cell BK250.out 2).trans rfl; have hfz162_0 := blk_frozen BK250.out 0; have hfz162_1 := blk_frozen BK250.out 1; have hfz162_2 := blk_frozen BK250.out 2; obtain ⟨Ao163, co163, eo163⟩ := Kd.R_slice HO247.out; subst eo163; have hnb164 := NB223_224.out; have hnc164 := NB224_223.out; have hcz165_0 : w159.cell? ⟨gb223, 0, none⟩ = some (.int .i64 t213) := (blk_cell BK223.out 0).trans rfl; have hcz165_1 : w159.cell? ⟨gb223, 1, none⟩ = some (.int .i64 t214) := (blk_cell BK223.out 1).trans rfl; have hcz165_2 : w159.cell? ⟨gb223, 2, none⟩ = some (.slice Ao17 t215.length co17) := (blk_cell BK223.out 2).trans rfl; have hfz165_0 := blk_frozen BK223.out 0; have hfz165_1 := blk_frozen BK223.out 1; have hfz165_2 := blk_frozen BK223.out 2) | (go_at_call 33; (with_reducible refine (rowkey_Same.calls kj24 t243 t244 _ _ t245 t213 t214 _ _ t215 false _ ?side1 ?side2 ?side3 ?side4 A36.out).mono ?_); (case side1 => refine (Kd.R_reads' (e := 53) (base := w.heap.size) (ok := fun k_ => ((True ∧ some k_ ≠ (.slice Ao17 t215.length co17 : Value).ownBlock) ∧ some k_ ≠ (.slice Ao19 t220.length co19 : Value).ownBlock)) (n := t245.length) (c := co163) ?_).2.2; exact (by (with_reducible repeat (first | apply Kd.R_alloc | apply Kd.R_drewN | apply Kd.R_drew)); exact (Kd.R_mono (Kd.R_far (p := ⟨gb250, 2, none⟩) (Kd.R_far (p := ⟨gb250, 1, none⟩) (Kd.R_far (p := ⟨gb250, 0, none⟩) (Kd.R_types HO247.out BK250.out (by decide)) (fun _ hk => hk.2) (.int .i64 t243)) (fun _ hk => hk.2) (.int .i64 t244)) (fun _ hk => hk.2) (.slice Ao163 t245.length co163)) (fun _ h_ => h_.1)))); (case side2 => exact (Kd.R_reads' HO247.out).2.1); (case side3 => refine (Kd.R_reads' (e := 53) (base := w.heap.size) (ok := fun k_ => (some k_ ≠ (.slice Ao19 t220.length co19 : Value).ownBlock ∧ some k_ ≠ (.slice Ao163 t245.length co163 : Value).ownBlock)) (n := t215.length) (c := co17) ?_).2.2; exact (by (with_reducible repeat (first | apply Kd.R_alloc | apply Kd.R_drewN | apply Kd.R_drew)); exact (Kd.R_mono (Kd.R_far (p := ⟨gb250, 2, none⟩) (Kd.R_far (p := ⟨gb250, 1, none⟩) (Kd.R_far (p := ⟨gb250, 0, none⟩) (Kd.R_types HO_224002.out BK250.out (by decide)) (fun _ hk => hk.2) (.int .i64 t243)) (fun _ hk => hk.2) (.int .i64 t244)) (fun _ hk => hk.2) (.slice Ao163 t245.length co163)) (fun _ h_ => h_.1)))); (case side4 => exact (Kd.R_reads' HO_224002.out).2.1); rintro e w166 ⟨rfl, hb⟩; have n0_ := Aside0.mk (Kd.R_below (by (with_reducible repeat (first | apply Kd.R_alloc | apply Kd.R_drewN | apply Kd.R_drew)); exact (Kd.R_mono (Kd.R_far (p := ⟨gb250, 2, none⟩) (Kd.R_far (p := ⟨gb250, 1, none⟩) (Kd.R_far (p := ⟨gb250, 0, none⟩) (Kd.R_types HO_13.out BK250.out (by decide)) (fun _ hk => hk.2) (.int .i64 t243)) (fun _ hk => hk.2) (.int .i64 t244)) (fun _ hk => hk.2) (.slice Ao163 t245.length co163)) (fun _ h_ => h_.1))) hb); have n1_ := Aside0.mk (Kd.R_below (by (with_reducible repeat (first | apply Kd.R_alloc | apply Kd.R_drewN | apply Kd.R_drew)); exact (Kd.R_mono (Kd.R_far (p := ⟨gb250, 2, none⟩) (Kd.R_far (p := ⟨gb250, 1, none⟩) (Kd.R_far (p := ⟨gb250, 0, none⟩) (Kd.R_types HO_15.out BK250.out (by decide)) (fun _ hk => hk.2) (.int .i64 t243)) (fun _ hk => hk.2) (.int .i64 t244)) (fun _ hk => hk.2) (.slice Ao163 t245.length co163)) (fun _ h_ => h_.1))) hb); have n2_ := Aside0.mk (Kd.R_below (by (with_reducible repeat (first | apply Kd.R_alloc | apply Kd.R_drewN | apply Kd.R_drew)); exact (Kd.R_mono (Kd.R_far (p := ⟨gb250, 2, none⟩) (Kd.R_far (p := ⟨gb250, 1, none⟩) (Kd.R_far (p := ⟨gb250, 0, none⟩) (Kd.R_types HO_224002.out BK250.out (by decide)) (fun _ hk => hk.2) (.int .i64 t243)) (fun _ hk => hk.2) (.int .i64 t244)) (fun _ hk => hk.2) (.slice Ao163 t245.length co163)) (fun _ h_ => h_.1))) hb); have n3_ := Aside0.mk (Kd.R_below (by (with_reducible repeat (first | apply Kd.R_alloc | apply Kd.R_drewN | apply Kd.R_drew)); exact (Kd.R_mono (Kd.R_far (p := ⟨gb250, 2, none⟩) (Kd.R_far (p := ⟨gb250, 1, none⟩) (Kd.R_far (p := ⟨gb250, 0, none⟩) (Kd.R_types HO_225002.out BK250.out (by decide)) (fun _ hk => hk.2) (.int .i64 t243)) (fun _ hk => hk.2) (.int .i64 t244)) (fun _ hk => hk.2) (.slice Ao163 t245.length co163)) (fun _ h_ => h_.1))) hb); have n4_ := Aside0.mk (Kd.R_below (by (with_reducible repeat (first | apply Kd.R_alloc | apply Kd.R_drewN | apply Kd.R_drew)); exact (Kd.R_mono (Kd.R_far (p := ⟨gb250, 2, none⟩) (Kd.R_far (p := ⟨gb250, 1, none⟩) (Kd.R_far (p := ⟨gb250, 0, none⟩) (Kd.R_types HO242.out BK250.out (by decide)) (fun _ hk => hk.2) (.int .i64 t243)) (fun _ hk => hk.2) (.int .i64 t244)) (fun _ hk => hk.2) (.slice Ao163 t245.length co163)) (fun _ h_ => h_.1))) hb); have n5_ := Aside0.mk (Kd.R_below (by (with_reducible repeat (first | apply Kd.R_alloc | apply Kd.R_drewN | apply Kd.R_drew)); exact (Kd.R_mono (Kd.R_far (p := ⟨gb250, 2, none⟩) (Kd.R_far (p := ⟨gb250, 1, none⟩) (Kd.R_far (p := ⟨gb250, 0, none⟩) (Kd.R_types HO247.out BK250.out (by decide)) (fun _ hk => hk.2) (.int .i64 t243)) (fun _ hk => hk.2) (.int .i64 t244)) (fun _ hk => hk.2) (.slice Ao163 t245.length co163)) (fun _ h_ => h_.1))) hb); have n6_ := Aside0.mk (bkBF BK223.out hb); have n7_ := Aside0.mk (bkBF BK224.out hb); have n8_ := Aside0.mk (blk_below (g := gb250) (o := .cells #[.int .i64 t243, .int .i64 t244, .slice Ao163 t245.length co163] 56 (0, 0)) (by (with_reducible repeat (first | refine blk_drewN ?_ _ | refine blk_drew ?_ | refine blk_alloc ?_ _)); refine blk_put (cs := #[.int .i64 t243, .int .i64 t244, .slice none 0 0]) ?_ 2 _ rfl; (with_reducible repeat (first | refine blk_drewN ?_ _ | refine blk_drew ?_ | refine blk_alloc ?_ _)); refine blk_put (cs := #[.int .i64 t243, .int .i64 0, .slice none 0 0]) ?_ 1 _ rfl; (with_reducible repeat (first | refine blk_drewN ?_ _ | refine blk_drew ?_ | refine blk_alloc ?_ _)); refine blk_put (cs := #[.int .i64 0, .int .i64 0, .slice none 0 0]) ?_ 0 _ rfl; (with_reducible repeat (first | refine blk_drewN ?_ _ | refine blk_drew ?_ | refine blk_alloc ?_ _)); exact BK250.out) hb); have n9_ := Aside0.mk (below_step (belS HB.out) hb); clear HO_13; clear HO_15; clear HO_224002; clear HO_225002; clear HO242; clear HO247; clear BK223; clear BK224; clear BK250; clear HB; have HO_13 := n0_; have HO_15 := n1_; have HO_224002 := n2_; have HO_225002 := n3_; have HO242 := n4_; have HO247 := n5_; have BK223 := n6_; have BK224 := n7_; have BK250 := n8_; have HB := n9_; clear n0_ n1_ n2_ n3_ n4_ n5_ n6_ n7_ n8_ n9_; (try clear hb); (try clear hk)))
            go_ret
            exact ⟨by first | rfl | (simp [errW_none, errW_some] <;> rfl) | (simp [*, errW_none, errW_some] <;> rfl), (belS HB.out)⟩
          ·rw [if_neg c35] at H
           have c35b0 : (t248 == (t225.length : Int)) = false := beq_eq_false_iff_ne.mpr c35
           have c35b1 : (t248 != (t225.length : Int)) = true := bne_iff_ne.mpr c35
           obtain rfl := Option.some.inj H
           go_wp2_with (first | ((with_reducible refine gate_dst (N := 53) rfl ?_); (try (refine gate_guard (by rfl) ?_; dsimp only)); refine Kd.R_lit (Kd.int .u8) _ 5 ?hg (N := 53) ?hd (xs := ([] : List Int)) (inner := []) (ok := fun _ => True) (okp := fun _ => True) ?hr ?hp (fun _ hk => hk) trivial (Below.refl _ _) (Nat.le_refl _) (by simp) ?_; (case hd => rfl); (case hg => rfl); (case hr => first | (go_simp; done) | (go_simp; rfl)); (case hp => exact (Reps.none _ _)); intro v234 w167 ho168 hb hg_ hnew_; clear hg_ hnew_; (first | rw [← Ny233.out] at ho168 | (simp only [Int.reduceToNat] at ho168; rw [← Ny233.out] at ho168)); have n0_ := Aside0.mk (Kd.R_elder' (rowN HO_13.out) (Kd.R_base ho168) hb); have n1_ := Aside0.mk (Kd.R_elder' (rowN HO_15.out) (Kd.R_base ho168) hb); have n2_ := Aside0.mk (Kd.R_below (rowN HO_224002.out) hb); have n3_ := Aside0.mk (Kd.R_below (rowN HO_225002.out) hb); have n4_ := Aside0.mk (Kd.R_lower (Kd.R_new' (Kd.R_new' ho168 (Kd.R_lt (rowN HO_13.out))) (Kd.R_lt (rowN HO_15.out))) (below_size (belS HB.out))); have n5_ := Aside0.mk (bkB BK223.out hb); have n6_ := Aside0.mk (bkB BK224.out hb); have n7_ := Aside0.mk (below_step (belS HB.out) hb); clear HO_13; clear HO_15; clear HO_224002; clear HO_225002; clear BK223; clear BK224; clear HB; have HO_13 := n0_; have HO_15 := n1_; have HO_224002 := n2_; have HO_225002 := n3_; have HO235 := n4_; have BK223 := n5_; have BK224 := n6_; have HB := n7_; clear n0_ n1_ n2_ n3_ n4_ n5_ n6_ n7_; clear hb ho168; obtain ⟨Ao170, co170, eo170⟩ := Kd.R_slice HO_13.out; subst eo170) | ((with_reducible refine gate_builtin (b := .append) (xs := #[.tmp 53, .tmp 54]) rfl ?_); (try (refine gate_guard (by rfl) ?_; dsimp only)); at_builtin; refine Kd.R_append_rows (Kd.int .u8) (w0 := w) w.heap.size rfl (.tmp 53) (.tmp 54) 30 5 (.int .u8 0) 1 rfl Try.underlying30 info5 rfl (by decide) (by omega) v234 y233 t225 _ _ _ (fun k_ => some k_ ≠ (.slice Ao170 t225.length co170 : Value).ownBlock ∧ some k_ ≠ (v230 : Value).ownBlock) (fun _ => False) rfl rfl ?aO ?aR (fun _ _ h => h) (fun _ h => h.elim) ?aF ?aB ?aS ?aL ?_; (case aR => repeat (first | exact (Kd.R_reads' HO_13.out).2.2 | (with_reducible refine Kd.C_alloc ?_ _) | (with_reducible refine Kd.C_drewN ?_ _) | (with_reducible refine Kd.C_drew ?_))); (case aB => exact (belS HB.out)); (case aF => exact (fun k_ hk => ⟨Kd.fresh' (Kd.R_lt (rowN HO_13.out)) k_ hk, Kd.fresh' (Kd.R_lt (rowN HO_15.out)) k_ hk⟩)); (case aO => exact (by (with_reducible repeat (first | apply Kd.R_alloc | apply Kd.R_drewN | apply Kd.R_drew)); exact Kd.R_mono HO235.out (fun _ hk => ⟨hk.1.2, hk.2⟩))); (case aS => exact (below_size (belS HB.out))); (case aL => have := LMc31.out; omega); intro v237 w169 ho hb hg hat; rw [← Ny236.out] at ho; have n0_ := Aside0.mk (Kd.R_after (ok := (fun k_ => some k_ ≠ (v230 : Value).ownBlock)) (rowN HO_13.out) hg hat); have n1_ := Aside0.mk (Kd.R_after (ok := (fun k_ => some k_ ≠ (.slice Ao170 t225.length co170 : Value).ownBlock)) (rowN HO_15.out) hg hat); have n2_ := Aside0.mk (Kd.R_over' (rowN HO_224002.out) (Kd.R_typed (rowN HO235.out)) (by decide) hg); have n3_ := Aside0.mk (Kd.R_over' (rowN HO_225002.out) (Kd.R_typed (rowN HO235.out)) (by decide) hg); have n4_ := Aside0.mk (blk_grown (g := gb223) (o := .cells #[.int .i64 t213, .int .i64 t214, .slice Ao17 t215.length co17] 56 (0, 0)) (blkN BK223.out) hg (Kd.R_ne HO235.out BK223.out (by decide))); have n5_ := Aside0.mk (blk_grown (g := gb224) (o := .cells #[.int .i64 t218, .int .i64 t219, .slice Ao19 t220.length co19] 56 (0, 0)) (blkN BK224.out) hg (Kd.R_ne HO235.out BK224.out (by decide))); have n6_ := Aside0.mk (hb); have n7_ := Aside0.mk (ho); clear HO_13; clear HO_15; clear HO_224002; clear HO_225002; clear BK223; clear BK224; clear HB; clear HO235; have HO_13 := n0_; have HO_15 := n1_; have HO_224002 := n2_; have HO_225002 := n3_; have BK223 := n4_; have BK224 := n5_; have HB := n6_; have HO238 := n7_; clear n0_ n1_ n2_ n3_ n4_ n5_ n6_ n7_; clear ho hb hg hat; have HR239 := Aside0.mk (cutI_C (n := 20) HR4.out); have HC239 := Aside0.mk (cutI_le (n := 20) HC4.out)) | ((with_reducible refine gate_callee (f := 25) rfl ?_); refine goesL_ (some 57) rfl rfl Try.func25 (by kernel_rfl) rfl #[.slice A4 l4.length c4, .int .i64 20] rfl (by (try simp only [List.map_toArray, List.map_cons, List.map_nil]); first | done | rfl) ?_; (with_reducible refine (marigraphkeep_Cut.callsR A4 c4 l4 20 20 _ HC4.out rfl).mono ?_); rintro e w' ⟨rfl, ⟨nd, rfl⟩⟩; refine ⟨_, rfl, ?_⟩) | ((with_reducible refine gate_builtin (b := .append) (xs := #[.tmp 55, .tmp 57]) rfl ?_); (try (refine gate_guard (by rfl) ?_; dsimp only)); at_builtin; refine Kd.R_append_rows (Kd.int .u8) (w0 := w) w.heap.size rfl (.tmp 55) (.tmp 57) 30 5 (.int .u8 0) 1 rfl Try.underlying30 info5 rfl (by decide) (by omega) v237 y236 (cutI l4 20) _ _ _ (fun k_ => some k_ ≠ (.slice Ao170 t225.length co170 : Value).ownBlock ∧ some k_ ≠ (v230 : Value).ownBlock) (fun _ => False) rfl rfl ?aO ?aR (fun _ _ h => h) (fun _ h => h.elim) ?aF ?aB ?aS ?aL ?_; (case aR => repeat (first | exact (Kd.C_below HR239.out (belS HB.out)) | (with_reducible refine Kd.C_alloc ?_ _) | (with_reducible refine Kd.C_drewN ?_ _) | (with_reducible refine Kd.C_drew ?_))); (case aB => exact (belS HB.out)); (case aF => exact (fun k_ hk => ⟨Kd.fresh' (Kd.R_lt (rowN HO_13.out)) k_ hk, Kd.fresh' (Kd.R_lt (rowN HO_15.out)) k_ hk⟩)); (case aO => exact (rowN HO238.out)); (case aS => exact (below_size (belS HB.out))); (case aL => have := LMc32.out; omega); intro v241 w171 ho hb hg hat; rw [← Ny240.out] at ho; have n0_ := Aside0.mk (Kd.R_after (ok := (fun k_ => some k_ ≠ (v230 : Value).ownBlock)) (rowN HO_13.out) hg hat); have n1_ := Aside0.mk (Kd.R_after (ok := (fun k_ => some k_ ≠ (.slice Ao170 t225.length co170 : Value).ownBlock)) (rowN HO_15.out) hg hat); have n2_ := Aside0.mk (Kd.R_over' (rowN HO_224002.out) (Kd.R_typed (rowN HO238.out)) (by decide) hg); have n3_ := Aside0.mk (Kd.R_over' (rowN HO_225002.out) (Kd.R_typed (rowN HO238.out)) (by decide) hg); have n4_ := Aside0.mk (blk_grown (g := gb223) (o := .cells #[.int .i64 t213, .int .i64 t214, .slice Ao17 t215.length co17] 56 (0, 0)) (blkN BK223.out) hg (Kd.R_ne HO238.out BK223.out (by decide))); have n5_ := Aside0.mk (blk_grown (g := gb224) (o := .cells #[.int .i64 t218, .int .i64 t219, .slice Ao19 t220.length co19] 56 (0, 0)) (blkN BK224.out) hg (Kd.R_ne HO238.out BK224.out (by decide))); have n6_ := Aside0.mk (hb); have n7_ := Aside0.mk (ho); clear HO_13; clear HO_15; clear HO_224002; clear HO_225002; clear BK223; clear BK224; clear HB; clear HO238; have HO_13 := n0_; have HO_15 := n1_; have HO_224002 := n2_; have HO_225002 := n3_; have BK223 := n4_; have BK224 := n5_; have HB := n6_; have HO242 := n7_; clear n0_ n1_ n2_ n3_ n4_ n5_ n6_ n7_; clear ho hb hg hat; obtain ⟨Ao172, co172, eo172⟩ := Kd.R_slice HO242.out; subst eo172) | ((with_reducible refine gate_callee (f := 41) rfl ?_); refine goesL_ (some 59) rfl rfl Try.func41 (by kernel_rfl) rfl #[.slice Ao172 y240.length co172] rfl argN ?_; (with_reducible refine (rowkey_Decode.calls kj24 _ _ y240 t243 t244 t245 t248 t249 _ ?side1 ?side2 A33.out).mono ?_); (case side1 => repeat (first | exact (Kd.R_reads' HO242.out).2.2 | (with_reducible refine Kd.C_alloc ?_ _) | (with_reducible refine Kd.C_drewN ?_ _) | (with_reducible refine Kd.C_drew ?_))); (case side2 => exact (Kd.R_reads' HO242.out).2.1); rintro e w173 ⟨v246, rfl, ho0, hb⟩; refine ⟨_, rfl, ?_⟩; have n0_ := Aside0.mk (Kd.R_below (rowN HO_13.out) hb); have n1_ := Aside0.mk (Kd.R_below (rowN HO_15.out) hb); have n2_ := Aside0.mk (Kd.R_elder' (rowN HO_224002.out) (Kd.R_base ho0) hb); have n3_ := Aside0.mk (Kd.R_elder' (rowN HO_225002.out) (Kd.R_base ho0) hb); have n4_ := Aside0.mk (Kd.R_below (rowN HO242.out) hb); have n5_ := Aside0.mk (Kd.R_lower (Kd.R_new' (Kd.R_new' ho0 (Kd.R_lt (rowN HO_224002.out))) (Kd.R_lt (rowN HO_225002.out))) (below_size (belS HB.out))); have n6_ := Aside0.mk (bkB BK223.out hb); have n7_ := Aside0.mk (bkB BK224.out hb); have n8_ := Aside0.mk (below_step (belS HB.out) hb); clear HO_13; clear HO_15; clear HO_224002; clear HO_225002; clear HO242; clear BK223; clear BK224; clear HB; have HO_13 := n0_; have HO_15 := n1_; have HO_224002 := n2_; have HO_225002 := n3_; have HO242 := n4_; have HO247 := n5_; have BK223 := n6_; have BK224 := n7_; have HB := n8_; clear n0_ n1_ n2_ n3_ n4_ n5_ n6_ n7_ n8_; (try clear hb); (try clear hk); (try clear ho0)) | ((with_reducible refine gate_dst (N := 17) rfl ?_); (try (refine gate_guard (by rfl) ?_; dsimp only)); refine box_event ?hg (N := 17) ?hd (cs := #[.int .i64 0, .int .i64 0, .slice none 0 0]) (t := 56) ?hr ?_; (case hd => rfl); (case hg => rfl); (case hr => first | (go_simp; done) | (go_simp; rfl)); intro gb250 hg w174 hbox hb; have n0_ := Aside0.mk (Kd.R_below (rowN HO_13.out) hb); have n1_ := Aside0.mk (Kd.R_below (rowN HO_15.out) hb); have n2_ := Aside0.mk (Kd.R_below (rowN HO_224002.out) hb); have n3_ := Aside0.mk (Kd.R_below (rowN HO_225002.out) hb); have n4_ := Aside0.mk (Kd.R_below (rowN HO242.out) hb); have n5_ := Aside0.mk (Kd.R_below (rowN HO247.out) hb); have n6_ := Aside0.mk (bkB BK223.out hb); have n7_ := Aside0.mk (bkB BK224.out hb); have n8_ := Aside0.mk (below_step (belS HB.out) hb); have n9_ := Aside0.mk (hbox); have n10_ := Aside0.mk (szB hg HB.out); have n11_ := Aside0.mk (szB hg HB.out); have n12_ := Aside0.mk ((bk1 hg BK223.out)); have n13_ := Aside0.mk ((bk2 hg BK223.out)); have n14_ := Aside0.mk ((bk1 hg BK224.out)); have n15_ := Aside0.mk ((bk2 hg BK224.out)); clear HO_13; clear HO_15; clear HO_224002; clear HO_225002; clear HO242; clear HO247; clear BK223; clear BK224; clear HB; have HO_13 := n0_; have HO_15 := n1_; have HO_224002 := n2_; have HO_225002 := n3_; have HO242 := n4_; have HO247 := n5_; have BK223 := n6_; have BK224 := n7_; have HB := n8_; have BK250 := n9_; have GW250 := n10_; have GE250 := n11_; have NB223_250 := n12_; have NB250_223 := n13_; have NB224_250 := n14_; have NB250_224 := n15_; clear n0_ n1_ n2_ n3_ n4_ n5_ n6_ n7_ n8_ n9_ n10_ n11_ n12_ n13_ n14_ n15_; clear hb hbox hg; have hnb175 := NB250_223.out; have hnc175 := NB223_250.out; have hnb176 := NB250_224.out; have hnc176 := NB224_250.out; have hcz177_0 : w174.cell? ⟨gb250, 0, none⟩ = some (.int .i64 0) := (blk_cell BK250.out 0).trans rfl; have hcz177_1 : w174.cell? ⟨gb250, 1, none⟩ = some (.int .i64 0) := (blk_cell BK250.out 1).trans rfl; have hcz177_2 : w174.cell? ⟨gb250, 2, none⟩ = some (.slice none 0 0) := (blk_cell BK250.out 2).trans rfl; have hfz177_0 := blk_frozen BK250.out 0; have hfz177_1 := blk_frozen BK250.out 1; have hfz177_2 := blk_frozen BK250.out 2; obtain ⟨Ao178, co178, eo178⟩ := Kd.R_slice HO247.out; subst eo178))
           go_ret
           exact ⟨by first | rfl | (simp [errW_none, errW_some] <;> rfl) | (simp [*, errW_none, errW_some] <;> rfl), (belS HB.out)⟩
         ·rw [if_neg c34] at H
          have c34b0 : (t249 == 0) = false := beq_eq_false_iff_ne.mpr c34
          have c34b1 : (t249 != 0) = true := bne_iff_ne.mpr c34
          obtain rfl := Option.some.inj H
          go_wp2_with (first | ((with_reducible refine gate_dst (N := 53) rfl ?_); (try (refine gate_guard (by rfl) ?_; dsimp only)); refine Kd.R_lit (Kd.int .u8) _ 5 ?hg (N := 53) ?hd (xs := ([] : List Int)) (inner := []) (ok := fun _ => True) (okp := fun _ => True) ?hr ?hp (fun _ hk => hk) trivial (Below.refl _ _) (Nat.le_refl _) (by simp) ?_; (case hd => rfl); (case hg => rfl); (case hr => first | (go_simp; done) | (go_simp; rfl)); (case hp => exact (Reps.none _ _)); intro v234 w179 ho180 hb hg_ hnew_; clear hg_ hnew_; (first | rw [← Ny233.out] at ho180 | (simp only [Int.reduceToNat] at ho180; rw [← Ny233.out] at ho180)); have n0_ := Aside0.mk (Kd.R_elder' (rowN HO_13.out) (Kd.R_base ho180) hb); have n1_ := Aside0.mk (Kd.R_elder' (rowN HO_15.out) (Kd.R_base ho180) hb); have n2_ := Aside0.mk (Kd.R_below (rowN HO_224002.out) hb); have n3_ := Aside0.mk (Kd.R_below (rowN HO_225002.out) hb); have n4_ := Aside0.mk (Kd.R_lower (Kd.R_new' (Kd.R_new' ho180 (Kd.R_lt (rowN HO_13.out))) (Kd.R_lt (rowN HO_15.out))) (below_size (belS HB.out))); have n5_ := Aside0.mk (bkB BK223.out hb); have n6_ := Aside0.mk (bkB BK224.out hb); have n7_ := Aside0.mk (below_step (belS HB.out) hb); clear HO_13; clear HO_15; clear HO_224002; clear HO_225002; clear BK223; clear BK224; clear HB; have HO_13 := n0_; have HO_15 := n1_; have HO_224002 := n2_; have HO_225002 := n3_; have HO235 := n4_; have BK223 := n5_; have BK224 := n6_; have HB := n7_; clear n0_ n1_ n2_ n3_ n4_ n5_ n6_ n7_; clear hb ho180; obtain ⟨Ao182, co182, eo182⟩ := Kd.R_slice HO_13.out; subst eo182) | ((with_reducible refine gate_builtin (b := .append) (xs := #[.tmp 53, .tmp 54]) rfl ?_); (try (refine gate_guard (by rfl) ?_; dsimp only)); at_builtin; refine Kd.R_append_rows (Kd.int .u8) (w0 := w) w.heap.size rfl (.tmp 53) (.tmp 54) 30 5 (.int .u8 0) 1 rfl Try.underlying30 info5 rfl (by decide) (by omega) v234 y233 t225 _ _ _ (fun k_ => some k_ ≠ (.slice Ao182 t225.length co182 : Value).ownBlock ∧ some k_ ≠ (v230 : Value).ownBlock) (fun _ => False) rfl rfl ?aO ?aR (fun _ _ h => h) (fun _ h => h.elim) ?aF ?aB ?aS ?aL ?_; (case aR => repeat (first | exact (Kd.R_reads' HO_13.out).2.2 | (with_reducible refine Kd.C_alloc ?_ _) | (with_reducible refine Kd.C_drewN ?_ _) | (with_reducible refine Kd.C_drew ?_))); (case aB => exact (belS HB.out)); (case aF => exact (fun k_ hk => ⟨Kd.fresh' (Kd.R_lt (rowN HO_13.out)) k_ hk, Kd.fresh' (Kd.R_lt (rowN HO_15.out)) k_ hk⟩)); (case aO => exact (by (with_reducible repeat (first | apply Kd.R_alloc | apply Kd.R_drewN | apply Kd.R_drew)); exact Kd.R_mono HO235.out (fun _ hk => ⟨hk.1.2, hk.2⟩))); (case aS => exact (below_size (belS HB.out))); (case aL => have := LMc31.out; omega); intro v237 w181 ho hb hg hat; rw [← Ny236.out] at ho; have n0_ := Aside0.mk (Kd.R_after (ok := (fun k_ => some k_ ≠ (v230 : Value).ownBlock)) (rowN HO_13.out) hg hat); have n1_ := Aside0.mk (Kd.R_after (ok := (fun k_ => some k_ ≠ (.slice Ao182 t225.length co182 : Value).ownBlock)) (rowN HO_15.out) hg hat); have n2_ := Aside0.mk (Kd.R_over' (rowN HO_224002.out) (Kd.R_typed (rowN HO235.out)) (by decide) hg); have n3_ := Aside0.mk (Kd.R_over' (rowN HO_225002.out) (Kd.R_typed (rowN HO235.out)) (by decide) hg); have n4_ := Aside0.mk (blk_grown (g := gb223) (o := .cells #[.int .i64 t213, .int .i64 t214, .slice Ao17 t215.length co17] 56 (0, 0)) (blkN BK223.out) hg (Kd.R_ne HO235.out BK223.out (by decide))); have n5_ := Aside0.mk (blk_grown (g := gb224) (o := .cells #[.int .i64 t218, .int .i64 t219, .slice Ao19 t220.length co19] 56 (0, 0)) (blkN BK224.out) hg (Kd.R_ne HO235.out BK224.out (by decide))); have n6_ := Aside0.mk (hb); have n7_ := Aside0.mk (ho); clear HO_13; clear HO_15; clear HO_224002; clear HO_225002; clear BK223; clear BK224; clear HB; clear HO235; have HO_13 := n0_; have HO_15 := n1_; have HO_224002 := n2_; have HO_225002 := n3_; have BK223 := n4_; have BK224 := n5_; have HB := n6_; have HO238 := n7_; clear n0_ n1_ n2_ n3_ n4_ n5_ n6_ n7_; clear ho hb hg hat; have HR239 := Aside0.mk (cutI_C (n := 20) HR4.out); have HC239 := Aside0.mk (cutI_le (n := 20) HC4.out)) | ((with_reducible refine gate_callee (f := 25) rfl ?_); refine goesL_ (some 57) rfl rfl Try.func25 (by kernel_rfl) rfl #[.slice A4 l4.length c4, .int .i64 20] rfl (by (try simp only [List.map_toArray, List.map_cons, List.map_nil]); first | done | rfl) ?_; (with_reducible refine (marigraphkeep_Cut.callsR A4 c4 l4 20 20 _ HC4.out rfl).mono ?_); rintro e w' ⟨rfl, ⟨nd, rfl⟩⟩; refine ⟨_, rfl, ?_⟩) | ((with_reducible refine gate_builtin (b := .append) (xs := #[.tmp 55, .tmp 57]) rfl ?_); (try (refine gate_guard (by rfl) ?_; dsimp only)); at_builtin; refine Kd.R_append_rows (Kd.int .u8) (w0 := w) w.heap.size rfl (.tmp 55) (.tmp 57) 30 5 (.int .u8 0) 1 rfl Try.underlying30 info5 rfl (by decide) (by omega) v237 y236 (cutI l4 20) _ _ _ (fun k_ => some k_ ≠ (.slice Ao182 t225.length co182 : Value).ownBlock ∧ some k_ ≠ (v230 : Value).ownBlock) (fun _ => False) rfl rfl ?aO ?aR (fun _ _ h => h) (fun _ h => h.elim) ?aF ?aB ?aS ?aL ?_; (case aR => repeat (first | exact (Kd.C_below HR239.out (belS HB.out)) | (with_reducible refine Kd.C_alloc ?_ _) | (with_reducible refine Kd.C_drewN ?_ _) | (with_reducible refine Kd.C_drew ?_))); (case aB => exact (belS HB.out)); (case aF => exact (fun k_ hk => ⟨Kd.fresh' (Kd.R_lt (rowN HO_13.out)) k_ hk, Kd.fresh' (Kd.R_lt (rowN HO_15.out)) k_ hk⟩)); (case aO => exact (rowN HO238.out)); (case aS => exact (below_size (belS HB.out))); (case aL => have := LMc32.out; omega); intro v241 w183 ho hb hg hat; rw [← Ny240.out] at ho; have n0_ := Aside0.mk (Kd.R_after (ok := (fun k_ => some k_ ≠ (v230 : Value).ownBlock)) (rowN HO_13.out) hg hat); have n1_ := Aside0.mk (Kd.R_after (ok := (fun k_ => some k_ ≠ (.slice Ao182 t225.length co182 : Value).ownBlock)) (rowN HO_15.out) hg hat); have n2_ := Aside0.mk (Kd.R_over' (rowN HO_224002.out) (Kd.R_typed (rowN HO238.out)) (by decide) hg); have n3_ := Aside0.mk (Kd.R_over' (rowN HO_225002.out) (Kd.R_typed (rowN HO238.out)) (by decide) hg); have n4_ := Aside0.mk (blk_grown (g := gb223) (o := .cells #[.int .i64 t213, .int .i64 t214, .slice Ao17 t215.length co17] 56 (0, 0)) (blkN BK223.out) hg (Kd.R_ne HO238.out BK223.out (by decide))); have n5_ := Aside0.mk (blk_grown (g := gb224) (o := .cells #[.int .i64 t218, .int .i64 t219, .slice Ao19 t220.length co19] 56 (0, 0)) (blkN BK224.out) hg (Kd.R_ne HO238.out BK224.out (by decide))); have n6_ := Aside0.mk (hb); have n7_ := Aside0.mk (ho); clear HO_13; clear HO_15; clear HO_224002; clear HO_225002; clear BK223; clear BK224; clear HB; clear HO238; have HO_13 := n0_; have HO_15 := n1_; have HO_224002 := n2_; have HO_225002 := n3_; have BK223 := n4_; have BK224 := n5_; have HB := n6_; have HO242 := n7_; clear n0_ n1_ n2_ n3_ n4_ n5_ n6_ n7_; clear ho hb hg hat; obtain ⟨Ao184, co184, eo184⟩ := Kd.R_slice HO242.out; subst eo184) | ((with_reducible refine gate_callee (f := 41) rfl ?_); refine goesL_ (some 59) rfl rfl Try.func41 (by kernel_rfl) rfl #[.slice Ao184 y240.length co184] rfl argN ?_; (with_reducible refine (rowkey_Decode.calls kj24 _ _ y240 t243 t244 t245 t248 t249 _ ?side1 ?side2 A33.out).mono ?_); (case side1 => repeat (first | exact (Kd.R_reads' HO242.out).2.2 | (with_reducible refine Kd.C_alloc ?_ _) | (with_reducible refine Kd.C_drewN ?_ _) | (with_reducible refine Kd.C_drew ?_))); (case side2 => exact (Kd.R_reads' HO242.out).2.1); rintro e w185 ⟨v246, rfl, ho0, hb⟩; refine ⟨_, rfl, ?_⟩; have n0_ := Aside0.mk (Kd.R_below (rowN HO_13.out) hb); have n1_ := Aside0.mk (Kd.R_below (rowN HO_15.out) hb); have n2_ := Aside0.mk (Kd.R_elder' (rowN HO_224002.out) (Kd.R_base ho0) hb); have n3_ := Aside0.mk (Kd.R_elder' (rowN HO_225002.out) (Kd.R_base ho0) hb); have n4_ := Aside0.mk (Kd.R_below (rowN HO242.out) hb); have n5_ := Aside0.mk (Kd.R_lower (Kd.R_new' (Kd.R_new' ho0 (Kd.R_lt (rowN HO_224002.out))) (Kd.R_lt (rowN HO_225002.out))) (below_size (belS HB.out))); have n6_ := Aside0.mk (bkB BK223.out hb); have n7_ := Aside0.mk (bkB BK224.out hb); have n8_ := Aside0.mk (below_step (belS HB.out) hb); clear HO_13; clear HO_15; clear HO_224002; clear HO_225002; clear HO242; clear BK223; clear BK224; clear HB; have HO_13 := n0_; have HO_15 := n1_; have HO_224002 := n2_; have HO_225002 := n3_; have HO242 := n4_; have HO247 := n5_; have BK223 := n6_; have BK224 := n7_; have HB := n8_; clear n0_ n1_ n2_ n3_ n4_ n5_ n6_ n7_ n8_; (try clear hb); (try clear hk); (try clear ho0)) | ((with_reducible refine gate_dst (N := 17) rfl ?_); (try (refine gate_guard (by rfl) ?_; dsimp only)); refine box_event ?hg (N := 17) ?hd (cs := #[.int .i64 0, .int .i64 0, .slice none 0 0]) (t := 56) ?hr ?_; (case hd => rfl); (case hg => rfl); (case hr => first | (go_simp; done) | (go_simp; rfl)); intro gb250 hg w186 hbox hb; have n0_ := Aside0.mk (Kd.R_below (rowN HO_13.out) hb); have n1_ := Aside0.mk (Kd.R_below (rowN HO_15.out) hb); have n2_ := Aside0.mk (Kd.R_below (rowN HO_224002.out) hb); have n3_ := Aside0.mk (Kd.R_below (rowN HO_225002.out) hb); have n4_ := Aside0.mk (Kd.R_below (rowN HO242.out) hb); have n5_ := Aside0.mk (Kd.R_below (rowN HO247.out) hb); have n6_ := Aside0.mk (bkB BK223.out hb); have n7_ := Aside0.mk (bkB BK224.out hb); have n8_ := Aside0.mk (below_step (belS HB.out) hb); have n9_ := Aside0.mk (hbox); have n10_ := Aside0.mk (szB hg HB.out); have n11_ := Aside0.mk (szB hg HB.out); have n12_ := Aside0.mk ((bk1 hg BK223.out)); have n13_ := Aside0.mk ((bk2 hg BK223.out)); have n14_ := Aside0.mk ((bk1 hg BK224.out)); have n15_ := Aside0.mk ((bk2 hg BK224.out)); clear HO_13; clear HO_15; clear HO_224002; clear HO_225002; clear HO242; clear HO247; clear BK223; clear BK224; clear HB; have HO_13 := n0_; have HO_15 := n1_; have HO_224002 := n2_; have HO_225002 := n3_; have HO242 := n4_; have HO247 := n5_; have BK223 := n6_; have BK224 := n7_; have HB := n8_; have BK250 := n9_; have GW250 := n10_; have GE250 := n11_; have NB223_250 := n12_; have NB250_223 := n13_; have NB224_250 := n14_; have NB250_224 := n15_; clear n0_ n1_ n2_ n3_ n4_ n5_ n6_ n7_ n8_ n9_ n10_ n11_ n12_ n13_ n14_ n15_; clear hb hbox hg; have hnb187 := NB250_223.out; have hnc187 := NB223_250.out; have hnb188 := NB250_224.out; have hnc188 := NB224_250.out; have hcz189_0 : w186.cell? ⟨gb250, 0, none⟩ = some (.int .i64 0) := (blk_cell BK250.out 0).trans rfl; have hcz189_1 : w186.cell? ⟨gb250, 1, none⟩ = some (.int .i64 0) := (blk_cell BK250.out 1).trans rfl; have hcz189_2 : w186.cell? ⟨gb250, 2, none⟩ = some (.slice none 0 0) := (blk_cell BK250.out 2).trans rfl; have hfz189_0 := blk_frozen BK250.out 0; have hfz189_1 := blk_frozen BK250.out 1; have hfz189_2 := blk_frozen BK250.out 2; obtain ⟨Ao190, co190, eo190⟩ := Kd.R_slice HO247.out; subst eo190))
          go_ret
          exact ⟨by first | rfl | (simp [errW_none, errW_some] <;> rfl) | (simp [*, errW_none, errW_some] <;> rfl), (belS HB.out)⟩
        ·rw [if_neg c32] at H
         exact absurd H (by simp)
       ·rw [if_neg c31] at H
        exact absurd H (by simp)

/-- THE ONE PURE STATEMENT of marigraphlaw14_RowkeyBack: yours. -/
def marigraphlaw14_RowkeyBack.Pure : Prop := ∀ (a0 : Int) (a1 : Int) (a2 : Int) (l3 : List Int) (l4 : List Int), (Lit.int .i64 a0).wf = true → (Lit.int .i64 a1).wf = true → (Lit.int .i64 a2).wf = true → l3.length ≤ maxLen → l3.length * 8 ≤ 140737488351232 → (∀ x ∈ l3, (Lit.int .i64 x).wf = true) → l4.length ≤ maxLen → l4.length * 1 ≤ 140737488351232 → (∀ x ∈ l4, (Lit.int .u8 x).wf = true) → ∃ k, marigraphlaw14_RowkeyBack.f k a0 a1 a2 l3 l4 = some true
theorem marigraphlaw14_RowkeyBack.walk (P : marigraphlaw14_RowkeyBack.Pure) (a0 : Int) (a1 : Int) (a2 : Int) (a3 : Option Addr) (len3 cap3 : Nat) (z3 : List Int) (a4 : Option Addr) (len4 cap4 : Nat) (z4 : List Int) (w : World) (w0 : (Lit.int .i64 a0).wf = true) (w1 : (Lit.int .i64 a1).wf = true) (w2 : (Lit.int .i64 a2).wf = true) (w3 : (a3 = none ∧ len3 = 0 ∧ cap3 = 0 ∧ z3 = []) ∨ ∃ x, a3 = some x ∧ len3 ≤ cap3 ∧ cap3 ≤ maxLen ∧ z3.length = cap3 ∧ (∀ i, i < z3.length → w.cell? (x.add i) = some (.int .i64 (z3.getD i 0))) ∧ ∀ n ∈ z3, (Lit.int .i64 n).wf = true) (y3 : len3 * 8 ≤ 140737488351232) (w4 : (a4 = none ∧ len4 = 0 ∧ cap4 = 0 ∧ z4 = []) ∨ ∃ x, a4 = some x ∧ len4 ≤ cap4 ∧ cap4 ≤ maxLen ∧ z4.length = cap4 ∧ (∀ i, i < z4.length → w.cell? (x.add i) = some (.int .u8 (z4.getD i 0))) ∧ ∀ n ∈ z4, (Lit.int .u8 n).wf = true) (y4 : len4 * 1 ≤ 140737488351232) :
  Calls Try.prog 9 #[.int .i64 a0, .int .i64 a1, .int .i64 a2, .slice a3 len3 cap3, .slice a4 len4 cap4] w fun e w' => e = .returned (.bool true) ∧ Below w.heap.size w w' := by
 obtain ⟨l3, rfl, hr3, hm3, hw3, hc3⟩ := ReadsInt.ofRowC w3
 obtain ⟨l4, rfl, hr4, hm4, hw4, hc4⟩ := ReadsInt.ofRowC w4
 obtain ⟨k, h⟩ := P a0 a1 a2 l3 l4 w0 w1 w2 hm3 y3 hw3 hm4 y4 hw4
 refine (marigraphlaw14_RowkeyBack.calls k a0 a1 a2 _ _ l3 _ _ l4 true w (Kd.C_of_reads (d := (0 : Int)) (h1 := fun _ => rfl) hr3) hc3 (Kd.C_of_reads (d := (0 : Int)) (h1 := fun _ => rfl) hr4) hc4 h).mono ?_
 rintro e w' ⟨rfl, hd⟩
 exact ⟨rfl, hd⟩

end Go.Proofs.Ytjafaojmbapkbaa.PRowkeyBack

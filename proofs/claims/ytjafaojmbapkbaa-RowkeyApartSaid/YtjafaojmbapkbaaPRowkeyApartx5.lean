/- The walk of the Go functions that a law reaches, told as plain functions; a program of this session has written it. No condition beyond the statement's own. -/
import Derived.Test.YtjafaojmbapkbaaPRowkeyApartx0
import Derived.Test.YtjafaojmbapkbaaPRowkeyApartx2
import Derived.Test.YtjafaojmbapkbaaPRowkeyApartx4
namespace Go.Proofs.Ytjafaojmbapkbaa.PRowkeyApart
open Go.RowKit Go.Proofs.YtjafaojmbapkbaaW.PrintWords Go.Proofs.YtjafaojmbapkbaaW.PrintLast Go.Proofs.YtjafaojmbapkbaaW.PrintMore
attribute [local go_sem] max2_int min2_int max_two min_two max_three min_three max_four min_four   -- for this text's walks alone
set_option linter.unusedVariables false
set_option linter.unusedSimpArgs false

/-! ### marigraphlaw14_known: function 38 -/
def marigraphlaw14_known.f (k : Nat)  : Option (Bool) := (rowkey_Encode.f k 1 3600 (([(⟨1, 2⟩ : S53)] : List (S53)))).bind fun bt177 => ((rowkey_Encode.f k 1 5 (([(⟨1, 2⟩ : S53)] : List (S53)))).bind fun bt184 => ((rowkey_Decode.f k ([] : List Int)).bind fun bt188 => (if bt177.2 = 0 then (if (bt177.1.length : Int) = 15 then (if bt184.2 = 1 then (if bt188.2.2.2.1 = 0 then (some (bt188.2.2.2.2 == 12)) else (some false)) else (some false)) else (some false)) else (some false))))
theorem marigraphlaw14_known.mono : ∀ k, LeO (marigraphlaw14_known.f k ) (marigraphlaw14_known.f (k + 1) ) := by
 intro  k
 unfold marigraphlaw14_known.f
 repeat' first
   | (with_reducible exact rowkey_Decode.mono _ _)
   | (with_reducible exact rowkey_Encode.mono _ _ _ _)
   | (with_reducible exact LeO.refl _)
   | (with_reducible exact LeO.none _)
   | (with_reducible refine LeO.ite ?_ ?_)
   | (with_reducible refine LeO.bind ?_ (fun _ => ?_))
   | exact rowkey_Decode.mono _ _
   | exact rowkey_Encode.mono _ _ _ _
   | exact LeO.none _
   | refine LeO.ite ?_ ?_
   | refine LeO.bind ?_ (fun _ => ?_)
set_option maxHeartbeats 8000000 in
set_option maxRecDepth 100000 in
theorem marigraphlaw14_known.calls (k : Nat)  (r : Bool) (w : World) (h : marigraphlaw14_known.f k  = some r) :
  Calls Try.prog 38 #[] w fun e w' => e = .returned (.bool r) ∧ Below w.heap.size w w' := by
 have hu53 := Try.underlying53
 have hu56 := Try.underlying56
 have HB := Aside0.mk (Below.refl w.heap.size w)
 have H : ((rowkey_Encode.f k 1 3600 (([(⟨1, 2⟩ : S53)] : List (S53)))).bind fun bt177 => ((rowkey_Encode.f k 1 5 (([(⟨1, 2⟩ : S53)] : List (S53)))).bind fun bt184 => ((rowkey_Decode.f k ([] : List Int)).bind fun bt188 => (if bt177.2 = 0 then (if (bt177.1.length : Int) = 15 then (if bt184.2 = 1 then (if bt188.2.2.2.1 = 0 then (some (bt188.2.2.2.2 == 12)) else (some false)) else (some false)) else (some false)) else (some false))))) = some r := h
 clear h
 obtain ⟨y174, hy174⟩ : ∃ y_ : List (S53), y_ = (([(⟨1, 2⟩ : S53)] : List (S53))) := ⟨_, rfl⟩
 replace H : ((rowkey_Encode.f k 1 3600 y174).bind fun bt177 => ((rowkey_Encode.f k 1 5 (([(⟨1, 2⟩ : S53)] : List (S53)))).bind fun bt184 => ((rowkey_Decode.f k ([] : List Int)).bind fun bt188 => (if bt177.2 = 0 then (if (bt177.1.length : Int) = 15 then (if bt184.2 = 1 then (if bt188.2.2.2.1 = 0 then (some (bt188.2.2.2.2 == 12)) else (some false)) else (some false)) else (some false)) else (some false))))) = some r := by first | (rw [hy174]; with_reducible exact H) | (have H2_ := (Option.bind_some _ _).symm.trans H; rw [hy174]; with_reducible exact H2_) | (have H2_ := (Option.bind_some _ _).symm.trans H; with_reducible exact H2_) | with_reducible exact H | (rw [hy174]; exact H) | exact H
 have Ny174 := Aside0.mk hy174
 clear hy174
 replace H := Option.bind_eq_some_iff.mp H
 obtain ⟨⟨t177, t180⟩, A10, H⟩ := H
 replace H : ((rowkey_Encode.f k 1 5 (([(⟨1, 2⟩ : S53)] : List (S53)))).bind fun bt184 => ((rowkey_Decode.f k ([] : List Int)).bind fun bt188 => (if t180 = 0 then (if (t177.length : Int) = 15 then (if bt184.2 = 1 then (if bt188.2.2.2.1 = 0 then (some (bt188.2.2.2.2 == 12)) else (some false)) else (some false)) else (some false)) else (some false)))) = some r := H
 have A1 := Aside0.mk A10
 clear A10
 obtain ⟨y181, hy181⟩ : ∃ y_ : List (S53), y_ = (([(⟨1, 2⟩ : S53)] : List (S53))) := ⟨_, rfl⟩
 replace H : ((rowkey_Encode.f k 1 5 y181).bind fun bt184 => ((rowkey_Decode.f k ([] : List Int)).bind fun bt188 => (if t180 = 0 then (if (t177.length : Int) = 15 then (if bt184.2 = 1 then (if bt188.2.2.2.1 = 0 then (some (bt188.2.2.2.2 == 12)) else (some false)) else (some false)) else (some false)) else (some false)))) = some r := by first | (rw [hy181]; with_reducible exact H) | (have H2_ := (Option.bind_some _ _).symm.trans H; rw [hy181]; with_reducible exact H2_) | (have H2_ := (Option.bind_some _ _).symm.trans H; with_reducible exact H2_) | with_reducible exact H | (rw [hy181]; exact H) | exact H
 have Ny181 := Aside0.mk hy181
 clear hy181
 replace H := Option.bind_eq_some_iff.mp H
 obtain ⟨⟨t184, t187⟩, A20, H⟩ := H
 replace H : ((rowkey_Decode.f k ([] : List Int)).bind fun bt188 => (if t180 = 0 then (if (t177.length : Int) = 15 then (if t187 = 1 then (if bt188.2.2.2.1 = 0 then (some (bt188.2.2.2.2 == 12)) else (some false)) else (some false)) else (some false)) else (some false))) = some r := H
 have A2 := Aside0.mk A20
 clear A20
 replace H := Option.bind_eq_some_iff.mp H
 obtain ⟨⟨t188, t189, t190, t193, t194⟩, A30, H⟩ := H
 replace H : (if t180 = 0 then (if (t177.length : Int) = 15 then (if t187 = 1 then (if t193 = 0 then (some (t194 == 12)) else (some false)) else (some false)) else (some false)) else (some false)) = some r := H
 have A3 := Aside0.mk A30
 clear A30
 by_cases c4 : t180 = 0
 ·rw [if_pos c4] at H
  have c4b0 : (t180 == 0) = true := beq_iff_eq.mpr c4
  have c4b1 : (t180 != 0) = false := bne_eq_false_iff_eq.mpr c4
  clear c4
  by_cases c5 : (t177.length : Int) = 15
  ·rw [if_pos c5] at H
   have c5b0 : ((t177.length : Int) == 15) = true := beq_iff_eq.mpr c5
   have c5b1 : ((t177.length : Int) != 15) = false := bne_eq_false_iff_eq.mpr c5
   clear c5
   by_cases c6 : t187 = 1
   ·rw [if_pos c6] at H
    have c6b0 : (t187 == 1) = true := beq_iff_eq.mpr c6
    have c6b1 : (t187 != 1) = false := bne_eq_false_iff_eq.mpr c6
    clear c6
    by_cases c7 : t193 = 0
    ·rw [if_pos c7] at H
     have c7b0 : (t193 == 0) = true := beq_iff_eq.mpr c7
     have c7b1 : (t193 != 0) = false := bne_eq_false_iff_eq.mpr c7
     clear c7
     obtain rfl := Option.some.inj H
     go_enter Try.func38, Try.ntmps38
     go_wp2_with (first | ((with_reducible refine gate_dst (N := 10) rfl ?_); (try (refine gate_guard (by rfl) ?_; dsimp only)); refine Kd.R_lit k53 _ 53 ?hg (N := 10) ?hd (xs := ([(⟨1, 2⟩ : S53)] : List (S53))) (inner := [.int .i64 1, .int .i64 2]) (ok := fun _ => True) (okp := fun _ => True) ?hr ?hp (fun _ hk => hk) trivial (Below.refl _ _) (Nat.le_refl _) (by simp) ?_; (case hd => rfl); (case hg => rfl); (case hr => first | (go_simp; done) | (go_simp; rfl)); (case hp => exact (Reps.c2 (show Kd.M k53 _ _ _ (⟨1, 2⟩ : S53) [.int .i64 1, .int .i64 2] from (k53_mkM _ _ _ (⟨1, 2⟩ : S53) )) (Reps.none _ _))); intro v175 w8 ho9 hb hg_ hnew_; clear hg_ hnew_; (first | rw [← Ny174.out] at ho9 | (simp only [Int.reduceToNat] at ho9; rw [← Ny174.out] at ho9)); have n0_ := Aside0.mk (Kd.R_lower ho9 (below_size (belN HB.out))); have n1_ := Aside0.mk (below_step (belN HB.out) hb); clear HB; have HO176 := n0_; have HB := n1_; clear n0_ n1_; clear hb ho9; obtain ⟨Ao10, co10, eo10⟩ := Kd.R_slice HO176.out; subst eo10) | ((with_reducible refine gate_callee (f := 40) rfl ?_); refine goesL_ (some 12) rfl rfl Try.func40 (by kernel_rfl) rfl #[.agg #[.int .i64 1, .int .i64 3600, .slice Ao10 y174.length co10]] rfl argN ?_; (with_reducible refine (rowkey_Encode.calls k 1 3600 _ _ y174 t177 t180 _ ?side1 ?side2 A1.out).mono ?_); (case side1 => repeat (first | exact (Kd.R_reads' HO176.out).2.2 | (with_reducible refine Kd.C_alloc ?_ _) | (with_reducible refine Kd.C_drewN ?_ _) | (with_reducible refine Kd.C_drew ?_))); (case side2 => exact (Kd.R_reads' HO176.out).2.1); rintro e w11 ⟨v178, rfl, ho0, hb⟩; refine ⟨_, rfl, ?_⟩; have n0_ := Aside0.mk (Kd.R_below (rowN HO176.out) hb); have n1_ := Aside0.mk (Kd.R_lower ho0 (below_size (belN HB.out))); have n2_ := Aside0.mk (below_step (belN HB.out) hb); clear HO176; clear HB; have HO176 := n0_; have HO179 := n1_; have HB := n2_; clear n0_ n1_ n2_; (try clear hb); (try clear hk); (try clear ho0)) | ((with_reducible refine gate_dst (N := 17) rfl ?_); (try (refine gate_guard (by rfl) ?_; dsimp only)); refine Kd.R_lit k53 _ 53 ?hg (N := 17) ?hd (xs := ([(⟨1, 2⟩ : S53)] : List (S53))) (inner := [.int .i64 1, .int .i64 2]) (ok := fun _ => True) (okp := fun _ => True) ?hr ?hp (fun _ hk => hk) trivial (Below.refl _ _) (Nat.le_refl _) (by simp) ?_; (case hd => rfl); (case hg => rfl); (case hr => first | (go_simp; done) | (go_simp; rfl)); (case hp => exact (Reps.c2 (show Kd.M k53 _ _ _ (⟨1, 2⟩ : S53) [.int .i64 1, .int .i64 2] from (k53_mkM _ _ _ (⟨1, 2⟩ : S53) )) (Reps.none _ _))); intro v182 w12 ho13 hb hg_ hnew_; clear hg_ hnew_; (first | rw [← Ny181.out] at ho13 | (simp only [Int.reduceToNat] at ho13; rw [← Ny181.out] at ho13)); have n0_ := Aside0.mk (Kd.R_elder' (rowN HO176.out) (Kd.R_base ho13) hb); have n1_ := Aside0.mk (Kd.R_below (rowN HO179.out) hb); have n2_ := Aside0.mk (Kd.R_lower (Kd.R_new' ho13 (Kd.R_lt (rowN HO176.out))) (below_size (belN HB.out))); have n3_ := Aside0.mk (below_step (belN HB.out) hb); clear HO176; clear HO179; clear HB; have HO176 := n0_; have HO179 := n1_; have HO183 := n2_; have HB := n3_; clear n0_ n1_ n2_ n3_; clear hb ho13; obtain ⟨Ao14, co14, eo14⟩ := Kd.R_slice HO183.out; subst eo14) | ((with_reducible refine gate_callee (f := 40) rfl ?_); refine goesL_ (some 19) rfl rfl Try.func40 (by kernel_rfl) rfl #[.agg #[.int .i64 1, .int .i64 5, .slice Ao14 y181.length co14]] rfl argN ?_; (with_reducible refine (rowkey_Encode.calls k 1 5 _ _ y181 t184 t187 _ ?side1 ?side2 A2.out).mono ?_); (case side1 => repeat (first | exact (Kd.R_reads' HO183.out).2.2 | (with_reducible refine Kd.C_alloc ?_ _) | (with_reducible refine Kd.C_drewN ?_ _) | (with_reducible refine Kd.C_drew ?_))); (case side2 => exact (Kd.R_reads' HO183.out).2.1); rintro e w15 ⟨v185, rfl, ho0, hb⟩; refine ⟨_, rfl, ?_⟩; have n0_ := Aside0.mk (Kd.R_below (rowN HO176.out) hb); have n1_ := Aside0.mk (Kd.R_elder' (rowN HO179.out) (Kd.R_base ho0) hb); have n2_ := Aside0.mk (Kd.R_below (rowN HO183.out) hb); have n3_ := Aside0.mk (Kd.R_lower (Kd.R_new' ho0 (Kd.R_lt (rowN HO179.out))) (below_size (belN HB.out))); have n4_ := Aside0.mk (below_step (belN HB.out) hb); clear HO176; clear HO179; clear HO183; clear HB; have HO176 := n0_; have HO179 := n1_; have HO183 := n2_; have HO186 := n3_; have HB := n4_; clear n0_ n1_ n2_ n3_ n4_; (try clear hb); (try clear hk); (try clear ho0)) | ((with_reducible refine gate_callee (f := 41) rfl ?_); refine goesL_ (some 23) rfl rfl Try.func41 (by kernel_rfl) rfl #[.slice none 0 0] rfl argN ?_; (refine (rowkey_Decode.calls k _ _ ([] : List Int) t188 t189 t190 t193 t194 _ ?side1 ?side2 A3.out).mono ?_); (case side1 => exact Kd.C_nil _ _); (case side2 => exact Nat.le_refl _); rintro e w16 ⟨v191, rfl, ho0, hb⟩; refine ⟨_, rfl, ?_⟩; have n0_ := Aside0.mk (Kd.R_elder' (rowN HO176.out) (Kd.R_base ho0) hb); have n1_ := Aside0.mk (Kd.R_below (rowN HO179.out) hb); have n2_ := Aside0.mk (Kd.R_elder' (rowN HO183.out) (Kd.R_base ho0) hb); have n3_ := Aside0.mk (Kd.R_below (rowN HO186.out) hb); have n4_ := Aside0.mk (Kd.R_lower (Kd.R_new' (Kd.R_new' ho0 (Kd.R_lt (rowN HO176.out))) (Kd.R_lt (rowN HO183.out))) (below_size (belN HB.out))); have n5_ := Aside0.mk (below_step (belN HB.out) hb); clear HO176; clear HO179; clear HO183; clear HO186; clear HB; have HO176 := n0_; have HO179 := n1_; have HO183 := n2_; have HO186 := n3_; have HO192 := n4_; have HB := n5_; clear n0_ n1_ n2_ n3_ n4_ n5_; (try clear hb); (try clear hk); (try clear ho0)) | ((with_reducible refine gate_dst (N := 5) rfl ?_); (try (refine gate_guard (by rfl) ?_; dsimp only)); refine box_event ?hg (N := 5) ?hd (cs := #[.int .i64 0, .int .i64 0, .slice none 0 0]) (t := 56) ?hr ?_; (case hd => rfl); (case hg => rfl); (case hr => first | (go_simp; done) | (go_simp; rfl)); intro gb195 hg w17 hbox hb; have n0_ := Aside0.mk (Kd.R_below (rowN HO176.out) hb); have n1_ := Aside0.mk (Kd.R_below (rowN HO179.out) hb); have n2_ := Aside0.mk (Kd.R_below (rowN HO183.out) hb); have n3_ := Aside0.mk (Kd.R_below (rowN HO186.out) hb); have n4_ := Aside0.mk (Kd.R_below (rowN HO192.out) hb); have n5_ := Aside0.mk (below_step (belN HB.out) hb); have n6_ := Aside0.mk (hbox); have n7_ := Aside0.mk (szB hg HB.out); have n8_ := Aside0.mk (szB hg HB.out); clear HO176; clear HO179; clear HO183; clear HO186; clear HO192; clear HB; have HO176 := n0_; have HO179 := n1_; have HO183 := n2_; have HO186 := n3_; have HO192 := n4_; have HB := n5_; have BK195 := n6_; have GW195 := n7_; have GE195 := n8_; clear n0_ n1_ n2_ n3_ n4_ n5_ n6_ n7_ n8_; clear hb hbox hg; have hcz18_0 : w17.cell? ⟨gb195, 0, none⟩ = some (.int .i64 0) := (blk_cell BK195.out 0).trans rfl; have hcz18_1 : w17.cell? ⟨gb195, 1, none⟩ = some (.int .i64 0) := (blk_cell BK195.out 1).trans rfl; have hcz18_2 : w17.cell? ⟨gb195, 2, none⟩ = some (.slice none 0 0) := (blk_cell BK195.out 2).trans rfl; have hfz18_0 := blk_frozen BK195.out 0; have hfz18_1 := blk_frozen BK195.out 1; have hfz18_2 := blk_frozen BK195.out 2; obtain ⟨Ao19, co19, eo19⟩ := Kd.R_slice HO192.out; subst eo19; obtain ⟨Ao20, co20, eo20⟩ := Kd.R_slice HO179.out; subst eo20))
     go_ret
     exact ⟨by first | rfl | (simp [errW_none, errW_some] <;> rfl) | (simp [*, errW_none, errW_some] <;> rfl), (belS HB.out)⟩
    ·rw [if_neg c7] at H
     have c7b0 : (t193 == 0) = false := beq_eq_false_iff_ne.mpr c7
     have c7b1 : (t193 != 0) = true := bne_iff_ne.mpr c7
     obtain rfl := Option.some.inj H
     go_enter Try.func38, Try.ntmps38
     go_wp2_with (first | ((with_reducible refine gate_dst (N := 10) rfl ?_); (try (refine gate_guard (by rfl) ?_; dsimp only)); refine Kd.R_lit k53 _ 53 ?hg (N := 10) ?hd (xs := ([(⟨1, 2⟩ : S53)] : List (S53))) (inner := [.int .i64 1, .int .i64 2]) (ok := fun _ => True) (okp := fun _ => True) ?hr ?hp (fun _ hk => hk) trivial (Below.refl _ _) (Nat.le_refl _) (by simp) ?_; (case hd => rfl); (case hg => rfl); (case hr => first | (go_simp; done) | (go_simp; rfl)); (case hp => exact (Reps.c2 (show Kd.M k53 _ _ _ (⟨1, 2⟩ : S53) [.int .i64 1, .int .i64 2] from (k53_mkM _ _ _ (⟨1, 2⟩ : S53) )) (Reps.none _ _))); intro v175 w21 ho22 hb hg_ hnew_; clear hg_ hnew_; (first | rw [← Ny174.out] at ho22 | (simp only [Int.reduceToNat] at ho22; rw [← Ny174.out] at ho22)); have n0_ := Aside0.mk (Kd.R_lower ho22 (below_size (belN HB.out))); have n1_ := Aside0.mk (below_step (belN HB.out) hb); clear HB; have HO176 := n0_; have HB := n1_; clear n0_ n1_; clear hb ho22; obtain ⟨Ao23, co23, eo23⟩ := Kd.R_slice HO176.out; subst eo23) | ((with_reducible refine gate_callee (f := 40) rfl ?_); refine goesL_ (some 12) rfl rfl Try.func40 (by kernel_rfl) rfl #[.agg #[.int .i64 1, .int .i64 3600, .slice Ao23 y174.length co23]] rfl argN ?_; (with_reducible refine (rowkey_Encode.calls k 1 3600 _ _ y174 t177 t180 _ ?side1 ?side2 A1.out).mono ?_); (case side1 => repeat (first | exact (Kd.R_reads' HO176.out).2.2 | (with_reducible refine Kd.C_alloc ?_ _) | (with_reducible refine Kd.C_drewN ?_ _) | (with_reducible refine Kd.C_drew ?_))); (case side2 => exact (Kd.R_reads' HO176.out).2.1); rintro e w24 ⟨v178, rfl, ho0, hb⟩; refine ⟨_, rfl, ?_⟩; have n0_ := Aside0.mk (Kd.R_below (rowN HO176.out) hb); have n1_ := Aside0.mk (Kd.R_lower ho0 (below_size (belN HB.out))); have n2_ := Aside0.mk (below_step (belN HB.out) hb); clear HO176; clear HB; have HO176 := n0_; have HO179 := n1_; have HB := n2_; clear n0_ n1_ n2_; (try clear hb); (try clear hk); (try clear ho0)) | ((with_reducible refine gate_dst (N := 17) rfl ?_); (try (refine gate_guard (by rfl) ?_; dsimp only)); refine Kd.R_lit k53 _ 53 ?hg (N := 17) ?hd (xs := ([(⟨1, 2⟩ : S53)] : List (S53))) (inner := [.int .i64 1, .int .i64 2]) (ok := fun _ => True) (okp := fun _ => True) ?hr ?hp (fun _ hk => hk) trivial (Below.refl _ _) (Nat.le_refl _) (by simp) ?_; (case hd => rfl); (case hg => rfl); (case hr => first | (go_simp; done) | (go_simp; rfl)); (case hp => exact (Reps.c2 (show Kd.M k53 _ _ _ (⟨1, 2⟩ : S53) [.int .i64 1, .int .i64 2] from (k53_mkM _ _ _ (⟨1, 2⟩ : S53) )) (Reps.none _ _))); intro v182 w25 ho26 hb hg_ hnew_; clear hg_ hnew_; (first | rw [← Ny181.out] at ho26 | (simp only [Int.reduceToNat] at ho26; rw [← Ny181.out] at ho26)); have n0_ := Aside0.mk (Kd.R_elder' (rowN HO176.out) (Kd.R_base ho26) hb); have n1_ := Aside0.mk (Kd.R_below (rowN HO179.out) hb); have n2_ := Aside0.mk (Kd.R_lower (Kd.R_new' ho26 (Kd.R_lt (rowN HO176.out))) (below_size (belN HB.out))); have n3_ := Aside0.mk (below_step (belN HB.out) hb); clear HO176; clear HO179; clear HB; have HO176 := n0_; have HO179 := n1_; have HO183 := n2_; have HB := n3_; clear n0_ n1_ n2_ n3_; clear hb ho26; obtain ⟨Ao27, co27, eo27⟩ := Kd.R_slice HO183.out; subst eo27) | ((with_reducible refine gate_callee (f := 40) rfl ?_); refine goesL_ (some 19) rfl rfl Try.func40 (by kernel_rfl) rfl #[.agg #[.int .i64 1, .int .i64 5, .slice Ao27 y181.length co27]] rfl argN ?_; (with_reducible refine (rowkey_Encode.calls k 1 5 _ _ y181 t184 t187 _ ?side1 ?side2 A2.out).mono ?_); (case side1 => repeat (first | exact (Kd.R_reads' HO183.out).2.2 | (with_reducible refine Kd.C_alloc ?_ _) | (with_reducible refine Kd.C_drewN ?_ _) | (with_reducible refine Kd.C_drew ?_))); (case side2 => exact (Kd.R_reads' HO183.out).2.1); rintro e w28 ⟨v185, rfl, ho0, hb⟩; refine ⟨_, rfl, ?_⟩; have n0_ := Aside0.mk (Kd.R_below (rowN HO176.out) hb); have n1_ := Aside0.mk (Kd.R_elder' (rowN HO179.out) (Kd.R_base ho0) hb); have n2_ := Aside0.mk (Kd.R_below (rowN HO183.out) hb); have n3_ := Aside0.mk (Kd.R_lower (Kd.R_new' ho0 (Kd.R_lt (rowN HO179.out))) (below_size (belN HB.out))); have n4_ := Aside0.mk (below_step (belN HB.out) hb); clear HO176; clear HO179; clear HO183; clear HB; have HO176 := n0_; have HO179 := n1_; have HO183 := n2_; have HO186 := n3_; have HB := n4_; clear n0_ n1_ n2_ n3_ n4_; (try clear hb); (try clear hk); (try clear ho0)) | ((with_reducible refine gate_callee (f := 41) rfl ?_); refine goesL_ (some 23) rfl rfl Try.func41 (by kernel_rfl) rfl #[.slice none 0 0] rfl argN ?_; (refine (rowkey_Decode.calls k _ _ ([] : List Int) t188 t189 t190 t193 t194 _ ?side1 ?side2 A3.out).mono ?_); (case side1 => exact Kd.C_nil _ _); (case side2 => exact Nat.le_refl _); rintro e w29 ⟨v191, rfl, ho0, hb⟩; refine ⟨_, rfl, ?_⟩; have n0_ := Aside0.mk (Kd.R_elder' (rowN HO176.out) (Kd.R_base ho0) hb); have n1_ := Aside0.mk (Kd.R_below (rowN HO179.out) hb); have n2_ := Aside0.mk (Kd.R_elder' (rowN HO183.out) (Kd.R_base ho0) hb); have n3_ := Aside0.mk (Kd.R_below (rowN HO186.out) hb); have n4_ := Aside0.mk (Kd.R_lower (Kd.R_new' (Kd.R_new' ho0 (Kd.R_lt (rowN HO176.out))) (Kd.R_lt (rowN HO183.out))) (below_size (belN HB.out))); have n5_ := Aside0.mk (below_step (belN HB.out) hb); clear HO176; clear HO179; clear HO183; clear HO186; clear HB; have HO176 := n0_; have HO179 := n1_; have HO183 := n2_; have HO186 := n3_; have HO192 := n4_; have HB := n5_; clear n0_ n1_ n2_ n3_ n4_ n5_; (try clear hb); (try clear hk); (try clear ho0)) | ((with_reducible refine gate_dst (N := 5) rfl ?_); (try (refine gate_guard (by rfl) ?_; dsimp only)); refine box_event ?hg (N := 5) ?hd (cs := #[.int .i64 0, .int .i64 0, .slice none 0 0]) (t := 56) ?hr ?_; (case hd => rfl); (case hg => rfl); (case hr => first | (go_simp; done) | (go_simp; rfl)); intro gb195 hg w30 hbox hb; have n0_ := Aside0.mk (Kd.R_below (rowN HO176.out) hb); have n1_ := Aside0.mk (Kd.R_below (rowN HO179.out) hb); have n2_ := Aside0.mk (Kd.R_below (rowN HO183.out) hb); have n3_ := Aside0.mk (Kd.R_below (rowN HO186.out) hb); have n4_ := Aside0.mk (Kd.R_below (rowN HO192.out) hb); have n5_ := Aside0.mk (below_step (belN HB.out) hb); have n6_ := Aside0.mk (hbox); have n7_ := Aside0.mk (szB hg HB.out); have n8_ := Aside0.mk (szB hg HB.out); clear HO176; clear HO179; clear HO183; clear HO186; clear HO192; clear HB; have HO176 := n0_; have HO179 := n1_; have HO183 := n2_; have HO186 := n3_; have HO192 := n4_; have HB := n5_; have BK195 := n6_; have GW195 := n7_; have GE195 := n8_; clear n0_ n1_ n2_ n3_ n4_ n5_ n6_ n7_ n8_; clear hb hbox hg; have hcz31_0 : w30.cell? ⟨gb195, 0, none⟩ = some (.int .i64 0) := (blk_cell BK195.out 0).trans rfl; have hcz31_1 : w30.cell? ⟨gb195, 1, none⟩ = some (.int .i64 0) := (blk_cell BK195.out 1).trans rfl; have hcz31_2 : w30.cell? ⟨gb195, 2, none⟩ = some (.slice none 0 0) := (blk_cell BK195.out 2).trans rfl; have hfz31_0 := blk_frozen BK195.out 0; have hfz31_1 := blk_frozen BK195.out 1; have hfz31_2 := blk_frozen BK195.out 2; obtain ⟨Ao32, co32, eo32⟩ := Kd.R_slice HO192.out; subst eo32; obtain ⟨Ao33, co33, eo33⟩ := Kd.R_slice HO179.out; subst eo33))
     go_ret
     exact ⟨by first | rfl | (simp [errW_none, errW_some] <;> rfl) | (simp [*, errW_none, errW_some] <;> rfl), (belS HB.out)⟩
   ·rw [if_neg c6] at H
    have c6b0 : (t187 == 1) = false := beq_eq_false_iff_ne.mpr c6
    have c6b1 : (t187 != 1) = true := bne_iff_ne.mpr c6
    obtain rfl := Option.some.inj H
    go_enter Try.func38, Try.ntmps38
    go_wp2_with (first | ((with_reducible refine gate_dst (N := 10) rfl ?_); (try (refine gate_guard (by rfl) ?_; dsimp only)); refine Kd.R_lit k53 _ 53 ?hg (N := 10) ?hd (xs := ([(⟨1, 2⟩ : S53)] : List (S53))) (inner := [.int .i64 1, .int .i64 2]) (ok := fun _ => True) (okp := fun _ => True) ?hr ?hp (fun _ hk => hk) trivial (Below.refl _ _) (Nat.le_refl _) (by simp) ?_; (case hd => rfl); (case hg => rfl); (case hr => first | (go_simp; done) | (go_simp; rfl)); (case hp => exact (Reps.c2 (show Kd.M k53 _ _ _ (⟨1, 2⟩ : S53) [.int .i64 1, .int .i64 2] from (k53_mkM _ _ _ (⟨1, 2⟩ : S53) )) (Reps.none _ _))); intro v175 w34 ho35 hb hg_ hnew_; clear hg_ hnew_; (first | rw [← Ny174.out] at ho35 | (simp only [Int.reduceToNat] at ho35; rw [← Ny174.out] at ho35)); have n0_ := Aside0.mk (Kd.R_lower ho35 (below_size (belN HB.out))); have n1_ := Aside0.mk (below_step (belN HB.out) hb); clear HB; have HO176 := n0_; have HB := n1_; clear n0_ n1_; clear hb ho35; obtain ⟨Ao36, co36, eo36⟩ := Kd.R_slice HO176.out; subst eo36) | ((with_reducible refine gate_callee (f := 40) rfl ?_); refine goesL_ (some 12) rfl rfl Try.func40 (by kernel_rfl) rfl #[.agg #[.int .i64 1, .int .i64 3600, .slice Ao36 y174.length co36]] rfl argN ?_; (with_reducible refine (rowkey_Encode.calls k 1 3600 _ _ y174 t177 t180 _ ?side1 ?side2 A1.out).mono ?_); (case side1 => repeat (first | exact (Kd.R_reads' HO176.out).2.2 | (with_reducible refine Kd.C_alloc ?_ _) | (with_reducible refine Kd.C_drewN ?_ _) | (with_reducible refine Kd.C_drew ?_))); (case side2 => exact (Kd.R_reads' HO176.out).2.1); rintro e w37 ⟨v178, rfl, ho0, hb⟩; refine ⟨_, rfl, ?_⟩; have n0_ := Aside0.mk (Kd.R_below (rowN HO176.out) hb); have n1_ := Aside0.mk (Kd.R_lower ho0 (below_size (belN HB.out))); have n2_ := Aside0.mk (below_step (belN HB.out) hb); clear HO176; clear HB; have HO176 := n0_; have HO179 := n1_; have HB := n2_; clear n0_ n1_ n2_; (try clear hb); (try clear hk); (try clear ho0)) | ((with_reducible refine gate_dst (N := 17) rfl ?_); (try (refine gate_guard (by rfl) ?_; dsimp only)); refine Kd.R_lit k53 _ 53 ?hg (N := 17) ?hd (xs := ([(⟨1, 2⟩ : S53)] : List (S53))) (inner := [.int .i64 1, .int .i64 2]) (ok := fun _ => True) (okp := fun _ => True) ?hr ?hp (fun _ hk => hk) trivial (Below.refl _ _) (Nat.le_refl _) (by simp) ?_; (case hd => rfl); (case hg => rfl); (case hr => first | (go_simp; done) | (go_simp; rfl)); (case hp => exact (Reps.c2 (show Kd.M k53 _ _ _ (⟨1, 2⟩ : S53) [.int .i64 1, .int .i64 2] from (k53_mkM _ _ _ (⟨1, 2⟩ : S53) )) (Reps.none _ _))); intro v182 w38 ho39 hb hg_ hnew_; clear hg_ hnew_; (first | rw [← Ny181.out] at ho39 | (simp only [Int.reduceToNat] at ho39; rw [← Ny181.out] at ho39)); have n0_ := Aside0.mk (Kd.R_elder' (rowN HO176.out) (Kd.R_base ho39) hb); have n1_ := Aside0.mk (Kd.R_below (rowN HO179.out) hb); have n2_ := Aside0.mk (Kd.R_lower (Kd.R_new' ho39 (Kd.R_lt (rowN HO176.out))) (below_size (belN HB.out))); have n3_ := Aside0.mk (below_step (belN HB.out) hb); clear HO176; clear HO179; clear HB; have HO176 := n0_; have HO179 := n1_; have HO183 := n2_; have HB := n3_; clear n0_ n1_ n2_ n3_; clear hb ho39; obtain ⟨Ao40, co40, eo40⟩ := Kd.R_slice HO183.out; subst eo40) | ((with_reducible refine gate_callee (f := 40) rfl ?_); refine goesL_ (some 19) rfl rfl Try.func40 (by kernel_rfl) rfl #[.agg #[.int .i64 1, .int .i64 5, .slice Ao40 y181.length co40]] rfl argN ?_; (with_reducible refine (rowkey_Encode.calls k 1 5 _ _ y181 t184 t187 _ ?side1 ?side2 A2.out).mono ?_); (case side1 => repeat (first | exact (Kd.R_reads' HO183.out).2.2 | (with_reducible refine Kd.C_alloc ?_ _) | (with_reducible refine Kd.C_drewN ?_ _) | (with_reducible refine Kd.C_drew ?_))); (case side2 => exact (Kd.R_reads' HO183.out).2.1); rintro e w41 ⟨v185, rfl, ho0, hb⟩; refine ⟨_, rfl, ?_⟩; have n0_ := Aside0.mk (Kd.R_below (rowN HO176.out) hb); have n1_ := Aside0.mk (Kd.R_elder' (rowN HO179.out) (Kd.R_base ho0) hb); have n2_ := Aside0.mk (Kd.R_below (rowN HO183.out) hb); have n3_ := Aside0.mk (Kd.R_lower (Kd.R_new' ho0 (Kd.R_lt (rowN HO179.out))) (below_size (belN HB.out))); have n4_ := Aside0.mk (below_step (belN HB.out) hb); clear HO176; clear HO179; clear HO183; clear HB; have HO176 := n0_; have HO179 := n1_; have HO183 := n2_; have HO186 := n3_; have HB := n4_; clear n0_ n1_ n2_ n3_ n4_; (try clear hb); (try clear hk); (try clear ho0)) | ((with_reducible refine gate_callee (f := 41) rfl ?_); refine goesL_ (some 23) rfl rfl Try.func41 (by kernel_rfl) rfl #[.slice none 0 0] rfl argN ?_; (refine (rowkey_Decode.calls k _ _ ([] : List Int) t188 t189 t190 t193 t194 _ ?side1 ?side2 A3.out).mono ?_); (case side1 => exact Kd.C_nil _ _); (case side2 => exact Nat.le_refl _); rintro e w42 ⟨v191, rfl, ho0, hb⟩; refine ⟨_, rfl, ?_⟩; have n0_ := Aside0.mk (Kd.R_elder' (rowN HO176.out) (Kd.R_base ho0) hb); have n1_ := Aside0.mk (Kd.R_below (rowN HO179.out) hb); have n2_ := Aside0.mk (Kd.R_elder' (rowN HO183.out) (Kd.R_base ho0) hb); have n3_ := Aside0.mk (Kd.R_below (rowN HO186.out) hb); have n4_ := Aside0.mk (Kd.R_lower (Kd.R_new' (Kd.R_new' ho0 (Kd.R_lt (rowN HO176.out))) (Kd.R_lt (rowN HO183.out))) (below_size (belN HB.out))); have n5_ := Aside0.mk (below_step (belN HB.out) hb); clear HO176; clear HO179; clear HO183; clear HO186; clear HB; have HO176 := n0_; have HO179 := n1_; have HO183 := n2_; have HO186 := n3_; have HO192 := n4_; have HB := n5_; clear n0_ n1_ n2_ n3_ n4_ n5_; (try clear hb); (try clear hk); (try clear ho0)) | ((with_reducible refine gate_dst (N := 5) rfl ?_); (try (refine gate_guard (by rfl) ?_; dsimp only)); refine box_event ?hg (N := 5) ?hd (cs := #[.int .i64 0, .int .i64 0, .slice none 0 0]) (t := 56) ?hr ?_; (case hd => rfl); (case hg => rfl); (case hr => first | (go_simp; done) | (go_simp; rfl)); intro gb195 hg w43 hbox hb; have n0_ := Aside0.mk (Kd.R_below (rowN HO176.out) hb); have n1_ := Aside0.mk (Kd.R_below (rowN HO179.out) hb); have n2_ := Aside0.mk (Kd.R_below (rowN HO183.out) hb); have n3_ := Aside0.mk (Kd.R_below (rowN HO186.out) hb); have n4_ := Aside0.mk (Kd.R_below (rowN HO192.out) hb); have n5_ := Aside0.mk (below_step (belN HB.out) hb); have n6_ := Aside0.mk (hbox); have n7_ := Aside0.mk (szB hg HB.out); have n8_ := Aside0.mk (szB hg HB.out); clear HO176; clear HO179; clear HO183; clear HO186; clear HO192; clear HB; have HO176 := n0_; have HO179 := n1_; have HO183 := n2_; have HO186 := n3_; have HO192 := n4_; have HB := n5_; have BK195 := n6_; have GW195 := n7_; have GE195 := n8_; clear n0_ n1_ n2_ n3_ n4_ n5_ n6_ n7_ n8_; clear hb hbox hg; have hcz44_0 : w43.cell? ⟨gb195, 0, none⟩ = some (.int .i64 0) := (blk_cell BK195.out 0).trans rfl; have hcz44_1 : w43.cell? ⟨gb195, 1, none⟩ = some (.int .i64 0) := (blk_cell BK195.out 1).trans rfl; have hcz44_2 : w43.cell? ⟨gb195, 2, none⟩ = some (.slice none 0 0) := (blk_cell BK195.out 2).trans rfl; have hfz44_0 := blk_frozen BK195.out 0; have hfz44_1 := blk_frozen BK195.out 1; have hfz44_2 := blk_frozen BK195.out 2; obtain ⟨Ao45, co45, eo45⟩ := Kd.R_slice HO192.out; subst eo45; obtain ⟨Ao46, co46, eo46⟩ := Kd.R_slice HO179.out; subst eo46))
    go_ret
    exact ⟨by first | rfl | (simp [errW_none, errW_some] <;> rfl) | (simp [*, errW_none, errW_some] <;> rfl), (belS HB.out)⟩
  ·rw [if_neg c5] at H
   have c5b0 : ((t177.length : Int) == 15) = false := beq_eq_false_iff_ne.mpr c5
   have c5b1 : ((t177.length : Int) != 15) = true := bne_iff_ne.mpr c5
   obtain rfl := Option.some.inj H
   go_enter Try.func38, Try.ntmps38
   go_wp2_with (first | ((with_reducible refine gate_dst (N := 10) rfl ?_); (try (refine gate_guard (by rfl) ?_; dsimp only)); refine Kd.R_lit k53 _ 53 ?hg (N := 10) ?hd (xs := ([(⟨1, 2⟩ : S53)] : List (S53))) (inner := [.int .i64 1, .int .i64 2]) (ok := fun _ => True) (okp := fun _ => True) ?hr ?hp (fun _ hk => hk) trivial (Below.refl _ _) (Nat.le_refl _) (by simp) ?_; (case hd => rfl); (case hg => rfl); (case hr => first | (go_simp; done) | (go_simp; rfl)); (case hp => exact (Reps.c2 (show Kd.M k53 _ _ _ (⟨1, 2⟩ : S53) [.int .i64 1, .int .i64 2] from (k53_mkM _ _ _ (⟨1, 2⟩ : S53) )) (Reps.none _ _))); intro v175 w47 ho48 hb hg_ hnew_; clear hg_ hnew_; (first | rw [← Ny174.out] at ho48 | (simp only [Int.reduceToNat] at ho48; rw [← Ny174.out] at ho48)); have n0_ := Aside0.mk (Kd.R_lower ho48 (below_size (belN HB.out))); have n1_ := Aside0.mk (below_step (belN HB.out) hb); clear HB; have HO176 := n0_; have HB := n1_; clear n0_ n1_; clear hb ho48; obtain ⟨Ao49, co49, eo49⟩ := Kd.R_slice HO176.out; subst eo49) | ((with_reducible refine gate_callee (f := 40) rfl ?_); refine goesL_ (some 12) rfl rfl Try.func40 (by kernel_rfl) rfl #[.agg #[.int .i64 1, .int .i64 3600, .slice Ao49 y174.length co49]] rfl argN ?_; (with_reducible refine (rowkey_Encode.calls k 1 3600 _ _ y174 t177 t180 _ ?side1 ?side2 A1.out).mono ?_); (case side1 => repeat (first | exact (Kd.R_reads' HO176.out).2.2 | (with_reducible refine Kd.C_alloc ?_ _) | (with_reducible refine Kd.C_drewN ?_ _) | (with_reducible refine Kd.C_drew ?_))); (case side2 => exact (Kd.R_reads' HO176.out).2.1); rintro e w50 ⟨v178, rfl, ho0, hb⟩; refine ⟨_, rfl, ?_⟩; have n0_ := Aside0.mk (Kd.R_below (rowN HO176.out) hb); have n1_ := Aside0.mk (Kd.R_lower ho0 (below_size (belN HB.out))); have n2_ := Aside0.mk (below_step (belN HB.out) hb); clear HO176; clear HB; have HO176 := n0_; have HO179 := n1_; have HB := n2_; clear n0_ n1_ n2_; (try clear hb); (try clear hk); (try clear ho0)) | ((with_reducible refine gate_dst (N := 17) rfl ?_); (try (refine gate_guard (by rfl) ?_; dsimp only)); refine Kd.R_lit k53 _ 53 ?hg (N := 17) ?hd (xs := ([(⟨1, 2⟩ : S53)] : List (S53))) (inner := [.int .i64 1, .int .i64 2]) (ok := fun _ => True) (okp := fun _ => True) ?hr ?hp (fun _ hk => hk) trivial (Below.refl _ _) (Nat.le_refl _) (by simp) ?_; (case hd => rfl); (case hg => rfl); (case hr => first | (go_simp; done) | (go_simp; rfl)); (case hp => exact (Reps.c2 (show Kd.M k53 _ _ _ (⟨1, 2⟩ : S53) [.int .i64 1, .int .i64 2] from (k53_mkM _ _ _ (⟨1, 2⟩ : S53) )) (Reps.none _ _))); intro v182 w51 ho52 hb hg_ hnew_; clear hg_ hnew_; (first | rw [← Ny181.out] at ho52 | (simp only [Int.reduceToNat] at ho52; rw [← Ny181.out] at ho52)); have n0_ := Aside0.mk (Kd.R_elder' (rowN HO176.out) (Kd.R_base ho52) hb); have n1_ := Aside0.mk (Kd.R_below (rowN HO179.out) hb); have n2_ := Aside0.mk (Kd.R_lower (Kd.R_new' ho52 (Kd.R_lt (rowN HO176.out))) (below_size (belN HB.out))); have n3_ := Aside0.mk (below_step (belN HB.out) hb); clear HO176; clear HO179; clear HB; have HO176 := n0_; have HO179 := n1_; have HO183 := n2_; have HB := n3_; clear n0_ n1_ n2_ n3_; clear hb ho52; obtain ⟨Ao53, co53, eo53⟩ := Kd.R_slice HO183.out; subst eo53) | ((with_reducible refine gate_callee (f := 40) rfl ?_); refine goesL_ (some 19) rfl rfl Try.func40 (by kernel_rfl) rfl #[.agg #[.int .i64 1, .int .i64 5, .slice Ao53 y181.length co53]] rfl argN ?_; (with_reducible refine (rowkey_Encode.calls k 1 5 _ _ y181 t184 t187 _ ?side1 ?side2 A2.out).mono ?_); (case side1 => repeat (first | exact (Kd.R_reads' HO183.out).2.2 | (with_reducible refine Kd.C_alloc ?_ _) | (with_reducible refine Kd.C_drewN ?_ _) | (with_reducible refine Kd.C_drew ?_))); (case side2 => exact (Kd.R_reads' HO183.out).2.1); rintro e w54 ⟨v185, rfl, ho0, hb⟩; refine ⟨_, rfl, ?_⟩; have n0_ := Aside0.mk (Kd.R_below (rowN HO176.out) hb); have n1_ := Aside0.mk (Kd.R_elder' (rowN HO179.out) (Kd.R_base ho0) hb); have n2_ := Aside0.mk (Kd.R_below (rowN HO183.out) hb); have n3_ := Aside0.mk (Kd.R_lower (Kd.R_new' ho0 (Kd.R_lt (rowN HO179.out))) (below_size (belN HB.out))); have n4_ := Aside0.mk (below_step (belN HB.out) hb); clear HO176; clear HO179; clear HO183; clear HB; have HO176 := n0_; have HO179 := n1_; have HO183 := n2_; have HO186 := n3_; have HB := n4_; clear n0_ n1_ n2_ n3_ n4_; (try clear hb); (try clear hk); (try clear ho0)) | ((with_reducible refine gate_callee (f := 41) rfl ?_); refine goesL_ (some 23) rfl rfl Try.func41 (by kernel_rfl) rfl #[.slice none 0 0] rfl argN ?_; (refine (rowkey_Decode.calls k _ _ ([] : List Int) t188 t189 t190 t193 t194 _ ?side1 ?side2 A3.out).mono ?_); (case side1 => exact Kd.C_nil _ _); (case side2 => exact Nat.le_refl _); rintro e w55 ⟨v191, rfl, ho0, hb⟩; refine ⟨_, rfl, ?_⟩; have n0_ := Aside0.mk (Kd.R_elder' (rowN HO176.out) (Kd.R_base ho0) hb); have n1_ := Aside0.mk (Kd.R_below (rowN HO179.out) hb); have n2_ := Aside0.mk (Kd.R_elder' (rowN HO183.out) (Kd.R_base ho0) hb); have n3_ := Aside0.mk (Kd.R_below (rowN HO186.out) hb); have n4_ := Aside0.mk (Kd.R_lower (Kd.R_new' (Kd.R_new' ho0 (Kd.R_lt (rowN HO176.out))) (Kd.R_lt (rowN HO183.out))) (below_size (belN HB.out))); have n5_ := Aside0.mk (below_step (belN HB.out) hb); clear HO176; clear HO179; clear HO183; clear HO186; clear HB; have HO176 := n0_; have HO179 := n1_; have HO183 := n2_; have HO186 := n3_; have HO192 := n4_; have HB := n5_; clear n0_ n1_ n2_ n3_ n4_ n5_; (try clear hb); (try clear hk); (try clear ho0)) | ((with_reducible refine gate_dst (N := 5) rfl ?_); (try (refine gate_guard (by rfl) ?_; dsimp only)); refine box_event ?hg (N := 5) ?hd (cs := #[.int .i64 0, .int .i64 0, .slice none 0 0]) (t := 56) ?hr ?_; (case hd => rfl); (case hg => rfl); (case hr => first | (go_simp; done) | (go_simp; rfl)); intro gb195 hg w56 hbox hb; have n0_ := Aside0.mk (Kd.R_below (rowN HO176.out) hb); have n1_ := Aside0.mk (Kd.R_below (rowN HO179.out) hb); have n2_ := Aside0.mk (Kd.R_below (rowN HO183.out) hb); have n3_ := Aside0.mk (Kd.R_below (rowN HO186.out) hb); have n4_ := Aside0.mk (Kd.R_below (rowN HO192.out) hb); have n5_ := Aside0.mk (below_step (belN HB.out) hb); have n6_ := Aside0.mk (hbox); have n7_ := Aside0.mk (szB hg HB.out); have n8_ := Aside0.mk (szB hg HB.out); clear HO176; clear HO179; clear HO183; clear HO186; clear HO192; clear HB; have HO176 := n0_; have HO179 := n1_; have HO183 := n2_; have HO186 := n3_; have HO192 := n4_; have HB := n5_; have BK195 := n6_; have GW195 := n7_; have GE195 := n8_; clear n0_ n1_ n2_ n3_ n4_ n5_ n6_ n7_ n8_; clear hb hbox hg; have hcz57_0 : w56.cell? ⟨gb195, 0, none⟩ = some (.int .i64 0) := (blk_cell BK195.out 0).trans rfl; have hcz57_1 : w56.cell? ⟨gb195, 1, none⟩ = some (.int .i64 0) := (blk_cell BK195.out 1).trans rfl; have hcz57_2 : w56.cell? ⟨gb195, 2, none⟩ = some (.slice none 0 0) := (blk_cell BK195.out 2).trans rfl; have hfz57_0 := blk_frozen BK195.out 0; have hfz57_1 := blk_frozen BK195.out 1; have hfz57_2 := blk_frozen BK195.out 2; obtain ⟨Ao58, co58, eo58⟩ := Kd.R_slice HO192.out; subst eo58; obtain ⟨Ao59, co59, eo59⟩ := Kd.R_slice HO179.out; subst eo59))
   go_ret
   exact ⟨by first | rfl | (simp [errW_none, errW_some] <;> rfl) | (simp [*, errW_none, errW_some] <;> rfl), (belS HB.out)⟩
 ·rw [if_neg c4] at H
  have c4b0 : (t180 == 0) = false := beq_eq_false_iff_ne.mpr c4
  have c4b1 : (t180 != 0) = true := bne_iff_ne.mpr c4
  obtain rfl := Option.some.inj H
  go_enter Try.func38, Try.ntmps38
  go_wp2_with (first | ((with_reducible refine gate_dst (N := 10) rfl ?_); (try (refine gate_guard (by rfl) ?_; dsimp only)); refine Kd.R_lit k53 _ 53 ?hg (N := 10) ?hd (xs := ([(⟨1, 2⟩ : S53)] : List (S53))) (inner := [.int .i64 1, .int .i64 2]) (ok := fun _ => True) (okp := fun _ => True) ?hr ?hp (fun _ hk => hk) trivial (Below.refl _ _) (Nat.le_refl _) (by simp) ?_; (case hd => rfl); (case hg => rfl); (case hr => first | (go_simp; done) | (go_simp; rfl)); (case hp => exact (Reps.c2 (show Kd.M k53 _ _ _ (⟨1, 2⟩ : S53) [.int .i64 1, .int .i64 2] from (k53_mkM _ _ _ (⟨1, 2⟩ : S53) )) (Reps.none _ _))); intro v175 w60 ho61 hb hg_ hnew_; clear hg_ hnew_; (first | rw [← Ny174.out] at ho61 | (simp only [Int.reduceToNat] at ho61; rw [← Ny174.out] at ho61)); have n0_ := Aside0.mk (Kd.R_lower ho61 (below_size (belN HB.out))); have n1_ := Aside0.mk (below_step (belN HB.out) hb); clear HB; have HO176 := n0_; have HB := n1_; clear n0_ n1_; clear hb ho61; obtain ⟨Ao62, co62, eo62⟩ := Kd.R_slice HO176.out; subst eo62) | ((with_reducible refine gate_callee (f := 40) rfl ?_); refine goesL_ (some 12) rfl rfl Try.func40 (by kernel_rfl) rfl #[.agg #[.int .i64 1, .int .i64 3600, .slice Ao62 y174.length co62]] rfl argN ?_; (with_reducible refine (rowkey_Encode.calls k 1 3600 _ _ y174 t177 t180 _ ?side1 ?side2 A1.out).mono ?_); (case side1 => repeat (first | exact (Kd.R_reads' HO176.out).2.2 | (with_reducible refine Kd.C_alloc ?_ _) | (with_reducible refine Kd.C_drewN ?_ _) | (with_reducible refine Kd.C_drew ?_))); (case side2 => exact (Kd.R_reads' HO176.out).2.1); rintro e w63 ⟨v178, rfl, ho0, hb⟩; refine ⟨_, rfl, ?_⟩; have n0_ := Aside0.mk (Kd.R_below (rowN HO176.out) hb); have n1_ := Aside0.mk (Kd.R_lower ho0 (below_size (belN HB.out))); have n2_ := Aside0.mk (below_step (belN HB.out) hb); clear HO176; clear HB; have HO176 := n0_; have HO179 := n1_; have HB := n2_; clear n0_ n1_ n2_; (try clear hb); (try clear hk); (try clear ho0)) | ((with_reducible refine gate_dst (N := 17) rfl ?_); (try (refine gate_guard (by rfl) ?_; dsimp only)); refine Kd.R_lit k53 _ 53 ?hg (N := 17) ?hd (xs := ([(⟨1, 2⟩ : S53)] : List (S53))) (inner := [.int .i64 1, .int .i64 2]) (ok := fun _ => True) (okp := fun _ => True) ?hr ?hp (fun _ hk => hk) trivial (Below.refl _ _) (Nat.le_refl _) (by simp) ?_; (case hd => rfl); (case hg => rfl); (case hr => first | (go_simp; done) | (go_simp; rfl)); (case hp => exact (Reps.c2 (show Kd.M k53 _ _ _ (⟨1, 2⟩ : S53) [.int .i64 1, .int .i64 2] from (k53_mkM _ _ _ (⟨1, 2⟩ : S53) )) (Reps.none _ _))); intro v182 w64 ho65 hb hg_ hnew_; clear hg_ hnew_; (first | rw [← Ny181.out] at ho65 | (simp only [Int.reduceToNat] at ho65; rw [← Ny181.out] at ho65)); have n0_ := Aside0.mk (Kd.R_elder' (rowN HO176.out) (Kd.R_base ho65) hb); have n1_ := Aside0.mk (Kd.R_below (rowN HO179.out) hb); have n2_ := Aside0.mk (Kd.R_lower (Kd.R_new' ho65 (Kd.R_lt (rowN HO176.out))) (below_size (belN HB.out))); have n3_ := Aside0.mk (below_step (belN HB.out) hb); clear HO176; clear HO179; clear HB; have HO176 := n0_; have HO179 := n1_; have HO183 := n2_; have HB := n3_; clear n0_ n1_ n2_ n3_; clear hb ho65; obtain ⟨Ao66, co66, eo66⟩ := Kd.R_slice HO183.out; subst eo66) | ((with_reducible refine gate_callee (f := 40) rfl ?_); refine goesL_ (some 19) rfl rfl Try.func40 (by kernel_rfl) rfl #[.agg #[.int .i64 1, .int .i64 5, .slice Ao66 y181.length co66]] rfl argN ?_; (with_reducible refine (rowkey_Encode.calls k 1 5 _ _ y181 t184 t187 _ ?side1 ?side2 A2.out).mono ?_); (case side1 => repeat (first | exact (Kd.R_reads' HO183.out).2.2 | (with_reducible refine Kd.C_alloc ?_ _) | (with_reducible refine Kd.C_drewN ?_ _) | (with_reducible refine Kd.C_drew ?_))); (case side2 => exact (Kd.R_reads' HO183.out).2.1); rintro e w67 ⟨v185, rfl, ho0, hb⟩; refine ⟨_, rfl, ?_⟩; have n0_ := Aside0.mk (Kd.R_below (rowN HO176.out) hb); have n1_ := Aside0.mk (Kd.R_elder' (rowN HO179.out) (Kd.R_base ho0) hb); have n2_ := Aside0.mk (Kd.R_below (rowN HO183.out) hb); have n3_ := Aside0.mk (Kd.R_lower (Kd.R_new' ho0 (Kd.R_lt (rowN HO179.out))) (below_size (belN HB.out))); have n4_ := Aside0.mk (below_step (belN HB.out) hb); clear HO176; clear HO179; clear HO183; clear HB; have HO176 := n0_; have HO179 := n1_; have HO183 := n2_; have HO186 := n3_; have HB := n4_; clear n0_ n1_ n2_ n3_ n4_; (try clear hb); (try clear hk); (try clear ho0)) | ((with_reducible refine gate_callee (f := 41) rfl ?_); refine goesL_ (some 23) rfl rfl Try.func41 (by kernel_rfl) rfl #[.slice none 0 0] rfl argN ?_; (refine (rowkey_Decode.calls k _ _ ([] : List Int) t188 t189 t190 t193 t194 _ ?side1 ?side2 A3.out).mono ?_); (case side1 => exact Kd.C_nil _ _); (case side2 => exact Nat.le_refl _); rintro e w68 ⟨v191, rfl, ho0, hb⟩; refine ⟨_, rfl, ?_⟩; have n0_ := Aside0.mk (Kd.R_elder' (rowN HO176.out) (Kd.R_base ho0) hb); have n1_ := Aside0.mk (Kd.R_below (rowN HO179.out) hb); have n2_ := Aside0.mk (Kd.R_elder' (rowN HO183.out) (Kd.R_base ho0) hb); have n3_ := Aside0.mk (Kd.R_below (rowN HO186.out) hb); have n4_ := Aside0.mk (Kd.R_lower (Kd.R_new' (Kd.R_new' ho0 (Kd.R_lt (rowN HO176.out))) (Kd.R_lt (rowN HO183.out))) (below_size (belN HB.out))); have n5_ := Aside0.mk (below_step (belN HB.out) hb); clear HO176; clear HO179; clear HO183; clear HO186; clear HB; have HO176 := n0_; have HO179 := n1_; have HO183 := n2_; have HO186 := n3_; have HO192 := n4_; have HB := n5_; clear n0_ n1_ n2_ n3_ n4_ n5_; (try clear hb); (try clear hk); (try clear ho0)) | ((with_reducible refine gate_dst (N := 5) rfl ?_); (try (refine gate_guard (by rfl) ?_; dsimp only)); refine box_event ?hg (N := 5) ?hd (cs := #[.int .i64 0, .int .i64 0, .slice none 0 0]) (t := 56) ?hr ?_; (case hd => rfl); (case hg => rfl); (case hr => first | (go_simp; done) | (go_simp; rfl)); intro gb195 hg w69 hbox hb; have n0_ := Aside0.mk (Kd.R_below (rowN HO176.out) hb); have n1_ := Aside0.mk (Kd.R_below (rowN HO179.out) hb); have n2_ := Aside0.mk (Kd.R_below (rowN HO183.out) hb); have n3_ := Aside0.mk (Kd.R_below (rowN HO186.out) hb); have n4_ := Aside0.mk (Kd.R_below (rowN HO192.out) hb); have n5_ := Aside0.mk (below_step (belN HB.out) hb); have n6_ := Aside0.mk (hbox); have n7_ := Aside0.mk (szB hg HB.out); have n8_ := Aside0.mk (szB hg HB.out); clear HO176; clear HO179; clear HO183; clear HO186; clear HO192; clear HB; have HO176 := n0_; have HO179 := n1_; have HO183 := n2_; have HO186 := n3_; have HO192 := n4_; have HB := n5_; have BK195 := n6_; have GW195 := n7_; have GE195 := n8_; clear n0_ n1_ n2_ n3_ n4_ n5_ n6_ n7_ n8_; clear hb hbox hg; have hcz70_0 : w69.cell? ⟨gb195, 0, none⟩ = some (.int .i64 0) := (blk_cell BK195.out 0).trans rfl; have hcz70_1 : w69.cell? ⟨gb195, 1, none⟩ = some (.int .i64 0) := (blk_cell BK195.out 1).trans rfl; have hcz70_2 : w69.cell? ⟨gb195, 2, none⟩ = some (.slice none 0 0) := (blk_cell BK195.out 2).trans rfl; have hfz70_0 := blk_frozen BK195.out 0; have hfz70_1 := blk_frozen BK195.out 1; have hfz70_2 := blk_frozen BK195.out 2; obtain ⟨Ao71, co71, eo71⟩ := Kd.R_slice HO192.out; subst eo71))
  go_ret
  exact ⟨by first | rfl | (simp [errW_none, errW_some] <;> rfl) | (simp [*, errW_none, errW_some] <;> rfl), (belS HB.out)⟩

/-! ### marigraphbook_Within: function 26 -/
def marigraphbook_Within.j0 : Nat → Int → Int → Int → Bool → Option (Int)
 | 0, _, _, _, _ => none
 | k + 1, x0, x1, x2, x14 => if x14 = true then (some x0) else (if (wrap64 ((wrap64 (x2 - x1)) + 1)) = 0 then (none) else (if (Int.tmod x0 (wrap64 ((wrap64 (x2 - x1)) + 1))) < 0 then (some (wrap64 (x1 + (wrap64 ((wrap64 ((wrap64 ((Int.tmod x0 (wrap64 ((wrap64 (x2 - x1)) + 1))) + x2)) - x1)) + 1))))) else (some (wrap64 (x1 + (Int.tmod x0 (wrap64 ((wrap64 (x2 - x1)) + 1))))))))
def marigraphbook_Within.f (k : Nat) (a0 : Int) (a1 : Int) (a2 : Int) : Option (Int) := if a0 ≥ a1 then (marigraphbook_Within.j0 k a0 a1 a2 (decide (a0 ≤ a2))) else (marigraphbook_Within.j0 k a0 a1 a2 false)
theorem marigraphbook_Within.mono_l : ∀ k, (∀ y0 y1 y2 y3, LeO (marigraphbook_Within.j0 k y0 y1 y2 y3) (marigraphbook_Within.j0 (k + 1) y0 y1 y2 y3))
 | 0 => fun _ _ _ _ r h => by simp [marigraphbook_Within.j0] at h
 | k + 1 => by
  have ih0 := marigraphbook_Within.mono_l k
  ·intro y0 y1 y2 y3
   unfold marigraphbook_Within.j0
   repeat' first
   | (with_reducible exact ih0 _ _ _ _)
   | (with_reducible exact LeO.refl _)
   | (with_reducible exact LeO.none _)
   | (with_reducible refine LeO.ite ?_ ?_)
   | (with_reducible refine LeO.bind ?_ (fun _ => ?_))
   | exact ih0 _ _ _ _
   | exact LeO.none _
   | refine LeO.ite ?_ ?_
   | refine LeO.bind ?_ (fun _ => ?_)
theorem marigraphbook_Within.mono : ∀ a0 a1 a2 k, LeO (marigraphbook_Within.f k a0 a1 a2) (marigraphbook_Within.f (k + 1) a0 a1 a2) := by
 intro a0 a1 a2 k
 have ih0 := marigraphbook_Within.mono_l k
 unfold marigraphbook_Within.f
 repeat' first
   | (with_reducible exact ih0 _ _ _ _)
   | (with_reducible exact LeO.refl _)
   | (with_reducible exact LeO.none _)
   | (with_reducible refine LeO.ite ?_ ?_)
   | (with_reducible refine LeO.bind ?_ (fun _ => ?_))
   | exact ih0 _ _ _ _
   | exact LeO.none _
   | refine LeO.ite ?_ ?_
   | refine LeO.bind ?_ (fun _ => ?_)
set_option maxHeartbeats 8000000 in
set_option maxRecDepth 100000 in
theorem marigraphbook_Within.calls (k : Nat) (a0 : Int) (a1 : Int) (a2 : Int) (r : Int) (w : World) (h : marigraphbook_Within.f k a0 a1 a2 = some r) :
  Calls Try.prog 26 #[.int .i64 a0, .int .i64 a1, .int .i64 a2] w fun e w' => e = .returned (.int .i64 r) ∧ Drawn0 w w' := by
 have H : (if a0 ≥ a1 then (marigraphbook_Within.j0 k a0 a1 a2 (decide (a0 ≤ a2))) else (marigraphbook_Within.j0 k a0 a1 a2 false)) = some r := h
 clear h
 have HC4 := Aside0.mk H
 clear H
 go_enter Try.func26, Try.ntmps26
 go_upto_region 1 with (fail)
 go_cut [14] (fun v14 wc => ∃ (kq : Nat) (x14_3 : Bool), v14 = .bool x14_3 ∧ Aside0 (marigraphbook_Within.j0 kq a0 a1 a2 x14_3 = some r) ∧ Aside0 (kq ≤ k) ∧ Drawn0 w wc)
 case first =>
  have H := HC4.out
  clear HC4
  by_cases c5 : a0 ≥ a1
  ·rw [if_pos c5] at H
   have c5b0 : decide (a1 ≤ a0) = true := decide_eq_true c5
   clear c5
   (first | rw [c5b0] | rw [c5b1] | (simp only [i64_w, i32_w]; rw [c5b0]) | skip)
   have H' := Aside0.mk H
   clear H
   go_wp2
   go_meet
   case rel => exact ⟨_, (decide (a0 ≤ a2)), (by first | rfl | (simp; done) | (simp [*]; done)), H', ⟨by first | omega | exact Nat.le_refl _⟩, by repeat (first | exact Drawn0.refl _ | apply Drawn0.step)⟩
  ·rw [if_neg c5] at H
   have c5b0 : decide (a1 ≤ a0) = false := decide_eq_false c5
   clear c5
   (first | rw [c5b0] | rw [c5b1] | (simp only [i64_w, i32_w]; rw [c5b0]) | skip)
   have H' := Aside0.mk H
   clear H
   go_wp2
   go_meet
   case rel => exact ⟨_, (false), (by first | rfl | (simp; done) | (simp [*]; done)), H', ⟨by first | omega | exact Nat.le_refl _⟩, by repeat (first | exact Drawn0.refl _ | apply Drawn0.step)⟩
 case rest =>
  clear HC4
  try clear c2
  try clear p2
  try clear c5
  try clear c5b0
  obtain ⟨kq, x14_3, rfl, HA, HJ3, ⟨mc3, rfl⟩⟩ := hcut
  cases kq with
  | zero => exact absurd HA.out (by simp [marigraphbook_Within.j0])
  | succ kj3 =>
   have H := HA.out
   clear HA
   simp only [marigraphbook_Within.j0] at H
   by_cases c6 : x14_3 = true
   ·subst c6
    have H1 : (some a0) = some r := by rw [if_pos rfl] at H; exact H
    clear H
    have H := H1
    clear H1
    obtain rfl := Option.some.inj H
    go_wp2
    go_ret
    exact ⟨by first | rfl | (simp; done) | (simp [*]; done), by repeat (first | exact Drawn0.refl _ | apply Drawn0.step)⟩
   ·replace c6 := Bool.eq_false_iff.mpr c6
    subst c6
    have H1 : (if (wrap64 ((wrap64 (a2 - a1)) + 1)) = 0 then (none) else (if (Int.tmod a0 (wrap64 ((wrap64 (a2 - a1)) + 1))) < 0 then (some (wrap64 (a1 + (wrap64 ((wrap64 ((wrap64 ((Int.tmod a0 (wrap64 ((wrap64 (a2 - a1)) + 1))) + a2)) - a1)) + 1))))) else (some (wrap64 (a1 + (Int.tmod a0 (wrap64 ((wrap64 (a2 - a1)) + 1)))))))) = some r := by rw [if_neg (show ¬ (false = true) by decide)] at H; exact H
    clear H
    have H := H1
    clear H1
    by_cases c7 : (wrap64 ((wrap64 (a2 - a1)) + 1)) = 0
    ·rw [if_pos c7] at H
     exact absurd H (by simp)
    ·rw [if_neg c7] at H
     have c7b0 : ((wrap64 ((wrap64 (a2 - a1)) + 1)) == 0) = false := beq_eq_false_iff_ne.mpr c7
     have c7b1 : ((wrap64 ((wrap64 (a2 - a1)) + 1)) != 0) = true := bne_iff_ne.mpr c7
     by_cases c8 : (Int.tmod a0 (wrap64 ((wrap64 (a2 - a1)) + 1))) < 0
     ·rw [if_pos c8] at H
      have c8b0 : decide ((Int.tmod a0 (wrap64 ((wrap64 (a2 - a1)) + 1))) < 0) = true := decide_eq_true c8
      clear c8
      obtain rfl := Option.some.inj H
      go_wp2
      go_ret
      exact ⟨by first | rfl | (simp; done) | (simp [*]; done), by repeat (first | exact Drawn0.refl _ | apply Drawn0.step)⟩
     ·rw [if_neg c8] at H
      have c8b0 : decide ((Int.tmod a0 (wrap64 ((wrap64 (a2 - a1)) + 1))) < 0) = false := decide_eq_false c8
      clear c8
      obtain rfl := Option.some.inj H
      go_wp2
      go_ret
      exact ⟨by first | rfl | (simp; done) | (simp [*]; done), by repeat (first | exact Drawn0.refl _ | apply Drawn0.step)⟩

/-! ### marigraphlaw14_made: function 39 -/
mutual
def marigraphlaw14_made.l0 : Nat → List Int → Int → Int → Int → Int → List (S53) → Option (Int × Int × (List (S53)))
 | 0, _, _, _, _, _, _ => none
 | k + 1, x2, x8, x9, x200000, x200001, x200002 => if x9 < (x2.length : Int) then (marigraphlaw14_made.j1 k x2 x8 x9 (decide (x9 < 4)) x200000 x200001 x200002) else (marigraphlaw14_made.j1 k x2 x8 x9 false x200000 x200001 x200002)
def marigraphlaw14_made.j1 : Nat → List Int → Int → Int → Bool → Int → Int → List (S53) → Option (Int × Int × (List (S53)))
 | 0, _, _, _, _, _, _, _ => none
 | k + 1, x2, x8, x9, x23, x200000, x200001, x200002 => if x23 = true then (if 0 ≤ x9 then (if x9 < (x2.length : Int) then ((marigraphbook_Within.f k (rd x2 x9) 1 2097152).bind fun t201 => ((marigraphbook_Within.f k (rd x2 x9) 1 16777215).bind fun t203 => (if x200002.length < 8796093022208 then (marigraphlaw14_made.l0 k x2 (wrap64 (x8 + t201)) (wrap64 (x9 + 1)) x200000 x200001 (x200002 ++ [(⟨wrap64 (x8 + t201), t203⟩ : S53)])) else (none)))) else (none)) else (none)) else (if (x200002.length : Int) = 0 then (some (x200000, x200001, (([(⟨1, 1⟩ : S53)] : List (S53))))) else (some (x200000, x200001, x200002)))
end
def marigraphlaw14_made.f (k : Nat) (a0 : Int) (a1 : Int) (l2 : List Int) : Option (Int × Int × (List (S53))) := (marigraphbook_Within.f k a0 1 16777215).bind fun t197 => ((marigraphbook_Within.f k a1 0 1193046).bind fun t198 => (marigraphlaw14_made.l0 k l2 0 0 t197 (wrap64 (t198 * 3600)) ([] : List (S53))))
theorem marigraphlaw14_made.mono_l : ∀ k, (∀ y0 y1 y2 y3 y4 y5, LeO (marigraphlaw14_made.l0 k y0 y1 y2 y3 y4 y5) (marigraphlaw14_made.l0 (k + 1) y0 y1 y2 y3 y4 y5)) ∧ (∀ y0 y1 y2 y3 y4 y5 y6, LeO (marigraphlaw14_made.j1 k y0 y1 y2 y3 y4 y5 y6) (marigraphlaw14_made.j1 (k + 1) y0 y1 y2 y3 y4 y5 y6))
 | 0 => ⟨fun _ _ _ _ _ _ r h => by simp [marigraphlaw14_made.l0] at h, fun _ _ _ _ _ _ _ r h => by simp [marigraphlaw14_made.j1] at h⟩
 | k + 1 => by
  obtain ⟨ih0, ih1⟩ := marigraphlaw14_made.mono_l k
  refine ⟨?_, ?_⟩
  ·intro y0 y1 y2 y3 y4 y5
   unfold marigraphlaw14_made.l0
   repeat' first
   | (with_reducible exact ih0 _ _ _ _ _ _)
   | (with_reducible exact ih1 _ _ _ _ _ _ _)
   | (with_reducible exact marigraphbook_Within.mono _ _ _ _)
   | (with_reducible exact LeO.refl _)
   | (with_reducible exact LeO.none _)
   | (with_reducible refine LeO.ite ?_ ?_)
   | (with_reducible refine LeO.bind ?_ (fun _ => ?_))
   | exact ih0 _ _ _ _ _ _
   | exact ih1 _ _ _ _ _ _ _
   | exact marigraphbook_Within.mono _ _ _ _
   | exact LeO.none _
   | refine LeO.ite ?_ ?_
   | refine LeO.bind ?_ (fun _ => ?_)
  ·intro y0 y1 y2 y3 y4 y5 y6
   unfold marigraphlaw14_made.j1
   repeat' first
   | (with_reducible exact ih0 _ _ _ _ _ _)
   | (with_reducible exact ih1 _ _ _ _ _ _ _)
   | (with_reducible exact marigraphbook_Within.mono _ _ _ _)
   | (with_reducible exact LeO.refl _)
   | (with_reducible exact LeO.none _)
   | (with_reducible refine LeO.ite ?_ ?_)
   | (with_reducible refine LeO.bind ?_ (fun _ => ?_))
   | exact ih0 _ _ _ _ _ _
   | exact ih1 _ _ _ _ _ _ _
   | exact marigraphbook_Within.mono _ _ _ _
   | exact LeO.none _
   | refine LeO.ite ?_ ?_
   | refine LeO.bind ?_ (fun _ => ?_)
theorem marigraphlaw14_made.mono : ∀ a0 a1 a2 k, LeO (marigraphlaw14_made.f k a0 a1 a2) (marigraphlaw14_made.f (k + 1) a0 a1 a2) := by
 intro a0 a1 a2 k
 obtain ⟨ih0, ih1⟩ := marigraphlaw14_made.mono_l k
 unfold marigraphlaw14_made.f
 repeat' first
   | (with_reducible exact ih0 _ _ _ _ _ _)
   | (with_reducible exact ih1 _ _ _ _ _ _ _)
   | (with_reducible exact marigraphbook_Within.mono _ _ _ _)
   | (with_reducible exact LeO.refl _)
   | (with_reducible exact LeO.none _)
   | (with_reducible refine LeO.ite ?_ ?_)
   | (with_reducible refine LeO.bind ?_ (fun _ => ?_))
   | exact ih0 _ _ _ _ _ _
   | exact ih1 _ _ _ _ _ _ _
   | exact marigraphbook_Within.mono _ _ _ _
   | exact LeO.none _
   | refine LeO.ite ?_ ?_
   | refine LeO.bind ?_ (fun _ => ?_)
def marigraphlaw14_made.T7 : Bool × List (List Nat × List Nat) := (true, [([], []), ([0], [0]), ([], []), ([], []), ([], []), ([3, 4], [3, 4]), ([5], [5]), ([6], [6]), ([2, 7], [2, 7]), ([8], [8]), ([1, 9, 7], [1, 9]), ([0, 1, 2, 3, 4, 5, 6, 7, 8, 9, 10], []), ([11, 10, 10, 0, 1, 2, 3, 4, 5, 6, 7, 8, 9, 10], [10, 11])])
def marigraphlaw14_made.B7 : List Nat := [0, 1, 0, 0, 0, 24, 56, 120, 252, 508, 1023, 2047, 4095]
theorem marigraphlaw14_made.tab7 : rtab .any (opsOf Try.f39 7) = marigraphlaw14_made.T7 := by kernel_rfl
theorem marigraphlaw14_made.bits7 : waitsOk marigraphlaw14_made.T7.2 marigraphlaw14_made.B7 = true := by kernel_rfl
set_option maxHeartbeats 8000000 in
set_option maxRecDepth 100000 in
theorem marigraphlaw14_made.calls (k : Nat) (a0 : Int) (a1 : Int) (A2 : Option Addr) (c2 : Nat) (l2 : List Int) (r1 : Int) (r2 : Int) (r3 : List (S53)) (w : World) (hr2 : Kd.C (Kd.int .i64) w A2 l2.length l2) (hc2 : l2.length ≤ c2) (h : marigraphlaw14_made.f k a0 a1 l2 = some (r1, r2, r3)) :
  Calls Try.prog 39 #[.int .i64 a0, .int .i64 a1, .slice A2 l2.length c2] w fun e w' => ∃ v2_ : Value, e = .returned (.agg #[.int .i64 r1, .int .i64 r2, v2_]) ∧ Kd.R k53 53 w' w.heap.size (fun _ => True) v2_ r3 ∧ Below w.heap.size w w' := by
 have hu56 := Try.underlying56
 have hu53 := Try.underlying53
 have HR2 := Aside0.mk hr2
 have HC2 := Aside0.mk hc2
 clear hr2 hc2
 have HB := Aside0.mk (Below.refl w.heap.size w)
 have H : ((marigraphbook_Within.f k a0 1 16777215).bind fun t197 => ((marigraphbook_Within.f k a1 0 1193046).bind fun t198 => (marigraphlaw14_made.l0 k l2 0 0 t197 (wrap64 (t198 * 3600)) ([] : List (S53))))) = some (r1, r2, r3) := h
 clear h
 replace H := Option.bind_eq_some_iff.mp H
 obtain ⟨t197, A40, H⟩ := H
 replace H : ((marigraphbook_Within.f k a1 0 1193046).bind fun t198 => (marigraphlaw14_made.l0 k l2 0 0 t197 (wrap64 (t198 * 3600)) ([] : List (S53)))) = some (r1, r2, r3) := H
 have A4 := Aside0.mk A40
 clear A40
 replace H := Option.bind_eq_some_iff.mp H
 obtain ⟨t198, A50, H⟩ := H
 replace H : (marigraphlaw14_made.l0 k l2 0 0 t197 (wrap64 (t198 * 3600)) ([] : List (S53))) = some (r1, r2, r3) := H
 have A5 := Aside0.mk A50
 clear A50
 have H' := Aside0.mk H
 clear H
 go_enter Try.func39, Try.ntmps39
 go_wp2_with (first | ((with_reducible refine gate_dst (N := 6) rfl ?_); refine box_event ?hg (N := 6) ?hd (cs := #[.int .i64 0, .int .i64 0, .slice none 0 0]) (t := 56) ?hr ?_; (case hd => rfl); (case hg => rfl); (case hr => first | (go_simp; done) | (go_simp; rfl)); intro gb196 hg w6 hbox hb; have n0_ := Aside0.mk (below_step (belN HB.out) hb); have n1_ := Aside0.mk (hbox); have n2_ := Aside0.mk (szB hg HB.out); have n3_ := Aside0.mk (szB hg HB.out); clear HB; have HB := n0_; have BK196 := n1_; have GW196 := n2_; have GE196 := n3_; clear n0_ n1_ n2_ n3_; clear hb hbox hg) | ((with_reducible refine gate_callee (f := 26) rfl ?_); refine goesL_ (some 11) rfl rfl Try.func26 (by kernel_rfl) rfl #[.int .i64 a0, .int .i64 1, .int .i64 16777215] rfl argN ?_; (with_reducible refine (marigraphbook_Within.calls k a0 1 16777215 t197 _ A4.out).mono ?_); rintro e w' ⟨rfl, ⟨nd, rfl⟩⟩; refine ⟨_, rfl, ?_⟩; (try (rw [drewN_self w6]; generalize hq_ : World.drewN w6 _ = w6; have n0_ := Aside0.mk (blk_at hq_ BK196.out); have n1_ := Aside0.mk (below_at hq_ HB.out); clear hq_ BK196 HB; have BK196 := n0_; have HB := n1_; clear n0_ n1_))) | ((with_reducible refine gate_callee (f := 26) rfl ?_); refine goesL_ (some 13) rfl rfl Try.func26 (by kernel_rfl) rfl #[.int .i64 a1, .int .i64 0, .int .i64 1193046] rfl argN ?_; (with_reducible refine (marigraphbook_Within.calls k a1 0 1193046 t198 _ A5.out).mono ?_); rintro e w' ⟨rfl, ⟨nd, rfl⟩⟩; refine ⟨_, rfl, ?_⟩; (try (rw [drewN_self w6]; generalize hq_ : World.drewN w6 _ = w6; have n0_ := Aside0.mk (blk_at hq_ BK196.out); have n1_ := Aside0.mk (below_at hq_ HB.out); clear hq_ BK196 HB; have BK196 := n0_; have HB := n1_; clear n0_ n1_))) | ((with_reducible refine gate_dst (N := 7) rfl ?_); refine box_event ?hg (N := 7) ?hd (cs := #[.int .i64 0, .int .i64 0, .slice none 0 0]) (t := 56) ?hr ?_; (case hd => rfl); (case hg => rfl); (case hr => first | (go_simp; done) | (go_simp; rfl)); intro gb199 hg w7 hbox hb; have n0_ := Aside0.mk (bkB BK196.out hb); have n1_ := Aside0.mk (below_step (belS HB.out) hb); have n2_ := Aside0.mk (hbox); have n3_ := Aside0.mk (szB hg HB.out); have n4_ := Aside0.mk (szB hg HB.out); have n5_ := Aside0.mk ((bk1 hg BK196.out)); have n6_ := Aside0.mk ((bk2 hg BK196.out)); clear BK196; clear HB; have BK196 := n0_; have HB := n1_; have BK199 := n2_; have GW199 := n3_; have GE199 := n4_; have NB196_199 := n5_; have NB199_196 := n6_; clear n0_ n1_ n2_ n3_ n4_ n5_ n6_; clear hb hbox hg; have hnb8 := NB199_196.out; have hnc8 := NB196_199.out; have hcz9_0 : w7.cell? ⟨gb199, 0, none⟩ = some (.int .i64 0) := (blk_cell BK199.out 0).trans rfl; have hcz9_1 : w7.cell? ⟨gb199, 1, none⟩ = some (.int .i64 0) := (blk_cell BK199.out 1).trans rfl; have hcz9_2 : w7.cell? ⟨gb199, 2, none⟩ = some (.slice none 0 0) := (blk_cell BK199.out 2).trans rfl; have hfz9_0 := blk_frozen BK199.out 0; have hfz9_1 := blk_frozen BK199.out 1; have hfz9_2 := blk_frozen BK199.out 2))
 go_loopg [8, 9] k (fun kq v8 v9 w' => ∃ (x8_1 : Int) (x9_1 : Int) (x200002_1 : List (S53)) (u200002 : Value), v8 = .int .i64 x8_1 ∧ v9 = .int .i64 x9_1 ∧ Aside0 (marigraphlaw14_made.l0 kq l2 x8_1 x9_1 t197 (wrap64 (t198 * 3600)) x200002_1 = some (r1, r2, r3)) ∧ Aside0 (kq ≤ k) ∧ Aside0 (Kd.R k53 53 w' w.heap.size (fun _ => True) u200002 x200002_1) ∧ Aside0 (w'.heap[gb196]? = some (.cells #[.int .i64 0, .int .i64 0, (.slice none 0 0)] 56 (0, 0))) ∧ Aside0 (w'.heap[gb199]? = some (.cells #[.int .i64 t197, .int .i64 (wrap64 (t198 * 3600)), u200002] 56 (0, 0))) ∧ Aside0 (Below w.heap.size w w'))
 case atStart => exact ⟨(0), (0), (([] : List (S53))), (.slice none 0 0), (by first | rfl | (simp; done) | (simp [*]; done)), (by first | rfl | (simp; done) | (simp [*]; done)), H', ⟨Nat.le_refl _⟩, ⟨by first | exact Kd.R_nil _ _ _ _ _ | exact Kd.N_nil _ _ _ _ _ | exact Kd.V_nil _ _ _ _ _ | exact Kd.Q_nil _ _ _ _ _ | exact Kd.S_nil _ _ _ _ _⟩, ⟨blkF BK196.out⟩, ⟨by (with_reducible repeat (first | refine blk_drewN ?_ _ | refine blk_drew ?_ | refine blk_alloc ?_ _)); refine blk_put (cs := #[.int .i64 t197, .int .i64 (wrap64 (t198 * 3600)), .slice none 0 0]) ?_ 2 _ rfl; (with_reducible repeat (first | refine blk_drewN ?_ _ | refine blk_drew ?_ | refine blk_alloc ?_ _)); refine blk_put (cs := #[.int .i64 t197, .int .i64 0, .slice none 0 0]) ?_ 1 _ rfl; (with_reducible repeat (first | refine blk_drewN ?_ _ | refine blk_drew ?_ | refine blk_alloc ?_ _)); refine blk_put (cs := #[.int .i64 0, .int .i64 0, .slice none 0 0]) ?_ 0 _ rfl; (with_reducible repeat (first | refine blk_drewN ?_ _ | refine blk_drew ?_ | refine blk_alloc ?_ _)); exact BK199.out⟩, ⟨(belS HB.out)⟩⟩
 case round =>
  clear H'
  try clear c2
  try clear p2
  try clear c3
  try clear p6
  try clear c8
  try clear hcz9_0
  try clear hcz9_1
  try clear hcz9_2
  try clear hfz9_0
  try clear hfz9_1
  try clear hfz9_2
  obtain ⟨x8_1, x9_1, x200002_1, u200002, rfl, rfl, HA, HK1, HO_200002, BK196, BK199, HB⟩ := hrel
  cases gk with
  | zero => exact absurd HA.out (by simp [marigraphlaw14_made.l0])
  | succ k1 =>
   have H := HA.out
   clear HA
   simp only [marigraphlaw14_made.l0] at H
   have HC10 := Aside0.mk H
   clear H
   go_upto_region 4 with (fail)
   go_cut [23] (fun v23 wc => ∃ (kq : Nat) (x23_9 : Bool), v23 = .bool x23_9 ∧ Aside0 (marigraphlaw14_made.j1 kq l2 x8_1 x9_1 x23_9 t197 (wrap64 (t198 * 3600)) x200002_1 = some (r1, r2, r3)) ∧ Aside0 (kq ≤ k1) ∧ Aside0 (Kd.R k53 53 wc w.heap.size (fun _ => True) u200002 x200002_1) ∧ Aside0 (wc.heap[gb196]? = some (.cells #[.int .i64 0, .int .i64 0, (.slice none 0 0)] 56 (0, 0))) ∧ Aside0 (wc.heap[gb199]? = some (.cells #[.int .i64 t197, .int .i64 (wrap64 (t198 * 3600)), u200002] 56 (0, 0))) ∧ Aside0 (Below w.heap.size w wc))
   case first =>
    have H := HC10.out
    clear HC10
    by_cases c11 : x9_1 < (l2.length : Int)
    ·rw [if_pos c11] at H
     have c11b0 : decide (x9_1 < (l2.length : Int)) = true := decide_eq_true c11
     clear c11
     (first | rw [c11b0] | rw [c11b1] | (simp only [i64_w, i32_w]; rw [c11b0]) | skip)
     have H' := Aside0.mk H
     clear H
     go_wp2
     go_meet
     case rel => exact ⟨_, (decide (x9_1 < 4)), (by first | rfl | (simp; done) | (simp [*]; done)), H', ⟨by have := HK1.out; first | omega | exact Nat.le_refl _⟩, ⟨(rowN HO_200002.out)⟩, ⟨blkN BK196.out⟩, ⟨blkN BK199.out⟩, ⟨(belS HB.out)⟩⟩
    ·rw [if_neg c11] at H
     have c11b0 : decide (x9_1 < (l2.length : Int)) = false := decide_eq_false c11
     clear c11
     (first | rw [c11b0] | rw [c11b1] | (simp only [i64_w, i32_w]; rw [c11b0]) | skip)
     have H' := Aside0.mk H
     clear H
     go_wp2
     go_meet
     case rel => exact ⟨_, (false), (by first | rfl | (simp; done) | (simp [*]; done)), H', ⟨by have := HK1.out; first | omega | exact Nat.le_refl _⟩, ⟨(rowN HO_200002.out)⟩, ⟨blkN BK196.out⟩, ⟨blkN BK199.out⟩, ⟨(belS HB.out)⟩⟩
   case rest =>
    clear HC10
    try clear c1
    try clear c2
    try clear p2
    try clear c3
    try clear p6
    try clear c8
    try clear c11
    try clear c11b0
    try clear hcz9_0
    try clear hcz9_1
    try clear hcz9_2
    try clear hfz9_0
    try clear hfz9_1
    try clear hfz9_2
    try clear p2
    try clear p6
    obtain ⟨kq, x23_9, rfl, HA, HJ9, HO_200002, BK196, BK199, HB⟩ := hcut
    cases kq with
    | zero => exact absurd HA.out (by simp [marigraphlaw14_made.j1])
    | succ kj9 =>
     have H := HA.out
     clear HA
     simp only [marigraphlaw14_made.j1] at H
     by_cases c12 : x23_9 = true
     ·subst c12
      have H1 : (if 0 ≤ x9_1 then (if x9_1 < (l2.length : Int) then ((marigraphbook_Within.f kj9 (rd l2 x9_1) 1 2097152).bind fun t201 => ((marigraphbook_Within.f kj9 (rd l2 x9_1) 1 16777215).bind fun t203 => (if x200002_1.length < 8796093022208 then (marigraphlaw14_made.l0 kj9 l2 (wrap64 (x8_1 + t201)) (wrap64 (x9_1 + 1)) t197 (wrap64 (t198 * 3600)) (x200002_1 ++ [(⟨wrap64 (x8_1 + t201), t203⟩ : S53)])) else (none)))) else (none)) else (none)) = some (r1, r2, r3) := by rw [if_pos rfl] at H; exact H
      clear H
      have H := H1
      clear H1
      by_cases c13 : 0 ≤ x9_1
      ·rw [if_pos c13] at H
       have c13b0 : decide (0 ≤ x9_1) = true := decide_eq_true c13
       clear c13
       by_cases c14 : x9_1 < (l2.length : Int)
       ·rw [if_pos c14] at H
        have c14b0 : decide (x9_1 < (l2.length : Int)) = true := decide_eq_true c14
        clear c14
        replace H := Option.bind_eq_some_iff.mp H
        obtain ⟨t201, A150, H⟩ := H
        replace H : ((marigraphbook_Within.f kj9 (rd l2 x9_1) 1 16777215).bind fun t203 => (if x200002_1.length < 8796093022208 then (marigraphlaw14_made.l0 kj9 l2 (wrap64 (x8_1 + t201)) (wrap64 (x9_1 + 1)) t197 (wrap64 (t198 * 3600)) (x200002_1 ++ [(⟨wrap64 (x8_1 + t201), t203⟩ : S53)])) else (none))) = some (r1, r2, r3) := H
        have A15 := Aside0.mk A150
        clear A150
        replace H := Option.bind_eq_some_iff.mp H
        obtain ⟨t203, A160, H⟩ := H
        replace H : (if x200002_1.length < 8796093022208 then (marigraphlaw14_made.l0 kj9 l2 (wrap64 (x8_1 + t201)) (wrap64 (x9_1 + 1)) t197 (wrap64 (t198 * 3600)) (x200002_1 ++ [(⟨wrap64 (x8_1 + t201), t203⟩ : S53)])) else (none)) = some (r1, r2, r3) := H
        have A16 := Aside0.mk A160
        clear A160
        by_cases c17 : x200002_1.length < 8796093022208
        ·rw [if_pos c17] at H
         have LMc17 := Aside0.mk c17
         clear c17
         obtain ⟨y204, hy204⟩ : ∃ y_ : List (S53), y_ = (x200002_1 ++ [(⟨wrap64 (x8_1 + t201), t203⟩ : S53)]) := ⟨_, rfl⟩
         replace H : (marigraphlaw14_made.l0 kj9 l2 (wrap64 (x8_1 + t201)) (wrap64 (x9_1 + 1)) t197 (wrap64 (t198 * 3600)) y204) = some (r1, r2, r3) := by first | (rw [hy204]; with_reducible exact H) | (have H2_ := (Option.bind_some _ _).symm.trans H; rw [hy204]; with_reducible exact H2_) | (have H2_ := (Option.bind_some _ _).symm.trans H; with_reducible exact H2_) | with_reducible exact H | (rw [hy204]; exact H) | exact H
         have Ny204 := Aside0.mk hy204
         clear hy204
         have H' := Aside0.mk H
         clear H
         have p200 : 0 ≤ (x9_1 : Int) := of_decide_eq_true (by first | (with_reducible assumption) | assumption)
         have q200 : x9_1 < (l2.length : Int) := of_decide_eq_true (by first | (with_reducible assumption) | assumption)
         obtain ⟨ad200, e200, hx200_0⟩ := Kd.at_int HR2.out x9_1 p200 q200
         cases e200
         (try replace hx200_0 := cellB HB.out hx200_0)
         replace p200 := eq_true p200
         replace q200 := eq_true q200
         try go_wp2_with (first | ((with_reducible refine gate_callee (f := 26) rfl ?_); refine goesL_ (some 31) rfl rfl Try.func26 (by kernel_rfl) rfl #[.int .i64 (rd l2 x9_1), .int .i64 1, .int .i64 2097152] rfl argN ?_; (with_reducible refine (marigraphbook_Within.calls kj9 (rd l2 x9_1) 1 2097152 t201 _ A15.out).mono ?_); rintro e w' ⟨rfl, ⟨nd, rfl⟩⟩; refine ⟨_, rfl, ?_⟩; (try (rw [drewN_self wc]; generalize hq_ : World.drewN wc _ = wc; have n0_ := Aside0.mk (Kd.R_at hq_ HO_200002.out); have n1_ := Aside0.mk (blk_at hq_ BK196.out); have n2_ := Aside0.mk (blk_at hq_ BK199.out); have n3_ := Aside0.mk (below_at hq_ HB.out); clear hq_ HO_200002 BK196 BK199 HB; have HO_200002 := n0_; have BK196 := n1_; have BK199 := n2_; have HB := n3_; clear n0_ n1_ n2_ n3_))))
         have n0_ := Aside0.mk (Kd.R_drew HO_200002.out)
         have n1_ := Aside0.mk (blk_drew BK196.out)
         have n2_ := Aside0.mk (blk_drew BK199.out)
         have n3_ := Aside0.mk (below_drew1 HB.out)
         clear HO_200002
         clear BK196
         clear BK199
         clear HB
         have HO_200002 := n0_
         have BK196 := n1_
         have BK199 := n2_
         have HB := n3_
         clear n0_ n1_ n2_ n3_
         have p202 : 0 ≤ (x9_1 : Int) := of_decide_eq_true (by first | (with_reducible assumption) | assumption)
         have q202 : x9_1 < (l2.length : Int) := of_decide_eq_true (by first | (with_reducible assumption) | assumption)
         obtain ⟨ad202, e202, hx202_0⟩ := Kd.at_int HR2.out x9_1 p202 q202
         have hw202_0 := hx202_0
         obtain rfl : ad200 = ad202 := (by injection e202)
         (try replace hx202_0 := cellB HB.out hx202_0)
         replace p202 := eq_true p202
         replace q202 := eq_true q202
         refine start_ (n := 13) (S := fun w' => w'.cell? ⟨gb199, 0, none⟩ = some (.int .i64 t197) ∧ w'.cell? ⟨gb199, 1, none⟩ = some (.int .i64 (wrap64 (t198 * 3600))) ∧ w'.cell? ⟨gb199, 2, none⟩ = some (u200002) ∧ w'.cell? (ad200.add (x9_1).toNat) = some (.int .i64 (rd l2 x9_1))) (ds := [12]) #[false, false, false, false, false, false, false, false, false, false, false, false, false] (by kernel_rfl) rfl rfl ⟨(blk_cell BK199.out 0).trans rfl, (blk_cell BK199.out 1).trans rfl, (blk_cell BK199.out 2).trans rfl, (cellB HB.out hw202_0)⟩ (fun hHeld => ?_); refine with_tabW marigraphlaw14_made.tab7 marigraphlaw14_made.bits7 (fun HT_ HW_ => ?_)
         generalize wc.drew = w18 at HO_200002 BK196 BK199 HB hx202_0 hHeld ⊢
         refine pA 0 (some 33) (bA 13 1) HT_.out ?_
         refine pA 2 (some 35) (bA 13 5) HT_.out ?_
         refine pA 3 (some 36) (bA 13 13) HT_.out ?_
         refine pA 4 (some 37) (bA 13 29) HT_.out ?_
         refine pA 5 (some 38) (bA 13 61) HT_.out ?_
         refine take_ (i := 1) (N := some 34) (v := ?_) (a' := ?_) (bA 13 63) rfl rfl (take_ofW HT_.out HW_.out (by kernel_rfl)) (fun _ _ _ h => h) (Or.inl ⟨by rfl, ?_⟩) hHeld ?_ ?_
         rotate_left
         ·rintro w' ⟨s0, s1, s2, s3⟩
          go_simp
          with_reducible rfl
         rotate_left
         ·simp only [Act.put, List.setIfInBounds_toArray, List.set_cons_zero, List.set_cons_succ, i64_w, i32_w]
          rfl
         refine take_ (i := 6) (N := some 39) (v := ?_) (a' := ?_) (bA 13 127) rfl rfl (take_ofW HT_.out HW_.out (by kernel_rfl)) (fun _ _ _ h => h) (Or.inl ⟨by rfl, ?_⟩) hHeld ?_ ?_
         rotate_left
         ·rintro w' ⟨s0, s1, s2, s3⟩
          go_simp
          with_reducible rfl
         rotate_left
         ·simp only [Act.put, List.setIfInBounds_toArray, List.set_cons_zero, List.set_cons_succ, i64_w, i32_w]
          rfl
         refine one_ (i := 7) (N := some 40) (bA 13 255) rfl rfl (one_of HT_.out (by kernel_rfl)) (by decide) (fun K hK => ?_)
         refine goes_ Try.func26 (by kernel_rfl) rfl #[.int .i64 (rd l2 x9_1), .int .i64 1, .int .i64 16777215] (by rfl) rfl rfl argN ?_
         with_reducible refine (marigraphbook_Within.calls kj9 (rd l2 x9_1) 1 16777215 t203 _ A16.out).mono ?_
         rintro e w' ⟨rfl, ⟨nd, rfl⟩⟩
         refine ⟨_, rfl, ?_⟩
         refine hK.out _ _ ⟨(blk_cell BK199.out 0).trans rfl, (blk_cell BK199.out 1).trans rfl, (blk_cell BK199.out 2).trans rfl, hHeld.2.2.2⟩ (fun hHeld => ?_)
         clear hK K
         refine norm_ (a' := ?_) ?_ ?_
         rotate_left
         ·show Act.put _ (some 40) _ = _
          simp only [Act.put, List.setIfInBounds_toArray, List.set_cons_zero, List.set_cons_succ, i64_w, i32_w]
          rfl
         refine pA 8 (some 41) (bA 13 511) HT_.out ?_
         refine one_ (i := 9) (N := some 42) (bA 13 1023) rfl rfl (one_of HT_.out (by kernel_rfl)) (by decide) (fun K hK => ?_)
         refine value_ (w1 := ?_) (v := ?_) (by rfl) rfl ?_ ?_
         rotate_left 2
         ·go_simp
          constructor
          ·rfl
          ·rfl
         refine hK.out _ _ ⟨(blk_cell (blk_alloc BK199.out _) 0).trans rfl, (blk_cell (blk_alloc BK199.out _) 1).trans rfl, (blk_cell (blk_alloc BK199.out _) 2).trans rfl, (World.cell?_alloc_lt _ _ _ (World.block_lt_of_cell? _ _ ((cellB HB.out hw202_0)))).trans ((cellB HB.out hw202_0))⟩ (fun hHeld => ?_)
         clear hK K
         refine norm_ (a' := ?_) ?_ ?_
         rotate_left
         ·show Act.put _ (some 42) _ = _
          simp only [Act.put, List.setIfInBounds_toArray, List.set_cons_zero, List.set_cons_succ, i64_w, i32_w]
          rfl
         refine one_ (i := 10) (N := some 43) (bA 13 2047) rfl rfl (one_of HT_.out (by kernel_rfl)) (by decide) (fun K hK => ?_)
         refine Kd.R_append_step k53 (w0 := w) w.heap.size (by rfl) (.tmp 34) (.tmp 42) 54 53 (.agg #[(.int .i64 0), (.int .i64 0)]) 16 rfl Try.underlying54 info53 rfl (by decide) (by omega) u200002 x200002_1 (⟨wrap64 (x8_1 + t201), t203⟩ : S53) [.int .i64 (wrap64 (x8_1 + t201)), .int .i64 t203] (fun _ => True) (fun _ => False) rfl rfl ?aP (fun _ hk => hk.elim) ?aF ?aO ?aB ?aS ?aL ?_
         (case aP => exact k53_mkM _ _ _ (⟨wrap64 (x8_1 + t201), t203⟩ : S53))
         (case aB => exact (belS HB.out))
         (case aF => exact (fun _ _ => trivial))
         (case aO => exact (rowN HO_200002.out))
         (case aS => exact (below_size (belS HB.out)))
         (case aL => have := LMc17.out; omega)
         intro v205 w19 ho hb hg hat
         rw [← Ny204.out] at ho
         have n0_ := Aside0.mk (blk_grown (g := gb196) (o := .cells #[.int .i64 0, .int .i64 0, .slice none 0 0] 56 (0, 0)) (blkN BK196.out) hg (Kd.R_ne HO_200002.out BK196.out (by decide)))
         have n1_ := Aside0.mk (blk_grown (g := gb199) (o := .cells #[.int .i64 t197, .int .i64 (wrap64 (t198 * 3600)), u200002] 56 (0, 0)) (blkN BK199.out) hg (Kd.R_ne HO_200002.out BK199.out (by decide)))
         have n2_ := Aside0.mk (hb)
         have n3_ := Aside0.mk (ho)
         clear BK196
         clear BK199
         clear HB
         clear HO_200002
         have BK196 := n0_
         have BK199 := n1_
         have HB := n2_
         have HO206 := n3_
         clear n0_ n1_ n2_ n3_
         clear ho hb hg hat
         obtain ⟨Ao20, co20, eo20⟩ := Kd.R_slice HO206.out
         (first | subst eo20 | (injection eo20 with f1_ f2_ f3_; have f4_ := f1_.symm; have f5_ := f3_.symm; clear f1_ f2_ f3_; subst f4_; subst f5_))
         refine hK.out _ _ ⟨(blk_cell BK199.out 0).trans rfl, (blk_cell BK199.out 1).trans rfl, (blk_cell BK199.out 2).trans rfl, (cellB HB.out hw202_0)⟩ (fun hHeld => ?_)
         clear hK K
         refine norm_ (a' := ?_) ?_ ?_
         rotate_left
         ·show Act.put _ (some 43) _ = _
          simp only [Act.put, List.setIfInBounds_toArray, List.set_cons_zero, List.set_cons_succ, i64_w, i32_w]
          rfl
         refine pA 11 (some 44) (bA 13 4095) HT_.out ?_
         refine last_ (i := 12) (N := none) (bA 13 8191) rfl rfl (one_of HT_.out (by kernel_rfl)) (by decide) (fun K hK => ?_)
         have hs21 : w19.cell? ⟨gb199, 2, none⟩ = some (u200002) := (blk_cell BK199.out 2).trans rfl
         have hfs21 := blk_frozen BK199.out 2
         have hns21_0 := NB196_199.out
         have hms21_0 := NB199_196.out
         refine skip_ (w1 := ?_) (by rfl) rfl ?_ ?_
         rotate_left
         ·go_simp
          rfl
         refine hK.out _ _ ?_
         clear hK K
         refine done_ (done_of HT_.out (by kernel_rfl)) ?_
         try go_wp2
         go_roundg kj9
         case measure => have := HK1.out; have := HJ9.out; omega
         case rel => exact ⟨(wrap64 (x8_1 + t201)), (wrap64 (x9_1 + 1)), (y204), (.slice Ao20 y204.length co20), (by first | rfl | (simp; done) | (simp [*]; done)), (by first | rfl | (simp; done) | (simp [*]; done)), H', ⟨by have := HK1.out; have := HJ9.out; omega⟩, ⟨by (with_reducible repeat (first | apply Kd.R_alloc | apply Kd.R_drewN | apply Kd.R_drew)); exact Kd.R_mono (Kd.R_far (p := ⟨gb199, 2, none⟩) (Kd.R_types HO206.out BK199.out (by decide)) (fun _ hk => hk.2) (.slice Ao20 y204.length co20)) (fun _ hk => trivial)⟩, ⟨blkF BK196.out⟩, ⟨by (with_reducible repeat (first | refine blk_drewN ?_ _ | refine blk_drew ?_ | refine blk_alloc ?_ _)); refine blk_put (cs := #[.int .i64 t197, .int .i64 (wrap64 (t198 * 3600)), u200002]) ?_ 2 _ rfl; (with_reducible repeat (first | refine blk_drewN ?_ _ | refine blk_drew ?_ | refine blk_alloc ?_ _)); exact BK199.out⟩, ⟨(belS HB.out)⟩⟩
        ·rw [if_neg c17] at H
         exact absurd H (by simp)
       ·rw [if_neg c14] at H
        exact absurd H (by simp)
      ·rw [if_neg c13] at H
       exact absurd H (by simp)
     ·replace c12 := Bool.eq_false_iff.mpr c12
      subst c12
      have H1 : (if (x200002_1.length : Int) = 0 then (some (t197, (wrap64 (t198 * 3600)), (([(⟨1, 1⟩ : S53)] : List (S53))))) else (some (t197, (wrap64 (t198 * 3600)), x200002_1))) = some (r1, r2, r3) := by rw [if_neg (show ¬ (false = true) by decide)] at H; exact H
      clear H
      have H := H1
      clear H1
      by_cases c22 : (x200002_1.length : Int) = 0
      ·rw [if_pos c22] at H
       have c22b0 : ((x200002_1.length : Int) == 0) = true := beq_iff_eq.mpr c22
       have c22b1 : ((x200002_1.length : Int) != 0) = false := bne_eq_false_iff_eq.mpr c22
       clear c22
       obtain ⟨y207, hy207⟩ : ∃ y_ : List (S53), y_ = (([(⟨1, 1⟩ : S53)] : List (S53))) := ⟨_, rfl⟩
       replace H : (some (t197, (wrap64 (t198 * 3600)), y207)) = some (r1, r2, r3) := by first | (rw [hy207]; with_reducible exact H) | (have H2_ := (Option.bind_some _ _).symm.trans H; rw [hy207]; with_reducible exact H2_) | (have H2_ := (Option.bind_some _ _).symm.trans H; with_reducible exact H2_) | with_reducible exact H | (rw [hy207]; exact H) | exact H
       have Ny207 := Aside0.mk hy207
       clear hy207
       simp only [Option.some.injEq, Prod.mk.injEq] at H
       obtain ⟨rfl, rfl, rfl⟩ := H
       have hnb23 := NB199_196.out
       have hnc23 := NB196_199.out
       have hcz24_0 : wc.cell? ⟨gb199, 0, none⟩ = some (.int .i64 t197) := (blk_cell BK199.out 0).trans rfl
       have hcz24_1 : wc.cell? ⟨gb199, 1, none⟩ = some (.int .i64 (wrap64 (t198 * 3600))) := (blk_cell BK199.out 1).trans rfl
       have hcz24_2 : wc.cell? ⟨gb199, 2, none⟩ = some (u200002) := (blk_cell BK199.out 2).trans rfl
       have hfz24_0 := blk_frozen BK199.out 0
       have hfz24_1 := blk_frozen BK199.out 1
       have hfz24_2 := blk_frozen BK199.out 2
       obtain ⟨Ao25, co25, eo25⟩ := Kd.R_slice HO_200002.out
       subst eo25
       go_wp2_with (first | ((with_reducible refine gate_dst (N := 50) rfl ?_); refine Kd.R_lit k53 _ 53 ?hg (N := 50) ?hd (xs := ([(⟨1, 1⟩ : S53)] : List (S53))) (inner := [.int .i64 1, .int .i64 1]) (ok := fun _ => True) (okp := fun _ => True) ?hr ?hp (fun _ hk => hk) trivial (Below.refl _ _) (Nat.le_refl _) (by simp) ?_; (case hd => rfl); (case hg => rfl); (case hr => first | (go_simp; done) | (go_simp; rfl)); (case hp => exact (Reps.c2 (show Kd.M k53 _ _ _ (⟨1, 1⟩ : S53) [.int .i64 1, .int .i64 1] from (k53_mkM _ _ _ (⟨1, 1⟩ : S53) )) (Reps.none _ _))); intro v208 w26 ho27 hb hg_ hnew_; clear hg_ hnew_; (first | rw [← Ny207.out] at ho27 | (simp only [Int.reduceToNat] at ho27; rw [← Ny207.out] at ho27)); have n0_ := Aside0.mk (Kd.R_elder' (rowN HO_200002.out) (Kd.R_base ho27) hb); have n1_ := Aside0.mk (Kd.R_lower (Kd.R_new' ho27 (Kd.R_lt (rowN HO_200002.out))) (below_size (belS HB.out))); have n2_ := Aside0.mk (bkB BK196.out hb); have n3_ := Aside0.mk (bkB BK199.out hb); have n4_ := Aside0.mk (below_step (belS HB.out) hb); clear HO_200002; clear BK196; clear BK199; clear HB; have HO_200002 := n0_; have HO209 := n1_; have BK196 := n2_; have BK199 := n3_; have HB := n4_; clear n0_ n1_ n2_ n3_ n4_; clear hb ho27; obtain ⟨Ao28, co28, eo28⟩ := Kd.R_slice HO209.out; subst eo28; have hcz29_0 : w26.cell? ⟨gb199, 0, none⟩ = some (.int .i64 t197) := (blk_cell BK199.out 0).trans rfl; have hcz29_1 : w26.cell? ⟨gb199, 1, none⟩ = some (.int .i64 (wrap64 (t198 * 3600))) := (blk_cell BK199.out 1).trans rfl; have hcz29_2 : w26.cell? ⟨gb199, 2, none⟩ = some (.slice Ao25 x200002_1.length co25) := (blk_cell BK199.out 2).trans rfl; have hfz29_0 := blk_frozen BK199.out 0; have hfz29_1 := blk_frozen BK199.out 1; have hfz29_2 := blk_frozen BK199.out 2; have hcz30_0 : w26.cell? ⟨gb196, 0, none⟩ = some (.int .i64 0) := (blk_cell BK196.out 0).trans rfl; have hcz30_1 : w26.cell? ⟨gb196, 1, none⟩ = some (.int .i64 0) := (blk_cell BK196.out 1).trans rfl; have hcz30_2 : w26.cell? ⟨gb196, 2, none⟩ = some (.slice none 0 0) := (blk_cell BK196.out 2).trans rfl; have hfz30_0 := blk_frozen BK196.out 0; have hfz30_1 := blk_frozen BK196.out 1; have hfz30_2 := blk_frozen BK196.out 2))
       refine bodyPost_ret (results_cell_row rfl _ _ gb196 56 #[.int .i64 t197, .int .i64 (wrap64 (t198 * 3600)), .slice Ao28 y207.length co28] (0, 0) _ rfl (by (with_reducible repeat (first | refine blk_drewN ?_ _ | refine blk_drew ?_ | refine blk_alloc ?_ _)); refine blk_put (cs := #[.int .i64 t197, .int .i64 (wrap64 (t198 * 3600)), .slice none 0 0]) ?_ 2 _ rfl; (with_reducible repeat (first | refine blk_drewN ?_ _ | refine blk_drew ?_ | refine blk_alloc ?_ _)); refine blk_put (cs := #[.int .i64 t197, .int .i64 0, .slice none 0 0]) ?_ 1 _ rfl; (with_reducible repeat (first | refine blk_drewN ?_ _ | refine blk_drew ?_ | refine blk_alloc ?_ _)); refine blk_put (cs := #[.int .i64 0, .int .i64 0, .slice none 0 0]) ?_ 0 _ rfl; (with_reducible repeat (first | refine blk_drewN ?_ _ | refine blk_drew ?_ | refine blk_alloc ?_ _)); refine blk_far ?_ NB196_199.out _; (with_reducible repeat (first | refine blk_drewN ?_ _ | refine blk_drew ?_ | refine blk_alloc ?_ _)); exact BK196.out) Try.underlying56 rfl (by kernel_rfl)) rfl ?_
       exact ⟨_, by first | rfl | (simp [errW_none, errW_some] <;> rfl) | (simp [*, errW_none, errW_some] <;> rfl), by (with_reducible repeat (first | apply Kd.R_alloc | apply Kd.R_drewN | apply Kd.R_drew)); exact Kd.R_mono (Kd.R_far (p := ⟨gb196, 2, none⟩) (Kd.R_far (p := ⟨gb196, 1, none⟩) (Kd.R_far (p := ⟨gb196, 0, none⟩) (Kd.R_far (p := ⟨gb199, 2, none⟩) (Kd.R_types (Kd.R_types HO209.out BK199.out (by decide)) BK196.out (by decide)) (fun _ hk => hk.1.2) (.slice Ao28 y207.length co28)) (fun _ hk => hk.2) (.int .i64 t197)) (fun _ hk => hk.2) (.int .i64 (wrap64 (t198 * 3600)))) (fun _ hk => hk.2) (.slice Ao28 y207.length co28)) (fun _ hk => trivial), (belS HB.out)⟩
      ·rw [if_neg c22] at H
       have c22b0 : ((x200002_1.length : Int) == 0) = false := beq_eq_false_iff_ne.mpr c22
       have c22b1 : ((x200002_1.length : Int) != 0) = true := bne_iff_ne.mpr c22
       have c22b2 : ¬ (x200002_1 = []) := fun h_ => c22 (by rw [h_]; rfl)
       simp only [Option.some.injEq, Prod.mk.injEq] at H
       obtain ⟨rfl, rfl, rfl⟩ := H
       have hnb31 := NB199_196.out
       have hnc31 := NB196_199.out
       have hcz32_0 : wc.cell? ⟨gb199, 0, none⟩ = some (.int .i64 t197) := (blk_cell BK199.out 0).trans rfl
       have hcz32_1 : wc.cell? ⟨gb199, 1, none⟩ = some (.int .i64 (wrap64 (t198 * 3600))) := (blk_cell BK199.out 1).trans rfl
       have hcz32_2 : wc.cell? ⟨gb199, 2, none⟩ = some (u200002) := (blk_cell BK199.out 2).trans rfl
       have hfz32_0 := blk_frozen BK199.out 0
       have hfz32_1 := blk_frozen BK199.out 1
       have hfz32_2 := blk_frozen BK199.out 2
       obtain ⟨Ao33, co33, eo33⟩ := Kd.R_slice HO_200002.out
       subst eo33
       have hcz34_0 : wc.cell? ⟨gb196, 0, none⟩ = some (.int .i64 0) := (blk_cell BK196.out 0).trans rfl
       have hcz34_1 : wc.cell? ⟨gb196, 1, none⟩ = some (.int .i64 0) := (blk_cell BK196.out 1).trans rfl
       have hcz34_2 : wc.cell? ⟨gb196, 2, none⟩ = some (.slice none 0 0) := (blk_cell BK196.out 2).trans rfl
       have hfz34_0 := blk_frozen BK196.out 0
       have hfz34_1 := blk_frozen BK196.out 1
       have hfz34_2 := blk_frozen BK196.out 2
       go_wp2
       refine bodyPost_ret (results_cell_row rfl _ _ gb196 56 #[.int .i64 t197, .int .i64 (wrap64 (t198 * 3600)), .slice Ao33 x200002_1.length co33] (0, 0) _ rfl (by (with_reducible repeat (first | refine blk_drewN ?_ _ | refine blk_drew ?_ | refine blk_alloc ?_ _)); refine blk_put (cs := #[.int .i64 t197, .int .i64 (wrap64 (t198 * 3600)), .slice none 0 0]) ?_ 2 _ rfl; (with_reducible repeat (first | refine blk_drewN ?_ _ | refine blk_drew ?_ | refine blk_alloc ?_ _)); refine blk_put (cs := #[.int .i64 t197, .int .i64 0, .slice none 0 0]) ?_ 1 _ rfl; (with_reducible repeat (first | refine blk_drewN ?_ _ | refine blk_drew ?_ | refine blk_alloc ?_ _)); refine blk_put (cs := #[.int .i64 0, .int .i64 0, .slice none 0 0]) ?_ 0 _ rfl; (with_reducible repeat (first | refine blk_drewN ?_ _ | refine blk_drew ?_ | refine blk_alloc ?_ _)); exact BK196.out) Try.underlying56 rfl (by kernel_rfl)) rfl ?_
       exact ⟨_, by first | rfl | (simp [errW_none, errW_some] <;> rfl) | (simp [*, errW_none, errW_some] <;> rfl), by (with_reducible repeat (first | apply Kd.R_alloc | apply Kd.R_drewN | apply Kd.R_drew)); exact Kd.R_mono (Kd.R_far (p := ⟨gb196, 2, none⟩) (Kd.R_far (p := ⟨gb196, 1, none⟩) (Kd.R_far (p := ⟨gb196, 0, none⟩) (Kd.R_types HO_200002.out BK196.out (by decide)) (fun _ hk => hk.2) (.int .i64 t197)) (fun _ hk => hk.2) (.int .i64 (wrap64 (t198 * 3600)))) (fun _ hk => hk.2) (.slice Ao33 x200002_1.length co33)) (fun _ hk => trivial), (belS HB.out)⟩

end Go.Proofs.Ytjafaojmbapkbaa.PRowkeyApart

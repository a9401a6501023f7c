/- The walk of the Go functions that a law reaches, told as plain functions; a program of this session has written it. No condition beyond the statement's own. -/
import Derived.Test.YtpcomhliikmjkaaPBlockTellsx0
import Derived.Test.YtpcomhliikmjkaaPBlockTellsx1
import Derived.Test.YtpcomhliikmjkaaPBlockTellsx3
namespace Go.Proofs.Ytpcomhliikmjkaa.PBlockTells
open Go.RowKit Go.Proofs.YtpcomhliikmjkaaW.PrintWords Go.Proofs.YtpcomhliikmjkaaW.PrintLast Go.Proofs.YtpcomhliikmjkaaW.PrintMore
attribute [local go_sem] max2_int min2_int max_two min_two max_three min_three max_four min_four   -- for this text's walks alone
set_option linter.unusedVariables false
set_option linter.unusedSimpArgs false

/-! ### block_put: function 31 -/
def block_put.f (k : Nat) (l0 : List Int) (l1 : List Int) (l2_0 : List Int) (l2_1 : List Int) (a2_2 : Bool) : Option (List Int) := (octet_Shared.f k l1 l2_0).bind fun t151 => ((some (([(t151) % 256, (wrap64 ((l2_0.length : Int) - t151)) % 256] : List Int) : List Int)).bind fun y152 => (if l0.length + y152.length < 140737488355328 then ((some (l0 ++ y152 : List Int)).bind fun y155 => (if 0 ≤ t151 then (if t151 ≤ (l2_0.length : Int) then ((some (l2_0.drop (t151 : Int).toNat : List Int)).bind fun y158 => (if y155.length + y158.length < 140737488355328 then ((some (y155 ++ y158 : List Int)).bind fun y162 => (if a2_2 = true then (if y162.length < 140737488355328 then (some (y162 ++ [0])) else (none)) else (if y162.length < 140737488355328 then ((octet_Put.f k (y162 ++ [1]) (IntKind.u64.wrap ((l2_1.length : Int))) 2).bind fun t171 => (if t171.length + l2_1.length < 140737488355328 then (some (t171 ++ l2_1)) else (none))) else (none)))) else (none))) else (none)) else (none))) else (none)))
theorem block_put.mono : ∀ a0 a1 a2 a3 a4 k, LeO (block_put.f k a0 a1 a2 a3 a4) (block_put.f (k + 1) a0 a1 a2 a3 a4) := by
 intro a0 a1 a2 a3 a4 k
 unfold block_put.f
 repeat' first
   | (with_reducible exact octet_Put.mono _ _ _ _)
   | (with_reducible exact octet_Shared.mono _ _ _)
   | (with_reducible exact LeO.refl _)
   | (with_reducible exact LeO.none _)
   | (with_reducible refine LeO.ite ?_ ?_)
   | (with_reducible refine LeO.bind ?_ (fun _ => ?_))
   | exact octet_Put.mono _ _ _ _
   | exact octet_Shared.mono _ _ _
   | exact LeO.none _
   | refine LeO.ite ?_ ?_
   | refine LeO.bind ?_ (fun _ => ?_)
def block_put.T6 : Bool × List (List Nat × List Nat) := (true, [([], []), ([], []), ([0, 1], [0, 1]), ([], []), ([3], [3]), ([4], [4]), ([5], [5]), ([2, 6, 2], [2, 6]), ([7, 7, 0, 1, 2, 3, 4, 5, 6, 7], [0, 7])])
def block_put.B6 : List Nat := [0, 0, 3, 0, 8, 24, 56, 127, 255]
theorem block_put.tab6 : rtab .any (opsOf Try.f31 6) = block_put.T6 := by kernel_rfl
theorem block_put.bits6 : waitsOk block_put.T6.2 block_put.B6 = true := by kernel_rfl
set_option maxHeartbeats 8000000 in
set_option maxRecDepth 100000 in
theorem block_put.calls (k : Nat) (P0_ : Nat → Prop) (u9000_ : Value) (l0 : List Int) (A1 : Option Addr) (c1 : Nat) (l1 : List Int) (A2_0 : Option Addr) (c2_0 : Nat) (l2_0 : List Int) (A2_1 : Option Addr) (c2_1 : Nat) (l2_1 : List Int) (a2_2 : Bool) (r : List Int) (w0 w : World) (hB : Below w0.heap.size w0 w) (ho0 : Kd.R (Kd.int .u8) 5 w w0.heap.size P0_ u9000_ l0) (hr1 : ∀ W_, Kept w W_ (fun k_ => P0_ k_) → Kd.C (Kd.int .u8) W_ A1 l1.length l1) (hc1 : l1.length ≤ c1) (hr2_0 : ∀ W_, Kept w W_ (fun k_ => P0_ k_) → Kd.C (Kd.int .u8) W_ A2_0 l2_0.length l2_0) (hc2_0 : l2_0.length ≤ c2_0) (hr2_1 : ∀ W_, Kept w W_ (fun k_ => P0_ k_) → Kd.C (Kd.int .u8) W_ A2_1 l2_1.length l2_1) (hc2_1 : l2_1.length ≤ c2_1) (h : block_put.f k l0 l1 l2_0 l2_1 a2_2 = some r) :
  Calls Try.prog 31 #[u9000_, .slice A1 l1.length c1, .agg #[.slice A2_0 l2_0.length c2_0, .slice A2_1 l2_1.length c2_1, .bool a2_2]] w fun e w' => ∃ v0_ : Value, e = .returned (v0_) ∧ Kd.R (Kd.int .u8) 5 w' w0.heap.size (fun k_ => (P0_ k_ ∨ w.heap.size ≤ k_)) v0_ r ∧ Below w0.heap.size w0 w' ∧ Kept w w' (fun k_ => P0_ k_) := by
 have hu34 := Try.underlying34
 have HO0 := Aside0.mk (show Kd.R (Kd.int .u8) 5 w w0.heap.size (fun k_ => (P0_ k_ ∨ w.heap.size ≤ k_)) u9000_ l0 from Kd.R_mono ho0 (fun k_ hk => (.inl hk)))
 have HR1 := Aside0.mk hr1
 have HC1 := Aside0.mk hc1
 clear hr1 hc1
 have HR2_0 := Aside0.mk hr2_0
 have HC2_0 := Aside0.mk hc2_0
 clear hr2_0 hc2_0
 have HR2_1 := Aside0.mk hr2_1
 have HC2_1 := Aside0.mk hc2_1
 clear hr2_1 hc2_1
 have HK := Aside0.mk (Kept.refl w (fun k_ => P0_ k_))
 have HW0 := Aside0.mk hB.size
 have HB := Aside0.mk hB
 clear hB
 have H : ((octet_Shared.f k l1 l2_0).bind fun t151 => ((some (([(t151) % 256, (wrap64 ((l2_0.length : Int) - t151)) % 256] : List Int) : List Int)).bind fun y152 => (if l0.length + y152.length < 140737488355328 then ((some (l0 ++ y152 : List Int)).bind fun y155 => (if 0 ≤ t151 then (if t151 ≤ (l2_0.length : Int) then ((some (l2_0.drop (t151 : Int).toNat : List Int)).bind fun y158 => (if y155.length + y158.length < 140737488355328 then ((some (y155 ++ y158 : List Int)).bind fun y162 => (if a2_2 = true then (if y162.length < 140737488355328 then (some (y162 ++ [0])) else (none)) else (if y162.length < 140737488355328 then ((octet_Put.f k (y162 ++ [1]) (IntKind.u64.wrap ((l2_1.length : Int))) 2).bind fun t171 => (if t171.length + l2_1.length < 140737488355328 then (some (t171 ++ l2_1)) else (none))) else (none)))) else (none))) else (none)) else (none))) else (none)))) = some r := h
 clear h
 replace H := Option.bind_eq_some_iff.mp H
 obtain ⟨t151, A40, H⟩ := H
 replace H : ((some (([(t151) % 256, (wrap64 ((l2_0.length : Int) - t151)) % 256] : List Int) : List Int)).bind fun y152 => (if l0.length + y152.length < 140737488355328 then ((some (l0 ++ y152 : List Int)).bind fun y155 => (if 0 ≤ t151 then (if t151 ≤ (l2_0.length : Int) then ((some (l2_0.drop (t151 : Int).toNat : List Int)).bind fun y158 => (if y155.length + y158.length < 140737488355328 then ((some (y155 ++ y158 : List Int)).bind fun y162 => (if a2_2 = true then (if y162.length < 140737488355328 then (some (y162 ++ [0])) else (none)) else (if y162.length < 140737488355328 then ((octet_Put.f k (y162 ++ [1]) (IntKind.u64.wrap ((l2_1.length : Int))) 2).bind fun t171 => (if t171.length + l2_1.length < 140737488355328 then (some (t171 ++ l2_1)) else (none))) else (none)))) else (none))) else (none)) else (none))) else (none))) = some r := H
 have A4 := Aside0.mk A40
 clear A40
 obtain ⟨y152, hy152⟩ : ∃ y_ : List Int, y_ = (([(t151) % 256, (wrap64 ((l2_0.length : Int) - t151)) % 256] : List Int)) := ⟨_, rfl⟩
 replace H : (if l0.length + y152.length < 140737488355328 then ((some (l0 ++ y152 : List Int)).bind fun y155 => (if 0 ≤ t151 then (if t151 ≤ (l2_0.length : Int) then ((some (l2_0.drop (t151 : Int).toNat : List Int)).bind fun y158 => (if y155.length + y158.length < 140737488355328 then ((some (y155 ++ y158 : List Int)).bind fun y162 => (if a2_2 = true then (if y162.length < 140737488355328 then (some (y162 ++ [0])) else (none)) else (if y162.length < 140737488355328 then ((octet_Put.f k (y162 ++ [1]) (IntKind.u64.wrap ((l2_1.length : Int))) 2).bind fun t171 => (if t171.length + l2_1.length < 140737488355328 then (some (t171 ++ l2_1)) else (none))) else (none)))) else (none))) else (none)) else (none))) else (none)) = some r := by first | (rw [hy152]; with_reducible exact H) | (have H2_ := (Option.bind_some _ _).symm.trans H; rw [hy152]; with_reducible exact H2_) | (have H2_ := (Option.bind_some _ _).symm.trans H; with_reducible exact H2_) | with_reducible exact H | (rw [hy152]; exact H) | exact H
 have Ny152 := Aside0.mk hy152
 clear hy152
 by_cases c5 : l0.length + y152.length < 140737488355328
 ·rw [if_pos c5] at H
  have LMc5 := Aside0.mk c5
  clear c5
  obtain ⟨y155, hy155⟩ : ∃ y_ : List Int, y_ = (l0 ++ y152) := ⟨_, rfl⟩
  replace H : (if 0 ≤ t151 then (if t151 ≤ (l2_0.length : Int) then ((some (l2_0.drop (t151 : Int).toNat : List Int)).bind fun y158 => (if y155.length + y158.length < 140737488355328 then ((some (y155 ++ y158 : List Int)).bind fun y162 => (if a2_2 = true then (if y162.length < 140737488355328 then (some (y162 ++ [0])) else (none)) else (if y162.length < 140737488355328 then ((octet_Put.f k (y162 ++ [1]) (IntKind.u64.wrap ((l2_1.length : Int))) 2).bind fun t171 => (if t171.length + l2_1.length < 140737488355328 then (some (t171 ++ l2_1)) else (none))) else (none)))) else (none))) else (none)) else (none)) = some r := by first | (rw [hy155]; with_reducible exact H) | (have H2_ := (Option.bind_some _ _).symm.trans H; rw [hy155]; with_reducible exact H2_) | (have H2_ := (Option.bind_some _ _).symm.trans H; with_reducible exact H2_) | with_reducible exact H | (rw [hy155]; exact H) | exact H
  have Ny155 := Aside0.mk hy155
  clear hy155
  by_cases c6 : 0 ≤ t151
  ·rw [if_pos c6] at H
   have c6b0 := eq_true c6
   have c6b1 : decide (0 ≤ t151) = true := decide_eq_true c6
   clear c6
   by_cases c7 : t151 ≤ (l2_0.length : Int)
   ·rw [if_pos c7] at H
    have c7b0 := eq_true c7
    have c7b1 : decide (t151 ≤ (l2_0.length : Int)) = true := decide_eq_true c7
    clear c7
    obtain ⟨y158, hy158⟩ : ∃ y_ : List Int, y_ = (l2_0.drop (t151 : Int).toNat) := ⟨_, rfl⟩
    replace H : (if y155.length + y158.length < 140737488355328 then ((some (y155 ++ y158 : List Int)).bind fun y162 => (if a2_2 = true then (if y162.length < 140737488355328 then (some (y162 ++ [0])) else (none)) else (if y162.length < 140737488355328 then ((octet_Put.f k (y162 ++ [1]) (IntKind.u64.wrap ((l2_1.length : Int))) 2).bind fun t171 => (if t171.length + l2_1.length < 140737488355328 then (some (t171 ++ l2_1)) else (none))) else (none)))) else (none)) = some r := by first | (rw [hy158]; with_reducible exact H) | (have H2_ := (Option.bind_some _ _).symm.trans H; rw [hy158]; with_reducible exact H2_) | (have H2_ := (Option.bind_some _ _).symm.trans H; with_reducible exact H2_) | with_reducible exact H | (rw [hy158]; exact H) | exact H
    have Ny158 := Aside0.mk hy158
    clear hy158
    by_cases c8 : y155.length + y158.length < 140737488355328
    ·rw [if_pos c8] at H
     have LMc8 := Aside0.mk c8
     clear c8
     obtain ⟨y162, hy162⟩ : ∃ y_ : List Int, y_ = (y155 ++ y158) := ⟨_, rfl⟩
     replace H : (if a2_2 = true then (if y162.length < 140737488355328 then (some (y162 ++ [0])) else (none)) else (if y162.length < 140737488355328 then ((octet_Put.f k (y162 ++ [1]) (IntKind.u64.wrap ((l2_1.length : Int))) 2).bind fun t171 => (if t171.length + l2_1.length < 140737488355328 then (some (t171 ++ l2_1)) else (none))) else (none))) = some r := by first | (rw [hy162]; with_reducible exact H) | (have H2_ := (Option.bind_some _ _).symm.trans H; rw [hy162]; with_reducible exact H2_) | (have H2_ := (Option.bind_some _ _).symm.trans H; with_reducible exact H2_) | with_reducible exact H | (rw [hy162]; exact H) | exact H
     have Ny162 := Aside0.mk hy162
     clear hy162
     by_cases c9 : a2_2 = true
     ·subst c9
      have H1 : (if y162.length < 140737488355328 then (some (y162 ++ [0])) else (none)) = some r := by rw [if_pos rfl] at H; exact H
      clear H
      have H := H1
      clear H1
      by_cases c10 : y162.length < 140737488355328
      ·rw [if_pos c10] at H
       have LMc10 := Aside0.mk c10
       clear c10
       obtain ⟨y165, hy165⟩ : ∃ y_ : List Int, y_ = (y162 ++ [0]) := ⟨_, rfl⟩
       replace H : (some y165) = some r := by first | (rw [hy165]; with_reducible exact H) | (have H2_ := (Option.bind_some _ _).symm.trans H; rw [hy165]; with_reducible exact H2_) | (have H2_ := (Option.bind_some _ _).symm.trans H; with_reducible exact H2_) | with_reducible exact H | (rw [hy165]; exact H) | exact H
       have Ny165 := Aside0.mk hy165
       clear hy165
       obtain rfl := Option.some.inj H
       go_enter Try.func31, Try.ntmps31
       go_wp2_with (first | ((with_reducible refine gate_dst (N := 5) rfl ?_); refine box_event ?hg (N := 5) ?hd (cs := #[.slice A2_0 l2_0.length c2_0, .slice A2_1 l2_1.length c2_1, .bool true]) (t := 34) ?hr ?_; (case hd => rfl); (case hg => rfl); (case hr => first | (go_simp; done) | (go_simp; rfl)); intro gb150 hg w11 hbox hb; have n0_ := Aside0.mk (Kd.R_below (rowN HO0.out) hb); have n1_ := Aside0.mk (Kept.below (S := (fun k_ => P0_ k_)) (by repeat (first | (with_reducible first | exact HK.out | apply Kept.alloc | apply Kept.drewN | apply Kept.drew) | exact HK.out)) hb); have n2_ := Aside0.mk (below_step (belN HB.out) hb); have n3_ := Aside0.mk (hbox); have n4_ := Aside0.mk ((by rw [hg]; exact (by first | exact HK.out.1 | exact (show Kept w _ (fun k_ => P0_ k_) from by repeat (first | (with_reducible first | exact HK.out | apply Kept.alloc | apply Kept.drewN | apply Kept.drew) | exact HK.out)).1) : w.heap.size ≤ gb150)); have n5_ := Aside0.mk ((by rw [hg]; exact (below_size (belN HB.out)) : w0.heap.size ≤ gb150)); clear HO0; clear HK; clear HB; have HO0 := n0_; have HK := n1_; have HB := n2_; have BK150 := n3_; have GW150 := n4_; have GE150 := n5_; clear n0_ n1_ n2_ n3_ n4_ n5_; clear hb hbox hg; have hcz12_0 : w11.cell? ⟨gb150, 0, none⟩ = some (.slice A2_0 l2_0.length c2_0) := (blk_cell BK150.out 0).trans rfl; have hcz12_1 : w11.cell? ⟨gb150, 1, none⟩ = some (.slice A2_1 l2_1.length c2_1) := (blk_cell BK150.out 1).trans rfl; have hcz12_2 : w11.cell? ⟨gb150, 2, none⟩ = some (.bool true) := (blk_cell BK150.out 2).trans rfl; have hfz12_0 := blk_frozen BK150.out 0; have hfz12_1 := blk_frozen BK150.out 1; have hfz12_2 := blk_frozen BK150.out 2) | ((with_reducible refine gate_callee (f := 50) rfl ?_); refine goesL_ (some 11) rfl rfl Try.func50 (by kernel_rfl) rfl #[.slice A1 l1.length c1, .slice A2_0 l2_0.length c2_0] rfl argN ?_; (with_reducible refine (octet_Shared.calls k _ _ l1 _ _ l2_0 t151 _ ?side1 ?side2 ?side3 ?side4 A4.out).mono ?_); (case side1 => exact Kd.C_kept_now HR1.out (by repeat (first | (with_reducible first | exact HK.out | apply Kept.alloc | apply Kept.drewN | apply Kept.drew | refine Kept.setCell ?_ (.inr GW150.out) _) | exact HK.out))); (case side2 => exact HC1.out); (case side3 => exact Kd.C_kept_now HR2_0.out (by repeat (first | (with_reducible first | exact HK.out | apply Kept.alloc | apply Kept.drewN | apply Kept.drew | refine Kept.setCell ?_ (.inr GW150.out) _) | exact HK.out))); (case side4 => exact HC2_0.out); rintro e w' ⟨rfl, ⟨nd, rfl⟩⟩; refine ⟨_, rfl, ?_⟩) | ((with_reducible refine gate_dst (N := 21) rfl ?_); refine Kd.R_lit (Kd.int .u8) _ 5 ?hg (N := 21) ?hd (xs := ([(t151) % 256, (wrap64 ((l2_0.length : Int) - t151)) % 256] : List Int)) (inner := [.int .u8 ((t151) % 256), .int .u8 ((wrap64 ((l2_0.length : Int) - t151)) % 256)]) (ok := fun _ => True) (okp := fun _ => True) ?hr ?hp (fun _ hk => hk) trivial (Below.refl _ _) (Nat.le_refl _) (by simp) ?_; (case hd => rfl); (case hg => rfl); (case hr => first | (go_simp; done) | (go_simp; rfl)); (case hp => exact (Reps.one (show Kd.M (Kd.int .u8) _ _ _ ((t151) % 256) [.int .u8 ((t151) % 256)] from rfl) (Reps.one (show Kd.M (Kd.int .u8) _ _ _ ((wrap64 ((l2_0.length : Int) - t151)) % 256) [.int .u8 ((wrap64 ((l2_0.length : Int) - t151)) % 256)] from rfl) (Reps.none _ _)))); intro v153 w13 ho14 hb hg_ hnew_; clear hg_ hnew_; (first | rw [← Ny152.out] at ho14 | (simp only [Int.reduceToNat] at ho14; rw [← Ny152.out] at ho14)); have n0_ := Aside0.mk (Kd.R_elder' (rowN HO0.out) (Kd.R_base ho14) hb); have n1_ := Aside0.mk (Kd.R_lower (Kd.R_new' (Kd.R_newM (M := fun k_ => (P0_ k_ ∨ w.heap.size ≤ k_)) ho14 (by first | exact HK.out.1 | exact (show Kept w _ (fun k_ => P0_ k_) from by repeat (first | (with_reducible first | exact HK.out | apply Kept.alloc | apply Kept.drewN | apply Kept.drew | refine Kept.setCell ?_ (.inr GW150.out) _) | exact HK.out)).1) (fun k_ h_ => .inr h_)) (Kd.R_lt (rowN HO0.out))) (below_size (belS HB.out))); have n2_ := Aside0.mk (bkB BK150.out hb); have n3_ := Aside0.mk (Kept.below (S := (fun k_ => P0_ k_)) (by repeat (first | (with_reducible first | exact HK.out | apply Kept.alloc | apply Kept.drewN | apply Kept.drew | refine Kept.setCell ?_ (.inr GW150.out) _) | exact HK.out)) hb); have n4_ := Aside0.mk (below_step (belS HB.out) hb); clear HO0; clear BK150; clear HK; clear HB; have HO0 := n0_; have HO154 := n1_; have BK150 := n2_; have HK := n3_; have HB := n4_; clear n0_ n1_ n2_ n3_ n4_; clear hb ho14; obtain ⟨Ao16, co16, eo16⟩ := Kd.R_slice HO154.out; subst eo16) | ((with_reducible refine gate_builtin (b := .append) (xs := #[.tmp 12, .tmp 21]) rfl ?_); at_builtin; refine Kd.R_append_rows (Kd.int .u8) (w0 := w0) w0.heap.size rfl (.tmp 12) (.tmp 21) 26 5 (.int .u8 0) 1 rfl Try.underlying26 info5 rfl (by decide) (by omega) u9000_ l0 y152 _ _ _ (fun k_ => (P0_ k_ ∨ w.heap.size ≤ k_) ∧ some k_ ≠ (.slice Ao16 y152.length co16 : Value).ownBlock) (fun _ => False) rfl rfl ?aO ?aR (fun _ _ h => h) (fun _ h => h.elim) ?aF ?aB ?aS ?aL ?_; (case aR => repeat (first | exact (Kd.R_reads' HO154.out).2.2 | (with_reducible refine Kd.C_alloc ?_ _) | (with_reducible refine Kd.C_drewN ?_ _) | (with_reducible refine Kd.C_drew ?_))); (case aB => exact (belS HB.out)); (case aF => exact (fun k_ hk => ⟨(.inr (Nat.le_trans (by first | exact HK.out.1 | exact (show Kept w _ (fun k_ => P0_ k_) from by repeat (first | (with_reducible first | exact HK.out | apply Kept.alloc | apply Kept.drewN | apply Kept.drew | refine Kept.setCell ?_ (.inr GW150.out) _) | exact HK.out)).1) hk)), Kd.fresh' (Kd.R_lt (rowN HO154.out)) k_ hk⟩)); (case aO => exact (rowN HO0.out)); (case aS => exact (below_size (belS HB.out))); (case aL => have := LMc5.out; omega); intro v156 w15 ho hb hg hat; rw [← Ny155.out] at ho; have n0_ := Aside0.mk (blk_grown (g := gb150) (o := .cells #[.slice A2_0 l2_0.length c2_0, .slice A2_1 l2_1.length c2_1, .bool true] 34 (0, 0)) (blkN BK150.out) hg (Kd.R_ne HO0.out BK150.out (by decide))); have n1_ := Aside0.mk (Kd.R_after (ok := (fun k_ => (P0_ k_ ∨ w.heap.size ≤ k_))) (by (with_reducible repeat (first | apply Kd.R_alloc | apply Kd.R_drewN | apply Kd.R_drew)); exact Kd.R_mono HO154.out (fun _ hk => ⟨hk.1.1, hk.2⟩)) hg hat); have n2_ := Aside0.mk (hb); have n3_ := Aside0.mk (Kept.of_grown (S := (fun k_ => P0_ k_)) hg (by repeat (first | (with_reducible first | exact HK.out | apply Kept.alloc | apply Kept.drewN | apply Kept.drew | refine Kept.setCell ?_ (.inr GW150.out) _) | exact HK.out)) (fun k_ e_ => (HO0.out.1 k_ e_).1)); have n4_ := Aside0.mk (ho); clear BK150; clear HO154; clear HB; clear HK; clear HO0; have BK150 := n0_; have HO154 := n1_; have HB := n2_; have HK := n3_; have HO157 := n4_; clear n0_ n1_ n2_ n3_ n4_; clear ho hb hg hat; have hcz17_0 : w15.cell? ⟨gb150, 0, none⟩ = some (.slice A2_0 l2_0.length c2_0) := (blk_cell BK150.out 0).trans rfl; have hcz17_1 : w15.cell? ⟨gb150, 1, none⟩ = some (.slice A2_1 l2_1.length c2_1) := (blk_cell BK150.out 1).trans rfl; have hcz17_2 : w15.cell? ⟨gb150, 2, none⟩ = some (.bool true) := (blk_cell BK150.out 2).trans rfl; have hfz17_0 := blk_frozen BK150.out 0; have hfz17_1 := blk_frozen BK150.out 1; have hfz17_2 := blk_frozen BK150.out 2; have q18 : (t151 : Int) ≤ ((l2_0.length : Int) : Int) := of_decide_eq_true (by first | (with_reducible assumption) | assumption); obtain ⟨i018, hi018, _, hsz18, _⟩ := info_parts info5; have hroom18 : l2_0.length ≤ c2_0 := HC2_0.out; have hC18 : Kd.C (Kd.int .u8) _ A2_0 l2_0.length l2_0 := (Kd.C_kept_now HR2_0.out HK.out); have q018 : (0 : Int) ≤ (t151 : Int) := of_decide_eq_true (by first | (with_reducible assumption) | assumption); have hcut18 := cut_from (P := Try.prog) 26 5 .i64 Try.underlying26 hi018 1 hsz18 A2_0 l2_0.length c2_0 t151 q018 q18; have hr18 := Kd.C_drop (m := (t151 : Int).toNat) (c := c2_0) hC18 (by omega) hroom18; obtain ⟨A18, hA18⟩ : ∃ A1, A1 = (if c2_0 = (t151 : Int).toNat then A2_0 else (A2_0 : Option Addr).map (·.add ((t151 : Int).toNat * 1))) := ⟨_, rfl⟩; obtain ⟨c18, hc18⟩ : ∃ c1, c1 = c2_0 - (t151 : Int).toNat := ⟨_, rfl⟩; have hy18 : y158.length = l2_0.length - (t151 : Int).toNat := (by rw [Ny158.out, List.length_drop] <;> omega); rw [show (l2_0).drop (t151 : Int).toNat = y158 from Ny158.out.symm] at hr18; replace hr18 : Kd.C (Kd.int .u8) _ A18 y158.length y158 := (by rw [hA18]; exact hr18); rw [← hy18, ← hA18, ← hc18] at hcut18; have HR161 := Aside0.mk hr18; have HC161 := Aside0.mk (show y158.length ≤ c18 from by rw [hy18, hc18]; exact Nat.sub_le_sub_right hroom18 _); clear hr18 hC18 hroom18 hi018 hsz18 hc18; have KY18 := Aside0.mk hy18; have KA18 := Aside0.mk hA18; clear hy18 hA18; have KL18 := Aside0.mk (show (t151 : Int).toNat ≤ l2_0.length from by omega); replace q18 := eq_true q18) | ((with_reducible refine gate_builtin (b := .append) (xs := #[.tmp 23, .tmp 27]) rfl ?_); at_builtin; refine Kd.R_append_rows (Kd.int .u8) (w0 := w0) w0.heap.size rfl (.tmp 23) (.tmp 27) 26 5 (.int .u8 0) 1 rfl Try.underlying26 info5 rfl (by decide) (by omega) v156 y155 y158 _ _ _ (fun k_ => (P0_ k_ ∨ w.heap.size ≤ k_) ∧ some k_ ≠ (.slice Ao16 y152.length co16 : Value).ownBlock) (fun _ => False) rfl rfl ?aO ?aR (fun _ _ h => h) (fun _ h => h.elim) ?aF ?aB ?aS ?aL ?_; (case aR => repeat (first | exact (by repeat (first | (with_reducible exact HR161.out) | (with_reducible refine Kd.C_alloc ?_ _) | (with_reducible refine Kd.C_drewN ?_ _) | (with_reducible refine Kd.C_drew ?_) | exact HR161.out)) | (with_reducible refine Kd.C_alloc ?_ _) | (with_reducible refine Kd.C_drewN ?_ _) | (with_reducible refine Kd.C_drew ?_))); (case aB => exact (belS HB.out)); (case aF => exact (fun k_ hk => ⟨(.inr (Nat.le_trans (by first | exact HK.out.1 | exact (show Kept w _ (fun k_ => P0_ k_) from by repeat (first | (with_reducible first | exact HK.out | apply Kept.alloc | apply Kept.drewN | apply Kept.drew | refine Kept.setCell ?_ (.inr GW150.out) _) | exact HK.out)).1) hk)), Kd.fresh' (Kd.R_lt (rowN HO154.out)) k_ hk⟩)); (case aO => exact (rowN HO157.out)); (case aS => exact (below_size (belS HB.out))); (case aL => have := LMc8.out; omega); intro v163 w19 ho hb hg hat; rw [← Ny162.out] at ho; have n0_ := Aside0.mk (blk_grown (g := gb150) (o := .cells #[.slice A2_0 l2_0.length c2_0, .slice A2_1 l2_1.length c2_1, .bool true] 34 (0, 0)) (blkN BK150.out) hg (Kd.R_ne HO157.out BK150.out (by decide))); have n1_ := Aside0.mk (Kd.R_after (ok := (fun k_ => (P0_ k_ ∨ w.heap.size ≤ k_))) (rowN HO154.out) hg hat); have n2_ := Aside0.mk (hb); have n3_ := Aside0.mk (Kept.of_grown (S := (fun k_ => P0_ k_)) hg (by repeat (first | (with_reducible first | exact HK.out | apply Kept.alloc | apply Kept.drewN | apply Kept.drew | refine Kept.setCell ?_ (.inr GW150.out) _) | exact HK.out)) (fun k_ e_ => (HO157.out.1 k_ e_).1)); have n4_ := Aside0.mk ((show Kd.C (Kd.int .u8) w19 A18 y158.length y158 from by rw [Ny158.out, KA18.out]; exact Kd.C_drop (m := (t151 : Int).toNat) (c := c2_0) (Kd.C_kept_now HR2_0.out (show Kept w w19 (fun k_ => P0_ k_) from (Kept.of_grown (S := (fun k_ => P0_ k_)) hg (by repeat (first | (with_reducible first | exact HK.out | apply Kept.alloc | apply Kept.drewN | apply Kept.drew | refine Kept.setCell ?_ (.inr GW150.out) _) | exact HK.out)) (fun k_ e_ => (HO157.out.1 k_ e_).1)))) KL18.out HC2_0.out)); have n5_ := Aside0.mk (ho); clear BK150; clear HO154; clear HB; clear HK; clear HR161; clear HO157; have BK150 := n0_; have HO154 := n1_; have HB := n2_; have HK := n3_; have HR161 := n4_; have HO164 := n5_; clear n0_ n1_ n2_ n3_ n4_ n5_; clear ho hb hg hat; have hcz20_0 : w19.cell? ⟨gb150, 0, none⟩ = some (.slice A2_0 l2_0.length c2_0) := (blk_cell BK150.out 0).trans rfl; have hcz20_1 : w19.cell? ⟨gb150, 1, none⟩ = some (.slice A2_1 l2_1.length c2_1) := (blk_cell BK150.out 1).trans rfl; have hcz20_2 : w19.cell? ⟨gb150, 2, none⟩ = some (.bool true) := (blk_cell BK150.out 2).trans rfl; have hfz20_0 := blk_frozen BK150.out 0; have hfz20_1 := blk_frozen BK150.out 1; have hfz20_2 := blk_frozen BK150.out 2) | ((with_reducible refine gate_builtin (b := .append) (xs := #[.tmp 31, .tmp 32]) rfl ?_); at_builtin; refine Kd.R_append (Kd.int .u8) (w0 := w0) w0.heap.size rfl (.tmp 31) (.tmp 32) 26 5 (.int .u8 0) 1 rfl Try.underlying26 info5 rfl (by decide) (by omega) v163 y162 0 [.int .u8 0] (fun k_ => (P0_ k_ ∨ w.heap.size ≤ k_) ∧ some k_ ≠ (.slice Ao16 y152.length co16 : Value).ownBlock) (fun _ => False) rfl rfl ?aP (fun _ hk => hk.elim) ?aF ?aO ?aB ?aS ?aL ?_; (case aP => exact rfl); (case aB => exact (belS HB.out)); (case aF => exact (fun k_ hk => ⟨(.inr (Nat.le_trans (by first | exact HK.out.1 | exact (show Kept w _ (fun k_ => P0_ k_) from by repeat (first | (with_reducible first | exact HK.out | apply Kept.alloc | apply Kept.drewN | apply Kept.drew | refine Kept.setCell ?_ (.inr GW150.out) _) | exact HK.out)).1) hk)), Kd.fresh' (Kd.R_lt (rowN HO154.out)) k_ hk⟩)); (case aO => exact (rowN HO164.out)); (case aS => exact (below_size (belS HB.out))); (case aL => have := LMc10.out; omega); intro v166 w21 ho hb hg hat; rw [← Ny165.out] at ho; have n0_ := Aside0.mk (blk_grown (g := gb150) (o := .cells #[.slice A2_0 l2_0.length c2_0, .slice A2_1 l2_1.length c2_1, .bool true] 34 (0, 0)) (blkN BK150.out) hg (Kd.R_ne HO164.out BK150.out (by decide))); have n1_ := Aside0.mk (Kd.R_after (ok := (fun k_ => (P0_ k_ ∨ w.heap.size ≤ k_))) (rowN HO154.out) hg hat); have n2_ := Aside0.mk (hb); have n3_ := Aside0.mk (Kept.of_grown (S := (fun k_ => P0_ k_)) hg (by repeat (first | (with_reducible first | exact HK.out | apply Kept.alloc | apply Kept.drewN | apply Kept.drew | refine Kept.setCell ?_ (.inr GW150.out) _) | exact HK.out)) (fun k_ e_ => (HO164.out.1 k_ e_).1)); have n4_ := Aside0.mk ((show Kd.C (Kd.int .u8) w21 A18 y158.length y158 from by rw [Ny158.out, KA18.out]; exact Kd.C_drop (m := (t151 : Int).toNat) (c := c2_0) (Kd.C_kept_now HR2_0.out (show Kept w w21 (fun k_ => P0_ k_) from (Kept.of_grown (S := (fun k_ => P0_ k_)) hg (by repeat (first | (with_reducible first | exact HK.out | apply Kept.alloc | apply Kept.drewN | apply Kept.drew | refine Kept.setCell ?_ (.inr GW150.out) _) | exact HK.out)) (fun k_ e_ => (HO164.out.1 k_ e_).1)))) KL18.out HC2_0.out)); have n5_ := Aside0.mk (ho); clear BK150; clear HO154; clear HB; clear HK; clear HR161; clear HO164; have BK150 := n0_; have HO154 := n1_; have HB := n2_; have HK := n3_; have HR161 := n4_; have HO167 := n5_; clear n0_ n1_ n2_ n3_ n4_ n5_; clear ho hb hg hat))
       go_ret
       exact ⟨_, by first | rfl | (simp [errW_none, errW_some] <;> rfl) | (simp [*, errW_none, errW_some] <;> rfl), by (with_reducible repeat (first | apply Kd.R_alloc | apply Kd.R_drewN | apply Kd.R_drew)); exact Kd.R_mono HO167.out (fun _ hk => hk.1), (belS HB.out), by repeat (first | (with_reducible first | exact HK.out | apply Kept.alloc | apply Kept.drewN | apply Kept.drew | refine Kept.setCell ?_ (.inr GW150.out) _) | exact HK.out)⟩
      ·rw [if_neg c10] at H
       exact absurd H (by simp)
     ·replace c9 := Bool.eq_false_iff.mpr c9
      subst c9
      have H1 : (if y162.length < 140737488355328 then ((octet_Put.f k (y162 ++ [1]) (IntKind.u64.wrap ((l2_1.length : Int))) 2).bind fun t171 => (if t171.length + l2_1.length < 140737488355328 then (some (t171 ++ l2_1)) else (none))) else (none)) = some r := by rw [if_neg (show ¬ (false = true) by decide)] at H; exact H
      clear H
      have H := H1
      clear H1
      by_cases c22 : y162.length < 140737488355328
      ·rw [if_pos c22] at H
       have LMc22 := Aside0.mk c22
       clear c22
       obtain ⟨y168, hy168⟩ : ∃ y_ : List Int, y_ = (y162 ++ [1]) := ⟨_, rfl⟩
       replace H : ((octet_Put.f k y168 (IntKind.u64.wrap ((l2_1.length : Int))) 2).bind fun t171 => (if t171.length + l2_1.length < 140737488355328 then (some (t171 ++ l2_1)) else (none))) = some r := by first | (rw [hy168]; with_reducible exact H) | (have H2_ := (Option.bind_some _ _).symm.trans H; rw [hy168]; with_reducible exact H2_) | (have H2_ := (Option.bind_some _ _).symm.trans H; with_reducible exact H2_) | with_reducible exact H | (rw [hy168]; exact H) | exact H
       have Ny168 := Aside0.mk hy168
       clear hy168
       replace H := Option.bind_eq_some_iff.mp H
       obtain ⟨t171, A230, H⟩ := H
       replace H : (if t171.length + l2_1.length < 140737488355328 then (some (t171 ++ l2_1)) else (none)) = some r := H
       have A23 := Aside0.mk A230
       clear A230
       by_cases c24 : t171.length + l2_1.length < 140737488355328
       ·rw [if_pos c24] at H
        have LMc24 := Aside0.mk c24
        clear c24
        obtain ⟨y174, hy174⟩ : ∃ y_ : List Int, y_ = (t171 ++ l2_1) := ⟨_, rfl⟩
        replace H : (some y174) = some r := by first | (rw [hy174]; with_reducible exact H) | (have H2_ := (Option.bind_some _ _).symm.trans H; rw [hy174]; with_reducible exact H2_) | (have H2_ := (Option.bind_some _ _).symm.trans H; with_reducible exact H2_) | with_reducible exact H | (rw [hy174]; exact H) | exact H
        have Ny174 := Aside0.mk hy174
        clear hy174
        obtain rfl := Option.some.inj H
        go_enter Try.func31, Try.ntmps31
        try go_wp2_with (first | ((with_reducible refine gate_dst (N := 5) rfl ?_); refine box_event ?hg (N := 5) ?hd (cs := #[.slice A2_0 l2_0.length c2_0, .slice A2_1 l2_1.length c2_1, .bool false]) (t := 34) ?hr ?_; (case hd => rfl); (case hg => rfl); (case hr => first | (go_simp; done) | (go_simp; rfl)); intro gb150 hg w25 hbox hb; have n0_ := Aside0.mk (Kd.R_below (rowN HO0.out) hb); have n1_ := Aside0.mk (Kept.below (S := (fun k_ => P0_ k_)) (by repeat (first | (with_reducible first | exact HK.out | apply Kept.alloc | apply Kept.drewN | apply Kept.drew) | exact HK.out)) hb); have n2_ := Aside0.mk (below_step (belN HB.out) hb); have n3_ := Aside0.mk (hbox); have n4_ := Aside0.mk ((by rw [hg]; exact (by first | exact HK.out.1 | exact (show Kept w _ (fun k_ => P0_ k_) from by repeat (first | (with_reducible first | exact HK.out | apply Kept.alloc | apply Kept.drewN | apply Kept.drew) | exact HK.out)).1) : w.heap.size ≤ gb150)); have n5_ := Aside0.mk ((by rw [hg]; exact (below_size (belN HB.out)) : w0.heap.size ≤ gb150)); clear HO0; clear HK; clear HB; have HO0 := n0_; have HK := n1_; have HB := n2_; have BK150 := n3_; have GW150 := n4_; have GE150 := n5_; clear n0_ n1_ n2_ n3_ n4_ n5_; clear hb hbox hg; have hcz26_0 : w25.cell? ⟨gb150, 0, none⟩ = some (.slice A2_0 l2_0.length c2_0) := (blk_cell BK150.out 0).trans rfl; have hcz26_1 : w25.cell? ⟨gb150, 1, none⟩ = some (.slice A2_1 l2_1.length c2_1) := (blk_cell BK150.out 1).trans rfl; have hcz26_2 : w25.cell? ⟨gb150, 2, none⟩ = some (.bool false) := (blk_cell BK150.out 2).trans rfl; have hfz26_0 := blk_frozen BK150.out 0; have hfz26_1 := blk_frozen BK150.out 1; have hfz26_2 := blk_frozen BK150.out 2) | ((with_reducible refine gate_callee (f := 50) rfl ?_); refine goesL_ (some 11) rfl rfl Try.func50 (by kernel_rfl) rfl #[.slice A1 l1.length c1, .slice A2_0 l2_0.length c2_0] rfl argN ?_; (with_reducible refine (octet_Shared.calls k _ _ l1 _ _ l2_0 t151 _ ?side1 ?side2 ?side3 ?side4 A4.out).mono ?_); (case side1 => exact Kd.C_kept_now HR1.out (by repeat (first | (with_reducible first | exact HK.out | apply Kept.alloc | apply Kept.drewN | apply Kept.drew | refine Kept.setCell ?_ (.inr GW150.out) _) | exact HK.out))); (case side2 => exact HC1.out); (case side3 => exact Kd.C_kept_now HR2_0.out (by repeat (first | (with_reducible first | exact HK.out | apply Kept.alloc | apply Kept.drewN | apply Kept.drew | refine Kept.setCell ?_ (.inr GW150.out) _) | exact HK.out))); (case side4 => exact HC2_0.out); rintro e w' ⟨rfl, ⟨nd, rfl⟩⟩; refine ⟨_, rfl, ?_⟩) | ((with_reducible refine gate_dst (N := 21) rfl ?_); refine Kd.R_lit (Kd.int .u8) _ 5 ?hg (N := 21) ?hd (xs := ([(t151) % 256, (wrap64 ((l2_0.length : Int) - t151)) % 256] : List Int)) (inner := [.int .u8 ((t151) % 256), .int .u8 ((wrap64 ((l2_0.length : Int) - t151)) % 256)]) (ok := fun _ => True) (okp := fun _ => True) ?hr ?hp (fun _ hk => hk) trivial (Below.refl _ _) (Nat.le_refl _) (by simp) ?_; (case hd => rfl); (case hg => rfl); (case hr => first | (go_simp; done) | (go_simp; rfl)); (case hp => exact (Reps.one (show Kd.M (Kd.int .u8) _ _ _ ((t151) % 256) [.int .u8 ((t151) % 256)] from rfl) (Reps.one (show Kd.M (Kd.int .u8) _ _ _ ((wrap64 ((l2_0.length : Int) - t151)) % 256) [.int .u8 ((wrap64 ((l2_0.length : Int) - t151)) % 256)] from rfl) (Reps.none _ _)))); intro v153 w27 ho28 hb hg_ hnew_; clear hg_ hnew_; (first | rw [← Ny152.out] at ho28 | (simp only [Int.reduceToNat] at ho28; rw [← Ny152.out] at ho28)); have n0_ := Aside0.mk (Kd.R_elder' (rowN HO0.out) (Kd.R_base ho28) hb); have n1_ := Aside0.mk (Kd.R_lower (Kd.R_new' (Kd.R_newM (M := fun k_ => (P0_ k_ ∨ w.heap.size ≤ k_)) ho28 (by first | exact HK.out.1 | exact (show Kept w _ (fun k_ => P0_ k_) from by repeat (first | (with_reducible first | exact HK.out | apply Kept.alloc | apply Kept.drewN | apply Kept.drew | refine Kept.setCell ?_ (.inr GW150.out) _) | exact HK.out)).1) (fun k_ h_ => .inr h_)) (Kd.R_lt (rowN HO0.out))) (below_size (belS HB.out))); have n2_ := Aside0.mk (bkB BK150.out hb); have n3_ := Aside0.mk (Kept.below (S := (fun k_ => P0_ k_)) (by repeat (first | (with_reducible first | exact HK.out | apply Kept.alloc | apply Kept.drewN | apply Kept.drew | refine Kept.setCell ?_ (.inr GW150.out) _) | exact HK.out)) hb); have n4_ := Aside0.mk (below_step (belS HB.out) hb); clear HO0; clear BK150; clear HK; clear HB; have HO0 := n0_; have HO154 := n1_; have BK150 := n2_; have HK := n3_; have HB := n4_; clear n0_ n1_ n2_ n3_ n4_; clear hb ho28; obtain ⟨Ao30, co30, eo30⟩ := Kd.R_slice HO154.out; subst eo30) | ((with_reducible refine gate_builtin (b := .append) (xs := #[.tmp 12, .tmp 21]) rfl ?_); at_builtin; refine Kd.R_append_rows (Kd.int .u8) (w0 := w0) w0.heap.size rfl (.tmp 12) (.tmp 21) 26 5 (.int .u8 0) 1 rfl Try.underlying26 info5 rfl (by decide) (by omega) u9000_ l0 y152 _ _ _ (fun k_ => (P0_ k_ ∨ w.heap.size ≤ k_) ∧ some k_ ≠ (.slice Ao30 y152.length co30 : Value).ownBlock) (fun _ => False) rfl rfl ?aO ?aR (fun _ _ h => h) (fun _ h => h.elim) ?aF ?aB ?aS ?aL ?_; (case aR => repeat (first | exact (Kd.R_reads' HO154.out).2.2 | (with_reducible refine Kd.C_alloc ?_ _) | (with_reducible refine Kd.C_drewN ?_ _) | (with_reducible refine Kd.C_drew ?_))); (case aB => exact (belS HB.out)); (case aF => exact (fun k_ hk => ⟨(.inr (Nat.le_trans (by first | exact HK.out.1 | exact (show Kept w _ (fun k_ => P0_ k_) from by repeat (first | (with_reducible first | exact HK.out | apply Kept.alloc | apply Kept.drewN | apply Kept.drew | refine Kept.setCell ?_ (.inr GW150.out) _) | exact HK.out)).1) hk)), Kd.fresh' (Kd.R_lt (rowN HO154.out)) k_ hk⟩)); (case aO => exact (rowN HO0.out)); (case aS => exact (below_size (belS HB.out))); (case aL => have := LMc5.out; omega); intro v156 w29 ho hb hg hat; rw [← Ny155.out] at ho; have n0_ := Aside0.mk (blk_grown (g := gb150) (o := .cells #[.slice A2_0 l2_0.length c2_0, .slice A2_1 l2_1.length c2_1, .bool false] 34 (0, 0)) (blkN BK150.out) hg (Kd.R_ne HO0.out BK150.out (by decide))); have n1_ := Aside0.mk (Kd.R_after (ok := (fun k_ => (P0_ k_ ∨ w.heap.size ≤ k_))) (by (with_reducible repeat (first | apply Kd.R_alloc | apply Kd.R_drewN | apply Kd.R_drew)); exact Kd.R_mono HO154.out (fun _ hk => ⟨hk.1.1, hk.2⟩)) hg hat); have n2_ := Aside0.mk (hb); have n3_ := Aside0.mk (Kept.of_grown (S := (fun k_ => P0_ k_)) hg (by repeat (first | (with_reducible first | exact HK.out | apply Kept.alloc | apply Kept.drewN | apply Kept.drew | refine Kept.setCell ?_ (.inr GW150.out) _) | exact HK.out)) (fun k_ e_ => (HO0.out.1 k_ e_).1)); have n4_ := Aside0.mk (ho); clear BK150; clear HO154; clear HB; clear HK; clear HO0; have BK150 := n0_; have HO154 := n1_; have HB := n2_; have HK := n3_; have HO157 := n4_; clear n0_ n1_ n2_ n3_ n4_; clear ho hb hg hat; have hcz31_0 : w29.cell? ⟨gb150, 0, none⟩ = some (.slice A2_0 l2_0.length c2_0) := (blk_cell BK150.out 0).trans rfl; have hcz31_1 : w29.cell? ⟨gb150, 1, none⟩ = some (.slice A2_1 l2_1.length c2_1) := (blk_cell BK150.out 1).trans rfl; have hcz31_2 : w29.cell? ⟨gb150, 2, none⟩ = some (.bool false) := (blk_cell BK150.out 2).trans rfl; have hfz31_0 := blk_frozen BK150.out 0; have hfz31_1 := blk_frozen BK150.out 1; have hfz31_2 := blk_frozen BK150.out 2; have q32 : (t151 : Int) ≤ ((l2_0.length : Int) : Int) := of_decide_eq_true (by first | (with_reducible assumption) | assumption); obtain ⟨i032, hi032, _, hsz32, _⟩ := info_parts info5; have hroom32 : l2_0.length ≤ c2_0 := HC2_0.out; have hC32 : Kd.C (Kd.int .u8) _ A2_0 l2_0.length l2_0 := (Kd.C_kept_now HR2_0.out HK.out); have q032 : (0 : Int) ≤ (t151 : Int) := of_decide_eq_true (by first | (with_reducible assumption) | assumption); have hcut32 := cut_from (P := Try.prog) 26 5 .i64 Try.underlying26 hi032 1 hsz32 A2_0 l2_0.length c2_0 t151 q032 q32; have hr32 := Kd.C_drop (m := (t151 : Int).toNat) (c := c2_0) hC32 (by omega) hroom32; obtain ⟨A32, hA32⟩ : ∃ A1, A1 = (if c2_0 = (t151 : Int).toNat then A2_0 else (A2_0 : Option Addr).map (·.add ((t151 : Int).toNat * 1))) := ⟨_, rfl⟩; obtain ⟨c32, hc32⟩ : ∃ c1, c1 = c2_0 - (t151 : Int).toNat := ⟨_, rfl⟩; have hy32 : y158.length = l2_0.length - (t151 : Int).toNat := (by rw [Ny158.out, List.length_drop] <;> omega); rw [show (l2_0).drop (t151 : Int).toNat = y158 from Ny158.out.symm] at hr32; replace hr32 : Kd.C (Kd.int .u8) _ A32 y158.length y158 := (by rw [hA32]; exact hr32); rw [← hy32, ← hA32, ← hc32] at hcut32; have HR161 := Aside0.mk hr32; have HC161 := Aside0.mk (show y158.length ≤ c32 from by rw [hy32, hc32]; exact Nat.sub_le_sub_right hroom32 _); clear hr32 hC32 hroom32 hi032 hsz32 hc32; have KY32 := Aside0.mk hy32; have KA32 := Aside0.mk hA32; clear hy32 hA32; have KL32 := Aside0.mk (show (t151 : Int).toNat ≤ l2_0.length from by omega); replace q32 := eq_true q32) | ((with_reducible refine gate_builtin (b := .append) (xs := #[.tmp 23, .tmp 27]) rfl ?_); at_builtin; refine Kd.R_append_rows (Kd.int .u8) (w0 := w0) w0.heap.size rfl (.tmp 23) (.tmp 27) 26 5 (.int .u8 0) 1 rfl Try.underlying26 info5 rfl (by decide) (by omega) v156 y155 y158 _ _ _ (fun k_ => (P0_ k_ ∨ w.heap.size ≤ k_) ∧ some k_ ≠ (.slice Ao30 y152.length co30 : Value).ownBlock) (fun _ => False) rfl rfl ?aO ?aR (fun _ _ h => h) (fun _ h => h.elim) ?aF ?aB ?aS ?aL ?_; (case aR => repeat (first | exact (by repeat (first | (with_reducible exact HR161.out) | (with_reducible refine Kd.C_alloc ?_ _) | (with_reducible refine Kd.C_drewN ?_ _) | (with_reducible refine Kd.C_drew ?_) | exact HR161.out)) | (with_reducible refine Kd.C_alloc ?_ _) | (with_reducible refine Kd.C_drewN ?_ _) | (with_reducible refine Kd.C_drew ?_))); (case aB => exact (belS HB.out)); (case aF => exact (fun k_ hk => ⟨(.inr (Nat.le_trans (by first | exact HK.out.1 | exact (show Kept w _ (fun k_ => P0_ k_) from by repeat (first | (with_reducible first | exact HK.out | apply Kept.alloc | apply Kept.drewN | apply Kept.drew | refine Kept.setCell ?_ (.inr GW150.out) _) | exact HK.out)).1) hk)), Kd.fresh' (Kd.R_lt (rowN HO154.out)) k_ hk⟩)); (case aO => exact (rowN HO157.out)); (case aS => exact (below_size (belS HB.out))); (case aL => have := LMc8.out; omega); intro v163 w33 ho hb hg hat; rw [← Ny162.out] at ho; have n0_ := Aside0.mk (blk_grown (g := gb150) (o := .cells #[.slice A2_0 l2_0.length c2_0, .slice A2_1 l2_1.length c2_1, .bool false] 34 (0, 0)) (blkN BK150.out) hg (Kd.R_ne HO157.out BK150.out (by decide))); have n1_ := Aside0.mk (Kd.R_after (ok := (fun k_ => (P0_ k_ ∨ w.heap.size ≤ k_))) (rowN HO154.out) hg hat); have n2_ := Aside0.mk (hb); have n3_ := Aside0.mk (Kept.of_grown (S := (fun k_ => P0_ k_)) hg (by repeat (first | (with_reducible first | exact HK.out | apply Kept.alloc | apply Kept.drewN | apply Kept.drew | refine Kept.setCell ?_ (.inr GW150.out) _) | exact HK.out)) (fun k_ e_ => (HO157.out.1 k_ e_).1)); have n4_ := Aside0.mk ((show Kd.C (Kd.int .u8) w33 A32 y158.length y158 from by rw [Ny158.out, KA32.out]; exact Kd.C_drop (m := (t151 : Int).toNat) (c := c2_0) (Kd.C_kept_now HR2_0.out (show Kept w w33 (fun k_ => P0_ k_) from (Kept.of_grown (S := (fun k_ => P0_ k_)) hg (by repeat (first | (with_reducible first | exact HK.out | apply Kept.alloc | apply Kept.drewN | apply Kept.drew | refine Kept.setCell ?_ (.inr GW150.out) _) | exact HK.out)) (fun k_ e_ => (HO157.out.1 k_ e_).1)))) KL32.out HC2_0.out)); have n5_ := Aside0.mk (ho); clear BK150; clear HO154; clear HB; clear HK; clear HR161; clear HO157; have BK150 := n0_; have HO154 := n1_; have HB := n2_; have HK := n3_; have HR161 := n4_; have HO164 := n5_; clear n0_ n1_ n2_ n3_ n4_ n5_; clear ho hb hg hat; have hcz34_0 : w33.cell? ⟨gb150, 0, none⟩ = some (.slice A2_0 l2_0.length c2_0) := (blk_cell BK150.out 0).trans rfl; have hcz34_1 : w33.cell? ⟨gb150, 1, none⟩ = some (.slice A2_1 l2_1.length c2_1) := (blk_cell BK150.out 1).trans rfl; have hcz34_2 : w33.cell? ⟨gb150, 2, none⟩ = some (.bool false) := (blk_cell BK150.out 2).trans rfl; have hfz34_0 := blk_frozen BK150.out 0; have hfz34_1 := blk_frozen BK150.out 1; have hfz34_2 := blk_frozen BK150.out 2))
        have n0_ := Aside0.mk (Kd.R_drew HO154.out)
        have n1_ := Aside0.mk (Kd.R_drew HO164.out)
        have n2_ := Aside0.mk (blk_drew BK150.out)
        have n3_ := Aside0.mk (Kd.C_drew HR161.out)
        have n4_ := Aside0.mk (Kept.drew HK.out)
        have n5_ := Aside0.mk (below_drew1 HB.out)
        clear HO154
        clear HO164
        clear BK150
        clear HR161
        clear HK
        clear HB
        have HO154 := n0_
        have HO164 := n1_
        have BK150 := n2_
        have HR161 := n3_
        have HK := n4_
        have HB := n5_
        clear n0_ n1_ n2_ n3_ n4_ n5_
        refine start_ (n := 9) (S := fun w' => w'.cell? ⟨gb150, 0, none⟩ = some (.slice A2_0 l2_0.length c2_0) ∧ w'.cell? ⟨gb150, 1, none⟩ = some (.slice A2_1 l2_1.length c2_1) ∧ w'.cell? ⟨gb150, 2, none⟩ = some (.bool false)) (ds := []) #[false, false, false, false, false, false, false, false, false] (by kernel_rfl) rfl rfl ⟨(blk_cell BK150.out 0).trans rfl, (blk_cell BK150.out 1).trans rfl, (blk_cell BK150.out 2).trans rfl⟩ (fun hHeld => ?_); refine with_tabW block_put.tab6 block_put.bits6 (fun HT_ HW_ => ?_)
        generalize w33.drew = w35 at HO154 HO164 BK150 HR161 HK HB hHeld ⊢
        refine pA 0 (some 34) (bA 9 1) HT_.out ?_
        refine pA 3 (some 37) (bA 9 9) HT_.out ?_
        refine take_ (i := 4) (N := some 38) (v := ?_) (a' := ?_) (bA 9 25) rfl rfl (take_ofW HT_.out HW_.out (by kernel_rfl)) (fun _ _ _ h => h) (Or.inl ⟨by rfl, ?_⟩) hHeld ?_ ?_
        rotate_left
        ·rintro w' ⟨s0, s1, s2⟩
         go_simp
         with_reducible rfl
        rotate_left
        ·simp only [Act.put, List.setIfInBounds_toArray, List.set_cons_zero, List.set_cons_succ, i64_w, i32_w]
         rfl
        refine pA 5 (some 39) (bA 9 57) HT_.out ?_
        refine pA 6 (some 40) (bA 9 121) HT_.out ?_
        refine one_ (i := 1) (N := some 35) (bA 9 123) rfl rfl (one_of HT_.out (by kernel_rfl)) (by decide) (fun K hK => ?_)
        refine value_ (w1 := ?_) (v := ?_) (by rfl) rfl ?_ ?_
        rotate_left 2
        ·go_simp
         constructor
         ·rfl
         ·rfl
        refine hK.out _ _ ⟨(blk_cell (blk_alloc BK150.out _) 0).trans rfl, (blk_cell (blk_alloc BK150.out _) 1).trans rfl, (blk_cell (blk_alloc BK150.out _) 2).trans rfl⟩ (fun hHeld => ?_)
        clear hK K
        refine norm_ (a' := ?_) ?_ ?_
        rotate_left
        ·show Act.put _ (some 35) _ = _
         simp only [Act.put, List.setIfInBounds_toArray, List.set_cons_zero, List.set_cons_succ, i64_w, i32_w]
         rfl
        refine one_ (i := 2) (N := some 36) (bA 9 127) rfl rfl (one_of HT_.out (by kernel_rfl)) (by decide) (fun K hK => ?_)
        refine Kd.R_append_step (Kd.int .u8) (w0 := w0) w0.heap.size (by rfl) (.tmp 34) (.tmp 35) 26 5 (.int .u8 0) 1 rfl Try.underlying26 info5 rfl (by decide) (by omega) v163 y162 1 [.int .u8 1] (fun k_ => (P0_ k_ ∨ w.heap.size ≤ k_) ∧ some k_ ≠ (.slice Ao30 y152.length co30 : Value).ownBlock) (fun _ => False) rfl rfl ?aP (fun _ hk => hk.elim) ?aF ?aO ?aB ?aS ?aL ?_
        (case aP => exact rfl)
        (case aB => exact (belS HB.out))
        (case aF => exact (fun k_ hk => ⟨(.inr (Nat.le_trans (by first | exact HK.out.1 | exact (show Kept w _ (fun k_ => P0_ k_) from by repeat (first | (with_reducible first | exact HK.out | apply Kept.alloc | apply Kept.drewN | apply Kept.drew | refine Kept.setCell ?_ (.inr GW150.out) _) | exact HK.out)).1) hk)), Kd.fresh' (Kd.R_lt (rowN HO154.out)) k_ hk⟩))
        (case aO => exact (rowN HO164.out))
        (case aS => exact (below_size (belS HB.out)))
        (case aL => have := LMc22.out; omega)
        intro v169 w36 ho hb hg hat
        rw [← Ny168.out] at ho
        have n0_ := Aside0.mk (blk_grown (g := gb150) (o := .cells #[.slice A2_0 l2_0.length c2_0, .slice A2_1 l2_1.length c2_1, .bool false] 34 (0, 0)) (blkN BK150.out) hg (Kd.R_ne HO164.out BK150.out (by decide)))
        have n1_ := Aside0.mk (Kd.R_after (ok := (fun k_ => (P0_ k_ ∨ w.heap.size ≤ k_))) (rowN HO154.out) hg hat)
        have n2_ := Aside0.mk (hb)
        have n3_ := Aside0.mk (Kept.of_grown (S := (fun k_ => P0_ k_)) hg (by repeat (first | (with_reducible first | exact HK.out | apply Kept.alloc | apply Kept.drewN | apply Kept.drew | refine Kept.setCell ?_ (.inr GW150.out) _) | exact HK.out)) (fun k_ e_ => (HO164.out.1 k_ e_).1))
        have n4_ := Aside0.mk ((show Kd.C (Kd.int .u8) w36 A32 y158.length y158 from by rw [Ny158.out, KA32.out]; exact Kd.C_drop (m := (t151 : Int).toNat) (c := c2_0) (Kd.C_kept_now HR2_0.out (show Kept w w36 (fun k_ => P0_ k_) from (Kept.of_grown (S := (fun k_ => P0_ k_)) hg (by repeat (first | (with_reducible first | exact HK.out | apply Kept.alloc | apply Kept.drewN | apply Kept.drew | refine Kept.setCell ?_ (.inr GW150.out) _) | exact HK.out)) (fun k_ e_ => (HO164.out.1 k_ e_).1)))) KL32.out HC2_0.out))
        have n5_ := Aside0.mk (ho)
        clear BK150
        clear HO154
        clear HB
        clear HK
        clear HR161
        clear HO164
        have BK150 := n0_
        have HO154 := n1_
        have HB := n2_
        have HK := n3_
        have HR161 := n4_
        have HO170 := n5_
        clear n0_ n1_ n2_ n3_ n4_ n5_
        clear ho hb hg hat
        obtain ⟨Ao37, co37, eo37⟩ := Kd.R_slice HO170.out
        (first | subst eo37 | (injection eo37 with f1_ f2_ f3_; have f4_ := f1_.symm; have f5_ := f3_.symm; clear f1_ f2_ f3_; subst f4_; subst f5_))
        refine hK.out _ _ ⟨(blk_cell BK150.out 0).trans rfl, (blk_cell BK150.out 1).trans rfl, (blk_cell BK150.out 2).trans rfl⟩ (fun hHeld => ?_)
        clear hK K
        refine norm_ (a' := ?_) ?_ ?_
        rotate_left
        ·show Act.put _ (some 36) _ = _
         simp only [Act.put, List.setIfInBounds_toArray, List.set_cons_zero, List.set_cons_succ, i64_w, i32_w]
         rfl
        refine one_ (i := 7) (N := some 41) (bA 9 255) rfl rfl (one_of HT_.out (by kernel_rfl)) (by decide) (fun K hK => ?_)
        refine goes_ Try.func32 (by kernel_rfl) rfl #[.slice Ao37 y168.length co37, .int .u64 (IntKind.u64.wrap ((l2_1.length : Int))), .int .i64 2] (by rfl) rfl rfl argN ?_
        with_reducible refine (octet_Put.calls k _ _ y168 (IntKind.u64.wrap ((l2_1.length : Int))) 2 t171 _ ?side1 ?side2 A23.out).mono ?_
        (case side1 => repeat (first | exact (Kd.R_reads' HO170.out).2.2 | (with_reducible refine Kd.C_alloc ?_ _) | (with_reducible refine Kd.C_drewN ?_ _) | (with_reducible refine Kd.C_drew ?_)))
        (case side2 => exact (Kd.R_reads' HO170.out).2.1)
        rintro e w38 ⟨v172, rfl, ho0, hb⟩
        refine ⟨_, rfl, ?_⟩
        have n0_ := Aside0.mk (Kd.R_elder' (rowN HO154.out) (Kd.R_base ho0) hb)
        have n1_ := Aside0.mk (Kd.R_elder' (rowN HO170.out) (Kd.R_base ho0) hb)
        have n2_ := Aside0.mk (Kd.R_lower (Kd.R_new' (Kd.R_new' (Kd.R_newM (M := fun k_ => (P0_ k_ ∨ w.heap.size ≤ k_)) ho0 (by first | exact HK.out.1 | exact (show Kept w _ (fun k_ => P0_ k_) from by repeat (first | (with_reducible first | exact HK.out | apply Kept.alloc | apply Kept.drewN | apply Kept.drew | refine Kept.setCell ?_ (.inr GW150.out) _) | exact HK.out)).1) (fun k_ h_ => .inr h_)) (Kd.R_lt (rowN HO154.out))) (Kd.R_lt (rowN HO170.out))) (below_size (belS HB.out)))
        have n3_ := Aside0.mk (bkB BK150.out hb)
        have n4_ := Aside0.mk (cbN HR161.out hb)
        have n5_ := Aside0.mk (Kept.below (S := (fun k_ => P0_ k_)) (by repeat (first | (with_reducible first | exact HK.out | apply Kept.alloc | apply Kept.drewN | apply Kept.drew | refine Kept.setCell ?_ (.inr GW150.out) _) | exact HK.out)) hb)
        have n6_ := Aside0.mk (below_step (belS HB.out) hb)
        clear HO154
        clear HO170
        clear BK150
        clear HR161
        clear HK
        clear HB
        have HO154 := n0_
        have HO170 := n1_
        have HO173 := n2_
        have BK150 := n3_
        have HR161 := n4_
        have HK := n5_
        have HB := n6_
        clear n0_ n1_ n2_ n3_ n4_ n5_ n6_
        (try clear hb)
        (try clear hk)
        (try clear ho0)
        refine hK.out _ _ ⟨(blk_cell BK150.out 0).trans rfl, (blk_cell BK150.out 1).trans rfl, (blk_cell BK150.out 2).trans rfl⟩ (fun hHeld => ?_)
        clear hK K
        refine norm_ (a' := ?_) ?_ ?_
        rotate_left
        ·show Act.put _ (some 41) _ = _
         simp only [Act.put, List.setIfInBounds_toArray, List.set_cons_zero, List.set_cons_succ, i64_w, i32_w]
         rfl
        refine pA 8 (some 0) (bA 9 511) HT_.out ?_
        refine done_ (done_of HT_.out (by kernel_rfl)) ?_
        have hcz39_0 : w38.cell? ⟨gb150, 0, none⟩ = some (.slice A2_0 l2_0.length c2_0) := (blk_cell BK150.out 0).trans rfl
        have hcz39_1 : w38.cell? ⟨gb150, 1, none⟩ = some (.slice A2_1 l2_1.length c2_1) := (blk_cell BK150.out 1).trans rfl
        have hcz39_2 : w38.cell? ⟨gb150, 2, none⟩ = some (.bool false) := (blk_cell BK150.out 2).trans rfl
        have hfz39_0 := blk_frozen BK150.out 0
        have hfz39_1 := blk_frozen BK150.out 1
        have hfz39_2 := blk_frozen BK150.out 2
        try go_wp2_with (first | ((with_reducible refine gate_builtin (b := .append) (xs := #[.tmp 42, .tmp 44]) rfl ?_); at_builtin; refine Kd.R_append_rows (Kd.int .u8) (w0 := w0) w0.heap.size rfl (.tmp 42) (.tmp 44) 26 5 (.int .u8 0) 1 rfl Try.underlying26 info5 rfl (by decide) (by omega) v172 t171 l2_1 _ _ _ (fun k_ => (P0_ k_ ∨ w.heap.size ≤ k_) ∧ some k_ ≠ (.slice Ao30 y152.length co30 : Value).ownBlock ∧ some k_ ≠ (.slice Ao37 y168.length co37 : Value).ownBlock) (fun _ => False) rfl rfl ?aO ?aR (fun _ _ h => h) (fun _ h => h.elim) ?aF ?aB ?aS ?aL ?_; (case aR => exact Kd.C_kept_now HR2_1.out (by repeat (first | (with_reducible first | exact HK.out | apply Kept.alloc | apply Kept.drewN | apply Kept.drew | refine Kept.setCell ?_ (.inr GW150.out) _) | exact HK.out))); (case aB => exact (belS HB.out)); (case aF => exact (fun k_ hk => ⟨(.inr (Nat.le_trans (by first | exact HK.out.1 | exact (show Kept w _ (fun k_ => P0_ k_) from by repeat (first | (with_reducible first | exact HK.out | apply Kept.alloc | apply Kept.drewN | apply Kept.drew | refine Kept.setCell ?_ (.inr GW150.out) _) | exact HK.out)).1) hk)), Kd.fresh' (Kd.R_lt (rowN HO154.out)) k_ hk, Kd.fresh' (Kd.R_lt (rowN HO170.out)) k_ hk⟩)); (case aO => exact (by (with_reducible repeat (first | apply Kd.R_alloc | apply Kd.R_drewN | apply Kd.R_drew)); exact Kd.R_mono HO173.out (fun _ hk => ⟨hk.1.1.1, ⟨hk.1.2, hk.2⟩⟩))); (case aS => exact (below_size (belS HB.out))); (case aL => have := LMc24.out; omega); intro v175 w40 ho hb hg hat; rw [← Ny174.out] at ho; have n0_ := Aside0.mk (blk_grown (g := gb150) (o := .cells #[.slice A2_0 l2_0.length c2_0, .slice A2_1 l2_1.length c2_1, .bool false] 34 (0, 0)) (blkN BK150.out) hg (Kd.R_ne HO173.out BK150.out (by decide))); have n1_ := Aside0.mk (Kd.R_after (ok := (fun k_ => (P0_ k_ ∨ w.heap.size ≤ k_) ∧ some k_ ≠ (.slice Ao37 y168.length co37 : Value).ownBlock)) (rowN HO154.out) hg hat); have n2_ := Aside0.mk (Kd.R_after (ok := (fun k_ => (P0_ k_ ∨ w.heap.size ≤ k_) ∧ some k_ ≠ (.slice Ao30 y152.length co30 : Value).ownBlock)) (rowN HO170.out) hg hat); have n3_ := Aside0.mk (hb); have n4_ := Aside0.mk (Kept.of_grown (S := (fun k_ => P0_ k_)) hg (by repeat (first | (with_reducible first | exact HK.out | apply Kept.alloc | apply Kept.drewN | apply Kept.drew | refine Kept.setCell ?_ (.inr GW150.out) _) | exact HK.out)) (fun k_ e_ => (HO173.out.1 k_ e_).1.1.1)); have n5_ := Aside0.mk ((show Kd.C (Kd.int .u8) w40 A32 y158.length y158 from by rw [Ny158.out, KA32.out]; exact Kd.C_drop (m := (t151 : Int).toNat) (c := c2_0) (Kd.C_kept_now HR2_0.out (show Kept w w40 (fun k_ => P0_ k_) from (Kept.of_grown (S := (fun k_ => P0_ k_)) hg (by repeat (first | (with_reducible first | exact HK.out | apply Kept.alloc | apply Kept.drewN | apply Kept.drew | refine Kept.setCell ?_ (.inr GW150.out) _) | exact HK.out)) (fun k_ e_ => (HO173.out.1 k_ e_).1.1.1)))) KL32.out HC2_0.out)); have n6_ := Aside0.mk (ho); clear BK150; clear HO154; clear HO170; clear HB; clear HK; clear HR161; clear HO173; have BK150 := n0_; have HO154 := n1_; have HO170 := n2_; have HB := n3_; have HK := n4_; have HR161 := n5_; have HO176 := n6_; clear n0_ n1_ n2_ n3_ n4_ n5_ n6_; clear ho hb hg hat))
        go_ret
        exact ⟨_, by first | rfl | (simp [errW_none, errW_some] <;> rfl) | (simp [*, errW_none, errW_some] <;> rfl), by (with_reducible repeat (first | apply Kd.R_alloc | apply Kd.R_drewN | apply Kd.R_drew)); exact Kd.R_mono HO176.out (fun _ hk => hk.1), (belS HB.out), by repeat (first | (with_reducible first | exact HK.out | apply Kept.alloc | apply Kept.drewN | apply Kept.drew | refine Kept.setCell ?_ (.inr GW150.out) _) | exact HK.out)⟩
       ·rw [if_neg c24] at H
        exact absurd H (by simp)
      ·rw [if_neg c22] at H
       exact absurd H (by simp)
    ·rw [if_neg c8] at H
     exact absurd H (by simp)
   ·rw [if_neg c7] at H
    exact absurd H (by simp)
  ·rw [if_neg c6] at H
   exact absurd H (by simp)
 ·rw [if_neg c5] at H
  exact absurd H (by simp)

/-! ### block_Build: function 13, by hand (two loops; 'last' is a row that came in) -/
/-- Entries one behind the other: the bytes, and where each fourth one begins. -/
def bldGo (k : Nat) : List S34 → Nat → List Int → List Int → List Int → Option (List Int × List Int)
  | [], _, b, _, beg => some (b, beg)
  | x :: r, i, b, last, beg =>
    if i % 4 = 0 then (block_put.f k b [] x.f0 x.f1 x.f2).bind fun b' => bldGo k r (i + 1) b' x.f0 (beg ++ [(b.length : Int)])
    else (block_put.f k b last x.f0 x.f1 x.f2).bind fun b' => bldGo k r (i + 1) b' x.f0 beg
def bldLay (k : Nat) : List Int → List Int → Option (Option (List Int))
  | [], b => some (some b)
  | a :: r, b => if a > 65535 then some none else (octet_Put.f k b (IntKind.u64.wrap a) 2).bind fun b' => bldLay k r b'
def bldEnd (n : Nat) : Option (List Int) → Option (List Int × Int)
  | none => some ([], 3)
  | some b => if b.length < 140737488355328 then some (b ++ [(n : Int) % 256], 0) else none
def block_Build.f (k : Nat) (l0 : List S34) : Option (List Int × Int) :=
  if l0.length < 1 then some ([], 1) else if l0.length > 255 then some ([], 1) else
    (block_Fits.f k l0).bind fun ok => if ok = true then (bldGo k l0 0 [] [] []).bind fun p => (bldLay k p.2 p.1).bind fun q => bldEnd p.2.length q else some ([], 1)
theorem bldGo.mono (k : Nat) : ∀ (l : List S34) (i : Nat) (b last beg : List Int), LeO (bldGo k l i b last beg) (bldGo (k + 1) l i b last beg)
  | [], _, _, _, _ => LeO.refl _
  | x :: r, i, b, last, beg => by
    unfold bldGo
    refine LeO.ite (LeO.bind (block_put.mono _ _ _ _ _ _) (fun b' => bldGo.mono k r _ _ _ _)) (LeO.bind (block_put.mono _ _ _ _ _ _) (fun b' => bldGo.mono k r _ _ _ _))
theorem bldLay.mono (k : Nat) : ∀ (l b : List Int), LeO (bldLay k l b) (bldLay (k + 1) l b)
  | [], _ => LeO.refl _
  | a :: r, b => by
    unfold bldLay
    exact LeO.ite (LeO.refl _) (LeO.bind (octet_Put.mono _ _ _ _) (fun b' => bldLay.mono k r b'))
theorem block_Build.mono : ∀ a0 k, LeO (block_Build.f k a0) (block_Build.f (k + 1) a0) := by
  intro a0 k
  unfold block_Build.f
  exact LeO.ite (LeO.refl _) (LeO.ite (LeO.refl _) (LeO.bind (block_Fits.mono _ _) (fun ok => LeO.ite (LeO.bind (bldGo.mono k _ _ _ _ _) (fun p => LeO.bind (bldLay.mono k _ _) (fun q => LeO.refl _))) (LeO.refl _))))
theorem flat_kept {k : IntKind} {e base : Nat} {W W2 : World} {S : Nat → Prop} {v : Value} {xs : List Int} (h : Kd.R (Kd.int k) e W base (fun _ => True) v xs) (hk : Kept W W2 S) (hS : ∀ g, v.ownBlock = some g → ¬ S g) : Kd.R (Kd.int k) e W2 base (fun _ => True) v xs :=
  Kd.R_mono (Kd.R_kept (Kd.R_tight rfl h) hk (fun g hg => hS g hg.symm)) (fun _ _ => trivial)
theorem flat_grown {k : IntKind} {e base : Nat} {W W2 : World} {row : Option Nat} {v : Value} {xs : List Int} (h : Kd.R (Kd.int k) e W base (fun _ => True) v xs) (hg : W.grownBy W2 row) (hS : ∀ g, v.ownBlock = some g → some g ≠ row) : Kd.R (Kd.int k) e W2 base (fun _ => True) v xs :=
  Kd.R_mono (Kd.R_grown (Kd.R_tight rfl h) hg (fun g hg' => hS g hg'.symm)) (fun _ _ => trivial)
theorem flat_other {k k' : IntKind} {e e' base base' : Nat} {W : World} {v v' : Value} {xs xs' : List Int} (h : Kd.R (Kd.int k) e W base (fun _ => True) v xs) (h' : Kd.R (Kd.int k') e' W base' (fun _ => True) v' xs') (hne : e ≠ e') : ∀ g, v.ownBlock = some g → some g ≠ v'.ownBlock := fun g hg he => by
  obtain ⟨cs, hc⟩ := Kd.R_typed h g hg
  obtain ⟨cs', hc'⟩ := Kd.R_typed h' g he.symm
  rw [hc] at hc'
  injection hc' with hc'
  injection hc' with _ hc'
  exact hne hc'
theorem drop_rd {l : List S34} {i : Nat} (h : i < l.length) : l.drop i = rd_T34 l (i : Int) :: l.drop (i + 1) := by
  rw [List.drop_eq_getElem_cons h]
  unfold rd_T34
  rw [Int.toNat_natCast, List.getD_eq_getElem?_getD, List.getElem?_eq_getElem h]
  rfl
theorem drop_rdI {l : List Int} {i : Nat} (h : i < l.length) : l.drop i = rd l (i : Int) :: l.drop (i + 1) := by
  rw [List.drop_eq_getElem_cons h]
  unfold rd
  rw [Int.toNat_natCast, List.getD_eq_getElem?_getD, List.getElem?_eq_getElem h]
  rfl
theorem block_put_nil (k : Nat) (P0_ : Nat → Prop) (u : Value) (l0 : List Int) (A2_0 : Option Addr) (c2_0 : Nat) (l2_0 : List Int) (A2_1 : Option Addr) (c2_1 : Nat) (l2_1 : List Int) (a2_2 : Bool) (r : List Int) (w0 w : World) (hB : Below w0.heap.size w0 w) (ho0 : Kd.R (Kd.int .u8) 5 w w0.heap.size P0_ u l0) (hr2_0 : ∀ W_, Kept w W_ (fun k_ => P0_ k_) → Kd.C (Kd.int .u8) W_ A2_0 l2_0.length l2_0) (hc2_0 : l2_0.length ≤ c2_0) (hr2_1 : ∀ W_, Kept w W_ (fun k_ => P0_ k_) → Kd.C (Kd.int .u8) W_ A2_1 l2_1.length l2_1) (hc2_1 : l2_1.length ≤ c2_1) (h : block_put.f k l0 [] l2_0 l2_1 a2_2 = some r) :
    Calls Try.prog 31 #[u, .slice none 0 0, .agg #[.slice A2_0 l2_0.length c2_0, .slice A2_1 l2_1.length c2_1, .bool a2_2]] w fun e w' => ∃ v0_ : Value, e = .returned (v0_) ∧ Kd.R (Kd.int .u8) 5 w' w0.heap.size (fun k_ => (P0_ k_ ∨ w.heap.size ≤ k_)) v0_ r ∧ Below w0.heap.size w0 w' ∧ Kept w w' (fun k_ => P0_ k_) :=
  block_put.calls k P0_ u l0 none 0 [] A2_0 c2_0 l2_0 A2_1 c2_1 l2_1 a2_2 r w0 w hB ho0 Kd.C_kept_nil (Nat.le_refl _) hr2_0 hc2_0 hr2_1 hc2_1 h
set_option maxHeartbeats 8000000 in
set_option maxRecDepth 100000 in
theorem block_Build.calls (k : Nat) (A0 : Option Addr) (c0 : Nat) (l0 : List S34) (r1 : List Int) (r2 : Int) (w : World) (hr0 : Kd.C k34 w A0 l0.length l0) (hc0 : l0.length ≤ c0) (h : block_Build.f k l0 = some (r1, r2)) :
    Calls Try.prog 13 #[.slice A0 l0.length c0] w fun e w' => ∃ v0_ : Value, e = .returned (.tuple #[v0_, .int .i64 r2]) ∧ Kd.R (Kd.int .u8) 5 w' w.heap.size (fun _ => True) v0_ r1 ∧ Below w.heap.size w w' := by
  have hu34 := Try.underlying34
  unfold block_Build.f at h
  by_cases c1 : l0.length < 1
  · rw [if_pos c1] at h
    obtain ⟨rfl, rfl⟩ := Prod.mk.inj (Option.some.inj h)
    have d1 : decide ((l0.length : Int) < 1) = true := decide_eq_true (by omega)
    have d2 : decide (l0.length < 1) = true := decide_eq_true c1
    clear h c1
    go_enter Try.func13, Try.ntmps13
    go_wp2
    go_ret2
    exact ⟨_, rfl, Kd.R_nil _ _ _ _ _, Below.refl _ _⟩
  rw [if_neg c1] at h
  have d1 : decide ((l0.length : Int) < 1) = false := decide_eq_false (by omega)
  have d2 : decide (l0.length < 1) = false := decide_eq_false c1
  by_cases c2 : l0.length > 255
  · rw [if_pos c2] at h
    obtain ⟨rfl, rfl⟩ := Prod.mk.inj (Option.some.inj h)
    have d3 : decide (255 < (l0.length : Int)) = true := decide_eq_true (by omega)
    have d4 : decide (255 < l0.length) = true := decide_eq_true c2
    clear h c1 c2
    go_enter Try.func13, Try.ntmps13
    go_wp2
    go_ret2
    exact ⟨_, rfl, Kd.R_nil _ _ _ _ _, Below.refl _ _⟩
  rw [if_neg c2] at h
  have d3 : decide (255 < (l0.length : Int)) = false := decide_eq_false (by omega)
  have d4 : decide (255 < l0.length) = false := decide_eq_false c2
  obtain ⟨ok, hF, h⟩ := Option.bind_eq_some_iff.1 h
  have hFc := Aside0.mk (block_Fits.calls k A0 c0 l0 ok w hr0 hc0 hF)
  cases ok with
  | false =>
    simp only [Bool.false_eq_true, if_false] at h
    obtain ⟨rfl, rfl⟩ := Prod.mk.inj (Option.some.inj h)
    clear h c1 c2 hF
    go_enter Try.func13, Try.ntmps13
    go_wp2_with (go_at_call 30; refine hFc.out.mono ?_; rintro e w1 ⟨rfl, hb1⟩)
    go_ret2
    exact ⟨_, rfl, Kd.R_nil _ _ _ _ _, hb1⟩
  | true =>
  simp only [if_true] at h
  obtain ⟨⟨pb, pg⟩, h1, h⟩ := Option.bind_eq_some_iff.1 h
  obtain ⟨q, h2, h⟩ := Option.bind_eq_some_iff.1 h
  replace h1 := Aside0.mk h1
  replace h2 := Aside0.mk h2
  replace h := Aside0.mk h
  have hlen : Aside0 (1 ≤ l0.length ∧ l0.length ≤ 255) := ⟨by omega⟩
  clear hF c1 c2
  go_enter Try.func13, Try.ntmps13
  go_upto_block 0 with (go_at_call 30; refine hFc.out.mono ?_; rintro e w1 ⟨rfl, hb1⟩)
  clear d1 d2 d3 d4 hFc
  go_upto_region 13 with (fail)
  go_loopg [4, 5, 6, 26] 256 (fun kq v4 v5 v6 v26 w' => ∃ (i : Nat) (b last beg : List Int) (AL : Option Addr) (cL : Nat), v26 = .int .i64 (i : Int) ∧ v5 = .slice AL last.length cL ∧ Aside0 (255 - i < kq ∧ i ≤ l0.length ∧ beg.length ≤ i) ∧ Aside0 (bldGo k (l0.drop i) i b last beg = some (pb, pg)) ∧ Aside0 (Kd.R (Kd.int .u8) 5 w' w.heap.size (fun _ => True) v4 b) ∧ Aside0 (Kd.R (Kd.int .i64) 3 w' w.heap.size (fun _ => True) v6 beg) ∧ Aside0 (Kd.C (Kd.int .u8) w AL last.length last ∧ last.length ≤ cL) ∧ Aside0 (Below w.heap.size w w'))
  case atStart => exact ⟨0, [], [], [], none, 0, rfl, rfl, ⟨by omega, Nat.zero_le _, Nat.le_refl _⟩, ⟨h1.out⟩, ⟨Kd.R_nil _ _ _ _ _⟩, ⟨Kd.R_nil _ _ _ _ _⟩, ⟨Kd.C_nil _ _, Nat.le_refl _⟩, ⟨hb1⟩⟩
  case round =>
  clear h1 hb1
  obtain ⟨i, b, last, beg, AL, cL, rfl, rfl, hi, hg, hb, hbeg, hlast, hB⟩ := hrel
  by_cases hn : i < l0.length
  · have d1 : decide ((i : Int) < (l0.length : Int)) = true := decide_eq_true (by omega)
    have d2 : decide (i < l0.length) = true := decide_eq_true hn
    have d3 : (i < l0.length) = True := eq_true hn
    have d4 : ((i : Int) < (l0.length : Int)) = True := eq_true (by omega)
    have d5 : (0 ≤ (i : Int)) = True := eq_true (by omega)
    have hg1 := hg.out
    rw [drop_rd hn] at hg1
    obtain ⟨ad, X0, y0, X1, y1, ead, hx0, hx1, hx2, hl0, hC0, hl1, hC1⟩ := at_T34 hr0 (i : Int) (Int.natCast_nonneg i) (by omega)
    rw [Int.toNat_natCast] at hx0 hx1 hx2
    generalize rd_T34 l0 (i : Int) = x at hg1 hx0 hx1 hx2 hl0 hC0 hl1 hC1
    cases ead
    replace hx0 := cellB hB.out hx0
    replace hx1 := cellB hB.out hx1
    replace hx2 := cellB hB.out hx2
    have hrem : Int.tmod (i : Int) 4 = ((i % 4 : Nat) : Int) := by rw [Int.tmod_eq_emod_of_nonneg (by omega)]; omega
    have hnx : Aside0 (wrap64 ((i : Int) + 1) = ((i + 1 : Nat) : Int)) := ⟨by have := hlen.out; unfold wrap64; omega⟩
    have hnx2 : Aside0 ((((i : Int) + 1) : Int) = ((i + 1 : Nat) : Int)) := ⟨by omega⟩
    have hin : Aside0 (i < l0.length) := ⟨hn⟩
    clear hn hg
    replace hg1 := Aside0.mk hg1
    replace hC0 := Aside0.mk hC0
    replace hC1 := Aside0.mk hC1
    go_upto_if 33 with (fail)
    have hb8 := blk_new wr (Obj.cells #[Value.slice X0 x.f0.length y0, Value.slice X1 x.f1.length y1, Value.bool x.f2] 34)
    have hB1 : Below w.heap.size w (wr.alloc (Obj.cells #[Value.slice X0 x.f0.length y0, Value.slice X1 x.f1.length y1, Value.bool x.f2] 34)) := below_alloc hB.out _
    have hbq := Kd.R_alloc hb.out (Obj.cells #[Value.slice X0 x.f0.length y0, Value.slice X1 x.f1.length y1, Value.bool x.f2] 34)
    have hbegq := Kd.R_alloc hbeg.out (Obj.cells #[Value.slice X0 x.f0.length y0, Value.slice X1 x.f1.length y1, Value.bool x.f2] 34)
    generalize wr.heap.size = g8 at hb8 ⊢
    generalize (wr.alloc (Obj.cells #[Value.slice X0 x.f0.length y0, Value.slice X1 x.f1.length y1, Value.bool x.f2] 34)) = w1 at hb8 hB1 hbq hbegq ⊢
    clear hb hbeg hB hx0 hx1 hx2 d1 d2 d3 d4 d5
    obtain ⟨Ab, cb, rfl⟩ := Kd.R_slice hbq
    obtain ⟨Ag, cg, rfl⟩ := Kd.R_slice hbegq
    have hge := hg1.out
    unfold bldGo at hge
    have hgl : beg.length ≤ 255 := by have := hi.out; have := hlen.out; omega
    by_cases h4 : i % 4 = 0
    · rw [if_pos h4] at hge
      obtain ⟨b', hput, hgo⟩ := Option.bind_eq_some_iff.1 hge
      have e4 : (Int.tmod (i : Int) 4 == 0) = true := by rw [hrem, h4]; rfl
      have e5 : ((i : Int) % 4 == 0) = true := by rw [beq_iff_eq]; omega
      (first | rw [e4] | rw [e5] | skip)
      clear hge hg1
      replace hput := Aside0.mk hput
      replace hgo := Aside0.mk hgo
      replace hbq := Aside0.mk hbq
      replace hbegq := Aside0.mk hbegq
      replace hB1 := Aside0.mk hB1
      replace hb8 := Aside0.mk hb8
      replace hgl := Aside0.mk hgl
      go_upto_region 10 with ((with_reducible refine gate_builtin (b := .append) (xs := #[.tmp 34, .tmp 37]) rfl ?_); at_builtin; refine Kd.R_append (Kd.int .i64) (w0 := w) w.heap.size rfl (.tmp 34) (.tmp 37) 53 3 (.int .i64 0) 8 rfl Try.underlying53 info3 rfl (by decide) (by omega) (.slice Ag beg.length cg) beg (b.length : Int) [.int .i64 (b.length : Int)] (fun _ => True) (fun _ => False) rfl rfl ?aP (fun _ hk => hk.elim) ?aF ?aO ?aB ?aS ?aL ?_; (case aP => exact rfl); (case aB => exact hB1.out); (case aF => exact (fun _ _ => trivial)); (case aO => exact hbegq.out); (case aS => exact (below_size hB1.out)); (case aL => have := hgl.out; omega); intro v9 w9 ho hb9 hg hat)
      have hbeg2 := ho
      have hB2 := hb9
      have hb2 := flat_grown hbq.out hg (flat_other hbq.out hbegq.out (by decide))
      have hb8' := blk_grown hb8.out hg (Kd.R_ne hbegq.out hb8.out (by decide))
      clear ho hb9 hg hat e4 e5 hlast
      replace hput := hput.out
      replace hgo := hgo.out
      obtain ⟨begN, hbN⟩ : ∃ l, l = beg ++ [(b.length : Int)] := ⟨_, rfl⟩
      have hbl : Aside0 (begN.length ≤ beg.length + 1) := ⟨by rw [hbN, List.length_append]; exact Nat.le_refl _⟩
      rw [← hbN] at hbeg2 hgo
      clear hbN
      clear hb8 hbq hbegq hB1
      replace hput := Aside0.mk hput
      replace hgo := Aside0.mk hgo
      have z0 := (blk_cell hb8' 0).trans rfl
      have z1 := (blk_cell hb8' 1).trans rfl
      have z2 := (blk_cell hb8' 2).trans rfl
      replace hb8' := Aside0.mk hb8'
      replace hb2 := Aside0.mk hb2
      replace hbeg2 := Aside0.mk hbeg2
      replace hB2 := Aside0.mk hB2
      go_wp2_with (go_at_call 31; (with_reducible refine (block_put_nil k (fun k_ => some k_ = (.slice Ab b.length cb : Value).ownBlock) (.slice Ab b.length cb) b X0 y0 x.f0 X1 y1 x.f1 x.f2 b' w _ hB2.out (Kd.R_tight rfl hb2.out) (Kd.C_kept_came (Kd.heap_int .u8) hC0.out hB2.out (fun k_ hk_ => Kd.R_base hb2.out k_ hk_.symm)) hl0 (Kd.C_kept_came (Kd.heap_int .u8) hC1.out hB2.out (fun k_ hk_ => Kd.R_base hb2.out k_ hk_.symm)) hl1 hput.out).mono ?_); rintro e w3 ⟨v4', rfl, ho3, hB3, hkp⟩; have hb3 := Aside0.mk (Kd.R_mono (ok' := fun _ => True) ho3 (fun _ _ => trivial)); have hbeg3 := Aside0.mk (flat_kept hbeg2.out hkp (fun g hg he => flat_other hbeg2.out hb2.out (by decide) g hg he)); have hb83 := blk_kept hb8'.out hkp (fun he => Kd.R_ne hb2.out hb8'.out (by decide) he); have z0' := (blk_cell hb83 0).trans rfl; replace hB3 := Aside0.mk hB3; clear ho3 hkp hb83)
      go_roundg (255 - i)
      case measure => exact hi.out.1
      case rel => exact ⟨i + 1, b', x.f0, begN, X0, y0, (by first | rfl | exact congrArg (Value.int .i64) hnx.out | exact congrArg (Value.int .i64) hnx2.out), rfl, ⟨by have := hi.out.1; have := hlen.out; have := hin.out; omega, by have := hin.out; omega, by have := hi.out.2.2; have := hbl.out; omega⟩, hgo, hb3, hbeg3, ⟨hC0.out, hl0⟩, hB3⟩
    · rw [if_neg h4] at hge
      obtain ⟨b', hput, hgo⟩ := Option.bind_eq_some_iff.1 hge
      have e4 : (Int.tmod (i : Int) 4 == 0) = false := by rw [hrem, beq_eq_false_iff_ne]; omega
      have e5 : ((i : Int) % 4 == 0) = false := by rw [beq_eq_false_iff_ne]; omega
      (first | rw [e4] | rw [e5] | skip)
      clear hge hg1 e4 e5
      obtain ⟨lastN, hlN⟩ : ∃ l : List Int, l = last := ⟨_, rfl⟩
      obtain ⟨begN, hbN⟩ : ∃ l : List Int, l = beg := ⟨_, rfl⟩
      obtain ⟨ALn, hAN⟩ : ∃ a : Option Addr, a = AL := ⟨_, rfl⟩
      obtain ⟨cLn, hcN⟩ : ∃ c : Nat, c = cL := ⟨_, rfl⟩
      have hlastN := hlast.out
      rw [← hlN, ← hAN, ← hcN] at hlastN
      rw [← hlN] at hput
      rw [← hlN, ← hAN, ← hcN]
      have hbl : Aside0 (begN.length ≤ beg.length + 1) := ⟨by rw [hbN]; omega⟩
      have hbeg2 := hbegq
      subst hbN
      have hb2 := hbq
      have hB2 := hB1
      have hb8' := hb8
      obtain ⟨cg2, hcg⟩ : ∃ c : Nat, c = cg := ⟨_, rfl⟩
      clear hlast hlN hAN hcN hcg
      clear hb8 hbq hbegq hB1
      replace hput := Aside0.mk hput
      replace hgo := Aside0.mk hgo
      have z0 := (blk_cell hb8' 0).trans rfl
      have z1 := (blk_cell hb8' 1).trans rfl
      have z2 := (blk_cell hb8' 2).trans rfl
      replace hb8' := Aside0.mk hb8'
      replace hb2 := Aside0.mk hb2
      replace hbeg2 := Aside0.mk hbeg2
      replace hB2 := Aside0.mk hB2
      replace hlastN := Aside0.mk hlastN
      go_wp2_with (go_at_call 31; (with_reducible refine (block_put.calls k (fun k_ => some k_ = (.slice Ab b.length cb : Value).ownBlock) (.slice Ab b.length cb) b ALn cLn lastN X0 y0 x.f0 X1 y1 x.f1 x.f2 b' w _ hB2.out (Kd.R_tight rfl hb2.out) (Kd.C_kept_came (Kd.heap_int .u8) hlastN.out.1 hB2.out (fun k_ hk_ => Kd.R_base hb2.out k_ hk_.symm)) hlastN.out.2 (Kd.C_kept_came (Kd.heap_int .u8) hC0.out hB2.out (fun k_ hk_ => Kd.R_base hb2.out k_ hk_.symm)) hl0 (Kd.C_kept_came (Kd.heap_int .u8) hC1.out hB2.out (fun k_ hk_ => Kd.R_base hb2.out k_ hk_.symm)) hl1 hput.out).mono ?_); rintro e w3 ⟨v4', rfl, ho3, hB3, hkp⟩; have hb3 := Aside0.mk (Kd.R_mono (ok' := fun _ => True) ho3 (fun _ _ => trivial)); have hbeg3 := Aside0.mk (flat_kept hbeg2.out hkp (fun g hg he => flat_other hbeg2.out hb2.out (by decide) g hg he)); have hb83 := blk_kept hb8'.out hkp (fun he => Kd.R_ne hb2.out hb8'.out (by decide) he); have z0' := (blk_cell hb83 0).trans rfl; replace hB3 := Aside0.mk hB3; clear ho3 hkp hb83)
      go_roundg (255 - i)
      case measure => exact hi.out.1
      case rel => exact ⟨i + 1, b', x.f0, begN, X0, y0, (by first | rfl | exact congrArg (Value.int .i64) hnx.out | exact congrArg (Value.int .i64) hnx2.out), rfl, ⟨by have := hi.out.1; have := hlen.out; have := hin.out; omega, by have := hin.out; omega, by have := hi.out.2.2; have := hbl.out; omega⟩, hgo, hb3, hbeg3, ⟨hC0.out, hl0⟩, hB3⟩
  · obtain rfl : i = l0.length := by have := hi.out; omega
    have d1 : decide ((l0.length : Int) < (l0.length : Int)) = false := decide_eq_false (Int.lt_irrefl _)
    have d2 : decide (l0.length < l0.length) = false := decide_eq_false (Nat.lt_irrefl _)
    have hge := hg.out
    rw [List.drop_length] at hge
    unfold bldGo at hge
    obtain ⟨rfl, rfl⟩ := Prod.mk.inj (Option.some.inj hge)
    have hpl : Aside0 (beg.length ≤ 255) := ⟨by have := hi.out; have := hlen.out; omega⟩
    obtain ⟨Ag, cg, rfl⟩ := Kd.R_slice hbeg.out
    clear hge hg hlast hi hn hlen
    go_upto_region 20 with (fail)
    clear d1 d2
    have cellg : Aside0 (∀ w', Below wr.heap.size wr w' → Kd.C (Kd.int .i64) w' Ag beg.length beg) := ⟨fun w' hb_ => Kd.C_below (Kd.R_reads' hbeg.out).2.2 hb_⟩
    have hB3 := hB
    have hb3 := hb
    clear hB hb hbeg
    generalize wr = w3 at cellg hB3 hb3 ⊢
    go_loopg [4, 48] 257 (fun kq v4 v48 w' => ∃ (j : Nat) (b : List Int), v48 = .int .i64 (j : Int) ∧ Aside0 (256 - j < kq ∧ j ≤ beg.length) ∧ Aside0 (bldLay k (beg.drop j) b = some q) ∧ Aside0 (Kd.R (Kd.int .u8) 5 w' w.heap.size (fun _ => True) v4 b) ∧ Aside0 (Below w3.heap.size w3 w'))
    case atStart => exact ⟨0, b, rfl, ⟨by omega⟩, ⟨h2.out⟩, ⟨hb3.out⟩, ⟨Below.refl _ _⟩⟩
    case round =>
    clear h2 hb3
    obtain ⟨j, b', rfl, hj, hg, hb, hB⟩ := hrel
    obtain ⟨Ab, cb, rfl⟩ := Kd.R_slice hb.out
    by_cases hn : j < beg.length
    · have d1 : decide ((j : Int) < (beg.length : Int)) = true := decide_eq_true (by omega)
      have d2 : decide (j < beg.length) = true := decide_eq_true hn
      have d3 : (j < beg.length) = True := eq_true hn
      have d4 : ((j : Int) < (beg.length : Int)) = True := eq_true (by omega)
      have d5 : (0 ≤ (j : Int)) = True := eq_true (by omega)
      have hge := hg.out
      rw [drop_rdI hn] at hge
      unfold bldLay at hge
      obtain ⟨ad, ead, hx⟩ := Kd.at_int (cellg.out wr hB.out) (j : Int) (Int.natCast_nonneg j) (by omega)
      rw [Int.toNat_natCast] at hx
      generalize rd beg (j : Int) = a at hge hx
      cases ead
      have hnx : Aside0 (wrap64 ((j : Int) + 1) = ((j + 1 : Nat) : Int)) := ⟨by have := hpl.out; unfold wrap64; omega⟩
      have hnx2 : Aside0 ((((j : Int) + 1) : Int) = ((j + 1 : Nat) : Int)) := ⟨by omega⟩
      have hin : Aside0 (j < beg.length) := ⟨hn⟩
      clear hn hg
      by_cases ha : a > 65535
      · rw [if_pos ha] at hge
        obtain rfl := Option.some.inj hge
        have e1 : decide (65535 < a) = true := decide_eq_true ha
        have h' := h.out
        unfold bldEnd at h'
        obtain ⟨rfl, rfl⟩ := Prod.mk.inj (Option.some.inj h')
        clear hge ha h' h
        go_wp2
        go_ret2
        exact ⟨_, rfl, Kd.R_nil _ _ _ _ _, below_step hB3.out hB.out⟩
      · rw [if_neg ha] at hge
        obtain ⟨b2, hput, hgo⟩ := Option.bind_eq_some_iff.1 hge
        have e1 : decide (65535 < a) = false := decide_eq_false (by omega)
        replace hput := Aside0.mk hput
        replace hgo := Aside0.mk hgo
        clear hge ha
        go_wp2_with (go_at_call 32; (with_reducible refine (octet_Put.calls k Ab cb b' (IntKind.u64.wrap a) 2 b2 _ (Kd.R_reads' hb.out).2.2 (Kd.R_reads' hb.out).2.1 hput.out).mono ?_); rintro e w4 ⟨v5, rfl, ho, hb4⟩; have hR4 := Aside0.mk (Kd.R_lower ho (below_size (below_step hB3.out hB.out))); have hE := Aside0.mk (below_step hB.out hb4); clear ho hb4)
        go_roundg (256 - j)
        case measure => exact hj.out.1
        case rel => exact ⟨j + 1, b2, (by first | rfl | exact congrArg (Value.int .i64) hnx.out | exact congrArg (Value.int .i64) hnx2.out), ⟨by have := hj.out; have := hin.out; have := hpl.out; omega⟩, hgo, hR4, hE⟩
    · obtain rfl : j = beg.length := by have := hj.out; omega
      have d1 : decide ((beg.length : Int) < (beg.length : Int)) = false := decide_eq_false (Int.lt_irrefl _)
      have d2 : decide (beg.length < beg.length) = false := decide_eq_false (Nat.lt_irrefl _)
      have hge := hg.out
      rw [List.drop_length] at hge
      unfold bldLay at hge
      obtain rfl := Option.some.inj hge
      have h' := h.out
      unfold bldEnd at h'
      by_cases hl : b'.length < 140737488355328
      rotate_left
      · simp only [if_neg hl] at h'; cases h'
      simp only [if_pos hl] at h'
      obtain ⟨rfl, rfl⟩ := Prod.mk.inj (Option.some.inj h')
      clear hge h' h hn hg hj
      replace hl := Aside0.mk hl
      have hBB := Aside0.mk (below_step hB3.out hB.out)
      clear hB
      go_upto_region 20 with (fail)
      clear d1 d2
      go_wp2_with ((with_reducible refine gate_builtin (b := .append) (xs := #[.tmp 59, .tmp 63]) rfl ?_); at_builtin; refine Kd.R_append (Kd.int .u8) (w0 := w) w.heap.size rfl (.tmp 59) (.tmp 63) 26 5 (.int .u8 0) 1 rfl Try.underlying26 info5 rfl (by decide) (by omega) (.slice Ab b'.length cb) b' ((beg.length : Int) % 256) [.int .u8 ((beg.length : Int) % 256)] (fun _ => True) (fun _ => False) rfl rfl ?aP (fun _ hk => hk.elim) ?aF ?aO ?aB ?aS ?aL ?_; (case aP => exact rfl); (case aB => exact hBB.out); (case aF => exact (fun _ _ => trivial)); (case aO => exact hb.out); (case aS => exact (below_size hBB.out)); (case aL => have := hl.out; omega); intro v9 w9 ho hb9 hg hat)
      go_ret2
      exact ⟨_, rfl, ho, hb9⟩

-- NOT PRINTED: function 52 (block_read_1)

/-! ### octet_Get: function 59 -/
def getI : Int → List Int → Int
  | a, [] => a
  | a, c :: cs => getI (Go.bits .or .u64 (IntKind.u64.wrap (a * 256)) (IntKind.u64.wrap c)) cs
theorem getI_snoc (a : Int) (l : List Int) (c : Int) : getI a (l ++ [c]) = Go.bits .or .u64 (IntKind.u64.wrap (getI a l * 256)) (IntKind.u64.wrap c) := by
  induction l generalizing a with
  | nil => rfl
  | cons x xs ih => exact ih _
theorem intOf_int (k : IntKind) (q : Int) : intOf (Value.int k q) = q := rfl
theorem getI_less (n j : Nat) (h : wrap64 ((j : Int) + 1) = ((j + 1 : Nat) : Int)) (hlt : j < n) :
    n - (intOf (Value.int IntKind.i64 (wrap64 ((j : Int) + 1)))).toNat < n - (intOf (Value.int IntKind.i64 (j : Int))).toNat := by
  rw [intOf_int, intOf_int, h, Int.toNat_natCast, Int.toNat_natCast]
  exact Nat.sub_lt_sub_left hlt (Nat.lt_succ_self j)
def octet_Get.f (l0 : List Int) (a1 : Int) : Option (Int × Bool) := if a1 < 0 then (some (0, false)) else (if a1 > 8 then (some (0, false)) else (if a1 > (l0.length : Int) then (some (0, false)) else (some (getI 0 (l0.take a1.toNat), true))))
set_option maxHeartbeats 8000000 in
set_option maxRecDepth 100000 in
theorem octet_Get.small (A0 : Option Addr) (c0 : Nat) (l0 : List Int) (a1 : Int) (w : World) (c1b : decide (a1 < 0) = true) :
    Calls Try.prog 59 #[.slice A0 l0.length c0, .int .i64 a1] w fun e w' => e = .returned (.tuple #[.int .u64 0, .bool false]) ∧ Drawn0 w w' := by
  go_enter Try.func59, Try.ntmps59
  go_wp2
  repeat (go_quiet (fail); try go_wp2)
  go_ret2
  exact ⟨rfl, by repeat (first | exact Drawn0.refl _ | apply Drawn0.step)⟩
set_option maxHeartbeats 8000000 in
set_option maxRecDepth 100000 in
theorem octet_Get.great (A0 : Option Addr) (c0 : Nat) (l0 : List Int) (a1 : Int) (w : World) (c1b : decide (a1 < 0) = false) (c2b : decide (8 < a1) = true) :
    Calls Try.prog 59 #[.slice A0 l0.length c0, .int .i64 a1] w fun e w' => e = .returned (.tuple #[.int .u64 0, .bool false]) ∧ Drawn0 w w' := by
  go_enter Try.func59, Try.ntmps59
  go_wp2
  repeat (go_quiet (fail); try go_wp2)
  go_ret2
  exact ⟨rfl, by repeat (first | exact Drawn0.refl _ | apply Drawn0.step)⟩
set_option maxHeartbeats 8000000 in
set_option maxRecDepth 100000 in
theorem octet_Get.short (A0 : Option Addr) (c0 : Nat) (l0 : List Int) (a1 : Int) (w : World) (c1b : decide (a1 < 0) = false) (c2b : decide (8 < a1) = false) (c3b : decide ((l0.length : Int) < a1) = true) :
    Calls Try.prog 59 #[.slice A0 l0.length c0, .int .i64 a1] w fun e w' => e = .returned (.tuple #[.int .u64 0, .bool false]) ∧ Drawn0 w w' := by
  go_enter Try.func59, Try.ntmps59
  go_wp2
  repeat (go_quiet (fail); try go_wp2)
  go_ret2
  exact ⟨rfl, by repeat (first | exact Drawn0.refl _ | apply Drawn0.step)⟩
set_option maxHeartbeats 8000000 in
set_option maxRecDepth 100000 in
theorem octet_Get.there (A0 : Option Addr) (c0 : Nat) (l0 : List Int) (n : Nat) (w : World) (HR0 : Aside0 (Kd.C (Kd.int .u8) w A0 l0.length l0)) (HC0 : Aside0 (l0.length ≤ c0)) (HN : Aside0 (n ≤ l0.length)) (hnc : Aside0 (n ≤ 8)) :
    Calls Try.prog 59 #[.slice A0 l0.length c0, .int .i64 (n : Int)] w fun e w' => e = .returned (.tuple #[.int .u64 (getI 0 (l0.take n)), .bool true]) ∧ Drawn0 w w' := by
  have hnl := HN.out
  have hn8 := hnc.out
  have c1b : decide ((n : Int) < 0) = false := decide_eq_false (by omega)
  have c2b : decide (8 < (n : Int)) = false := decide_eq_false (by omega)
  have c3b : decide ((l0.length : Int) < (n : Int)) = false := decide_eq_false (by omega)
  have c4b : decide (l0.length < n) = false := decide_eq_false (by omega)
  have c5b : decide (8 < n) = false := decide_eq_false (by omega)
  obtain ⟨i0, hi0, _, hsz, _⟩ := info_parts info5
  have hcut := cut_to (P := Try.prog) 26 5 .i64 Try.underlying26 hi0 A0 l0.length c0 (n : Int) (by omega) (by omega) HC0.out
  rw [Int.toNat_natCast] at hcut
  clear hi0 hsz hnl hn8
  go_enter Try.func59, Try.ntmps59
  go_wp2
  repeat (go_quiet (fail); try go_wp2)
  go_loop [6, 25] (fun v6 v25 => ∃ j : Nat, j ≤ n ∧ v6 = .int .u64 (getI 0 (l0.take j)) ∧ v25 = .int .i64 (j : Int)) (fun _ v25 => n - (intOf v25).toNat)
  case atStart => exact ⟨0, Nat.zero_le _, by simp [getI], rfl⟩
  case round =>
    obtain ⟨j, hj, rfl, rfl⟩ := hrel
    by_cases hlt : j < n
    · have hln := HN.out
      have hn8 := hnc.out
      have d1 : decide (j < n) = true := decide_eq_true hlt
      have d2 : decide ((j : Int) < (n : Int)) = true := decide_eq_true (by omega)
      obtain ⟨ad, he, hx⟩ := Kd.at_int HR0.out (j : Int) (by omega) (by omega)
      have hsn := getI_snoc 0 (l0.take j) (rd l0 (j : Int))
      have hts : l0.take (j + 1) = l0.take j ++ [rd l0 (j : Int)] := by
        rw [List.take_succ_eq_append_getElem (by omega)]
        simp [rd, List.getD_eq_getElem?_getD, List.getElem?_eq_getElem (show j < l0.length by omega)]
      rw [← hts] at hsn
      have HS := Aside0.mk hsn
      cases he
      have p1 : (0 ≤ (j : Int)) = True := eq_true (by omega)
      have p2 : ((j : Int) < (n : Int)) = True := eq_true (by omega)
      have p3 : (j < n) = True := eq_true hlt
      rw [Int.toNat_natCast] at hx
      have HW := Aside0.mk (show wrap64 ((j : Int) + 1) = ((j + 1 : Nat) : Int) from by unfold wrap64; omega)
      clear hsn hts hln hj hn8 hlt
      go_wp2
      repeat (go_quiet (fail); try go_wp2)
      go_round
      case rel => exact ⟨j + 1, by have := of_eq_true p3; omega, congrArg (Value.int .u64) HS.out.symm, congrArg (Value.int .i64) HW.out⟩
      case measure => exact getI_less n j HW.out (of_eq_true p3)
    · have d1 : decide (j < n) = false := decide_eq_false hlt
      have d2 : decide ((j : Int) < (n : Int)) = false := decide_eq_false (by omega)
      have hjn : j = n := by omega
      subst hjn
      clear hlt hj
      go_wp2
      repeat (go_quiet (fail); try go_wp2)
      go_ret2
      exact ⟨rfl, by repeat (first | exact Drawn0.refl _ | apply Drawn0.step)⟩
theorem octet_Get.calls (A0 : Option Addr) (c0 : Nat) (l0 : List Int) (a1 : Int) (r1 : Int) (r2 : Bool) (w : World) (hr0 : Kd.C (Kd.int .u8) w A0 l0.length l0) (hc0 : l0.length ≤ c0) (h : octet_Get.f l0 a1 = some (r1, r2)) :
    Calls Try.prog 59 #[.slice A0 l0.length c0, .int .i64 a1] w fun e w' => e = .returned (.tuple #[.int .u64 r1, .bool r2]) ∧ Drawn0 w w' := by
  unfold octet_Get.f at h
  by_cases c1 : a1 < 0
  · rw [if_pos c1] at h
    cases h
    exact octet_Get.small A0 c0 l0 a1 w (decide_eq_true c1)
  rw [if_neg c1] at h
  by_cases c2 : a1 > 8
  · rw [if_pos c2] at h
    cases h
    exact octet_Get.great A0 c0 l0 a1 w (decide_eq_false c1) (decide_eq_true c2)
  rw [if_neg c2] at h
  by_cases c3 : a1 > (l0.length : Int)
  · rw [if_pos c3] at h
    cases h
    exact octet_Get.short A0 c0 l0 a1 w (decide_eq_false c1) (decide_eq_false c2) (decide_eq_true c3)
  rw [if_neg c3] at h
  obtain ⟨n, rfl⟩ := Int.eq_ofNat_of_zero_le (show 0 ≤ a1 by omega)
  rw [Int.toNat_natCast] at h
  cases h
  exact octet_Get.there A0 c0 l0 n w ⟨hr0⟩ ⟨hc0⟩ ⟨by omega⟩ ⟨by omega⟩

-- NOT PRINTED: function 69 (block_reader_take)

-- NOT PRINTED: function 57 (block_reader_number)

-- NOT PRINTED: function 67 (block_reader_entry)

-- NOT PRINTED: function 53 (block_reader_entries)

end Go.Proofs.Ytpcomhliikmjkaa.PBlockTells

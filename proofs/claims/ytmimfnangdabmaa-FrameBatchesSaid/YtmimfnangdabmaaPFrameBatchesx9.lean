/- The walk of the Go functions that a law reaches, told as plain functions; a program of this session has written it. No condition beyond the statement's own. -/
import Derived.Test.YtmimfnangdabmaaPFrameBatchesx0
import Derived.Test.YtmimfnangdabmaaPFrameBatchesx1
import Derived.Test.YtmimfnangdabmaaPFrameBatchesx2
import Derived.Test.YtmimfnangdabmaaPFrameBatchesx3
import Derived.Test.YtmimfnangdabmaaPFrameBatchesx4
import Derived.Test.YtmimfnangdabmaaPFrameBatchesx5
import Derived.Test.YtmimfnangdabmaaPFrameBatchesx8
namespace Go.Proofs.Ytmimfnangdabmaa.PFrameBatches
open Go.RowKit Go.Proofs.YtmimfnangdabmaaW.PrintWords Go.Proofs.YtmimfnangdabmaaW.PrintLast Go.Proofs.YtmimfnangdabmaaW.PrintMore
attribute [local go_sem] max2_int min2_int max_two min_two max_three min_three max_four min_four   -- for this text's walks alone
set_option linter.unusedVariables false
set_option linter.unusedSimpArgs false

theorem V_atq {α : Type} {d : Kd α} {e base m : Nat} {ok : Nat → Prop} {w w' : World} {v : Value} {xs : List α} (hq : w.drewN m = w') (h : Kd.V d e w base ok v xs) : Kd.V d e w' base ok v xs := by
  subst hq
  exact Kd.V_drewN h m
/-! ### marigraphlaw4_FrameBatches: function 8 -/
mutual
def marigraphlaw4_FrameBatches.j1 : Nat → List Int → List (S49) → List Int → List (S49) → Option (Bool)
 | 0, _, _, _, _ => none
 | k + 1, x1, x9, x10, x11 => (marigraphlaw4_batch.f k x9).bind fun t285 => (if t285 = true then ((marigraphlaw4_batch.f k x11).bind fun t286 => (if t286 = true then ((marigraphlaw4_entries.f k x10).bind fun t287 => (if t287 = true then ((marigraphlaw4_entries.f k (cutI x1 100)).bind fun t289 => (if t289 = true then ((marigraphlaw4_known.f k).bind fun t290 => (some t290)) else (some false))) else (some false))) else (some false))) else (some false))
def marigraphlaw4_FrameBatches.l0 : Nat → List (S49) → List Int → List (S49) → List Int → List (S49) → Int → Option (Bool)
 | 0, _, _, _, _, _, _ => none
 | k + 1, x0, x1, x9, x10, x11, x12 => if x12 < (x0.length : Int) then (if x12 < 5 then (if 0 ≤ x12 then (if x11.length < 2513169434916 then (marigraphlaw4_FrameBatches.l0 k x0 x1 x9 x10 (x11 ++ [(⟨(rd_T49 x0 x12).f0, (rd_T49 x0 x12).f1, (rd_T49 x0 x12).f2⟩ : S49)]) (wrap64 (x12 + 1))) else (none)) else (none)) else (marigraphlaw4_FrameBatches.j1 k x1 x9 x10 x11)) else (marigraphlaw4_FrameBatches.j1 k x1 x9 x10 x11)
end
def marigraphlaw4_FrameBatches.f (k : Nat) (l0 : List (S49)) (l1 : List Int) (a2 : Int) (a3 : Int) : Option (Bool) := (marigraphkeep_Entries.f k l0 12 60 80).bind fun t272 => ((marigraphref4_Batch.f k t272).bind fun t275 => ((marigraphbook_Within.f k a2 0 (wrap64 ((t275.length : Int) - 1))).bind fun t278 => (if 0 ≤ t278 then (if t278 < (t275.length : Int) then (marigraphlaw4_FrameBatches.l0 k l0 l1 t272 (t275.set (t278 : Int).toNat (Go.bits .xor .u8 (rd t275 t278) a3)) ([] : List (S49)) 0) else (none)) else (none))))
theorem marigraphlaw4_FrameBatches.mono_l : ∀ k, (∀ y0 y1 y2 y3, LeO (marigraphlaw4_FrameBatches.j1 k y0 y1 y2 y3) (marigraphlaw4_FrameBatches.j1 (k + 1) y0 y1 y2 y3)) ∧ (∀ y0 y1 y2 y3 y4 y5, LeO (marigraphlaw4_FrameBatches.l0 k y0 y1 y2 y3 y4 y5) (marigraphlaw4_FrameBatches.l0 (k + 1) y0 y1 y2 y3 y4 y5))
 | 0 => ⟨fun _ _ _ _ r h => by simp [marigraphlaw4_FrameBatches.j1] at h, fun _ _ _ _ _ _ r h => by simp [marigraphlaw4_FrameBatches.l0] at h⟩
 | k + 1 => by
  obtain ⟨ih0, ih1⟩ := marigraphlaw4_FrameBatches.mono_l k
  refine ⟨?_, ?_⟩
  ·intro y0 y1 y2 y3
   unfold marigraphlaw4_FrameBatches.j1
   repeat' first
   | (with_reducible exact ih0 _ _ _ _)
   | (with_reducible exact ih1 _ _ _ _ _ _)
   | (with_reducible exact marigraphbook_Within.mono _ _ _ _)
   | (with_reducible exact marigraphkeep_Entries.mono _ _ _ _ _)
   | (with_reducible exact marigraphlaw4_batch.mono _ _)
   | (with_reducible exact marigraphlaw4_entries.mono _ _)
   | (with_reducible exact marigraphlaw4_known.mono _)
   | (with_reducible exact marigraphref4_Batch.mono _ _)
   | (with_reducible exact LeO.refl _)
   | (with_reducible exact LeO.none _)
   | (with_reducible refine LeO.ite ?_ ?_)
   | (with_reducible refine LeO.bind ?_ (fun _ => ?_))
   | exact ih0 _ _ _ _
   | exact ih1 _ _ _ _ _ _
   | exact marigraphbook_Within.mono _ _ _ _
   | exact marigraphkeep_Entries.mono _ _ _ _ _
   | exact marigraphlaw4_batch.mono _ _
   | exact marigraphlaw4_entries.mono _ _
   | exact marigraphlaw4_known.mono _
   | exact marigraphref4_Batch.mono _ _
   | exact LeO.none _
   | refine LeO.ite ?_ ?_
   | refine LeO.bind ?_ (fun _ => ?_)
  ·intro y0 y1 y2 y3 y4 y5
   unfold marigraphlaw4_FrameBatches.l0
   repeat' first
   | (with_reducible exact ih0 _ _ _ _)
   | (with_reducible exact ih1 _ _ _ _ _ _)
   | (with_reducible exact marigraphbook_Within.mono _ _ _ _)
   | (with_reducible exact marigraphkeep_Entries.mono _ _ _ _ _)
   | (with_reducible exact marigraphlaw4_batch.mono _ _)
   | (with_reducible exact marigraphlaw4_entries.mono _ _)
   | (with_reducible exact marigraphlaw4_known.mono _)
   | (with_reducible exact marigraphref4_Batch.mono _ _)
   | (with_reducible exact LeO.refl _)
   | (with_reducible exact LeO.none _)
   | (with_reducible refine LeO.ite ?_ ?_)
   | (with_reducible refine LeO.bind ?_ (fun _ => ?_))
   | exact ih0 _ _ _ _
   | exact ih1 _ _ _ _ _ _
   | exact marigraphbook_Within.mono _ _ _ _
   | exact marigraphkeep_Entries.mono _ _ _ _ _
   | exact marigraphlaw4_batch.mono _ _
   | exact marigraphlaw4_entries.mono _ _
   | exact marigraphlaw4_known.mono _
   | exact marigraphref4_Batch.mono _ _
   | exact LeO.none _
   | refine LeO.ite ?_ ?_
   | refine LeO.bind ?_ (fun _ => ?_)
theorem marigraphlaw4_FrameBatches.mono : ∀ a0 a1 a2 a3 k, LeO (marigraphlaw4_FrameBatches.f k a0 a1 a2 a3) (marigraphlaw4_FrameBatches.f (k + 1) a0 a1 a2 a3) := by
 intro a0 a1 a2 a3 k
 obtain ⟨ih0, ih1⟩ := marigraphlaw4_FrameBatches.mono_l k
 unfold marigraphlaw4_FrameBatches.f
 repeat' first
   | (with_reducible exact ih0 _ _ _ _)
   | (with_reducible exact ih1 _ _ _ _ _ _)
   | (with_reducible exact marigraphbook_Within.mono _ _ _ _)
   | (with_reducible exact marigraphkeep_Entries.mono _ _ _ _ _)
   | (with_reducible exact marigraphlaw4_batch.mono _ _)
   | (with_reducible exact marigraphlaw4_entries.mono _ _)
   | (with_reducible exact marigraphlaw4_known.mono _)
   | (with_reducible exact marigraphref4_Batch.mono _ _)
   | (with_reducible exact LeO.refl _)
   | (with_reducible exact LeO.none _)
   | (with_reducible refine LeO.ite ?_ ?_)
   | (with_reducible refine LeO.bind ?_ (fun _ => ?_))
   | exact ih0 _ _ _ _
   | exact ih1 _ _ _ _ _ _
   | exact marigraphbook_Within.mono _ _ _ _
   | exact marigraphkeep_Entries.mono _ _ _ _ _
   | exact marigraphlaw4_batch.mono _ _
   | exact marigraphlaw4_entries.mono _ _
   | exact marigraphlaw4_known.mono _
   | exact marigraphref4_Batch.mono _ _
   | exact LeO.none _
   | refine LeO.ite ?_ ?_
   | refine LeO.bind ?_ (fun _ => ?_)
set_option maxHeartbeats 8000000 in
set_option maxRecDepth 100000 in
theorem marigraphlaw4_FrameBatches.calls (k : Nat) (P0_ : Nat → Prop) (A0 : Option Addr) (c0 : Nat) (l0 : List (S49)) (A1 : Option Addr) (c1 : Nat) (l1 : List Int) (a2 : Int) (a3 : Int) (r : Bool) (w : World) (hs0 : Kd.V k49 49 w w.heap.size (fun k_ => P0_ k_) (.slice A0 l0.length c0) l0) (hr1 : Kd.C (Kd.int .u8) w A1 l1.length l1) (hc1 : l1.length ≤ c1) (h : marigraphlaw4_FrameBatches.f k l0 l1 a2 a3 = some r) :
  Calls Try.prog 8 #[.slice A0 l0.length c0, .slice A1 l1.length c1, .int .i64 a2, .int .u8 a3] w fun e w' => e = .returned (.bool r) ∧ Below w.heap.size w w' := by
 have hu49 := Try.underlying49
 have HO0 := Aside0.mk (show Kd.V k49 49 w w.heap.size (fun k_ => (P0_ k_ ∨ w.heap.size ≤ k_)) (.slice A0 l0.length c0) l0 from Kd.V_mono hs0 (fun k_ hk => .inl hk))
 have HR1 := Aside0.mk hr1
 have HC1 := Aside0.mk hc1
 clear hr1 hc1
 have HB := Aside0.mk (Below.refl w.heap.size w)
 have H : ((marigraphkeep_Entries.f k l0 12 60 80).bind fun t272 => ((marigraphref4_Batch.f k t272).bind fun t275 => ((marigraphbook_Within.f k a2 0 (wrap64 ((t275.length : Int) - 1))).bind fun t278 => (if 0 ≤ t278 then (if t278 < (t275.length : Int) then (marigraphlaw4_FrameBatches.l0 k l0 l1 t272 (t275.set (t278 : Int).toNat (Go.bits .xor .u8 (rd t275 t278) a3)) ([] : List (S49)) 0) else (none)) else (none))))) = some r := h
 clear h
 replace H := Option.bind_eq_some_iff.mp H
 obtain ⟨t272, A50, H⟩ := H
 replace H : ((marigraphref4_Batch.f k t272).bind fun t275 => ((marigraphbook_Within.f k a2 0 (wrap64 ((t275.length : Int) - 1))).bind fun t278 => (if 0 ≤ t278 then (if t278 < (t275.length : Int) then (marigraphlaw4_FrameBatches.l0 k l0 l1 t272 (t275.set (t278 : Int).toNat (Go.bits .xor .u8 (rd t275 t278) a3)) ([] : List (S49)) 0) else (none)) else (none)))) = some r := H
 have A5 := Aside0.mk A50
 clear A50
 replace H := Option.bind_eq_some_iff.mp H
 obtain ⟨t275, A60, H⟩ := H
 replace H : ((marigraphbook_Within.f k a2 0 (wrap64 ((t275.length : Int) - 1))).bind fun t278 => (if 0 ≤ t278 then (if t278 < (t275.length : Int) then (marigraphlaw4_FrameBatches.l0 k l0 l1 t272 (t275.set (t278 : Int).toNat (Go.bits .xor .u8 (rd t275 t278) a3)) ([] : List (S49)) 0) else (none)) else (none))) = some r := H
 have A6 := Aside0.mk A60
 clear A60
 replace H := Option.bind_eq_some_iff.mp H
 obtain ⟨t278, A70, H⟩ := H
 replace H : (if 0 ≤ t278 then (if t278 < (t275.length : Int) then (marigraphlaw4_FrameBatches.l0 k l0 l1 t272 (t275.set (t278 : Int).toNat (Go.bits .xor .u8 (rd t275 t278) a3)) ([] : List (S49)) 0) else (none)) else (none)) = some r := H
 have A7 := Aside0.mk A70
 clear A70
 by_cases c8 : 0 ≤ t278
 ·rw [if_pos c8] at H
  have c8b0 : decide (0 ≤ t278) = true := decide_eq_true c8
  clear c8
  by_cases c9 : t278 < (t275.length : Int)
  ·rw [if_pos c9] at H
   have c9b0 : decide (t278 < (t275.length : Int)) = true := decide_eq_true c9
   clear c9
   obtain ⟨y280, hy280⟩ : ∃ y_ : List Int, y_ = (t275.set (t278 : Int).toNat (Go.bits .xor .u8 (rd t275 t278) a3)) := ⟨_, rfl⟩
   replace H : (marigraphlaw4_FrameBatches.l0 k l0 l1 t272 y280 ([] : List (S49)) 0) = some r := by first | (rw [hy280]; with_reducible exact H) | (have H2_ := (Option.bind_some _ _).symm.trans H; rw [hy280]; with_reducible exact H2_) | (have H2_ := (Option.bind_some _ _).symm.trans H; with_reducible exact H2_) | with_reducible exact H | (rw [hy280]; exact H) | exact H
   have Ny280 := Aside0.mk hy280
   clear hy280
   have HC11 := Aside0.mk H
   clear H
   go_enter Try.func8, Try.ntmps8
   go_upto_block 0 with (first | ((with_reducible refine gate_callee (f := 21) rfl ?_); refine goesL_ (some 14) rfl rfl Try.func21 (by kernel_rfl) rfl #[.slice A0 l0.length c0, .int .i64 12, .int .i64 60, .int .i64 80] rfl argN ?_; (with_reducible refine (marigraphkeep_Entries.calls k (fun k_ => (P0_ k_ ∨ w.heap.size ≤ k_)) _ _ l0 12 60 80 t272 _ ?side1 A5.out).mono ?_); (case side1 => exact HO0.out); rintro e w12 ⟨v273, rfl, ho0, hb⟩; refine ⟨_, rfl, ?_⟩; have n0_ := Aside0.mk (Kd.V_elder' (by (with_reducible repeat (first | apply Kd.V_alloc | apply Kd.V_drewN | apply Kd.V_drew)); exact HO0.out) (by first | exact Kd.N_base ho0 | exact Kd.S_base ho0) hb); have n1_ := Aside0.mk (Kd.N_lower (Kd.N_mono (ok' := fun k_ => (P0_ k_ ∨ w.heap.size ≤ k_)) ho0 (fun k_ hk_ => Or.elim hk_ (fun hs_ => hs_) (fun hn_ => (.inr (Nat.le_trans (below_size (belN HB.out)) hn_))))) (below_size (belN HB.out))); have n2_ := Aside0.mk (below_step (belN HB.out) hb); clear HO0; clear HB; have HO0 := n0_; have HO274 := n1_; have HB := n2_; clear n0_ n1_ n2_; (try clear hb); (try clear hk); (try clear ho0); obtain ⟨Ao13, co13, eo13⟩ := Kd.N_slice HO274.out; subst eo13) | ((with_reducible refine gate_callee (f := 34) rfl ?_); refine goesL_ (some 16) rfl rfl Try.func34 (by kernel_rfl) rfl #[.slice Ao13 t272.length co13] rfl argN ?_; (with_reducible refine (marigraphref4_Batch.calls k _ _ t272 t275 _ ?side1 ?side2 A6.out).mono ?_); (case side1 => repeat (first | exact (Kd.N_reads' HO274.out).2.2 | (with_reducible refine Kd.C_alloc ?_ _) | (with_reducible refine Kd.C_drewN ?_ _) | (with_reducible refine Kd.C_drew ?_))); (case side2 => exact (Kd.N_reads' HO274.out).2.1); rintro e w14 ⟨v276, rfl, ho0, hb⟩; refine ⟨_, rfl, ?_⟩; have n0_ := Aside0.mk (Kd.V_elder' (by (with_reducible repeat (first | apply Kd.V_alloc | apply Kd.V_drewN | apply Kd.V_drew)); exact HO0.out) (Kd.R_base ho0) hb); have n1_ := Aside0.mk (Kd.N_elder' (by (with_reducible repeat (first | apply Kd.N_alloc | apply Kd.N_drewN | apply Kd.N_drew)); exact HO274.out) (Kd.R_base ho0) hb); have n2_ := Aside0.mk (Kd.R_lower (Kd.R_newM (M := fun k_ => (w.heap.size ≤ k_)) ho0 (below_size (belN HB.out)) (fun k_ h_ => h_)) (below_size (belN HB.out))); have n3_ := Aside0.mk (below_step (belN HB.out) hb); clear HO0; clear HO274; clear HB; have HO0 := n0_; have HO274 := n1_; have HO277 := n2_; have HB := n3_; clear n0_ n1_ n2_ n3_; (try clear hb); (try clear hk); (try clear ho0); obtain ⟨Ao15, co15, eo15⟩ := Kd.R_slice HO277.out; subst eo15) | ((with_reducible refine gate_callee (f := 13) rfl ?_); refine goesL_ (some 22) rfl rfl Try.func13 (by kernel_rfl) rfl #[.int .i64 a2, .int .i64 0, .int .i64 (wrap64 ((t275.length : Int) - 1))] rfl argN ?_; (with_reducible refine (marigraphbook_Within.calls k a2 0 (wrap64 ((t275.length : Int) - 1)) t278 _ A7.out).mono ?_); rintro e w' ⟨rfl, ⟨nd, rfl⟩⟩; refine ⟨_, rfl, ?_⟩; (try (rw [drewN_self w14]; generalize hq_ : World.drewN w14 _ = w14; have n0_ := Aside0.mk (V_atq hq_ HO0.out); have n1_ := Aside0.mk (Kd.N_at hq_ HO274.out); have n2_ := Aside0.mk (Kd.R_at hq_ HO277.out); have n3_ := Aside0.mk (below_at hq_ HB.out); clear hq_ HO0 HO274 HO277 HB; have HO0 := n0_; have HO274 := n1_; have HO277 := n2_; have HB := n3_; clear n0_ n1_ n2_ n3_)); have p279 : 0 ≤ (t278 : Int) := of_decide_eq_true (by first | (with_reducible assumption) | assumption); have q279 : t278 < (t275.length : Int) := of_decide_eq_true (by first | (with_reducible assumption) | assumption); obtain ⟨ad279, e279, hx279_0⟩ := Kd.at_int (Kd.R_reads' HO277.out).2.2 t278 p279 q279; cases e279; replace p279 := eq_true p279; replace q279 := eq_true q279; have p10 : 0 ≤ (t278 : Int) := of_decide_eq_true (by first | (with_reducible assumption) | assumption); have q10 : (t278 : Int) < ((t275.length : Int) : Int) := of_decide_eq_true (by first | (with_reducible assumption) | assumption); obtain ⟨go10, co10, eo10, gb10, gl10, cl10, HG10⟩ := Kd.R_form HO277.out (by omega); (first | cases eo10 | (injection eo10 with ea_ en_ ec_; (first | subst ea_ | (injection ea_ with ea_; subst ea_)); subst ec_; clear en_)); have GB10 := Aside0.mk gb10; have GG10 := Aside0.mk HG10; clear gb10 gl10 HG10; (first | simp only [add_plain] at hx279_0 | skip); obtain ⟨hx10_0, hf10_0⟩ := Kd.R_celln 0 HO277.out (t278 : Int) p10 q10; replace p10 := eq_true p10; replace q10 := eq_true q10; have n_ := Aside0.mk (Kd.R_mono (ok' := (fun k_ => (w.heap.size ≤ k_))) HO277.out (fun k_ hk => hk.1)); clear HO277; have HO277 := n_; clear n_; obtain ⟨hy16_, hz16_⟩ := Kd.R_celln 0 HO277.out (t278 : Int) (of_decide_eq_true (by first | (with_reducible assumption) | assumption)) (of_decide_eq_true (by first | (with_reducible assumption) | assumption)); have HP16 := Kd.R_putg HO277.out (t278 : Int) (Go.bits .xor .u8 (rd t275 t278) a3)) | ((with_reducible refine gate_store (t := 5) (p := 27) rfl ?_); refine store_event (t := 5) (p := 27) (v := ?vo_w17) (w1 := (w14.setCell ⟨go10, (t278 : Int).toNat, none⟩ (.int .u8 (Go.bits .xor .u8 (rd t275 t278) a3)))) ?hg ?ho ?hn ?hr ?_; (case ho => rfl); (case hg => rfl); (case hn => rfl); (case hr => first | (go_simp; done) | (go_simp; rfl)); intro w17 hw; have hg : w14.grownBy w17 (some go10) := (by rw [hw]; exact HP16.2); have hp_ : Kd.R (Kd.int .u8) 5 w17 w.heap.size (fun k_ => (w.heap.size ≤ k_)) (.slice (some ⟨go10, 0, none⟩) t275.length co15) y280 := (by rw [hw, Ny280.out]; exact HP16.1); clear HP16; have n0_ := Aside0.mk (Kd.V_afterv (v := (.slice (some ⟨go10, 0, none⟩) t275.length co15)) (v1 := (.slice (some ⟨go10, 0, none⟩) t275.length co15)) (ok := (fun k_ => (P0_ k_ ∨ w.heap.size ≤ k_) ∧ some k_ ≠ (.slice Ao13 t272.length co13 : Value).ownBlock)) (by (with_reducible repeat (first | apply Kd.V_alloc | apply Kd.V_drewN | apply Kd.V_drew)); exact HO0.out) hg (.inl rfl)); have n1_ := Aside0.mk (Kd.N_afterv (v := (.slice (some ⟨go10, 0, none⟩) t275.length co15)) (v1 := (.slice (some ⟨go10, 0, none⟩) t275.length co15)) (ok := (fun k_ => (P0_ k_ ∨ w.heap.size ≤ k_))) (by (with_reducible repeat (first | apply Kd.N_alloc | apply Kd.N_drewN | apply Kd.N_drew)); exact HO274.out) hg (.inl rfl)); have n2_ := Aside0.mk (hp_); have n3_ := Aside0.mk ((by rw [hw]; exact below_set (HB.out) GB10.out : Below w.heap.size w w17)); clear HO0; clear HO274; clear HO277; clear HB; have HO0 := n0_; have HO274 := n1_; have HO277 := n2_; have HB := n3_; clear n0_ n1_ n2_ n3_; clear hg hw hp_))
   (try simp only [Act.put, List.setIfInBounds_toArray, List.set_cons_zero, List.set_cons_succ])
   go_cut [11] (fun v11 wc => ∃ (kq : Nat) (x11_10 : List (S49)), Aside0 (marigraphlaw4_FrameBatches.j1 kq l1 t272 y280 x11_10 = some r) ∧ Aside0 (kq ≤ k) ∧ Aside0 (Kd.N k49 49 wc w.heap.size (fun k_ => (P0_ k_ ∨ w.heap.size ≤ k_) ∧ some k_ ≠ ((.slice (some ⟨go10, 0, none⟩) t275.length co15) : Value).ownBlock ∧ some k_ ≠ (v11 : Value).ownBlock) (.slice Ao13 t272.length co13) t272) ∧ Aside0 (Kd.R (Kd.int .u8) 5 wc w.heap.size (fun k_ => (w.heap.size ≤ k_)) (.slice (some ⟨go10, 0, none⟩) t275.length co15) y280) ∧ Aside0 (Kd.N k49 49 wc w.heap.size (fun k_ => (P0_ k_ ∨ w.heap.size ≤ k_) ∧ some k_ ≠ ((.slice Ao13 t272.length co13) : Value).ownBlock ∧ some k_ ≠ ((.slice (some ⟨go10, 0, none⟩) t275.length co15) : Value).ownBlock) v11 x11_10) ∧ Aside0 (Below w.heap.size w wc))
   case first =>
    have H := HC11.out
    clear HC11
    have H' := Aside0.mk H
    clear H
    go_wp2
    go_loopg [11, 12] k (fun kq v11 v12 w' => ∃ (x11_1 : List (S49)) (x12_1 : Int), v12 = .int .i64 x12_1 ∧ Aside0 (marigraphlaw4_FrameBatches.l0 kq l0 l1 t272 y280 x11_1 x12_1 = some r) ∧ Aside0 (kq ≤ k) ∧ Aside0 (Kd.V k49 49 w' w.heap.size (fun k_ => (P0_ k_ ∨ w.heap.size ≤ k_) ∧ some k_ ≠ ((.slice Ao13 t272.length co13) : Value).ownBlock ∧ some k_ ≠ ((.slice (some ⟨go10, 0, none⟩) t275.length co15) : Value).ownBlock ∧ some k_ ≠ (v11 : Value).ownBlock) (.slice A0 l0.length c0) l0) ∧ Aside0 (Kd.N k49 49 w' w.heap.size (fun k_ => (P0_ k_ ∨ w.heap.size ≤ k_) ∧ some k_ ≠ ((.slice (some ⟨go10, 0, none⟩) t275.length co15) : Value).ownBlock ∧ some k_ ≠ (v11 : Value).ownBlock) (.slice Ao13 t272.length co13) t272) ∧ Aside0 (Kd.R (Kd.int .u8) 5 w' w.heap.size (fun k_ => (w.heap.size ≤ k_)) (.slice (some ⟨go10, 0, none⟩) t275.length co15) y280) ∧ Aside0 (Kd.N k49 49 w' w.heap.size (fun k_ => (P0_ k_ ∨ w.heap.size ≤ k_) ∧ some k_ ≠ ((.slice Ao13 t272.length co13) : Value).ownBlock ∧ some k_ ≠ ((.slice (some ⟨go10, 0, none⟩) t275.length co15) : Value).ownBlock) v11 x11_1) ∧ Aside0 (Below w.heap.size w w'))
    case atStart => exact ⟨(([] : List (S49))), (0), (by first | rfl | (simp; done) | (simp [*]; done)), H', ⟨Nat.le_refl _⟩, ⟨by (with_reducible repeat (first | apply Kd.V_alloc | apply Kd.V_drewN | apply Kd.V_drew)); exact Kd.V_mono HO0.out (fun _ hk => ⟨hk.1.1, ⟨hk.1.2, ⟨hk.2, (by simp [Value.ownBlock])⟩⟩⟩)⟩, ⟨by (with_reducible repeat (first | apply Kd.N_alloc | apply Kd.N_drewN | apply Kd.N_drew)); exact Kd.N_mono HO274.out (fun _ hk => ⟨hk.1, ⟨hk.2, (by simp [Value.ownBlock])⟩⟩)⟩, ⟨(rowN HO277.out)⟩, ⟨by first | exact Kd.S_nil _ _ _ _ _ | exact Kd.N_nil _ _ _ _ _ | exact Kd.V_nil _ _ _ _ _ | exact Kd.Q_nil _ _ _ _ _ | exact Kd.R_nil _ _ _ _ _⟩, ⟨(belN HB.out)⟩⟩
    case round =>
     clear H'
     try clear c1
     try clear p1
     try clear q1
     try clear hx1
     try clear c2
     try clear p2
     try clear q2
     try clear hx2
     try clear c3
     try clear p6
     try clear c8
     try clear c8b0
     try clear c9
     try clear c9b0
     try clear p10
     try clear q10
     try clear hx10
     try clear hf10
     try clear c13
     try clear hx10_0
     try clear hx279_0
     try clear p10
     try clear p279
     try clear q10
     try clear q279
     obtain ⟨x11_1, x12_1, rfl, HA, HK1, HO_0, HO_9, HO_10, HO_11, HB⟩ := hrel
     have hl10_1 := (Kd.R_reads' HO_10.out).1
     rw [hl10_1] at HO_10
     (try simp only [hl10_1])
     (try simp only [hl10_1] at HO_0)
     (try simp only [hl10_1] at HO_9)
     (try simp only [hl10_1] at HO_11)
     cases gk with
     | zero => exact absurd HA.out (by simp [marigraphlaw4_FrameBatches.l0])
     | succ k1 =>
      have H := HA.out
      clear HA
      simp only [marigraphlaw4_FrameBatches.l0] at H
      by_cases c18 : x12_1 < (l0.length : Int)
      ·rw [if_pos c18] at H
       have c18b0 : decide (x12_1 < (l0.length : Int)) = true := decide_eq_true c18
       clear c18
       (first | rw [c18b0] | rw [c18b1] | (simp only [i64_w, i32_w]; rw [c18b0]) | skip)
       by_cases c19 : x12_1 < 5
       ·rw [if_pos c19] at H
        have c19b0 : decide (x12_1 < 5) = true := decide_eq_true c19
        clear c19
        by_cases c20 : 0 ≤ x12_1
        ·rw [if_pos c20] at H
         have c20b0 : decide (0 ≤ x12_1) = true := decide_eq_true c20
         clear c20
         by_cases c21 : x11_1.length < 2513169434916
         ·rw [if_pos c21] at H
          have LMc21 := Aside0.mk c21
          clear c21
          obtain ⟨y282, hy282⟩ : ∃ y_ : List (S49), y_ = (x11_1 ++ [(⟨(rd_T49 l0 x12_1).f0, (rd_T49 l0 x12_1).f1, (rd_T49 l0 x12_1).f2⟩ : S49)]) := ⟨_, rfl⟩
          replace H : (marigraphlaw4_FrameBatches.l0 k1 l0 l1 t272 y280 y282 (wrap64 (x12_1 + 1))) = some r := by first | (rw [hy282]; with_reducible exact H) | (have H2_ := (Option.bind_some _ _).symm.trans H; rw [hy282]; with_reducible exact H2_) | (have H2_ := (Option.bind_some _ _).symm.trans H; with_reducible exact H2_) | with_reducible exact H | (rw [hy282]; exact H) | exact H
          have Ny282 := Aside0.mk hy282
          clear hy282
          have H' := Aside0.mk H
          clear H
          have p281 : 0 ≤ (x12_1 : Int) := of_decide_eq_true (by first | (with_reducible assumption) | assumption)
          have q281 : x12_1 < (l0.length : Int) := of_decide_eq_true (by first | (with_reducible assumption) | assumption)
          obtain ⟨ad281, A281_0, c281_0, A281_1, c281_1, e281, hx281_0, hx281_1, hx281_2, hl281_0, hi281_0, hl281_1, hi281_1⟩ := at_T49 (Kd.V_reads' HO_0.out).2.2 x12_1 p281 q281
          cases e281
          obtain ⟨ce281, hce281, hMe281, hcc281⟩ := Kd.V_get HO_0.out z49 x12_1 p281 (by first | exact q281 | exact of_decide_eq_true (by first | (with_reducible assumption) | assumption) | (have e_ := (Kd.V_reads' HO_0.out).1; omega))
          obtain ⟨ua281_0, uc281_0, ua281_1, uc281_1, rfl, ul281_0, ge281_0, ul281_1, ge281_1⟩ := k49_openF hMe281
          have hv281_0 := hcc281 0 _ rfl
          rw [Nat.add_zero] at hv281_0
          replace hv281_0 := Option.some.inj (hv281_0.symm.trans hx281_0)
          injection hv281_0 with hva_ hvn_ hvc_
          rw [hva_] at ge281_0
          rw [hvc_] at ul281_0
          have HL281_0 := Aside0.mk (show Kd.V (Kd.int .u8) 5 _ w.heap.size _ _ ((rd_T49 l0 x12_1).f0) from Kd.V_mk ul281_0 ge281_0)
          clear hva_ hvn_ hvc_ ge281_0 ul281_0
          have hv281_1 := hcc281 1 _ rfl
          rw [add_field _ _ 1 (by omega)] at hv281_1
          replace hv281_1 := Option.some.inj (hv281_1.symm.trans hx281_1)
          injection hv281_1 with hva_ hvn_ hvc_
          rw [hva_] at ge281_1
          rw [hvc_] at ul281_1
          have HL281_1 := Aside0.mk (show Kd.V (Kd.int .u8) 5 _ w.heap.size _ _ ((rd_T49 l0 x12_1).f1) from Kd.V_mk ul281_1 ge281_1)
          clear hva_ hvn_ hvc_ ge281_1 ul281_1
          clear hcc281 hce281
          have HR281_0 := Aside0.mk hi281_0
          have HC281_0 := Aside0.mk hl281_0
          clear hi281_0 hl281_0
          have HR281_1 := Aside0.mk hi281_1
          have HC281_1 := Aside0.mk hl281_1
          clear hi281_1 hl281_1
          replace p281 := eq_true p281
          replace q281 := eq_true q281
          go_wp2_with (first | ((with_reducible refine gate_builtin (b := .append) (xs := #[.tmp 38, .tmp 43]) rfl ?_); at_builtin; refine Kd.N_append k49 (w0 := w) w.heap.size rfl (.tmp 38) (.tmp 43) 37 49 (.agg #[(.slice none 0 0), (.slice none 0 0), (.bool false)]) 56 rfl Try.underlying37 info49 rfl (by decide) (by omega) u11 x11_1 (⟨(rd_T49 l0 x12_1).f0, (rd_T49 l0 x12_1).f1, (rd_T49 l0 x12_1).f2⟩ : S49) [.slice A281_0 ((rd_T49 l0 x12_1).f0).length c281_0, .slice A281_1 ((rd_T49 l0 x12_1).f1).length c281_1, .bool ((rd_T49 l0 x12_1).f2)] (fun k_ => (P0_ k_ ∨ w.heap.size ≤ k_) ∧ some k_ ≠ (.slice Ao13 t272.length co13 : Value).ownBlock ∧ some k_ ≠ (.slice (some ⟨go10, 0, none⟩) y280.length co15 : Value).ownBlock) (fun k_ => ((fun k_ => (P0_ k_ ∨ w.heap.size ≤ k_) ∧ some k_ ≠ (.slice Ao13 t272.length co13 : Value).ownBlock ∧ some k_ ≠ (.slice (some ⟨go10, 0, none⟩) y280.length co15 : Value).ownBlock)) k_ ∧ some k_ ≠ (u11 : Value).ownBlock) rfl rfl ?aP (fun _ hk => hk) ?aF ?aO ?aB ?aS ?aL ?_; (case aP => exact (k49_mkF _ _ (⟨(rd_T49 l0 x12_1).f0, (rd_T49 l0 x12_1).f1, (rd_T49 l0 x12_1).f2⟩ : S49) (Kd.V_reads' (Kd.V_mono (ok' := (fun k_ => ((fun k_ => (P0_ k_ ∨ w.heap.size ≤ k_) ∧ some k_ ≠ (.slice Ao13 t272.length co13 : Value).ownBlock ∧ some k_ ≠ (.slice (some ⟨go10, 0, none⟩) y280.length co15 : Value).ownBlock)) k_ ∧ some k_ ≠ (u11 : Value).ownBlock)) (HL281_0.out) (fun k_ hk => ⟨⟨hk.1, ⟨hk.2.1, hk.2.2.1⟩⟩, hk.2.2.2⟩))).2.1 (Kd.V_F (Kd.V_mono (ok' := (fun k_ => ((fun k_ => (P0_ k_ ∨ w.heap.size ≤ k_) ∧ some k_ ≠ (.slice Ao13 t272.length co13 : Value).ownBlock ∧ some k_ ≠ (.slice (some ⟨go10, 0, none⟩) y280.length co15 : Value).ownBlock)) k_ ∧ some k_ ≠ (u11 : Value).ownBlock)) (HL281_0.out) (fun k_ hk => ⟨⟨hk.1, ⟨hk.2.1, hk.2.2.1⟩⟩, hk.2.2.2⟩))) (Kd.V_reads' (Kd.V_mono (ok' := (fun k_ => ((fun k_ => (P0_ k_ ∨ w.heap.size ≤ k_) ∧ some k_ ≠ (.slice Ao13 t272.length co13 : Value).ownBlock ∧ some k_ ≠ (.slice (some ⟨go10, 0, none⟩) y280.length co15 : Value).ownBlock)) k_ ∧ some k_ ≠ (u11 : Value).ownBlock)) (HL281_1.out) (fun k_ hk => ⟨⟨hk.1, ⟨hk.2.1, hk.2.2.1⟩⟩, hk.2.2.2⟩))).2.1 (Kd.V_F (Kd.V_mono (ok' := (fun k_ => ((fun k_ => (P0_ k_ ∨ w.heap.size ≤ k_) ∧ some k_ ≠ (.slice Ao13 t272.length co13 : Value).ownBlock ∧ some k_ ≠ (.slice (some ⟨go10, 0, none⟩) y280.length co15 : Value).ownBlock)) k_ ∧ some k_ ≠ (u11 : Value).ownBlock)) (HL281_1.out) (fun k_ hk => ⟨⟨hk.1, ⟨hk.2.1, hk.2.2.1⟩⟩, hk.2.2.2⟩))))); (case aB => exact (belN HB.out)); (case aF => exact (fun k_ hk => ⟨(.inr (Nat.le_trans (below_size (belN HB.out)) hk)), Kd.fresh' (Kd.N_lt (by (with_reducible repeat (first | apply Kd.N_alloc | apply Kd.N_drewN | apply Kd.N_drew)); exact HO_9.out)) k_ hk, Kd.fresh' (Kd.R_lt (rowN HO_10.out)) k_ hk⟩)); (case aO => exact (by (with_reducible repeat (first | apply Kd.N_alloc | apply Kd.N_drewN | apply Kd.N_drew)); exact HO_11.out)); (case aS => exact (below_size (belN HB.out))); (case aL => have := LMc21.out; omega); intro v283 w22 ho hb hg hat; rw [← Ny282.out] at ho; have n0_ := Aside0.mk (Kd.V_afterv (ok := (fun k_ => (P0_ k_ ∨ w.heap.size ≤ k_) ∧ some k_ ≠ (.slice Ao13 t272.length co13 : Value).ownBlock ∧ some k_ ≠ (.slice (some ⟨go10, 0, none⟩) y280.length co15 : Value).ownBlock)) (by (with_reducible repeat (first | apply Kd.V_alloc | apply Kd.V_drewN | apply Kd.V_drew)); exact Kd.V_mono HO_0.out (fun _ hk => ⟨⟨hk.1, ⟨hk.2.1, hk.2.2.1⟩⟩, hk.2.2.2⟩)) hg hat); have n1_ := Aside0.mk (Kd.N_afterv (ok := (fun k_ => (P0_ k_ ∨ w.heap.size ≤ k_) ∧ some k_ ≠ (.slice (some ⟨go10, 0, none⟩) y280.length co15 : Value).ownBlock)) (by (with_reducible repeat (first | apply Kd.N_alloc | apply Kd.N_drewN | apply Kd.N_drew)); exact Kd.N_mono HO_9.out (fun _ hk => ⟨⟨hk.1, hk.2.1⟩, hk.2.2⟩)) hg hat); have n2_ := Aside0.mk (Kd.R_over' (rowN HO_10.out) (Kd.N_typed (by (with_reducible repeat (first | apply Kd.N_alloc | apply Kd.N_drewN | apply Kd.N_drew)); exact HO_11.out)) (by decide) hg); have n3_ := Aside0.mk (Kd.V_afterv (ok := (fun k_ => (P0_ k_ ∨ w.heap.size ≤ k_) ∧ some k_ ≠ (.slice Ao13 t272.length co13 : Value).ownBlock ∧ some k_ ≠ (.slice (some ⟨go10, 0, none⟩) y280.length co15 : Value).ownBlock)) (by (with_reducible repeat (first | apply Kd.V_alloc | apply Kd.V_drewN | apply Kd.V_drew)); exact Kd.V_mono HL281_0.out (fun _ hk => ⟨⟨hk.1, ⟨hk.2.1, hk.2.2.1⟩⟩, hk.2.2.2⟩)) hg hat); have n4_ := Aside0.mk (Kd.V_afterv (ok := (fun k_ => (P0_ k_ ∨ w.heap.size ≤ k_) ∧ some k_ ≠ (.slice Ao13 t272.length co13 : Value).ownBlock ∧ some k_ ≠ (.slice (some ⟨go10, 0, none⟩) y280.length co15 : Value).ownBlock)) (by (with_reducible repeat (first | apply Kd.V_alloc | apply Kd.V_drewN | apply Kd.V_drew)); exact Kd.V_mono HL281_1.out (fun _ hk => ⟨⟨hk.1, ⟨hk.2.1, hk.2.2.1⟩⟩, hk.2.2.2⟩)) hg hat); have n5_ := Aside0.mk (hb); have n6_ := Aside0.mk (ho); clear HO_0; clear HO_9; clear HO_10; clear HL281_0; clear HL281_1; clear HB; clear HO_11; have HO_0 := n0_; have HO_9 := n1_; have HO_10 := n2_; have HL281_0 := n3_; have HL281_1 := n4_; have HB := n5_; have HO284 := n6_; clear n0_ n1_ n2_ n3_ n4_ n5_ n6_; clear ho hb hg hat))
          (try simp only [← hl10_1])
          go_roundg k1
          case measure => have := HK1.out; omega
          case rel => exact ⟨(y282), (wrap64 (x12_1 + 1)), (by first | rfl | (simp; done) | (simp [*]; done)), H', ⟨by have := HK1.out; omega⟩, ⟨by (try simp only [hl10_1]); (with_reducible repeat (first | apply Kd.V_alloc | apply Kd.V_drewN | apply Kd.V_drew)); exact Kd.V_mono HO_0.out (fun _ hk => ⟨hk.1.1, ⟨hk.1.2.1, ⟨hk.1.2.2, hk.2⟩⟩⟩)⟩, ⟨by (try simp only [hl10_1]); (with_reducible repeat (first | apply Kd.N_alloc | apply Kd.N_drewN | apply Kd.N_drew)); exact Kd.N_mono HO_9.out (fun _ hk => ⟨hk.1.1, ⟨hk.1.2, hk.2⟩⟩)⟩, ⟨by (try simp only [hl10_1]); (with_reducible repeat (first | apply Kd.R_alloc | apply Kd.R_drewN | apply Kd.R_drew)); exact HO_10.out⟩, ⟨by (try simp only [hl10_1]); (with_reducible repeat (first | apply Kd.N_alloc | apply Kd.N_drewN | apply Kd.N_drew)); exact HO284.out⟩, ⟨(belN HB.out)⟩⟩
         ·rw [if_neg c21] at H
          exact absurd H (by simp)
        ·rw [if_neg c20] at H
         exact absurd H (by simp)
       ·rw [if_neg c19] at H
        have c19b0 : decide (x12_1 < 5) = false := decide_eq_false c19
        clear c19
        have H' := Aside0.mk H
        clear H
        go_wp2
        (try simp only [← hl10_1])
        go_meet
        case rel => exact ⟨_, (x11_1), H', ⟨by have := HK1.out; first | omega | exact Nat.le_refl _⟩, ⟨by (try simp only [hl10_1]); (with_reducible repeat (first | apply Kd.N_alloc | apply Kd.N_drewN | apply Kd.N_drew)); exact HO_9.out⟩, ⟨by (try simp only [hl10_1]); (with_reducible repeat (first | apply Kd.R_alloc | apply Kd.R_drewN | apply Kd.R_drew)); exact HO_10.out⟩, ⟨by (try simp only [hl10_1]); (with_reducible repeat (first | apply Kd.N_alloc | apply Kd.N_drewN | apply Kd.N_drew)); exact HO_11.out⟩, ⟨(belN HB.out)⟩⟩
      ·rw [if_neg c18] at H
       have c18b0 : decide (x12_1 < (l0.length : Int)) = false := decide_eq_false c18
       clear c18
       (first | rw [c18b0] | rw [c18b1] | (simp only [i64_w, i32_w]; rw [c18b0]) | skip)
       have H' := Aside0.mk H
       clear H
       go_wp2
       (try simp only [← hl10_1])
       go_meet
       case rel => exact ⟨_, (x11_1), H', ⟨by have := HK1.out; first | omega | exact Nat.le_refl _⟩, ⟨by (try simp only [hl10_1]); (with_reducible repeat (first | apply Kd.N_alloc | apply Kd.N_drewN | apply Kd.N_drew)); exact HO_9.out⟩, ⟨by (try simp only [hl10_1]); (with_reducible repeat (first | apply Kd.R_alloc | apply Kd.R_drewN | apply Kd.R_drew)); exact HO_10.out⟩, ⟨by (try simp only [hl10_1]); (with_reducible repeat (first | apply Kd.N_alloc | apply Kd.N_drewN | apply Kd.N_drew)); exact HO_11.out⟩, ⟨(belN HB.out)⟩⟩
   case rest =>
    clear HC11
    try clear c1
    try clear p1
    try clear q1
    try clear hx1
    try clear c2
    try clear p2
    try clear q2
    try clear hx2
    try clear c3
    try clear p6
    try clear c8
    try clear c8b0
    try clear c9
    try clear c9b0
    try clear p10
    try clear q10
    try clear hx10
    try clear hf10
    try clear c13
    try clear c18
    try clear c18b0
    try clear c19
    try clear c19b0
    try clear c20
    try clear c20b0
    try clear c21
    try clear hx10_0
    try clear hx279_0
    try clear hx281_0
    try clear hx281_1
    try clear hx281_2
    try clear p1
    try clear p10
    try clear p2
    try clear p279
    try clear p281
    try clear p6
    try clear q1
    try clear q10
    try clear q2
    try clear q279
    try clear q281
    obtain ⟨kq, x11_10, HA, HJ10, HO_9, HO_10, HO_11, HB⟩ := hcut
    have hl10_10 := (Kd.R_reads' HO_10.out).1
    rw [hl10_10] at HO_10
    (try simp only [hl10_10])
    (try simp only [hl10_10] at HO_9)
    (try simp only [hl10_10] at HO_11)
    cases kq with
    | zero => exact absurd HA.out (by simp [marigraphlaw4_FrameBatches.j1])
    | succ kj10 =>
     have H := HA.out
     clear HA
     simp only [marigraphlaw4_FrameBatches.j1] at H
     replace H := Option.bind_eq_some_iff.mp H
     obtain ⟨t285, A230, H⟩ := H
     replace H : (if t285 = true then ((marigraphlaw4_batch.f kj10 x11_10).bind fun t286 => (if t286 = true then ((marigraphlaw4_entries.f kj10 y280).bind fun t287 => (if t287 = true then ((marigraphlaw4_entries.f kj10 (cutI l1 100)).bind fun t289 => (if t289 = true then ((marigraphlaw4_known.f kj10).bind fun t290 => (some t290)) else (some false))) else (some false))) else (some false))) else (some false)) = some r := H
     have A23 := Aside0.mk A230
     clear A230
     by_cases c24 : t285 = true
     ·subst c24
      have H1 : ((marigraphlaw4_batch.f kj10 x11_10).bind fun t286 => (if t286 = true then ((marigraphlaw4_entries.f kj10 y280).bind fun t287 => (if t287 = true then ((marigraphlaw4_entries.f kj10 (cutI l1 100)).bind fun t289 => (if t289 = true then ((marigraphlaw4_known.f kj10).bind fun t290 => (some t290)) else (some false))) else (some false))) else (some false))) = some r := by rw [if_pos rfl] at H; exact H
      clear H
      have H := H1
      clear H1
      replace H := Option.bind_eq_some_iff.mp H
      obtain ⟨t286, A250, H⟩ := H
      replace H : (if t286 = true then ((marigraphlaw4_entries.f kj10 y280).bind fun t287 => (if t287 = true then ((marigraphlaw4_entries.f kj10 (cutI l1 100)).bind fun t289 => (if t289 = true then ((marigraphlaw4_known.f kj10).bind fun t290 => (some t290)) else (some false))) else (some false))) else (some false)) = some r := H
      have A25 := Aside0.mk A250
      clear A250
      by_cases c26 : t286 = true
      ·subst c26
       have H1 : ((marigraphlaw4_entries.f kj10 y280).bind fun t287 => (if t287 = true then ((marigraphlaw4_entries.f kj10 (cutI l1 100)).bind fun t289 => (if t289 = true then ((marigraphlaw4_known.f kj10).bind fun t290 => (some t290)) else (some false))) else (some false))) = some r := by rw [if_pos rfl] at H; exact H
       clear H
       have H := H1
       clear H1
       replace H := Option.bind_eq_some_iff.mp H
       obtain ⟨t287, A270, H⟩ := H
       replace H : (if t287 = true then ((marigraphlaw4_entries.f kj10 (cutI l1 100)).bind fun t289 => (if t289 = true then ((marigraphlaw4_known.f kj10).bind fun t290 => (some t290)) else (some false))) else (some false)) = some r := H
       have A27 := Aside0.mk A270
       clear A270
       by_cases c28 : t287 = true
       ·subst c28
        have H1 : ((marigraphlaw4_entries.f kj10 (cutI l1 100)).bind fun t289 => (if t289 = true then ((marigraphlaw4_known.f kj10).bind fun t290 => (some t290)) else (some false))) = some r := by rw [if_pos rfl] at H; exact H
        clear H
        have H := H1
        clear H1
        replace H := Option.bind_eq_some_iff.mp H
        obtain ⟨t289, A290, H⟩ := H
        replace H : (if t289 = true then ((marigraphlaw4_known.f kj10).bind fun t290 => (some t290)) else (some false)) = some r := H
        have A29 := Aside0.mk A290
        clear A290
        by_cases c30 : t289 = true
        ·subst c30
         have H1 : ((marigraphlaw4_known.f kj10).bind fun t290 => (some t290)) = some r := by rw [if_pos rfl] at H; exact H
         clear H
         have H := H1
         clear H1
         replace H := Option.bind_eq_some_iff.mp H
         obtain ⟨t290, A310, H⟩ := H
         replace H : (some t290) = some r := H
         have A31 := Aside0.mk A310
         clear A310
         obtain rfl := Option.some.inj H
         go_wp2_with (first | ((with_reducible refine gate_callee (f := 35) rfl ?_); refine goesL_ (some 46) rfl rfl Try.func35 (by kernel_rfl) rfl #[.slice Ao13 t272.length co13] rfl argN ?_; (with_reducible refine (marigraphlaw4_batch.calls kj10 _ _ t272 true _ ?side1 ?side2 A23.out).mono ?_); (case side1 => repeat (first | exact (Kd.N_reads' HO_9.out).2.2 | (with_reducible refine Kd.C_alloc ?_ _) | (with_reducible refine Kd.C_drewN ?_ _) | (with_reducible refine Kd.C_drew ?_))); (case side2 => exact (Kd.N_reads' HO_9.out).2.1); rintro e w32 ⟨rfl, hb⟩; refine ⟨_, rfl, ?_⟩; have n0_ := Aside0.mk (Kd.N_below (by (with_reducible repeat (first | apply Kd.N_alloc | apply Kd.N_drewN | apply Kd.N_drew)); exact HO_9.out) hb); have n1_ := Aside0.mk (Kd.R_below (rowN HO_10.out) hb); have n2_ := Aside0.mk (Kd.N_below (by (with_reducible repeat (first | apply Kd.N_alloc | apply Kd.N_drewN | apply Kd.N_drew)); exact HO_11.out) hb); have n3_ := Aside0.mk (below_step (belN HB.out) hb); clear HO_9; clear HO_10; clear HO_11; clear HB; have HO_9 := n0_; have HO_10 := n1_; have HO_11 := n2_; have HB := n3_; clear n0_ n1_ n2_ n3_; (try clear hb); (try clear hk); obtain ⟨Ao33, co33, eo33⟩ := Kd.N_slice HO_11.out; subst eo33) | (go_at_call 35; (with_reducible refine (marigraphlaw4_batch.calls kj10 _ _ x11_10 true _ ?side1 ?side2 A25.out).mono ?_); (case side1 => repeat (first | exact (Kd.N_reads' HO_11.out).2.2 | (with_reducible refine Kd.C_alloc ?_ _) | (with_reducible refine Kd.C_drewN ?_ _) | (with_reducible refine Kd.C_drew ?_))); (case side2 => exact (Kd.N_reads' HO_11.out).2.1); rintro e w34 ⟨rfl, hb⟩; have n0_ := Aside0.mk (Kd.N_below (by (with_reducible repeat (first | apply Kd.N_alloc | apply Kd.N_drewN | apply Kd.N_drew)); exact HO_9.out) hb); have n1_ := Aside0.mk (Kd.R_below (rowN HO_10.out) hb); have n2_ := Aside0.mk (Kd.N_below (by (with_reducible repeat (first | apply Kd.N_alloc | apply Kd.N_drewN | apply Kd.N_drew)); exact HO_11.out) hb); have n3_ := Aside0.mk (below_step (belN HB.out) hb); clear HO_9; clear HO_10; clear HO_11; clear HB; have HO_9 := n0_; have HO_10 := n1_; have HO_11 := n2_; have HB := n3_; clear n0_ n1_ n2_ n3_; (try clear hb); (try clear hk)) | (go_at_call 36; (with_reducible refine (marigraphlaw4_entries.calls kj10 _ _ y280 true _ ?side1 ?side2 A27.out).mono ?_); (case side1 => repeat (first | exact (Kd.R_reads' HO_10.out).2.2 | (with_reducible refine Kd.C_alloc ?_ _) | (with_reducible refine Kd.C_drewN ?_ _) | (with_reducible refine Kd.C_drew ?_))); (case side2 => exact (Kd.R_reads' HO_10.out).2.1); rintro e w35 ⟨rfl, hb⟩; have n0_ := Aside0.mk (Kd.N_below (by (with_reducible repeat (first | apply Kd.N_alloc | apply Kd.N_drewN | apply Kd.N_drew)); exact HO_9.out) hb); have n1_ := Aside0.mk (Kd.R_below (rowN HO_10.out) hb); have n2_ := Aside0.mk (Kd.N_below (by (with_reducible repeat (first | apply Kd.N_alloc | apply Kd.N_drewN | apply Kd.N_drew)); exact HO_11.out) hb); have n3_ := Aside0.mk (below_step (belN HB.out) hb); clear HO_9; clear HO_10; clear HO_11; clear HB; have HO_9 := n0_; have HO_10 := n1_; have HO_11 := n2_; have HB := n3_; clear n0_ n1_ n2_ n3_; (try clear hb); (try clear hk); have HR288 := Aside0.mk (cutI_C (n := 100) HR1.out); have HC288 := Aside0.mk (cutI_le (n := 100) HC1.out)) | (go_at_call 14; (with_reducible refine (marigraphkeep_Cut.callsR A1 c1 l1 100 100 _ HC1.out rfl).mono ?_); rintro e w' ⟨rfl, ⟨nd, rfl⟩⟩) | (go_at_call 36; (with_reducible refine (marigraphlaw4_entries.calls kj10 _ _ (cutI l1 100) true _ ?side1 ?side2 A29.out).mono ?_); (case side1 => repeat (first | exact (Kd.C_below HR288.out (belN HB.out)) | (with_reducible refine Kd.C_alloc ?_ _) | (with_reducible refine Kd.C_drewN ?_ _) | (with_reducible refine Kd.C_drew ?_))); (case side2 => exact HC288.out); rintro e w36 ⟨rfl, hb⟩; have n0_ := Aside0.mk (Kd.N_below (by (with_reducible repeat (first | apply Kd.N_alloc | apply Kd.N_drewN | apply Kd.N_drew)); exact HO_9.out) hb); have n1_ := Aside0.mk (Kd.R_below (rowN HO_10.out) hb); have n2_ := Aside0.mk (Kd.N_below (by (with_reducible repeat (first | apply Kd.N_alloc | apply Kd.N_drewN | apply Kd.N_drew)); exact HO_11.out) hb); have n3_ := Aside0.mk (below_step (belN HB.out) hb); clear HO_9; clear HO_10; clear HO_11; clear HB; have HO_9 := n0_; have HO_10 := n1_; have HO_11 := n2_; have HB := n3_; clear n0_ n1_ n2_ n3_; (try clear hb); (try clear hk)) | (go_at_call 20; (with_reducible refine (marigraphlaw4_known.calls kj10  t290 _ A31.out).mono ?_); rintro e w37 ⟨rfl, hb⟩; have n0_ := Aside0.mk (Kd.N_below (by (with_reducible repeat (first | apply Kd.N_alloc | apply Kd.N_drewN | apply Kd.N_drew)); exact HO_9.out) hb); have n1_ := Aside0.mk (Kd.R_below (rowN HO_10.out) hb); have n2_ := Aside0.mk (Kd.N_below (by (with_reducible repeat (first | apply Kd.N_alloc | apply Kd.N_drewN | apply Kd.N_drew)); exact HO_11.out) hb); have n3_ := Aside0.mk (below_step (belN HB.out) hb); clear HO_9; clear HO_10; clear HO_11; clear HB; have HO_9 := n0_; have HO_10 := n1_; have HO_11 := n2_; have HB := n3_; clear n0_ n1_ n2_ n3_; (try clear hb); (try clear hk)))
         go_ret
         exact ⟨by first | rfl | (simp [errW_none, errW_some] <;> rfl) | (simp [*, errW_none, errW_some] <;> rfl), (belN HB.out)⟩
        ·replace c30 := Bool.eq_false_iff.mpr c30
         subst c30
         have H1 : (some false) = some r := by rw [if_neg (show ¬ (false = true) by decide)] at H; exact H
         clear H
         have H := H1
         clear H1
         obtain rfl := Option.some.inj H
         go_wp2_with (first | ((with_reducible refine gate_callee (f := 35) rfl ?_); refine goesL_ (some 46) rfl rfl Try.func35 (by kernel_rfl) rfl #[.slice Ao13 t272.length co13] rfl argN ?_; (with_reducible refine (marigraphlaw4_batch.calls kj10 _ _ t272 true _ ?side1 ?side2 A23.out).mono ?_); (case side1 => repeat (first | exact (Kd.N_reads' HO_9.out).2.2 | (with_reducible refine Kd.C_alloc ?_ _) | (with_reducible refine Kd.C_drewN ?_ _) | (with_reducible refine Kd.C_drew ?_))); (case side2 => exact (Kd.N_reads' HO_9.out).2.1); rintro e w38 ⟨rfl, hb⟩; refine ⟨_, rfl, ?_⟩; have n0_ := Aside0.mk (Kd.N_below (by (with_reducible repeat (first | apply Kd.N_alloc | apply Kd.N_drewN | apply Kd.N_drew)); exact HO_9.out) hb); have n1_ := Aside0.mk (Kd.R_below (rowN HO_10.out) hb); have n2_ := Aside0.mk (Kd.N_below (by (with_reducible repeat (first | apply Kd.N_alloc | apply Kd.N_drewN | apply Kd.N_drew)); exact HO_11.out) hb); have n3_ := Aside0.mk (below_step (belN HB.out) hb); clear HO_9; clear HO_10; clear HO_11; clear HB; have HO_9 := n0_; have HO_10 := n1_; have HO_11 := n2_; have HB := n3_; clear n0_ n1_ n2_ n3_; (try clear hb); (try clear hk); obtain ⟨Ao39, co39, eo39⟩ := Kd.N_slice HO_11.out; subst eo39) | (go_at_call 35; (with_reducible refine (marigraphlaw4_batch.calls kj10 _ _ x11_10 true _ ?side1 ?side2 A25.out).mono ?_); (case side1 => repeat (first | exact (Kd.N_reads' HO_11.out).2.2 | (with_reducible refine Kd.C_alloc ?_ _) | (with_reducible refine Kd.C_drewN ?_ _) | (with_reducible refine Kd.C_drew ?_))); (case side2 => exact (Kd.N_reads' HO_11.out).2.1); rintro e w40 ⟨rfl, hb⟩; have n0_ := Aside0.mk (Kd.N_below (by (with_reducible repeat (first | apply Kd.N_alloc | apply Kd.N_drewN | apply Kd.N_drew)); exact HO_9.out) hb); have n1_ := Aside0.mk (Kd.R_below (rowN HO_10.out) hb); have n2_ := Aside0.mk (Kd.N_below (by (with_reducible repeat (first | apply Kd.N_alloc | apply Kd.N_drewN | apply Kd.N_drew)); exact HO_11.out) hb); have n3_ := Aside0.mk (below_step (belN HB.out) hb); clear HO_9; clear HO_10; clear HO_11; clear HB; have HO_9 := n0_; have HO_10 := n1_; have HO_11 := n2_; have HB := n3_; clear n0_ n1_ n2_ n3_; (try clear hb); (try clear hk)) | (go_at_call 36; (with_reducible refine (marigraphlaw4_entries.calls kj10 _ _ y280 true _ ?side1 ?side2 A27.out).mono ?_); (case side1 => repeat (first | exact (Kd.R_reads' HO_10.out).2.2 | (with_reducible refine Kd.C_alloc ?_ _) | (with_reducible refine Kd.C_drewN ?_ _) | (with_reducible refine Kd.C_drew ?_))); (case side2 => exact (Kd.R_reads' HO_10.out).2.1); rintro e w41 ⟨rfl, hb⟩; have n0_ := Aside0.mk (Kd.N_below (by (with_reducible repeat (first | apply Kd.N_alloc | apply Kd.N_drewN | apply Kd.N_drew)); exact HO_9.out) hb); have n1_ := Aside0.mk (Kd.R_below (rowN HO_10.out) hb); have n2_ := Aside0.mk (Kd.N_below (by (with_reducible repeat (first | apply Kd.N_alloc | apply Kd.N_drewN | apply Kd.N_drew)); exact HO_11.out) hb); have n3_ := Aside0.mk (below_step (belN HB.out) hb); clear HO_9; clear HO_10; clear HO_11; clear HB; have HO_9 := n0_; have HO_10 := n1_; have HO_11 := n2_; have HB := n3_; clear n0_ n1_ n2_ n3_; (try clear hb); (try clear hk); have HR288 := Aside0.mk (cutI_C (n := 100) HR1.out); have HC288 := Aside0.mk (cutI_le (n := 100) HC1.out)) | (go_at_call 14; (with_reducible refine (marigraphkeep_Cut.callsR A1 c1 l1 100 100 _ HC1.out rfl).mono ?_); rintro e w' ⟨rfl, ⟨nd, rfl⟩⟩) | (go_at_call 36; (with_reducible refine (marigraphlaw4_entries.calls kj10 _ _ (cutI l1 100) false _ ?side1 ?side2 A29.out).mono ?_); (case side1 => repeat (first | exact (Kd.C_below HR288.out (belN HB.out)) | (with_reducible refine Kd.C_alloc ?_ _) | (with_reducible refine Kd.C_drewN ?_ _) | (with_reducible refine Kd.C_drew ?_))); (case side2 => exact HC288.out); rintro e w42 ⟨rfl, hb⟩; have n0_ := Aside0.mk (Kd.N_below (by (with_reducible repeat (first | apply Kd.N_alloc | apply Kd.N_drewN | apply Kd.N_drew)); exact HO_9.out) hb); have n1_ := Aside0.mk (Kd.R_below (rowN HO_10.out) hb); have n2_ := Aside0.mk (Kd.N_below (by (with_reducible repeat (first | apply Kd.N_alloc | apply Kd.N_drewN | apply Kd.N_drew)); exact HO_11.out) hb); have n3_ := Aside0.mk (below_step (belN HB.out) hb); clear HO_9; clear HO_10; clear HO_11; clear HB; have HO_9 := n0_; have HO_10 := n1_; have HO_11 := n2_; have HB := n3_; clear n0_ n1_ n2_ n3_; (try clear hb); (try clear hk)))
         go_ret
         exact ⟨by first | rfl | (simp [errW_none, errW_some] <;> rfl) | (simp [*, errW_none, errW_some] <;> rfl), (belN HB.out)⟩
       ·replace c28 := Bool.eq_false_iff.mpr c28
        subst c28
        have H1 : (some false) = some r := by rw [if_neg (show ¬ (false = true) by decide)] at H; exact H
        clear H
        have H := H1
        clear H1
        obtain rfl := Option.some.inj H
        go_wp2_with (first | ((with_reducible refine gate_callee (f := 35) rfl ?_); refine goesL_ (some 46) rfl rfl Try.func35 (by kernel_rfl) rfl #[.slice Ao13 t272.length co13] rfl argN ?_; (with_reducible refine (marigraphlaw4_batch.calls kj10 _ _ t272 true _ ?side1 ?side2 A23.out).mono ?_); (case side1 => repeat (first | exact (Kd.N_reads' HO_9.out).2.2 | (with_reducible refine Kd.C_alloc ?_ _) | (with_reducible refine Kd.C_drewN ?_ _) | (with_reducible refine Kd.C_drew ?_))); (case side2 => exact (Kd.N_reads' HO_9.out).2.1); rintro e w43 ⟨rfl, hb⟩; refine ⟨_, rfl, ?_⟩; have n0_ := Aside0.mk (Kd.N_below (by (with_reducible repeat (first | apply Kd.N_alloc | apply Kd.N_drewN | apply Kd.N_drew)); exact HO_9.out) hb); have n1_ := Aside0.mk (Kd.R_below (rowN HO_10.out) hb); have n2_ := Aside0.mk (Kd.N_below (by (with_reducible repeat (first | apply Kd.N_alloc | apply Kd.N_drewN | apply Kd.N_drew)); exact HO_11.out) hb); have n3_ := Aside0.mk (below_step (belN HB.out) hb); clear HO_9; clear HO_10; clear HO_11; clear HB; have HO_9 := n0_; have HO_10 := n1_; have HO_11 := n2_; have HB := n3_; clear n0_ n1_ n2_ n3_; (try clear hb); (try clear hk); obtain ⟨Ao44, co44, eo44⟩ := Kd.N_slice HO_11.out; subst eo44) | (go_at_call 35; (with_reducible refine (marigraphlaw4_batch.calls kj10 _ _ x11_10 true _ ?side1 ?side2 A25.out).mono ?_); (case side1 => repeat (first | exact (Kd.N_reads' HO_11.out).2.2 | (with_reducible refine Kd.C_alloc ?_ _) | (with_reducible refine Kd.C_drewN ?_ _) | (with_reducible refine Kd.C_drew ?_))); (case side2 => exact (Kd.N_reads' HO_11.out).2.1); rintro e w45 ⟨rfl, hb⟩; have n0_ := Aside0.mk (Kd.N_below (by (with_reducible repeat (first | apply Kd.N_alloc | apply Kd.N_drewN | apply Kd.N_drew)); exact HO_9.out) hb); have n1_ := Aside0.mk (Kd.R_below (rowN HO_10.out) hb); have n2_ := Aside0.mk (Kd.N_below (by (with_reducible repeat (first | apply Kd.N_alloc | apply Kd.N_drewN | apply Kd.N_drew)); exact HO_11.out) hb); have n3_ := Aside0.mk (below_step (belN HB.out) hb); clear HO_9; clear HO_10; clear HO_11; clear HB; have HO_9 := n0_; have HO_10 := n1_; have HO_11 := n2_; have HB := n3_; clear n0_ n1_ n2_ n3_; (try clear hb); (try clear hk)) | (go_at_call 36; (with_reducible refine (marigraphlaw4_entries.calls kj10 _ _ y280 false _ ?side1 ?side2 A27.out).mono ?_); (case side1 => repeat (first | exact (Kd.R_reads' HO_10.out).2.2 | (with_reducible refine Kd.C_alloc ?_ _) | (with_reducible refine Kd.C_drewN ?_ _) | (with_reducible refine Kd.C_drew ?_))); (case side2 => exact (Kd.R_reads' HO_10.out).2.1); rintro e w46 ⟨rfl, hb⟩; have n0_ := Aside0.mk (Kd.N_below (by (with_reducible repeat (first | apply Kd.N_alloc | apply Kd.N_drewN | apply Kd.N_drew)); exact HO_9.out) hb); have n1_ := Aside0.mk (Kd.R_below (rowN HO_10.out) hb); have n2_ := Aside0.mk (Kd.N_below (by (with_reducible repeat (first | apply Kd.N_alloc | apply Kd.N_drewN | apply Kd.N_drew)); exact HO_11.out) hb); have n3_ := Aside0.mk (below_step (belN HB.out) hb); clear HO_9; clear HO_10; clear HO_11; clear HB; have HO_9 := n0_; have HO_10 := n1_; have HO_11 := n2_; have HB := n3_; clear n0_ n1_ n2_ n3_; (try clear hb); (try clear hk)))
        go_ret
        exact ⟨by first | rfl | (simp [errW_none, errW_some] <;> rfl) | (simp [*, errW_none, errW_some] <;> rfl), (belN HB.out)⟩
      ·replace c26 := Bool.eq_false_iff.mpr c26
       subst c26
       have H1 : (some false) = some r := by rw [if_neg (show ¬ (false = true) by decide)] at H; exact H
       clear H
       have H := H1
       clear H1
       obtain rfl := Option.some.inj H
       go_wp2_with (first | ((with_reducible refine gate_callee (f := 35) rfl ?_); refine goesL_ (some 46) rfl rfl Try.func35 (by kernel_rfl) rfl #[.slice Ao13 t272.length co13] rfl argN ?_; (with_reducible refine (marigraphlaw4_batch.calls kj10 _ _ t272 true _ ?side1 ?side2 A23.out).mono ?_); (case side1 => repeat (first | exact (Kd.N_reads' HO_9.out).2.2 | (with_reducible refine Kd.C_alloc ?_ _) | (with_reducible refine Kd.C_drewN ?_ _) | (with_reducible refine Kd.C_drew ?_))); (case side2 => exact (Kd.N_reads' HO_9.out).2.1); rintro e w47 ⟨rfl, hb⟩; refine ⟨_, rfl, ?_⟩; have n0_ := Aside0.mk (Kd.N_below (by (with_reducible repeat (first | apply Kd.N_alloc | apply Kd.N_drewN | apply Kd.N_drew)); exact HO_9.out) hb); have n1_ := Aside0.mk (Kd.R_below (rowN HO_10.out) hb); have n2_ := Aside0.mk (Kd.N_below (by (with_reducible repeat (first | apply Kd.N_alloc | apply Kd.N_drewN | apply Kd.N_drew)); exact HO_11.out) hb); have n3_ := Aside0.mk (below_step (belN HB.out) hb); clear HO_9; clear HO_10; clear HO_11; clear HB; have HO_9 := n0_; have HO_10 := n1_; have HO_11 := n2_; have HB := n3_; clear n0_ n1_ n2_ n3_; (try clear hb); (try clear hk); obtain ⟨Ao48, co48, eo48⟩ := Kd.N_slice HO_11.out; subst eo48) | (go_at_call 35; (with_reducible refine (marigraphlaw4_batch.calls kj10 _ _ x11_10 false _ ?side1 ?side2 A25.out).mono ?_); (case side1 => repeat (first | exact (Kd.N_reads' HO_11.out).2.2 | (with_reducible refine Kd.C_alloc ?_ _) | (with_reducible refine Kd.C_drewN ?_ _) | (with_reducible refine Kd.C_drew ?_))); (case side2 => exact (Kd.N_reads' HO_11.out).2.1); rintro e w49 ⟨rfl, hb⟩; have n0_ := Aside0.mk (Kd.N_below (by (with_reducible repeat (first | apply Kd.N_alloc | apply Kd.N_drewN | apply Kd.N_drew)); exact HO_9.out) hb); have n1_ := Aside0.mk (Kd.R_below (rowN HO_10.out) hb); have n2_ := Aside0.mk (Kd.N_below (by (with_reducible repeat (first | apply Kd.N_alloc | apply Kd.N_drewN | apply Kd.N_drew)); exact HO_11.out) hb); have n3_ := Aside0.mk (below_step (belN HB.out) hb); clear HO_9; clear HO_10; clear HO_11; clear HB; have HO_9 := n0_; have HO_10 := n1_; have HO_11 := n2_; have HB := n3_; clear n0_ n1_ n2_ n3_; (try clear hb); (try clear hk)))
       go_ret
       exact ⟨by first | rfl | (simp [errW_none, errW_some] <;> rfl) | (simp [*, errW_none, errW_some] <;> rfl), (belN HB.out)⟩
     ·replace c24 := Bool.eq_false_iff.mpr c24
      subst c24
      have H1 : (some false) = some r := by rw [if_neg (show ¬ (false = true) by decide)] at H; exact H
      clear H
      have H := H1
      clear H1
      obtain rfl := Option.some.inj H
      go_wp2_with (first | ((with_reducible refine gate_callee (f := 35) rfl ?_); refine goesL_ (some 46) rfl rfl Try.func35 (by kernel_rfl) rfl #[.slice Ao13 t272.length co13] rfl argN ?_; (with_reducible refine (marigraphlaw4_batch.calls kj10 _ _ t272 false _ ?side1 ?side2 A23.out).mono ?_); (case side1 => repeat (first | exact (Kd.N_reads' HO_9.out).2.2 | (with_reducible refine Kd.C_alloc ?_ _) | (with_reducible refine Kd.C_drewN ?_ _) | (with_reducible refine Kd.C_drew ?_))); (case side2 => exact (Kd.N_reads' HO_9.out).2.1); rintro e w50 ⟨rfl, hb⟩; refine ⟨_, rfl, ?_⟩; have n0_ := Aside0.mk (Kd.N_below (by (with_reducible repeat (first | apply Kd.N_alloc | apply Kd.N_drewN | apply Kd.N_drew)); exact HO_9.out) hb); have n1_ := Aside0.mk (Kd.R_below (rowN HO_10.out) hb); have n2_ := Aside0.mk (Kd.N_below (by (with_reducible repeat (first | apply Kd.N_alloc | apply Kd.N_drewN | apply Kd.N_drew)); exact HO_11.out) hb); have n3_ := Aside0.mk (below_step (belN HB.out) hb); clear HO_9; clear HO_10; clear HO_11; clear HB; have HO_9 := n0_; have HO_10 := n1_; have HO_11 := n2_; have HB := n3_; clear n0_ n1_ n2_ n3_; (try clear hb); (try clear hk)))
      go_ret
      exact ⟨by first | rfl | (simp [errW_none, errW_some] <;> rfl) | (simp [*, errW_none, errW_some] <;> rfl), (belN HB.out)⟩
  ·rw [if_neg c9] at H
   exact absurd H (by simp)
 ·rw [if_neg c8] at H
  exact absurd H (by simp)

end Go.Proofs.Ytmimfnangdabmaa.PFrameBatches

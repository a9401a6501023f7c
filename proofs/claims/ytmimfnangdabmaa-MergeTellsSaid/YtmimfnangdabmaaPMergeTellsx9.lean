/- The walk of the Go functions that a law reaches, told as plain functions; a program of this session has written it. No condition beyond the statement's own. -/
import Derived.Test.YtmimfnangdabmaaPMergeTellsx0
import Derived.Test.YtmimfnangdabmaaPMergeTellsx1
import Derived.Test.YtmimfnangdabmaaPMergeTellsx4
namespace Go.Proofs.Ytmimfnangdabmaa.PMergeTells
open Go.RowKit Go.Proofs.YtmimfnangdabmaaW.PrintWords Go.Proofs.YtmimfnangdabmaaW.PrintLast Go.Proofs.YtmimfnangdabmaaW.PrintMore
attribute [local go_sem] max2_int min2_int max_two min_two max_three min_three max_four min_four   -- for this text's walks alone
set_option linter.unusedVariables false
set_option linter.unusedSimpArgs false

/-! ### marigraphref8_Live: function 32 -/
def marigraphref8_Live.l0 : Nat → List (S49) → List (S49) → Int → Option ((List (S49)))
 | 0, _, _, _ => none
 | k + 1, x0, x3, x4 => if x4 < (x0.length : Int) then (if 0 ≤ x4 then (if ((rd_T49 x0 x4).f2 = true) then (marigraphref8_Live.l0 k x0 x3 (wrap64 (x4 + 1))) else (if x3.length < 2513169434916 then (marigraphref8_Live.l0 k x0 (x3 ++ [(⟨(rd_T49 x0 x4).f0, (rd_T49 x0 x4).f1, (rd_T49 x0 x4).f2⟩ : S49)]) (wrap64 (x4 + 1))) else (none))) else (none)) else (some x3)
def marigraphref8_Live.f (k : Nat) (l0 : List (S49)) : Option ((List (S49))) := marigraphref8_Live.l0 k l0 ([] : List (S49)) 0
theorem marigraphref8_Live.mono_l : ∀ k, (∀ y0 y1 y2, LeO (marigraphref8_Live.l0 k y0 y1 y2) (marigraphref8_Live.l0 (k + 1) y0 y1 y2))
 | 0 => fun _ _ _ r h => by simp [marigraphref8_Live.l0] at h
 | k + 1 => by
  have ih0 := marigraphref8_Live.mono_l k
  ·intro y0 y1 y2
   unfold marigraphref8_Live.l0
   repeat' first
   | (with_reducible exact ih0 _ _ _)
   | (with_reducible exact LeO.refl _)
   | (with_reducible exact LeO.none _)
   | (with_reducible refine LeO.ite ?_ ?_)
   | (with_reducible refine LeO.bind ?_ (fun _ => ?_))
   | exact ih0 _ _ _
   | exact LeO.none _
   | refine LeO.ite ?_ ?_
   | refine LeO.bind ?_ (fun _ => ?_)
theorem marigraphref8_Live.mono : ∀ a0 k, LeO (marigraphref8_Live.f k a0) (marigraphref8_Live.f (k + 1) a0) := by
 intro a0 k
 have ih0 := marigraphref8_Live.mono_l k
 unfold marigraphref8_Live.f
 repeat' first
   | (with_reducible exact ih0 _ _ _)
   | (with_reducible exact LeO.refl _)
   | (with_reducible exact LeO.none _)
   | (with_reducible refine LeO.ite ?_ ?_)
   | (with_reducible refine LeO.bind ?_ (fun _ => ?_))
   | exact ih0 _ _ _
   | exact LeO.none _
   | refine LeO.ite ?_ ?_
   | refine LeO.bind ?_ (fun _ => ?_)
set_option maxHeartbeats 8000000 in
set_option maxRecDepth 100000 in
theorem marigraphref8_Live.calls (k : Nat) (P0_ : Nat → Prop) (A0 : Option Addr) (c0 : Nat) (l0 : List (S49)) (r : List (S49)) (w : World) (hs0 : Kd.V k49 49 w w.heap.size (fun k_ => P0_ k_) (.slice A0 l0.length c0) l0) (h : marigraphref8_Live.f k l0 = some r) :
  Calls Try.prog 32 #[.slice A0 l0.length c0] w fun e w' => ∃ v0_ : Value, e = .returned (v0_) ∧ Kd.N k49 49 w' w.heap.size (fun k_ => (P0_ k_ ∨ w.heap.size ≤ k_)) v0_ r ∧ Below w.heap.size w w' := by
 have hu49 := Try.underlying49
 have HO0 := Aside0.mk (show Kd.V k49 49 w w.heap.size (fun k_ => (P0_ k_ ∨ w.heap.size ≤ k_)) (.slice A0 l0.length c0) l0 from Kd.V_mono hs0 (fun k_ hk => .inl hk))
 have HB := Aside0.mk (Below.refl w.heap.size w)
 have H : (marigraphref8_Live.l0 k l0 ([] : List (S49)) 0) = some r := h
 clear h
 have H' := Aside0.mk H
 clear H
 go_enter Try.func32, Try.ntmps32
 go_wp2
 go_loopg [3, 4] k (fun kq v3 v4 w' => ∃ (x3_1 : List (S49)) (x4_1 : Int), v4 = .int .i64 x4_1 ∧ Aside0 (marigraphref8_Live.l0 kq l0 x3_1 x4_1 = some r) ∧ Aside0 (kq ≤ k) ∧ Aside0 (Kd.V k49 49 w' w.heap.size (fun k_ => (P0_ k_ ∨ w.heap.size ≤ k_) ∧ some k_ ≠ (v3 : Value).ownBlock) (.slice A0 l0.length c0) l0) ∧ Aside0 (Kd.N k49 49 w' w.heap.size (fun k_ => (P0_ k_ ∨ w.heap.size ≤ k_)) v3 x3_1) ∧ Aside0 (Below w.heap.size w w'))
 case atStart => exact ⟨(([] : List (S49))), (0), (by first | rfl | (simp; done) | (simp [*]; done)), H', ⟨Nat.le_refl _⟩, ⟨by (with_reducible repeat (first | apply Kd.V_alloc | apply Kd.V_drewN | apply Kd.V_drew)); exact Kd.V_mono HO0.out (fun _ hk => ⟨hk, (by simp [Value.ownBlock])⟩)⟩, ⟨by first | exact Kd.S_nil _ _ _ _ _ | exact Kd.N_nil _ _ _ _ _ | exact Kd.V_nil _ _ _ _ _ | exact Kd.Q_nil _ _ _ _ _ | exact Kd.R_nil _ _ _ _ _⟩, ⟨(belN HB.out)⟩⟩
 case round =>
  clear H'
  obtain ⟨x3_1, x4_1, rfl, HA, HK1, HO_0, HO_3, HB⟩ := hrel
  cases gk with
  | zero => exact absurd HA.out (by simp [marigraphref8_Live.l0])
  | succ k1 =>
   have H := HA.out
   clear HA
   simp only [marigraphref8_Live.l0] at H
   by_cases c2 : x4_1 < (l0.length : Int)
   ·rw [if_pos c2] at H
    have c2b0 : decide (x4_1 < (l0.length : Int)) = true := decide_eq_true c2
    clear c2
    by_cases c3 : 0 ≤ x4_1
    ·rw [if_pos c3] at H
     have c3b0 : decide (0 ≤ x4_1) = true := decide_eq_true c3
     clear c3
     obtain ⟨bq4, hbq4⟩ : ∃ b_ : Bool, b_ = ((rd_T49 l0 x4_1).f2) := ⟨_, rfl⟩
     replace H : (if (bq4 = true) then (marigraphref8_Live.l0 k1 l0 x3_1 (wrap64 (x4_1 + 1))) else (if x3_1.length < 2513169434916 then (marigraphref8_Live.l0 k1 l0 (x3_1 ++ [(⟨(rd_T49 l0 x4_1).f0, (rd_T49 l0 x4_1).f1, bq4⟩ : S49)]) (wrap64 (x4_1 + 1))) else (none))) = some r := by rw [← hbq4] at H; exact H
     have Nbq4 := Aside0.mk hbq4
     clear hbq4
     by_cases c5 : (bq4 = true)
     ·subst c5
      have H1 : (marigraphref8_Live.l0 k1 l0 x3_1 (wrap64 (x4_1 + 1))) = some r := by rw [if_pos rfl] at H; exact H
      clear H
      have H := H1
      clear H1
      have H' := Aside0.mk H
      clear H
      have p245 : 0 ≤ (x4_1 : Int) := of_decide_eq_true (by first | (with_reducible assumption) | assumption)
      have q245 : x4_1 < (l0.length : Int) := of_decide_eq_true (by first | (with_reducible assumption) | assumption)
      obtain ⟨ad245, A245_0, c245_0, A245_1, c245_1, e245, hx245_0, hx245_1, hx245_2, hl245_0, hi245_0, hl245_1, hi245_1⟩ := at_T49 (Kd.V_reads' HO_0.out).2.2 x4_1 p245 q245
      (try rw [← Nbq4.out] at hx245_2)
      cases e245
      obtain ⟨ce245, hce245, hMe245, hcc245⟩ := Kd.V_get HO_0.out z49 x4_1 p245 (by first | exact q245 | exact of_decide_eq_true (by first | (with_reducible assumption) | assumption) | (have e_ := (Kd.V_reads' HO_0.out).1; omega))
      obtain ⟨ua245_0, uc245_0, ua245_1, uc245_1, rfl, ul245_0, ge245_0, ul245_1, ge245_1⟩ := k49_openF hMe245
      have hv245_0 := hcc245 0 _ rfl
      rw [Nat.add_zero] at hv245_0
      replace hv245_0 := Option.some.inj (hv245_0.symm.trans hx245_0)
      injection hv245_0 with hva_ hvn_ hvc_
      rw [hva_] at ge245_0
      rw [hvc_] at ul245_0
      have HL245_0 := Aside0.mk (show Kd.V (Kd.int .u8) 5 _ w.heap.size _ _ ((rd_T49 l0 x4_1).f0) from Kd.V_mk ul245_0 ge245_0)
      clear hva_ hvn_ hvc_ ge245_0 ul245_0
      have hv245_1 := hcc245 1 _ rfl
      rw [add_field _ _ 1 (by omega)] at hv245_1
      replace hv245_1 := Option.some.inj (hv245_1.symm.trans hx245_1)
      injection hv245_1 with hva_ hvn_ hvc_
      rw [hva_] at ge245_1
      rw [hvc_] at ul245_1
      have HL245_1 := Aside0.mk (show Kd.V (Kd.int .u8) 5 _ w.heap.size _ _ ((rd_T49 l0 x4_1).f1) from Kd.V_mk ul245_1 ge245_1)
      clear hva_ hvn_ hvc_ ge245_1 ul245_1
      clear hcc245 hce245
      have HR245_0 := Aside0.mk hi245_0
      have HC245_0 := Aside0.mk hl245_0
      clear hi245_0 hl245_0
      have HR245_1 := Aside0.mk hi245_1
      have HC245_1 := Aside0.mk hl245_1
      clear hi245_1 hl245_1
      replace p245 := eq_true p245
      replace q245 := eq_true q245
      go_wp2
      go_roundg k1
      case measure => have := HK1.out; omega
      case rel => exact ⟨(x3_1), (wrap64 (x4_1 + 1)), (by first | rfl | (simp; done) | (simp [*]; done)), H', ⟨by have := HK1.out; omega⟩, ⟨by (with_reducible repeat (first | apply Kd.V_alloc | apply Kd.V_drewN | apply Kd.V_drew)); exact HO_0.out⟩, ⟨by (with_reducible repeat (first | apply Kd.N_alloc | apply Kd.N_drewN | apply Kd.N_drew)); exact HO_3.out⟩, ⟨(belN HB.out)⟩⟩
     ·replace c5 := Bool.eq_false_iff.mpr c5
      subst c5
      have H1 : (if x3_1.length < 2513169434916 then (marigraphref8_Live.l0 k1 l0 (x3_1 ++ [(⟨(rd_T49 l0 x4_1).f0, (rd_T49 l0 x4_1).f1, false⟩ : S49)]) (wrap64 (x4_1 + 1))) else (none)) = some r := by rw [if_neg (show ¬ (false = true) by decide)] at H; exact H
      clear H
      have H := H1
      clear H1
      by_cases c6 : x3_1.length < 2513169434916
      ·rw [if_pos c6] at H
       have LMc6 := Aside0.mk c6
       clear c6
       obtain ⟨y247, hy247⟩ : ∃ y_ : List (S49), y_ = (x3_1 ++ [(⟨(rd_T49 l0 x4_1).f0, (rd_T49 l0 x4_1).f1, false⟩ : S49)]) := ⟨_, rfl⟩
       replace H : (marigraphref8_Live.l0 k1 l0 y247 (wrap64 (x4_1 + 1))) = some r := by first | (rw [hy247]; with_reducible exact H) | (have H2_ := (Option.bind_some _ _).symm.trans H; rw [hy247]; with_reducible exact H2_) | (have H2_ := (Option.bind_some _ _).symm.trans H; with_reducible exact H2_) | with_reducible exact H | (rw [hy247]; exact H) | exact H
       have Ny247 := Aside0.mk hy247
       clear hy247
       have H' := Aside0.mk H
       clear H
       have p245 : 0 ≤ (x4_1 : Int) := of_decide_eq_true (by first | (with_reducible assumption) | assumption)
       have q245 : x4_1 < (l0.length : Int) := of_decide_eq_true (by first | (with_reducible assumption) | assumption)
       obtain ⟨ad245, A245_0, c245_0, A245_1, c245_1, e245, hx245_0, hx245_1, hx245_2, hl245_0, hi245_0, hl245_1, hi245_1⟩ := at_T49 (Kd.V_reads' HO_0.out).2.2 x4_1 p245 q245
       (try rw [← Nbq4.out] at hx245_2)
       cases e245
       obtain ⟨ce245, hce245, hMe245, hcc245⟩ := Kd.V_get HO_0.out z49 x4_1 p245 (by first | exact q245 | exact of_decide_eq_true (by first | (with_reducible assumption) | assumption) | (have e_ := (Kd.V_reads' HO_0.out).1; omega))
       obtain ⟨ua245_0, uc245_0, ua245_1, uc245_1, rfl, ul245_0, ge245_0, ul245_1, ge245_1⟩ := k49_openF hMe245
       have hv245_0 := hcc245 0 _ rfl
       rw [Nat.add_zero] at hv245_0
       replace hv245_0 := Option.some.inj (hv245_0.symm.trans hx245_0)
       injection hv245_0 with hva_ hvn_ hvc_
       rw [hva_] at ge245_0
       rw [hvc_] at ul245_0
       have HL245_0 := Aside0.mk (show Kd.V (Kd.int .u8) 5 _ w.heap.size _ _ ((rd_T49 l0 x4_1).f0) from Kd.V_mk ul245_0 ge245_0)
       clear hva_ hvn_ hvc_ ge245_0 ul245_0
       have hv245_1 := hcc245 1 _ rfl
       rw [add_field _ _ 1 (by omega)] at hv245_1
       replace hv245_1 := Option.some.inj (hv245_1.symm.trans hx245_1)
       injection hv245_1 with hva_ hvn_ hvc_
       rw [hva_] at ge245_1
       rw [hvc_] at ul245_1
       have HL245_1 := Aside0.mk (show Kd.V (Kd.int .u8) 5 _ w.heap.size _ _ ((rd_T49 l0 x4_1).f1) from Kd.V_mk ul245_1 ge245_1)
       clear hva_ hvn_ hvc_ ge245_1 ul245_1
       clear hcc245 hce245
       have HR245_0 := Aside0.mk hi245_0
       have HC245_0 := Aside0.mk hl245_0
       clear hi245_0 hl245_0
       have HR245_1 := Aside0.mk hi245_1
       have HC245_1 := Aside0.mk hl245_1
       clear hi245_1 hl245_1
       replace p245 := eq_true p245
       replace q245 := eq_true q245
       have p246 : 0 ≤ (x4_1 : Int) := of_decide_eq_true (by first | (with_reducible assumption) | assumption)
       have q246 : x4_1 < (l0.length : Int) := of_decide_eq_true (by first | (with_reducible assumption) | assumption)
       obtain ⟨ad246, A246_0, c246_0, A246_1, c246_1, e246, hx246_0, hx246_1, hx246_2, hl246_0, hi246_0, hl246_1, hi246_1⟩ := at_T49 (Kd.V_reads' HO_0.out).2.2 x4_1 p246 q246
       (try rw [← Nbq4.out] at hx246_2)
       obtain rfl : ad245 = ad246 := (by injection e246)
       obtain ⟨ce246, hce246, hMe246, hcc246⟩ := Kd.V_get HO_0.out z49 x4_1 p246 (by first | exact q246 | exact of_decide_eq_true (by first | (with_reducible assumption) | assumption) | (have e_ := (Kd.V_reads' HO_0.out).1; omega))
       obtain ⟨ua246_0, uc246_0, ua246_1, uc246_1, rfl, ul246_0, ge246_0, ul246_1, ge246_1⟩ := k49_openF hMe246
       have hv246_0 := hcc246 0 _ rfl
       rw [Nat.add_zero] at hv246_0
       replace hv246_0 := Option.some.inj (hv246_0.symm.trans hx246_0)
       injection hv246_0 with hva_ hvn_ hvc_
       rw [hva_] at ge246_0
       rw [hvc_] at ul246_0
       have HL246_0 := Aside0.mk (show Kd.V (Kd.int .u8) 5 _ w.heap.size _ _ ((rd_T49 l0 x4_1).f0) from Kd.V_mk ul246_0 ge246_0)
       clear hva_ hvn_ hvc_ ge246_0 ul246_0
       have hv246_1 := hcc246 1 _ rfl
       rw [add_field _ _ 1 (by omega)] at hv246_1
       replace hv246_1 := Option.some.inj (hv246_1.symm.trans hx246_1)
       injection hv246_1 with hva_ hvn_ hvc_
       rw [hva_] at ge246_1
       rw [hvc_] at ul246_1
       have HL246_1 := Aside0.mk (show Kd.V (Kd.int .u8) 5 _ w.heap.size _ _ ((rd_T49 l0 x4_1).f1) from Kd.V_mk ul246_1 ge246_1)
       clear hva_ hvn_ hvc_ ge246_1 ul246_1
       clear hcc246 hce246
       have HR246_0 := Aside0.mk hi246_0
       have HC246_0 := Aside0.mk hl246_0
       clear hi246_0 hl246_0
       have HR246_1 := Aside0.mk hi246_1
       have HC246_1 := Aside0.mk hl246_1
       clear hi246_1 hl246_1
       replace p246 := eq_true p246
       replace q246 := eq_true q246
       have ea_ := Option.some.inj (hx245_0.symm.trans hx246_0)
       injection ea_ with ea_ en_ ec_
       subst ea_
       subst ec_
       clear en_
       have ea_ := Option.some.inj (hx245_1.symm.trans hx246_1)
       injection ea_ with ea_ en_ ec_
       subst ea_
       subst ec_
       clear en_
       go_wp2_with (first | ((with_reducible refine gate_builtin (b := .append) (xs := #[.tmp 17, .tmp 22]) rfl ?_); at_builtin; refine Kd.N_append k49 (w0 := w) w.heap.size rfl (.tmp 17) (.tmp 22) 37 49 (.agg #[(.slice none 0 0), (.slice none 0 0), (.bool false)]) 56 rfl Try.underlying37 info49 rfl (by decide) (by omega) u3 x3_1 (⟨(rd_T49 l0 x4_1).f0, (rd_T49 l0 x4_1).f1, false⟩ : S49) [.slice A245_0 ((rd_T49 l0 x4_1).f0).length c245_0, .slice A245_1 ((rd_T49 l0 x4_1).f1).length c245_1, .bool false] (fun k_ => (P0_ k_ ∨ w.heap.size ≤ k_)) (fun k_ => ((fun k_ => (P0_ k_ ∨ w.heap.size ≤ k_))) k_ ∧ some k_ ≠ (u3 : Value).ownBlock) rfl rfl ?aP (fun _ hk => hk) ?aF ?aO ?aB ?aS ?aL ?_; (case aP => exact (k49_mkF _ _ (⟨(rd_T49 l0 x4_1).f0, (rd_T49 l0 x4_1).f1, false⟩ : S49) (Kd.V_reads' (Kd.V_mono (ok' := (fun k_ => ((fun k_ => (P0_ k_ ∨ w.heap.size ≤ k_))) k_ ∧ some k_ ≠ (u3 : Value).ownBlock)) (HL246_0.out) (fun k_ hk => ⟨hk.1, hk.2⟩))).2.1 (Kd.V_F (Kd.V_mono (ok' := (fun k_ => ((fun k_ => (P0_ k_ ∨ w.heap.size ≤ k_))) k_ ∧ some k_ ≠ (u3 : Value).ownBlock)) (HL246_0.out) (fun k_ hk => ⟨hk.1, hk.2⟩))) (Kd.V_reads' (Kd.V_mono (ok' := (fun k_ => ((fun k_ => (P0_ k_ ∨ w.heap.size ≤ k_))) k_ ∧ some k_ ≠ (u3 : Value).ownBlock)) (HL246_1.out) (fun k_ hk => ⟨hk.1, hk.2⟩))).2.1 (Kd.V_F (Kd.V_mono (ok' := (fun k_ => ((fun k_ => (P0_ k_ ∨ w.heap.size ≤ k_))) k_ ∧ some k_ ≠ (u3 : Value).ownBlock)) (HL246_1.out) (fun k_ hk => ⟨hk.1, hk.2⟩))))); (case aB => exact (belN HB.out)); (case aF => exact (fun k_ hk => (.inr (Nat.le_trans (below_size (belN HB.out)) hk)))); (case aO => exact (by (with_reducible repeat (first | apply Kd.N_alloc | apply Kd.N_drewN | apply Kd.N_drew)); exact HO_3.out)); (case aS => exact (below_size (belN HB.out))); (case aL => have := LMc6.out; omega); intro v248 w7 ho hb hg hat; rw [← Ny247.out] at ho; have n0_ := Aside0.mk (Kd.V_afterv (ok := (fun k_ => (P0_ k_ ∨ w.heap.size ≤ k_))) (by (with_reducible repeat (first | apply Kd.V_alloc | apply Kd.V_drewN | apply Kd.V_drew)); exact HO_0.out) hg hat); have n1_ := Aside0.mk (Kd.V_afterv (ok := (fun k_ => (P0_ k_ ∨ w.heap.size ≤ k_))) (by (with_reducible repeat (first | apply Kd.V_alloc | apply Kd.V_drewN | apply Kd.V_drew)); exact HL245_0.out) hg hat); have n2_ := Aside0.mk (Kd.V_afterv (ok := (fun k_ => (P0_ k_ ∨ w.heap.size ≤ k_))) (by (with_reducible repeat (first | apply Kd.V_alloc | apply Kd.V_drewN | apply Kd.V_drew)); exact HL245_1.out) hg hat); have n3_ := Aside0.mk (Kd.V_afterv (ok := (fun k_ => (P0_ k_ ∨ w.heap.size ≤ k_))) (by (with_reducible repeat (first | apply Kd.V_alloc | apply Kd.V_drewN | apply Kd.V_drew)); exact HL246_0.out) hg hat); have n4_ := Aside0.mk (Kd.V_afterv (ok := (fun k_ => (P0_ k_ ∨ w.heap.size ≤ k_))) (by (with_reducible repeat (first | apply Kd.V_alloc | apply Kd.V_drewN | apply Kd.V_drew)); exact HL246_1.out) hg hat); have n5_ := Aside0.mk (hb); have n6_ := Aside0.mk (ho); clear HO_0; clear HL245_0; clear HL245_1; clear HL246_0; clear HL246_1; clear HB; clear HO_3; have HO_0 := n0_; have HL245_0 := n1_; have HL245_1 := n2_; have HL246_0 := n3_; have HL246_1 := n4_; have HB := n5_; have HO249 := n6_; clear n0_ n1_ n2_ n3_ n4_ n5_ n6_; clear ho hb hg hat))
       go_roundg k1
       case measure => have := HK1.out; omega
       case rel => exact ⟨(y247), (wrap64 (x4_1 + 1)), (by first | rfl | (simp; done) | (simp [*]; done)), H', ⟨by have := HK1.out; omega⟩, ⟨by (with_reducible repeat (first | apply Kd.V_alloc | apply Kd.V_drewN | apply Kd.V_drew)); exact HO_0.out⟩, ⟨by (with_reducible repeat (first | apply Kd.N_alloc | apply Kd.N_drewN | apply Kd.N_drew)); exact HO249.out⟩, ⟨(belN HB.out)⟩⟩
      ·rw [if_neg c6] at H
       exact absurd H (by simp)
    ·rw [if_neg c3] at H
     exact absurd H (by simp)
   ·rw [if_neg c2] at H
    have c2b0 : decide (x4_1 < (l0.length : Int)) = false := decide_eq_false c2
    clear c2
    obtain rfl := Option.some.inj H
    go_wp2
    go_ret
    exact ⟨_, by first | rfl | (simp [errW_none, errW_some] <;> rfl) | (simp [*, errW_none, errW_some] <;> rfl), by (with_reducible repeat (first | apply Kd.N_alloc | apply Kd.N_drewN | apply Kd.N_drew)); exact HO_3.out, (belN HB.out)⟩

/-! ### merge_Right: function 33 -/
def merge_Right.l0 : Nat → List (S49) → Int → Option (Bool)
 | 0, _, _ => none
 | k + 1, x0, x3 => if x3 < (x0.length : Int) then (if 0 ≤ (wrap64 (x3 - 1)) then (if (wrap64 (x3 - 1)) < (x0.length : Int) then (if 0 ≤ x3 then ((octet_Less.f ((rd_T49 x0 (wrap64 (x3 - 1))).f0) ((rd_T49 x0 x3).f0)).bind fun t252 => (if t252 = true then (merge_Right.l0 k x0 (wrap64 (x3 + 1))) else (some false))) else (none)) else (none)) else (none)) else (some true)
def merge_Right.f (k : Nat) (l0 : List (S49)) : Option (Bool) := merge_Right.l0 k l0 1
theorem merge_Right.mono_l : ∀ k, (∀ y0 y1, LeO (merge_Right.l0 k y0 y1) (merge_Right.l0 (k + 1) y0 y1))
 | 0 => fun _ _ r h => by simp [merge_Right.l0] at h
 | k + 1 => by
  have ih0 := merge_Right.mono_l k
  ·intro y0 y1
   unfold merge_Right.l0
   repeat' first
   | (with_reducible exact ih0 _ _)
   | (with_reducible exact LeO.refl _)
   | (with_reducible exact LeO.none _)
   | (with_reducible refine LeO.ite ?_ ?_)
   | (with_reducible refine LeO.bind ?_ (fun _ => ?_))
   | exact ih0 _ _
   | exact LeO.none _
   | refine LeO.ite ?_ ?_
   | refine LeO.bind ?_ (fun _ => ?_)
theorem merge_Right.mono : ∀ a0 k, LeO (merge_Right.f k a0) (merge_Right.f (k + 1) a0) := by
 intro a0 k
 have ih0 := merge_Right.mono_l k
 unfold merge_Right.f
 repeat' first
   | (with_reducible exact ih0 _ _)
   | (with_reducible exact LeO.refl _)
   | (with_reducible exact LeO.none _)
   | (with_reducible refine LeO.ite ?_ ?_)
   | (with_reducible refine LeO.bind ?_ (fun _ => ?_))
   | exact ih0 _ _
   | exact LeO.none _
   | refine LeO.ite ?_ ?_
   | refine LeO.bind ?_ (fun _ => ?_)
set_option maxHeartbeats 8000000 in
set_option maxRecDepth 100000 in
theorem merge_Right.calls (k : Nat) (A0 : Option Addr) (c0 : Nat) (l0 : List (S49)) (r : Bool) (w : World) (hr0 : Kd.C k49 w A0 l0.length l0) (hc0 : l0.length ≤ c0) (h : merge_Right.f k l0 = some r) :
  Calls Try.prog 33 #[.slice A0 l0.length c0] w fun e w' => e = .returned (.bool r) ∧ Drawn0 w w' := by
 have HR0 := Aside0.mk hr0
 have HC0 := Aside0.mk hc0
 clear hr0 hc0
 have H : (merge_Right.l0 k l0 1) = some r := h
 clear h
 have H' := Aside0.mk H
 clear H
 go_enter Try.func33, Try.ntmps33
 go_wp2
 repeat (go_quiet (fail); try go_wp2)
 go_loopg [3] k (fun kq v3 w' => ∃ (x3_1 : Int), v3 = .int .i64 x3_1 ∧ Aside0 (merge_Right.l0 kq l0 x3_1 = some r) ∧ Aside0 (kq ≤ k) ∧ Drawn0 w w')
 case atStart => exact ⟨(1), (by first | rfl | (simp; done) | (simp [*]; done)), H', ⟨Nat.le_refl _⟩, by repeat (first | exact Drawn0.refl _ | apply Drawn0.step)⟩
 case round =>
  clear H'
  obtain ⟨x3_1, rfl, HA, HK1, ⟨m1, rfl⟩⟩ := hrel
  cases gk with
  | zero => exact absurd HA.out (by simp [merge_Right.l0])
  | succ k1 =>
   have H := HA.out
   clear HA
   simp only [merge_Right.l0] at H
   by_cases c2 : x3_1 < (l0.length : Int)
   ·rw [if_pos c2] at H
    have c2b0 : decide (x3_1 < (l0.length : Int)) = true := decide_eq_true c2
    clear c2
    obtain ⟨ji3, hji3⟩ : ∃ j_ : Int, (wrap64 (x3_1 - 1)) = j_ := ⟨_, rfl⟩
    replace H : (if 0 ≤ (ji3) then (if (ji3) < (l0.length : Int) then (if 0 ≤ x3_1 then ((octet_Less.f ((rd_T49 l0 (ji3)).f0) ((rd_T49 l0 x3_1).f0)).bind fun t252 => (if t252 = true then (merge_Right.l0 k1 l0 (wrap64 (x3_1 + 1))) else (some false))) else (none)) else (none)) else (none)) = some r := by first | (rw [hji3] at H; exact H) | (simp only [hji3] at H ⊢; exact H)
    have hji3w : (IntKind.i64.wrap (x3_1 - 1)) = ji3 := (i64_w _).trans hji3
    by_cases c4 : 0 ≤ (ji3)
    ·rw [if_pos c4] at H
     have c4b0 : decide (0 ≤ (ji3)) = true := decide_eq_true c4
     clear c4
     by_cases c5 : (ji3) < (l0.length : Int)
     ·rw [if_pos c5] at H
      have c5b0 : decide ((ji3) < (l0.length : Int)) = true := decide_eq_true c5
      clear c5
      by_cases c6 : 0 ≤ x3_1
      ·rw [if_pos c6] at H
       have c6b0 : decide (0 ≤ x3_1) = true := decide_eq_true c6
       clear c6
       replace H := Option.bind_eq_some_iff.mp H
       obtain ⟨t252, A70, H⟩ := H
       replace H : (if t252 = true then (merge_Right.l0 k1 l0 (wrap64 (x3_1 + 1))) else (some false)) = some r := H
       have A7 := Aside0.mk A70
       clear A70
       by_cases c8 : t252 = true
       ·subst c8
        have H1 : (merge_Right.l0 k1 l0 (wrap64 (x3_1 + 1))) = some r := by rw [if_pos rfl] at H; exact H
        clear H
        have H := H1
        clear H1
        have H' := Aside0.mk H
        clear H
        have p250 : 0 ≤ ((ji3) : Int) := of_decide_eq_true (by first | (with_reducible assumption) | assumption)
        have q250 : (ji3) < (l0.length : Int) := of_decide_eq_true (by first | (with_reducible assumption) | assumption)
        obtain ⟨ad250, A250_0, c250_0, A250_1, c250_1, e250, hx250_0, hx250_1, hx250_2, hl250_0, hi250_0, hl250_1, hi250_1⟩ := at_T49 HR0.out (ji3) p250 q250
        cases e250
        have HR250_0 := Aside0.mk hi250_0
        have HC250_0 := Aside0.mk hl250_0
        clear hi250_0 hl250_0
        have HR250_1 := Aside0.mk hi250_1
        have HC250_1 := Aside0.mk hl250_1
        clear hi250_1 hl250_1
        replace p250 := eq_true p250
        replace q250 := eq_true q250
        have p251 : 0 ≤ (x3_1 : Int) := of_decide_eq_true (by first | (with_reducible assumption) | assumption)
        have q251 : x3_1 < (l0.length : Int) := of_decide_eq_true (by first | (with_reducible assumption) | assumption)
        obtain ⟨ad251, A251_0, c251_0, A251_1, c251_1, e251, hx251_0, hx251_1, hx251_2, hl251_0, hi251_0, hl251_1, hi251_1⟩ := at_T49 HR0.out x3_1 p251 q251
        obtain rfl : ad250 = ad251 := (by injection e251)
        have HR251_0 := Aside0.mk hi251_0
        have HC251_0 := Aside0.mk hl251_0
        clear hi251_0 hl251_0
        have HR251_1 := Aside0.mk hi251_1
        have HC251_1 := Aside0.mk hl251_1
        clear hi251_1 hl251_1
        replace p251 := eq_true p251
        replace q251 := eq_true q251
        go_wp2_with (first | (go_at_call 54; (with_reducible refine (octet_Less.calls _ _ ((rd_T49 l0 (ji3)).f0) _ _ ((rd_T49 l0 x3_1).f0) true _ ?side1 ?side2 ?side3 ?side4 A7.out).mono ?_); (case side1 => repeat (first | exact HR250_0.out | (with_reducible refine Kd.C_alloc ?_ _) | (with_reducible refine Kd.C_drewN ?_ _) | (with_reducible refine Kd.C_drew ?_))); (case side2 => exact HC250_0.out); (case side3 => repeat (first | exact HR251_0.out | (with_reducible refine Kd.C_alloc ?_ _) | (with_reducible refine Kd.C_drewN ?_ _) | (with_reducible refine Kd.C_drew ?_))); (case side4 => exact HC251_0.out); rintro e w' ⟨rfl, ⟨nd, rfl⟩⟩; (try first | exact ⟨rfl, _, World.drewN_drewN _ _ _⟩ | exact ⟨rfl, _, Eq.trans (World.drewN_drewN _ _ _) (congrArg (World.drewN _) (Nat.add_assoc _ _ _))⟩)))
        repeat (go_quiet (first | (go_at_call 54; (with_reducible refine (octet_Less.calls _ _ ((rd_T49 l0 (ji3)).f0) _ _ ((rd_T49 l0 x3_1).f0) true _ ?side1 ?side2 ?side3 ?side4 A7.out).mono ?_); (case side1 => repeat (first | exact HR250_0.out | (with_reducible refine Kd.C_alloc ?_ _) | (with_reducible refine Kd.C_drewN ?_ _) | (with_reducible refine Kd.C_drew ?_))); (case side2 => exact HC250_0.out); (case side3 => repeat (first | exact HR251_0.out | (with_reducible refine Kd.C_alloc ?_ _) | (with_reducible refine Kd.C_drewN ?_ _) | (with_reducible refine Kd.C_drew ?_))); (case side4 => exact HC251_0.out); rintro e w' ⟨rfl, ⟨nd, rfl⟩⟩; (try first | exact ⟨rfl, _, World.drewN_drewN _ _ _⟩ | exact ⟨rfl, _, Eq.trans (World.drewN_drewN _ _ _) (congrArg (World.drewN _) (Nat.add_assoc _ _ _))⟩))); try go_wp2_with (first | (go_at_call 54; (with_reducible refine (octet_Less.calls _ _ ((rd_T49 l0 (ji3)).f0) _ _ ((rd_T49 l0 x3_1).f0) true _ ?side1 ?side2 ?side3 ?side4 A7.out).mono ?_); (case side1 => repeat (first | exact HR250_0.out | (with_reducible refine Kd.C_alloc ?_ _) | (with_reducible refine Kd.C_drewN ?_ _) | (with_reducible refine Kd.C_drew ?_))); (case side2 => exact HC250_0.out); (case side3 => repeat (first | exact HR251_0.out | (with_reducible refine Kd.C_alloc ?_ _) | (with_reducible refine Kd.C_drewN ?_ _) | (with_reducible refine Kd.C_drew ?_))); (case side4 => exact HC251_0.out); rintro e w' ⟨rfl, ⟨nd, rfl⟩⟩; (try first | exact ⟨rfl, _, World.drewN_drewN _ _ _⟩ | exact ⟨rfl, _, Eq.trans (World.drewN_drewN _ _ _) (congrArg (World.drewN _) (Nat.add_assoc _ _ _))⟩))))
        go_roundg k1
        case measure => have := HK1.out; omega
        case rel => exact ⟨(wrap64 (x3_1 + 1)), (by first | rfl | (simp; done) | (simp [*]; done)), H', ⟨by have := HK1.out; omega⟩, by repeat (first | exact Drawn0.refl _ | apply Drawn0.step)⟩
       ·replace c8 := Bool.eq_false_iff.mpr c8
        subst c8
        have H1 : (some false) = some r := by rw [if_neg (show ¬ (false = true) by decide)] at H; exact H
        clear H
        have H := H1
        clear H1
        obtain rfl := Option.some.inj H
        have p250 : 0 ≤ ((ji3) : Int) := of_decide_eq_true (by first | (with_reducible assumption) | assumption)
        have q250 : (ji3) < (l0.length : Int) := of_decide_eq_true (by first | (with_reducible assumption) | assumption)
        obtain ⟨ad250, A250_0, c250_0, A250_1, c250_1, e250, hx250_0, hx250_1, hx250_2, hl250_0, hi250_0, hl250_1, hi250_1⟩ := at_T49 HR0.out (ji3) p250 q250
        cases e250
        have HR250_0 := Aside0.mk hi250_0
        have HC250_0 := Aside0.mk hl250_0
        clear hi250_0 hl250_0
        have HR250_1 := Aside0.mk hi250_1
        have HC250_1 := Aside0.mk hl250_1
        clear hi250_1 hl250_1
        replace p250 := eq_true p250
        replace q250 := eq_true q250
        have p251 : 0 ≤ (x3_1 : Int) := of_decide_eq_true (by first | (with_reducible assumption) | assumption)
        have q251 : x3_1 < (l0.length : Int) := of_decide_eq_true (by first | (with_reducible assumption) | assumption)
        obtain ⟨ad251, A251_0, c251_0, A251_1, c251_1, e251, hx251_0, hx251_1, hx251_2, hl251_0, hi251_0, hl251_1, hi251_1⟩ := at_T49 HR0.out x3_1 p251 q251
        obtain rfl : ad250 = ad251 := (by injection e251)
        have HR251_0 := Aside0.mk hi251_0
        have HC251_0 := Aside0.mk hl251_0
        clear hi251_0 hl251_0
        have HR251_1 := Aside0.mk hi251_1
        have HC251_1 := Aside0.mk hl251_1
        clear hi251_1 hl251_1
        replace p251 := eq_true p251
        replace q251 := eq_true q251
        go_wp2_with (first | (go_at_call 54; (with_reducible refine (octet_Less.calls _ _ ((rd_T49 l0 (ji3)).f0) _ _ ((rd_T49 l0 x3_1).f0) false _ ?side1 ?side2 ?side3 ?side4 A7.out).mono ?_); (case side1 => repeat (first | exact HR250_0.out | (with_reducible refine Kd.C_alloc ?_ _) | (with_reducible refine Kd.C_drewN ?_ _) | (with_reducible refine Kd.C_drew ?_))); (case side2 => exact HC250_0.out); (case side3 => repeat (first | exact HR251_0.out | (with_reducible refine Kd.C_alloc ?_ _) | (with_reducible refine Kd.C_drewN ?_ _) | (with_reducible refine Kd.C_drew ?_))); (case side4 => exact HC251_0.out); rintro e w' ⟨rfl, ⟨nd, rfl⟩⟩; (try first | exact ⟨rfl, _, World.drewN_drewN _ _ _⟩ | exact ⟨rfl, _, Eq.trans (World.drewN_drewN _ _ _) (congrArg (World.drewN _) (Nat.add_assoc _ _ _))⟩)))
        repeat (go_quiet (first | (go_at_call 54; (with_reducible refine (octet_Less.calls _ _ ((rd_T49 l0 (ji3)).f0) _ _ ((rd_T49 l0 x3_1).f0) false _ ?side1 ?side2 ?side3 ?side4 A7.out).mono ?_); (case side1 => repeat (first | exact HR250_0.out | (with_reducible refine Kd.C_alloc ?_ _) | (with_reducible refine Kd.C_drewN ?_ _) | (with_reducible refine Kd.C_drew ?_))); (case side2 => exact HC250_0.out); (case side3 => repeat (first | exact HR251_0.out | (with_reducible refine Kd.C_alloc ?_ _) | (with_reducible refine Kd.C_drewN ?_ _) | (with_reducible refine Kd.C_drew ?_))); (case side4 => exact HC251_0.out); rintro e w' ⟨rfl, ⟨nd, rfl⟩⟩; (try first | exact ⟨rfl, _, World.drewN_drewN _ _ _⟩ | exact ⟨rfl, _, Eq.trans (World.drewN_drewN _ _ _) (congrArg (World.drewN _) (Nat.add_assoc _ _ _))⟩))); try go_wp2_with (first | (go_at_call 54; (with_reducible refine (octet_Less.calls _ _ ((rd_T49 l0 (ji3)).f0) _ _ ((rd_T49 l0 x3_1).f0) false _ ?side1 ?side2 ?side3 ?side4 A7.out).mono ?_); (case side1 => repeat (first | exact HR250_0.out | (with_reducible refine Kd.C_alloc ?_ _) | (with_reducible refine Kd.C_drewN ?_ _) | (with_reducible refine Kd.C_drew ?_))); (case side2 => exact HC250_0.out); (case side3 => repeat (first | exact HR251_0.out | (with_reducible refine Kd.C_alloc ?_ _) | (with_reducible refine Kd.C_drewN ?_ _) | (with_reducible refine Kd.C_drew ?_))); (case side4 => exact HC251_0.out); rintro e w' ⟨rfl, ⟨nd, rfl⟩⟩; (try first | exact ⟨rfl, _, World.drewN_drewN _ _ _⟩ | exact ⟨rfl, _, Eq.trans (World.drewN_drewN _ _ _) (congrArg (World.drewN _) (Nat.add_assoc _ _ _))⟩))))
        go_ret
        exact ⟨by first | rfl | (simp; done) | (simp only [← hji3] <;> (first | rfl | simp)) | (simp [*]; done), by repeat (first | exact Drawn0.refl _ | apply Drawn0.step)⟩
      ·rw [if_neg c6] at H
       exact absurd H (by simp)
     ·rw [if_neg c5] at H
      exact absurd H (by simp)
    ·rw [if_neg c4] at H
     exact absurd H (by simp)
   ·rw [if_neg c2] at H
    have c2b0 : decide (x3_1 < (l0.length : Int)) = false := decide_eq_false c2
    clear c2
    obtain rfl := Option.some.inj H
    go_wp2
    repeat (go_quiet (fail); try go_wp2)
    go_ret
    exact ⟨by first | rfl | (simp; done) | (simp [*]; done), by repeat (first | exact Drawn0.refl _ | apply Drawn0.step)⟩

end Go.Proofs.Ytmimfnangdabmaa.PMergeTells

/- The walk of the Go functions that a law reaches, told as plain functions; a program of this session has written it. No condition beyond the statement's own. -/
import Derived.Test.YtmimfnangdabmaaPFrameBatchesx0
import Derived.Test.YtmimfnangdabmaaPFrameBatchesx1
namespace Go.Proofs.Ytmimfnangdabmaa.PFrameBatches
open Go.RowKit Go.Proofs.YtmimfnangdabmaaW.PrintWords Go.Proofs.YtmimfnangdabmaaW.PrintLast Go.Proofs.YtmimfnangdabmaaW.PrintMore
attribute [local go_sem] max2_int min2_int max_two min_two max_three min_three max_four min_four   -- for this text's walks alone
set_option linter.unusedVariables false
set_option linter.unusedSimpArgs false

/-- A shared row that has an element lies in a block of its own footprint: in a world without that block it could not be read. -/
theorem V_blk {α : Type} {d : Kd α} {e base n c : Nat} {ok : Nat → Prop} {W : World} {ad : Addr} {g : Nat} {xs : List α} (h : Kd.V d e W base ok (.slice (some ad) n c) xs) (z : α) (hz : 0 < d.sz) (hn : 0 < n) (hok : ∀ k, ok k → k ≠ g) : ad.block ≠ g := by
  rintro rfl
  have hC : Kd.C d { W with heap := W.heap.setIfInBounds ad.block (.cells #[] 0 (0, 0)) } (some ad) n xs := Kd.V_F h _ (fun k hk _ => Array.getElem?_setIfInBounds_ne (Ne.symm (hok k hk)))
  obtain ⟨ad', cs, he, hl, _, hc⟩ := Kd.C_get hC z 0 (by omega) (by omega)
  injection he with he
  subst he
  cases cs with
  | nil => simp at hl; omega
  | cons u l =>
   have hu := hc 0 u rfl
   by_cases hb : ad.block < W.heap.size
   · simp [World.cell?, add_block, Array.getElem?_setIfInBounds, hb] at hu
   · simp [World.cell?, add_block, Array.getElem?_setIfInBounds, hb] at hu
theorem far3 {W : World} {g i j k : Nat} {u v z : Value} {a : Addr} (h : a.block ≠ g) : (((W.setCell ⟨g, i, none⟩ u).setCell ⟨g, j, none⟩ v).setCell ⟨g, k, none⟩ z).cell? a = W.cell? a := (cell_far (p := ⟨g, k, none⟩) h z).trans ((cell_far (p := ⟨g, j, none⟩) h v).trans (cell_far (p := ⟨g, i, none⟩) h u))
/-! ### marigraphkeep_Entries: function 21 -/
mutual
def marigraphkeep_Entries.l0 : Nat → List (S49) → Int → Int → Int → List (S49) → Int → Option ((List (S49)))
 | 0, _, _, _, _, _, _ => none
 | k + 1, x0, x1, x2, x3, x9, x10 => if x10 < (x0.length : Int) then (marigraphkeep_Entries.j1 k x0 x1 x2 x3 x9 x10 (decide (x10 < x1))) else (marigraphkeep_Entries.j1 k x0 x1 x2 x3 x9 x10 false)
def marigraphkeep_Entries.j1 : Nat → List (S49) → Int → Int → Int → List (S49) → Int → Bool → Option ((List (S49)))
 | 0, _, _, _, _, _, _, _ => none
 | k + 1, x0, x1, x2, x3, x9, x10, x20 => if x20 = true then (if 0 ≤ x10 then (if x10 < (x0.length : Int) then ((marigraphkeep_Cut.f ((rd_T49 x0 x10).f0) x2).bind fun t166 => (if (t166.length : Int) = 0 then ((some (([107] : List Int) : List Int)).bind fun y171 => (if ((rd_T49 x0 x10).f2 = true) then (if x9.length < 2513169434916 then (marigraphkeep_Entries.l0 k x0 x1 x2 x3 (x9 ++ [(⟨y171, ([] : List Int), (rd_T49 x0 x10).f2⟩ : S49)]) (wrap64 (x10 + 1))) else (none)) else ((marigraphkeep_Cut.f ((rd_T49 x0 x10).f1) x3).bind fun t178 => (if x9.length < 2513169434916 then (marigraphkeep_Entries.l0 k x0 x1 x2 x3 (x9 ++ [(⟨y171, t178, (rd_T49 x0 x10).f2⟩ : S49)]) (wrap64 (x10 + 1))) else (none))))) else (if ((rd_T49 x0 x10).f2 = true) then (if x9.length < 2513169434916 then (marigraphkeep_Entries.l0 k x0 x1 x2 x3 (x9 ++ [(⟨t166, ([] : List Int), (rd_T49 x0 x10).f2⟩ : S49)]) (wrap64 (x10 + 1))) else (none)) else ((marigraphkeep_Cut.f ((rd_T49 x0 x10).f1) x3).bind fun t188 => (if x9.length < 2513169434916 then (marigraphkeep_Entries.l0 k x0 x1 x2 x3 (x9 ++ [(⟨t166, t188, (rd_T49 x0 x10).f2⟩ : S49)]) (wrap64 (x10 + 1))) else (none)))))) else (none)) else (none)) else (some x9)
end
def marigraphkeep_Entries.f (k : Nat) (l0 : List (S49)) (a1 : Int) (a2 : Int) (a3 : Int) : Option ((List (S49))) := marigraphkeep_Entries.l0 k l0 a1 a2 a3 ([] : List (S49)) 0
theorem marigraphkeep_Entries.mono_l : ∀ k, (∀ y0 y1 y2 y3 y4 y5, LeO (marigraphkeep_Entries.l0 k y0 y1 y2 y3 y4 y5) (marigraphkeep_Entries.l0 (k + 1) y0 y1 y2 y3 y4 y5)) ∧ (∀ y0 y1 y2 y3 y4 y5 y6, LeO (marigraphkeep_Entries.j1 k y0 y1 y2 y3 y4 y5 y6) (marigraphkeep_Entries.j1 (k + 1) y0 y1 y2 y3 y4 y5 y6))
 | 0 => ⟨fun _ _ _ _ _ _ r h => by simp [marigraphkeep_Entries.l0] at h, fun _ _ _ _ _ _ _ r h => by simp [marigraphkeep_Entries.j1] at h⟩
 | k + 1 => by
  obtain ⟨ih0, ih1⟩ := marigraphkeep_Entries.mono_l k
  refine ⟨?_, ?_⟩
  ·intro y0 y1 y2 y3 y4 y5
   unfold marigraphkeep_Entries.l0
   repeat' first
   | (with_reducible exact ih0 _ _ _ _ _ _)
   | (with_reducible exact ih1 _ _ _ _ _ _ _)
   | (with_reducible exact LeO.refl _)
   | (with_reducible exact LeO.none _)
   | (with_reducible refine LeO.ite ?_ ?_)
   | (with_reducible refine LeO.bind ?_ (fun _ => ?_))
   | exact ih0 _ _ _ _ _ _
   | exact ih1 _ _ _ _ _ _ _
   | exact LeO.none _
   | refine LeO.ite ?_ ?_
   | refine LeO.bind ?_ (fun _ => ?_)
  ·intro y0 y1 y2 y3 y4 y5 y6
   unfold marigraphkeep_Entries.j1
   repeat' first
   | (with_reducible exact ih0 _ _ _ _ _ _)
   | (with_reducible exact ih1 _ _ _ _ _ _ _)
   | (with_reducible exact LeO.refl _)
   | (with_reducible exact LeO.none _)
   | (with_reducible refine LeO.ite ?_ ?_)
   | (with_reducible refine LeO.bind ?_ (fun _ => ?_))
   | exact ih0 _ _ _ _ _ _
   | exact ih1 _ _ _ _ _ _ _
   | exact LeO.none _
   | refine LeO.ite ?_ ?_
   | refine LeO.bind ?_ (fun _ => ?_)
theorem marigraphkeep_Entries.mono : ∀ a0 a1 a2 a3 k, LeO (marigraphkeep_Entries.f k a0 a1 a2 a3) (marigraphkeep_Entries.f (k + 1) a0 a1 a2 a3) := by
 intro a0 a1 a2 a3 k
 obtain ⟨ih0, ih1⟩ := marigraphkeep_Entries.mono_l k
 unfold marigraphkeep_Entries.f
 repeat' first
   | (with_reducible exact ih0 _ _ _ _ _ _)
   | (with_reducible exact ih1 _ _ _ _ _ _ _)
   | (with_reducible exact LeO.refl _)
   | (with_reducible exact LeO.none _)
   | (with_reducible refine LeO.ite ?_ ?_)
   | (with_reducible refine LeO.bind ?_ (fun _ => ?_))
   | exact ih0 _ _ _ _ _ _
   | exact ih1 _ _ _ _ _ _ _
   | exact LeO.none _
   | refine LeO.ite ?_ ?_
   | refine LeO.bind ?_ (fun _ => ?_)
def marigraphkeep_Entries.T5 : Bool × List (List Nat × List Nat) := (true, [([], []), ([], []), ([0, 1], [0, 1]), ([2], [2]), ([3], [3]), ([], []), ([4, 5], [4, 5]), ([], []), ([], []), ([7, 8], [7, 8]), ([9], [9]), ([10], [10]), ([6, 11], [6, 11]), ([], []), ([13, 12, 6, 0, 1, 2, 3, 4, 5, 6, 7, 8, 9, 10, 11, 12, 13], [12, 13])])
def marigraphkeep_Entries.B5 : List Nat := [0, 0, 3, 7, 15, 0, 63, 0, 0, 384, 896, 1920, 4095, 0, 16383]
theorem marigraphkeep_Entries.tab5 : rtab .any (opsOf Try.f21 5) = marigraphkeep_Entries.T5 := by kernel_rfl
theorem marigraphkeep_Entries.bits5 : waitsOk marigraphkeep_Entries.T5.2 marigraphkeep_Entries.B5 = true := by kernel_rfl
set_option maxHeartbeats 8000000 in
set_option maxRecDepth 100000 in
theorem marigraphkeep_Entries.calls (k : Nat) (P0_ : Nat → Prop) (A0 : Option Addr) (c0 : Nat) (l0 : List (S49)) (a1 : Int) (a2 : Int) (a3 : Int) (r : List (S49)) (w : World) (hs0 : Kd.V k49 49 w w.heap.size (fun k_ => P0_ k_) (.slice A0 l0.length c0) l0) (h : marigraphkeep_Entries.f k l0 a1 a2 a3 = some r) :
  Calls Try.prog 21 #[.slice A0 l0.length c0, .int .i64 a1, .int .i64 a2, .int .i64 a3] w fun e w' => ∃ v0_ : Value, e = .returned (v0_) ∧ Kd.N k49 49 w' w.heap.size (fun k_ => (P0_ k_ ∨ w.heap.size ≤ k_)) v0_ r ∧ Below w.heap.size w w' := by
 have hu49 := Try.underlying49
 have HO0 := Aside0.mk (show Kd.V k49 49 w w.heap.size (fun k_ => (P0_ k_ ∨ w.heap.size ≤ k_)) (.slice A0 l0.length c0) l0 from Kd.V_mono hs0 (fun k_ hk => .inl hk))
 have HB := Aside0.mk (Below.refl w.heap.size w)
 have H : (marigraphkeep_Entries.l0 k l0 a1 a2 a3 ([] : List (S49)) 0) = some r := h
 clear h
 have H' := Aside0.mk H
 clear H
 go_enter Try.func21, Try.ntmps21
 go_wp2
 go_loopg [9, 10] k (fun kq v9 v10 w' => ∃ (x9_1 : List (S49)) (x10_1 : Int), v10 = .int .i64 x10_1 ∧ Aside0 (marigraphkeep_Entries.l0 kq l0 a1 a2 a3 x9_1 x10_1 = some r) ∧ Aside0 (kq ≤ k) ∧ Aside0 (Kd.V k49 49 w' w.heap.size (fun k_ => (P0_ k_ ∨ w.heap.size ≤ k_) ∧ some k_ ≠ (v9 : Value).ownBlock) (.slice A0 l0.length c0) l0) ∧ Aside0 (Kd.N k49 49 w' w.heap.size (fun k_ => (P0_ k_ ∨ w.heap.size ≤ k_)) v9 x9_1) ∧ Aside0 (Below w.heap.size w w'))
 case atStart => exact ⟨(([] : List (S49))), (0), (by first | rfl | (simp; done) | (simp [*]; done)), H', ⟨Nat.le_refl _⟩, ⟨by (with_reducible repeat (first | apply Kd.V_alloc | apply Kd.V_drewN | apply Kd.V_drew)); exact Kd.V_mono HO0.out (fun _ hk => ⟨hk, (by simp [Value.ownBlock])⟩)⟩, ⟨by first | exact Kd.S_nil _ _ _ _ _ | exact Kd.N_nil _ _ _ _ _ | exact Kd.V_nil _ _ _ _ _ | exact Kd.Q_nil _ _ _ _ _ | exact Kd.R_nil _ _ _ _ _⟩, ⟨(belN HB.out)⟩⟩
 case round =>
  clear H'
  try clear c2
  try clear p2
  obtain ⟨x9_1, x10_1, rfl, HA, HK1, HO_0, HO_9, HB⟩ := hrel
  cases gk with
  | zero => exact absurd HA.out (by simp [marigraphkeep_Entries.l0])
  | succ k1 =>
   have H := HA.out
   clear HA
   simp only [marigraphkeep_Entries.l0] at H
   have HC5 := Aside0.mk H
   clear H
   go_upto_region 3 with (fail)
   go_cut [20] (fun v20 wc => ∃ (kq : Nat) (x20_4 : Bool), v20 = .bool x20_4 ∧ Aside0 (marigraphkeep_Entries.j1 kq l0 a1 a2 a3 x9_1 x10_1 x20_4 = some r) ∧ Aside0 (kq ≤ k1) ∧ Aside0 (Kd.V k49 49 wc w.heap.size (fun k_ => (P0_ k_ ∨ w.heap.size ≤ k_) ∧ some k_ ≠ (u9 : Value).ownBlock) (.slice A0 l0.length c0) l0) ∧ Aside0 (Kd.N k49 49 wc w.heap.size (fun k_ => (P0_ k_ ∨ w.heap.size ≤ k_)) u9 x9_1) ∧ Aside0 (Below w.heap.size w wc))
   case first =>
    have H := HC5.out
    clear HC5
    by_cases c6 : x10_1 < (l0.length : Int)
    ·rw [if_pos c6] at H
     have c6b0 : decide (x10_1 < (l0.length : Int)) = true := decide_eq_true c6
     clear c6
     (first | rw [c6b0] | rw [c6b1] | (simp only [i64_w, i32_w]; rw [c6b0]) | skip)
     have H' := Aside0.mk H
     clear H
     go_wp2
     go_meet
     case rel => exact ⟨_, (decide (x10_1 < a1)), (by first | rfl | (simp; done) | (simp [*]; done)), H', ⟨by have := HK1.out; first | omega | exact Nat.le_refl _⟩, ⟨by (with_reducible repeat (first | apply Kd.V_alloc | apply Kd.V_drewN | apply Kd.V_drew)); exact HO_0.out⟩, ⟨by (with_reducible repeat (first | apply Kd.N_alloc | apply Kd.N_drewN | apply Kd.N_drew)); exact HO_9.out⟩, ⟨(belN HB.out)⟩⟩
    ·rw [if_neg c6] at H
     have c6b0 : decide (x10_1 < (l0.length : Int)) = false := decide_eq_false c6
     clear c6
     (first | rw [c6b0] | rw [c6b1] | (simp only [i64_w, i32_w]; rw [c6b0]) | skip)
     have H' := Aside0.mk H
     clear H
     go_wp2
     go_meet
     case rel => exact ⟨_, (false), (by first | rfl | (simp; done) | (simp [*]; done)), H', ⟨by have := HK1.out; first | omega | exact Nat.le_refl _⟩, ⟨by (with_reducible repeat (first | apply Kd.V_alloc | apply Kd.V_drewN | apply Kd.V_drew)); exact HO_0.out⟩, ⟨by (with_reducible repeat (first | apply Kd.N_alloc | apply Kd.N_drewN | apply Kd.N_drew)); exact HO_9.out⟩, ⟨(belN HB.out)⟩⟩
   case rest =>
    clear HC5
    try clear c2
    try clear p2
    try clear c6
    try clear c6b0
    try clear p2
    obtain ⟨kq, x20_4, rfl, HA, HJ4, HO_0, HO_9, HB⟩ := hcut
    cases kq with
    | zero => exact absurd HA.out (by simp [marigraphkeep_Entries.j1])
    | succ kj4 =>
     have H := HA.out
     clear HA
     simp only [marigraphkeep_Entries.j1] at H
     by_cases c7 : x20_4 = true
     ·subst c7
      have H1 : (if 0 ≤ x10_1 then (if x10_1 < (l0.length : Int) then ((marigraphkeep_Cut.f ((rd_T49 l0 x10_1).f0) a2).bind fun t166 => (if (t166.length : Int) = 0 then ((some (([107] : List Int) : List Int)).bind fun y171 => (if ((rd_T49 l0 x10_1).f2 = true) then (if x9_1.length < 2513169434916 then (marigraphkeep_Entries.l0 kj4 l0 a1 a2 a3 (x9_1 ++ [(⟨y171, ([] : List Int), (rd_T49 l0 x10_1).f2⟩ : S49)]) (wrap64 (x10_1 + 1))) else (none)) else ((marigraphkeep_Cut.f ((rd_T49 l0 x10_1).f1) a3).bind fun t178 => (if x9_1.length < 2513169434916 then (marigraphkeep_Entries.l0 kj4 l0 a1 a2 a3 (x9_1 ++ [(⟨y171, t178, (rd_T49 l0 x10_1).f2⟩ : S49)]) (wrap64 (x10_1 + 1))) else (none))))) else (if ((rd_T49 l0 x10_1).f2 = true) then (if x9_1.length < 2513169434916 then (marigraphkeep_Entries.l0 kj4 l0 a1 a2 a3 (x9_1 ++ [(⟨t166, ([] : List Int), (rd_T49 l0 x10_1).f2⟩ : S49)]) (wrap64 (x10_1 + 1))) else (none)) else ((marigraphkeep_Cut.f ((rd_T49 l0 x10_1).f1) a3).bind fun t188 => (if x9_1.length < 2513169434916 then (marigraphkeep_Entries.l0 kj4 l0 a1 a2 a3 (x9_1 ++ [(⟨t166, t188, (rd_T49 l0 x10_1).f2⟩ : S49)]) (wrap64 (x10_1 + 1))) else (none)))))) else (none)) else (none)) = some r := by rw [if_pos rfl] at H; exact H
      clear H
      have H := H1
      clear H1
      by_cases c8 : 0 ≤ x10_1
      ·rw [if_pos c8] at H
       have c8b0 : decide (0 ≤ x10_1) = true := decide_eq_true c8
       clear c8
       by_cases c9 : x10_1 < (l0.length : Int)
       ·rw [if_pos c9] at H
        have c9b0 : decide (x10_1 < (l0.length : Int)) = true := decide_eq_true c9
        clear c9
        replace H := Option.bind_eq_some_iff.mp H
        obtain ⟨t166, A100, H⟩ := H
        replace H : (if (t166.length : Int) = 0 then ((some (([107] : List Int) : List Int)).bind fun y171 => (if ((rd_T49 l0 x10_1).f2 = true) then (if x9_1.length < 2513169434916 then (marigraphkeep_Entries.l0 kj4 l0 a1 a2 a3 (x9_1 ++ [(⟨y171, ([] : List Int), (rd_T49 l0 x10_1).f2⟩ : S49)]) (wrap64 (x10_1 + 1))) else (none)) else ((marigraphkeep_Cut.f ((rd_T49 l0 x10_1).f1) a3).bind fun t178 => (if x9_1.length < 2513169434916 then (marigraphkeep_Entries.l0 kj4 l0 a1 a2 a3 (x9_1 ++ [(⟨y171, t178, (rd_T49 l0 x10_1).f2⟩ : S49)]) (wrap64 (x10_1 + 1))) else (none))))) else (if ((rd_T49 l0 x10_1).f2 = true) then (if x9_1.length < 2513169434916 then (marigraphkeep_Entries.l0 kj4 l0 a1 a2 a3 (x9_1 ++ [(⟨t166, ([] : List Int), (rd_T49 l0 x10_1).f2⟩ : S49)]) (wrap64 (x10_1 + 1))) else (none)) else ((marigraphkeep_Cut.f ((rd_T49 l0 x10_1).f1) a3).bind fun t188 => (if x9_1.length < 2513169434916 then (marigraphkeep_Entries.l0 kj4 l0 a1 a2 a3 (x9_1 ++ [(⟨t166, t188, (rd_T49 l0 x10_1).f2⟩ : S49)]) (wrap64 (x10_1 + 1))) else (none))))) = some r := H
        have A10 := Aside0.mk A100
        clear A100
        by_cases c11 : (t166.length : Int) = 0
        ·rw [if_pos c11] at H
         have c11b0 : ((t166.length : Int) == 0) = true := beq_iff_eq.mpr c11
         have c11b1 : ((t166.length : Int) != 0) = false := bne_eq_false_iff_eq.mpr c11
         clear c11
         obtain ⟨y171, hy171⟩ : ∃ y_ : List Int, y_ = (([107] : List Int)) := ⟨_, rfl⟩
         replace H : (if ((rd_T49 l0 x10_1).f2 = true) then (if x9_1.length < 2513169434916 then (marigraphkeep_Entries.l0 kj4 l0 a1 a2 a3 (x9_1 ++ [(⟨y171, ([] : List Int), (rd_T49 l0 x10_1).f2⟩ : S49)]) (wrap64 (x10_1 + 1))) else (none)) else ((marigraphkeep_Cut.f ((rd_T49 l0 x10_1).f1) a3).bind fun t178 => (if x9_1.length < 2513169434916 then (marigraphkeep_Entries.l0 kj4 l0 a1 a2 a3 (x9_1 ++ [(⟨y171, t178, (rd_T49 l0 x10_1).f2⟩ : S49)]) (wrap64 (x10_1 + 1))) else (none)))) = some r := by first | (rw [hy171]; with_reducible exact H) | (have H2_ := (Option.bind_some _ _).symm.trans H; rw [hy171]; with_reducible exact H2_) | (have H2_ := (Option.bind_some _ _).symm.trans H; with_reducible exact H2_) | with_reducible exact H | (rw [hy171]; exact H) | exact H
         have Ny171 := Aside0.mk hy171
         clear hy171
         obtain ⟨bq12, hbq12⟩ : ∃ b_ : Bool, b_ = ((rd_T49 l0 x10_1).f2) := ⟨_, rfl⟩
         replace H : (if (bq12 = true) then (if x9_1.length < 2513169434916 then (marigraphkeep_Entries.l0 kj4 l0 a1 a2 a3 (x9_1 ++ [(⟨y171, ([] : List Int), bq12⟩ : S49)]) (wrap64 (x10_1 + 1))) else (none)) else ((marigraphkeep_Cut.f ((rd_T49 l0 x10_1).f1) a3).bind fun t178 => (if x9_1.length < 2513169434916 then (marigraphkeep_Entries.l0 kj4 l0 a1 a2 a3 (x9_1 ++ [(⟨y171, t178, bq12⟩ : S49)]) (wrap64 (x10_1 + 1))) else (none)))) = some r := by rw [← hbq12] at H; exact H
         have Nbq12 := Aside0.mk hbq12
         clear hbq12
         by_cases c13 : (bq12 = true)
         ·subst c13
          have H1 : (if x9_1.length < 2513169434916 then (marigraphkeep_Entries.l0 kj4 l0 a1 a2 a3 (x9_1 ++ [(⟨y171, ([] : List Int), true⟩ : S49)]) (wrap64 (x10_1 + 1))) else (none)) = some r := by rw [if_pos rfl] at H; exact H
          clear H
          have H := H1
          clear H1
          by_cases c14 : x9_1.length < 2513169434916
          ·rw [if_pos c14] at H
           have LMc14 := Aside0.mk c14
           clear c14
           obtain ⟨y174, hy174⟩ : ∃ y_ : List (S49), y_ = (x9_1 ++ [(⟨y171, ([] : List Int), true⟩ : S49)]) := ⟨_, rfl⟩
           replace H : (marigraphkeep_Entries.l0 kj4 l0 a1 a2 a3 y174 (wrap64 (x10_1 + 1))) = some r := by first | (rw [hy174]; with_reducible exact H) | (have H2_ := (Option.bind_some _ _).symm.trans H; rw [hy174]; with_reducible exact H2_) | (have H2_ := (Option.bind_some _ _).symm.trans H; with_reducible exact H2_) | with_reducible exact H | (rw [hy174]; exact H) | exact H
           have Ny174 := Aside0.mk hy174
           clear hy174
           have H' := Aside0.mk H
           clear H
           try go_wp2
           have n0_ := Aside0.mk (Kd.V_drew HO_0.out)
           have n1_ := Aside0.mk (Kd.N_drew HO_9.out)
           have n2_ := Aside0.mk (below_drew1 HB.out)
           clear HO_0
           clear HO_9
           clear HB
           have HO_0 := n0_
           have HO_9 := n1_
           have HB := n2_
           clear n0_ n1_ n2_
           have p165 : 0 ≤ (x10_1 : Int) := of_decide_eq_true (by first | (with_reducible assumption) | assumption)
           have q165 : x10_1 < (l0.length : Int) := of_decide_eq_true (by first | (with_reducible assumption) | assumption)
           obtain ⟨ad165, A165_0, c165_0, A165_1, c165_1, e165, hx165_0, hx165_1, hx165_2, hl165_0, hi165_0, hl165_1, hi165_1⟩ := at_T49 (Kd.V_reads' HO_0.out).2.2 x10_1 p165 q165
           (try rw [← Nbq12.out] at hx165_2)
           cases e165
           obtain ⟨ce165, hce165, hMe165, hcc165⟩ := Kd.V_get HO_0.out z49 x10_1 p165 (by first | exact q165 | exact of_decide_eq_true (by first | (with_reducible assumption) | assumption) | (have e_ := (Kd.V_reads' HO_0.out).1; omega))
           obtain ⟨ua165_0, uc165_0, ua165_1, uc165_1, rfl, ul165_0, ge165_0, ul165_1, ge165_1⟩ := k49_openF hMe165
           have hv165_0 := hcc165 0 _ rfl
           rw [Nat.add_zero] at hv165_0
           replace hv165_0 := Option.some.inj (hv165_0.symm.trans hx165_0)
           injection hv165_0 with hva_ hvn_ hvc_
           rw [hva_] at ge165_0
           rw [hvc_] at ul165_0
           have HL165_0 := Aside0.mk (show Kd.V (Kd.int .u8) 5 _ w.heap.size _ _ ((rd_T49 l0 x10_1).f0) from Kd.V_mk ul165_0 ge165_0)
           clear hva_ hvn_ hvc_ ge165_0 ul165_0
           have hv165_1 := hcc165 1 _ rfl
           rw [add_field _ _ 1 (by omega)] at hv165_1
           replace hv165_1 := Option.some.inj (hv165_1.symm.trans hx165_1)
           injection hv165_1 with hva_ hvn_ hvc_
           rw [hva_] at ge165_1
           rw [hvc_] at ul165_1
           have HL165_1 := Aside0.mk (show Kd.V (Kd.int .u8) 5 _ w.heap.size _ _ ((rd_T49 l0 x10_1).f1) from Kd.V_mk ul165_1 ge165_1)
           clear hva_ hvn_ hvc_ ge165_1 ul165_1
           clear hcc165 hce165
           have HR165_0 := Aside0.mk hi165_0
           have HC165_0 := Aside0.mk hl165_0
           clear hi165_0 hl165_0
           have HR165_1 := Aside0.mk hi165_1
           have HC165_1 := Aside0.mk hl165_1
           clear hi165_1 hl165_1
           replace p165 := eq_true p165
           replace q165 := eq_true q165
           have p169 : 0 ≤ (x10_1 : Int) := of_decide_eq_true (by first | (with_reducible assumption) | assumption)
           have q169 : x10_1 < (l0.length : Int) := of_decide_eq_true (by first | (with_reducible assumption) | assumption)
           obtain ⟨ad169, A169_0, c169_0, A169_1, c169_1, e169, hx169_0, hx169_1, hx169_2, hl169_0, hi169_0, hl169_1, hi169_1⟩ := at_T49 (Kd.V_reads' HO_0.out).2.2 x10_1 p169 q169
           (try rw [← Nbq12.out] at hx169_2)
           obtain rfl : ad165 = ad169 := (by injection e169)
           obtain ⟨ce169, hce169, hMe169, hcc169⟩ := Kd.V_get HO_0.out z49 x10_1 p169 (by first | exact q169 | exact of_decide_eq_true (by first | (with_reducible assumption) | assumption) | (have e_ := (Kd.V_reads' HO_0.out).1; omega))
           obtain ⟨ua169_0, uc169_0, ua169_1, uc169_1, rfl, ul169_0, ge169_0, ul169_1, ge169_1⟩ := k49_openF hMe169
           have hv169_0 := hcc169 0 _ rfl
           rw [Nat.add_zero] at hv169_0
           replace hv169_0 := Option.some.inj (hv169_0.symm.trans hx169_0)
           injection hv169_0 with hva_ hvn_ hvc_
           rw [hva_] at ge169_0
           rw [hvc_] at ul169_0
           have HL169_0 := Aside0.mk (show Kd.V (Kd.int .u8) 5 _ w.heap.size _ _ ((rd_T49 l0 x10_1).f0) from Kd.V_mk ul169_0 ge169_0)
           clear hva_ hvn_ hvc_ ge169_0 ul169_0
           have hv169_1 := hcc169 1 _ rfl
           rw [add_field _ _ 1 (by omega)] at hv169_1
           replace hv169_1 := Option.some.inj (hv169_1.symm.trans hx169_1)
           injection hv169_1 with hva_ hvn_ hvc_
           rw [hva_] at ge169_1
           rw [hvc_] at ul169_1
           have HL169_1 := Aside0.mk (show Kd.V (Kd.int .u8) 5 _ w.heap.size _ _ ((rd_T49 l0 x10_1).f1) from Kd.V_mk ul169_1 ge169_1)
           clear hva_ hvn_ hvc_ ge169_1 ul169_1
           clear hcc169 hce169
           have HR169_0 := Aside0.mk hi169_0
           have HC169_0 := Aside0.mk hl169_0
           clear hi169_0 hl169_0
           have HR169_1 := Aside0.mk hi169_1
           have HC169_1 := Aside0.mk hl169_1
           clear hi169_1 hl169_1
           replace p169 := eq_true p169
           replace q169 := eq_true q169
           have ea_ := Option.some.inj (hx165_0.symm.trans hx169_0)
           injection ea_ with ea_ en_ ec_
           subst ea_
           subst ec_
           clear en_
           have ea_ := Option.some.inj (hx165_1.symm.trans hx169_1)
           injection ea_ with ea_ en_ ec_
           subst ea_
           subst ec_
           clear en_
           refine start_ (n := 15) (S := fun w' => w'.cell? (ad165.add ((x10_1).toNat * 3)) = some (.slice A165_0 ((rd_T49 l0 x10_1).f0).length c165_0) ∧ w'.cell? ⟨(ad165.add ((x10_1).toNat * 3)).block, (ad165.add ((x10_1).toNat * 3)).off + 1, none⟩ = some (.slice A165_1 ((rd_T49 l0 x10_1).f1).length c165_1) ∧ w'.cell? ⟨(ad165.add ((x10_1).toNat * 3)).block, (ad165.add ((x10_1).toNat * 3)).off + 2, none⟩ = some (.bool true) ∧ w'.cell? (ad165.add ((x10_1).toNat * 3)) = some (.slice A165_0 ((rd_T49 l0 x10_1).f0).length c165_0) ∧ w'.cell? ⟨(ad165.add ((x10_1).toNat * 3)).block, (ad165.add ((x10_1).toNat * 3)).off + 1, none⟩ = some (.slice A165_1 ((rd_T49 l0 x10_1).f1).length c165_1) ∧ w'.cell? ⟨(ad165.add ((x10_1).toNat * 3)).block, (ad165.add ((x10_1).toNat * 3)).off + 2, none⟩ = some (.bool true)) (ds := []) #[false, false, false, false, false, false, false, false, false, false, false, false, false, false, false] (by kernel_rfl) rfl rfl ⟨hx165_0, hx165_1, hx165_2, hx169_0, hx169_1, hx169_2⟩ (fun hHeld => ?_); refine with_tabW marigraphkeep_Entries.tab5 marigraphkeep_Entries.bits5 (fun HT_ HW_ => ?_)
           generalize wc.drew = w15 at HO_0 HO_9 HB HL165_0 HL165_1 HL169_0 HL169_1 HR165_0 HR165_1 HR169_0 HR169_1 hx165_0 hx165_1 hx165_2 hx169_0 hx169_1 hx169_2 hHeld ⊢
           refine pA 0 (some 23) (bA 15 1) HT_.out ?_
           refine pA 1 (some 24) (bA 15 3) HT_.out ?_
           refine pA 2 (some 25) (bA 15 7) HT_.out ?_
           refine pA 3 (some 26) (bA 15 15) HT_.out ?_
           refine pA 5 (some 28) (bA 15 47) HT_.out ?_
           refine pA 7 (some 30) (bA 15 175) HT_.out ?_
           refine pA 8 (some 31) (bA 15 431) HT_.out ?_
           refine pA 9 (some 32) (bA 15 943) HT_.out ?_
           refine pA 10 (some 33) (bA 15 1967) HT_.out ?_
           refine take_ (i := 4) (N := some 27) (v := ?_) (a' := ?_) (bA 15 1983) rfl rfl (take_ofW HT_.out HW_.out (by kernel_rfl)) (fun _ _ _ h => h) (Or.inl ⟨by rfl, ?_⟩) hHeld ?_ ?_
           rotate_left
           ·rintro w' ⟨s0, s1, s2, s3, s4, s5⟩
            go_simp
            with_reducible rfl
           rotate_left
           ·simp only [Act.put, List.setIfInBounds_toArray, List.set_cons_zero, List.set_cons_succ, i64_w, i32_w]
            rfl
           refine take_ (i := 11) (N := some 34) (v := ?_) (a' := ?_) (bA 15 4031) rfl rfl (take_ofW HT_.out HW_.out (by kernel_rfl)) (fun _ _ _ h => h) (Or.inl ⟨by rfl, ?_⟩) hHeld ?_ ?_
           rotate_left
           ·rintro w' ⟨s0, s1, s2, s3, s4, s5⟩
            go_simp
            with_reducible rfl
           rotate_left
           ·simp only [Act.put, List.setIfInBounds_toArray, List.set_cons_zero, List.set_cons_succ, i64_w, i32_w]
            rfl
           refine join_ (σ := Value × Nat) 1 (bA 15 16383) (fun s_ => [(29, s_.1), (11, .pointer (some ⟨s_.2, 0, none⟩)), (35, .agg #[s_.1, .slice none 0 0, .bool true])]) (fun s_ w' => (w'.cell? (ad165.add ((x10_1).toNat * 3)) = some (.slice A165_0 ((rd_T49 l0 x10_1).f0).length c165_0) ∧ w'.cell? ⟨(ad165.add ((x10_1).toNat * 3)).block, (ad165.add ((x10_1).toNat * 3)).off + 1, none⟩ = some (.slice A165_1 ((rd_T49 l0 x10_1).f1).length c165_1) ∧ w'.cell? ⟨(ad165.add ((x10_1).toNat * 3)).block, (ad165.add ((x10_1).toNat * 3)).off + 2, none⟩ = some (.bool true) ∧ w'.cell? (ad165.add ((x10_1).toNat * 3)) = some (.slice A165_0 ((rd_T49 l0 x10_1).f0).length c165_0) ∧ w'.cell? ⟨(ad165.add ((x10_1).toNat * 3)).block, (ad165.add ((x10_1).toNat * 3)).off + 1, none⟩ = some (.slice A165_1 ((rd_T49 l0 x10_1).f1).length c165_1) ∧ w'.cell? ⟨(ad165.add ((x10_1).toNat * 3)).block, (ad165.add ((x10_1).toNat * 3)).off + 2, none⟩ = some (.bool true)) ∧ (Kd.V (Kd.int .u8) 5 w' w.heap.size (fun k_ => (P0_ k_ ∨ w.heap.size ≤ k_) ∧ some k_ ≠ (u9 : Value).ownBlock ∧ k_ ≠ s_.2) (.slice A165_0 ((rd_T49 l0 x10_1).f0).length c165_0) ((rd_T49 l0 x10_1).f0)) ∧ (Kd.V (Kd.int .u8) 5 w' w.heap.size (fun k_ => (P0_ k_ ∨ w.heap.size ≤ k_) ∧ some k_ ≠ (u9 : Value).ownBlock ∧ k_ ≠ s_.2) (.slice A165_1 ((rd_T49 l0 x10_1).f1).length c165_1) ((rd_T49 l0 x10_1).f1)) ∧ (Kd.V (Kd.int .u8) 5 w' w.heap.size (fun k_ => (P0_ k_ ∨ w.heap.size ≤ k_) ∧ some k_ ≠ (u9 : Value).ownBlock ∧ k_ ≠ s_.2) (.slice A165_0 ((rd_T49 l0 x10_1).f0).length c165_0) ((rd_T49 l0 x10_1).f0)) ∧ (Kd.V (Kd.int .u8) 5 w' w.heap.size (fun k_ => (P0_ k_ ∨ w.heap.size ≤ k_) ∧ some k_ ≠ (u9 : Value).ownBlock ∧ k_ ≠ s_.2) (.slice A165_1 ((rd_T49 l0 x10_1).f1).length c165_1) ((rd_T49 l0 x10_1).f1)) ∧ (Kd.V (Kd.int .u8) 5 w' w.heap.size (fun k_ => (P0_ k_ ∨ w.heap.size ≤ k_) ∧ some k_ ≠ (u9 : Value).ownBlock ∧ k_ ≠ s_.2) s_.1 t166) ∧ (Kd.V k49 49 w' w.heap.size (fun k_ => (P0_ k_ ∨ w.heap.size ≤ k_) ∧ some k_ ≠ (u9 : Value).ownBlock ∧ k_ ≠ s_.2) (.slice (some ad165) l0.length c0) l0) ∧ (Kd.N k49 49 w' w.heap.size (fun k_ => (P0_ k_ ∨ w.heap.size ≤ k_) ∧ k_ ≠ s_.2) u9 x9_1) ∧ (w'.heap[s_.2]? = some (.cells #[.slice none 0 0, .slice none 0 0, .bool false] 49 (0, 0))) ∧ (w.heap.size ≤ s_.2) ∧ (w.heap.size ≤ s_.2) ∧ (Below w.heap.size w w')) ?_ ?_
           rotate_left
           ·intro hCont
            refine two_ (i := 6) (j := 13) (Ni := some 29) (Nj := some 11) (bA 15 4095) (bA 15 12223) rfl rfl rfl rfl (two_of HT_.out (by kernel_rfl)) (by decide) (by decide) (fun K hK => ?_) (fun K hK => ?_)
            ·skip
             refine goes_ Try.func14 (by kernel_rfl) rfl #[.slice A165_0 ((rd_T49 l0 x10_1).f0).length c165_0, .int .i64 a2] (by rfl) rfl rfl argN ?_
             with_reducible refine (marigraphkeep_Cut.calls (fun k_ => ((P0_ k_ ∨ w.heap.size ≤ k_) ∧ some k_ ≠ (u9 : Value).ownBlock)) _ _ ((rd_T49 l0 x10_1).f0) a2 t166 _ ?side1 A10.out).mono ?_
             (case side1 => exact HL165_0.out)
             rintro e w16 ⟨v167, rfl, ho0, hb⟩
             have HS0_ := (hb.cell (World.block_lt_of_cell? _ _ (hHeld.1))).trans (hHeld.1)
             have HS1_ := (hb.cell (World.block_lt_of_cell? _ _ (hHeld.2.1))).trans (hHeld.2.1)
             have HS2_ := (hb.cell (World.block_lt_of_cell? _ _ (hHeld.2.2.1))).trans (hHeld.2.2.1)
             have HS3_ := (hb.cell (World.block_lt_of_cell? _ _ (hHeld.2.2.2.1))).trans (hHeld.2.2.2.1)
             have HS4_ := (hb.cell (World.block_lt_of_cell? _ _ (hHeld.2.2.2.2.1))).trans (hHeld.2.2.2.2.1)
             have HS5_ := (hb.cell (World.block_lt_of_cell? _ _ (hHeld.2.2.2.2.2))).trans (hHeld.2.2.2.2.2)
             refine ⟨_, rfl, ?_⟩
             have n0_ := Aside0.mk (Kd.V_below (by (with_reducible repeat (first | apply Kd.V_alloc | apply Kd.V_drewN | apply Kd.V_drew)); exact HO_0.out) hb)
             have n1_ := Aside0.mk (Kd.N_below (by (with_reducible repeat (first | apply Kd.N_alloc | apply Kd.N_drewN | apply Kd.N_drew)); exact HO_9.out) hb)
             have n2_ := Aside0.mk (Kd.V_below (by (with_reducible repeat (first | apply Kd.V_alloc | apply Kd.V_drewN | apply Kd.V_drew)); exact HL165_0.out) hb)
             have n3_ := Aside0.mk (Kd.V_below (by (with_reducible repeat (first | apply Kd.V_alloc | apply Kd.V_drewN | apply Kd.V_drew)); exact HL165_1.out) hb)
             have n4_ := Aside0.mk (Kd.V_below (by (with_reducible repeat (first | apply Kd.V_alloc | apply Kd.V_drewN | apply Kd.V_drew)); exact HL169_0.out) hb)
             have n5_ := Aside0.mk (Kd.V_below (by (with_reducible repeat (first | apply Kd.V_alloc | apply Kd.V_drewN | apply Kd.V_drew)); exact HL169_1.out) hb)
             have n6_ := Aside0.mk (Kd.V_lower (Kd.V_mono (ok' := fun k_ => (P0_ k_ ∨ w.heap.size ≤ k_) ∧ some k_ ≠ (u9 : Value).ownBlock) ho0 (fun k_ hk_ => ⟨Or.elim hk_ (fun hs_ => hs_.1) (fun hn_ => (.inr (Nat.le_trans (below_size (belN HB.out)) hn_))), Or.elim hk_ (fun hs_ => hs_.2) (fun hn_ => (Kd.fresh' (Kd.N_lt (by (with_reducible repeat (first | apply Kd.N_alloc | apply Kd.N_drewN | apply Kd.N_drew)); exact HO_9.out)) k_ hn_))⟩)) (below_size (belN HB.out)))
             have n7_ := Aside0.mk (cbN HR165_0.out hb)
             have n8_ := Aside0.mk (cbN HR165_1.out hb)
             have n9_ := Aside0.mk (cbN HR169_0.out hb)
             have n10_ := Aside0.mk (cbN HR169_1.out hb)
             have n11_ := Aside0.mk (below_step (belN HB.out) hb)
             clear HO_0
             clear HO_9
             clear HL165_0
             clear HL165_1
             clear HL169_0
             clear HL169_1
             clear HR165_0
             clear HR165_1
             clear HR169_0
             clear HR169_1
             clear HB
             have HO_0 := n0_
             have HO_9 := n1_
             have HL165_0 := n2_
             have HL165_1 := n3_
             have HL169_0 := n4_
             have HL169_1 := n5_
             have HO168 := n6_
             have HR165_0 := n7_
             have HR165_1 := n8_
             have HR169_0 := n9_
             have HR169_1 := n10_
             have HB := n11_
             clear n0_ n1_ n2_ n3_ n4_ n5_ n6_ n7_ n8_ n9_ n10_ n11_
             (try clear hb)
             (try clear hk)
             (try clear ho0)
             obtain ⟨Ao17, co17, eo17⟩ := Kd.V_slice HO168.out
             (first | subst eo17 | (injection eo17 with f1_ f2_ f3_; have f4_ := f1_.symm; have f5_ := f3_.symm; clear f1_ f2_ f3_; subst f4_; subst f5_))
             refine hK.out _ _ ⟨HS0_, HS1_, HS2_, HS3_, HS4_, HS5_⟩ (fun hHeld => ?_)
             clear hK K
             refine norm_ (a' := ?_) ?_ ?_
             rotate_left
             ·show Act.put _ (some 29) _ = _
              simp only [Act.put, List.setIfInBounds_toArray, List.set_cons_zero, List.set_cons_succ, i64_w, i32_w]
              rfl
             refine pA 12 (some 35) (bA 15 8191) HT_.out ?_
             refine one_ (i := 13) (N := some 11) (bA 15 16383) rfl rfl (one_of HT_.out (by kernel_rfl)) (by decide) (fun K hK => ?_)
             refine box_step ?hg (N := 11) ?hd (cs := #[.slice none 0 0, .slice none 0 0, .bool false]) (t := 49) ?hr ?_; (case hd => rfl); (case hg => rfl); (case hr => first | (go_simp; done) | (go_simp; rfl))
             intro gb170 hg w18 hbox hb
             have HS0_ := (hb.cell (World.block_lt_of_cell? _ _ (hHeld.1))).trans (hHeld.1)
             have HS1_ := (hb.cell (World.block_lt_of_cell? _ _ (hHeld.2.1))).trans (hHeld.2.1)
             have HS2_ := (hb.cell (World.block_lt_of_cell? _ _ (hHeld.2.2.1))).trans (hHeld.2.2.1)
             have HS3_ := (hb.cell (World.block_lt_of_cell? _ _ (hHeld.2.2.2.1))).trans (hHeld.2.2.2.1)
             have HS4_ := (hb.cell (World.block_lt_of_cell? _ _ (hHeld.2.2.2.2.1))).trans (hHeld.2.2.2.2.1)
             have HS5_ := (hb.cell (World.block_lt_of_cell? _ _ (hHeld.2.2.2.2.2))).trans (hHeld.2.2.2.2.2)
             have n0_ := Aside0.mk (Kd.V_below (Kd.V_elderB (by (with_reducible repeat (first | apply Kd.V_alloc | apply Kd.V_drewN | apply Kd.V_drew)); exact HO_0.out) gb170 (Nat.le_of_eq hg.symm)) hb)
             have n1_ := Aside0.mk (Kd.N_below (Kd.N_elderB (by (with_reducible repeat (first | apply Kd.N_alloc | apply Kd.N_drewN | apply Kd.N_drew)); exact HO_9.out) gb170 (Nat.le_of_eq hg.symm)) hb)
             have n2_ := Aside0.mk (Kd.V_below (Kd.V_elderB (by (with_reducible repeat (first | apply Kd.V_alloc | apply Kd.V_drewN | apply Kd.V_drew)); exact HL165_0.out) gb170 (Nat.le_of_eq hg.symm)) hb)
             have n3_ := Aside0.mk (Kd.V_below (Kd.V_elderB (by (with_reducible repeat (first | apply Kd.V_alloc | apply Kd.V_drewN | apply Kd.V_drew)); exact HL165_1.out) gb170 (Nat.le_of_eq hg.symm)) hb)
             have n4_ := Aside0.mk (Kd.V_below (Kd.V_elderB (by (with_reducible repeat (first | apply Kd.V_alloc | apply Kd.V_drewN | apply Kd.V_drew)); exact HL169_0.out) gb170 (Nat.le_of_eq hg.symm)) hb)
             have n5_ := Aside0.mk (Kd.V_below (Kd.V_elderB (by (with_reducible repeat (first | apply Kd.V_alloc | apply Kd.V_drewN | apply Kd.V_drew)); exact HL169_1.out) gb170 (Nat.le_of_eq hg.symm)) hb)
             have n6_ := Aside0.mk (Kd.V_below (Kd.V_elderB (by (with_reducible repeat (first | apply Kd.V_alloc | apply Kd.V_drewN | apply Kd.V_drew)); exact HO168.out) gb170 (Nat.le_of_eq hg.symm)) hb)
             have n7_ := Aside0.mk (cbN HR165_0.out hb)
             have n8_ := Aside0.mk (cbN HR165_1.out hb)
             have n9_ := Aside0.mk (cbN HR169_0.out hb)
             have n10_ := Aside0.mk (cbN HR169_1.out hb)
             have n11_ := Aside0.mk (below_step (belN HB.out) hb)
             have n12_ := Aside0.mk (hbox)
             have n13_ := Aside0.mk (szB hg HB.out)
             have n14_ := Aside0.mk (szB hg HB.out)
             clear HO_0
             clear HO_9
             clear HL165_0
             clear HL165_1
             clear HL169_0
             clear HL169_1
             clear HO168
             clear HR165_0
             clear HR165_1
             clear HR169_0
             clear HR169_1
             clear HB
             have HO_0 := n0_
             have HO_9 := n1_
             have HL165_0 := n2_
             have HL165_1 := n3_
             have HL169_0 := n4_
             have HL169_1 := n5_
             have HO168 := n6_
             have HR165_0 := n7_
             have HR165_1 := n8_
             have HR169_0 := n9_
             have HR169_1 := n10_
             have HB := n11_
             have BK170 := n12_
             have GW170 := n13_
             have GE170 := n14_
             clear n0_ n1_ n2_ n3_ n4_ n5_ n6_ n7_ n8_ n9_ n10_ n11_ n12_ n13_ n14_
             clear hb hbox hg
             refine hK.out _ _ ⟨HS0_, HS1_, HS2_, HS3_, HS4_, HS5_⟩ (fun hHeld => ?_)
             clear hK K
             refine norm_ (a' := ?_) ?_ ?_
             rotate_left
             ·show Act.put _ (some 11) _ = _
              simp only [Act.put, List.setIfInBounds_toArray, List.set_cons_zero, List.set_cons_succ, i64_w, i32_w]
              rfl
             exact norm_ (by simp only [putAll, Act.put, List.setIfInBounds_toArray, List.set_cons_zero, List.set_cons_succ]) (hCont (.slice Ao17 t166.length co17, gb170) _ ⟨hHeld, (by (with_reducible repeat (first | apply Kd.V_alloc | apply Kd.V_drewN | apply Kd.V_drew)); exact Kd.V_mono HL165_0.out (fun _ hk => ⟨hk.1.1, ⟨hk.1.2, hk.2⟩⟩)), (by (with_reducible repeat (first | apply Kd.V_alloc | apply Kd.V_drewN | apply Kd.V_drew)); exact Kd.V_mono HL165_1.out (fun _ hk => ⟨hk.1.1, ⟨hk.1.2, hk.2⟩⟩)), (by (with_reducible repeat (first | apply Kd.V_alloc | apply Kd.V_drewN | apply Kd.V_drew)); exact Kd.V_mono HL169_0.out (fun _ hk => ⟨hk.1.1, ⟨hk.1.2, hk.2⟩⟩)), (by (with_reducible repeat (first | apply Kd.V_alloc | apply Kd.V_drewN | apply Kd.V_drew)); exact Kd.V_mono HL169_1.out (fun _ hk => ⟨hk.1.1, ⟨hk.1.2, hk.2⟩⟩)), (by (with_reducible repeat (first | apply Kd.V_alloc | apply Kd.V_drewN | apply Kd.V_drew)); exact Kd.V_mono HO168.out (fun _ hk => ⟨hk.1.1, ⟨hk.1.2, hk.2⟩⟩)), (by (with_reducible repeat (first | apply Kd.V_alloc | apply Kd.V_drewN | apply Kd.V_drew)); exact Kd.V_mono HO_0.out (fun _ hk => ⟨hk.1.1, ⟨hk.1.2, hk.2⟩⟩)), (by (with_reducible repeat (first | apply Kd.N_alloc | apply Kd.N_drewN | apply Kd.N_drew)); exact HO_9.out), (blkN BK170.out), GW170.out, GE170.out, (belS HB.out)⟩)
            ·skip
             refine box_step ?hg (N := 11) ?hd (cs := #[.slice none 0 0, .slice none 0 0, .bool false]) (t := 49) ?hr ?_; (case hd => rfl); (case hg => rfl); (case hr => first | (go_simp; done) | (go_simp; rfl))
             intro gb170 hg w16 hbox hb
             have HS0_ := (hb.cell (World.block_lt_of_cell? _ _ (hHeld.1))).trans (hHeld.1)
             have HS1_ := (hb.cell (World.block_lt_of_cell? _ _ (hHeld.2.1))).trans (hHeld.2.1)
             have HS2_ := (hb.cell (World.block_lt_of_cell? _ _ (hHeld.2.2.1))).trans (hHeld.2.2.1)
             have HS3_ := (hb.cell (World.block_lt_of_cell? _ _ (hHeld.2.2.2.1))).trans (hHeld.2.2.2.1)
             have HS4_ := (hb.cell (World.block_lt_of_cell? _ _ (hHeld.2.2.2.2.1))).trans (hHeld.2.2.2.2.1)
             have HS5_ := (hb.cell (World.block_lt_of_cell? _ _ (hHeld.2.2.2.2.2))).trans (hHeld.2.2.2.2.2)
             have n0_ := Aside0.mk (Kd.V_below (Kd.V_elderB (by (with_reducible repeat (first | apply Kd.V_alloc | apply Kd.V_drewN | apply Kd.V_drew)); exact HO_0.out) gb170 (Nat.le_of_eq hg.symm)) hb)
             have n1_ := Aside0.mk (Kd.N_below (Kd.N_elderB (by (with_reducible repeat (first | apply Kd.N_alloc | apply Kd.N_drewN | apply Kd.N_drew)); exact HO_9.out) gb170 (Nat.le_of_eq hg.symm)) hb)
             have n2_ := Aside0.mk (Kd.V_below (Kd.V_elderB (by (with_reducible repeat (first | apply Kd.V_alloc | apply Kd.V_drewN | apply Kd.V_drew)); exact HL165_0.out) gb170 (Nat.le_of_eq hg.symm)) hb)
             have n3_ := Aside0.mk (Kd.V_below (Kd.V_elderB (by (with_reducible repeat (first | apply Kd.V_alloc | apply Kd.V_drewN | apply Kd.V_drew)); exact HL165_1.out) gb170 (Nat.le_of_eq hg.symm)) hb)
             have n4_ := Aside0.mk (Kd.V_below (Kd.V_elderB (by (with_reducible repeat (first | apply Kd.V_alloc | apply Kd.V_drewN | apply Kd.V_drew)); exact HL169_0.out) gb170 (Nat.le_of_eq hg.symm)) hb)
             have n5_ := Aside0.mk (Kd.V_below (Kd.V_elderB (by (with_reducible repeat (first | apply Kd.V_alloc | apply Kd.V_drewN | apply Kd.V_drew)); exact HL169_1.out) gb170 (Nat.le_of_eq hg.symm)) hb)
             have n6_ := Aside0.mk (cbN HR165_0.out hb)
             have n7_ := Aside0.mk (cbN HR165_1.out hb)
             have n8_ := Aside0.mk (cbN HR169_0.out hb)
             have n9_ := Aside0.mk (cbN HR169_1.out hb)
             have n10_ := Aside0.mk (below_step (belN HB.out) hb)
             have n11_ := Aside0.mk (hbox)
             have n12_ := Aside0.mk (szB hg HB.out)
             have n13_ := Aside0.mk (szB hg HB.out)
             clear HO_0
             clear HO_9
             clear HL165_0
             clear HL165_1
             clear HL169_0
             clear HL169_1
             clear HR165_0
             clear HR165_1
             clear HR169_0
             clear HR169_1
             clear HB
             have HO_0 := n0_
             have HO_9 := n1_
             have HL165_0 := n2_
             have HL165_1 := n3_
             have HL169_0 := n4_
             have HL169_1 := n5_
             have HR165_0 := n6_
             have HR165_1 := n7_
             have HR169_0 := n8_
             have HR169_1 := n9_
             have HB := n10_
             have BK170 := n11_
             have GW170 := n12_
             have GE170 := n13_
             clear n0_ n1_ n2_ n3_ n4_ n5_ n6_ n7_ n8_ n9_ n10_ n11_ n12_ n13_
             clear hb hbox hg
             refine hK.out _ _ ⟨HS0_, HS1_, HS2_, HS3_, HS4_, HS5_⟩ (fun hHeld => ?_)
             clear hK K
             refine norm_ (a' := ?_) ?_ ?_
             rotate_left
             ·show Act.put _ (some 11) _ = _
              simp only [Act.put, List.setIfInBounds_toArray, List.set_cons_zero, List.set_cons_succ, i64_w, i32_w]
              rfl
             refine one_ (i := 6) (N := some 29) (bA 15 12287) rfl rfl (one_of HT_.out (by kernel_rfl)) (by decide) (fun K hK => ?_)
             refine goes_ Try.func14 (by kernel_rfl) rfl #[.slice A165_0 ((rd_T49 l0 x10_1).f0).length c165_0, .int .i64 a2] (by rfl) rfl rfl argN ?_
             with_reducible refine (marigraphkeep_Cut.calls (fun k_ => (((P0_ k_ ∨ w.heap.size ≤ k_) ∧ some k_ ≠ (u9 : Value).ownBlock) ∧ k_ ≠ gb170)) _ _ ((rd_T49 l0 x10_1).f0) a2 t166 _ ?side1 A10.out).mono ?_
             (case side1 => exact HL165_0.out)
             rintro e w17 ⟨v167, rfl, ho0, hb⟩
             have HS0_ := (hb.cell (World.block_lt_of_cell? _ _ (hHeld.1))).trans (hHeld.1)
             have HS1_ := (hb.cell (World.block_lt_of_cell? _ _ (hHeld.2.1))).trans (hHeld.2.1)
             have HS2_ := (hb.cell (World.block_lt_of_cell? _ _ (hHeld.2.2.1))).trans (hHeld.2.2.1)
             have HS3_ := (hb.cell (World.block_lt_of_cell? _ _ (hHeld.2.2.2.1))).trans (hHeld.2.2.2.1)
             have HS4_ := (hb.cell (World.block_lt_of_cell? _ _ (hHeld.2.2.2.2.1))).trans (hHeld.2.2.2.2.1)
             have HS5_ := (hb.cell (World.block_lt_of_cell? _ _ (hHeld.2.2.2.2.2))).trans (hHeld.2.2.2.2.2)
             refine ⟨_, rfl, ?_⟩
             have n0_ := Aside0.mk (Kd.V_below (by (with_reducible repeat (first | apply Kd.V_alloc | apply Kd.V_drewN | apply Kd.V_drew)); exact HO_0.out) hb)
             have n1_ := Aside0.mk (Kd.N_below (by (with_reducible repeat (first | apply Kd.N_alloc | apply Kd.N_drewN | apply Kd.N_drew)); exact HO_9.out) hb)
             have n2_ := Aside0.mk (Kd.V_below (by (with_reducible repeat (first | apply Kd.V_alloc | apply Kd.V_drewN | apply Kd.V_drew)); exact HL165_0.out) hb)
             have n3_ := Aside0.mk (Kd.V_below (by (with_reducible repeat (first | apply Kd.V_alloc | apply Kd.V_drewN | apply Kd.V_drew)); exact HL165_1.out) hb)
             have n4_ := Aside0.mk (Kd.V_below (by (with_reducible repeat (first | apply Kd.V_alloc | apply Kd.V_drewN | apply Kd.V_drew)); exact HL169_0.out) hb)
             have n5_ := Aside0.mk (Kd.V_below (by (with_reducible repeat (first | apply Kd.V_alloc | apply Kd.V_drewN | apply Kd.V_drew)); exact HL169_1.out) hb)
             have n6_ := Aside0.mk (Kd.V_lower (Kd.V_mono (ok' := fun k_ => (P0_ k_ ∨ w.heap.size ≤ k_) ∧ some k_ ≠ (u9 : Value).ownBlock ∧ k_ ≠ gb170) ho0 (fun k_ hk_ => ⟨Or.elim hk_ (fun hs_ => hs_.1.1) (fun hn_ => (.inr (Nat.le_trans (below_size (belS HB.out)) hn_))), Or.elim hk_ (fun hs_ => hs_.1.2) (fun hn_ => (Kd.fresh' (Kd.N_lt (by (with_reducible repeat (first | apply Kd.N_alloc | apply Kd.N_drewN | apply Kd.N_drew)); exact HO_9.out)) k_ hn_)), Or.elim hk_ (fun hs_ => hs_.2) (fun hn_ => (Kd.freshB (g := gb170) (o := .cells #[.slice none 0 0, .slice none 0 0, .bool false] 49 (0, 0)) (blkN BK170.out) k_ hn_))⟩)) (below_size (belS HB.out)))
             have n7_ := Aside0.mk (cbN HR165_0.out hb)
             have n8_ := Aside0.mk (cbN HR165_1.out hb)
             have n9_ := Aside0.mk (cbN HR169_0.out hb)
             have n10_ := Aside0.mk (cbN HR169_1.out hb)
             have n11_ := Aside0.mk (bkB BK170.out hb)
             have n12_ := Aside0.mk (below_step (belS HB.out) hb)
             clear HO_0
             clear HO_9
             clear HL165_0
             clear HL165_1
             clear HL169_0
             clear HL169_1
             clear HR165_0
             clear HR165_1
             clear HR169_0
             clear HR169_1
             clear BK170
             clear HB
             have HO_0 := n0_
             have HO_9 := n1_
             have HL165_0 := n2_
             have HL165_1 := n3_
             have HL169_0 := n4_
             have HL169_1 := n5_
             have HO168 := n6_
             have HR165_0 := n7_
             have HR165_1 := n8_
             have HR169_0 := n9_
             have HR169_1 := n10_
             have BK170 := n11_
             have HB := n12_
             clear n0_ n1_ n2_ n3_ n4_ n5_ n6_ n7_ n8_ n9_ n10_ n11_ n12_
             (try clear hb)
             (try clear hk)
             (try clear ho0)
             obtain ⟨Ao18, co18, eo18⟩ := Kd.V_slice HO168.out
             (first | subst eo18 | (injection eo18 with f1_ f2_ f3_; have f4_ := f1_.symm; have f5_ := f3_.symm; clear f1_ f2_ f3_; subst f4_; subst f5_))
             refine hK.out _ _ ⟨HS0_, HS1_, HS2_, HS3_, HS4_, HS5_⟩ (fun hHeld => ?_)
             clear hK K
             refine norm_ (a' := ?_) ?_ ?_
             rotate_left
             ·show Act.put _ (some 29) _ = _
              simp only [Act.put, List.setIfInBounds_toArray, List.set_cons_zero, List.set_cons_succ, i64_w, i32_w]
              rfl
             refine pA 12 (some 35) (bA 15 16383) HT_.out ?_
             exact norm_ (by simp only [putAll, Act.put, List.setIfInBounds_toArray, List.set_cons_zero, List.set_cons_succ]) (hCont (.slice Ao18 t166.length co18, gb170) _ ⟨hHeld, (by (with_reducible repeat (first | apply Kd.V_alloc | apply Kd.V_drewN | apply Kd.V_drew)); exact Kd.V_mono HL165_0.out (fun _ hk => ⟨hk.1.1, ⟨hk.1.2, hk.2⟩⟩)), (by (with_reducible repeat (first | apply Kd.V_alloc | apply Kd.V_drewN | apply Kd.V_drew)); exact Kd.V_mono HL165_1.out (fun _ hk => ⟨hk.1.1, ⟨hk.1.2, hk.2⟩⟩)), (by (with_reducible repeat (first | apply Kd.V_alloc | apply Kd.V_drewN | apply Kd.V_drew)); exact Kd.V_mono HL169_0.out (fun _ hk => ⟨hk.1.1, ⟨hk.1.2, hk.2⟩⟩)), (by (with_reducible repeat (first | apply Kd.V_alloc | apply Kd.V_drewN | apply Kd.V_drew)); exact Kd.V_mono HL169_1.out (fun _ hk => ⟨hk.1.1, ⟨hk.1.2, hk.2⟩⟩)), (by (with_reducible repeat (first | apply Kd.V_alloc | apply Kd.V_drewN | apply Kd.V_drew)); exact HO168.out), (by (with_reducible repeat (first | apply Kd.V_alloc | apply Kd.V_drewN | apply Kd.V_drew)); exact Kd.V_mono HO_0.out (fun _ hk => ⟨hk.1.1, ⟨hk.1.2, hk.2⟩⟩)), (by (with_reducible repeat (first | apply Kd.N_alloc | apply Kd.N_drewN | apply Kd.N_drew)); exact HO_9.out), (blkN BK170.out), GW170.out, GE170.out, (belS HB.out)⟩)
           rintro ⟨v167, gb170⟩ w19 ⟨hS_, h0_, h1_, h2_, h3_, h4_, h5_, h6_, h7_, h8_, h9_, h10_⟩
           have n0_ : Aside0 (Kd.V (Kd.int .u8) 5 w19 w.heap.size (fun k_ => (P0_ k_ ∨ w.heap.size ≤ k_) ∧ some k_ ≠ (u9 : Value).ownBlock ∧ k_ ≠ gb170) (.slice A165_0 ((rd_T49 l0 x10_1).f0).length c165_0) ((rd_T49 l0 x10_1).f0)) := ⟨h0_⟩
           have n1_ : Aside0 (Kd.V (Kd.int .u8) 5 w19 w.heap.size (fun k_ => (P0_ k_ ∨ w.heap.size ≤ k_) ∧ some k_ ≠ (u9 : Value).ownBlock ∧ k_ ≠ gb170) (.slice A165_1 ((rd_T49 l0 x10_1).f1).length c165_1) ((rd_T49 l0 x10_1).f1)) := ⟨h1_⟩
           have n2_ : Aside0 (Kd.V (Kd.int .u8) 5 w19 w.heap.size (fun k_ => (P0_ k_ ∨ w.heap.size ≤ k_) ∧ some k_ ≠ (u9 : Value).ownBlock ∧ k_ ≠ gb170) (.slice A165_0 ((rd_T49 l0 x10_1).f0).length c165_0) ((rd_T49 l0 x10_1).f0)) := ⟨h2_⟩
           have n3_ : Aside0 (Kd.V (Kd.int .u8) 5 w19 w.heap.size (fun k_ => (P0_ k_ ∨ w.heap.size ≤ k_) ∧ some k_ ≠ (u9 : Value).ownBlock ∧ k_ ≠ gb170) (.slice A165_1 ((rd_T49 l0 x10_1).f1).length c165_1) ((rd_T49 l0 x10_1).f1)) := ⟨h3_⟩
           have n4_ : Aside0 (Kd.V (Kd.int .u8) 5 w19 w.heap.size (fun k_ => (P0_ k_ ∨ w.heap.size ≤ k_) ∧ some k_ ≠ (u9 : Value).ownBlock ∧ k_ ≠ gb170) v167 t166) := ⟨h4_⟩
           have n5_ : Aside0 (Kd.V k49 49 w19 w.heap.size (fun k_ => (P0_ k_ ∨ w.heap.size ≤ k_) ∧ some k_ ≠ (u9 : Value).ownBlock ∧ k_ ≠ gb170) (.slice (some ad165) l0.length c0) l0) := ⟨h5_⟩
           have n6_ : Aside0 (Kd.N k49 49 w19 w.heap.size (fun k_ => (P0_ k_ ∨ w.heap.size ≤ k_) ∧ k_ ≠ gb170) u9 x9_1) := ⟨h6_⟩
           have n7_ : Aside0 (w19.heap[gb170]? = some (.cells #[.slice none 0 0, .slice none 0 0, .bool false] 49 (0, 0))) := ⟨h7_⟩
           have n8_ : Aside0 (w.heap.size ≤ gb170) := ⟨h8_⟩
           have n9_ : Aside0 (w.heap.size ≤ gb170) := ⟨h9_⟩
           have n10_ : Aside0 (Below w.heap.size w w19) := ⟨h10_⟩
           clear HO_0
           clear HO_9
           clear HB
           clear h0_ h1_ h2_ h3_ h4_ h5_ h6_ h7_ h8_ h9_ h10_
           have HL165_0 := n0_
           have HL165_1 := n1_
           have HL169_0 := n2_
           have HL169_1 := n3_
           have HO168 := n4_
           have HO_0 := n5_
           have HO_9 := n6_
           have BK170 := n7_
           have GW170 := n8_
           have GE170 := n9_
           have HB := n10_
           clear n0_ n1_ n2_ n3_ n4_ n5_ n6_ n7_ n8_ n9_ n10_
           have hHeld : w19.cell? (ad165.add ((x10_1).toNat * 3)) = some (.slice A165_0 ((rd_T49 l0 x10_1).f0).length c165_0) ∧ w19.cell? ⟨(ad165.add ((x10_1).toNat * 3)).block, (ad165.add ((x10_1).toNat * 3)).off + 1, none⟩ = some (.slice A165_1 ((rd_T49 l0 x10_1).f1).length c165_1) ∧ w19.cell? ⟨(ad165.add ((x10_1).toNat * 3)).block, (ad165.add ((x10_1).toNat * 3)).off + 2, none⟩ = some (.bool true) ∧ w19.cell? (ad165.add ((x10_1).toNat * 3)) = some (.slice A165_0 ((rd_T49 l0 x10_1).f0).length c165_0) ∧ w19.cell? ⟨(ad165.add ((x10_1).toNat * 3)).block, (ad165.add ((x10_1).toNat * 3)).off + 1, none⟩ = some (.slice A165_1 ((rd_T49 l0 x10_1).f1).length c165_1) ∧ w19.cell? ⟨(ad165.add ((x10_1).toNat * 3)).block, (ad165.add ((x10_1).toNat * 3)).off + 2, none⟩ = some (.bool true) := hS_
           obtain ⟨Ao20, co20, eo20⟩ := Kd.V_slice HO168.out
           (first | subst eo20 | (injection eo20 with f1_ f2_ f3_; have f4_ := f1_.symm; have f5_ := f3_.symm; clear f1_ f2_ f3_; subst f4_; subst f5_))
           refine norm_ (a' := ?_) ?_ ?_
           rotate_left
           ·simp only [putAll, Act.put, List.setIfInBounds_toArray, List.set_cons_zero, List.set_cons_succ]
            rfl
           refine one_ (i := 14) (N := none) (bA 15 32767) rfl rfl (one_of HT_.out (by kernel_rfl)) (by decide) (fun K hK => ?_)
           have hs21 : w19.cell? ⟨gb170, 0, none⟩ = some (.slice none 0 0) := (blk_cell BK170.out 0).trans rfl
           have hfs21 := blk_frozen BK170.out 0
           have hs22 : w19.cell? ⟨gb170, 1, none⟩ = some (.slice none 0 0) := (blk_cell BK170.out 1).trans rfl
           have hfs22 := blk_frozen BK170.out 1
           have hs23 : w19.cell? ⟨gb170, 2, none⟩ = some (.bool false) := (blk_cell BK170.out 2).trans rfl
           have hfs23 := blk_frozen BK170.out 2
           refine skip_ (w1 := ?_) (by rfl) rfl ?_ ?_
           rotate_left
           ·go_simp
            rfl
           have hbl_ : (ad165.add ((x10_1).toNat * 3)).block ≠ gb170 := by rw [add_block]; exact V_blk HO_0.out z49 (by decide) (by have a_ := of_eq_true p165; have b_ := of_eq_true q165; omega) (fun _ hk => hk.2.2)
           refine hK.out _ _ ⟨(far3 (by exact hbl_)).trans hHeld.1, (far3 (by exact hbl_)).trans hHeld.2.1, (far3 (by exact hbl_)).trans hHeld.2.2.1, (far3 (by exact hbl_)).trans hHeld.2.2.2.1, (far3 (by exact hbl_)).trans hHeld.2.2.2.2.1, (far3 (by exact hbl_)).trans hHeld.2.2.2.2.2⟩ (fun hHeld => ?_)
           clear hbl_
           clear hK K
           refine done_ (done_of HT_.out (by kernel_rfl)) ?_
           have hcz24_0 : w19.cell? ⟨gb170, 0, none⟩ = some (.slice none 0 0) := (blk_cell BK170.out 0).trans rfl
           have hcz24_1 : w19.cell? ⟨gb170, 1, none⟩ = some (.slice none 0 0) := (blk_cell BK170.out 1).trans rfl
           have hcz24_2 : w19.cell? ⟨gb170, 2, none⟩ = some (.bool false) := (blk_cell BK170.out 2).trans rfl
           have hfz24_0 := blk_frozen BK170.out 0
           have hfz24_1 := blk_frozen BK170.out 1
           have hfz24_2 := blk_frozen BK170.out 2
           try go_wp2_with (first | ((with_reducible refine gate_dst (N := 40) rfl ?_); refine Kd.R_lit (Kd.int .u8) _ 5 ?hg (N := 40) ?hd (xs := ([107] : List Int)) (inner := [.int .u8 107]) (ok := fun _ => True) (okp := fun _ => True) ?hr ?hp (fun _ hk => hk) trivial (Below.refl _ _) (Nat.le_refl _) (by simp) ?_; (case hd => rfl); (case hg => rfl); (case hr => first | (go_simp; done) | (go_simp; rfl)); (case hp => exact (Reps.one (show Kd.M (Kd.int .u8) _ _ _ 107 [.int .u8 107] from rfl) (Reps.none _ _))); intro v172 w25 ho26 hb hg_ hnew_; clear hg_ hnew_; (first | rw [← Ny171.out] at ho26 | (simp only [Int.reduceToNat] at ho26; rw [← Ny171.out] at ho26)); have n0_ := Aside0.mk (Kd.V_elder' (by (with_reducible repeat (first | apply Kd.V_alloc | apply Kd.V_drewN | apply Kd.V_drew)); exact (Kd.V_mono (Kd.V_far (p := ⟨gb170, 2, none⟩) (Kd.V_far (p := ⟨gb170, 1, none⟩) (Kd.V_far (p := ⟨gb170, 0, none⟩) (Kd.V_mono HO_0.out (fun k_ hk => (⟨hk, hk.2.2⟩ : _ ∧ k_ ≠ gb170))) (fun _ hk => hk.2) (.slice Ao20 t166.length co20)) (fun _ hk => hk.2) (.slice none 0 0)) (fun _ hk => hk.2) (.bool true)) (fun _ h_ => h_.1))) (Kd.R_base ho26) hb); have n1_ := Aside0.mk (Kd.N_elder' (by (with_reducible repeat (first | apply Kd.N_alloc | apply Kd.N_drewN | apply Kd.N_drew)); exact (Kd.N_mono (Kd.N_far (p := ⟨gb170, 2, none⟩) (Kd.N_far (p := ⟨gb170, 1, none⟩) (Kd.N_far (p := ⟨gb170, 0, none⟩) (Kd.N_mono HO_9.out (fun k_ hk => (⟨hk, hk.2⟩ : _ ∧ k_ ≠ gb170))) (fun _ hk => hk.2) (.slice Ao20 t166.length co20)) (fun _ hk => hk.2) (.slice none 0 0)) (fun _ hk => hk.2) (.bool true)) (fun _ h_ => h_.1))) (Kd.R_base ho26) hb); have n2_ := Aside0.mk (Kd.V_elder' (by (with_reducible repeat (first | apply Kd.V_alloc | apply Kd.V_drewN | apply Kd.V_drew)); exact (Kd.V_mono (Kd.V_far (p := ⟨gb170, 2, none⟩) (Kd.V_far (p := ⟨gb170, 1, none⟩) (Kd.V_far (p := ⟨gb170, 0, none⟩) (Kd.V_mono HL165_0.out (fun k_ hk => (⟨hk, hk.2.2⟩ : _ ∧ k_ ≠ gb170))) (fun _ hk => hk.2) (.slice Ao20 t166.length co20)) (fun _ hk => hk.2) (.slice none 0 0)) (fun _ hk => hk.2) (.bool true)) (fun _ h_ => h_.1))) (Kd.R_base ho26) hb); have n3_ := Aside0.mk (Kd.V_elder' (by (with_reducible repeat (first | apply Kd.V_alloc | apply Kd.V_drewN | apply Kd.V_drew)); exact (Kd.V_mono (Kd.V_far (p := ⟨gb170, 2, none⟩) (Kd.V_far (p := ⟨gb170, 1, none⟩) (Kd.V_far (p := ⟨gb170, 0, none⟩) (Kd.V_mono HL165_1.out (fun k_ hk => (⟨hk, hk.2.2⟩ : _ ∧ k_ ≠ gb170))) (fun _ hk => hk.2) (.slice Ao20 t166.length co20)) (fun _ hk => hk.2) (.slice none 0 0)) (fun _ hk => hk.2) (.bool true)) (fun _ h_ => h_.1))) (Kd.R_base ho26) hb); have n4_ := Aside0.mk (Kd.V_elder' (by (with_reducible repeat (first | apply Kd.V_alloc | apply Kd.V_drewN | apply Kd.V_drew)); exact (Kd.V_mono (Kd.V_far (p := ⟨gb170, 2, none⟩) (Kd.V_far (p := ⟨gb170, 1, none⟩) (Kd.V_far (p := ⟨gb170, 0, none⟩) (Kd.V_mono HL169_0.out (fun k_ hk => (⟨hk, hk.2.2⟩ : _ ∧ k_ ≠ gb170))) (fun _ hk => hk.2) (.slice Ao20 t166.length co20)) (fun _ hk => hk.2) (.slice none 0 0)) (fun _ hk => hk.2) (.bool true)) (fun _ h_ => h_.1))) (Kd.R_base ho26) hb); have n5_ := Aside0.mk (Kd.V_elder' (by (with_reducible repeat (first | apply Kd.V_alloc | apply Kd.V_drewN | apply Kd.V_drew)); exact (Kd.V_mono (Kd.V_far (p := ⟨gb170, 2, none⟩) (Kd.V_far (p := ⟨gb170, 1, none⟩) (Kd.V_far (p := ⟨gb170, 0, none⟩) (Kd.V_mono HL169_1.out (fun k_ hk => (⟨hk, hk.2.2⟩ : _ ∧ k_ ≠ gb170))) (fun _ hk => hk.2) (.slice Ao20 t166.length co20)) (fun _ hk => hk.2) (.slice none 0 0)) (fun _ hk => hk.2) (.bool true)) (fun _ h_ => h_.1))) (Kd.R_base ho26) hb); have n6_ := Aside0.mk (Kd.V_elder' (by (with_reducible repeat (first | apply Kd.V_alloc | apply Kd.V_drewN | apply Kd.V_drew)); exact (Kd.V_mono (Kd.V_far (p := ⟨gb170, 2, none⟩) (Kd.V_far (p := ⟨gb170, 1, none⟩) (Kd.V_far (p := ⟨gb170, 0, none⟩) (Kd.V_mono HO168.out (fun k_ hk => (⟨hk, hk.2.2⟩ : _ ∧ k_ ≠ gb170))) (fun _ hk => hk.2) (.slice Ao20 t166.length co20)) (fun _ hk => hk.2) (.slice none 0 0)) (fun _ hk => hk.2) (.bool true)) (fun _ h_ => h_.1))) (Kd.R_base ho26) hb); have n7_ := Aside0.mk (Kd.R_lower (Kd.R_newM (M := fun k_ => (w.heap.size ≤ k_)) ho26 (below_size (belS HB.out)) (fun k_ h_ => h_)) (below_size (belS HB.out))); have n8_ := Aside0.mk (blk_below (g := gb170) (o := .cells #[.slice Ao20 t166.length co20, .slice none 0 0, .bool true] 49 (0, 0)) (by (with_reducible repeat (first | refine blk_drewN ?_ _ | refine blk_drew ?_ | refine blk_alloc ?_ _)); refine blk_put (cs := #[.slice Ao20 t166.length co20, .slice none 0 0, .bool false]) ?_ 2 _ rfl; (with_reducible repeat (first | refine blk_drewN ?_ _ | refine blk_drew ?_ | refine blk_alloc ?_ _)); refine blk_put (cs := #[.slice Ao20 t166.length co20, .slice none 0 0, .bool false]) ?_ 1 _ rfl; (with_reducible repeat (first | refine blk_drewN ?_ _ | refine blk_drew ?_ | refine blk_alloc ?_ _)); refine blk_put (cs := #[.slice none 0 0, .slice none 0 0, .bool false]) ?_ 0 _ rfl; (with_reducible repeat (first | refine blk_drewN ?_ _ | refine blk_drew ?_ | refine blk_alloc ?_ _)); exact BK170.out) hb); have n9_ := Aside0.mk (below_step (belS HB.out) hb); clear HO_0; clear HO_9; clear HL165_0; clear HL165_1; clear HL169_0; clear HL169_1; clear HO168; clear BK170; clear HB; have HO_0 := n0_; have HO_9 := n1_; have HL165_0 := n2_; have HL165_1 := n3_; have HL169_0 := n4_; have HL169_1 := n5_; have HO168 := n6_; have HO173 := n7_; have BK170 := n8_; have HB := n9_; clear n0_ n1_ n2_ n3_ n4_ n5_ n6_ n7_ n8_ n9_; clear hb ho26; obtain ⟨Ao27, co27, eo27⟩ := Kd.R_slice HO173.out; subst eo27; have hcz28_0 : w25.cell? ⟨gb170, 0, none⟩ = some (.slice Ao20 t166.length co20) := (blk_cell BK170.out 0).trans rfl; have hcz28_1 : w25.cell? ⟨gb170, 1, none⟩ = some (.slice none 0 0) := (blk_cell BK170.out 1).trans rfl; have hcz28_2 : w25.cell? ⟨gb170, 2, none⟩ = some (.bool true) := (blk_cell BK170.out 2).trans rfl; have hfz28_0 := blk_frozen BK170.out 0; have hfz28_1 := blk_frozen BK170.out 1; have hfz28_2 := blk_frozen BK170.out 2) | ((with_reducible refine gate_store (t := 23) (p := 41) rfl ?_); refine store_event (t := 23) (p := 41) (v := ?vo_w29) (w1 := (w25.setCell ⟨gb170, 0, none⟩ (.slice Ao27 y171.length co27))) ?hg ?ho ?hn ?hr ?_; (case ho => rfl); (case hg => rfl); (case hn => rfl); (case hr => first | (go_simp; done) | (go_simp; rfl)); intro w29 hw; have n0_ : Aside0 (Kd.V k49 49 w29 w.heap.size (fun k_ => (P0_ k_ ∨ w.heap.size ≤ k_) ∧ some k_ ≠ (u9 : Value).ownBlock ∧ some k_ ≠ (.slice Ao27 y171.length co27 : Value).ownBlock ∧ k_ ≠ gb170) (.slice (some ad165) l0.length c0) l0) := ⟨(by rw [hw]; exact (by (with_reducible repeat (first | apply Kd.V_alloc | apply Kd.V_drewN | apply Kd.V_drew)); exact Kd.V_mono (Kd.V_far (p := ⟨gb170, 0, none⟩) (Kd.V_mono HO_0.out (fun k_ hk => (⟨hk, hk.1.2.2⟩ : _ ∧ k_ ≠ gb170))) (fun _ hk => hk.2) (.slice Ao27 y171.length co27)) (fun _ hk => ⟨hk.1.1.1, ⟨hk.1.1.2.1, ⟨hk.1.2, hk.1.1.2.2⟩⟩⟩)))⟩; have n1_ : Aside0 (Kd.N k49 49 w29 w.heap.size (fun k_ => (P0_ k_ ∨ w.heap.size ≤ k_) ∧ some k_ ≠ (.slice Ao27 y171.length co27 : Value).ownBlock ∧ k_ ≠ gb170) u9 x9_1) := ⟨(by rw [hw]; exact (by (with_reducible repeat (first | apply Kd.N_alloc | apply Kd.N_drewN | apply Kd.N_drew)); exact Kd.N_mono (Kd.N_far (p := ⟨gb170, 0, none⟩) (Kd.N_mono HO_9.out (fun k_ hk => (⟨hk, hk.1.2⟩ : _ ∧ k_ ≠ gb170))) (fun _ hk => hk.2) (.slice Ao27 y171.length co27)) (fun _ hk => ⟨hk.1.1.1, ⟨hk.1.2, hk.1.1.2⟩⟩)))⟩; have n2_ : Aside0 (Kd.V (Kd.int .u8) 5 w29 w.heap.size (fun k_ => (P0_ k_ ∨ w.heap.size ≤ k_) ∧ some k_ ≠ (u9 : Value).ownBlock ∧ some k_ ≠ (.slice Ao27 y171.length co27 : Value).ownBlock ∧ k_ ≠ gb170) (.slice A165_0 ((rd_T49 l0 x10_1).f0).length c165_0) ((rd_T49 l0 x10_1).f0)) := ⟨(by rw [hw]; exact (by (with_reducible repeat (first | apply Kd.V_alloc | apply Kd.V_drewN | apply Kd.V_drew)); exact Kd.V_mono (Kd.V_far (p := ⟨gb170, 0, none⟩) (Kd.V_mono HL165_0.out (fun k_ hk => (⟨hk, hk.1.2.2⟩ : _ ∧ k_ ≠ gb170))) (fun _ hk => hk.2) (.slice Ao27 y171.length co27)) (fun _ hk => ⟨hk.1.1.1, ⟨hk.1.1.2.1, ⟨hk.1.2, hk.1.1.2.2⟩⟩⟩)))⟩; have n3_ : Aside0 (Kd.V (Kd.int .u8) 5 w29 w.heap.size (fun k_ => (P0_ k_ ∨ w.heap.size ≤ k_) ∧ some k_ ≠ (u9 : Value).ownBlock ∧ some k_ ≠ (.slice Ao27 y171.length co27 : Value).ownBlock ∧ k_ ≠ gb170) (.slice A165_1 ((rd_T49 l0 x10_1).f1).length c165_1) ((rd_T49 l0 x10_1).f1)) := ⟨(by rw [hw]; exact (by (with_reducible repeat (first | apply Kd.V_alloc | apply Kd.V_drewN | apply Kd.V_drew)); exact Kd.V_mono (Kd.V_far (p := ⟨gb170, 0, none⟩) (Kd.V_mono HL165_1.out (fun k_ hk => (⟨hk, hk.1.2.2⟩ : _ ∧ k_ ≠ gb170))) (fun _ hk => hk.2) (.slice Ao27 y171.length co27)) (fun _ hk => ⟨hk.1.1.1, ⟨hk.1.1.2.1, ⟨hk.1.2, hk.1.1.2.2⟩⟩⟩)))⟩; have n4_ : Aside0 (Kd.V (Kd.int .u8) 5 w29 w.heap.size (fun k_ => (P0_ k_ ∨ w.heap.size ≤ k_) ∧ some k_ ≠ (u9 : Value).ownBlock ∧ some k_ ≠ (.slice Ao27 y171.length co27 : Value).ownBlock ∧ k_ ≠ gb170) (.slice A165_0 ((rd_T49 l0 x10_1).f0).length c165_0) ((rd_T49 l0 x10_1).f0)) := ⟨(by rw [hw]; exact (by (with_reducible repeat (first | apply Kd.V_alloc | apply Kd.V_drewN | apply Kd.V_drew)); exact Kd.V_mono (Kd.V_far (p := ⟨gb170, 0, none⟩) (Kd.V_mono HL169_0.out (fun k_ hk => (⟨hk, hk.1.2.2⟩ : _ ∧ k_ ≠ gb170))) (fun _ hk => hk.2) (.slice Ao27 y171.length co27)) (fun _ hk => ⟨hk.1.1.1, ⟨hk.1.1.2.1, ⟨hk.1.2, hk.1.1.2.2⟩⟩⟩)))⟩; have n5_ : Aside0 (Kd.V (Kd.int .u8) 5 w29 w.heap.size (fun k_ => (P0_ k_ ∨ w.heap.size ≤ k_) ∧ some k_ ≠ (u9 : Value).ownBlock ∧ some k_ ≠ (.slice Ao27 y171.length co27 : Value).ownBlock ∧ k_ ≠ gb170) (.slice A165_1 ((rd_T49 l0 x10_1).f1).length c165_1) ((rd_T49 l0 x10_1).f1)) := ⟨(by rw [hw]; exact (by (with_reducible repeat (first | apply Kd.V_alloc | apply Kd.V_drewN | apply Kd.V_drew)); exact Kd.V_mono (Kd.V_far (p := ⟨gb170, 0, none⟩) (Kd.V_mono HL169_1.out (fun k_ hk => (⟨hk, hk.1.2.2⟩ : _ ∧ k_ ≠ gb170))) (fun _ hk => hk.2) (.slice Ao27 y171.length co27)) (fun _ hk => ⟨hk.1.1.1, ⟨hk.1.1.2.1, ⟨hk.1.2, hk.1.1.2.2⟩⟩⟩)))⟩; have n6_ : Aside0 (Kd.V (Kd.int .u8) 5 w29 w.heap.size (fun k_ => (P0_ k_ ∨ w.heap.size ≤ k_) ∧ some k_ ≠ (u9 : Value).ownBlock ∧ some k_ ≠ (.slice Ao27 y171.length co27 : Value).ownBlock ∧ k_ ≠ gb170) (.slice Ao20 t166.length co20) t166) := ⟨(by rw [hw]; exact (by (with_reducible repeat (first | apply Kd.V_alloc | apply Kd.V_drewN | apply Kd.V_drew)); exact Kd.V_mono (Kd.V_far (p := ⟨gb170, 0, none⟩) (Kd.V_mono HO168.out (fun k_ hk => (⟨hk, hk.1.2.2⟩ : _ ∧ k_ ≠ gb170))) (fun _ hk => hk.2) (.slice Ao27 y171.length co27)) (fun _ hk => ⟨hk.1.1.1, ⟨hk.1.1.2.1, ⟨hk.1.2, hk.1.1.2.2⟩⟩⟩)))⟩; have n7_ : Aside0 (Kd.R (Kd.int .u8) 5 w29 w.heap.size (fun k_ => (w.heap.size ≤ k_)) (.slice Ao27 y171.length co27) y171) := ⟨(by rw [hw]; exact (by (with_reducible repeat (first | apply Kd.R_alloc | apply Kd.R_drewN | apply Kd.R_drew)); exact Kd.R_mono (Kd.R_far (p := ⟨gb170, 0, none⟩) (Kd.R_types HO173.out BK170.out (by decide)) (fun _ hk => hk.2) (.slice Ao27 y171.length co27)) (fun _ hk => hk.1.1)))⟩; have n8_ : Aside0 (w29.heap[gb170]? = some (.cells #[.slice Ao27 y171.length co27, .slice none 0 0, .bool true] 49 (0, 0))) := ⟨(by rw [hw]; exact (by (with_reducible repeat (first | refine blk_drewN ?_ _ | refine blk_drew ?_ | refine blk_alloc ?_ _)); refine blk_put (cs := #[.slice Ao20 t166.length co20, .slice none 0 0, .bool true]) ?_ 0 _ rfl; (with_reducible repeat (first | refine blk_drewN ?_ _ | refine blk_drew ?_ | refine blk_alloc ?_ _)); exact BK170.out))⟩; have n9_ : Aside0 (Below w.heap.size w w29) := ⟨(by rw [hw]; exact (belS HB.out))⟩; clear hw; clear HO_0; clear HO_9; clear HL165_0; clear HL165_1; clear HL169_0; clear HL169_1; clear HO168; clear HO173; clear BK170; clear HB; have HO_0 := n0_; have HO_9 := n1_; have HL165_0 := n2_; have HL165_1 := n3_; have HL169_0 := n4_; have HL169_1 := n5_; have HO168 := n6_; have HO173 := n7_; have BK170 := n8_; have HB := n9_; clear n0_ n1_ n2_ n3_ n4_ n5_ n6_ n7_ n8_ n9_; have hcz30_0 : w29.cell? ⟨gb170, 0, none⟩ = some (.slice Ao27 y171.length co27) := (blk_cell BK170.out 0).trans rfl; have hcz30_1 : w29.cell? ⟨gb170, 1, none⟩ = some (.slice none 0 0) := (blk_cell BK170.out 1).trans rfl; have hcz30_2 : w29.cell? ⟨gb170, 2, none⟩ = some (.bool true) := (blk_cell BK170.out 2).trans rfl; have hfz30_0 := blk_frozen BK170.out 0; have hfz30_1 := blk_frozen BK170.out 1; have hfz30_2 := blk_frozen BK170.out 2) | ((with_reducible refine gate_builtin (b := .append) (xs := #[.tmp 53, .tmp 55]) rfl ?_); at_builtin; refine Kd.N_append k49 (w0 := w) w.heap.size rfl (.tmp 53) (.tmp 55) 37 49 (.agg #[(.slice none 0 0), (.slice none 0 0), (.bool false)]) 56 rfl Try.underlying37 info49 rfl (by decide) (by omega) u9 x9_1 (⟨y171, ([] : List Int), true⟩ : S49) [.slice Ao27 y171.length co27, .slice none 0 0, .bool true] (fun k_ => (P0_ k_ ∨ w.heap.size ≤ k_) ∧ k_ ≠ gb170) (fun k_ => ((fun k_ => (P0_ k_ ∨ w.heap.size ≤ k_) ∧ k_ ≠ gb170)) k_ ∧ some k_ ≠ (u9 : Value).ownBlock) rfl rfl ?aP (fun _ hk => hk) ?aF ?aO ?aB ?aS ?aL ?_; (case aP => exact (k49_mkF _ _ (⟨y171, ([] : List Int), true⟩ : S49) (Kd.R_reads' (Kd.R_mono (ok' := (fun k_ => ((fun k_ => (P0_ k_ ∨ w.heap.size ≤ k_) ∧ k_ ≠ gb170)) k_ ∧ some k_ ≠ (u9 : Value).ownBlock)) (Kd.R_types (Kd.R_apart' (HO173.out) (Kd.N_typed HO_9.out) (by decide)) BK170.out (by decide)) (fun k_ hk => ⟨⟨(.inr (hk.1.1)), hk.2⟩, hk.1.2⟩))).2.1 (Kd.R_F (Kd.R_mono (ok' := (fun k_ => ((fun k_ => (P0_ k_ ∨ w.heap.size ≤ k_) ∧ k_ ≠ gb170)) k_ ∧ some k_ ≠ (u9 : Value).ownBlock)) (Kd.R_types (Kd.R_apart' (HO173.out) (Kd.N_typed HO_9.out) (by decide)) BK170.out (by decide)) (fun k_ hk => ⟨⟨(.inr (hk.1.1)), hk.2⟩, hk.1.2⟩))) (Nat.le_refl _) (Kd.F_nil _ _ _))); (case aB => exact (belS HB.out)); (case aF => exact (fun k_ hk => ⟨(.inr (Nat.le_trans (below_size (belS HB.out)) hk)), Kd.freshB (g := gb170) (o := .cells #[.slice Ao27 y171.length co27, .slice none 0 0, .bool true] 49 (0, 0)) (blkN BK170.out) k_ hk⟩)); (case aO => exact (by (with_reducible repeat (first | apply Kd.N_alloc | apply Kd.N_drewN | apply Kd.N_drew)); exact Kd.N_mono HO_9.out (fun _ hk => ⟨hk.1, hk.2.2⟩))); (case aS => exact (below_size (belS HB.out))); (case aL => have := LMc14.out; omega); intro v175 w31 ho hb hg hat; rw [← Ny174.out] at ho; have n0_ := Aside0.mk (Kd.V_afterv (ok := (fun k_ => (P0_ k_ ∨ w.heap.size ≤ k_) ∧ some k_ ≠ (.slice Ao27 y171.length co27 : Value).ownBlock ∧ k_ ≠ gb170)) (by (with_reducible repeat (first | apply Kd.V_alloc | apply Kd.V_drewN | apply Kd.V_drew)); exact Kd.V_mono HO_0.out (fun _ hk => ⟨⟨hk.1, ⟨hk.2.2.1, hk.2.2.2⟩⟩, hk.2.1⟩)) hg hat); have n1_ := Aside0.mk (Kd.V_afterv (ok := (fun k_ => (P0_ k_ ∨ w.heap.size ≤ k_) ∧ some k_ ≠ (.slice Ao27 y171.length co27 : Value).ownBlock ∧ k_ ≠ gb170)) (by (with_reducible repeat (first | apply Kd.V_alloc | apply Kd.V_drewN | apply Kd.V_drew)); exact Kd.V_mono HL165_0.out (fun _ hk => ⟨⟨hk.1, ⟨hk.2.2.1, hk.2.2.2⟩⟩, hk.2.1⟩)) hg hat); have n2_ := Aside0.mk (Kd.V_afterv (ok := (fun k_ => (P0_ k_ ∨ w.heap.size ≤ k_) ∧ some k_ ≠ (.slice Ao27 y171.length co27 : Value).ownBlock ∧ k_ ≠ gb170)) (by (with_reducible repeat (first | apply Kd.V_alloc | apply Kd.V_drewN | apply Kd.V_drew)); exact Kd.V_mono HL165_1.out (fun _ hk => ⟨⟨hk.1, ⟨hk.2.2.1, hk.2.2.2⟩⟩, hk.2.1⟩)) hg hat); have n3_ := Aside0.mk (Kd.V_afterv (ok := (fun k_ => (P0_ k_ ∨ w.heap.size ≤ k_) ∧ some k_ ≠ (.slice Ao27 y171.length co27 : Value).ownBlock ∧ k_ ≠ gb170)) (by (with_reducible repeat (first | apply Kd.V_alloc | apply Kd.V_drewN | apply Kd.V_drew)); exact Kd.V_mono HL169_0.out (fun _ hk => ⟨⟨hk.1, ⟨hk.2.2.1, hk.2.2.2⟩⟩, hk.2.1⟩)) hg hat); have n4_ := Aside0.mk (Kd.V_afterv (ok := (fun k_ => (P0_ k_ ∨ w.heap.size ≤ k_) ∧ some k_ ≠ (.slice Ao27 y171.length co27 : Value).ownBlock ∧ k_ ≠ gb170)) (by (with_reducible repeat (first | apply Kd.V_alloc | apply Kd.V_drewN | apply Kd.V_drew)); exact Kd.V_mono HL169_1.out (fun _ hk => ⟨⟨hk.1, ⟨hk.2.2.1, hk.2.2.2⟩⟩, hk.2.1⟩)) hg hat); have n5_ := Aside0.mk (Kd.V_afterv (ok := (fun k_ => (P0_ k_ ∨ w.heap.size ≤ k_) ∧ some k_ ≠ (.slice Ao27 y171.length co27 : Value).ownBlock ∧ k_ ≠ gb170)) (by (with_reducible repeat (first | apply Kd.V_alloc | apply Kd.V_drewN | apply Kd.V_drew)); exact Kd.V_mono HO168.out (fun _ hk => ⟨⟨hk.1, ⟨hk.2.2.1, hk.2.2.2⟩⟩, hk.2.1⟩)) hg hat); have n6_ := Aside0.mk (blk_grown (g := gb170) (o := .cells #[.slice Ao27 y171.length co27, .slice none 0 0, .bool true] 49 (0, 0)) (blkN BK170.out) hg (Kd.N_away HO_9.out (fun _ hk => hk.2.2))); have n7_ := Aside0.mk (hb); have n8_ := Aside0.mk (ho); clear HO_0; clear HL165_0; clear HL165_1; clear HL169_0; clear HL169_1; clear HO168; clear BK170; clear HB; clear HO_9; clear HO173; have HO_0 := n0_; have HL165_0 := n1_; have HL165_1 := n2_; have HL169_0 := n3_; have HL169_1 := n4_; have HO168 := n5_; have BK170 := n6_; have HB := n7_; have HO176 := n8_; clear n0_ n1_ n2_ n3_ n4_ n5_ n6_ n7_ n8_; clear ho hb hg hat))
           go_roundg kj4
           case measure => have := HK1.out; have := HJ4.out; omega
           case rel => exact ⟨(y174), (wrap64 (x10_1 + 1)), (by first | rfl | (simp; done) | (simp [*]; done)), H', ⟨by have := HK1.out; have := HJ4.out; omega⟩, ⟨by (with_reducible repeat (first | apply Kd.V_alloc | apply Kd.V_drewN | apply Kd.V_drew)); exact Kd.V_mono HO_0.out (fun _ hk => ⟨hk.1.1, hk.2⟩)⟩, ⟨by (with_reducible repeat (first | apply Kd.N_alloc | apply Kd.N_drewN | apply Kd.N_drew)); exact Kd.N_mono HO176.out (fun _ hk => hk.1)⟩, ⟨(belS HB.out)⟩⟩
          ·rw [if_neg c14] at H
           exact absurd H (by simp)
         ·replace c13 := Bool.eq_false_iff.mpr c13
          subst c13
          have H1 : ((marigraphkeep_Cut.f ((rd_T49 l0 x10_1).f1) a3).bind fun t178 => (if x9_1.length < 2513169434916 then (marigraphkeep_Entries.l0 kj4 l0 a1 a2 a3 (x9_1 ++ [(⟨y171, t178, false⟩ : S49)]) (wrap64 (x10_1 + 1))) else (none))) = some r := by rw [if_neg (show ¬ (false = true) by decide)] at H; exact H
          clear H
          have H := H1
          clear H1
          replace H := Option.bind_eq_some_iff.mp H
          obtain ⟨t178, A320, H⟩ := H
          replace H : (if x9_1.length < 2513169434916 then (marigraphkeep_Entries.l0 kj4 l0 a1 a2 a3 (x9_1 ++ [(⟨y171, t178, false⟩ : S49)]) (wrap64 (x10_1 + 1))) else (none)) = some r := H
          have A32 := Aside0.mk A320
          clear A320
          by_cases c33 : x9_1.length < 2513169434916
          ·rw [if_pos c33] at H
           have LMc33 := Aside0.mk c33
           clear c33
           obtain ⟨y181, hy181⟩ : ∃ y_ : List (S49), y_ = (x9_1 ++ [(⟨y171, t178, false⟩ : S49)]) := ⟨_, rfl⟩
           replace H : (marigraphkeep_Entries.l0 kj4 l0 a1 a2 a3 y181 (wrap64 (x10_1 + 1))) = some r := by first | (rw [hy181]; with_reducible exact H) | (have H2_ := (Option.bind_some _ _).symm.trans H; rw [hy181]; with_reducible exact H2_) | (have H2_ := (Option.bind_some _ _).symm.trans H; with_reducible exact H2_) | with_reducible exact H | (rw [hy181]; exact H) | exact H
           have Ny181 := Aside0.mk hy181
           clear hy181
           have H' := Aside0.mk H
           clear H
           try go_wp2
           have n0_ := Aside0.mk (Kd.V_drew HO_0.out)
           have n1_ := Aside0.mk (Kd.N_drew HO_9.out)
           have n2_ := Aside0.mk (below_drew1 HB.out)
           clear HO_0
           clear HO_9
           clear HB
           have HO_0 := n0_
           have HO_9 := n1_
           have HB := n2_
           clear n0_ n1_ n2_
           have p165 : 0 ≤ (x10_1 : Int) := of_decide_eq_true (by first | (with_reducible assumption) | assumption)
           have q165 : x10_1 < (l0.length : Int) := of_decide_eq_true (by first | (with_reducible assumption) | assumption)
           obtain ⟨ad165, A165_0, c165_0, A165_1, c165_1, e165, hx165_0, hx165_1, hx165_2, hl165_0, hi165_0, hl165_1, hi165_1⟩ := at_T49 (Kd.V_reads' HO_0.out).2.2 x10_1 p165 q165
           (try rw [← Nbq12.out] at hx165_2)
           cases e165
           obtain ⟨ce165, hce165, hMe165, hcc165⟩ := Kd.V_get HO_0.out z49 x10_1 p165 (by first | exact q165 | exact of_decide_eq_true (by first | (with_reducible assumption) | assumption) | (have e_ := (Kd.V_reads' HO_0.out).1; omega))
           obtain ⟨ua165_0, uc165_0, ua165_1, uc165_1, rfl, ul165_0, ge165_0, ul165_1, ge165_1⟩ := k49_openF hMe165
           have hv165_0 := hcc165 0 _ rfl
           rw [Nat.add_zero] at hv165_0
           replace hv165_0 := Option.some.inj (hv165_0.symm.trans hx165_0)
           injection hv165_0 with hva_ hvn_ hvc_
           rw [hva_] at ge165_0
           rw [hvc_] at ul165_0
           have HL165_0 := Aside0.mk (show Kd.V (Kd.int .u8) 5 _ w.heap.size _ _ ((rd_T49 l0 x10_1).f0) from Kd.V_mk ul165_0 ge165_0)
           clear hva_ hvn_ hvc_ ge165_0 ul165_0
           have hv165_1 := hcc165 1 _ rfl
           rw [add_field _ _ 1 (by omega)] at hv165_1
           replace hv165_1 := Option.some.inj (hv165_1.symm.trans hx165_1)
           injection hv165_1 with hva_ hvn_ hvc_
           rw [hva_] at ge165_1
           rw [hvc_] at ul165_1
           have HL165_1 := Aside0.mk (show Kd.V (Kd.int .u8) 5 _ w.heap.size _ _ ((rd_T49 l0 x10_1).f1) from Kd.V_mk ul165_1 ge165_1)
           clear hva_ hvn_ hvc_ ge165_1 ul165_1
           clear hcc165 hce165
           have HR165_0 := Aside0.mk hi165_0
           have HC165_0 := Aside0.mk hl165_0
           clear hi165_0 hl165_0
           have HR165_1 := Aside0.mk hi165_1
           have HC165_1 := Aside0.mk hl165_1
           clear hi165_1 hl165_1
           replace p165 := eq_true p165
           replace q165 := eq_true q165
           have p169 : 0 ≤ (x10_1 : Int) := of_decide_eq_true (by first | (with_reducible assumption) | assumption)
           have q169 : x10_1 < (l0.length : Int) := of_decide_eq_true (by first | (with_reducible assumption) | assumption)
           obtain ⟨ad169, A169_0, c169_0, A169_1, c169_1, e169, hx169_0, hx169_1, hx169_2, hl169_0, hi169_0, hl169_1, hi169_1⟩ := at_T49 (Kd.V_reads' HO_0.out).2.2 x10_1 p169 q169
           (try rw [← Nbq12.out] at hx169_2)
           obtain rfl : ad165 = ad169 := (by injection e169)
           obtain ⟨ce169, hce169, hMe169, hcc169⟩ := Kd.V_get HO_0.out z49 x10_1 p169 (by first | exact q169 | exact of_decide_eq_true (by first | (with_reducible assumption) | assumption) | (have e_ := (Kd.V_reads' HO_0.out).1; omega))
           obtain ⟨ua169_0, uc169_0, ua169_1, uc169_1, rfl, ul169_0, ge169_0, ul169_1, ge169_1⟩ := k49_openF hMe169
           have hv169_0 := hcc169 0 _ rfl
           rw [Nat.add_zero] at hv169_0
           replace hv169_0 := Option.some.inj (hv169_0.symm.trans hx169_0)
           injection hv169_0 with hva_ hvn_ hvc_
           rw [hva_] at ge169_0
           rw [hvc_] at ul169_0
           have HL169_0 := Aside0.mk (show Kd.V (Kd.int .u8) 5 _ w.heap.size _ _ ((rd_T49 l0 x10_1).f0) from Kd.V_mk ul169_0 ge169_0)
           clear hva_ hvn_ hvc_ ge169_0 ul169_0
           have hv169_1 := hcc169 1 _ rfl
           rw [add_field _ _ 1 (by omega)] at hv169_1
           replace hv169_1 := Option.some.inj (hv169_1.symm.trans hx169_1)
           injection hv169_1 with hva_ hvn_ hvc_
           rw [hva_] at ge169_1
           rw [hvc_] at ul169_1
           have HL169_1 := Aside0.mk (show Kd.V (Kd.int .u8) 5 _ w.heap.size _ _ ((rd_T49 l0 x10_1).f1) from Kd.V_mk ul169_1 ge169_1)
           clear hva_ hvn_ hvc_ ge169_1 ul169_1
           clear hcc169 hce169
           have HR169_0 := Aside0.mk hi169_0
           have HC169_0 := Aside0.mk hl169_0
           clear hi169_0 hl169_0
           have HR169_1 := Aside0.mk hi169_1
           have HC169_1 := Aside0.mk hl169_1
           clear hi169_1 hl169_1
           replace p169 := eq_true p169
           replace q169 := eq_true q169
           have ea_ := Option.some.inj (hx165_0.symm.trans hx169_0)
           injection ea_ with ea_ en_ ec_
           subst ea_
           subst ec_
           clear en_
           have ea_ := Option.some.inj (hx165_1.symm.trans hx169_1)
           injection ea_ with ea_ en_ ec_
           subst ea_
           subst ec_
           clear en_
           refine start_ (n := 15) (S := fun w' => w'.cell? (ad165.add ((x10_1).toNat * 3)) = some (.slice A165_0 ((rd_T49 l0 x10_1).f0).length c165_0) ∧ w'.cell? ⟨(ad165.add ((x10_1).toNat * 3)).block, (ad165.add ((x10_1).toNat * 3)).off + 1, none⟩ = some (.slice A165_1 ((rd_T49 l0 x10_1).f1).length c165_1) ∧ w'.cell? ⟨(ad165.add ((x10_1).toNat * 3)).block, (ad165.add ((x10_1).toNat * 3)).off + 2, none⟩ = some (.bool false) ∧ w'.cell? (ad165.add ((x10_1).toNat * 3)) = some (.slice A165_0 ((rd_T49 l0 x10_1).f0).length c165_0) ∧ w'.cell? ⟨(ad165.add ((x10_1).toNat * 3)).block, (ad165.add ((x10_1).toNat * 3)).off + 1, none⟩ = some (.slice A165_1 ((rd_T49 l0 x10_1).f1).length c165_1) ∧ w'.cell? ⟨(ad165.add ((x10_1).toNat * 3)).block, (ad165.add ((x10_1).toNat * 3)).off + 2, none⟩ = some (.bool false)) (ds := []) #[false, false, false, false, false, false, false, false, false, false, false, false, false, false, false] (by kernel_rfl) rfl rfl ⟨hx165_0, hx165_1, hx165_2, hx169_0, hx169_1, hx169_2⟩ (fun hHeld => ?_); refine with_tabW marigraphkeep_Entries.tab5 marigraphkeep_Entries.bits5 (fun HT_ HW_ => ?_)
           generalize wc.drew = w34 at HO_0 HO_9 HB HL165_0 HL165_1 HL169_0 HL169_1 HR165_0 HR165_1 HR169_0 HR169_1 hx165_0 hx165_1 hx165_2 hx169_0 hx169_1 hx169_2 hHeld ⊢
           refine pA 0 (some 23) (bA 15 1) HT_.out ?_
           refine pA 1 (some 24) (bA 15 3) HT_.out ?_
           refine pA 2 (some 25) (bA 15 7) HT_.out ?_
           refine pA 3 (some 26) (bA 15 15) HT_.out ?_
           refine pA 5 (some 28) (bA 15 47) HT_.out ?_
           refine pA 7 (some 30) (bA 15 175) HT_.out ?_
           refine pA 8 (some 31) (bA 15 431) HT_.out ?_
           refine pA 9 (some 32) (bA 15 943) HT_.out ?_
           refine pA 10 (some 33) (bA 15 1967) HT_.out ?_
           refine take_ (i := 4) (N := some 27) (v := ?_) (a' := ?_) (bA 15 1983) rfl rfl (take_ofW HT_.out HW_.out (by kernel_rfl)) (fun _ _ _ h => h) (Or.inl ⟨by rfl, ?_⟩) hHeld ?_ ?_
           rotate_left
           ·rintro w' ⟨s0, s1, s2, s3, s4, s5⟩
            go_simp
            with_reducible rfl
           rotate_left
           ·simp only [Act.put, List.setIfInBounds_toArray, List.set_cons_zero, List.set_cons_succ, i64_w, i32_w]
            rfl
           refine take_ (i := 11) (N := some 34) (v := ?_) (a' := ?_) (bA 15 4031) rfl rfl (take_ofW HT_.out HW_.out (by kernel_rfl)) (fun _ _ _ h => h) (Or.inl ⟨by rfl, ?_⟩) hHeld ?_ ?_
           rotate_left
           ·rintro w' ⟨s0, s1, s2, s3, s4, s5⟩
            go_simp
            with_reducible rfl
           rotate_left
           ·simp only [Act.put, List.setIfInBounds_toArray, List.set_cons_zero, List.set_cons_succ, i64_w, i32_w]
            rfl
           refine join_ (σ := Value × Nat) 1 (bA 15 16383) (fun s_ => [(29, s_.1), (11, .pointer (some ⟨s_.2, 0, none⟩)), (35, .agg #[s_.1, .slice none 0 0, .bool false])]) (fun s_ w' => (w'.cell? (ad165.add ((x10_1).toNat * 3)) = some (.slice A165_0 ((rd_T49 l0 x10_1).f0).length c165_0) ∧ w'.cell? ⟨(ad165.add ((x10_1).toNat * 3)).block, (ad165.add ((x10_1).toNat * 3)).off + 1, none⟩ = some (.slice A165_1 ((rd_T49 l0 x10_1).f1).length c165_1) ∧ w'.cell? ⟨(ad165.add ((x10_1).toNat * 3)).block, (ad165.add ((x10_1).toNat * 3)).off + 2, none⟩ = some (.bool false) ∧ w'.cell? (ad165.add ((x10_1).toNat * 3)) = some (.slice A165_0 ((rd_T49 l0 x10_1).f0).length c165_0) ∧ w'.cell? ⟨(ad165.add ((x10_1).toNat * 3)).block, (ad165.add ((x10_1).toNat * 3)).off + 1, none⟩ = some (.slice A165_1 ((rd_T49 l0 x10_1).f1).length c165_1) ∧ w'.cell? ⟨(ad165.add ((x10_1).toNat * 3)).block, (ad165.add ((x10_1).toNat * 3)).off + 2, none⟩ = some (.bool false)) ∧ (Kd.V (Kd.int .u8) 5 w' w.heap.size (fun k_ => (P0_ k_ ∨ w.heap.size ≤ k_) ∧ some k_ ≠ (u9 : Value).ownBlock ∧ k_ ≠ s_.2) (.slice A165_0 ((rd_T49 l0 x10_1).f0).length c165_0) ((rd_T49 l0 x10_1).f0)) ∧ (Kd.V (Kd.int .u8) 5 w' w.heap.size (fun k_ => (P0_ k_ ∨ w.heap.size ≤ k_) ∧ some k_ ≠ (u9 : Value).ownBlock ∧ k_ ≠ s_.2) (.slice A165_1 ((rd_T49 l0 x10_1).f1).length c165_1) ((rd_T49 l0 x10_1).f1)) ∧ (Kd.V (Kd.int .u8) 5 w' w.heap.size (fun k_ => (P0_ k_ ∨ w.heap.size ≤ k_) ∧ some k_ ≠ (u9 : Value).ownBlock ∧ k_ ≠ s_.2) (.slice A165_0 ((rd_T49 l0 x10_1).f0).length c165_0) ((rd_T49 l0 x10_1).f0)) ∧ (Kd.V (Kd.int .u8) 5 w' w.heap.size (fun k_ => (P0_ k_ ∨ w.heap.size ≤ k_) ∧ some k_ ≠ (u9 : Value).ownBlock ∧ k_ ≠ s_.2) (.slice A165_1 ((rd_T49 l0 x10_1).f1).length c165_1) ((rd_T49 l0 x10_1).f1)) ∧ (Kd.V (Kd.int .u8) 5 w' w.heap.size (fun k_ => (P0_ k_ ∨ w.heap.size ≤ k_) ∧ some k_ ≠ (u9 : Value).ownBlock ∧ k_ ≠ s_.2) s_.1 t166) ∧ (Kd.V k49 49 w' w.heap.size (fun k_ => (P0_ k_ ∨ w.heap.size ≤ k_) ∧ some k_ ≠ (u9 : Value).ownBlock ∧ k_ ≠ s_.2) (.slice (some ad165) l0.length c0) l0) ∧ (Kd.N k49 49 w' w.heap.size (fun k_ => (P0_ k_ ∨ w.heap.size ≤ k_) ∧ k_ ≠ s_.2) u9 x9_1) ∧ (w'.heap[s_.2]? = some (.cells #[.slice none 0 0, .slice none 0 0, .bool false] 49 (0, 0))) ∧ (w.heap.size ≤ s_.2) ∧ (w.heap.size ≤ s_.2) ∧ (Below w.heap.size w w')) ?_ ?_
           rotate_left
           ·intro hCont
            refine two_ (i := 6) (j := 13) (Ni := some 29) (Nj := some 11) (bA 15 4095) (bA 15 12223) rfl rfl rfl rfl (two_of HT_.out (by kernel_rfl)) (by decide) (by decide) (fun K hK => ?_) (fun K hK => ?_)
            ·skip
             refine goes_ Try.func14 (by kernel_rfl) rfl #[.slice A165_0 ((rd_T49 l0 x10_1).f0).length c165_0, .int .i64 a2] (by rfl) rfl rfl argN ?_
             with_reducible refine (marigraphkeep_Cut.calls (fun k_ => ((P0_ k_ ∨ w.heap.size ≤ k_) ∧ some k_ ≠ (u9 : Value).ownBlock)) _ _ ((rd_T49 l0 x10_1).f0) a2 t166 _ ?side1 A10.out).mono ?_
             (case side1 => exact HL165_0.out)
             rintro e w35 ⟨v167, rfl, ho0, hb⟩
             have HS0_ := (hb.cell (World.block_lt_of_cell? _ _ (hHeld.1))).trans (hHeld.1)
             have HS1_ := (hb.cell (World.block_lt_of_cell? _ _ (hHeld.2.1))).trans (hHeld.2.1)
             have HS2_ := (hb.cell (World.block_lt_of_cell? _ _ (hHeld.2.2.1))).trans (hHeld.2.2.1)
             have HS3_ := (hb.cell (World.block_lt_of_cell? _ _ (hHeld.2.2.2.1))).trans (hHeld.2.2.2.1)
             have HS4_ := (hb.cell (World.block_lt_of_cell? _ _ (hHeld.2.2.2.2.1))).trans (hHeld.2.2.2.2.1)
             have HS5_ := (hb.cell (World.block_lt_of_cell? _ _ (hHeld.2.2.2.2.2))).trans (hHeld.2.2.2.2.2)
             refine ⟨_, rfl, ?_⟩
             have n0_ := Aside0.mk (Kd.V_below (by (with_reducible repeat (first | apply Kd.V_alloc | apply Kd.V_drewN | apply Kd.V_drew)); exact HO_0.out) hb)
             have n1_ := Aside0.mk (Kd.N_below (by (with_reducible repeat (first | apply Kd.N_alloc | apply Kd.N_drewN | apply Kd.N_drew)); exact HO_9.out) hb)
             have n2_ := Aside0.mk (Kd.V_below (by (with_reducible repeat (first | apply Kd.V_alloc | apply Kd.V_drewN | apply Kd.V_drew)); exact HL165_0.out) hb)
             have n3_ := Aside0.mk (Kd.V_below (by (with_reducible repeat (first | apply Kd.V_alloc | apply Kd.V_drewN | apply Kd.V_drew)); exact HL165_1.out) hb)
             have n4_ := Aside0.mk (Kd.V_below (by (with_reducible repeat (first | apply Kd.V_alloc | apply Kd.V_drewN | apply Kd.V_drew)); exact HL169_0.out) hb)
             have n5_ := Aside0.mk (Kd.V_below (by (with_reducible repeat (first | apply Kd.V_alloc | apply Kd.V_drewN | apply Kd.V_drew)); exact HL169_1.out) hb)
             have n6_ := Aside0.mk (Kd.V_lower (Kd.V_mono (ok' := fun k_ => (P0_ k_ ∨ w.heap.size ≤ k_) ∧ some k_ ≠ (u9 : Value).ownBlock) ho0 (fun k_ hk_ => ⟨Or.elim hk_ (fun hs_ => hs_.1) (fun hn_ => (.inr (Nat.le_trans (below_size (belN HB.out)) hn_))), Or.elim hk_ (fun hs_ => hs_.2) (fun hn_ => (Kd.fresh' (Kd.N_lt (by (with_reducible repeat (first | apply Kd.N_alloc | apply Kd.N_drewN | apply Kd.N_drew)); exact HO_9.out)) k_ hn_))⟩)) (below_size (belN HB.out)))
             have n7_ := Aside0.mk (cbN HR165_0.out hb)
             have n8_ := Aside0.mk (cbN HR165_1.out hb)
             have n9_ := Aside0.mk (cbN HR169_0.out hb)
             have n10_ := Aside0.mk (cbN HR169_1.out hb)
             have n11_ := Aside0.mk (below_step (belN HB.out) hb)
             clear HO_0
             clear HO_9
             clear HL165_0
             clear HL165_1
             clear HL169_0
             clear HL169_1
             clear HR165_0
             clear HR165_1
             clear HR169_0
             clear HR169_1
             clear HB
             have HO_0 := n0_
             have HO_9 := n1_
             have HL165_0 := n2_
             have HL165_1 := n3_
             have HL169_0 := n4_
             have HL169_1 := n5_
             have HO168 := n6_
             have HR165_0 := n7_
             have HR165_1 := n8_
             have HR169_0 := n9_
             have HR169_1 := n10_
             have HB := n11_
             clear n0_ n1_ n2_ n3_ n4_ n5_ n6_ n7_ n8_ n9_ n10_ n11_
             (try clear hb)
             (try clear hk)
             (try clear ho0)
             obtain ⟨Ao36, co36, eo36⟩ := Kd.V_slice HO168.out
             (first | subst eo36 | (injection eo36 with f1_ f2_ f3_; have f4_ := f1_.symm; have f5_ := f3_.symm; clear f1_ f2_ f3_; subst f4_; subst f5_))
             refine hK.out _ _ ⟨HS0_, HS1_, HS2_, HS3_, HS4_, HS5_⟩ (fun hHeld => ?_)
             clear hK K
             refine norm_ (a' := ?_) ?_ ?_
             rotate_left
             ·show Act.put _ (some 29) _ = _
              simp only [Act.put, List.setIfInBounds_toArray, List.set_cons_zero, List.set_cons_succ, i64_w, i32_w]
              rfl
             refine pA 12 (some 35) (bA 15 8191) HT_.out ?_
             refine one_ (i := 13) (N := some 11) (bA 15 16383) rfl rfl (one_of HT_.out (by kernel_rfl)) (by decide) (fun K hK => ?_)
             refine box_step ?hg (N := 11) ?hd (cs := #[.slice none 0 0, .slice none 0 0, .bool false]) (t := 49) ?hr ?_; (case hd => rfl); (case hg => rfl); (case hr => first | (go_simp; done) | (go_simp; rfl))
             intro gb170 hg w37 hbox hb
             have HS0_ := (hb.cell (World.block_lt_of_cell? _ _ (hHeld.1))).trans (hHeld.1)
             have HS1_ := (hb.cell (World.block_lt_of_cell? _ _ (hHeld.2.1))).trans (hHeld.2.1)
             have HS2_ := (hb.cell (World.block_lt_of_cell? _ _ (hHeld.2.2.1))).trans (hHeld.2.2.1)
             have HS3_ := (hb.cell (World.block_lt_of_cell? _ _ (hHeld.2.2.2.1))).trans (hHeld.2.2.2.1)
             have HS4_ := (hb.cell (World.block_lt_of_cell? _ _ (hHeld.2.2.2.2.1))).trans (hHeld.2.2.2.2.1)
             have HS5_ := (hb.cell (World.block_lt_of_cell? _ _ (hHeld.2.2.2.2.2))).trans (hHeld.2.2.2.2.2)
             have n0_ := Aside0.mk (Kd.V_below (Kd.V_elderB (by (with_reducible repeat (first | apply Kd.V_alloc | apply Kd.V_drewN | apply Kd.V_drew)); exact HO_0.out) gb170 (Nat.le_of_eq hg.symm)) hb)
             have n1_ := Aside0.mk (Kd.N_below (Kd.N_elderB (by (with_reducible repeat (first | apply Kd.N_alloc | apply Kd.N_drewN | apply Kd.N_drew)); exact HO_9.out) gb170 (Nat.le_of_eq hg.symm)) hb)
             have n2_ := Aside0.mk (Kd.V_below (Kd.V_elderB (by (with_reducible repeat (first | apply Kd.V_alloc | apply Kd.V_drewN | apply Kd.V_drew)); exact HL165_0.out) gb170 (Nat.le_of_eq hg.symm)) hb)
             have n3_ := Aside0.mk (Kd.V_below (Kd.V_elderB (by (with_reducible repeat (first | apply Kd.V_alloc | apply Kd.V_drewN | apply Kd.V_drew)); exact HL165_1.out) gb170 (Nat.le_of_eq hg.symm)) hb)
             have n4_ := Aside0.mk (Kd.V_below (Kd.V_elderB (by (with_reducible repeat (first | apply Kd.V_alloc | apply Kd.V_drewN | apply Kd.V_drew)); exact HL169_0.out) gb170 (Nat.le_of_eq hg.symm)) hb)
             have n5_ := Aside0.mk (Kd.V_below (Kd.V_elderB (by (with_reducible repeat (first | apply Kd.V_alloc | apply Kd.V_drewN | apply Kd.V_drew)); exact HL169_1.out) gb170 (Nat.le_of_eq hg.symm)) hb)
             have n6_ := Aside0.mk (Kd.V_below (Kd.V_elderB (by (with_reducible repeat (first | apply Kd.V_alloc | apply Kd.V_drewN | apply Kd.V_drew)); exact HO168.out) gb170 (Nat.le_of_eq hg.symm)) hb)
             have n7_ := Aside0.mk (cbN HR165_0.out hb)
             have n8_ := Aside0.mk (cbN HR165_1.out hb)
             have n9_ := Aside0.mk (cbN HR169_0.out hb)
             have n10_ := Aside0.mk (cbN HR169_1.out hb)
             have n11_ := Aside0.mk (below_step (belN HB.out) hb)
             have n12_ := Aside0.mk (hbox)
             have n13_ := Aside0.mk (szB hg HB.out)
             have n14_ := Aside0.mk (szB hg HB.out)
             clear HO_0
             clear HO_9
             clear HL165_0
             clear HL165_1
             clear HL169_0
             clear HL169_1
             clear HO168
             clear HR165_0
             clear HR165_1
             clear HR169_0
             clear HR169_1
             clear HB
             have HO_0 := n0_
             have HO_9 := n1_
             have HL165_0 := n2_
             have HL165_1 := n3_
             have HL169_0 := n4_
             have HL169_1 := n5_
             have HO168 := n6_
             have HR165_0 := n7_
             have HR165_1 := n8_
             have HR169_0 := n9_
             have HR169_1 := n10_
             have HB := n11_
             have BK170 := n12_
             have GW170 := n13_
             have GE170 := n14_
             clear n0_ n1_ n2_ n3_ n4_ n5_ n6_ n7_ n8_ n9_ n10_ n11_ n12_ n13_ n14_
             clear hb hbox hg
             refine hK.out _ _ ⟨HS0_, HS1_, HS2_, HS3_, HS4_, HS5_⟩ (fun hHeld => ?_)
             clear hK K
             refine norm_ (a' := ?_) ?_ ?_
             rotate_left
             ·show Act.put _ (some 11) _ = _
              simp only [Act.put, List.setIfInBounds_toArray, List.set_cons_zero, List.set_cons_succ, i64_w, i32_w]
              rfl
             exact norm_ (by simp only [putAll, Act.put, List.setIfInBounds_toArray, List.set_cons_zero, List.set_cons_succ]) (hCont (.slice Ao36 t166.length co36, gb170) _ ⟨hHeld, (by (with_reducible repeat (first | apply Kd.V_alloc | apply Kd.V_drewN | apply Kd.V_drew)); exact Kd.V_mono HL165_0.out (fun _ hk => ⟨hk.1.1, ⟨hk.1.2, hk.2⟩⟩)), (by (with_reducible repeat (first | apply Kd.V_alloc | apply Kd.V_drewN | apply Kd.V_drew)); exact Kd.V_mono HL165_1.out (fun _ hk => ⟨hk.1.1, ⟨hk.1.2, hk.2⟩⟩)), (by (with_reducible repeat (first | apply Kd.V_alloc | apply Kd.V_drewN | apply Kd.V_drew)); exact Kd.V_mono HL169_0.out (fun _ hk => ⟨hk.1.1, ⟨hk.1.2, hk.2⟩⟩)), (by (with_reducible repeat (first | apply Kd.V_alloc | apply Kd.V_drewN | apply Kd.V_drew)); exact Kd.V_mono HL169_1.out (fun _ hk => ⟨hk.1.1, ⟨hk.1.2, hk.2⟩⟩)), (by (with_reducible repeat (first | apply Kd.V_alloc | apply Kd.V_drewN | apply Kd.V_drew)); exact Kd.V_mono HO168.out (fun _ hk => ⟨hk.1.1, ⟨hk.1.2, hk.2⟩⟩)), (by (with_reducible repeat (first | apply Kd.V_alloc | apply Kd.V_drewN | apply Kd.V_drew)); exact Kd.V_mono HO_0.out (fun _ hk => ⟨hk.1.1, ⟨hk.1.2, hk.2⟩⟩)), (by (with_reducible repeat (first | apply Kd.N_alloc | apply Kd.N_drewN | apply Kd.N_drew)); exact HO_9.out), (blkN BK170.out), GW170.out, GE170.out, (belS HB.out)⟩)
            ·skip
             refine box_step ?hg (N := 11) ?hd (cs := #[.slice none 0 0, .slice none 0 0, .bool false]) (t := 49) ?hr ?_; (case hd => rfl); (case hg => rfl); (case hr => first | (go_simp; done) | (go_simp; rfl))
             intro gb170 hg w35 hbox hb
             have HS0_ := (hb.cell (World.block_lt_of_cell? _ _ (hHeld.1))).trans (hHeld.1)
             have HS1_ := (hb.cell (World.block_lt_of_cell? _ _ (hHeld.2.1))).trans (hHeld.2.1)
             have HS2_ := (hb.cell (World.block_lt_of_cell? _ _ (hHeld.2.2.1))).trans (hHeld.2.2.1)
             have HS3_ := (hb.cell (World.block_lt_of_cell? _ _ (hHeld.2.2.2.1))).trans (hHeld.2.2.2.1)
             have HS4_ := (hb.cell (World.block_lt_of_cell? _ _ (hHeld.2.2.2.2.1))).trans (hHeld.2.2.2.2.1)
             have HS5_ := (hb.cell (World.block_lt_of_cell? _ _ (hHeld.2.2.2.2.2))).trans (hHeld.2.2.2.2.2)
             have n0_ := Aside0.mk (Kd.V_below (Kd.V_elderB (by (with_reducible repeat (first | apply Kd.V_alloc | apply Kd.V_drewN | apply Kd.V_drew)); exact HO_0.out) gb170 (Nat.le_of_eq hg.symm)) hb)
             have n1_ := Aside0.mk (Kd.N_below (Kd.N_elderB (by (with_reducible repeat (first | apply Kd.N_alloc | apply Kd.N_drewN | apply Kd.N_drew)); exact HO_9.out) gb170 (Nat.le_of_eq hg.symm)) hb)
             have n2_ := Aside0.mk (Kd.V_below (Kd.V_elderB (by (with_reducible repeat (first | apply Kd.V_alloc | apply Kd.V_drewN | apply Kd.V_drew)); exact HL165_0.out) gb170 (Nat.le_of_eq hg.symm)) hb)
             have n3_ := Aside0.mk (Kd.V_below (Kd.V_elderB (by (with_reducible repeat (first | apply Kd.V_alloc | apply Kd.V_drewN | apply Kd.V_drew)); exact HL165_1.out) gb170 (Nat.le_of_eq hg.symm)) hb)
             have n4_ := Aside0.mk (Kd.V_below (Kd.V_elderB (by (with_reducible repeat (first | apply Kd.V_alloc | apply Kd.V_drewN | apply Kd.V_drew)); exact HL169_0.out) gb170 (Nat.le_of_eq hg.symm)) hb)
             have n5_ := Aside0.mk (Kd.V_below (Kd.V_elderB (by (with_reducible repeat (first | apply Kd.V_alloc | apply Kd.V_drewN | apply Kd.V_drew)); exact HL169_1.out) gb170 (Nat.le_of_eq hg.symm)) hb)
             have n6_ := Aside0.mk (cbN HR165_0.out hb)
             have n7_ := Aside0.mk (cbN HR165_1.out hb)
             have n8_ := Aside0.mk (cbN HR169_0.out hb)
             have n9_ := Aside0.mk (cbN HR169_1.out hb)
             have n10_ := Aside0.mk (below_step (belN HB.out) hb)
             have n11_ := Aside0.mk (hbox)
             have n12_ := Aside0.mk (szB hg HB.out)
             have n13_ := Aside0.mk (szB hg HB.out)
             clear HO_0
             clear HO_9
             clear HL165_0
             clear HL165_1
             clear HL169_0
             clear HL169_1
             clear HR165_0
             clear HR165_1
             clear HR169_0
             clear HR169_1
             clear HB
             have HO_0 := n0_
             have HO_9 := n1_
             have HL165_0 := n2_
             have HL165_1 := n3_
             have HL169_0 := n4_
             have HL169_1 := n5_
             have HR165_0 := n6_
             have HR165_1 := n7_
             have HR169_0 := n8_
             have HR169_1 := n9_
             have HB := n10_
             have BK170 := n11_
             have GW170 := n12_
             have GE170 := n13_
             clear n0_ n1_ n2_ n3_ n4_ n5_ n6_ n7_ n8_ n9_ n10_ n11_ n12_ n13_
             clear hb hbox hg
             refine hK.out _ _ ⟨HS0_, HS1_, HS2_, HS3_, HS4_, HS5_⟩ (fun hHeld => ?_)
             clear hK K
             refine norm_ (a' := ?_) ?_ ?_
             rotate_left
             ·show Act.put _ (some 11) _ = _
              simp only [Act.put, List.setIfInBounds_toArray, List.set_cons_zero, List.set_cons_succ, i64_w, i32_w]
              rfl
             refine one_ (i := 6) (N := some 29) (bA 15 12287) rfl rfl (one_of HT_.out (by kernel_rfl)) (by decide) (fun K hK => ?_)
             refine goes_ Try.func14 (by kernel_rfl) rfl #[.slice A165_0 ((rd_T49 l0 x10_1).f0).length c165_0, .int .i64 a2] (by rfl) rfl rfl argN ?_
             with_reducible refine (marigraphkeep_Cut.calls (fun k_ => (((P0_ k_ ∨ w.heap.size ≤ k_) ∧ some k_ ≠ (u9 : Value).ownBlock) ∧ k_ ≠ gb170)) _ _ ((rd_T49 l0 x10_1).f0) a2 t166 _ ?side1 A10.out).mono ?_
             (case side1 => exact HL165_0.out)
             rintro e w36 ⟨v167, rfl, ho0, hb⟩
             have HS0_ := (hb.cell (World.block_lt_of_cell? _ _ (hHeld.1))).trans (hHeld.1)
             have HS1_ := (hb.cell (World.block_lt_of_cell? _ _ (hHeld.2.1))).trans (hHeld.2.1)
             have HS2_ := (hb.cell (World.block_lt_of_cell? _ _ (hHeld.2.2.1))).trans (hHeld.2.2.1)
             have HS3_ := (hb.cell (World.block_lt_of_cell? _ _ (hHeld.2.2.2.1))).trans (hHeld.2.2.2.1)
             have HS4_ := (hb.cell (World.block_lt_of_cell? _ _ (hHeld.2.2.2.2.1))).trans (hHeld.2.2.2.2.1)
             have HS5_ := (hb.cell (World.block_lt_of_cell? _ _ (hHeld.2.2.2.2.2))).trans (hHeld.2.2.2.2.2)
             refine ⟨_, rfl, ?_⟩
             have n0_ := Aside0.mk (Kd.V_below (by (with_reducible repeat (first | apply Kd.V_alloc | apply Kd.V_drewN | apply Kd.V_drew)); exact HO_0.out) hb)
             have n1_ := Aside0.mk (Kd.N_below (by (with_reducible repeat (first | apply Kd.N_alloc | apply Kd.N_drewN | apply Kd.N_drew)); exact HO_9.out) hb)
             have n2_ := Aside0.mk (Kd.V_below (by (with_reducible repeat (first | apply Kd.V_alloc | apply Kd.V_drewN | apply Kd.V_drew)); exact HL165_0.out) hb)
             have n3_ := Aside0.mk (Kd.V_below (by (with_reducible repeat (first | apply Kd.V_alloc | apply Kd.V_drewN | apply Kd.V_drew)); exact HL165_1.out) hb)
             have n4_ := Aside0.mk (Kd.V_below (by (with_reducible repeat (first | apply Kd.V_alloc | apply Kd.V_drewN | apply Kd.V_drew)); exact HL169_0.out) hb)
             have n5_ := Aside0.mk (Kd.V_below (by (with_reducible repeat (first | apply Kd.V_alloc | apply Kd.V_drewN | apply Kd.V_drew)); exact HL169_1.out) hb)
             have n6_ := Aside0.mk (Kd.V_lower (Kd.V_mono (ok' := fun k_ => (P0_ k_ ∨ w.heap.size ≤ k_) ∧ some k_ ≠ (u9 : Value).ownBlock ∧ k_ ≠ gb170) ho0 (fun k_ hk_ => ⟨Or.elim hk_ (fun hs_ => hs_.1.1) (fun hn_ => (.inr (Nat.le_trans (below_size (belS HB.out)) hn_))), Or.elim hk_ (fun hs_ => hs_.1.2) (fun hn_ => (Kd.fresh' (Kd.N_lt (by (with_reducible repeat (first | apply Kd.N_alloc | apply Kd.N_drewN | apply Kd.N_drew)); exact HO_9.out)) k_ hn_)), Or.elim hk_ (fun hs_ => hs_.2) (fun hn_ => (Kd.freshB (g := gb170) (o := .cells #[.slice none 0 0, .slice none 0 0, .bool false] 49 (0, 0)) (blkN BK170.out) k_ hn_))⟩)) (below_size (belS HB.out)))
             have n7_ := Aside0.mk (cbN HR165_0.out hb)
             have n8_ := Aside0.mk (cbN HR165_1.out hb)
             have n9_ := Aside0.mk (cbN HR169_0.out hb)
             have n10_ := Aside0.mk (cbN HR169_1.out hb)
             have n11_ := Aside0.mk (bkB BK170.out hb)
             have n12_ := Aside0.mk (below_step (belS HB.out) hb)
             clear HO_0
             clear HO_9
             clear HL165_0
             clear HL165_1
             clear HL169_0
             clear HL169_1
             clear HR165_0
             clear HR165_1
             clear HR169_0
             clear HR169_1
             clear BK170
             clear HB
             have HO_0 := n0_
             have HO_9 := n1_
             have HL165_0 := n2_
             have HL165_1 := n3_
             have HL169_0 := n4_
             have HL169_1 := n5_
             have HO168 := n6_
             have HR165_0 := n7_
             have HR165_1 := n8_
             have HR169_0 := n9_
             have HR169_1 := n10_
             have BK170 := n11_
             have HB := n12_
             clear n0_ n1_ n2_ n3_ n4_ n5_ n6_ n7_ n8_ n9_ n10_ n11_ n12_
             (try clear hb)
             (try clear hk)
             (try clear ho0)
             obtain ⟨Ao37, co37, eo37⟩ := Kd.V_slice HO168.out
             (first | subst eo37 | (injection eo37 with f1_ f2_ f3_; have f4_ := f1_.symm; have f5_ := f3_.symm; clear f1_ f2_ f3_; subst f4_; subst f5_))
             refine hK.out _ _ ⟨HS0_, HS1_, HS2_, HS3_, HS4_, HS5_⟩ (fun hHeld => ?_)
             clear hK K
             refine norm_ (a' := ?_) ?_ ?_
             rotate_left
             ·show Act.put _ (some 29) _ = _
              simp only [Act.put, List.setIfInBounds_toArray, List.set_cons_zero, List.set_cons_succ, i64_w, i32_w]
              rfl
             refine pA 12 (some 35) (bA 15 16383) HT_.out ?_
             exact norm_ (by simp only [putAll, Act.put, List.setIfInBounds_toArray, List.set_cons_zero, List.set_cons_succ]) (hCont (.slice Ao37 t166.length co37, gb170) _ ⟨hHeld, (by (with_reducible repeat (first | apply Kd.V_alloc | apply Kd.V_drewN | apply Kd.V_drew)); exact Kd.V_mono HL165_0.out (fun _ hk => ⟨hk.1.1, ⟨hk.1.2, hk.2⟩⟩)), (by (with_reducible repeat (first | apply Kd.V_alloc | apply Kd.V_drewN | apply Kd.V_drew)); exact Kd.V_mono HL165_1.out (fun _ hk => ⟨hk.1.1, ⟨hk.1.2, hk.2⟩⟩)), (by (with_reducible repeat (first | apply Kd.V_alloc | apply Kd.V_drewN | apply Kd.V_drew)); exact Kd.V_mono HL169_0.out (fun _ hk => ⟨hk.1.1, ⟨hk.1.2, hk.2⟩⟩)), (by (with_reducible repeat (first | apply Kd.V_alloc | apply Kd.V_drewN | apply Kd.V_drew)); exact Kd.V_mono HL169_1.out (fun _ hk => ⟨hk.1.1, ⟨hk.1.2, hk.2⟩⟩)), (by (with_reducible repeat (first | apply Kd.V_alloc | apply Kd.V_drewN | apply Kd.V_drew)); exact HO168.out), (by (with_reducible repeat (first | apply Kd.V_alloc | apply Kd.V_drewN | apply Kd.V_drew)); exact Kd.V_mono HO_0.out (fun _ hk => ⟨hk.1.1, ⟨hk.1.2, hk.2⟩⟩)), (by (with_reducible repeat (first | apply Kd.N_alloc | apply Kd.N_drewN | apply Kd.N_drew)); exact HO_9.out), (blkN BK170.out), GW170.out, GE170.out, (belS HB.out)⟩)
           rintro ⟨v167, gb170⟩ w38 ⟨hS_, h0_, h1_, h2_, h3_, h4_, h5_, h6_, h7_, h8_, h9_, h10_⟩
           have n0_ : Aside0 (Kd.V (Kd.int .u8) 5 w38 w.heap.size (fun k_ => (P0_ k_ ∨ w.heap.size ≤ k_) ∧ some k_ ≠ (u9 : Value).ownBlock ∧ k_ ≠ gb170) (.slice A165_0 ((rd_T49 l0 x10_1).f0).length c165_0) ((rd_T49 l0 x10_1).f0)) := ⟨h0_⟩
           have n1_ : Aside0 (Kd.V (Kd.int .u8) 5 w38 w.heap.size (fun k_ => (P0_ k_ ∨ w.heap.size ≤ k_) ∧ some k_ ≠ (u9 : Value).ownBlock ∧ k_ ≠ gb170) (.slice A165_1 ((rd_T49 l0 x10_1).f1).length c165_1) ((rd_T49 l0 x10_1).f1)) := ⟨h1_⟩
           have n2_ : Aside0 (Kd.V (Kd.int .u8) 5 w38 w.heap.size (fun k_ => (P0_ k_ ∨ w.heap.size ≤ k_) ∧ some k_ ≠ (u9 : Value).ownBlock ∧ k_ ≠ gb170) (.slice A165_0 ((rd_T49 l0 x10_1).f0).length c165_0) ((rd_T49 l0 x10_1).f0)) := ⟨h2_⟩
           have n3_ : Aside0 (Kd.V (Kd.int .u8) 5 w38 w.heap.size (fun k_ => (P0_ k_ ∨ w.heap.size ≤ k_) ∧ some k_ ≠ (u9 : Value).ownBlock ∧ k_ ≠ gb170) (.slice A165_1 ((rd_T49 l0 x10_1).f1).length c165_1) ((rd_T49 l0 x10_1).f1)) := ⟨h3_⟩
           have n4_ : Aside0 (Kd.V (Kd.int .u8) 5 w38 w.heap.size (fun k_ => (P0_ k_ ∨ w.heap.size ≤ k_) ∧ some k_ ≠ (u9 : Value).ownBlock ∧ k_ ≠ gb170) v167 t166) := ⟨h4_⟩
           have n5_ : Aside0 (Kd.V k49 49 w38 w.heap.size (fun k_ => (P0_ k_ ∨ w.heap.size ≤ k_) ∧ some k_ ≠ (u9 : Value).ownBlock ∧ k_ ≠ gb170) (.slice (some ad165) l0.length c0) l0) := ⟨h5_⟩
           have n6_ : Aside0 (Kd.N k49 49 w38 w.heap.size (fun k_ => (P0_ k_ ∨ w.heap.size ≤ k_) ∧ k_ ≠ gb170) u9 x9_1) := ⟨h6_⟩
           have n7_ : Aside0 (w38.heap[gb170]? = some (.cells #[.slice none 0 0, .slice none 0 0, .bool false] 49 (0, 0))) := ⟨h7_⟩
           have n8_ : Aside0 (w.heap.size ≤ gb170) := ⟨h8_⟩
           have n9_ : Aside0 (w.heap.size ≤ gb170) := ⟨h9_⟩
           have n10_ : Aside0 (Below w.heap.size w w38) := ⟨h10_⟩
           clear HO_0
           clear HO_9
           clear HB
           clear h0_ h1_ h2_ h3_ h4_ h5_ h6_ h7_ h8_ h9_ h10_
           have HL165_0 := n0_
           have HL165_1 := n1_
           have HL169_0 := n2_
           have HL169_1 := n3_
           have HO168 := n4_
           have HO_0 := n5_
           have HO_9 := n6_
           have BK170 := n7_
           have GW170 := n8_
           have GE170 := n9_
           have HB := n10_
           clear n0_ n1_ n2_ n3_ n4_ n5_ n6_ n7_ n8_ n9_ n10_
           have hHeld : w38.cell? (ad165.add ((x10_1).toNat * 3)) = some (.slice A165_0 ((rd_T49 l0 x10_1).f0).length c165_0) ∧ w38.cell? ⟨(ad165.add ((x10_1).toNat * 3)).block, (ad165.add ((x10_1).toNat * 3)).off + 1, none⟩ = some (.slice A165_1 ((rd_T49 l0 x10_1).f1).length c165_1) ∧ w38.cell? ⟨(ad165.add ((x10_1).toNat * 3)).block, (ad165.add ((x10_1).toNat * 3)).off + 2, none⟩ = some (.bool false) ∧ w38.cell? (ad165.add ((x10_1).toNat * 3)) = some (.slice A165_0 ((rd_T49 l0 x10_1).f0).length c165_0) ∧ w38.cell? ⟨(ad165.add ((x10_1).toNat * 3)).block, (ad165.add ((x10_1).toNat * 3)).off + 1, none⟩ = some (.slice A165_1 ((rd_T49 l0 x10_1).f1).length c165_1) ∧ w38.cell? ⟨(ad165.add ((x10_1).toNat * 3)).block, (ad165.add ((x10_1).toNat * 3)).off + 2, none⟩ = some (.bool false) := hS_
           obtain ⟨Ao39, co39, eo39⟩ := Kd.V_slice HO168.out
           (first | subst eo39 | (injection eo39 with f1_ f2_ f3_; have f4_ := f1_.symm; have f5_ := f3_.symm; clear f1_ f2_ f3_; subst f4_; subst f5_))
           refine norm_ (a' := ?_) ?_ ?_
           rotate_left
           ·simp only [putAll, Act.put, List.setIfInBounds_toArray, List.set_cons_zero, List.set_cons_succ]
            rfl
           refine one_ (i := 14) (N := none) (bA 15 32767) rfl rfl (one_of HT_.out (by kernel_rfl)) (by decide) (fun K hK => ?_)
           have hs40 : w38.cell? ⟨gb170, 0, none⟩ = some (.slice none 0 0) := (blk_cell BK170.out 0).trans rfl
           have hfs40 := blk_frozen BK170.out 0
           have hs41 : w38.cell? ⟨gb170, 1, none⟩ = some (.slice none 0 0) := (blk_cell BK170.out 1).trans rfl
           have hfs41 := blk_frozen BK170.out 1
           have hs42 : w38.cell? ⟨gb170, 2, none⟩ = some (.bool false) := (blk_cell BK170.out 2).trans rfl
           have hfs42 := blk_frozen BK170.out 2
           refine skip_ (w1 := ?_) (by rfl) rfl ?_ ?_
           rotate_left
           ·go_simp
            rfl
           have hbl_ : (ad165.add ((x10_1).toNat * 3)).block ≠ gb170 := by rw [add_block]; exact V_blk HO_0.out z49 (by decide) (by have a_ := of_eq_true p165; have b_ := of_eq_true q165; omega) (fun _ hk => hk.2.2)
           refine hK.out _ _ ⟨(far3 (by exact hbl_)).trans hHeld.1, (far3 (by exact hbl_)).trans hHeld.2.1, (far3 (by exact hbl_)).trans hHeld.2.2.1, (far3 (by exact hbl_)).trans hHeld.2.2.2.1, (far3 (by exact hbl_)).trans hHeld.2.2.2.2.1, (far3 (by exact hbl_)).trans hHeld.2.2.2.2.2⟩ (fun hHeld => ?_)
           clear hbl_
           clear hK K
           refine done_ (done_of HT_.out (by kernel_rfl)) ?_
           have hcz43_0 : w38.cell? ⟨gb170, 0, none⟩ = some (.slice none 0 0) := (blk_cell BK170.out 0).trans rfl
           have hcz43_1 : w38.cell? ⟨gb170, 1, none⟩ = some (.slice none 0 0) := (blk_cell BK170.out 1).trans rfl
           have hcz43_2 : w38.cell? ⟨gb170, 2, none⟩ = some (.bool false) := (blk_cell BK170.out 2).trans rfl
           have hfz43_0 := blk_frozen BK170.out 0
           have hfz43_1 := blk_frozen BK170.out 1
           have hfz43_2 := blk_frozen BK170.out 2
           try go_wp2_with (first | ((with_reducible refine gate_dst (N := 40) rfl ?_); refine Kd.R_lit (Kd.int .u8) _ 5 ?hg (N := 40) ?hd (xs := ([107] : List Int)) (inner := [.int .u8 107]) (ok := fun _ => True) (okp := fun _ => True) ?hr ?hp (fun _ hk => hk) trivial (Below.refl _ _) (Nat.le_refl _) (by simp) ?_; (case hd => rfl); (case hg => rfl); (case hr => first | (go_simp; done) | (go_simp; rfl)); (case hp => exact (Reps.one (show Kd.M (Kd.int .u8) _ _ _ 107 [.int .u8 107] from rfl) (Reps.none _ _))); intro v172 w44 ho45 hb hg_ hnew_; clear hg_ hnew_; (first | rw [← Ny171.out] at ho45 | (simp only [Int.reduceToNat] at ho45; rw [← Ny171.out] at ho45)); have n0_ := Aside0.mk (Kd.V_elder' (by (with_reducible repeat (first | apply Kd.V_alloc | apply Kd.V_drewN | apply Kd.V_drew)); exact (Kd.V_mono (Kd.V_far (p := ⟨gb170, 2, none⟩) (Kd.V_far (p := ⟨gb170, 1, none⟩) (Kd.V_far (p := ⟨gb170, 0, none⟩) (Kd.V_mono HO_0.out (fun k_ hk => (⟨hk, hk.2.2⟩ : _ ∧ k_ ≠ gb170))) (fun _ hk => hk.2) (.slice Ao39 t166.length co39)) (fun _ hk => hk.2) (.slice none 0 0)) (fun _ hk => hk.2) (.bool false)) (fun _ h_ => h_.1))) (Kd.R_base ho45) hb); have n1_ := Aside0.mk (Kd.N_elder' (by (with_reducible repeat (first | apply Kd.N_alloc | apply Kd.N_drewN | apply Kd.N_drew)); exact (Kd.N_mono (Kd.N_far (p := ⟨gb170, 2, none⟩) (Kd.N_far (p := ⟨gb170, 1, none⟩) (Kd.N_far (p := ⟨gb170, 0, none⟩) (Kd.N_mono HO_9.out (fun k_ hk => (⟨hk, hk.2⟩ : _ ∧ k_ ≠ gb170))) (fun _ hk => hk.2) (.slice Ao39 t166.length co39)) (fun _ hk => hk.2) (.slice none 0 0)) (fun _ hk => hk.2) (.bool false)) (fun _ h_ => h_.1))) (Kd.R_base ho45) hb); have n2_ := Aside0.mk (Kd.V_elder' (by (with_reducible repeat (first | apply Kd.V_alloc | apply Kd.V_drewN | apply Kd.V_drew)); exact (Kd.V_mono (Kd.V_far (p := ⟨gb170, 2, none⟩) (Kd.V_far (p := ⟨gb170, 1, none⟩) (Kd.V_far (p := ⟨gb170, 0, none⟩) (Kd.V_mono HL165_0.out (fun k_ hk => (⟨hk, hk.2.2⟩ : _ ∧ k_ ≠ gb170))) (fun _ hk => hk.2) (.slice Ao39 t166.length co39)) (fun _ hk => hk.2) (.slice none 0 0)) (fun _ hk => hk.2) (.bool false)) (fun _ h_ => h_.1))) (Kd.R_base ho45) hb); have n3_ := Aside0.mk (Kd.V_elder' (by (with_reducible repeat (first | apply Kd.V_alloc | apply Kd.V_drewN | apply Kd.V_drew)); exact (Kd.V_mono (Kd.V_far (p := ⟨gb170, 2, none⟩) (Kd.V_far (p := ⟨gb170, 1, none⟩) (Kd.V_far (p := ⟨gb170, 0, none⟩) (Kd.V_mono HL165_1.out (fun k_ hk => (⟨hk, hk.2.2⟩ : _ ∧ k_ ≠ gb170))) (fun _ hk => hk.2) (.slice Ao39 t166.length co39)) (fun _ hk => hk.2) (.slice none 0 0)) (fun _ hk => hk.2) (.bool false)) (fun _ h_ => h_.1))) (Kd.R_base ho45) hb); have n4_ := Aside0.mk (Kd.V_elder' (by (with_reducible repeat (first | apply Kd.V_alloc | apply Kd.V_drewN | apply Kd.V_drew)); exact (Kd.V_mono (Kd.V_far (p := ⟨gb170, 2, none⟩) (Kd.V_far (p := ⟨gb170, 1, none⟩) (Kd.V_far (p := ⟨gb170, 0, none⟩) (Kd.V_mono HL169_0.out (fun k_ hk => (⟨hk, hk.2.2⟩ : _ ∧ k_ ≠ gb170))) (fun _ hk => hk.2) (.slice Ao39 t166.length co39)) (fun _ hk => hk.2) (.slice none 0 0)) (fun _ hk => hk.2) (.bool false)) (fun _ h_ => h_.1))) (Kd.R_base ho45) hb); have n5_ := Aside0.mk (Kd.V_elder' (by (with_reducible repeat (first | apply Kd.V_alloc | apply Kd.V_drewN | apply Kd.V_drew)); exact (Kd.V_mono (Kd.V_far (p := ⟨gb170, 2, none⟩) (Kd.V_far (p := ⟨gb170, 1, none⟩) (Kd.V_far (p := ⟨gb170, 0, none⟩) (Kd.V_mono HL169_1.out (fun k_ hk => (⟨hk, hk.2.2⟩ : _ ∧ k_ ≠ gb170))) (fun _ hk => hk.2) (.slice Ao39 t166.length co39)) (fun _ hk => hk.2) (.slice none 0 0)) (fun _ hk => hk.2) (.bool false)) (fun _ h_ => h_.1))) (Kd.R_base ho45) hb); have n6_ := Aside0.mk (Kd.V_elder' (by (with_reducible repeat (first | apply Kd.V_alloc | apply Kd.V_drewN | apply Kd.V_drew)); exact (Kd.V_mono (Kd.V_far (p := ⟨gb170, 2, none⟩) (Kd.V_far (p := ⟨gb170, 1, none⟩) (Kd.V_far (p := ⟨gb170, 0, none⟩) (Kd.V_mono HO168.out (fun k_ hk => (⟨hk, hk.2.2⟩ : _ ∧ k_ ≠ gb170))) (fun _ hk => hk.2) (.slice Ao39 t166.length co39)) (fun _ hk => hk.2) (.slice none 0 0)) (fun _ hk => hk.2) (.bool false)) (fun _ h_ => h_.1))) (Kd.R_base ho45) hb); have n7_ := Aside0.mk (Kd.R_lower (Kd.R_newM (M := fun k_ => (w.heap.size ≤ k_)) ho45 (below_size (belS HB.out)) (fun k_ h_ => h_)) (below_size (belS HB.out))); have n8_ := Aside0.mk (blk_below (g := gb170) (o := .cells #[.slice Ao39 t166.length co39, .slice none 0 0, .bool false] 49 (0, 0)) (by (with_reducible repeat (first | refine blk_drewN ?_ _ | refine blk_drew ?_ | refine blk_alloc ?_ _)); refine blk_put (cs := #[.slice Ao39 t166.length co39, .slice none 0 0, .bool false]) ?_ 2 _ rfl; (with_reducible repeat (first | refine blk_drewN ?_ _ | refine blk_drew ?_ | refine blk_alloc ?_ _)); refine blk_put (cs := #[.slice Ao39 t166.length co39, .slice none 0 0, .bool false]) ?_ 1 _ rfl; (with_reducible repeat (first | refine blk_drewN ?_ _ | refine blk_drew ?_ | refine blk_alloc ?_ _)); refine blk_put (cs := #[.slice none 0 0, .slice none 0 0, .bool false]) ?_ 0 _ rfl; (with_reducible repeat (first | refine blk_drewN ?_ _ | refine blk_drew ?_ | refine blk_alloc ?_ _)); exact BK170.out) hb); have n9_ := Aside0.mk (below_step (belS HB.out) hb); clear HO_0; clear HO_9; clear HL165_0; clear HL165_1; clear HL169_0; clear HL169_1; clear HO168; clear BK170; clear HB; have HO_0 := n0_; have HO_9 := n1_; have HL165_0 := n2_; have HL165_1 := n3_; have HL169_0 := n4_; have HL169_1 := n5_; have HO168 := n6_; have HO173 := n7_; have BK170 := n8_; have HB := n9_; clear n0_ n1_ n2_ n3_ n4_ n5_ n6_ n7_ n8_ n9_; clear hb ho45; obtain ⟨Ao46, co46, eo46⟩ := Kd.R_slice HO173.out; subst eo46; have hcz47_0 : w44.cell? ⟨gb170, 0, none⟩ = some (.slice Ao39 t166.length co39) := (blk_cell BK170.out 0).trans rfl; have hcz47_1 : w44.cell? ⟨gb170, 1, none⟩ = some (.slice none 0 0) := (blk_cell BK170.out 1).trans rfl; have hcz47_2 : w44.cell? ⟨gb170, 2, none⟩ = some (.bool false) := (blk_cell BK170.out 2).trans rfl; have hfz47_0 := blk_frozen BK170.out 0; have hfz47_1 := blk_frozen BK170.out 1; have hfz47_2 := blk_frozen BK170.out 2) | ((with_reducible refine gate_store (t := 23) (p := 41) rfl ?_); refine store_event (t := 23) (p := 41) (v := ?vo_w48) (w1 := (w44.setCell ⟨gb170, 0, none⟩ (.slice Ao46 y171.length co46))) ?hg ?ho ?hn ?hr ?_; (case ho => rfl); (case hg => rfl); (case hn => rfl); (case hr => first | (go_simp; done) | (go_simp; rfl)); intro w48 hw; have n0_ : Aside0 (Kd.V k49 49 w48 w.heap.size (fun k_ => (P0_ k_ ∨ w.heap.size ≤ k_) ∧ some k_ ≠ (u9 : Value).ownBlock ∧ some k_ ≠ (.slice Ao46 y171.length co46 : Value).ownBlock ∧ k_ ≠ gb170) (.slice (some ad165) l0.length c0) l0) := ⟨(by rw [hw]; exact (by (with_reducible repeat (first | apply Kd.V_alloc | apply Kd.V_drewN | apply Kd.V_drew)); exact Kd.V_mono (Kd.V_far (p := ⟨gb170, 0, none⟩) (Kd.V_mono HO_0.out (fun k_ hk => (⟨hk, hk.1.2.2⟩ : _ ∧ k_ ≠ gb170))) (fun _ hk => hk.2) (.slice Ao46 y171.length co46)) (fun _ hk => ⟨hk.1.1.1, ⟨hk.1.1.2.1, ⟨hk.1.2, hk.1.1.2.2⟩⟩⟩)))⟩; have n1_ : Aside0 (Kd.N k49 49 w48 w.heap.size (fun k_ => (P0_ k_ ∨ w.heap.size ≤ k_) ∧ some k_ ≠ (.slice Ao46 y171.length co46 : Value).ownBlock ∧ k_ ≠ gb170) u9 x9_1) := ⟨(by rw [hw]; exact (by (with_reducible repeat (first | apply Kd.N_alloc | apply Kd.N_drewN | apply Kd.N_drew)); exact Kd.N_mono (Kd.N_far (p := ⟨gb170, 0, none⟩) (Kd.N_mono HO_9.out (fun k_ hk => (⟨hk, hk.1.2⟩ : _ ∧ k_ ≠ gb170))) (fun _ hk => hk.2) (.slice Ao46 y171.length co46)) (fun _ hk => ⟨hk.1.1.1, ⟨hk.1.2, hk.1.1.2⟩⟩)))⟩; have n2_ : Aside0 (Kd.V (Kd.int .u8) 5 w48 w.heap.size (fun k_ => (P0_ k_ ∨ w.heap.size ≤ k_) ∧ some k_ ≠ (u9 : Value).ownBlock ∧ some k_ ≠ (.slice Ao46 y171.length co46 : Value).ownBlock ∧ k_ ≠ gb170) (.slice A165_0 ((rd_T49 l0 x10_1).f0).length c165_0) ((rd_T49 l0 x10_1).f0)) := ⟨(by rw [hw]; exact (by (with_reducible repeat (first | apply Kd.V_alloc | apply Kd.V_drewN | apply Kd.V_drew)); exact Kd.V_mono (Kd.V_far (p := ⟨gb170, 0, none⟩) (Kd.V_mono HL165_0.out (fun k_ hk => (⟨hk, hk.1.2.2⟩ : _ ∧ k_ ≠ gb170))) (fun _ hk => hk.2) (.slice Ao46 y171.length co46)) (fun _ hk => ⟨hk.1.1.1, ⟨hk.1.1.2.1, ⟨hk.1.2, hk.1.1.2.2⟩⟩⟩)))⟩; have n3_ : Aside0 (Kd.V (Kd.int .u8) 5 w48 w.heap.size (fun k_ => (P0_ k_ ∨ w.heap.size ≤ k_) ∧ some k_ ≠ (u9 : Value).ownBlock ∧ some k_ ≠ (.slice Ao46 y171.length co46 : Value).ownBlock ∧ k_ ≠ gb170) (.slice A165_1 ((rd_T49 l0 x10_1).f1).length c165_1) ((rd_T49 l0 x10_1).f1)) := ⟨(by rw [hw]; exact (by (with_reducible repeat (first | apply Kd.V_alloc | apply Kd.V_drewN | apply Kd.V_drew)); exact Kd.V_mono (Kd.V_far (p := ⟨gb170, 0, none⟩) (Kd.V_mono HL165_1.out (fun k_ hk => (⟨hk, hk.1.2.2⟩ : _ ∧ k_ ≠ gb170))) (fun _ hk => hk.2) (.slice Ao46 y171.length co46)) (fun _ hk => ⟨hk.1.1.1, ⟨hk.1.1.2.1, ⟨hk.1.2, hk.1.1.2.2⟩⟩⟩)))⟩; have n4_ : Aside0 (Kd.V (Kd.int .u8) 5 w48 w.heap.size (fun k_ => (P0_ k_ ∨ w.heap.size ≤ k_) ∧ some k_ ≠ (u9 : Value).ownBlock ∧ some k_ ≠ (.slice Ao46 y171.length co46 : Value).ownBlock ∧ k_ ≠ gb170) (.slice A165_0 ((rd_T49 l0 x10_1).f0).length c165_0) ((rd_T49 l0 x10_1).f0)) := ⟨(by rw [hw]; exact (by (with_reducible repeat (first | apply Kd.V_alloc | apply Kd.V_drewN | apply Kd.V_drew)); exact Kd.V_mono (Kd.V_far (p := ⟨gb170, 0, none⟩) (Kd.V_mono HL169_0.out (fun k_ hk => (⟨hk, hk.1.2.2⟩ : _ ∧ k_ ≠ gb170))) (fun _ hk => hk.2) (.slice Ao46 y171.length co46)) (fun _ hk => ⟨hk.1.1.1, ⟨hk.1.1.2.1, ⟨hk.1.2, hk.1.1.2.2⟩⟩⟩)))⟩; have n5_ : Aside0 (Kd.V (Kd.int .u8) 5 w48 w.heap.size (fun k_ => (P0_ k_ ∨ w.heap.size ≤ k_) ∧ some k_ ≠ (u9 : Value).ownBlock ∧ some k_ ≠ (.slice Ao46 y171.length co46 : Value).ownBlock ∧ k_ ≠ gb170) (.slice A165_1 ((rd_T49 l0 x10_1).f1).length c165_1) ((rd_T49 l0 x10_1).f1)) := ⟨(by rw [hw]; exact (by (with_reducible repeat (first | apply Kd.V_alloc | apply Kd.V_drewN | apply Kd.V_drew)); exact Kd.V_mono (Kd.V_far (p := ⟨gb170, 0, none⟩) (Kd.V_mono HL169_1.out (fun k_ hk => (⟨hk, hk.1.2.2⟩ : _ ∧ k_ ≠ gb170))) (fun _ hk => hk.2) (.slice Ao46 y171.length co46)) (fun _ hk => ⟨hk.1.1.1, ⟨hk.1.1.2.1, ⟨hk.1.2, hk.1.1.2.2⟩⟩⟩)))⟩; have n6_ : Aside0 (Kd.V (Kd.int .u8) 5 w48 w.heap.size (fun k_ => (P0_ k_ ∨ w.heap.size ≤ k_) ∧ some k_ ≠ (u9 : Value).ownBlock ∧ some k_ ≠ (.slice Ao46 y171.length co46 : Value).ownBlock ∧ k_ ≠ gb170) (.slice Ao39 t166.length co39) t166) := ⟨(by rw [hw]; exact (by (with_reducible repeat (first | apply Kd.V_alloc | apply Kd.V_drewN | apply Kd.V_drew)); exact Kd.V_mono (Kd.V_far (p := ⟨gb170, 0, none⟩) (Kd.V_mono HO168.out (fun k_ hk => (⟨hk, hk.1.2.2⟩ : _ ∧ k_ ≠ gb170))) (fun _ hk => hk.2) (.slice Ao46 y171.length co46)) (fun _ hk => ⟨hk.1.1.1, ⟨hk.1.1.2.1, ⟨hk.1.2, hk.1.1.2.2⟩⟩⟩)))⟩; have n7_ : Aside0 (Kd.R (Kd.int .u8) 5 w48 w.heap.size (fun k_ => (w.heap.size ≤ k_)) (.slice Ao46 y171.length co46) y171) := ⟨(by rw [hw]; exact (by (with_reducible repeat (first | apply Kd.R_alloc | apply Kd.R_drewN | apply Kd.R_drew)); exact Kd.R_mono (Kd.R_far (p := ⟨gb170, 0, none⟩) (Kd.R_types HO173.out BK170.out (by decide)) (fun _ hk => hk.2) (.slice Ao46 y171.length co46)) (fun _ hk => hk.1.1)))⟩; have n8_ : Aside0 (w48.heap[gb170]? = some (.cells #[.slice Ao46 y171.length co46, .slice none 0 0, .bool false] 49 (0, 0))) := ⟨(by rw [hw]; exact (by (with_reducible repeat (first | refine blk_drewN ?_ _ | refine blk_drew ?_ | refine blk_alloc ?_ _)); refine blk_put (cs := #[.slice Ao39 t166.length co39, .slice none 0 0, .bool false]) ?_ 0 _ rfl; (with_reducible repeat (first | refine blk_drewN ?_ _ | refine blk_drew ?_ | refine blk_alloc ?_ _)); exact BK170.out))⟩; have n9_ : Aside0 (Below w.heap.size w w48) := ⟨(by rw [hw]; exact (belS HB.out))⟩; clear hw; clear HO_0; clear HO_9; clear HL165_0; clear HL165_1; clear HL169_0; clear HL169_1; clear HO168; clear HO173; clear BK170; clear HB; have HO_0 := n0_; have HO_9 := n1_; have HL165_0 := n2_; have HL165_1 := n3_; have HL169_0 := n4_; have HL169_1 := n5_; have HO168 := n6_; have HO173 := n7_; have BK170 := n8_; have HB := n9_; clear n0_ n1_ n2_ n3_ n4_ n5_ n6_ n7_ n8_ n9_; have hcz49_0 : w48.cell? ⟨gb170, 0, none⟩ = some (.slice Ao46 y171.length co46) := (blk_cell BK170.out 0).trans rfl; have hcz49_1 : w48.cell? ⟨gb170, 1, none⟩ = some (.slice none 0 0) := (blk_cell BK170.out 1).trans rfl; have hcz49_2 : w48.cell? ⟨gb170, 2, none⟩ = some (.bool false) := (blk_cell BK170.out 2).trans rfl; have hfz49_0 := blk_frozen BK170.out 0; have hfz49_1 := blk_frozen BK170.out 1; have hfz49_2 := blk_frozen BK170.out 2; have p177 : 0 ≤ (x10_1 : Int) := of_decide_eq_true (by first | (with_reducible assumption) | assumption); have q177 : x10_1 < (l0.length : Int) := of_decide_eq_true (by first | (with_reducible assumption) | assumption); obtain ⟨ad177, A177_0, c177_0, A177_1, c177_1, e177, hx177_0, hx177_1, hx177_2, hl177_0, hi177_0, hl177_1, hi177_1⟩ := at_T49 (Kd.V_reads' HO_0.out).2.2 x10_1 p177 q177; (try rw [← Nbq12.out] at hx177_2); obtain rfl : ad165 = ad177 := (by injection e177); obtain ⟨ce177, hce177, hMe177, hcc177⟩ := Kd.V_get HO_0.out z49 x10_1 p177 (by first | exact q177 | exact of_decide_eq_true (by first | (with_reducible assumption) | assumption) | (have e_ := (Kd.V_reads' HO_0.out).1; omega)); obtain ⟨ua177_0, uc177_0, ua177_1, uc177_1, rfl, ul177_0, ge177_0, ul177_1, ge177_1⟩ := k49_openF hMe177; have hv177_0 := hcc177 0 _ rfl; rw [Nat.add_zero] at hv177_0; replace hv177_0 := Option.some.inj (hv177_0.symm.trans hx177_0); injection hv177_0 with hva_ hvn_ hvc_; rw [hva_] at ge177_0; rw [hvc_] at ul177_0; have HL177_0 := Aside0.mk (show Kd.V (Kd.int .u8) 5 _ w.heap.size _ _ ((rd_T49 l0 x10_1).f0) from Kd.V_mk ul177_0 ge177_0); clear hva_ hvn_ hvc_ ge177_0 ul177_0; have hv177_1 := hcc177 1 _ rfl; rw [add_field _ _ 1 (by omega)] at hv177_1; replace hv177_1 := Option.some.inj (hv177_1.symm.trans hx177_1); injection hv177_1 with hva_ hvn_ hvc_; rw [hva_] at ge177_1; rw [hvc_] at ul177_1; have HL177_1 := Aside0.mk (show Kd.V (Kd.int .u8) 5 _ w.heap.size _ _ ((rd_T49 l0 x10_1).f1) from Kd.V_mk ul177_1 ge177_1); clear hva_ hvn_ hvc_ ge177_1 ul177_1; clear hcc177 hce177; have HR177_0 := Aside0.mk hi177_0; have HC177_0 := Aside0.mk hl177_0; clear hi177_0 hl177_0; have HR177_1 := Aside0.mk hi177_1; have HC177_1 := Aside0.mk hl177_1; clear hi177_1 hl177_1; replace p177 := eq_true p177; replace q177 := eq_true q177) | ((with_reducible refine gate_callee (f := 14) rfl ?_); refine goesL_ (some 51) rfl rfl Try.func14 (by kernel_rfl) rfl #[.slice A177_1 ((rd_T49 l0 x10_1).f1).length c177_1, .int .i64 a3] rfl argN ?_; (with_reducible refine (marigraphkeep_Cut.calls (fun k_ => ((P0_ k_ ∨ w.heap.size ≤ k_) ∧ (some k_ ≠ (u9 : Value).ownBlock ∧ (some k_ ≠ (.slice Ao46 y171.length co46 : Value).ownBlock ∧ k_ ≠ gb170)))) _ _ ((rd_T49 l0 x10_1).f1) a3 t178 _ ?side1 A32.out).mono ?_); (case side1 => exact HL177_1.out); rintro e w50 ⟨v179, rfl, ho0, hb⟩; refine ⟨_, rfl, ?_⟩; have n0_ := Aside0.mk (Kd.V_below (by (with_reducible repeat (first | apply Kd.V_alloc | apply Kd.V_drewN | apply Kd.V_drew)); exact HO_0.out) hb); have n1_ := Aside0.mk (Kd.N_below (by (with_reducible repeat (first | apply Kd.N_alloc | apply Kd.N_drewN | apply Kd.N_drew)); exact HO_9.out) hb); have n2_ := Aside0.mk (Kd.V_below (by (with_reducible repeat (first | apply Kd.V_alloc | apply Kd.V_drewN | apply Kd.V_drew)); exact HL165_0.out) hb); have n3_ := Aside0.mk (Kd.V_below (by (with_reducible repeat (first | apply Kd.V_alloc | apply Kd.V_drewN | apply Kd.V_drew)); exact HL165_1.out) hb); have n4_ := Aside0.mk (Kd.V_below (by (with_reducible repeat (first | apply Kd.V_alloc | apply Kd.V_drewN | apply Kd.V_drew)); exact HL169_0.out) hb); have n5_ := Aside0.mk (Kd.V_below (by (with_reducible repeat (first | apply Kd.V_alloc | apply Kd.V_drewN | apply Kd.V_drew)); exact HL169_1.out) hb); have n6_ := Aside0.mk (Kd.V_below (by (with_reducible repeat (first | apply Kd.V_alloc | apply Kd.V_drewN | apply Kd.V_drew)); exact HO168.out) hb); have n7_ := Aside0.mk (Kd.R_below (rowN HO173.out) hb); have n8_ := Aside0.mk (Kd.V_below (by (with_reducible repeat (first | apply Kd.V_alloc | apply Kd.V_drewN | apply Kd.V_drew)); exact HL177_0.out) hb); have n9_ := Aside0.mk (Kd.V_below (by (with_reducible repeat (first | apply Kd.V_alloc | apply Kd.V_drewN | apply Kd.V_drew)); exact HL177_1.out) hb); have n10_ := Aside0.mk (Kd.V_lower (Kd.V_mono (ok' := fun k_ => (P0_ k_ ∨ w.heap.size ≤ k_) ∧ some k_ ≠ (u9 : Value).ownBlock ∧ some k_ ≠ (.slice Ao46 y171.length co46 : Value).ownBlock ∧ k_ ≠ gb170) ho0 (fun k_ hk_ => ⟨Or.elim hk_ (fun hs_ => hs_.1) (fun hn_ => (.inr (Nat.le_trans (below_size (belS HB.out)) hn_))), Or.elim hk_ (fun hs_ => hs_.2.1) (fun hn_ => (Kd.fresh' (Kd.N_lt (by (with_reducible repeat (first | apply Kd.N_alloc | apply Kd.N_drewN | apply Kd.N_drew)); exact HO_9.out)) k_ hn_)), Or.elim hk_ (fun hs_ => hs_.2.2.1) (fun hn_ => (Kd.fresh' (Kd.R_lt (rowN HO173.out)) k_ hn_)), Or.elim hk_ (fun hs_ => hs_.2.2.2) (fun hn_ => (Kd.freshB (g := gb170) (o := .cells #[.slice Ao46 y171.length co46, .slice none 0 0, .bool false] 49 (0, 0)) (blkN BK170.out) k_ hn_))⟩)) (below_size (belS HB.out))); have n11_ := Aside0.mk (bkB BK170.out hb); have n12_ := Aside0.mk (cbN HR177_0.out hb); have n13_ := Aside0.mk (cbN HR177_1.out hb); have n14_ := Aside0.mk (below_step (belS HB.out) hb); clear HO_0; clear HO_9; clear HL165_0; clear HL165_1; clear HL169_0; clear HL169_1; clear HO168; clear HO173; clear HL177_0; clear HL177_1; clear BK170; clear HR177_0; clear HR177_1; clear HB; have HO_0 := n0_; have HO_9 := n1_; have HL165_0 := n2_; have HL165_1 := n3_; have HL169_0 := n4_; have HL169_1 := n5_; have HO168 := n6_; have HO173 := n7_; have HL177_0 := n8_; have HL177_1 := n9_; have HO180 := n10_; have BK170 := n11_; have HR177_0 := n12_; have HR177_1 := n13_; have HB := n14_; clear n0_ n1_ n2_ n3_ n4_ n5_ n6_ n7_ n8_ n9_ n10_ n11_ n12_ n13_ n14_; (try clear hb); (try clear hk); (try clear ho0); obtain ⟨Ao51, co51, eo51⟩ := Kd.V_slice HO180.out; subst eo51; have hcz52_0 : w50.cell? ⟨gb170, 0, none⟩ = some (.slice Ao46 y171.length co46) := (blk_cell BK170.out 0).trans rfl; have hcz52_1 : w50.cell? ⟨gb170, 1, none⟩ = some (.slice none 0 0) := (blk_cell BK170.out 1).trans rfl; have hcz52_2 : w50.cell? ⟨gb170, 2, none⟩ = some (.bool false) := (blk_cell BK170.out 2).trans rfl; have hfz52_0 := blk_frozen BK170.out 0; have hfz52_1 := blk_frozen BK170.out 1; have hfz52_2 := blk_frozen BK170.out 2) | ((with_reducible refine gate_store (t := 23) (p := 52) rfl ?_); refine store_event (t := 23) (p := 52) (v := ?vo_w53) (w1 := (w50.setCell ⟨gb170, 1, none⟩ (.slice Ao51 t178.length co51))) ?hg ?ho ?hn ?hr ?_; (case ho => rfl); (case hg => rfl); (case hn => rfl); (case hr => first | (go_simp; done) | (go_simp; rfl)); intro w53 hw; have n0_ : Aside0 (Kd.V k49 49 w53 w.heap.size (fun k_ => (P0_ k_ ∨ w.heap.size ≤ k_) ∧ some k_ ≠ (u9 : Value).ownBlock ∧ some k_ ≠ (.slice Ao46 y171.length co46 : Value).ownBlock ∧ k_ ≠ gb170) (.slice (some ad165) l0.length c0) l0) := ⟨(by rw [hw]; exact (by (with_reducible repeat (first | apply Kd.V_alloc | apply Kd.V_drewN | apply Kd.V_drew)); exact Kd.V_mono (Kd.V_far (p := ⟨gb170, 1, none⟩) (Kd.V_mono HO_0.out (fun k_ hk => (⟨hk, hk.2.2.2⟩ : _ ∧ k_ ≠ gb170))) (fun _ hk => hk.2) (.slice Ao51 t178.length co51)) (fun _ hk => ⟨hk.1.1, ⟨hk.1.2.1, ⟨hk.1.2.2.1, hk.1.2.2.2⟩⟩⟩)))⟩; have n1_ : Aside0 (Kd.N k49 49 w53 w.heap.size (fun k_ => (P0_ k_ ∨ w.heap.size ≤ k_) ∧ some k_ ≠ (.slice Ao46 y171.length co46 : Value).ownBlock ∧ k_ ≠ gb170) u9 x9_1) := ⟨(by rw [hw]; exact (by (with_reducible repeat (first | apply Kd.N_alloc | apply Kd.N_drewN | apply Kd.N_drew)); exact Kd.N_mono (Kd.N_far (p := ⟨gb170, 1, none⟩) (Kd.N_mono HO_9.out (fun k_ hk => (⟨hk, hk.2.2⟩ : _ ∧ k_ ≠ gb170))) (fun _ hk => hk.2) (.slice Ao51 t178.length co51)) (fun _ hk => ⟨hk.1.1, ⟨hk.1.2.1, hk.1.2.2⟩⟩)))⟩; have n2_ : Aside0 (Kd.V (Kd.int .u8) 5 w53 w.heap.size (fun k_ => (P0_ k_ ∨ w.heap.size ≤ k_) ∧ some k_ ≠ (u9 : Value).ownBlock ∧ some k_ ≠ (.slice Ao46 y171.length co46 : Value).ownBlock ∧ k_ ≠ gb170) (.slice A165_0 ((rd_T49 l0 x10_1).f0).length c165_0) ((rd_T49 l0 x10_1).f0)) := ⟨(by rw [hw]; exact (by (with_reducible repeat (first | apply Kd.V_alloc | apply Kd.V_drewN | apply Kd.V_drew)); exact Kd.V_mono (Kd.V_far (p := ⟨gb170, 1, none⟩) (Kd.V_mono HL165_0.out (fun k_ hk => (⟨hk, hk.2.2.2⟩ : _ ∧ k_ ≠ gb170))) (fun _ hk => hk.2) (.slice Ao51 t178.length co51)) (fun _ hk => ⟨hk.1.1, ⟨hk.1.2.1, ⟨hk.1.2.2.1, hk.1.2.2.2⟩⟩⟩)))⟩; have n3_ : Aside0 (Kd.V (Kd.int .u8) 5 w53 w.heap.size (fun k_ => (P0_ k_ ∨ w.heap.size ≤ k_) ∧ some k_ ≠ (u9 : Value).ownBlock ∧ some k_ ≠ (.slice Ao46 y171.length co46 : Value).ownBlock ∧ k_ ≠ gb170) (.slice A165_1 ((rd_T49 l0 x10_1).f1).length c165_1) ((rd_T49 l0 x10_1).f1)) := ⟨(by rw [hw]; exact (by (with_reducible repeat (first | apply Kd.V_alloc | apply Kd.V_drewN | apply Kd.V_drew)); exact Kd.V_mono (Kd.V_far (p := ⟨gb170, 1, none⟩) (Kd.V_mono HL165_1.out (fun k_ hk => (⟨hk, hk.2.2.2⟩ : _ ∧ k_ ≠ gb170))) (fun _ hk => hk.2) (.slice Ao51 t178.length co51)) (fun _ hk => ⟨hk.1.1, ⟨hk.1.2.1, ⟨hk.1.2.2.1, hk.1.2.2.2⟩⟩⟩)))⟩; have n4_ : Aside0 (Kd.V (Kd.int .u8) 5 w53 w.heap.size (fun k_ => (P0_ k_ ∨ w.heap.size ≤ k_) ∧ some k_ ≠ (u9 : Value).ownBlock ∧ some k_ ≠ (.slice Ao46 y171.length co46 : Value).ownBlock ∧ k_ ≠ gb170) (.slice A165_0 ((rd_T49 l0 x10_1).f0).length c165_0) ((rd_T49 l0 x10_1).f0)) := ⟨(by rw [hw]; exact (by (with_reducible repeat (first | apply Kd.V_alloc | apply Kd.V_drewN | apply Kd.V_drew)); exact Kd.V_mono (Kd.V_far (p := ⟨gb170, 1, none⟩) (Kd.V_mono HL169_0.out (fun k_ hk => (⟨hk, hk.2.2.2⟩ : _ ∧ k_ ≠ gb170))) (fun _ hk => hk.2) (.slice Ao51 t178.length co51)) (fun _ hk => ⟨hk.1.1, ⟨hk.1.2.1, ⟨hk.1.2.2.1, hk.1.2.2.2⟩⟩⟩)))⟩; have n5_ : Aside0 (Kd.V (Kd.int .u8) 5 w53 w.heap.size (fun k_ => (P0_ k_ ∨ w.heap.size ≤ k_) ∧ some k_ ≠ (u9 : Value).ownBlock ∧ some k_ ≠ (.slice Ao46 y171.length co46 : Value).ownBlock ∧ k_ ≠ gb170) (.slice A165_1 ((rd_T49 l0 x10_1).f1).length c165_1) ((rd_T49 l0 x10_1).f1)) := ⟨(by rw [hw]; exact (by (with_reducible repeat (first | apply Kd.V_alloc | apply Kd.V_drewN | apply Kd.V_drew)); exact Kd.V_mono (Kd.V_far (p := ⟨gb170, 1, none⟩) (Kd.V_mono HL169_1.out (fun k_ hk => (⟨hk, hk.2.2.2⟩ : _ ∧ k_ ≠ gb170))) (fun _ hk => hk.2) (.slice Ao51 t178.length co51)) (fun _ hk => ⟨hk.1.1, ⟨hk.1.2.1, ⟨hk.1.2.2.1, hk.1.2.2.2⟩⟩⟩)))⟩; have n6_ : Aside0 (Kd.V (Kd.int .u8) 5 w53 w.heap.size (fun k_ => (P0_ k_ ∨ w.heap.size ≤ k_) ∧ some k_ ≠ (u9 : Value).ownBlock ∧ some k_ ≠ (.slice Ao46 y171.length co46 : Value).ownBlock ∧ k_ ≠ gb170) (.slice Ao39 t166.length co39) t166) := ⟨(by rw [hw]; exact (by (with_reducible repeat (first | apply Kd.V_alloc | apply Kd.V_drewN | apply Kd.V_drew)); exact Kd.V_mono (Kd.V_far (p := ⟨gb170, 1, none⟩) (Kd.V_mono HO168.out (fun k_ hk => (⟨hk, hk.2.2.2⟩ : _ ∧ k_ ≠ gb170))) (fun _ hk => hk.2) (.slice Ao51 t178.length co51)) (fun _ hk => ⟨hk.1.1, ⟨hk.1.2.1, ⟨hk.1.2.2.1, hk.1.2.2.2⟩⟩⟩)))⟩; have n7_ : Aside0 (Kd.R (Kd.int .u8) 5 w53 w.heap.size (fun k_ => (w.heap.size ≤ k_)) (.slice Ao46 y171.length co46) y171) := ⟨(by rw [hw]; exact (by (with_reducible repeat (first | apply Kd.R_alloc | apply Kd.R_drewN | apply Kd.R_drew)); exact Kd.R_mono (Kd.R_far (p := ⟨gb170, 1, none⟩) (Kd.R_types HO173.out BK170.out (by decide)) (fun _ hk => hk.2) (.slice Ao51 t178.length co51)) (fun _ hk => hk.1)))⟩; have n8_ : Aside0 (Kd.V (Kd.int .u8) 5 w53 w.heap.size (fun k_ => (P0_ k_ ∨ w.heap.size ≤ k_) ∧ some k_ ≠ (u9 : Value).ownBlock ∧ some k_ ≠ (.slice Ao46 y171.length co46 : Value).ownBlock ∧ k_ ≠ gb170) (.slice A177_0 ((rd_T49 l0 x10_1).f0).length c177_0) ((rd_T49 l0 x10_1).f0)) := ⟨(by rw [hw]; exact (by (with_reducible repeat (first | apply Kd.V_alloc | apply Kd.V_drewN | apply Kd.V_drew)); exact Kd.V_mono (Kd.V_far (p := ⟨gb170, 1, none⟩) (Kd.V_mono HL177_0.out (fun k_ hk => (⟨hk, hk.2.2.2⟩ : _ ∧ k_ ≠ gb170))) (fun _ hk => hk.2) (.slice Ao51 t178.length co51)) (fun _ hk => ⟨hk.1.1, ⟨hk.1.2.1, ⟨hk.1.2.2.1, hk.1.2.2.2⟩⟩⟩)))⟩; have n9_ : Aside0 (Kd.V (Kd.int .u8) 5 w53 w.heap.size (fun k_ => (P0_ k_ ∨ w.heap.size ≤ k_) ∧ some k_ ≠ (u9 : Value).ownBlock ∧ some k_ ≠ (.slice Ao46 y171.length co46 : Value).ownBlock ∧ k_ ≠ gb170) (.slice A177_1 ((rd_T49 l0 x10_1).f1).length c177_1) ((rd_T49 l0 x10_1).f1)) := ⟨(by rw [hw]; exact (by (with_reducible repeat (first | apply Kd.V_alloc | apply Kd.V_drewN | apply Kd.V_drew)); exact Kd.V_mono (Kd.V_far (p := ⟨gb170, 1, none⟩) (Kd.V_mono HL177_1.out (fun k_ hk => (⟨hk, hk.2.2.2⟩ : _ ∧ k_ ≠ gb170))) (fun _ hk => hk.2) (.slice Ao51 t178.length co51)) (fun _ hk => ⟨hk.1.1, ⟨hk.1.2.1, ⟨hk.1.2.2.1, hk.1.2.2.2⟩⟩⟩)))⟩; have n10_ : Aside0 (Kd.V (Kd.int .u8) 5 w53 w.heap.size (fun k_ => (P0_ k_ ∨ w.heap.size ≤ k_) ∧ some k_ ≠ (u9 : Value).ownBlock ∧ some k_ ≠ (.slice Ao46 y171.length co46 : Value).ownBlock ∧ k_ ≠ gb170) (.slice Ao51 t178.length co51) t178) := ⟨(by rw [hw]; exact (by (with_reducible repeat (first | apply Kd.V_alloc | apply Kd.V_drewN | apply Kd.V_drew)); exact Kd.V_mono (Kd.V_far (p := ⟨gb170, 1, none⟩) (Kd.V_mono HO180.out (fun k_ hk => (⟨hk, hk.2.2.2⟩ : _ ∧ k_ ≠ gb170))) (fun _ hk => hk.2) (.slice Ao51 t178.length co51)) (fun _ hk => ⟨hk.1.1, ⟨hk.1.2.1, ⟨hk.1.2.2.1, hk.1.2.2.2⟩⟩⟩)))⟩; have n11_ : Aside0 (w53.heap[gb170]? = some (.cells #[.slice Ao46 y171.length co46, .slice Ao51 t178.length co51, .bool false] 49 (0, 0))) := ⟨(by rw [hw]; exact (by (with_reducible repeat (first | refine blk_drewN ?_ _ | refine blk_drew ?_ | refine blk_alloc ?_ _)); refine blk_put (cs := #[.slice Ao46 y171.length co46, .slice none 0 0, .bool false]) ?_ 1 _ rfl; (with_reducible repeat (first | refine blk_drewN ?_ _ | refine blk_drew ?_ | refine blk_alloc ?_ _)); exact BK170.out))⟩; have n12_ : Aside0 (Below w.heap.size w w53) := ⟨(by rw [hw]; exact (belS HB.out))⟩; clear hw; clear HO_0; clear HO_9; clear HL165_0; clear HL165_1; clear HL169_0; clear HL169_1; clear HO168; clear HO173; clear HL177_0; clear HL177_1; clear HO180; clear BK170; clear HB; have HO_0 := n0_; have HO_9 := n1_; have HL165_0 := n2_; have HL165_1 := n3_; have HL169_0 := n4_; have HL169_1 := n5_; have HO168 := n6_; have HO173 := n7_; have HL177_0 := n8_; have HL177_1 := n9_; have HO180 := n10_; have BK170 := n11_; have HB := n12_; clear n0_ n1_ n2_ n3_ n4_ n5_ n6_ n7_ n8_ n9_ n10_ n11_ n12_; have hcz54_0 : w53.cell? ⟨gb170, 0, none⟩ = some (.slice Ao46 y171.length co46) := (blk_cell BK170.out 0).trans rfl; have hcz54_1 : w53.cell? ⟨gb170, 1, none⟩ = some (.slice Ao51 t178.length co51) := (blk_cell BK170.out 1).trans rfl; have hcz54_2 : w53.cell? ⟨gb170, 2, none⟩ = some (.bool false) := (blk_cell BK170.out 2).trans rfl; have hfz54_0 := blk_frozen BK170.out 0; have hfz54_1 := blk_frozen BK170.out 1; have hfz54_2 := blk_frozen BK170.out 2) | ((with_reducible refine gate_builtin (b := .append) (xs := #[.tmp 53, .tmp 55]) rfl ?_); at_builtin; refine Kd.N_append k49 (w0 := w) w.heap.size rfl (.tmp 53) (.tmp 55) 37 49 (.agg #[(.slice none 0 0), (.slice none 0 0), (.bool false)]) 56 rfl Try.underlying37 info49 rfl (by decide) (by omega) u9 x9_1 (⟨y171, t178, false⟩ : S49) [.slice Ao46 y171.length co46, .slice Ao51 t178.length co51, .bool false] (fun k_ => (P0_ k_ ∨ w.heap.size ≤ k_) ∧ k_ ≠ gb170) (fun k_ => ((fun k_ => (P0_ k_ ∨ w.heap.size ≤ k_) ∧ k_ ≠ gb170)) k_ ∧ some k_ ≠ (u9 : Value).ownBlock) rfl rfl ?aP (fun _ hk => hk) ?aF ?aO ?aB ?aS ?aL ?_; (case aP => exact (k49_mkF _ _ (⟨y171, t178, false⟩ : S49) (Kd.R_reads' (Kd.R_mono (ok' := (fun k_ => ((fun k_ => (P0_ k_ ∨ w.heap.size ≤ k_) ∧ k_ ≠ gb170)) k_ ∧ some k_ ≠ (u9 : Value).ownBlock)) (Kd.R_types (Kd.R_apart' (HO173.out) (Kd.N_typed HO_9.out) (by decide)) BK170.out (by decide)) (fun k_ hk => ⟨⟨(.inr (hk.1.1)), hk.2⟩, hk.1.2⟩))).2.1 (Kd.R_F (Kd.R_mono (ok' := (fun k_ => ((fun k_ => (P0_ k_ ∨ w.heap.size ≤ k_) ∧ k_ ≠ gb170)) k_ ∧ some k_ ≠ (u9 : Value).ownBlock)) (Kd.R_types (Kd.R_apart' (HO173.out) (Kd.N_typed HO_9.out) (by decide)) BK170.out (by decide)) (fun k_ hk => ⟨⟨(.inr (hk.1.1)), hk.2⟩, hk.1.2⟩))) (Kd.V_reads' (Kd.V_mono (ok' := (fun k_ => ((fun k_ => (P0_ k_ ∨ w.heap.size ≤ k_) ∧ k_ ≠ gb170)) k_ ∧ some k_ ≠ (u9 : Value).ownBlock)) (HO180.out) (fun k_ hk => ⟨⟨hk.1, hk.2.2.2⟩, hk.2.1⟩))).2.1 (Kd.V_F (Kd.V_mono (ok' := (fun k_ => ((fun k_ => (P0_ k_ ∨ w.heap.size ≤ k_) ∧ k_ ≠ gb170)) k_ ∧ some k_ ≠ (u9 : Value).ownBlock)) (HO180.out) (fun k_ hk => ⟨⟨hk.1, hk.2.2.2⟩, hk.2.1⟩))))); (case aB => exact (belS HB.out)); (case aF => exact (fun k_ hk => ⟨(.inr (Nat.le_trans (below_size (belS HB.out)) hk)), Kd.freshB (g := gb170) (o := .cells #[.slice Ao46 y171.length co46, .slice Ao51 t178.length co51, .bool false] 49 (0, 0)) (blkN BK170.out) k_ hk⟩)); (case aO => exact (by (with_reducible repeat (first | apply Kd.N_alloc | apply Kd.N_drewN | apply Kd.N_drew)); exact Kd.N_mono HO_9.out (fun _ hk => ⟨hk.1, hk.2.2⟩))); (case aS => exact (below_size (belS HB.out))); (case aL => have := LMc33.out; omega); intro v182 w55 ho hb hg hat; rw [← Ny181.out] at ho; have n0_ := Aside0.mk (Kd.V_afterv (ok := (fun k_ => (P0_ k_ ∨ w.heap.size ≤ k_) ∧ some k_ ≠ (.slice Ao46 y171.length co46 : Value).ownBlock ∧ k_ ≠ gb170)) (by (with_reducible repeat (first | apply Kd.V_alloc | apply Kd.V_drewN | apply Kd.V_drew)); exact Kd.V_mono HO_0.out (fun _ hk => ⟨⟨hk.1, ⟨hk.2.2.1, hk.2.2.2⟩⟩, hk.2.1⟩)) hg hat); have n1_ := Aside0.mk (Kd.V_afterv (ok := (fun k_ => (P0_ k_ ∨ w.heap.size ≤ k_) ∧ some k_ ≠ (.slice Ao46 y171.length co46 : Value).ownBlock ∧ k_ ≠ gb170)) (by (with_reducible repeat (first | apply Kd.V_alloc | apply Kd.V_drewN | apply Kd.V_drew)); exact Kd.V_mono HL165_0.out (fun _ hk => ⟨⟨hk.1, ⟨hk.2.2.1, hk.2.2.2⟩⟩, hk.2.1⟩)) hg hat); have n2_ := Aside0.mk (Kd.V_afterv (ok := (fun k_ => (P0_ k_ ∨ w.heap.size ≤ k_) ∧ some k_ ≠ (.slice Ao46 y171.length co46 : Value).ownBlock ∧ k_ ≠ gb170)) (by (with_reducible repeat (first | apply Kd.V_alloc | apply Kd.V_drewN | apply Kd.V_drew)); exact Kd.V_mono HL165_1.out (fun _ hk => ⟨⟨hk.1, ⟨hk.2.2.1, hk.2.2.2⟩⟩, hk.2.1⟩)) hg hat); have n3_ := Aside0.mk (Kd.V_afterv (ok := (fun k_ => (P0_ k_ ∨ w.heap.size ≤ k_) ∧ some k_ ≠ (.slice Ao46 y171.length co46 : Value).ownBlock ∧ k_ ≠ gb170)) (by (with_reducible repeat (first | apply Kd.V_alloc | apply Kd.V_drewN | apply Kd.V_drew)); exact Kd.V_mono HL169_0.out (fun _ hk => ⟨⟨hk.1, ⟨hk.2.2.1, hk.2.2.2⟩⟩, hk.2.1⟩)) hg hat); have n4_ := Aside0.mk (Kd.V_afterv (ok := (fun k_ => (P0_ k_ ∨ w.heap.size ≤ k_) ∧ some k_ ≠ (.slice Ao46 y171.length co46 : Value).ownBlock ∧ k_ ≠ gb170)) (by (with_reducible repeat (first | apply Kd.V_alloc | apply Kd.V_drewN | apply Kd.V_drew)); exact Kd.V_mono HL169_1.out (fun _ hk => ⟨⟨hk.1, ⟨hk.2.2.1, hk.2.2.2⟩⟩, hk.2.1⟩)) hg hat); have n5_ := Aside0.mk (Kd.V_afterv (ok := (fun k_ => (P0_ k_ ∨ w.heap.size ≤ k_) ∧ some k_ ≠ (.slice Ao46 y171.length co46 : Value).ownBlock ∧ k_ ≠ gb170)) (by (with_reducible repeat (first | apply Kd.V_alloc | apply Kd.V_drewN | apply Kd.V_drew)); exact Kd.V_mono HO168.out (fun _ hk => ⟨⟨hk.1, ⟨hk.2.2.1, hk.2.2.2⟩⟩, hk.2.1⟩)) hg hat); have n6_ := Aside0.mk (blk_grown (g := gb170) (o := .cells #[.slice Ao46 y171.length co46, .slice Ao51 t178.length co51, .bool false] 49 (0, 0)) (blkN BK170.out) hg (Kd.N_away HO_9.out (fun _ hk => hk.2.2))); have n7_ := Aside0.mk (Kd.V_afterv (ok := (fun k_ => (P0_ k_ ∨ w.heap.size ≤ k_) ∧ some k_ ≠ (.slice Ao46 y171.length co46 : Value).ownBlock ∧ k_ ≠ gb170)) (by (with_reducible repeat (first | apply Kd.V_alloc | apply Kd.V_drewN | apply Kd.V_drew)); exact Kd.V_mono HL177_0.out (fun _ hk => ⟨⟨hk.1, ⟨hk.2.2.1, hk.2.2.2⟩⟩, hk.2.1⟩)) hg hat); have n8_ := Aside0.mk (Kd.V_afterv (ok := (fun k_ => (P0_ k_ ∨ w.heap.size ≤ k_) ∧ some k_ ≠ (.slice Ao46 y171.length co46 : Value).ownBlock ∧ k_ ≠ gb170)) (by (with_reducible repeat (first | apply Kd.V_alloc | apply Kd.V_drewN | apply Kd.V_drew)); exact Kd.V_mono HL177_1.out (fun _ hk => ⟨⟨hk.1, ⟨hk.2.2.1, hk.2.2.2⟩⟩, hk.2.1⟩)) hg hat); have n9_ := Aside0.mk (Kd.V_afterv (ok := (fun k_ => (P0_ k_ ∨ w.heap.size ≤ k_) ∧ some k_ ≠ (.slice Ao46 y171.length co46 : Value).ownBlock ∧ k_ ≠ gb170)) (by (with_reducible repeat (first | apply Kd.V_alloc | apply Kd.V_drewN | apply Kd.V_drew)); exact Kd.V_mono HO180.out (fun _ hk => ⟨⟨hk.1, ⟨hk.2.2.1, hk.2.2.2⟩⟩, hk.2.1⟩)) hg hat); have n10_ := Aside0.mk (hb); have n11_ := Aside0.mk (ho); clear HO_0; clear HL165_0; clear HL165_1; clear HL169_0; clear HL169_1; clear HO168; clear BK170; clear HL177_0; clear HL177_1; clear HO180; clear HB; clear HO_9; clear HO173; have HO_0 := n0_; have HL165_0 := n1_; have HL165_1 := n2_; have HL169_0 := n3_; have HL169_1 := n4_; have HO168 := n5_; have BK170 := n6_; have HL177_0 := n7_; have HL177_1 := n8_; have HO180 := n9_; have HB := n10_; have HO183 := n11_; clear n0_ n1_ n2_ n3_ n4_ n5_ n6_ n7_ n8_ n9_ n10_ n11_; clear ho hb hg hat))
           go_roundg kj4
           case measure => have := HK1.out; have := HJ4.out; omega
           case rel => exact ⟨(y181), (wrap64 (x10_1 + 1)), (by first | rfl | (simp; done) | (simp [*]; done)), H', ⟨by have := HK1.out; have := HJ4.out; omega⟩, ⟨by (with_reducible repeat (first | apply Kd.V_alloc | apply Kd.V_drewN | apply Kd.V_drew)); exact Kd.V_mono HO_0.out (fun _ hk => ⟨hk.1.1, hk.2⟩)⟩, ⟨by (with_reducible repeat (first | apply Kd.N_alloc | apply Kd.N_drewN | apply Kd.N_drew)); exact Kd.N_mono HO183.out (fun _ hk => hk.1)⟩, ⟨(belS HB.out)⟩⟩
          ·rw [if_neg c33] at H
           exact absurd H (by simp)
        ·rw [if_neg c11] at H
         have c11b0 : ((t166.length : Int) == 0) = false := beq_eq_false_iff_ne.mpr c11
         have c11b1 : ((t166.length : Int) != 0) = true := bne_iff_ne.mpr c11
         have c11b2 : ¬ (t166 = []) := fun h_ => c11 (by rw [h_]; rfl)
         obtain ⟨bq56, hbq56⟩ : ∃ b_ : Bool, b_ = ((rd_T49 l0 x10_1).f2) := ⟨_, rfl⟩
         replace H : (if (bq56 = true) then (if x9_1.length < 2513169434916 then (marigraphkeep_Entries.l0 kj4 l0 a1 a2 a3 (x9_1 ++ [(⟨t166, ([] : List Int), bq56⟩ : S49)]) (wrap64 (x10_1 + 1))) else (none)) else ((marigraphkeep_Cut.f ((rd_T49 l0 x10_1).f1) a3).bind fun t188 => (if x9_1.length < 2513169434916 then (marigraphkeep_Entries.l0 kj4 l0 a1 a2 a3 (x9_1 ++ [(⟨t166, t188, bq56⟩ : S49)]) (wrap64 (x10_1 + 1))) else (none)))) = some r := by rw [← hbq56] at H; exact H
         have Nbq56 := Aside0.mk hbq56
         clear hbq56
         by_cases c57 : (bq56 = true)
         ·subst c57
          have H1 : (if x9_1.length < 2513169434916 then (marigraphkeep_Entries.l0 kj4 l0 a1 a2 a3 (x9_1 ++ [(⟨t166, ([] : List Int), true⟩ : S49)]) (wrap64 (x10_1 + 1))) else (none)) = some r := by rw [if_pos rfl] at H; exact H
          clear H
          have H := H1
          clear H1
          by_cases c58 : x9_1.length < 2513169434916
          ·rw [if_pos c58] at H
           have LMc58 := Aside0.mk c58
           clear c58
           obtain ⟨y184, hy184⟩ : ∃ y_ : List (S49), y_ = (x9_1 ++ [(⟨t166, ([] : List Int), true⟩ : S49)]) := ⟨_, rfl⟩
           replace H : (marigraphkeep_Entries.l0 kj4 l0 a1 a2 a3 y184 (wrap64 (x10_1 + 1))) = some r := by first | (rw [hy184]; with_reducible exact H) | (have H2_ := (Option.bind_some _ _).symm.trans H; rw [hy184]; with_reducible exact H2_) | (have H2_ := (Option.bind_some _ _).symm.trans H; with_reducible exact H2_) | with_reducible exact H | (rw [hy184]; exact H) | exact H
           have Ny184 := Aside0.mk hy184
           clear hy184
           have H' := Aside0.mk H
           clear H
           try go_wp2
           have n0_ := Aside0.mk (Kd.V_drew HO_0.out)
           have n1_ := Aside0.mk (Kd.N_drew HO_9.out)
           have n2_ := Aside0.mk (below_drew1 HB.out)
           clear HO_0
           clear HO_9
           clear HB
           have HO_0 := n0_
           have HO_9 := n1_
           have HB := n2_
           clear n0_ n1_ n2_
           have p165 : 0 ≤ (x10_1 : Int) := of_decide_eq_true (by first | (with_reducible assumption) | assumption)
           have q165 : x10_1 < (l0.length : Int) := of_decide_eq_true (by first | (with_reducible assumption) | assumption)
           obtain ⟨ad165, A165_0, c165_0, A165_1, c165_1, e165, hx165_0, hx165_1, hx165_2, hl165_0, hi165_0, hl165_1, hi165_1⟩ := at_T49 (Kd.V_reads' HO_0.out).2.2 x10_1 p165 q165
           (try rw [← Nbq56.out] at hx165_2)
           cases e165
           obtain ⟨ce165, hce165, hMe165, hcc165⟩ := Kd.V_get HO_0.out z49 x10_1 p165 (by first | exact q165 | exact of_decide_eq_true (by first | (with_reducible assumption) | assumption) | (have e_ := (Kd.V_reads' HO_0.out).1; omega))
           obtain ⟨ua165_0, uc165_0, ua165_1, uc165_1, rfl, ul165_0, ge165_0, ul165_1, ge165_1⟩ := k49_openF hMe165
           have hv165_0 := hcc165 0 _ rfl
           rw [Nat.add_zero] at hv165_0
           replace hv165_0 := Option.some.inj (hv165_0.symm.trans hx165_0)
           injection hv165_0 with hva_ hvn_ hvc_
           rw [hva_] at ge165_0
           rw [hvc_] at ul165_0
           have HL165_0 := Aside0.mk (show Kd.V (Kd.int .u8) 5 _ w.heap.size _ _ ((rd_T49 l0 x10_1).f0) from Kd.V_mk ul165_0 ge165_0)
           clear hva_ hvn_ hvc_ ge165_0 ul165_0
           have hv165_1 := hcc165 1 _ rfl
           rw [add_field _ _ 1 (by omega)] at hv165_1
           replace hv165_1 := Option.some.inj (hv165_1.symm.trans hx165_1)
           injection hv165_1 with hva_ hvn_ hvc_
           rw [hva_] at ge165_1
           rw [hvc_] at ul165_1
           have HL165_1 := Aside0.mk (show Kd.V (Kd.int .u8) 5 _ w.heap.size _ _ ((rd_T49 l0 x10_1).f1) from Kd.V_mk ul165_1 ge165_1)
           clear hva_ hvn_ hvc_ ge165_1 ul165_1
           clear hcc165 hce165
           have HR165_0 := Aside0.mk hi165_0
           have HC165_0 := Aside0.mk hl165_0
           clear hi165_0 hl165_0
           have HR165_1 := Aside0.mk hi165_1
           have HC165_1 := Aside0.mk hl165_1
           clear hi165_1 hl165_1
           replace p165 := eq_true p165
           replace q165 := eq_true q165
           have p169 : 0 ≤ (x10_1 : Int) := of_decide_eq_true (by first | (with_reducible assumption) | assumption)
           have q169 : x10_1 < (l0.length : Int) := of_decide_eq_true (by first | (with_reducible assumption) | assumption)
           obtain ⟨ad169, A169_0, c169_0, A169_1, c169_1, e169, hx169_0, hx169_1, hx169_2, hl169_0, hi169_0, hl169_1, hi169_1⟩ := at_T49 (Kd.V_reads' HO_0.out).2.2 x10_1 p169 q169
           (try rw [← Nbq56.out] at hx169_2)
           obtain rfl : ad165 = ad169 := (by injection e169)
           obtain ⟨ce169, hce169, hMe169, hcc169⟩ := Kd.V_get HO_0.out z49 x10_1 p169 (by first | exact q169 | exact of_decide_eq_true (by first | (with_reducible assumption) | assumption) | (have e_ := (Kd.V_reads' HO_0.out).1; omega))
           obtain ⟨ua169_0, uc169_0, ua169_1, uc169_1, rfl, ul169_0, ge169_0, ul169_1, ge169_1⟩ := k49_openF hMe169
           have hv169_0 := hcc169 0 _ rfl
           rw [Nat.add_zero] at hv169_0
           replace hv169_0 := Option.some.inj (hv169_0.symm.trans hx169_0)
           injection hv169_0 with hva_ hvn_ hvc_
           rw [hva_] at ge169_0
           rw [hvc_] at ul169_0
           have HL169_0 := Aside0.mk (show Kd.V (Kd.int .u8) 5 _ w.heap.size _ _ ((rd_T49 l0 x10_1).f0) from Kd.V_mk ul169_0 ge169_0)
           clear hva_ hvn_ hvc_ ge169_0 ul169_0
           have hv169_1 := hcc169 1 _ rfl
           rw [add_field _ _ 1 (by omega)] at hv169_1
           replace hv169_1 := Option.some.inj (hv169_1.symm.trans hx169_1)
           injection hv169_1 with hva_ hvn_ hvc_
           rw [hva_] at ge169_1
           rw [hvc_] at ul169_1
           have HL169_1 := Aside0.mk (show Kd.V (Kd.int .u8) 5 _ w.heap.size _ _ ((rd_T49 l0 x10_1).f1) from Kd.V_mk ul169_1 ge169_1)
           clear hva_ hvn_ hvc_ ge169_1 ul169_1
           clear hcc169 hce169
           have HR169_0 := Aside0.mk hi169_0
           have HC169_0 := Aside0.mk hl169_0
           clear hi169_0 hl169_0
           have HR169_1 := Aside0.mk hi169_1
           have HC169_1 := Aside0.mk hl169_1
           clear hi169_1 hl169_1
           replace p169 := eq_true p169
           replace q169 := eq_true q169
           have ea_ := Option.some.inj (hx165_0.symm.trans hx169_0)
           injection ea_ with ea_ en_ ec_
           subst ea_
           subst ec_
           clear en_
           have ea_ := Option.some.inj (hx165_1.symm.trans hx169_1)
           injection ea_ with ea_ en_ ec_
           subst ea_
           subst ec_
           clear en_
           refine start_ (n := 15) (S := fun w' => w'.cell? (ad165.add ((x10_1).toNat * 3)) = some (.slice A165_0 ((rd_T49 l0 x10_1).f0).length c165_0) ∧ w'.cell? ⟨(ad165.add ((x10_1).toNat * 3)).block, (ad165.add ((x10_1).toNat * 3)).off + 1, none⟩ = some (.slice A165_1 ((rd_T49 l0 x10_1).f1).length c165_1) ∧ w'.cell? ⟨(ad165.add ((x10_1).toNat * 3)).block, (ad165.add ((x10_1).toNat * 3)).off + 2, none⟩ = some (.bool true) ∧ w'.cell? (ad165.add ((x10_1).toNat * 3)) = some (.slice A165_0 ((rd_T49 l0 x10_1).f0).length c165_0) ∧ w'.cell? ⟨(ad165.add ((x10_1).toNat * 3)).block, (ad165.add ((x10_1).toNat * 3)).off + 1, none⟩ = some (.slice A165_1 ((rd_T49 l0 x10_1).f1).length c165_1) ∧ w'.cell? ⟨(ad165.add ((x10_1).toNat * 3)).block, (ad165.add ((x10_1).toNat * 3)).off + 2, none⟩ = some (.bool true)) (ds := []) #[false, false, false, false, false, false, false, false, false, false, false, false, false, false, false] (by kernel_rfl) rfl rfl ⟨hx165_0, hx165_1, hx165_2, hx169_0, hx169_1, hx169_2⟩ (fun hHeld => ?_); refine with_tabW marigraphkeep_Entries.tab5 marigraphkeep_Entries.bits5 (fun HT_ HW_ => ?_)
           generalize wc.drew = w59 at HO_0 HO_9 HB HL165_0 HL165_1 HL169_0 HL169_1 HR165_0 HR165_1 HR169_0 HR169_1 hx165_0 hx165_1 hx165_2 hx169_0 hx169_1 hx169_2 hHeld ⊢
           refine pA 0 (some 23) (bA 15 1) HT_.out ?_
           refine pA 1 (some 24) (bA 15 3) HT_.out ?_
           refine pA 2 (some 25) (bA 15 7) HT_.out ?_
           refine pA 3 (some 26) (bA 15 15) HT_.out ?_
           refine pA 5 (some 28) (bA 15 47) HT_.out ?_
           refine pA 7 (some 30) (bA 15 175) HT_.out ?_
           refine pA 8 (some 31) (bA 15 431) HT_.out ?_
           refine pA 9 (some 32) (bA 15 943) HT_.out ?_
           refine pA 10 (some 33) (bA 15 1967) HT_.out ?_
           refine take_ (i := 4) (N := some 27) (v := ?_) (a' := ?_) (bA 15 1983) rfl rfl (take_ofW HT_.out HW_.out (by kernel_rfl)) (fun _ _ _ h => h) (Or.inl ⟨by rfl, ?_⟩) hHeld ?_ ?_
           rotate_left
           ·rintro w' ⟨s0, s1, s2, s3, s4, s5⟩
            go_simp
            with_reducible rfl
           rotate_left
           ·simp only [Act.put, List.setIfInBounds_toArray, List.set_cons_zero, List.set_cons_succ, i64_w, i32_w]
            rfl
           refine take_ (i := 11) (N := some 34) (v := ?_) (a' := ?_) (bA 15 4031) rfl rfl (take_ofW HT_.out HW_.out (by kernel_rfl)) (fun _ _ _ h => h) (Or.inl ⟨by rfl, ?_⟩) hHeld ?_ ?_
           rotate_left
           ·rintro w' ⟨s0, s1, s2, s3, s4, s5⟩
            go_simp
            with_reducible rfl
           rotate_left
           ·simp only [Act.put, List.setIfInBounds_toArray, List.set_cons_zero, List.set_cons_succ, i64_w, i32_w]
            rfl
           refine join_ (σ := Value × Nat) 1 (bA 15 16383) (fun s_ => [(29, s_.1), (11, .pointer (some ⟨s_.2, 0, none⟩)), (35, .agg #[s_.1, .slice none 0 0, .bool true])]) (fun s_ w' => (w'.cell? (ad165.add ((x10_1).toNat * 3)) = some (.slice A165_0 ((rd_T49 l0 x10_1).f0).length c165_0) ∧ w'.cell? ⟨(ad165.add ((x10_1).toNat * 3)).block, (ad165.add ((x10_1).toNat * 3)).off + 1, none⟩ = some (.slice A165_1 ((rd_T49 l0 x10_1).f1).length c165_1) ∧ w'.cell? ⟨(ad165.add ((x10_1).toNat * 3)).block, (ad165.add ((x10_1).toNat * 3)).off + 2, none⟩ = some (.bool true) ∧ w'.cell? (ad165.add ((x10_1).toNat * 3)) = some (.slice A165_0 ((rd_T49 l0 x10_1).f0).length c165_0) ∧ w'.cell? ⟨(ad165.add ((x10_1).toNat * 3)).block, (ad165.add ((x10_1).toNat * 3)).off + 1, none⟩ = some (.slice A165_1 ((rd_T49 l0 x10_1).f1).length c165_1) ∧ w'.cell? ⟨(ad165.add ((x10_1).toNat * 3)).block, (ad165.add ((x10_1).toNat * 3)).off + 2, none⟩ = some (.bool true)) ∧ (Kd.V (Kd.int .u8) 5 w' w.heap.size (fun k_ => (P0_ k_ ∨ w.heap.size ≤ k_) ∧ some k_ ≠ (u9 : Value).ownBlock ∧ k_ ≠ s_.2) (.slice A165_0 ((rd_T49 l0 x10_1).f0).length c165_0) ((rd_T49 l0 x10_1).f0)) ∧ (Kd.V (Kd.int .u8) 5 w' w.heap.size (fun k_ => (P0_ k_ ∨ w.heap.size ≤ k_) ∧ some k_ ≠ (u9 : Value).ownBlock ∧ k_ ≠ s_.2) (.slice A165_1 ((rd_T49 l0 x10_1).f1).length c165_1) ((rd_T49 l0 x10_1).f1)) ∧ (Kd.V (Kd.int .u8) 5 w' w.heap.size (fun k_ => (P0_ k_ ∨ w.heap.size ≤ k_) ∧ some k_ ≠ (u9 : Value).ownBlock ∧ k_ ≠ s_.2) (.slice A165_0 ((rd_T49 l0 x10_1).f0).length c165_0) ((rd_T49 l0 x10_1).f0)) ∧ (Kd.V (Kd.int .u8) 5 w' w.heap.size (fun k_ => (P0_ k_ ∨ w.heap.size ≤ k_) ∧ some k_ ≠ (u9 : Value).ownBlock ∧ k_ ≠ s_.2) (.slice A165_1 ((rd_T49 l0 x10_1).f1).length c165_1) ((rd_T49 l0 x10_1).f1)) ∧ (Kd.V (Kd.int .u8) 5 w' w.heap.size (fun k_ => (P0_ k_ ∨ w.heap.size ≤ k_) ∧ some k_ ≠ (u9 : Value).ownBlock ∧ k_ ≠ s_.2) s_.1 t166) ∧ (Kd.V k49 49 w' w.heap.size (fun k_ => (P0_ k_ ∨ w.heap.size ≤ k_) ∧ some k_ ≠ (u9 : Value).ownBlock ∧ k_ ≠ s_.2) (.slice (some ad165) l0.length c0) l0) ∧ (Kd.N k49 49 w' w.heap.size (fun k_ => (P0_ k_ ∨ w.heap.size ≤ k_) ∧ k_ ≠ s_.2) u9 x9_1) ∧ (w'.heap[s_.2]? = some (.cells #[.slice none 0 0, .slice none 0 0, .bool false] 49 (0, 0))) ∧ (w.heap.size ≤ s_.2) ∧ (w.heap.size ≤ s_.2) ∧ (Below w.heap.size w w')) ?_ ?_
           rotate_left
           ·intro hCont
            refine two_ (i := 6) (j := 13) (Ni := some 29) (Nj := some 11) (bA 15 4095) (bA 15 12223) rfl rfl rfl rfl (two_of HT_.out (by kernel_rfl)) (by decide) (by decide) (fun K hK => ?_) (fun K hK => ?_)
            ·skip
             refine goes_ Try.func14 (by kernel_rfl) rfl #[.slice A165_0 ((rd_T49 l0 x10_1).f0).length c165_0, .int .i64 a2] (by rfl) rfl rfl argN ?_
             with_reducible refine (marigraphkeep_Cut.calls (fun k_ => ((P0_ k_ ∨ w.heap.size ≤ k_) ∧ some k_ ≠ (u9 : Value).ownBlock)) _ _ ((rd_T49 l0 x10_1).f0) a2 t166 _ ?side1 A10.out).mono ?_
             (case side1 => exact HL165_0.out)
             rintro e w60 ⟨v167, rfl, ho0, hb⟩
             have HS0_ := (hb.cell (World.block_lt_of_cell? _ _ (hHeld.1))).trans (hHeld.1)
             have HS1_ := (hb.cell (World.block_lt_of_cell? _ _ (hHeld.2.1))).trans (hHeld.2.1)
             have HS2_ := (hb.cell (World.block_lt_of_cell? _ _ (hHeld.2.2.1))).trans (hHeld.2.2.1)
             have HS3_ := (hb.cell (World.block_lt_of_cell? _ _ (hHeld.2.2.2.1))).trans (hHeld.2.2.2.1)
             have HS4_ := (hb.cell (World.block_lt_of_cell? _ _ (hHeld.2.2.2.2.1))).trans (hHeld.2.2.2.2.1)
             have HS5_ := (hb.cell (World.block_lt_of_cell? _ _ (hHeld.2.2.2.2.2))).trans (hHeld.2.2.2.2.2)
             refine ⟨_, rfl, ?_⟩
             have n0_ := Aside0.mk (Kd.V_below (by (with_reducible repeat (first | apply Kd.V_alloc | apply Kd.V_drewN | apply Kd.V_drew)); exact HO_0.out) hb)
             have n1_ := Aside0.mk (Kd.N_below (by (with_reducible repeat (first | apply Kd.N_alloc | apply Kd.N_drewN | apply Kd.N_drew)); exact HO_9.out) hb)
             have n2_ := Aside0.mk (Kd.V_below (by (with_reducible repeat (first | apply Kd.V_alloc | apply Kd.V_drewN | apply Kd.V_drew)); exact HL165_0.out) hb)
             have n3_ := Aside0.mk (Kd.V_below (by (with_reducible repeat (first | apply Kd.V_alloc | apply Kd.V_drewN | apply Kd.V_drew)); exact HL165_1.out) hb)
             have n4_ := Aside0.mk (Kd.V_below (by (with_reducible repeat (first | apply Kd.V_alloc | apply Kd.V_drewN | apply Kd.V_drew)); exact HL169_0.out) hb)
             have n5_ := Aside0.mk (Kd.V_below (by (with_reducible repeat (first | apply Kd.V_alloc | apply Kd.V_drewN | apply Kd.V_drew)); exact HL169_1.out) hb)
             have n6_ := Aside0.mk (Kd.V_lower (Kd.V_mono (ok' := fun k_ => (P0_ k_ ∨ w.heap.size ≤ k_) ∧ some k_ ≠ (u9 : Value).ownBlock) ho0 (fun k_ hk_ => ⟨Or.elim hk_ (fun hs_ => hs_.1) (fun hn_ => (.inr (Nat.le_trans (below_size (belN HB.out)) hn_))), Or.elim hk_ (fun hs_ => hs_.2) (fun hn_ => (Kd.fresh' (Kd.N_lt (by (with_reducible repeat (first | apply Kd.N_alloc | apply Kd.N_drewN | apply Kd.N_drew)); exact HO_9.out)) k_ hn_))⟩)) (below_size (belN HB.out)))
             have n7_ := Aside0.mk (cbN HR165_0.out hb)
             have n8_ := Aside0.mk (cbN HR165_1.out hb)
             have n9_ := Aside0.mk (cbN HR169_0.out hb)
             have n10_ := Aside0.mk (cbN HR169_1.out hb)
             have n11_ := Aside0.mk (below_step (belN HB.out) hb)
             clear HO_0
             clear HO_9
             clear HL165_0
             clear HL165_1
             clear HL169_0
             clear HL169_1
             clear HR165_0
             clear HR165_1
             clear HR169_0
             clear HR169_1
             clear HB
             have HO_0 := n0_
             have HO_9 := n1_
             have HL165_0 := n2_
             have HL165_1 := n3_
             have HL169_0 := n4_
             have HL169_1 := n5_
             have HO168 := n6_
             have HR165_0 := n7_
             have HR165_1 := n8_
             have HR169_0 := n9_
             have HR169_1 := n10_
             have HB := n11_
             clear n0_ n1_ n2_ n3_ n4_ n5_ n6_ n7_ n8_ n9_ n10_ n11_
             (try clear hb)
             (try clear hk)
             (try clear ho0)
             obtain ⟨Ao61, co61, eo61⟩ := Kd.V_slice HO168.out
             (first | subst eo61 | (injection eo61 with f1_ f2_ f3_; have f4_ := f1_.symm; have f5_ := f3_.symm; clear f1_ f2_ f3_; subst f4_; subst f5_))
             refine hK.out _ _ ⟨HS0_, HS1_, HS2_, HS3_, HS4_, HS5_⟩ (fun hHeld => ?_)
             clear hK K
             refine norm_ (a' := ?_) ?_ ?_
             rotate_left
             ·show Act.put _ (some 29) _ = _
              simp only [Act.put, List.setIfInBounds_toArray, List.set_cons_zero, List.set_cons_succ, i64_w, i32_w]
              rfl
             refine pA 12 (some 35) (bA 15 8191) HT_.out ?_
             refine one_ (i := 13) (N := some 11) (bA 15 16383) rfl rfl (one_of HT_.out (by kernel_rfl)) (by decide) (fun K hK => ?_)
             refine box_step ?hg (N := 11) ?hd (cs := #[.slice none 0 0, .slice none 0 0, .bool false]) (t := 49) ?hr ?_; (case hd => rfl); (case hg => rfl); (case hr => first | (go_simp; done) | (go_simp; rfl))
             intro gb170 hg w62 hbox hb
             have HS0_ := (hb.cell (World.block_lt_of_cell? _ _ (hHeld.1))).trans (hHeld.1)
             have HS1_ := (hb.cell (World.block_lt_of_cell? _ _ (hHeld.2.1))).trans (hHeld.2.1)
             have HS2_ := (hb.cell (World.block_lt_of_cell? _ _ (hHeld.2.2.1))).trans (hHeld.2.2.1)
             have HS3_ := (hb.cell (World.block_lt_of_cell? _ _ (hHeld.2.2.2.1))).trans (hHeld.2.2.2.1)
             have HS4_ := (hb.cell (World.block_lt_of_cell? _ _ (hHeld.2.2.2.2.1))).trans (hHeld.2.2.2.2.1)
             have HS5_ := (hb.cell (World.block_lt_of_cell? _ _ (hHeld.2.2.2.2.2))).trans (hHeld.2.2.2.2.2)
             have n0_ := Aside0.mk (Kd.V_below (Kd.V_elderB (by (with_reducible repeat (first | apply Kd.V_alloc | apply Kd.V_drewN | apply Kd.V_drew)); exact HO_0.out) gb170 (Nat.le_of_eq hg.symm)) hb)
             have n1_ := Aside0.mk (Kd.N_below (Kd.N_elderB (by (with_reducible repeat (first | apply Kd.N_alloc | apply Kd.N_drewN | apply Kd.N_drew)); exact HO_9.out) gb170 (Nat.le_of_eq hg.symm)) hb)
             have n2_ := Aside0.mk (Kd.V_below (Kd.V_elderB (by (with_reducible repeat (first | apply Kd.V_alloc | apply Kd.V_drewN | apply Kd.V_drew)); exact HL165_0.out) gb170 (Nat.le_of_eq hg.symm)) hb)
             have n3_ := Aside0.mk (Kd.V_below (Kd.V_elderB (by (with_reducible repeat (first | apply Kd.V_alloc | apply Kd.V_drewN | apply Kd.V_drew)); exact HL165_1.out) gb170 (Nat.le_of_eq hg.symm)) hb)
             have n4_ := Aside0.mk (Kd.V_below (Kd.V_elderB (by (with_reducible repeat (first | apply Kd.V_alloc | apply Kd.V_drewN | apply Kd.V_drew)); exact HL169_0.out) gb170 (Nat.le_of_eq hg.symm)) hb)
             have n5_ := Aside0.mk (Kd.V_below (Kd.V_elderB (by (with_reducible repeat (first | apply Kd.V_alloc | apply Kd.V_drewN | apply Kd.V_drew)); exact HL169_1.out) gb170 (Nat.le_of_eq hg.symm)) hb)
             have n6_ := Aside0.mk (Kd.V_below (Kd.V_elderB (by (with_reducible repeat (first | apply Kd.V_alloc | apply Kd.V_drewN | apply Kd.V_drew)); exact HO168.out) gb170 (Nat.le_of_eq hg.symm)) hb)
             have n7_ := Aside0.mk (cbN HR165_0.out hb)
             have n8_ := Aside0.mk (cbN HR165_1.out hb)
             have n9_ := Aside0.mk (cbN HR169_0.out hb)
             have n10_ := Aside0.mk (cbN HR169_1.out hb)
             have n11_ := Aside0.mk (below_step (belN HB.out) hb)
             have n12_ := Aside0.mk (hbox)
             have n13_ := Aside0.mk (szB hg HB.out)
             have n14_ := Aside0.mk (szB hg HB.out)
             clear HO_0
             clear HO_9
             clear HL165_0
             clear HL165_1
             clear HL169_0
             clear HL169_1
             clear HO168
             clear HR165_0
             clear HR165_1
             clear HR169_0
             clear HR169_1
             clear HB
             have HO_0 := n0_
             have HO_9 := n1_
             have HL165_0 := n2_
             have HL165_1 := n3_
             have HL169_0 := n4_
             have HL169_1 := n5_
             have HO168 := n6_
             have HR165_0 := n7_
             have HR165_1 := n8_
             have HR169_0 := n9_
             have HR169_1 := n10_
             have HB := n11_
             have BK170 := n12_
             have GW170 := n13_
             have GE170 := n14_
             clear n0_ n1_ n2_ n3_ n4_ n5_ n6_ n7_ n8_ n9_ n10_ n11_ n12_ n13_ n14_
             clear hb hbox hg
             refine hK.out _ _ ⟨HS0_, HS1_, HS2_, HS3_, HS4_, HS5_⟩ (fun hHeld => ?_)
             clear hK K
             refine norm_ (a' := ?_) ?_ ?_
             rotate_left
             ·show Act.put _ (some 11) _ = _
              simp only [Act.put, List.setIfInBounds_toArray, List.set_cons_zero, List.set_cons_succ, i64_w, i32_w]
              rfl
             exact norm_ (by simp only [putAll, Act.put, List.setIfInBounds_toArray, List.set_cons_zero, List.set_cons_succ]) (hCont (.slice Ao61 t166.length co61, gb170) _ ⟨hHeld, (by (with_reducible repeat (first | apply Kd.V_alloc | apply Kd.V_drewN | apply Kd.V_drew)); exact Kd.V_mono HL165_0.out (fun _ hk => ⟨hk.1.1, ⟨hk.1.2, hk.2⟩⟩)), (by (with_reducible repeat (first | apply Kd.V_alloc | apply Kd.V_drewN | apply Kd.V_drew)); exact Kd.V_mono HL165_1.out (fun _ hk => ⟨hk.1.1, ⟨hk.1.2, hk.2⟩⟩)), (by (with_reducible repeat (first | apply Kd.V_alloc | apply Kd.V_drewN | apply Kd.V_drew)); exact Kd.V_mono HL169_0.out (fun _ hk => ⟨hk.1.1, ⟨hk.1.2, hk.2⟩⟩)), (by (with_reducible repeat (first | apply Kd.V_alloc | apply Kd.V_drewN | apply Kd.V_drew)); exact Kd.V_mono HL169_1.out (fun _ hk => ⟨hk.1.1, ⟨hk.1.2, hk.2⟩⟩)), (by (with_reducible repeat (first | apply Kd.V_alloc | apply Kd.V_drewN | apply Kd.V_drew)); exact Kd.V_mono HO168.out (fun _ hk => ⟨hk.1.1, ⟨hk.1.2, hk.2⟩⟩)), (by (with_reducible repeat (first | apply Kd.V_alloc | apply Kd.V_drewN | apply Kd.V_drew)); exact Kd.V_mono HO_0.out (fun _ hk => ⟨hk.1.1, ⟨hk.1.2, hk.2⟩⟩)), (by (with_reducible repeat (first | apply Kd.N_alloc | apply Kd.N_drewN | apply Kd.N_drew)); exact HO_9.out), (blkN BK170.out), GW170.out, GE170.out, (belS HB.out)⟩)
            ·skip
             refine box_step ?hg (N := 11) ?hd (cs := #[.slice none 0 0, .slice none 0 0, .bool false]) (t := 49) ?hr ?_; (case hd => rfl); (case hg => rfl); (case hr => first | (go_simp; done) | (go_simp; rfl))
             intro gb170 hg w60 hbox hb
             have HS0_ := (hb.cell (World.block_lt_of_cell? _ _ (hHeld.1))).trans (hHeld.1)
             have HS1_ := (hb.cell (World.block_lt_of_cell? _ _ (hHeld.2.1))).trans (hHeld.2.1)
             have HS2_ := (hb.cell (World.block_lt_of_cell? _ _ (hHeld.2.2.1))).trans (hHeld.2.2.1)
             have HS3_ := (hb.cell (World.block_lt_of_cell? _ _ (hHeld.2.2.2.1))).trans (hHeld.2.2.2.1)
             have HS4_ := (hb.cell (World.block_lt_of_cell? _ _ (hHeld.2.2.2.2.1))).trans (hHeld.2.2.2.2.1)
             have HS5_ := (hb.cell (World.block_lt_of_cell? _ _ (hHeld.2.2.2.2.2))).trans (hHeld.2.2.2.2.2)
             have n0_ := Aside0.mk (Kd.V_below (Kd.V_elderB (by (with_reducible repeat (first | apply Kd.V_alloc | apply Kd.V_drewN | apply Kd.V_drew)); exact HO_0.out) gb170 (Nat.le_of_eq hg.symm)) hb)
             have n1_ := Aside0.mk (Kd.N_below (Kd.N_elderB (by (with_reducible repeat (first | apply Kd.N_alloc | apply Kd.N_drewN | apply Kd.N_drew)); exact HO_9.out) gb170 (Nat.le_of_eq hg.symm)) hb)
             have n2_ := Aside0.mk (Kd.V_below (Kd.V_elderB (by (with_reducible repeat (first | apply Kd.V_alloc | apply Kd.V_drewN | apply Kd.V_drew)); exact HL165_0.out) gb170 (Nat.le_of_eq hg.symm)) hb)
             have n3_ := Aside0.mk (Kd.V_below (Kd.V_elderB (by (with_reducible repeat (first | apply Kd.V_alloc | apply Kd.V_drewN | apply Kd.V_drew)); exact HL165_1.out) gb170 (Nat.le_of_eq hg.symm)) hb)
             have n4_ := Aside0.mk (Kd.V_below (Kd.V_elderB (by (with_reducible repeat (first | apply Kd.V_alloc | apply Kd.V_drewN | apply Kd.V_drew)); exact HL169_0.out) gb170 (Nat.le_of_eq hg.symm)) hb)
             have n5_ := Aside0.mk (Kd.V_below (Kd.V_elderB (by (with_reducible repeat (first | apply Kd.V_alloc | apply Kd.V_drewN | apply Kd.V_drew)); exact HL169_1.out) gb170 (Nat.le_of_eq hg.symm)) hb)
             have n6_ := Aside0.mk (cbN HR165_0.out hb)
             have n7_ := Aside0.mk (cbN HR165_1.out hb)
             have n8_ := Aside0.mk (cbN HR169_0.out hb)
             have n9_ := Aside0.mk (cbN HR169_1.out hb)
             have n10_ := Aside0.mk (below_step (belN HB.out) hb)
             have n11_ := Aside0.mk (hbox)
             have n12_ := Aside0.mk (szB hg HB.out)
             have n13_ := Aside0.mk (szB hg HB.out)
             clear HO_0
             clear HO_9
             clear HL165_0
             clear HL165_1
             clear HL169_0
             clear HL169_1
             clear HR165_0
             clear HR165_1
             clear HR169_0
             clear HR169_1
             clear HB
             have HO_0 := n0_
             have HO_9 := n1_
             have HL165_0 := n2_
             have HL165_1 := n3_
             have HL169_0 := n4_
             have HL169_1 := n5_
             have HR165_0 := n6_
             have HR165_1 := n7_
             have HR169_0 := n8_
             have HR169_1 := n9_
             have HB := n10_
             have BK170 := n11_
             have GW170 := n12_
             have GE170 := n13_
             clear n0_ n1_ n2_ n3_ n4_ n5_ n6_ n7_ n8_ n9_ n10_ n11_ n12_ n13_
             clear hb hbox hg
             refine hK.out _ _ ⟨HS0_, HS1_, HS2_, HS3_, HS4_, HS5_⟩ (fun hHeld => ?_)
             clear hK K
             refine norm_ (a' := ?_) ?_ ?_
             rotate_left
             ·show Act.put _ (some 11) _ = _
              simp only [Act.put, List.setIfInBounds_toArray, List.set_cons_zero, List.set_cons_succ, i64_w, i32_w]
              rfl
             refine one_ (i := 6) (N := some 29) (bA 15 12287) rfl rfl (one_of HT_.out (by kernel_rfl)) (by decide) (fun K hK => ?_)
             refine goes_ Try.func14 (by kernel_rfl) rfl #[.slice A165_0 ((rd_T49 l0 x10_1).f0).length c165_0, .int .i64 a2] (by rfl) rfl rfl argN ?_
             with_reducible refine (marigraphkeep_Cut.calls (fun k_ => (((P0_ k_ ∨ w.heap.size ≤ k_) ∧ some k_ ≠ (u9 : Value).ownBlock) ∧ k_ ≠ gb170)) _ _ ((rd_T49 l0 x10_1).f0) a2 t166 _ ?side1 A10.out).mono ?_
             (case side1 => exact HL165_0.out)
             rintro e w61 ⟨v167, rfl, ho0, hb⟩
             have HS0_ := (hb.cell (World.block_lt_of_cell? _ _ (hHeld.1))).trans (hHeld.1)
             have HS1_ := (hb.cell (World.block_lt_of_cell? _ _ (hHeld.2.1))).trans (hHeld.2.1)
             have HS2_ := (hb.cell (World.block_lt_of_cell? _ _ (hHeld.2.2.1))).trans (hHeld.2.2.1)
             have HS3_ := (hb.cell (World.block_lt_of_cell? _ _ (hHeld.2.2.2.1))).trans (hHeld.2.2.2.1)
             have HS4_ := (hb.cell (World.block_lt_of_cell? _ _ (hHeld.2.2.2.2.1))).trans (hHeld.2.2.2.2.1)
             have HS5_ := (hb.cell (World.block_lt_of_cell? _ _ (hHeld.2.2.2.2.2))).trans (hHeld.2.2.2.2.2)
             refine ⟨_, rfl, ?_⟩
             have n0_ := Aside0.mk (Kd.V_below (by (with_reducible repeat (first | apply Kd.V_alloc | apply Kd.V_drewN | apply Kd.V_drew)); exact HO_0.out) hb)
             have n1_ := Aside0.mk (Kd.N_below (by (with_reducible repeat (first | apply Kd.N_alloc | apply Kd.N_drewN | apply Kd.N_drew)); exact HO_9.out) hb)
             have n2_ := Aside0.mk (Kd.V_below (by (with_reducible repeat (first | apply Kd.V_alloc | apply Kd.V_drewN | apply Kd.V_drew)); exact HL165_0.out) hb)
             have n3_ := Aside0.mk (Kd.V_below (by (with_reducible repeat (first | apply Kd.V_alloc | apply Kd.V_drewN | apply Kd.V_drew)); exact HL165_1.out) hb)
             have n4_ := Aside0.mk (Kd.V_below (by (with_reducible repeat (first | apply Kd.V_alloc | apply Kd.V_drewN | apply Kd.V_drew)); exact HL169_0.out) hb)
             have n5_ := Aside0.mk (Kd.V_below (by (with_reducible repeat (first | apply Kd.V_alloc | apply Kd.V_drewN | apply Kd.V_drew)); exact HL169_1.out) hb)
             have n6_ := Aside0.mk (Kd.V_lower (Kd.V_mono (ok' := fun k_ => (P0_ k_ ∨ w.heap.size ≤ k_) ∧ some k_ ≠ (u9 : Value).ownBlock ∧ k_ ≠ gb170) ho0 (fun k_ hk_ => ⟨Or.elim hk_ (fun hs_ => hs_.1.1) (fun hn_ => (.inr (Nat.le_trans (below_size (belS HB.out)) hn_))), Or.elim hk_ (fun hs_ => hs_.1.2) (fun hn_ => (Kd.fresh' (Kd.N_lt (by (with_reducible repeat (first | apply Kd.N_alloc | apply Kd.N_drewN | apply Kd.N_drew)); exact HO_9.out)) k_ hn_)), Or.elim hk_ (fun hs_ => hs_.2) (fun hn_ => (Kd.freshB (g := gb170) (o := .cells #[.slice none 0 0, .slice none 0 0, .bool false] 49 (0, 0)) (blkN BK170.out) k_ hn_))⟩)) (below_size (belS HB.out)))
             have n7_ := Aside0.mk (cbN HR165_0.out hb)
             have n8_ := Aside0.mk (cbN HR165_1.out hb)
             have n9_ := Aside0.mk (cbN HR169_0.out hb)
             have n10_ := Aside0.mk (cbN HR169_1.out hb)
             have n11_ := Aside0.mk (bkB BK170.out hb)
             have n12_ := Aside0.mk (below_step (belS HB.out) hb)
             clear HO_0
             clear HO_9
             clear HL165_0
             clear HL165_1
             clear HL169_0
             clear HL169_1
             clear HR165_0
             clear HR165_1
             clear HR169_0
             clear HR169_1
             clear BK170
             clear HB
             have HO_0 := n0_
             have HO_9 := n1_
             have HL165_0 := n2_
             have HL165_1 := n3_
             have HL169_0 := n4_
             have HL169_1 := n5_
             have HO168 := n6_
             have HR165_0 := n7_
             have HR165_1 := n8_
             have HR169_0 := n9_
             have HR169_1 := n10_
             have BK170 := n11_
             have HB := n12_
             clear n0_ n1_ n2_ n3_ n4_ n5_ n6_ n7_ n8_ n9_ n10_ n11_ n12_
             (try clear hb)
             (try clear hk)
             (try clear ho0)
             obtain ⟨Ao62, co62, eo62⟩ := Kd.V_slice HO168.out
             (first | subst eo62 | (injection eo62 with f1_ f2_ f3_; have f4_ := f1_.symm; have f5_ := f3_.symm; clear f1_ f2_ f3_; subst f4_; subst f5_))
             refine hK.out _ _ ⟨HS0_, HS1_, HS2_, HS3_, HS4_, HS5_⟩ (fun hHeld => ?_)
             clear hK K
             refine norm_ (a' := ?_) ?_ ?_
             rotate_left
             ·show Act.put _ (some 29) _ = _
              simp only [Act.put, List.setIfInBounds_toArray, List.set_cons_zero, List.set_cons_succ, i64_w, i32_w]
              rfl
             refine pA 12 (some 35) (bA 15 16383) HT_.out ?_
             exact norm_ (by simp only [putAll, Act.put, List.setIfInBounds_toArray, List.set_cons_zero, List.set_cons_succ]) (hCont (.slice Ao62 t166.length co62, gb170) _ ⟨hHeld, (by (with_reducible repeat (first | apply Kd.V_alloc | apply Kd.V_drewN | apply Kd.V_drew)); exact Kd.V_mono HL165_0.out (fun _ hk => ⟨hk.1.1, ⟨hk.1.2, hk.2⟩⟩)), (by (with_reducible repeat (first | apply Kd.V_alloc | apply Kd.V_drewN | apply Kd.V_drew)); exact Kd.V_mono HL165_1.out (fun _ hk => ⟨hk.1.1, ⟨hk.1.2, hk.2⟩⟩)), (by (with_reducible repeat (first | apply Kd.V_alloc | apply Kd.V_drewN | apply Kd.V_drew)); exact Kd.V_mono HL169_0.out (fun _ hk => ⟨hk.1.1, ⟨hk.1.2, hk.2⟩⟩)), (by (with_reducible repeat (first | apply Kd.V_alloc | apply Kd.V_drewN | apply Kd.V_drew)); exact Kd.V_mono HL169_1.out (fun _ hk => ⟨hk.1.1, ⟨hk.1.2, hk.2⟩⟩)), (by (with_reducible repeat (first | apply Kd.V_alloc | apply Kd.V_drewN | apply Kd.V_drew)); exact HO168.out), (by (with_reducible repeat (first | apply Kd.V_alloc | apply Kd.V_drewN | apply Kd.V_drew)); exact Kd.V_mono HO_0.out (fun _ hk => ⟨hk.1.1, ⟨hk.1.2, hk.2⟩⟩)), (by (with_reducible repeat (first | apply Kd.N_alloc | apply Kd.N_drewN | apply Kd.N_drew)); exact HO_9.out), (blkN BK170.out), GW170.out, GE170.out, (belS HB.out)⟩)
           rintro ⟨v167, gb170⟩ w63 ⟨hS_, h0_, h1_, h2_, h3_, h4_, h5_, h6_, h7_, h8_, h9_, h10_⟩
           have n0_ : Aside0 (Kd.V (Kd.int .u8) 5 w63 w.heap.size (fun k_ => (P0_ k_ ∨ w.heap.size ≤ k_) ∧ some k_ ≠ (u9 : Value).ownBlock ∧ k_ ≠ gb170) (.slice A165_0 ((rd_T49 l0 x10_1).f0).length c165_0) ((rd_T49 l0 x10_1).f0)) := ⟨h0_⟩
           have n1_ : Aside0 (Kd.V (Kd.int .u8) 5 w63 w.heap.size (fun k_ => (P0_ k_ ∨ w.heap.size ≤ k_) ∧ some k_ ≠ (u9 : Value).ownBlock ∧ k_ ≠ gb170) (.slice A165_1 ((rd_T49 l0 x10_1).f1).length c165_1) ((rd_T49 l0 x10_1).f1)) := ⟨h1_⟩
           have n2_ : Aside0 (Kd.V (Kd.int .u8) 5 w63 w.heap.size (fun k_ => (P0_ k_ ∨ w.heap.size ≤ k_) ∧ some k_ ≠ (u9 : Value).ownBlock ∧ k_ ≠ gb170) (.slice A165_0 ((rd_T49 l0 x10_1).f0).length c165_0) ((rd_T49 l0 x10_1).f0)) := ⟨h2_⟩
           have n3_ : Aside0 (Kd.V (Kd.int .u8) 5 w63 w.heap.size (fun k_ => (P0_ k_ ∨ w.heap.size ≤ k_) ∧ some k_ ≠ (u9 : Value).ownBlock ∧ k_ ≠ gb170) (.slice A165_1 ((rd_T49 l0 x10_1).f1).length c165_1) ((rd_T49 l0 x10_1).f1)) := ⟨h3_⟩
           have n4_ : Aside0 (Kd.V (Kd.int .u8) 5 w63 w.heap.size (fun k_ => (P0_ k_ ∨ w.heap.size ≤ k_) ∧ some k_ ≠ (u9 : Value).ownBlock ∧ k_ ≠ gb170) v167 t166) := ⟨h4_⟩
           have n5_ : Aside0 (Kd.V k49 49 w63 w.heap.size (fun k_ => (P0_ k_ ∨ w.heap.size ≤ k_) ∧ some k_ ≠ (u9 : Value).ownBlock ∧ k_ ≠ gb170) (.slice (some ad165) l0.length c0) l0) := ⟨h5_⟩
           have n6_ : Aside0 (Kd.N k49 49 w63 w.heap.size (fun k_ => (P0_ k_ ∨ w.heap.size ≤ k_) ∧ k_ ≠ gb170) u9 x9_1) := ⟨h6_⟩
           have n7_ : Aside0 (w63.heap[gb170]? = some (.cells #[.slice none 0 0, .slice none 0 0, .bool false] 49 (0, 0))) := ⟨h7_⟩
           have n8_ : Aside0 (w.heap.size ≤ gb170) := ⟨h8_⟩
           have n9_ : Aside0 (w.heap.size ≤ gb170) := ⟨h9_⟩
           have n10_ : Aside0 (Below w.heap.size w w63) := ⟨h10_⟩
           clear HO_0
           clear HO_9
           clear HB
           clear h0_ h1_ h2_ h3_ h4_ h5_ h6_ h7_ h8_ h9_ h10_
           have HL165_0 := n0_
           have HL165_1 := n1_
           have HL169_0 := n2_
           have HL169_1 := n3_
           have HO168 := n4_
           have HO_0 := n5_
           have HO_9 := n6_
           have BK170 := n7_
           have GW170 := n8_
           have GE170 := n9_
           have HB := n10_
           clear n0_ n1_ n2_ n3_ n4_ n5_ n6_ n7_ n8_ n9_ n10_
           have hHeld : w63.cell? (ad165.add ((x10_1).toNat * 3)) = some (.slice A165_0 ((rd_T49 l0 x10_1).f0).length c165_0) ∧ w63.cell? ⟨(ad165.add ((x10_1).toNat * 3)).block, (ad165.add ((x10_1).toNat * 3)).off + 1, none⟩ = some (.slice A165_1 ((rd_T49 l0 x10_1).f1).length c165_1) ∧ w63.cell? ⟨(ad165.add ((x10_1).toNat * 3)).block, (ad165.add ((x10_1).toNat * 3)).off + 2, none⟩ = some (.bool true) ∧ w63.cell? (ad165.add ((x10_1).toNat * 3)) = some (.slice A165_0 ((rd_T49 l0 x10_1).f0).length c165_0) ∧ w63.cell? ⟨(ad165.add ((x10_1).toNat * 3)).block, (ad165.add ((x10_1).toNat * 3)).off + 1, none⟩ = some (.slice A165_1 ((rd_T49 l0 x10_1).f1).length c165_1) ∧ w63.cell? ⟨(ad165.add ((x10_1).toNat * 3)).block, (ad165.add ((x10_1).toNat * 3)).off + 2, none⟩ = some (.bool true) := hS_
           obtain ⟨Ao64, co64, eo64⟩ := Kd.V_slice HO168.out
           (first | subst eo64 | (injection eo64 with f1_ f2_ f3_; have f4_ := f1_.symm; have f5_ := f3_.symm; clear f1_ f2_ f3_; subst f4_; subst f5_))
           refine norm_ (a' := ?_) ?_ ?_
           rotate_left
           ·simp only [putAll, Act.put, List.setIfInBounds_toArray, List.set_cons_zero, List.set_cons_succ]
            rfl
           refine one_ (i := 14) (N := none) (bA 15 32767) rfl rfl (one_of HT_.out (by kernel_rfl)) (by decide) (fun K hK => ?_)
           have hs65 : w63.cell? ⟨gb170, 0, none⟩ = some (.slice none 0 0) := (blk_cell BK170.out 0).trans rfl
           have hfs65 := blk_frozen BK170.out 0
           have hs66 : w63.cell? ⟨gb170, 1, none⟩ = some (.slice none 0 0) := (blk_cell BK170.out 1).trans rfl
           have hfs66 := blk_frozen BK170.out 1
           have hs67 : w63.cell? ⟨gb170, 2, none⟩ = some (.bool false) := (blk_cell BK170.out 2).trans rfl
           have hfs67 := blk_frozen BK170.out 2
           refine skip_ (w1 := ?_) (by rfl) rfl ?_ ?_
           rotate_left
           ·go_simp
            rfl
           have hbl_ : (ad165.add ((x10_1).toNat * 3)).block ≠ gb170 := by rw [add_block]; exact V_blk HO_0.out z49 (by decide) (by have a_ := of_eq_true p165; have b_ := of_eq_true q165; omega) (fun _ hk => hk.2.2)
           refine hK.out _ _ ⟨(far3 (by exact hbl_)).trans hHeld.1, (far3 (by exact hbl_)).trans hHeld.2.1, (far3 (by exact hbl_)).trans hHeld.2.2.1, (far3 (by exact hbl_)).trans hHeld.2.2.2.1, (far3 (by exact hbl_)).trans hHeld.2.2.2.2.1, (far3 (by exact hbl_)).trans hHeld.2.2.2.2.2⟩ (fun hHeld => ?_)
           clear hbl_
           clear hK K
           refine done_ (done_of HT_.out (by kernel_rfl)) ?_
           have n0_ : Aside0 (Kd.V k49 49 (((w63.setCell ⟨gb170, 0, none⟩ (.slice Ao64 t166.length co64)).setCell ⟨gb170, 1, none⟩ (.slice none 0 0)).setCell ⟨gb170, 2, none⟩ (.bool true)) w.heap.size (fun k_ => (P0_ k_ ∨ w.heap.size ≤ k_) ∧ some k_ ≠ (u9 : Value).ownBlock ∧ k_ ≠ gb170) (.slice (some ad165) l0.length c0) l0) := ⟨by (with_reducible repeat (first | apply Kd.V_alloc | apply Kd.V_drewN | apply Kd.V_drew)); exact Kd.V_mono (Kd.V_far (p := ⟨gb170, 2, none⟩) (Kd.V_far (p := ⟨gb170, 1, none⟩) (Kd.V_far (p := ⟨gb170, 0, none⟩) (Kd.V_mono HO_0.out (fun k_ hk => (⟨hk, hk.2.2⟩ : _ ∧ k_ ≠ gb170))) (fun _ hk => hk.2) (.slice Ao64 t166.length co64)) (fun _ hk => hk.2) (.slice none 0 0)) (fun _ hk => hk.2) (.bool true)) (fun _ hk => ⟨hk.1.1, ⟨hk.1.2.1, hk.1.2.2⟩⟩)⟩
           have n1_ : Aside0 (Kd.N k49 49 (((w63.setCell ⟨gb170, 0, none⟩ (.slice Ao64 t166.length co64)).setCell ⟨gb170, 1, none⟩ (.slice none 0 0)).setCell ⟨gb170, 2, none⟩ (.bool true)) w.heap.size (fun k_ => (P0_ k_ ∨ w.heap.size ≤ k_) ∧ k_ ≠ gb170) u9 x9_1) := ⟨by (with_reducible repeat (first | apply Kd.N_alloc | apply Kd.N_drewN | apply Kd.N_drew)); exact Kd.N_mono (Kd.N_far (p := ⟨gb170, 2, none⟩) (Kd.N_far (p := ⟨gb170, 1, none⟩) (Kd.N_far (p := ⟨gb170, 0, none⟩) (Kd.N_mono HO_9.out (fun k_ hk => (⟨hk, hk.2⟩ : _ ∧ k_ ≠ gb170))) (fun _ hk => hk.2) (.slice Ao64 t166.length co64)) (fun _ hk => hk.2) (.slice none 0 0)) (fun _ hk => hk.2) (.bool true)) (fun _ hk => ⟨hk.1.1, hk.1.2⟩)⟩
           have n2_ : Aside0 (Kd.V (Kd.int .u8) 5 (((w63.setCell ⟨gb170, 0, none⟩ (.slice Ao64 t166.length co64)).setCell ⟨gb170, 1, none⟩ (.slice none 0 0)).setCell ⟨gb170, 2, none⟩ (.bool true)) w.heap.size (fun k_ => (P0_ k_ ∨ w.heap.size ≤ k_) ∧ some k_ ≠ (u9 : Value).ownBlock ∧ k_ ≠ gb170) (.slice A165_0 ((rd_T49 l0 x10_1).f0).length c165_0) ((rd_T49 l0 x10_1).f0)) := ⟨by (with_reducible repeat (first | apply Kd.V_alloc | apply Kd.V_drewN | apply Kd.V_drew)); exact Kd.V_mono (Kd.V_far (p := ⟨gb170, 2, none⟩) (Kd.V_far (p := ⟨gb170, 1, none⟩) (Kd.V_far (p := ⟨gb170, 0, none⟩) (Kd.V_mono HL165_0.out (fun k_ hk => (⟨hk, hk.2.2⟩ : _ ∧ k_ ≠ gb170))) (fun _ hk => hk.2) (.slice Ao64 t166.length co64)) (fun _ hk => hk.2) (.slice none 0 0)) (fun _ hk => hk.2) (.bool true)) (fun _ hk => ⟨hk.1.1, ⟨hk.1.2.1, hk.1.2.2⟩⟩)⟩
           have n3_ : Aside0 (Kd.V (Kd.int .u8) 5 (((w63.setCell ⟨gb170, 0, none⟩ (.slice Ao64 t166.length co64)).setCell ⟨gb170, 1, none⟩ (.slice none 0 0)).setCell ⟨gb170, 2, none⟩ (.bool true)) w.heap.size (fun k_ => (P0_ k_ ∨ w.heap.size ≤ k_) ∧ some k_ ≠ (u9 : Value).ownBlock ∧ k_ ≠ gb170) (.slice A165_1 ((rd_T49 l0 x10_1).f1).length c165_1) ((rd_T49 l0 x10_1).f1)) := ⟨by (with_reducible repeat (first | apply Kd.V_alloc | apply Kd.V_drewN | apply Kd.V_drew)); exact Kd.V_mono (Kd.V_far (p := ⟨gb170, 2, none⟩) (Kd.V_far (p := ⟨gb170, 1, none⟩) (Kd.V_far (p := ⟨gb170, 0, none⟩) (Kd.V_mono HL165_1.out (fun k_ hk => (⟨hk, hk.2.2⟩ : _ ∧ k_ ≠ gb170))) (fun _ hk => hk.2) (.slice Ao64 t166.length co64)) (fun _ hk => hk.2) (.slice none 0 0)) (fun _ hk => hk.2) (.bool true)) (fun _ hk => ⟨hk.1.1, ⟨hk.1.2.1, hk.1.2.2⟩⟩)⟩
           have n4_ : Aside0 (Kd.V (Kd.int .u8) 5 (((w63.setCell ⟨gb170, 0, none⟩ (.slice Ao64 t166.length co64)).setCell ⟨gb170, 1, none⟩ (.slice none 0 0)).setCell ⟨gb170, 2, none⟩ (.bool true)) w.heap.size (fun k_ => (P0_ k_ ∨ w.heap.size ≤ k_) ∧ some k_ ≠ (u9 : Value).ownBlock ∧ k_ ≠ gb170) (.slice A165_0 ((rd_T49 l0 x10_1).f0).length c165_0) ((rd_T49 l0 x10_1).f0)) := ⟨by (with_reducible repeat (first | apply Kd.V_alloc | apply Kd.V_drewN | apply Kd.V_drew)); exact Kd.V_mono (Kd.V_far (p := ⟨gb170, 2, none⟩) (Kd.V_far (p := ⟨gb170, 1, none⟩) (Kd.V_far (p := ⟨gb170, 0, none⟩) (Kd.V_mono HL169_0.out (fun k_ hk => (⟨hk, hk.2.2⟩ : _ ∧ k_ ≠ gb170))) (fun _ hk => hk.2) (.slice Ao64 t166.length co64)) (fun _ hk => hk.2) (.slice none 0 0)) (fun _ hk => hk.2) (.bool true)) (fun _ hk => ⟨hk.1.1, ⟨hk.1.2.1, hk.1.2.2⟩⟩)⟩
           have n5_ : Aside0 (Kd.V (Kd.int .u8) 5 (((w63.setCell ⟨gb170, 0, none⟩ (.slice Ao64 t166.length co64)).setCell ⟨gb170, 1, none⟩ (.slice none 0 0)).setCell ⟨gb170, 2, none⟩ (.bool true)) w.heap.size (fun k_ => (P0_ k_ ∨ w.heap.size ≤ k_) ∧ some k_ ≠ (u9 : Value).ownBlock ∧ k_ ≠ gb170) (.slice A165_1 ((rd_T49 l0 x10_1).f1).length c165_1) ((rd_T49 l0 x10_1).f1)) := ⟨by (with_reducible repeat (first | apply Kd.V_alloc | apply Kd.V_drewN | apply Kd.V_drew)); exact Kd.V_mono (Kd.V_far (p := ⟨gb170, 2, none⟩) (Kd.V_far (p := ⟨gb170, 1, none⟩) (Kd.V_far (p := ⟨gb170, 0, none⟩) (Kd.V_mono HL169_1.out (fun k_ hk => (⟨hk, hk.2.2⟩ : _ ∧ k_ ≠ gb170))) (fun _ hk => hk.2) (.slice Ao64 t166.length co64)) (fun _ hk => hk.2) (.slice none 0 0)) (fun _ hk => hk.2) (.bool true)) (fun _ hk => ⟨hk.1.1, ⟨hk.1.2.1, hk.1.2.2⟩⟩)⟩
           have n6_ : Aside0 (Kd.V (Kd.int .u8) 5 (((w63.setCell ⟨gb170, 0, none⟩ (.slice Ao64 t166.length co64)).setCell ⟨gb170, 1, none⟩ (.slice none 0 0)).setCell ⟨gb170, 2, none⟩ (.bool true)) w.heap.size (fun k_ => (P0_ k_ ∨ w.heap.size ≤ k_) ∧ some k_ ≠ (u9 : Value).ownBlock ∧ k_ ≠ gb170) (.slice Ao64 t166.length co64) t166) := ⟨by (with_reducible repeat (first | apply Kd.V_alloc | apply Kd.V_drewN | apply Kd.V_drew)); exact Kd.V_mono (Kd.V_far (p := ⟨gb170, 2, none⟩) (Kd.V_far (p := ⟨gb170, 1, none⟩) (Kd.V_far (p := ⟨gb170, 0, none⟩) (Kd.V_mono HO168.out (fun k_ hk => (⟨hk, hk.2.2⟩ : _ ∧ k_ ≠ gb170))) (fun _ hk => hk.2) (.slice Ao64 t166.length co64)) (fun _ hk => hk.2) (.slice none 0 0)) (fun _ hk => hk.2) (.bool true)) (fun _ hk => ⟨hk.1.1, ⟨hk.1.2.1, hk.1.2.2⟩⟩)⟩
           have n7_ : Aside0 ((((w63.setCell ⟨gb170, 0, none⟩ (.slice Ao64 t166.length co64)).setCell ⟨gb170, 1, none⟩ (.slice none 0 0)).setCell ⟨gb170, 2, none⟩ (.bool true)).heap[gb170]? = some (.cells #[.slice Ao64 t166.length co64, .slice none 0 0, .bool true] 49 (0, 0))) := ⟨by (with_reducible repeat (first | refine blk_drewN ?_ _ | refine blk_drew ?_ | refine blk_alloc ?_ _)); refine blk_put (cs := #[.slice Ao64 t166.length co64, .slice none 0 0, .bool false]) ?_ 2 _ rfl; (with_reducible repeat (first | refine blk_drewN ?_ _ | refine blk_drew ?_ | refine blk_alloc ?_ _)); refine blk_put (cs := #[.slice Ao64 t166.length co64, .slice none 0 0, .bool false]) ?_ 1 _ rfl; (with_reducible repeat (first | refine blk_drewN ?_ _ | refine blk_drew ?_ | refine blk_alloc ?_ _)); refine blk_put (cs := #[.slice none 0 0, .slice none 0 0, .bool false]) ?_ 0 _ rfl; (with_reducible repeat (first | refine blk_drewN ?_ _ | refine blk_drew ?_ | refine blk_alloc ?_ _)); exact BK170.out⟩
           have n8_ : Aside0 (Below w.heap.size w (((w63.setCell ⟨gb170, 0, none⟩ (.slice Ao64 t166.length co64)).setCell ⟨gb170, 1, none⟩ (.slice none 0 0)).setCell ⟨gb170, 2, none⟩ (.bool true))) := ⟨(belS HB.out)⟩
           (try clear HO_0)
           (try clear HO_9)
           (try clear HL165_0)
           (try clear HL165_1)
           (try clear HL169_0)
           (try clear HL169_1)
           (try clear HO168)
           (try clear BK170)
           (try clear HB)
           generalize (((w63.setCell ⟨gb170, 0, none⟩ (.slice Ao64 t166.length co64)).setCell ⟨gb170, 1, none⟩ (.slice none 0 0)).setCell ⟨gb170, 2, none⟩ (.bool true)) = w68 at n0_ n1_ n2_ n3_ n4_ n5_ n6_ n7_ n8_ ⊢
           have HO_0 := n0_
           have HO_9 := n1_
           have HL165_0 := n2_
           have HL165_1 := n3_
           have HL169_0 := n4_
           have HL169_1 := n5_
           have HO168 := n6_
           have BK170 := n7_
           have HB := n8_
           clear n0_ n1_ n2_ n3_ n4_ n5_ n6_ n7_ n8_
           have hcz69_0 : w68.cell? ⟨gb170, 0, none⟩ = some (.slice Ao64 t166.length co64) := (blk_cell BK170.out 0).trans rfl
           have hcz69_1 : w68.cell? ⟨gb170, 1, none⟩ = some (.slice none 0 0) := (blk_cell BK170.out 1).trans rfl
           have hcz69_2 : w68.cell? ⟨gb170, 2, none⟩ = some (.bool true) := (blk_cell BK170.out 2).trans rfl
           have hfz69_0 := blk_frozen BK170.out 0
           have hfz69_1 := blk_frozen BK170.out 1
           have hfz69_2 := blk_frozen BK170.out 2
           try go_wp2_with (first | ((with_reducible refine gate_builtin (b := .append) (xs := #[.tmp 53, .tmp 55]) rfl ?_); at_builtin; refine Kd.N_append k49 (w0 := w) w.heap.size rfl (.tmp 53) (.tmp 55) 37 49 (.agg #[(.slice none 0 0), (.slice none 0 0), (.bool false)]) 56 rfl Try.underlying37 info49 rfl (by decide) (by omega) u9 x9_1 (⟨t166, ([] : List Int), true⟩ : S49) [.slice Ao64 t166.length co64, .slice none 0 0, .bool true] (fun k_ => (P0_ k_ ∨ w.heap.size ≤ k_) ∧ k_ ≠ gb170) (fun k_ => ((fun k_ => (P0_ k_ ∨ w.heap.size ≤ k_) ∧ k_ ≠ gb170)) k_ ∧ some k_ ≠ (u9 : Value).ownBlock) rfl rfl ?aP (fun _ hk => hk) ?aF ?aO ?aB ?aS ?aL ?_; (case aP => exact (k49_mkF _ _ (⟨t166, ([] : List Int), true⟩ : S49) (Kd.V_reads' (Kd.V_mono (ok' := (fun k_ => ((fun k_ => (P0_ k_ ∨ w.heap.size ≤ k_) ∧ k_ ≠ gb170)) k_ ∧ some k_ ≠ (u9 : Value).ownBlock)) (HO168.out) (fun k_ hk => ⟨⟨hk.1, hk.2.2⟩, hk.2.1⟩))).2.1 (Kd.V_F (Kd.V_mono (ok' := (fun k_ => ((fun k_ => (P0_ k_ ∨ w.heap.size ≤ k_) ∧ k_ ≠ gb170)) k_ ∧ some k_ ≠ (u9 : Value).ownBlock)) (HO168.out) (fun k_ hk => ⟨⟨hk.1, hk.2.2⟩, hk.2.1⟩))) (Nat.le_refl _) (Kd.F_nil _ _ _))); (case aB => exact (belS HB.out)); (case aF => exact (fun k_ hk => ⟨(.inr (Nat.le_trans (below_size (belS HB.out)) hk)), Kd.freshB (g := gb170) (o := .cells #[.slice Ao64 t166.length co64, .slice none 0 0, .bool true] 49 (0, 0)) (blkN BK170.out) k_ hk⟩)); (case aO => exact (by (with_reducible repeat (first | apply Kd.N_alloc | apply Kd.N_drewN | apply Kd.N_drew)); exact HO_9.out)); (case aS => exact (below_size (belS HB.out))); (case aL => have := LMc58.out; omega); intro v185 w70 ho hb hg hat; rw [← Ny184.out] at ho; have n0_ := Aside0.mk (Kd.V_afterv (ok := (fun k_ => (P0_ k_ ∨ w.heap.size ≤ k_) ∧ k_ ≠ gb170)) (by (with_reducible repeat (first | apply Kd.V_alloc | apply Kd.V_drewN | apply Kd.V_drew)); exact Kd.V_mono HO_0.out (fun _ hk => ⟨⟨hk.1, hk.2.2⟩, hk.2.1⟩)) hg hat); have n1_ := Aside0.mk (Kd.V_afterv (ok := (fun k_ => (P0_ k_ ∨ w.heap.size ≤ k_) ∧ k_ ≠ gb170)) (by (with_reducible repeat (first | apply Kd.V_alloc | apply Kd.V_drewN | apply Kd.V_drew)); exact Kd.V_mono HL165_0.out (fun _ hk => ⟨⟨hk.1, hk.2.2⟩, hk.2.1⟩)) hg hat); have n2_ := Aside0.mk (Kd.V_afterv (ok := (fun k_ => (P0_ k_ ∨ w.heap.size ≤ k_) ∧ k_ ≠ gb170)) (by (with_reducible repeat (first | apply Kd.V_alloc | apply Kd.V_drewN | apply Kd.V_drew)); exact Kd.V_mono HL165_1.out (fun _ hk => ⟨⟨hk.1, hk.2.2⟩, hk.2.1⟩)) hg hat); have n3_ := Aside0.mk (Kd.V_afterv (ok := (fun k_ => (P0_ k_ ∨ w.heap.size ≤ k_) ∧ k_ ≠ gb170)) (by (with_reducible repeat (first | apply Kd.V_alloc | apply Kd.V_drewN | apply Kd.V_drew)); exact Kd.V_mono HL169_0.out (fun _ hk => ⟨⟨hk.1, hk.2.2⟩, hk.2.1⟩)) hg hat); have n4_ := Aside0.mk (Kd.V_afterv (ok := (fun k_ => (P0_ k_ ∨ w.heap.size ≤ k_) ∧ k_ ≠ gb170)) (by (with_reducible repeat (first | apply Kd.V_alloc | apply Kd.V_drewN | apply Kd.V_drew)); exact Kd.V_mono HL169_1.out (fun _ hk => ⟨⟨hk.1, hk.2.2⟩, hk.2.1⟩)) hg hat); have n5_ := Aside0.mk (Kd.V_afterv (ok := (fun k_ => (P0_ k_ ∨ w.heap.size ≤ k_) ∧ k_ ≠ gb170)) (by (with_reducible repeat (first | apply Kd.V_alloc | apply Kd.V_drewN | apply Kd.V_drew)); exact Kd.V_mono HO168.out (fun _ hk => ⟨⟨hk.1, hk.2.2⟩, hk.2.1⟩)) hg hat); have n6_ := Aside0.mk (blk_grown (g := gb170) (o := .cells #[.slice Ao64 t166.length co64, .slice none 0 0, .bool true] 49 (0, 0)) (blkN BK170.out) hg (Kd.N_away HO_9.out (fun _ hk => hk.2))); have n7_ := Aside0.mk (hb); have n8_ := Aside0.mk (ho); clear HO_0; clear HL165_0; clear HL165_1; clear HL169_0; clear HL169_1; clear HO168; clear BK170; clear HB; clear HO_9; have HO_0 := n0_; have HL165_0 := n1_; have HL165_1 := n2_; have HL169_0 := n3_; have HL169_1 := n4_; have HO168 := n5_; have BK170 := n6_; have HB := n7_; have HO186 := n8_; clear n0_ n1_ n2_ n3_ n4_ n5_ n6_ n7_ n8_; clear ho hb hg hat))
           go_roundg kj4
           case measure => have := HK1.out; have := HJ4.out; omega
           case rel => exact ⟨(y184), (wrap64 (x10_1 + 1)), (by first | rfl | (simp; done) | (simp [*]; done)), H', ⟨by have := HK1.out; have := HJ4.out; omega⟩, ⟨by (with_reducible repeat (first | apply Kd.V_alloc | apply Kd.V_drewN | apply Kd.V_drew)); exact Kd.V_mono HO_0.out (fun _ hk => ⟨hk.1.1, hk.2⟩)⟩, ⟨by (with_reducible repeat (first | apply Kd.N_alloc | apply Kd.N_drewN | apply Kd.N_drew)); exact Kd.N_mono HO186.out (fun _ hk => hk.1)⟩, ⟨(belS HB.out)⟩⟩
          ·rw [if_neg c58] at H
           exact absurd H (by simp)
         ·replace c57 := Bool.eq_false_iff.mpr c57
          subst c57
          have H1 : ((marigraphkeep_Cut.f ((rd_T49 l0 x10_1).f1) a3).bind fun t188 => (if x9_1.length < 2513169434916 then (marigraphkeep_Entries.l0 kj4 l0 a1 a2 a3 (x9_1 ++ [(⟨t166, t188, false⟩ : S49)]) (wrap64 (x10_1 + 1))) else (none))) = some r := by rw [if_neg (show ¬ (false = true) by decide)] at H; exact H
          clear H
          have H := H1
          clear H1
          replace H := Option.bind_eq_some_iff.mp H
          obtain ⟨t188, A710, H⟩ := H
          replace H : (if x9_1.length < 2513169434916 then (marigraphkeep_Entries.l0 kj4 l0 a1 a2 a3 (x9_1 ++ [(⟨t166, t188, false⟩ : S49)]) (wrap64 (x10_1 + 1))) else (none)) = some r := H
          have A71 := Aside0.mk A710
          clear A710
          by_cases c72 : x9_1.length < 2513169434916
          ·rw [if_pos c72] at H
           have LMc72 := Aside0.mk c72
           clear c72
           obtain ⟨y191, hy191⟩ : ∃ y_ : List (S49), y_ = (x9_1 ++ [(⟨t166, t188, false⟩ : S49)]) := ⟨_, rfl⟩
           replace H : (marigraphkeep_Entries.l0 kj4 l0 a1 a2 a3 y191 (wrap64 (x10_1 + 1))) = some r := by first | (rw [hy191]; with_reducible exact H) | (have H2_ := (Option.bind_some _ _).symm.trans H; rw [hy191]; with_reducible exact H2_) | (have H2_ := (Option.bind_some _ _).symm.trans H; with_reducible exact H2_) | with_reducible exact H | (rw [hy191]; exact H) | exact H
           have Ny191 := Aside0.mk hy191
           clear hy191
           have H' := Aside0.mk H
           clear H
           try go_wp2
           have n0_ := Aside0.mk (Kd.V_drew HO_0.out)
           have n1_ := Aside0.mk (Kd.N_drew HO_9.out)
           have n2_ := Aside0.mk (below_drew1 HB.out)
           clear HO_0
           clear HO_9
           clear HB
           have HO_0 := n0_
           have HO_9 := n1_
           have HB := n2_
           clear n0_ n1_ n2_
           have p165 : 0 ≤ (x10_1 : Int) := of_decide_eq_true (by first | (with_reducible assumption) | assumption)
           have q165 : x10_1 < (l0.length : Int) := of_decide_eq_true (by first | (with_reducible assumption) | assumption)
           obtain ⟨ad165, A165_0, c165_0, A165_1, c165_1, e165, hx165_0, hx165_1, hx165_2, hl165_0, hi165_0, hl165_1, hi165_1⟩ := at_T49 (Kd.V_reads' HO_0.out).2.2 x10_1 p165 q165
           (try rw [← Nbq56.out] at hx165_2)
           cases e165
           obtain ⟨ce165, hce165, hMe165, hcc165⟩ := Kd.V_get HO_0.out z49 x10_1 p165 (by first | exact q165 | exact of_decide_eq_true (by first | (with_reducible assumption) | assumption) | (have e_ := (Kd.V_reads' HO_0.out).1; omega))
           obtain ⟨ua165_0, uc165_0, ua165_1, uc165_1, rfl, ul165_0, ge165_0, ul165_1, ge165_1⟩ := k49_openF hMe165
           have hv165_0 := hcc165 0 _ rfl
           rw [Nat.add_zero] at hv165_0
           replace hv165_0 := Option.some.inj (hv165_0.symm.trans hx165_0)
           injection hv165_0 with hva_ hvn_ hvc_
           rw [hva_] at ge165_0
           rw [hvc_] at ul165_0
           have HL165_0 := Aside0.mk (show Kd.V (Kd.int .u8) 5 _ w.heap.size _ _ ((rd_T49 l0 x10_1).f0) from Kd.V_mk ul165_0 ge165_0)
           clear hva_ hvn_ hvc_ ge165_0 ul165_0
           have hv165_1 := hcc165 1 _ rfl
           rw [add_field _ _ 1 (by omega)] at hv165_1
           replace hv165_1 := Option.some.inj (hv165_1.symm.trans hx165_1)
           injection hv165_1 with hva_ hvn_ hvc_
           rw [hva_] at ge165_1
           rw [hvc_] at ul165_1
           have HL165_1 := Aside0.mk (show Kd.V (Kd.int .u8) 5 _ w.heap.size _ _ ((rd_T49 l0 x10_1).f1) from Kd.V_mk ul165_1 ge165_1)
           clear hva_ hvn_ hvc_ ge165_1 ul165_1
           clear hcc165 hce165
           have HR165_0 := Aside0.mk hi165_0
           have HC165_0 := Aside0.mk hl165_0
           clear hi165_0 hl165_0
           have HR165_1 := Aside0.mk hi165_1
           have HC165_1 := Aside0.mk hl165_1
           clear hi165_1 hl165_1
           replace p165 := eq_true p165
           replace q165 := eq_true q165
           have p169 : 0 ≤ (x10_1 : Int) := of_decide_eq_true (by first | (with_reducible assumption) | assumption)
           have q169 : x10_1 < (l0.length : Int) := of_decide_eq_true (by first | (with_reducible assumption) | assumption)
           obtain ⟨ad169, A169_0, c169_0, A169_1, c169_1, e169, hx169_0, hx169_1, hx169_2, hl169_0, hi169_0, hl169_1, hi169_1⟩ := at_T49 (Kd.V_reads' HO_0.out).2.2 x10_1 p169 q169
           (try rw [← Nbq56.out] at hx169_2)
           obtain rfl : ad165 = ad169 := (by injection e169)
           obtain ⟨ce169, hce169, hMe169, hcc169⟩ := Kd.V_get HO_0.out z49 x10_1 p169 (by first | exact q169 | exact of_decide_eq_true (by first | (with_reducible assumption) | assumption) | (have e_ := (Kd.V_reads' HO_0.out).1; omega))
           obtain ⟨ua169_0, uc169_0, ua169_1, uc169_1, rfl, ul169_0, ge169_0, ul169_1, ge169_1⟩ := k49_openF hMe169
           have hv169_0 := hcc169 0 _ rfl
           rw [Nat.add_zero] at hv169_0
           replace hv169_0 := Option.some.inj (hv169_0.symm.trans hx169_0)
           injection hv169_0 with hva_ hvn_ hvc_
           rw [hva_] at ge169_0
           rw [hvc_] at ul169_0
           have HL169_0 := Aside0.mk (show Kd.V (Kd.int .u8) 5 _ w.heap.size _ _ ((rd_T49 l0 x10_1).f0) from Kd.V_mk ul169_0 ge169_0)
           clear hva_ hvn_ hvc_ ge169_0 ul169_0
           have hv169_1 := hcc169 1 _ rfl
           rw [add_field _ _ 1 (by omega)] at hv169_1
           replace hv169_1 := Option.some.inj (hv169_1.symm.trans hx169_1)
           injection hv169_1 with hva_ hvn_ hvc_
           rw [hva_] at ge169_1
           rw [hvc_] at ul169_1
           have HL169_1 := Aside0.mk (show Kd.V (Kd.int .u8) 5 _ w.heap.size _ _ ((rd_T49 l0 x10_1).f1) from Kd.V_mk ul169_1 ge169_1)
           clear hva_ hvn_ hvc_ ge169_1 ul169_1
           clear hcc169 hce169
           have HR169_0 := Aside0.mk hi169_0
           have HC169_0 := Aside0.mk hl169_0
           clear hi169_0 hl169_0
           have HR169_1 := Aside0.mk hi169_1
           have HC169_1 := Aside0.mk hl169_1
           clear hi169_1 hl169_1
           replace p169 := eq_true p169
           replace q169 := eq_true q169
           have ea_ := Option.some.inj (hx165_0.symm.trans hx169_0)
           injection ea_ with ea_ en_ ec_
           subst ea_
           subst ec_
           clear en_
           have ea_ := Option.some.inj (hx165_1.symm.trans hx169_1)
           injection ea_ with ea_ en_ ec_
           subst ea_
           subst ec_
           clear en_
           refine start_ (n := 15) (S := fun w' => w'.cell? (ad165.add ((x10_1).toNat * 3)) = some (.slice A165_0 ((rd_T49 l0 x10_1).f0).length c165_0) ∧ w'.cell? ⟨(ad165.add ((x10_1).toNat * 3)).block, (ad165.add ((x10_1).toNat * 3)).off + 1, none⟩ = some (.slice A165_1 ((rd_T49 l0 x10_1).f1).length c165_1) ∧ w'.cell? ⟨(ad165.add ((x10_1).toNat * 3)).block, (ad165.add ((x10_1).toNat * 3)).off + 2, none⟩ = some (.bool false) ∧ w'.cell? (ad165.add ((x10_1).toNat * 3)) = some (.slice A165_0 ((rd_T49 l0 x10_1).f0).length c165_0) ∧ w'.cell? ⟨(ad165.add ((x10_1).toNat * 3)).block, (ad165.add ((x10_1).toNat * 3)).off + 1, none⟩ = some (.slice A165_1 ((rd_T49 l0 x10_1).f1).length c165_1) ∧ w'.cell? ⟨(ad165.add ((x10_1).toNat * 3)).block, (ad165.add ((x10_1).toNat * 3)).off + 2, none⟩ = some (.bool false)) (ds := []) #[false, false, false, false, false, false, false, false, false, false, false, false, false, false, false] (by kernel_rfl) rfl rfl ⟨hx165_0, hx165_1, hx165_2, hx169_0, hx169_1, hx169_2⟩ (fun hHeld => ?_); refine with_tabW marigraphkeep_Entries.tab5 marigraphkeep_Entries.bits5 (fun HT_ HW_ => ?_)
           generalize wc.drew = w73 at HO_0 HO_9 HB HL165_0 HL165_1 HL169_0 HL169_1 HR165_0 HR165_1 HR169_0 HR169_1 hx165_0 hx165_1 hx165_2 hx169_0 hx169_1 hx169_2 hHeld ⊢
           refine pA 0 (some 23) (bA 15 1) HT_.out ?_
           refine pA 1 (some 24) (bA 15 3) HT_.out ?_
           refine pA 2 (some 25) (bA 15 7) HT_.out ?_
           refine pA 3 (some 26) (bA 15 15) HT_.out ?_
           refine pA 5 (some 28) (bA 15 47) HT_.out ?_
           refine pA 7 (some 30) (bA 15 175) HT_.out ?_
           refine pA 8 (some 31) (bA 15 431) HT_.out ?_
           refine pA 9 (some 32) (bA 15 943) HT_.out ?_
           refine pA 10 (some 33) (bA 15 1967) HT_.out ?_
           refine take_ (i := 4) (N := some 27) (v := ?_) (a' := ?_) (bA 15 1983) rfl rfl (take_ofW HT_.out HW_.out (by kernel_rfl)) (fun _ _ _ h => h) (Or.inl ⟨by rfl, ?_⟩) hHeld ?_ ?_
           rotate_left
           ·rintro w' ⟨s0, s1, s2, s3, s4, s5⟩
            go_simp
            with_reducible rfl
           rotate_left
           ·simp only [Act.put, List.setIfInBounds_toArray, List.set_cons_zero, List.set_cons_succ, i64_w, i32_w]
            rfl
           refine take_ (i := 11) (N := some 34) (v := ?_) (a' := ?_) (bA 15 4031) rfl rfl (take_ofW HT_.out HW_.out (by kernel_rfl)) (fun _ _ _ h => h) (Or.inl ⟨by rfl, ?_⟩) hHeld ?_ ?_
           rotate_left
           ·rintro w' ⟨s0, s1, s2, s3, s4, s5⟩
            go_simp
            with_reducible rfl
           rotate_left
           ·simp only [Act.put, List.setIfInBounds_toArray, List.set_cons_zero, List.set_cons_succ, i64_w, i32_w]
            rfl
           refine join_ (σ := Value × Nat) 1 (bA 15 16383) (fun s_ => [(29, s_.1), (11, .pointer (some ⟨s_.2, 0, none⟩)), (35, .agg #[s_.1, .slice none 0 0, .bool false])]) (fun s_ w' => (w'.cell? (ad165.add ((x10_1).toNat * 3)) = some (.slice A165_0 ((rd_T49 l0 x10_1).f0).length c165_0) ∧ w'.cell? ⟨(ad165.add ((x10_1).toNat * 3)).block, (ad165.add ((x10_1).toNat * 3)).off + 1, none⟩ = some (.slice A165_1 ((rd_T49 l0 x10_1).f1).length c165_1) ∧ w'.cell? ⟨(ad165.add ((x10_1).toNat * 3)).block, (ad165.add ((x10_1).toNat * 3)).off + 2, none⟩ = some (.bool false) ∧ w'.cell? (ad165.add ((x10_1).toNat * 3)) = some (.slice A165_0 ((rd_T49 l0 x10_1).f0).length c165_0) ∧ w'.cell? ⟨(ad165.add ((x10_1).toNat * 3)).block, (ad165.add ((x10_1).toNat * 3)).off + 1, none⟩ = some (.slice A165_1 ((rd_T49 l0 x10_1).f1).length c165_1) ∧ w'.cell? ⟨(ad165.add ((x10_1).toNat * 3)).block, (ad165.add ((x10_1).toNat * 3)).off + 2, none⟩ = some (.bool false)) ∧ (Kd.V (Kd.int .u8) 5 w' w.heap.size (fun k_ => (P0_ k_ ∨ w.heap.size ≤ k_) ∧ some k_ ≠ (u9 : Value).ownBlock ∧ k_ ≠ s_.2) (.slice A165_0 ((rd_T49 l0 x10_1).f0).length c165_0) ((rd_T49 l0 x10_1).f0)) ∧ (Kd.V (Kd.int .u8) 5 w' w.heap.size (fun k_ => (P0_ k_ ∨ w.heap.size ≤ k_) ∧ some k_ ≠ (u9 : Value).ownBlock ∧ k_ ≠ s_.2) (.slice A165_1 ((rd_T49 l0 x10_1).f1).length c165_1) ((rd_T49 l0 x10_1).f1)) ∧ (Kd.V (Kd.int .u8) 5 w' w.heap.size (fun k_ => (P0_ k_ ∨ w.heap.size ≤ k_) ∧ some k_ ≠ (u9 : Value).ownBlock ∧ k_ ≠ s_.2) (.slice A165_0 ((rd_T49 l0 x10_1).f0).length c165_0) ((rd_T49 l0 x10_1).f0)) ∧ (Kd.V (Kd.int .u8) 5 w' w.heap.size (fun k_ => (P0_ k_ ∨ w.heap.size ≤ k_) ∧ some k_ ≠ (u9 : Value).ownBlock ∧ k_ ≠ s_.2) (.slice A165_1 ((rd_T49 l0 x10_1).f1).length c165_1) ((rd_T49 l0 x10_1).f1)) ∧ (Kd.V (Kd.int .u8) 5 w' w.heap.size (fun k_ => (P0_ k_ ∨ w.heap.size ≤ k_) ∧ some k_ ≠ (u9 : Value).ownBlock ∧ k_ ≠ s_.2) s_.1 t166) ∧ (Kd.V k49 49 w' w.heap.size (fun k_ => (P0_ k_ ∨ w.heap.size ≤ k_) ∧ some k_ ≠ (u9 : Value).ownBlock ∧ k_ ≠ s_.2) (.slice (some ad165) l0.length c0) l0) ∧ (Kd.N k49 49 w' w.heap.size (fun k_ => (P0_ k_ ∨ w.heap.size ≤ k_) ∧ k_ ≠ s_.2) u9 x9_1) ∧ (w'.heap[s_.2]? = some (.cells #[.slice none 0 0, .slice none 0 0, .bool false] 49 (0, 0))) ∧ (w.heap.size ≤ s_.2) ∧ (w.heap.size ≤ s_.2) ∧ (Below w.heap.size w w')) ?_ ?_
           rotate_left
           ·intro hCont
            refine two_ (i := 6) (j := 13) (Ni := some 29) (Nj := some 11) (bA 15 4095) (bA 15 12223) rfl rfl rfl rfl (two_of HT_.out (by kernel_rfl)) (by decide) (by decide) (fun K hK => ?_) (fun K hK => ?_)
            ·skip
             refine goes_ Try.func14 (by kernel_rfl) rfl #[.slice A165_0 ((rd_T49 l0 x10_1).f0).length c165_0, .int .i64 a2] (by rfl) rfl rfl argN ?_
             with_reducible refine (marigraphkeep_Cut.calls (fun k_ => ((P0_ k_ ∨ w.heap.size ≤ k_) ∧ some k_ ≠ (u9 : Value).ownBlock)) _ _ ((rd_T49 l0 x10_1).f0) a2 t166 _ ?side1 A10.out).mono ?_
             (case side1 => exact HL165_0.out)
             rintro e w74 ⟨v167, rfl, ho0, hb⟩
             have HS0_ := (hb.cell (World.block_lt_of_cell? _ _ (hHeld.1))).trans (hHeld.1)
             have HS1_ := (hb.cell (World.block_lt_of_cell? _ _ (hHeld.2.1))).trans (hHeld.2.1)
             have HS2_ := (hb.cell (World.block_lt_of_cell? _ _ (hHeld.2.2.1))).trans (hHeld.2.2.1)
             have HS3_ := (hb.cell (World.block_lt_of_cell? _ _ (hHeld.2.2.2.1))).trans (hHeld.2.2.2.1)
             have HS4_ := (hb.cell (World.block_lt_of_cell? _ _ (hHeld.2.2.2.2.1))).trans (hHeld.2.2.2.2.1)
             have HS5_ := (hb.cell (World.block_lt_of_cell? _ _ (hHeld.2.2.2.2.2))).trans (hHeld.2.2.2.2.2)
             refine ⟨_, rfl, ?_⟩
             have n0_ := Aside0.mk (Kd.V_below (by (with_reducible repeat (first | apply Kd.V_alloc | apply Kd.V_drewN | apply Kd.V_drew)); exact HO_0.out) hb)
             have n1_ := Aside0.mk (Kd.N_below (by (with_reducible repeat (first | apply Kd.N_alloc | apply Kd.N_drewN | apply Kd.N_drew)); exact HO_9.out) hb)
             have n2_ := Aside0.mk (Kd.V_below (by (with_reducible repeat (first | apply Kd.V_alloc | apply Kd.V_drewN | apply Kd.V_drew)); exact HL165_0.out) hb)
             have n3_ := Aside0.mk (Kd.V_below (by (with_reducible repeat (first | apply Kd.V_alloc | apply Kd.V_drewN | apply Kd.V_drew)); exact HL165_1.out) hb)
             have n4_ := Aside0.mk (Kd.V_below (by (with_reducible repeat (first | apply Kd.V_alloc | apply Kd.V_drewN | apply Kd.V_drew)); exact HL169_0.out) hb)
             have n5_ := Aside0.mk (Kd.V_below (by (with_reducible repeat (first | apply Kd.V_alloc | apply Kd.V_drewN | apply Kd.V_drew)); exact HL169_1.out) hb)
             have n6_ := Aside0.mk (Kd.V_lower (Kd.V_mono (ok' := fun k_ => (P0_ k_ ∨ w.heap.size ≤ k_) ∧ some k_ ≠ (u9 : Value).ownBlock) ho0 (fun k_ hk_ => ⟨Or.elim hk_ (fun hs_ => hs_.1) (fun hn_ => (.inr (Nat.le_trans (below_size (belN HB.out)) hn_))), Or.elim hk_ (fun hs_ => hs_.2) (fun hn_ => (Kd.fresh' (Kd.N_lt (by (with_reducible repeat (first | apply Kd.N_alloc | apply Kd.N_drewN | apply Kd.N_drew)); exact HO_9.out)) k_ hn_))⟩)) (below_size (belN HB.out)))
             have n7_ := Aside0.mk (cbN HR165_0.out hb)
             have n8_ := Aside0.mk (cbN HR165_1.out hb)
             have n9_ := Aside0.mk (cbN HR169_0.out hb)
             have n10_ := Aside0.mk (cbN HR169_1.out hb)
             have n11_ := Aside0.mk (below_step (belN HB.out) hb)
             clear HO_0
             clear HO_9
             clear HL165_0
             clear HL165_1
             clear HL169_0
             clear HL169_1
             clear HR165_0
             clear HR165_1
             clear HR169_0
             clear HR169_1
             clear HB
             have HO_0 := n0_
             have HO_9 := n1_
             have HL165_0 := n2_
             have HL165_1 := n3_
             have HL169_0 := n4_
             have HL169_1 := n5_
             have HO168 := n6_
             have HR165_0 := n7_
             have HR165_1 := n8_
             have HR169_0 := n9_
             have HR169_1 := n10_
             have HB := n11_
             clear n0_ n1_ n2_ n3_ n4_ n5_ n6_ n7_ n8_ n9_ n10_ n11_
             (try clear hb)
             (try clear hk)
             (try clear ho0)
             obtain ⟨Ao75, co75, eo75⟩ := Kd.V_slice HO168.out
             (first | subst eo75 | (injection eo75 with f1_ f2_ f3_; have f4_ := f1_.symm; have f5_ := f3_.symm; clear f1_ f2_ f3_; subst f4_; subst f5_))
             refine hK.out _ _ ⟨HS0_, HS1_, HS2_, HS3_, HS4_, HS5_⟩ (fun hHeld => ?_)
             clear hK K
             refine norm_ (a' := ?_) ?_ ?_
             rotate_left
             ·show Act.put _ (some 29) _ = _
              simp only [Act.put, List.setIfInBounds_toArray, List.set_cons_zero, List.set_cons_succ, i64_w, i32_w]
              rfl
             refine pA 12 (some 35) (bA 15 8191) HT_.out ?_
             refine one_ (i := 13) (N := some 11) (bA 15 16383) rfl rfl (one_of HT_.out (by kernel_rfl)) (by decide) (fun K hK => ?_)
             refine box_step ?hg (N := 11) ?hd (cs := #[.slice none 0 0, .slice none 0 0, .bool false]) (t := 49) ?hr ?_; (case hd => rfl); (case hg => rfl); (case hr => first | (go_simp; done) | (go_simp; rfl))
             intro gb170 hg w76 hbox hb
             have HS0_ := (hb.cell (World.block_lt_of_cell? _ _ (hHeld.1))).trans (hHeld.1)
             have HS1_ := (hb.cell (World.block_lt_of_cell? _ _ (hHeld.2.1))).trans (hHeld.2.1)
             have HS2_ := (hb.cell (World.block_lt_of_cell? _ _ (hHeld.2.2.1))).trans (hHeld.2.2.1)
             have HS3_ := (hb.cell (World.block_lt_of_cell? _ _ (hHeld.2.2.2.1))).trans (hHeld.2.2.2.1)
             have HS4_ := (hb.cell (World.block_lt_of_cell? _ _ (hHeld.2.2.2.2.1))).trans (hHeld.2.2.2.2.1)
             have HS5_ := (hb.cell (World.block_lt_of_cell? _ _ (hHeld.2.2.2.2.2))).trans (hHeld.2.2.2.2.2)
             have n0_ := Aside0.mk (Kd.V_below (Kd.V_elderB (by (with_reducible repeat (first | apply Kd.V_alloc | apply Kd.V_drewN | apply Kd.V_drew)); exact HO_0.out) gb170 (Nat.le_of_eq hg.symm)) hb)
             have n1_ := Aside0.mk (Kd.N_below (Kd.N_elderB (by (with_reducible repeat (first | apply Kd.N_alloc | apply Kd.N_drewN | apply Kd.N_drew)); exact HO_9.out) gb170 (Nat.le_of_eq hg.symm)) hb)
             have n2_ := Aside0.mk (Kd.V_below (Kd.V_elderB (by (with_reducible repeat (first | apply Kd.V_alloc | apply Kd.V_drewN | apply Kd.V_drew)); exact HL165_0.out) gb170 (Nat.le_of_eq hg.symm)) hb)
             have n3_ := Aside0.mk (Kd.V_below (Kd.V_elderB (by (with_reducible repeat (first | apply Kd.V_alloc | apply Kd.V_drewN | apply Kd.V_drew)); exact HL165_1.out) gb170 (Nat.le_of_eq hg.symm)) hb)
             have n4_ := Aside0.mk (Kd.V_below (Kd.V_elderB (by (with_reducible repeat (first | apply Kd.V_alloc | apply Kd.V_drewN | apply Kd.V_drew)); exact HL169_0.out) gb170 (Nat.le_of_eq hg.symm)) hb)
             have n5_ := Aside0.mk (Kd.V_below (Kd.V_elderB (by (with_reducible repeat (first | apply Kd.V_alloc | apply Kd.V_drewN | apply Kd.V_drew)); exact HL169_1.out) gb170 (Nat.le_of_eq hg.symm)) hb)
             have n6_ := Aside0.mk (Kd.V_below (Kd.V_elderB (by (with_reducible repeat (first | apply Kd.V_alloc | apply Kd.V_drewN | apply Kd.V_drew)); exact HO168.out) gb170 (Nat.le_of_eq hg.symm)) hb)
             have n7_ := Aside0.mk (cbN HR165_0.out hb)
             have n8_ := Aside0.mk (cbN HR165_1.out hb)
             have n9_ := Aside0.mk (cbN HR169_0.out hb)
             have n10_ := Aside0.mk (cbN HR169_1.out hb)
             have n11_ := Aside0.mk (below_step (belN HB.out) hb)
             have n12_ := Aside0.mk (hbox)
             have n13_ := Aside0.mk (szB hg HB.out)
             have n14_ := Aside0.mk (szB hg HB.out)
             clear HO_0
             clear HO_9
             clear HL165_0
             clear HL165_1
             clear HL169_0
             clear HL169_1
             clear HO168
             clear HR165_0
             clear HR165_1
             clear HR169_0
             clear HR169_1
             clear HB
             have HO_0 := n0_
             have HO_9 := n1_
             have HL165_0 := n2_
             have HL165_1 := n3_
             have HL169_0 := n4_
             have HL169_1 := n5_
             have HO168 := n6_
             have HR165_0 := n7_
             have HR165_1 := n8_
             have HR169_0 := n9_
             have HR169_1 := n10_
             have HB := n11_
             have BK170 := n12_
             have GW170 := n13_
             have GE170 := n14_
             clear n0_ n1_ n2_ n3_ n4_ n5_ n6_ n7_ n8_ n9_ n10_ n11_ n12_ n13_ n14_
             clear hb hbox hg
             refine hK.out _ _ ⟨HS0_, HS1_, HS2_, HS3_, HS4_, HS5_⟩ (fun hHeld => ?_)
             clear hK K
             refine norm_ (a' := ?_) ?_ ?_
             rotate_left
             ·show Act.put _ (some 11) _ = _
              simp only [Act.put, List.setIfInBounds_toArray, List.set_cons_zero, List.set_cons_succ, i64_w, i32_w]
              rfl
             exact norm_ (by simp only [putAll, Act.put, List.setIfInBounds_toArray, List.set_cons_zero, List.set_cons_succ]) (hCont (.slice Ao75 t166.length co75, gb170) _ ⟨hHeld, (by (with_reducible repeat (first | apply Kd.V_alloc | apply Kd.V_drewN | apply Kd.V_drew)); exact Kd.V_mono HL165_0.out (fun _ hk => ⟨hk.1.1, ⟨hk.1.2, hk.2⟩⟩)), (by (with_reducible repeat (first | apply Kd.V_alloc | apply Kd.V_drewN | apply Kd.V_drew)); exact Kd.V_mono HL165_1.out (fun _ hk => ⟨hk.1.1, ⟨hk.1.2, hk.2⟩⟩)), (by (with_reducible repeat (first | apply Kd.V_alloc | apply Kd.V_drewN | apply Kd.V_drew)); exact Kd.V_mono HL169_0.out (fun _ hk => ⟨hk.1.1, ⟨hk.1.2, hk.2⟩⟩)), (by (with_reducible repeat (first | apply Kd.V_alloc | apply Kd.V_drewN | apply Kd.V_drew)); exact Kd.V_mono HL169_1.out (fun _ hk => ⟨hk.1.1, ⟨hk.1.2, hk.2⟩⟩)), (by (with_reducible repeat (first | apply Kd.V_alloc | apply Kd.V_drewN | apply Kd.V_drew)); exact Kd.V_mono HO168.out (fun _ hk => ⟨hk.1.1, ⟨hk.1.2, hk.2⟩⟩)), (by (with_reducible repeat (first | apply Kd.V_alloc | apply Kd.V_drewN | apply Kd.V_drew)); exact Kd.V_mono HO_0.out (fun _ hk => ⟨hk.1.1, ⟨hk.1.2, hk.2⟩⟩)), (by (with_reducible repeat (first | apply Kd.N_alloc | apply Kd.N_drewN | apply Kd.N_drew)); exact HO_9.out), (blkN BK170.out), GW170.out, GE170.out, (belS HB.out)⟩)
            ·skip
             refine box_step ?hg (N := 11) ?hd (cs := #[.slice none 0 0, .slice none 0 0, .bool false]) (t := 49) ?hr ?_; (case hd => rfl); (case hg => rfl); (case hr => first | (go_simp; done) | (go_simp; rfl))
             intro gb170 hg w74 hbox hb
             have HS0_ := (hb.cell (World.block_lt_of_cell? _ _ (hHeld.1))).trans (hHeld.1)
             have HS1_ := (hb.cell (World.block_lt_of_cell? _ _ (hHeld.2.1))).trans (hHeld.2.1)
             have HS2_ := (hb.cell (World.block_lt_of_cell? _ _ (hHeld.2.2.1))).trans (hHeld.2.2.1)
             have HS3_ := (hb.cell (World.block_lt_of_cell? _ _ (hHeld.2.2.2.1))).trans (hHeld.2.2.2.1)
             have HS4_ := (hb.cell (World.block_lt_of_cell? _ _ (hHeld.2.2.2.2.1))).trans (hHeld.2.2.2.2.1)
             have HS5_ := (hb.cell (World.block_lt_of_cell? _ _ (hHeld.2.2.2.2.2))).trans (hHeld.2.2.2.2.2)
             have n0_ := Aside0.mk (Kd.V_below (Kd.V_elderB (by (with_reducible repeat (first | apply Kd.V_alloc | apply Kd.V_drewN | apply Kd.V_drew)); exact HO_0.out) gb170 (Nat.le_of_eq hg.symm)) hb)
             have n1_ := Aside0.mk (Kd.N_below (Kd.N_elderB (by (with_reducible repeat (first | apply Kd.N_alloc | apply Kd.N_drewN | apply Kd.N_drew)); exact HO_9.out) gb170 (Nat.le_of_eq hg.symm)) hb)
             have n2_ := Aside0.mk (Kd.V_below (Kd.V_elderB (by (with_reducible repeat (first | apply Kd.V_alloc | apply Kd.V_drewN | apply Kd.V_drew)); exact HL165_0.out) gb170 (Nat.le_of_eq hg.symm)) hb)
             have n3_ := Aside0.mk (Kd.V_below (Kd.V_elderB (by (with_reducible repeat (first | apply Kd.V_alloc | apply Kd.V_drewN | apply Kd.V_drew)); exact HL165_1.out) gb170 (Nat.le_of_eq hg.symm)) hb)
             have n4_ := Aside0.mk (Kd.V_below (Kd.V_elderB (by (with_reducible repeat (first | apply Kd.V_alloc | apply Kd.V_drewN | apply Kd.V_drew)); exact HL169_0.out) gb170 (Nat.le_of_eq hg.symm)) hb)
             have n5_ := Aside0.mk (Kd.V_below (Kd.V_elderB (by (with_reducible repeat (first | apply Kd.V_alloc | apply Kd.V_drewN | apply Kd.V_drew)); exact HL169_1.out) gb170 (Nat.le_of_eq hg.symm)) hb)
             have n6_ := Aside0.mk (cbN HR165_0.out hb)
             have n7_ := Aside0.mk (cbN HR165_1.out hb)
             have n8_ := Aside0.mk (cbN HR169_0.out hb)
             have n9_ := Aside0.mk (cbN HR169_1.out hb)
             have n10_ := Aside0.mk (below_step (belN HB.out) hb)
             have n11_ := Aside0.mk (hbox)
             have n12_ := Aside0.mk (szB hg HB.out)
             have n13_ := Aside0.mk (szB hg HB.out)
             clear HO_0
             clear HO_9
             clear HL165_0
             clear HL165_1
             clear HL169_0
             clear HL169_1
             clear HR165_0
             clear HR165_1
             clear HR169_0
             clear HR169_1
             clear HB
             have HO_0 := n0_
             have HO_9 := n1_
             have HL165_0 := n2_
             have HL165_1 := n3_
             have HL169_0 := n4_
             have HL169_1 := n5_
             have HR165_0 := n6_
             have HR165_1 := n7_
             have HR169_0 := n8_
             have HR169_1 := n9_
             have HB := n10_
             have BK170 := n11_
             have GW170 := n12_
             have GE170 := n13_
             clear n0_ n1_ n2_ n3_ n4_ n5_ n6_ n7_ n8_ n9_ n10_ n11_ n12_ n13_
             clear hb hbox hg
             refine hK.out _ _ ⟨HS0_, HS1_, HS2_, HS3_, HS4_, HS5_⟩ (fun hHeld => ?_)
             clear hK K
             refine norm_ (a' := ?_) ?_ ?_
             rotate_left
             ·show Act.put _ (some 11) _ = _
              simp only [Act.put, List.setIfInBounds_toArray, List.set_cons_zero, List.set_cons_succ, i64_w, i32_w]
              rfl
             refine one_ (i := 6) (N := some 29) (bA 15 12287) rfl rfl (one_of HT_.out (by kernel_rfl)) (by decide) (fun K hK => ?_)
             refine goes_ Try.func14 (by kernel_rfl) rfl #[.slice A165_0 ((rd_T49 l0 x10_1).f0).length c165_0, .int .i64 a2] (by rfl) rfl rfl argN ?_
             with_reducible refine (marigraphkeep_Cut.calls (fun k_ => (((P0_ k_ ∨ w.heap.size ≤ k_) ∧ some k_ ≠ (u9 : Value).ownBlock) ∧ k_ ≠ gb170)) _ _ ((rd_T49 l0 x10_1).f0) a2 t166 _ ?side1 A10.out).mono ?_
             (case side1 => exact HL165_0.out)
             rintro e w75 ⟨v167, rfl, ho0, hb⟩
             have HS0_ := (hb.cell (World.block_lt_of_cell? _ _ (hHeld.1))).trans (hHeld.1)
             have HS1_ := (hb.cell (World.block_lt_of_cell? _ _ (hHeld.2.1))).trans (hHeld.2.1)
             have HS2_ := (hb.cell (World.block_lt_of_cell? _ _ (hHeld.2.2.1))).trans (hHeld.2.2.1)
             have HS3_ := (hb.cell (World.block_lt_of_cell? _ _ (hHeld.2.2.2.1))).trans (hHeld.2.2.2.1)
             have HS4_ := (hb.cell (World.block_lt_of_cell? _ _ (hHeld.2.2.2.2.1))).trans (hHeld.2.2.2.2.1)
             have HS5_ := (hb.cell (World.block_lt_of_cell? _ _ (hHeld.2.2.2.2.2))).trans (hHeld.2.2.2.2.2)
             refine ⟨_, rfl, ?_⟩
             have n0_ := Aside0.mk (Kd.V_below (by (with_reducible repeat (first | apply Kd.V_alloc | apply Kd.V_drewN | apply Kd.V_drew)); exact HO_0.out) hb)
             have n1_ := Aside0.mk (Kd.N_below (by (with_reducible repeat (first | apply Kd.N_alloc | apply Kd.N_drewN | apply Kd.N_drew)); exact HO_9.out) hb)
             have n2_ := Aside0.mk (Kd.V_below (by (with_reducible repeat (first | apply Kd.V_alloc | apply Kd.V_drewN | apply Kd.V_drew)); exact HL165_0.out) hb)
             have n3_ := Aside0.mk (Kd.V_below (by (with_reducible repeat (first | apply Kd.V_alloc | apply Kd.V_drewN | apply Kd.V_drew)); exact HL165_1.out) hb)
             have n4_ := Aside0.mk (Kd.V_below (by (with_reducible repeat (first | apply Kd.V_alloc | apply Kd.V_drewN | apply Kd.V_drew)); exact HL169_0.out) hb)
             have n5_ := Aside0.mk (Kd.V_below (by (with_reducible repeat (first | apply Kd.V_alloc | apply Kd.V_drewN | apply Kd.V_drew)); exact HL169_1.out) hb)
             have n6_ := Aside0.mk (Kd.V_lower (Kd.V_mono (ok' := fun k_ => (P0_ k_ ∨ w.heap.size ≤ k_) ∧ some k_ ≠ (u9 : Value).ownBlock ∧ k_ ≠ gb170) ho0 (fun k_ hk_ => ⟨Or.elim hk_ (fun hs_ => hs_.1.1) (fun hn_ => (.inr (Nat.le_trans (below_size (belS HB.out)) hn_))), Or.elim hk_ (fun hs_ => hs_.1.2) (fun hn_ => (Kd.fresh' (Kd.N_lt (by (with_reducible repeat (first | apply Kd.N_alloc | apply Kd.N_drewN | apply Kd.N_drew)); exact HO_9.out)) k_ hn_)), Or.elim hk_ (fun hs_ => hs_.2) (fun hn_ => (Kd.freshB (g := gb170) (o := .cells #[.slice none 0 0, .slice none 0 0, .bool false] 49 (0, 0)) (blkN BK170.out) k_ hn_))⟩)) (below_size (belS HB.out)))
             have n7_ := Aside0.mk (cbN HR165_0.out hb)
             have n8_ := Aside0.mk (cbN HR165_1.out hb)
             have n9_ := Aside0.mk (cbN HR169_0.out hb)
             have n10_ := Aside0.mk (cbN HR169_1.out hb)
             have n11_ := Aside0.mk (bkB BK170.out hb)
             have n12_ := Aside0.mk (below_step (belS HB.out) hb)
             clear HO_0
             clear HO_9
             clear HL165_0
             clear HL165_1
             clear HL169_0
             clear HL169_1
             clear HR165_0
             clear HR165_1
             clear HR169_0
             clear HR169_1
             clear BK170
             clear HB
             have HO_0 := n0_
             have HO_9 := n1_
             have HL165_0 := n2_
             have HL165_1 := n3_
             have HL169_0 := n4_
             have HL169_1 := n5_
             have HO168 := n6_
             have HR165_0 := n7_
             have HR165_1 := n8_
             have HR169_0 := n9_
             have HR169_1 := n10_
             have BK170 := n11_
             have HB := n12_
             clear n0_ n1_ n2_ n3_ n4_ n5_ n6_ n7_ n8_ n9_ n10_ n11_ n12_
             (try clear hb)
             (try clear hk)
             (try clear ho0)
             obtain ⟨Ao76, co76, eo76⟩ := Kd.V_slice HO168.out
             (first | subst eo76 | (injection eo76 with f1_ f2_ f3_; have f4_ := f1_.symm; have f5_ := f3_.symm; clear f1_ f2_ f3_; subst f4_; subst f5_))
             refine hK.out _ _ ⟨HS0_, HS1_, HS2_, HS3_, HS4_, HS5_⟩ (fun hHeld => ?_)
             clear hK K
             refine norm_ (a' := ?_) ?_ ?_
             rotate_left
             ·show Act.put _ (some 29) _ = _
              simp only [Act.put, List.setIfInBounds_toArray, List.set_cons_zero, List.set_cons_succ, i64_w, i32_w]
              rfl
             refine pA 12 (some 35) (bA 15 16383) HT_.out ?_
             exact norm_ (by simp only [putAll, Act.put, List.setIfInBounds_toArray, List.set_cons_zero, List.set_cons_succ]) (hCont (.slice Ao76 t166.length co76, gb170) _ ⟨hHeld, (by (with_reducible repeat (first | apply Kd.V_alloc | apply Kd.V_drewN | apply Kd.V_drew)); exact Kd.V_mono HL165_0.out (fun _ hk => ⟨hk.1.1, ⟨hk.1.2, hk.2⟩⟩)), (by (with_reducible repeat (first | apply Kd.V_alloc | apply Kd.V_drewN | apply Kd.V_drew)); exact Kd.V_mono HL165_1.out (fun _ hk => ⟨hk.1.1, ⟨hk.1.2, hk.2⟩⟩)), (by (with_reducible repeat (first | apply Kd.V_alloc | apply Kd.V_drewN | apply Kd.V_drew)); exact Kd.V_mono HL169_0.out (fun _ hk => ⟨hk.1.1, ⟨hk.1.2, hk.2⟩⟩)), (by (with_reducible repeat (first | apply Kd.V_alloc | apply Kd.V_drewN | apply Kd.V_drew)); exact Kd.V_mono HL169_1.out (fun _ hk => ⟨hk.1.1, ⟨hk.1.2, hk.2⟩⟩)), (by (with_reducible repeat (first | apply Kd.V_alloc | apply Kd.V_drewN | apply Kd.V_drew)); exact HO168.out), (by (with_reducible repeat (first | apply Kd.V_alloc | apply Kd.V_drewN | apply Kd.V_drew)); exact Kd.V_mono HO_0.out (fun _ hk => ⟨hk.1.1, ⟨hk.1.2, hk.2⟩⟩)), (by (with_reducible repeat (first | apply Kd.N_alloc | apply Kd.N_drewN | apply Kd.N_drew)); exact HO_9.out), (blkN BK170.out), GW170.out, GE170.out, (belS HB.out)⟩)
           rintro ⟨v167, gb170⟩ w77 ⟨hS_, h0_, h1_, h2_, h3_, h4_, h5_, h6_, h7_, h8_, h9_, h10_⟩
           have n0_ : Aside0 (Kd.V (Kd.int .u8) 5 w77 w.heap.size (fun k_ => (P0_ k_ ∨ w.heap.size ≤ k_) ∧ some k_ ≠ (u9 : Value).ownBlock ∧ k_ ≠ gb170) (.slice A165_0 ((rd_T49 l0 x10_1).f0).length c165_0) ((rd_T49 l0 x10_1).f0)) := ⟨h0_⟩
           have n1_ : Aside0 (Kd.V (Kd.int .u8) 5 w77 w.heap.size (fun k_ => (P0_ k_ ∨ w.heap.size ≤ k_) ∧ some k_ ≠ (u9 : Value).ownBlock ∧ k_ ≠ gb170) (.slice A165_1 ((rd_T49 l0 x10_1).f1).length c165_1) ((rd_T49 l0 x10_1).f1)) := ⟨h1_⟩
           have n2_ : Aside0 (Kd.V (Kd.int .u8) 5 w77 w.heap.size (fun k_ => (P0_ k_ ∨ w.heap.size ≤ k_) ∧ some k_ ≠ (u9 : Value).ownBlock ∧ k_ ≠ gb170) (.slice A165_0 ((rd_T49 l0 x10_1).f0).length c165_0) ((rd_T49 l0 x10_1).f0)) := ⟨h2_⟩
           have n3_ : Aside0 (Kd.V (Kd.int .u8) 5 w77 w.heap.size (fun k_ => (P0_ k_ ∨ w.heap.size ≤ k_) ∧ some k_ ≠ (u9 : Value).ownBlock ∧ k_ ≠ gb170) (.slice A165_1 ((rd_T49 l0 x10_1).f1).length c165_1) ((rd_T49 l0 x10_1).f1)) := ⟨h3_⟩
           have n4_ : Aside0 (Kd.V (Kd.int .u8) 5 w77 w.heap.size (fun k_ => (P0_ k_ ∨ w.heap.size ≤ k_) ∧ some k_ ≠ (u9 : Value).ownBlock ∧ k_ ≠ gb170) v167 t166) := ⟨h4_⟩
           have n5_ : Aside0 (Kd.V k49 49 w77 w.heap.size (fun k_ => (P0_ k_ ∨ w.heap.size ≤ k_) ∧ some k_ ≠ (u9 : Value).ownBlock ∧ k_ ≠ gb170) (.slice (some ad165) l0.length c0) l0) := ⟨h5_⟩
           have n6_ : Aside0 (Kd.N k49 49 w77 w.heap.size (fun k_ => (P0_ k_ ∨ w.heap.size ≤ k_) ∧ k_ ≠ gb170) u9 x9_1) := ⟨h6_⟩
           have n7_ : Aside0 (w77.heap[gb170]? = some (.cells #[.slice none 0 0, .slice none 0 0, .bool false] 49 (0, 0))) := ⟨h7_⟩
           have n8_ : Aside0 (w.heap.size ≤ gb170) := ⟨h8_⟩
           have n9_ : Aside0 (w.heap.size ≤ gb170) := ⟨h9_⟩
           have n10_ : Aside0 (Below w.heap.size w w77) := ⟨h10_⟩
           clear HO_0
           clear HO_9
           clear HB
           clear h0_ h1_ h2_ h3_ h4_ h5_ h6_ h7_ h8_ h9_ h10_
           have HL165_0 := n0_
           have HL165_1 := n1_
           have HL169_0 := n2_
           have HL169_1 := n3_
           have HO168 := n4_
           have HO_0 := n5_
           have HO_9 := n6_
           have BK170 := n7_
           have GW170 := n8_
           have GE170 := n9_
           have HB := n10_
           clear n0_ n1_ n2_ n3_ n4_ n5_ n6_ n7_ n8_ n9_ n10_
           have hHeld : w77.cell? (ad165.add ((x10_1).toNat * 3)) = some (.slice A165_0 ((rd_T49 l0 x10_1).f0).length c165_0) ∧ w77.cell? ⟨(ad165.add ((x10_1).toNat * 3)).block, (ad165.add ((x10_1).toNat * 3)).off + 1, none⟩ = some (.slice A165_1 ((rd_T49 l0 x10_1).f1).length c165_1) ∧ w77.cell? ⟨(ad165.add ((x10_1).toNat * 3)).block, (ad165.add ((x10_1).toNat * 3)).off + 2, none⟩ = some (.bool false) ∧ w77.cell? (ad165.add ((x10_1).toNat * 3)) = some (.slice A165_0 ((rd_T49 l0 x10_1).f0).length c165_0) ∧ w77.cell? ⟨(ad165.add ((x10_1).toNat * 3)).block, (ad165.add ((x10_1).toNat * 3)).off + 1, none⟩ = some (.slice A165_1 ((rd_T49 l0 x10_1).f1).length c165_1) ∧ w77.cell? ⟨(ad165.add ((x10_1).toNat * 3)).block, (ad165.add ((x10_1).toNat * 3)).off + 2, none⟩ = some (.bool false) := hS_
           obtain ⟨Ao78, co78, eo78⟩ := Kd.V_slice HO168.out
           (first | subst eo78 | (injection eo78 with f1_ f2_ f3_; have f4_ := f1_.symm; have f5_ := f3_.symm; clear f1_ f2_ f3_; subst f4_; subst f5_))
           refine norm_ (a' := ?_) ?_ ?_
           rotate_left
           ·simp only [putAll, Act.put, List.setIfInBounds_toArray, List.set_cons_zero, List.set_cons_succ]
            rfl
           refine one_ (i := 14) (N := none) (bA 15 32767) rfl rfl (one_of HT_.out (by kernel_rfl)) (by decide) (fun K hK => ?_)
           have hs79 : w77.cell? ⟨gb170, 0, none⟩ = some (.slice none 0 0) := (blk_cell BK170.out 0).trans rfl
           have hfs79 := blk_frozen BK170.out 0
           have hs80 : w77.cell? ⟨gb170, 1, none⟩ = some (.slice none 0 0) := (blk_cell BK170.out 1).trans rfl
           have hfs80 := blk_frozen BK170.out 1
           have hs81 : w77.cell? ⟨gb170, 2, none⟩ = some (.bool false) := (blk_cell BK170.out 2).trans rfl
           have hfs81 := blk_frozen BK170.out 2
           refine skip_ (w1 := ?_) (by rfl) rfl ?_ ?_
           rotate_left
           ·go_simp
            rfl
           have hbl_ : (ad165.add ((x10_1).toNat * 3)).block ≠ gb170 := by rw [add_block]; exact V_blk HO_0.out z49 (by decide) (by have a_ := of_eq_true p165; have b_ := of_eq_true q165; omega) (fun _ hk => hk.2.2)
           refine hK.out _ _ ⟨(far3 (by exact hbl_)).trans hHeld.1, (far3 (by exact hbl_)).trans hHeld.2.1, (far3 (by exact hbl_)).trans hHeld.2.2.1, (far3 (by exact hbl_)).trans hHeld.2.2.2.1, (far3 (by exact hbl_)).trans hHeld.2.2.2.2.1, (far3 (by exact hbl_)).trans hHeld.2.2.2.2.2⟩ (fun hHeld => ?_)
           clear hbl_
           clear hK K
           refine done_ (done_of HT_.out (by kernel_rfl)) ?_
           have n0_ : Aside0 (Kd.V k49 49 (((w77.setCell ⟨gb170, 0, none⟩ (.slice Ao78 t166.length co78)).setCell ⟨gb170, 1, none⟩ (.slice none 0 0)).setCell ⟨gb170, 2, none⟩ (.bool false)) w.heap.size (fun k_ => (P0_ k_ ∨ w.heap.size ≤ k_) ∧ some k_ ≠ (u9 : Value).ownBlock ∧ k_ ≠ gb170) (.slice (some ad165) l0.length c0) l0) := ⟨by (with_reducible repeat (first | apply Kd.V_alloc | apply Kd.V_drewN | apply Kd.V_drew)); exact Kd.V_mono (Kd.V_far (p := ⟨gb170, 2, none⟩) (Kd.V_far (p := ⟨gb170, 1, none⟩) (Kd.V_far (p := ⟨gb170, 0, none⟩) (Kd.V_mono HO_0.out (fun k_ hk => (⟨hk, hk.2.2⟩ : _ ∧ k_ ≠ gb170))) (fun _ hk => hk.2) (.slice Ao78 t166.length co78)) (fun _ hk => hk.2) (.slice none 0 0)) (fun _ hk => hk.2) (.bool false)) (fun _ hk => ⟨hk.1.1, ⟨hk.1.2.1, hk.1.2.2⟩⟩)⟩
           have n1_ : Aside0 (Kd.N k49 49 (((w77.setCell ⟨gb170, 0, none⟩ (.slice Ao78 t166.length co78)).setCell ⟨gb170, 1, none⟩ (.slice none 0 0)).setCell ⟨gb170, 2, none⟩ (.bool false)) w.heap.size (fun k_ => (P0_ k_ ∨ w.heap.size ≤ k_) ∧ k_ ≠ gb170) u9 x9_1) := ⟨by (with_reducible repeat (first | apply Kd.N_alloc | apply Kd.N_drewN | apply Kd.N_drew)); exact Kd.N_mono (Kd.N_far (p := ⟨gb170, 2, none⟩) (Kd.N_far (p := ⟨gb170, 1, none⟩) (Kd.N_far (p := ⟨gb170, 0, none⟩) (Kd.N_mono HO_9.out (fun k_ hk => (⟨hk, hk.2⟩ : _ ∧ k_ ≠ gb170))) (fun _ hk => hk.2) (.slice Ao78 t166.length co78)) (fun _ hk => hk.2) (.slice none 0 0)) (fun _ hk => hk.2) (.bool false)) (fun _ hk => ⟨hk.1.1, hk.1.2⟩)⟩
           have n2_ : Aside0 (Kd.V (Kd.int .u8) 5 (((w77.setCell ⟨gb170, 0, none⟩ (.slice Ao78 t166.length co78)).setCell ⟨gb170, 1, none⟩ (.slice none 0 0)).setCell ⟨gb170, 2, none⟩ (.bool false)) w.heap.size (fun k_ => (P0_ k_ ∨ w.heap.size ≤ k_) ∧ some k_ ≠ (u9 : Value).ownBlock ∧ k_ ≠ gb170) (.slice A165_0 ((rd_T49 l0 x10_1).f0).length c165_0) ((rd_T49 l0 x10_1).f0)) := ⟨by (with_reducible repeat (first | apply Kd.V_alloc | apply Kd.V_drewN | apply Kd.V_drew)); exact Kd.V_mono (Kd.V_far (p := ⟨gb170, 2, none⟩) (Kd.V_far (p := ⟨gb170, 1, none⟩) (Kd.V_far (p := ⟨gb170, 0, none⟩) (Kd.V_mono HL165_0.out (fun k_ hk => (⟨hk, hk.2.2⟩ : _ ∧ k_ ≠ gb170))) (fun _ hk => hk.2) (.slice Ao78 t166.length co78)) (fun _ hk => hk.2) (.slice none 0 0)) (fun _ hk => hk.2) (.bool false)) (fun _ hk => ⟨hk.1.1, ⟨hk.1.2.1, hk.1.2.2⟩⟩)⟩
           have n3_ : Aside0 (Kd.V (Kd.int .u8) 5 (((w77.setCell ⟨gb170, 0, none⟩ (.slice Ao78 t166.length co78)).setCell ⟨gb170, 1, none⟩ (.slice none 0 0)).setCell ⟨gb170, 2, none⟩ (.bool false)) w.heap.size (fun k_ => (P0_ k_ ∨ w.heap.size ≤ k_) ∧ some k_ ≠ (u9 : Value).ownBlock ∧ k_ ≠ gb170) (.slice A165_1 ((rd_T49 l0 x10_1).f1).length c165_1) ((rd_T49 l0 x10_1).f1)) := ⟨by (with_reducible repeat (first | apply Kd.V_alloc | apply Kd.V_drewN | apply Kd.V_drew)); exact Kd.V_mono (Kd.V_far (p := ⟨gb170, 2, none⟩) (Kd.V_far (p := ⟨gb170, 1, none⟩) (Kd.V_far (p := ⟨gb170, 0, none⟩) (Kd.V_mono HL165_1.out (fun k_ hk => (⟨hk, hk.2.2⟩ : _ ∧ k_ ≠ gb170))) (fun _ hk => hk.2) (.slice Ao78 t166.length co78)) (fun _ hk => hk.2) (.slice none 0 0)) (fun _ hk => hk.2) (.bool false)) (fun _ hk => ⟨hk.1.1, ⟨hk.1.2.1, hk.1.2.2⟩⟩)⟩
           have n4_ : Aside0 (Kd.V (Kd.int .u8) 5 (((w77.setCell ⟨gb170, 0, none⟩ (.slice Ao78 t166.length co78)).setCell ⟨gb170, 1, none⟩ (.slice none 0 0)).setCell ⟨gb170, 2, none⟩ (.bool false)) w.heap.size (fun k_ => (P0_ k_ ∨ w.heap.size ≤ k_) ∧ some k_ ≠ (u9 : Value).ownBlock ∧ k_ ≠ gb170) (.slice A165_0 ((rd_T49 l0 x10_1).f0).length c165_0) ((rd_T49 l0 x10_1).f0)) := ⟨by (with_reducible repeat (first | apply Kd.V_alloc | apply Kd.V_drewN | apply Kd.V_drew)); exact Kd.V_mono (Kd.V_far (p := ⟨gb170, 2, none⟩) (Kd.V_far (p := ⟨gb170, 1, none⟩) (Kd.V_far (p := ⟨gb170, 0, none⟩) (Kd.V_mono HL169_0.out (fun k_ hk => (⟨hk, hk.2.2⟩ : _ ∧ k_ ≠ gb170))) (fun _ hk => hk.2) (.slice Ao78 t166.length co78)) (fun _ hk => hk.2) (.slice none 0 0)) (fun _ hk => hk.2) (.bool false)) (fun _ hk => ⟨hk.1.1, ⟨hk.1.2.1, hk.1.2.2⟩⟩)⟩
           have n5_ : Aside0 (Kd.V (Kd.int .u8) 5 (((w77.setCell ⟨gb170, 0, none⟩ (.slice Ao78 t166.length co78)).setCell ⟨gb170, 1, none⟩ (.slice none 0 0)).setCell ⟨gb170, 2, none⟩ (.bool false)) w.heap.size (fun k_ => (P0_ k_ ∨ w.heap.size ≤ k_) ∧ some k_ ≠ (u9 : Value).ownBlock ∧ k_ ≠ gb170) (.slice A165_1 ((rd_T49 l0 x10_1).f1).length c165_1) ((rd_T49 l0 x10_1).f1)) := ⟨by (with_reducible repeat (first | apply Kd.V_alloc | apply Kd.V_drewN | apply Kd.V_drew)); exact Kd.V_mono (Kd.V_far (p := ⟨gb170, 2, none⟩) (Kd.V_far (p := ⟨gb170, 1, none⟩) (Kd.V_far (p := ⟨gb170, 0, none⟩) (Kd.V_mono HL169_1.out (fun k_ hk => (⟨hk, hk.2.2⟩ : _ ∧ k_ ≠ gb170))) (fun _ hk => hk.2) (.slice Ao78 t166.length co78)) (fun _ hk => hk.2) (.slice none 0 0)) (fun _ hk => hk.2) (.bool false)) (fun _ hk => ⟨hk.1.1, ⟨hk.1.2.1, hk.1.2.2⟩⟩)⟩
           have n6_ : Aside0 (Kd.V (Kd.int .u8) 5 (((w77.setCell ⟨gb170, 0, none⟩ (.slice Ao78 t166.length co78)).setCell ⟨gb170, 1, none⟩ (.slice none 0 0)).setCell ⟨gb170, 2, none⟩ (.bool false)) w.heap.size (fun k_ => (P0_ k_ ∨ w.heap.size ≤ k_) ∧ some k_ ≠ (u9 : Value).ownBlock ∧ k_ ≠ gb170) (.slice Ao78 t166.length co78) t166) := ⟨by (with_reducible repeat (first | apply Kd.V_alloc | apply Kd.V_drewN | apply Kd.V_drew)); exact Kd.V_mono (Kd.V_far (p := ⟨gb170, 2, none⟩) (Kd.V_far (p := ⟨gb170, 1, none⟩) (Kd.V_far (p := ⟨gb170, 0, none⟩) (Kd.V_mono HO168.out (fun k_ hk => (⟨hk, hk.2.2⟩ : _ ∧ k_ ≠ gb170))) (fun _ hk => hk.2) (.slice Ao78 t166.length co78)) (fun _ hk => hk.2) (.slice none 0 0)) (fun _ hk => hk.2) (.bool false)) (fun _ hk => ⟨hk.1.1, ⟨hk.1.2.1, hk.1.2.2⟩⟩)⟩
           have n7_ : Aside0 ((((w77.setCell ⟨gb170, 0, none⟩ (.slice Ao78 t166.length co78)).setCell ⟨gb170, 1, none⟩ (.slice none 0 0)).setCell ⟨gb170, 2, none⟩ (.bool false)).heap[gb170]? = some (.cells #[.slice Ao78 t166.length co78, .slice none 0 0, .bool false] 49 (0, 0))) := ⟨by (with_reducible repeat (first | refine blk_drewN ?_ _ | refine blk_drew ?_ | refine blk_alloc ?_ _)); refine blk_put (cs := #[.slice Ao78 t166.length co78, .slice none 0 0, .bool false]) ?_ 2 _ rfl; (with_reducible repeat (first | refine blk_drewN ?_ _ | refine blk_drew ?_ | refine blk_alloc ?_ _)); refine blk_put (cs := #[.slice Ao78 t166.length co78, .slice none 0 0, .bool false]) ?_ 1 _ rfl; (with_reducible repeat (first | refine blk_drewN ?_ _ | refine blk_drew ?_ | refine blk_alloc ?_ _)); refine blk_put (cs := #[.slice none 0 0, .slice none 0 0, .bool false]) ?_ 0 _ rfl; (with_reducible repeat (first | refine blk_drewN ?_ _ | refine blk_drew ?_ | refine blk_alloc ?_ _)); exact BK170.out⟩
           have n8_ : Aside0 (Below w.heap.size w (((w77.setCell ⟨gb170, 0, none⟩ (.slice Ao78 t166.length co78)).setCell ⟨gb170, 1, none⟩ (.slice none 0 0)).setCell ⟨gb170, 2, none⟩ (.bool false))) := ⟨(belS HB.out)⟩
           (try clear HO_0)
           (try clear HO_9)
           (try clear HL165_0)
           (try clear HL165_1)
           (try clear HL169_0)
           (try clear HL169_1)
           (try clear HO168)
           (try clear BK170)
           (try clear HB)
           generalize (((w77.setCell ⟨gb170, 0, none⟩ (.slice Ao78 t166.length co78)).setCell ⟨gb170, 1, none⟩ (.slice none 0 0)).setCell ⟨gb170, 2, none⟩ (.bool false)) = w82 at n0_ n1_ n2_ n3_ n4_ n5_ n6_ n7_ n8_ ⊢
           have HO_0 := n0_
           have HO_9 := n1_
           have HL165_0 := n2_
           have HL165_1 := n3_
           have HL169_0 := n4_
           have HL169_1 := n5_
           have HO168 := n6_
           have BK170 := n7_
           have HB := n8_
           clear n0_ n1_ n2_ n3_ n4_ n5_ n6_ n7_ n8_
           have hcz83_0 : w82.cell? ⟨gb170, 0, none⟩ = some (.slice Ao78 t166.length co78) := (blk_cell BK170.out 0).trans rfl
           have hcz83_1 : w82.cell? ⟨gb170, 1, none⟩ = some (.slice none 0 0) := (blk_cell BK170.out 1).trans rfl
           have hcz83_2 : w82.cell? ⟨gb170, 2, none⟩ = some (.bool false) := (blk_cell BK170.out 2).trans rfl
           have hfz83_0 := blk_frozen BK170.out 0
           have hfz83_1 := blk_frozen BK170.out 1
           have hfz83_2 := blk_frozen BK170.out 2
           have p187 : 0 ≤ (x10_1 : Int) := of_decide_eq_true (by first | (with_reducible assumption) | assumption)
           have q187 : x10_1 < (l0.length : Int) := of_decide_eq_true (by first | (with_reducible assumption) | assumption)
           obtain ⟨ad187, A187_0, c187_0, A187_1, c187_1, e187, hx187_0, hx187_1, hx187_2, hl187_0, hi187_0, hl187_1, hi187_1⟩ := at_T49 (Kd.V_reads' HO_0.out).2.2 x10_1 p187 q187
           (try rw [← Nbq56.out] at hx187_2)
           obtain rfl : ad165 = ad187 := (by injection e187)
           obtain ⟨ce187, hce187, hMe187, hcc187⟩ := Kd.V_get HO_0.out z49 x10_1 p187 (by first | exact q187 | exact of_decide_eq_true (by first | (with_reducible assumption) | assumption) | (have e_ := (Kd.V_reads' HO_0.out).1; omega))
           obtain ⟨ua187_0, uc187_0, ua187_1, uc187_1, rfl, ul187_0, ge187_0, ul187_1, ge187_1⟩ := k49_openF hMe187
           have hv187_0 := hcc187 0 _ rfl
           rw [Nat.add_zero] at hv187_0
           replace hv187_0 := Option.some.inj (hv187_0.symm.trans hx187_0)
           injection hv187_0 with hva_ hvn_ hvc_
           rw [hva_] at ge187_0
           rw [hvc_] at ul187_0
           have HL187_0 := Aside0.mk (show Kd.V (Kd.int .u8) 5 _ w.heap.size _ _ ((rd_T49 l0 x10_1).f0) from Kd.V_mk ul187_0 ge187_0)
           clear hva_ hvn_ hvc_ ge187_0 ul187_0
           have hv187_1 := hcc187 1 _ rfl
           rw [add_field _ _ 1 (by omega)] at hv187_1
           replace hv187_1 := Option.some.inj (hv187_1.symm.trans hx187_1)
           injection hv187_1 with hva_ hvn_ hvc_
           rw [hva_] at ge187_1
           rw [hvc_] at ul187_1
           have HL187_1 := Aside0.mk (show Kd.V (Kd.int .u8) 5 _ w.heap.size _ _ ((rd_T49 l0 x10_1).f1) from Kd.V_mk ul187_1 ge187_1)
           clear hva_ hvn_ hvc_ ge187_1 ul187_1
           clear hcc187 hce187
           have HR187_0 := Aside0.mk hi187_0
           have HC187_0 := Aside0.mk hl187_0
           clear hi187_0 hl187_0
           have HR187_1 := Aside0.mk hi187_1
           have HC187_1 := Aside0.mk hl187_1
           clear hi187_1 hl187_1
           replace p187 := eq_true p187
           replace q187 := eq_true q187
           try go_wp2_with (first | ((with_reducible refine gate_callee (f := 14) rfl ?_); refine goesL_ (some 51) rfl rfl Try.func14 (by kernel_rfl) rfl #[.slice A187_1 ((rd_T49 l0 x10_1).f1).length c187_1, .int .i64 a3] rfl argN ?_; (with_reducible refine (marigraphkeep_Cut.calls (fun k_ => ((P0_ k_ ∨ w.heap.size ≤ k_) ∧ (some k_ ≠ (u9 : Value).ownBlock ∧ k_ ≠ gb170))) _ _ ((rd_T49 l0 x10_1).f1) a3 t188 _ ?side1 A71.out).mono ?_); (case side1 => exact HL187_1.out); rintro e w84 ⟨v189, rfl, ho0, hb⟩; refine ⟨_, rfl, ?_⟩; have n0_ := Aside0.mk (Kd.V_below (by (with_reducible repeat (first | apply Kd.V_alloc | apply Kd.V_drewN | apply Kd.V_drew)); exact HO_0.out) hb); have n1_ := Aside0.mk (Kd.N_below (by (with_reducible repeat (first | apply Kd.N_alloc | apply Kd.N_drewN | apply Kd.N_drew)); exact HO_9.out) hb); have n2_ := Aside0.mk (Kd.V_below (by (with_reducible repeat (first | apply Kd.V_alloc | apply Kd.V_drewN | apply Kd.V_drew)); exact HL165_0.out) hb); have n3_ := Aside0.mk (Kd.V_below (by (with_reducible repeat (first | apply Kd.V_alloc | apply Kd.V_drewN | apply Kd.V_drew)); exact HL165_1.out) hb); have n4_ := Aside0.mk (Kd.V_below (by (with_reducible repeat (first | apply Kd.V_alloc | apply Kd.V_drewN | apply Kd.V_drew)); exact HL169_0.out) hb); have n5_ := Aside0.mk (Kd.V_below (by (with_reducible repeat (first | apply Kd.V_alloc | apply Kd.V_drewN | apply Kd.V_drew)); exact HL169_1.out) hb); have n6_ := Aside0.mk (Kd.V_below (by (with_reducible repeat (first | apply Kd.V_alloc | apply Kd.V_drewN | apply Kd.V_drew)); exact HO168.out) hb); have n7_ := Aside0.mk (Kd.V_below (by (with_reducible repeat (first | apply Kd.V_alloc | apply Kd.V_drewN | apply Kd.V_drew)); exact HL187_0.out) hb); have n8_ := Aside0.mk (Kd.V_below (by (with_reducible repeat (first | apply Kd.V_alloc | apply Kd.V_drewN | apply Kd.V_drew)); exact HL187_1.out) hb); have n9_ := Aside0.mk (Kd.V_lower (Kd.V_mono (ok' := fun k_ => (P0_ k_ ∨ w.heap.size ≤ k_) ∧ some k_ ≠ (u9 : Value).ownBlock ∧ k_ ≠ gb170) ho0 (fun k_ hk_ => ⟨Or.elim hk_ (fun hs_ => hs_.1) (fun hn_ => (.inr (Nat.le_trans (below_size (belS HB.out)) hn_))), Or.elim hk_ (fun hs_ => hs_.2.1) (fun hn_ => (Kd.fresh' (Kd.N_lt (by (with_reducible repeat (first | apply Kd.N_alloc | apply Kd.N_drewN | apply Kd.N_drew)); exact HO_9.out)) k_ hn_)), Or.elim hk_ (fun hs_ => hs_.2.2) (fun hn_ => (Kd.freshB (g := gb170) (o := .cells #[.slice Ao78 t166.length co78, .slice none 0 0, .bool false] 49 (0, 0)) (blkN BK170.out) k_ hn_))⟩)) (below_size (belS HB.out))); have n10_ := Aside0.mk (bkB BK170.out hb); have n11_ := Aside0.mk (cbN HR187_0.out hb); have n12_ := Aside0.mk (cbN HR187_1.out hb); have n13_ := Aside0.mk (below_step (belS HB.out) hb); clear HO_0; clear HO_9; clear HL165_0; clear HL165_1; clear HL169_0; clear HL169_1; clear HO168; clear HL187_0; clear HL187_1; clear BK170; clear HR187_0; clear HR187_1; clear HB; have HO_0 := n0_; have HO_9 := n1_; have HL165_0 := n2_; have HL165_1 := n3_; have HL169_0 := n4_; have HL169_1 := n5_; have HO168 := n6_; have HL187_0 := n7_; have HL187_1 := n8_; have HO190 := n9_; have BK170 := n10_; have HR187_0 := n11_; have HR187_1 := n12_; have HB := n13_; clear n0_ n1_ n2_ n3_ n4_ n5_ n6_ n7_ n8_ n9_ n10_ n11_ n12_ n13_; (try clear hb); (try clear hk); (try clear ho0); obtain ⟨Ao85, co85, eo85⟩ := Kd.V_slice HO190.out; subst eo85; have hcz86_0 : w84.cell? ⟨gb170, 0, none⟩ = some (.slice Ao78 t166.length co78) := (blk_cell BK170.out 0).trans rfl; have hcz86_1 : w84.cell? ⟨gb170, 1, none⟩ = some (.slice none 0 0) := (blk_cell BK170.out 1).trans rfl; have hcz86_2 : w84.cell? ⟨gb170, 2, none⟩ = some (.bool false) := (blk_cell BK170.out 2).trans rfl; have hfz86_0 := blk_frozen BK170.out 0; have hfz86_1 := blk_frozen BK170.out 1; have hfz86_2 := blk_frozen BK170.out 2) | ((with_reducible refine gate_store (t := 23) (p := 52) rfl ?_); refine store_event (t := 23) (p := 52) (v := ?vo_w87) (w1 := (w84.setCell ⟨gb170, 1, none⟩ (.slice Ao85 t188.length co85))) ?hg ?ho ?hn ?hr ?_; (case ho => rfl); (case hg => rfl); (case hn => rfl); (case hr => first | (go_simp; done) | (go_simp; rfl)); intro w87 hw; have n0_ : Aside0 (Kd.V k49 49 w87 w.heap.size (fun k_ => (P0_ k_ ∨ w.heap.size ≤ k_) ∧ some k_ ≠ (u9 : Value).ownBlock ∧ k_ ≠ gb170) (.slice (some ad165) l0.length c0) l0) := ⟨(by rw [hw]; exact (by (with_reducible repeat (first | apply Kd.V_alloc | apply Kd.V_drewN | apply Kd.V_drew)); exact Kd.V_mono (Kd.V_far (p := ⟨gb170, 1, none⟩) (Kd.V_mono HO_0.out (fun k_ hk => (⟨hk, hk.2.2⟩ : _ ∧ k_ ≠ gb170))) (fun _ hk => hk.2) (.slice Ao85 t188.length co85)) (fun _ hk => ⟨hk.1.1, ⟨hk.1.2.1, hk.1.2.2⟩⟩)))⟩; have n1_ : Aside0 (Kd.N k49 49 w87 w.heap.size (fun k_ => (P0_ k_ ∨ w.heap.size ≤ k_) ∧ k_ ≠ gb170) u9 x9_1) := ⟨(by rw [hw]; exact (by (with_reducible repeat (first | apply Kd.N_alloc | apply Kd.N_drewN | apply Kd.N_drew)); exact Kd.N_mono (Kd.N_far (p := ⟨gb170, 1, none⟩) (Kd.N_mono HO_9.out (fun k_ hk => (⟨hk, hk.2⟩ : _ ∧ k_ ≠ gb170))) (fun _ hk => hk.2) (.slice Ao85 t188.length co85)) (fun _ hk => ⟨hk.1.1, hk.1.2⟩)))⟩; have n2_ : Aside0 (Kd.V (Kd.int .u8) 5 w87 w.heap.size (fun k_ => (P0_ k_ ∨ w.heap.size ≤ k_) ∧ some k_ ≠ (u9 : Value).ownBlock ∧ k_ ≠ gb170) (.slice A165_0 ((rd_T49 l0 x10_1).f0).length c165_0) ((rd_T49 l0 x10_1).f0)) := ⟨(by rw [hw]; exact (by (with_reducible repeat (first | apply Kd.V_alloc | apply Kd.V_drewN | apply Kd.V_drew)); exact Kd.V_mono (Kd.V_far (p := ⟨gb170, 1, none⟩) (Kd.V_mono HL165_0.out (fun k_ hk => (⟨hk, hk.2.2⟩ : _ ∧ k_ ≠ gb170))) (fun _ hk => hk.2) (.slice Ao85 t188.length co85)) (fun _ hk => ⟨hk.1.1, ⟨hk.1.2.1, hk.1.2.2⟩⟩)))⟩; have n3_ : Aside0 (Kd.V (Kd.int .u8) 5 w87 w.heap.size (fun k_ => (P0_ k_ ∨ w.heap.size ≤ k_) ∧ some k_ ≠ (u9 : Value).ownBlock ∧ k_ ≠ gb170) (.slice A165_1 ((rd_T49 l0 x10_1).f1).length c165_1) ((rd_T49 l0 x10_1).f1)) := ⟨(by rw [hw]; exact (by (with_reducible repeat (first | apply Kd.V_alloc | apply Kd.V_drewN | apply Kd.V_drew)); exact Kd.V_mono (Kd.V_far (p := ⟨gb170, 1, none⟩) (Kd.V_mono HL165_1.out (fun k_ hk => (⟨hk, hk.2.2⟩ : _ ∧ k_ ≠ gb170))) (fun _ hk => hk.2) (.slice Ao85 t188.length co85)) (fun _ hk => ⟨hk.1.1, ⟨hk.1.2.1, hk.1.2.2⟩⟩)))⟩; have n4_ : Aside0 (Kd.V (Kd.int .u8) 5 w87 w.heap.size (fun k_ => (P0_ k_ ∨ w.heap.size ≤ k_) ∧ some k_ ≠ (u9 : Value).ownBlock ∧ k_ ≠ gb170) (.slice A165_0 ((rd_T49 l0 x10_1).f0).length c165_0) ((rd_T49 l0 x10_1).f0)) := ⟨(by rw [hw]; exact (by (with_reducible repeat (first | apply Kd.V_alloc | apply Kd.V_drewN | apply Kd.V_drew)); exact Kd.V_mono (Kd.V_far (p := ⟨gb170, 1, none⟩) (Kd.V_mono HL169_0.out (fun k_ hk => (⟨hk, hk.2.2⟩ : _ ∧ k_ ≠ gb170))) (fun _ hk => hk.2) (.slice Ao85 t188.length co85)) (fun _ hk => ⟨hk.1.1, ⟨hk.1.2.1, hk.1.2.2⟩⟩)))⟩; have n5_ : Aside0 (Kd.V (Kd.int .u8) 5 w87 w.heap.size (fun k_ => (P0_ k_ ∨ w.heap.size ≤ k_) ∧ some k_ ≠ (u9 : Value).ownBlock ∧ k_ ≠ gb170) (.slice A165_1 ((rd_T49 l0 x10_1).f1).length c165_1) ((rd_T49 l0 x10_1).f1)) := ⟨(by rw [hw]; exact (by (with_reducible repeat (first | apply Kd.V_alloc | apply Kd.V_drewN | apply Kd.V_drew)); exact Kd.V_mono (Kd.V_far (p := ⟨gb170, 1, none⟩) (Kd.V_mono HL169_1.out (fun k_ hk => (⟨hk, hk.2.2⟩ : _ ∧ k_ ≠ gb170))) (fun _ hk => hk.2) (.slice Ao85 t188.length co85)) (fun _ hk => ⟨hk.1.1, ⟨hk.1.2.1, hk.1.2.2⟩⟩)))⟩; have n6_ : Aside0 (Kd.V (Kd.int .u8) 5 w87 w.heap.size (fun k_ => (P0_ k_ ∨ w.heap.size ≤ k_) ∧ some k_ ≠ (u9 : Value).ownBlock ∧ k_ ≠ gb170) (.slice Ao78 t166.length co78) t166) := ⟨(by rw [hw]; exact (by (with_reducible repeat (first | apply Kd.V_alloc | apply Kd.V_drewN | apply Kd.V_drew)); exact Kd.V_mono (Kd.V_far (p := ⟨gb170, 1, none⟩) (Kd.V_mono HO168.out (fun k_ hk => (⟨hk, hk.2.2⟩ : _ ∧ k_ ≠ gb170))) (fun _ hk => hk.2) (.slice Ao85 t188.length co85)) (fun _ hk => ⟨hk.1.1, ⟨hk.1.2.1, hk.1.2.2⟩⟩)))⟩; have n7_ : Aside0 (Kd.V (Kd.int .u8) 5 w87 w.heap.size (fun k_ => (P0_ k_ ∨ w.heap.size ≤ k_) ∧ some k_ ≠ (u9 : Value).ownBlock ∧ k_ ≠ gb170) (.slice A187_0 ((rd_T49 l0 x10_1).f0).length c187_0) ((rd_T49 l0 x10_1).f0)) := ⟨(by rw [hw]; exact (by (with_reducible repeat (first | apply Kd.V_alloc | apply Kd.V_drewN | apply Kd.V_drew)); exact Kd.V_mono (Kd.V_far (p := ⟨gb170, 1, none⟩) (Kd.V_mono HL187_0.out (fun k_ hk => (⟨hk, hk.2.2⟩ : _ ∧ k_ ≠ gb170))) (fun _ hk => hk.2) (.slice Ao85 t188.length co85)) (fun _ hk => ⟨hk.1.1, ⟨hk.1.2.1, hk.1.2.2⟩⟩)))⟩; have n8_ : Aside0 (Kd.V (Kd.int .u8) 5 w87 w.heap.size (fun k_ => (P0_ k_ ∨ w.heap.size ≤ k_) ∧ some k_ ≠ (u9 : Value).ownBlock ∧ k_ ≠ gb170) (.slice A187_1 ((rd_T49 l0 x10_1).f1).length c187_1) ((rd_T49 l0 x10_1).f1)) := ⟨(by rw [hw]; exact (by (with_reducible repeat (first | apply Kd.V_alloc | apply Kd.V_drewN | apply Kd.V_drew)); exact Kd.V_mono (Kd.V_far (p := ⟨gb170, 1, none⟩) (Kd.V_mono HL187_1.out (fun k_ hk => (⟨hk, hk.2.2⟩ : _ ∧ k_ ≠ gb170))) (fun _ hk => hk.2) (.slice Ao85 t188.length co85)) (fun _ hk => ⟨hk.1.1, ⟨hk.1.2.1, hk.1.2.2⟩⟩)))⟩; have n9_ : Aside0 (Kd.V (Kd.int .u8) 5 w87 w.heap.size (fun k_ => (P0_ k_ ∨ w.heap.size ≤ k_) ∧ some k_ ≠ (u9 : Value).ownBlock ∧ k_ ≠ gb170) (.slice Ao85 t188.length co85) t188) := ⟨(by rw [hw]; exact (by (with_reducible repeat (first | apply Kd.V_alloc | apply Kd.V_drewN | apply Kd.V_drew)); exact Kd.V_mono (Kd.V_far (p := ⟨gb170, 1, none⟩) (Kd.V_mono HO190.out (fun k_ hk => (⟨hk, hk.2.2⟩ : _ ∧ k_ ≠ gb170))) (fun _ hk => hk.2) (.slice Ao85 t188.length co85)) (fun _ hk => ⟨hk.1.1, ⟨hk.1.2.1, hk.1.2.2⟩⟩)))⟩; have n10_ : Aside0 (w87.heap[gb170]? = some (.cells #[.slice Ao78 t166.length co78, .slice Ao85 t188.length co85, .bool false] 49 (0, 0))) := ⟨(by rw [hw]; exact (by (with_reducible repeat (first | refine blk_drewN ?_ _ | refine blk_drew ?_ | refine blk_alloc ?_ _)); refine blk_put (cs := #[.slice Ao78 t166.length co78, .slice none 0 0, .bool false]) ?_ 1 _ rfl; (with_reducible repeat (first | refine blk_drewN ?_ _ | refine blk_drew ?_ | refine blk_alloc ?_ _)); exact BK170.out))⟩; have n11_ : Aside0 (Below w.heap.size w w87) := ⟨(by rw [hw]; exact (belS HB.out))⟩; clear hw; clear HO_0; clear HO_9; clear HL165_0; clear HL165_1; clear HL169_0; clear HL169_1; clear HO168; clear HL187_0; clear HL187_1; clear HO190; clear BK170; clear HB; have HO_0 := n0_; have HO_9 := n1_; have HL165_0 := n2_; have HL165_1 := n3_; have HL169_0 := n4_; have HL169_1 := n5_; have HO168 := n6_; have HL187_0 := n7_; have HL187_1 := n8_; have HO190 := n9_; have BK170 := n10_; have HB := n11_; clear n0_ n1_ n2_ n3_ n4_ n5_ n6_ n7_ n8_ n9_ n10_ n11_; have hcz88_0 : w87.cell? ⟨gb170, 0, none⟩ = some (.slice Ao78 t166.length co78) := (blk_cell BK170.out 0).trans rfl; have hcz88_1 : w87.cell? ⟨gb170, 1, none⟩ = some (.slice Ao85 t188.length co85) := (blk_cell BK170.out 1).trans rfl; have hcz88_2 : w87.cell? ⟨gb170, 2, none⟩ = some (.bool false) := (blk_cell BK170.out 2).trans rfl; have hfz88_0 := blk_frozen BK170.out 0; have hfz88_1 := blk_frozen BK170.out 1; have hfz88_2 := blk_frozen BK170.out 2) | ((with_reducible refine gate_builtin (b := .append) (xs := #[.tmp 53, .tmp 55]) rfl ?_); at_builtin; refine Kd.N_append k49 (w0 := w) w.heap.size rfl (.tmp 53) (.tmp 55) 37 49 (.agg #[(.slice none 0 0), (.slice none 0 0), (.bool false)]) 56 rfl Try.underlying37 info49 rfl (by decide) (by omega) u9 x9_1 (⟨t166, t188, false⟩ : S49) [.slice Ao78 t166.length co78, .slice Ao85 t188.length co85, .bool false] (fun k_ => (P0_ k_ ∨ w.heap.size ≤ k_) ∧ k_ ≠ gb170) (fun k_ => ((fun k_ => (P0_ k_ ∨ w.heap.size ≤ k_) ∧ k_ ≠ gb170)) k_ ∧ some k_ ≠ (u9 : Value).ownBlock) rfl rfl ?aP (fun _ hk => hk) ?aF ?aO ?aB ?aS ?aL ?_; (case aP => exact (k49_mkF _ _ (⟨t166, t188, false⟩ : S49) (Kd.V_reads' (Kd.V_mono (ok' := (fun k_ => ((fun k_ => (P0_ k_ ∨ w.heap.size ≤ k_) ∧ k_ ≠ gb170)) k_ ∧ some k_ ≠ (u9 : Value).ownBlock)) (HO168.out) (fun k_ hk => ⟨⟨hk.1, hk.2.2⟩, hk.2.1⟩))).2.1 (Kd.V_F (Kd.V_mono (ok' := (fun k_ => ((fun k_ => (P0_ k_ ∨ w.heap.size ≤ k_) ∧ k_ ≠ gb170)) k_ ∧ some k_ ≠ (u9 : Value).ownBlock)) (HO168.out) (fun k_ hk => ⟨⟨hk.1, hk.2.2⟩, hk.2.1⟩))) (Kd.V_reads' (Kd.V_mono (ok' := (fun k_ => ((fun k_ => (P0_ k_ ∨ w.heap.size ≤ k_) ∧ k_ ≠ gb170)) k_ ∧ some k_ ≠ (u9 : Value).ownBlock)) (HO190.out) (fun k_ hk => ⟨⟨hk.1, hk.2.2⟩, hk.2.1⟩))).2.1 (Kd.V_F (Kd.V_mono (ok' := (fun k_ => ((fun k_ => (P0_ k_ ∨ w.heap.size ≤ k_) ∧ k_ ≠ gb170)) k_ ∧ some k_ ≠ (u9 : Value).ownBlock)) (HO190.out) (fun k_ hk => ⟨⟨hk.1, hk.2.2⟩, hk.2.1⟩))))); (case aB => exact (belS HB.out)); (case aF => exact (fun k_ hk => ⟨(.inr (Nat.le_trans (below_size (belS HB.out)) hk)), Kd.freshB (g := gb170) (o := .cells #[.slice Ao78 t166.length co78, .slice Ao85 t188.length co85, .bool false] 49 (0, 0)) (blkN BK170.out) k_ hk⟩)); (case aO => exact (by (with_reducible repeat (first | apply Kd.N_alloc | apply Kd.N_drewN | apply Kd.N_drew)); exact HO_9.out)); (case aS => exact (below_size (belS HB.out))); (case aL => have := LMc72.out; omega); intro v192 w89 ho hb hg hat; rw [← Ny191.out] at ho; have n0_ := Aside0.mk (Kd.V_afterv (ok := (fun k_ => (P0_ k_ ∨ w.heap.size ≤ k_) ∧ k_ ≠ gb170)) (by (with_reducible repeat (first | apply Kd.V_alloc | apply Kd.V_drewN | apply Kd.V_drew)); exact Kd.V_mono HO_0.out (fun _ hk => ⟨⟨hk.1, hk.2.2⟩, hk.2.1⟩)) hg hat); have n1_ := Aside0.mk (Kd.V_afterv (ok := (fun k_ => (P0_ k_ ∨ w.heap.size ≤ k_) ∧ k_ ≠ gb170)) (by (with_reducible repeat (first | apply Kd.V_alloc | apply Kd.V_drewN | apply Kd.V_drew)); exact Kd.V_mono HL165_0.out (fun _ hk => ⟨⟨hk.1, hk.2.2⟩, hk.2.1⟩)) hg hat); have n2_ := Aside0.mk (Kd.V_afterv (ok := (fun k_ => (P0_ k_ ∨ w.heap.size ≤ k_) ∧ k_ ≠ gb170)) (by (with_reducible repeat (first | apply Kd.V_alloc | apply Kd.V_drewN | apply Kd.V_drew)); exact Kd.V_mono HL165_1.out (fun _ hk => ⟨⟨hk.1, hk.2.2⟩, hk.2.1⟩)) hg hat); have n3_ := Aside0.mk (Kd.V_afterv (ok := (fun k_ => (P0_ k_ ∨ w.heap.size ≤ k_) ∧ k_ ≠ gb170)) (by (with_reducible repeat (first | apply Kd.V_alloc | apply Kd.V_drewN | apply Kd.V_drew)); exact Kd.V_mono HL169_0.out (fun _ hk => ⟨⟨hk.1, hk.2.2⟩, hk.2.1⟩)) hg hat); have n4_ := Aside0.mk (Kd.V_afterv (ok := (fun k_ => (P0_ k_ ∨ w.heap.size ≤ k_) ∧ k_ ≠ gb170)) (by (with_reducible repeat (first | apply Kd.V_alloc | apply Kd.V_drewN | apply Kd.V_drew)); exact Kd.V_mono HL169_1.out (fun _ hk => ⟨⟨hk.1, hk.2.2⟩, hk.2.1⟩)) hg hat); have n5_ := Aside0.mk (Kd.V_afterv (ok := (fun k_ => (P0_ k_ ∨ w.heap.size ≤ k_) ∧ k_ ≠ gb170)) (by (with_reducible repeat (first | apply Kd.V_alloc | apply Kd.V_drewN | apply Kd.V_drew)); exact Kd.V_mono HO168.out (fun _ hk => ⟨⟨hk.1, hk.2.2⟩, hk.2.1⟩)) hg hat); have n6_ := Aside0.mk (blk_grown (g := gb170) (o := .cells #[.slice Ao78 t166.length co78, .slice Ao85 t188.length co85, .bool false] 49 (0, 0)) (blkN BK170.out) hg (Kd.N_away HO_9.out (fun _ hk => hk.2))); have n7_ := Aside0.mk (Kd.V_afterv (ok := (fun k_ => (P0_ k_ ∨ w.heap.size ≤ k_) ∧ k_ ≠ gb170)) (by (with_reducible repeat (first | apply Kd.V_alloc | apply Kd.V_drewN | apply Kd.V_drew)); exact Kd.V_mono HL187_0.out (fun _ hk => ⟨⟨hk.1, hk.2.2⟩, hk.2.1⟩)) hg hat); have n8_ := Aside0.mk (Kd.V_afterv (ok := (fun k_ => (P0_ k_ ∨ w.heap.size ≤ k_) ∧ k_ ≠ gb170)) (by (with_reducible repeat (first | apply Kd.V_alloc | apply Kd.V_drewN | apply Kd.V_drew)); exact Kd.V_mono HL187_1.out (fun _ hk => ⟨⟨hk.1, hk.2.2⟩, hk.2.1⟩)) hg hat); have n9_ := Aside0.mk (Kd.V_afterv (ok := (fun k_ => (P0_ k_ ∨ w.heap.size ≤ k_) ∧ k_ ≠ gb170)) (by (with_reducible repeat (first | apply Kd.V_alloc | apply Kd.V_drewN | apply Kd.V_drew)); exact Kd.V_mono HO190.out (fun _ hk => ⟨⟨hk.1, hk.2.2⟩, hk.2.1⟩)) hg hat); have n10_ := Aside0.mk (hb); have n11_ := Aside0.mk (ho); clear HO_0; clear HL165_0; clear HL165_1; clear HL169_0; clear HL169_1; clear HO168; clear BK170; clear HL187_0; clear HL187_1; clear HO190; clear HB; clear HO_9; have HO_0 := n0_; have HL165_0 := n1_; have HL165_1 := n2_; have HL169_0 := n3_; have HL169_1 := n4_; have HO168 := n5_; have BK170 := n6_; have HL187_0 := n7_; have HL187_1 := n8_; have HO190 := n9_; have HB := n10_; have HO193 := n11_; clear n0_ n1_ n2_ n3_ n4_ n5_ n6_ n7_ n8_ n9_ n10_ n11_; clear ho hb hg hat))
           go_roundg kj4
           case measure => have := HK1.out; have := HJ4.out; omega
           case rel => exact ⟨(y191), (wrap64 (x10_1 + 1)), (by first | rfl | (simp; done) | (simp [*]; done)), H', ⟨by have := HK1.out; have := HJ4.out; omega⟩, ⟨by (with_reducible repeat (first | apply Kd.V_alloc | apply Kd.V_drewN | apply Kd.V_drew)); exact Kd.V_mono HO_0.out (fun _ hk => ⟨hk.1.1, hk.2⟩)⟩, ⟨by (with_reducible repeat (first | apply Kd.N_alloc | apply Kd.N_drewN | apply Kd.N_drew)); exact Kd.N_mono HO193.out (fun _ hk => hk.1)⟩, ⟨(belS HB.out)⟩⟩
          ·rw [if_neg c72] at H
           exact absurd H (by simp)
       ·rw [if_neg c9] at H
        exact absurd H (by simp)
      ·rw [if_neg c8] at H
       exact absurd H (by simp)
     ·replace c7 := Bool.eq_false_iff.mpr c7
      subst c7
      have H1 : (some x9_1) = some r := by rw [if_neg (show ¬ (false = true) by decide)] at H; exact H
      clear H
      have H := H1
      clear H1
      obtain rfl := Option.some.inj H
      go_wp2
      go_ret
      exact ⟨_, by first | rfl | (simp [errW_none, errW_some] <;> rfl) | (simp [*, errW_none, errW_some] <;> rfl), by (with_reducible repeat (first | apply Kd.N_alloc | apply Kd.N_drewN | apply Kd.N_drew)); exact HO_9.out, (belN HB.out)⟩

end Go.Proofs.Ytmimfnangdabmaa.PFrameBatches

/- The walk of the Go functions that a law reaches, told as plain functions; a program of this session has written it. No condition beyond the statement's own. -/
import Derived.Test.YtmimfnangdabmaaPFrameBackx0
import Derived.Test.YtmimfnangdabmaaPFrameBackx1
namespace Go.Proofs.Ytmimfnangdabmaa.PFrameBack
open Go.RowKit Go.Proofs.YtmimfnangdabmaaW.PrintWords Go.Proofs.YtmimfnangdabmaaW.PrintLast Go.Proofs.YtmimfnangdabmaaW.PrintMore
attribute [local go_sem] max2_int min2_int max_two min_two max_three min_three max_four min_four   -- for this text's walks alone
set_option linter.unusedVariables false
set_option linter.unusedSimpArgs false

/-- A shared row that has an element lies in a block of its own footprint: in a world without that block it could not be read. -/
theorem V_blk {α : Type} {d : Kd α} {e base n c : Nat} {ok : Nat → Prop} {W : World} {ad : Addr} {g : Nat} {xs : List α} (h : Kd.V d e W base ok (.slice (some ad) n c) xs) (z : α) (hz : 0 < d.sz) (hn : 0 < n) (hok : ∀ k, ok k → k ≠ g) : ad.block ≠ g := by
  rintro rfl
  have hC : Kd.C d { W with heap := W.heap.setIfInBounds ad.block (.cells #[] 0 (0, 0)) } (some ad) n xs := Kd.V_F h _ (fun k hk _ => Array.getElem?_setIfInBounds_ne (Ne.symm (hok k hk)))
  obtain ⟨ad', cs, he, hl, _, hc⟩ := Kd.C_get hC z 0 (by omega) (by omega)
  injection he with he
  subst he
  cases cs with
  | nil => simp at hl; omega
  | cons u l =>
   have hu := hc 0 u rfl
   by_cases hb : ad.block < W.heap.size
   · simp [World.cell?, add_block, Array.getElem?_setIfInBounds, hb] at hu
   · simp [World.cell?, add_block, Array.getElem?_setIfInBounds, hb] at hu
theorem far3 {W : World} {g i j k : Nat} {u v z : Value} {a : Addr} (h : a.block ≠ g) : (((W.setCell ⟨g, i, none⟩ u).setCell ⟨g, j, none⟩ v).setCell ⟨g, k, none⟩ z).cell? a = W.cell? a := (cell_far (p := ⟨g, k, none⟩) h z).trans ((cell_far (p := ⟨g, j, none⟩) h v).trans (cell_far (p := ⟨g, i, none⟩) h u))
/-! ### marigraphkeep_Entries: function 21 -/
mutual
def marigraphkeep_Entries.l0 : Nat → List (S49) → Int → Int → Int → List (S49) → Int → Option ((List (S49)))
 | 0, _, _, _, _, _, _ => none
 | k + 1, x0, x1, x2, x3, x9, x10 => if x10 < (x0.length : Int) then (marigraphkeep_Entries.j1 k x0 x1 x2 x3 x9 x10 (decide (x10 < x1))) else (marigraphkeep_Entries.j1 k x0 x1 x2 x3 x9 x10 false)
def marigraphkeep_Entries.j1 : Nat → List (S49) → Int → Int → Int → List (S49) → Int → Bool → Option ((List (S49)))
 | 0, _, _, _, _, _, _, _ => none
 | k + 1, x0, x1, x2, x3, x9, x10, x20 => if x20 = true then (if 0 ≤ x10 then (if x10 < (x0.length : Int) then ((marigraphkeep_Cut.f ((rd_T49 x0 x10).f0) x2).bind fun t173 => (if (t173.length : Int) = 0 then ((some (([107] : List Int) : List Int)).bind fun y178 => (if ((rd_T49 x0 x10).f2 = true) then (if x9.length < 2513169434916 then (marigraphkeep_Entries.l0 k x0 x1 x2 x3 (x9 ++ [(⟨y178, ([] : List Int), (rd_T49 x0 x10).f2⟩ : S49)]) (wrap64 (x10 + 1))) else (none)) else ((marigraphkeep_Cut.f ((rd_T49 x0 x10).f1) x3).bind fun t185 => (if x9.length < 2513169434916 then (marigraphkeep_Entries.l0 k x0 x1 x2 x3 (x9 ++ [(⟨y178, t185, (rd_T49 x0 x10).f2⟩ : S49)]) (wrap64 (x10 + 1))) else (none))))) else (if ((rd_T49 x0 x10).f2 = true) then (if x9.length < 2513169434916 then (marigraphkeep_Entries.l0 k x0 x1 x2 x3 (x9 ++ [(⟨t173, ([] : List Int), (rd_T49 x0 x10).f2⟩ : S49)]) (wrap64 (x10 + 1))) else (none)) else ((marigraphkeep_Cut.f ((rd_T49 x0 x10).f1) x3).bind fun t195 => (if x9.length < 2513169434916 then (marigraphkeep_Entries.l0 k x0 x1 x2 x3 (x9 ++ [(⟨t173, t195, (rd_T49 x0 x10).f2⟩ : S49)]) (wrap64 (x10 + 1))) else (none)))))) else (none)) else (none)) else (some x9)
end
def marigraphkeep_Entries.f (k : Nat) (l0 : List (S49)) (a1 : Int) (a2 : Int) (a3 : Int) : Option ((List (S49))) := marigraphkeep_Entries.l0 k l0 a1 a2 a3 ([] : List (S49)) 0
theorem marigraphkeep_Entries.mono_l : ∀ k, (∀ y0 y1 y2 y3 y4 y5, LeO (marigraphkeep_Entries.l0 k y0 y1 y2 y3 y4 y5) (marigraphkeep_Entries.l0 (k + 1) y0 y1 y2 y3 y4 y5)) ∧ (∀ y0 y1 y2 y3 y4 y5 y6, LeO (marigraphkeep_Entries.j1 k y0 y1 y2 y3 y4 y5 y6) (marigraphkeep_Entries.j1 (k + 1) y0 y1 y2 y3 y4 y5 y6))
 | 0 => ⟨fun _ _ _ _ _ _ r h => by simp [marigraphkeep_Entries.l0] at h, fun _ _ _ _ _ _ _ r h => by simp [marigraphkeep_Entries.j1] at h⟩
 | k + 1 => by
  obtain ⟨ih0, ih1⟩ := marigraphkeep_Entries.mono_l k
  refine ⟨?_, ?_⟩
  ·intro y0 y1 y2 y3 y4 y5
   unfold marigraphkeep_Entries.l0
   repeat' first
   | (with_reducible exact ih0 _ _ _ _ _ _)
   | (with_reducible exact ih1 _ _ _ _ _ _ _)
   | (with_reducible exact LeO.refl _)
   | (with_reducible exact LeO.none _)
   | (with_reducible refine LeO.ite ?_ ?_)
   | (with_reducible refine LeO.bind ?_ (fun _ => ?_))
   | exact ih0 _ _ _ _ _ _
   | exact ih1 _ _ _ _ _ _ _
   | exact LeO.none _
   | refine LeO.ite ?_ ?_
   | refine LeO.bind ?_ (fun _ => ?_)
  ·intro y0 y1 y2 y3 y4 y5 y6
   unfold marigraphkeep_Entries.j1
   repeat' first
   | (with_reducible exact ih0 _ _ _ _ _ _)
   | (with_reducible exact ih1 _ _ _ _ _ _ _)
   | (with_reducible exact LeO.refl _)
   | (with_reducible exact LeO.none _)
   | (with_reducible refine LeO.ite ?_ ?_)
   | (with_reducible refine LeO.bind ?_ (fun _ => ?_))
   | exact ih0 _ _ _ _ _ _
   | exact ih1 _ _ _ _ _ _ _
   | exact LeO.none _
   | refine LeO.ite ?_ ?_
   | refine LeO.bind ?_ (fun _ => ?_)
theorem marigraphkeep_Entries.mono : ∀ a0 a1 a2 a3 k, LeO (marigraphkeep_Entries.f k a0 a1 a2 a3) (marigraphkeep_Entries.f (k + 1) a0 a1 a2 a3) := by
 intro a0 a1 a2 a3 k
 obtain ⟨ih0, ih1⟩ := marigraphkeep_Entries.mono_l k
 unfold marigraphkeep_Entries.f
 repeat' first
   | (with_reducible exact ih0 _ _ _ _ _ _)
   | (with_reducible exact ih1 _ _ _ _ _ _ _)
   | (with_reducible exact LeO.refl _)
   | (with_reducible exact LeO.none _)
   | (with_reducible refine LeO.ite ?_ ?_)
   | (with_reducible refine LeO.bind ?_ (fun _ => ?_))
   | exact ih0 _ _ _ _ _ _
   | exact ih1 _ _ _ _ _ _ _
   | exact LeO.none _
   | refine LeO.ite ?_ ?_
   | refine LeO.bind ?_ (fun _ => ?_)
def marigraphkeep_Entries.T5 : Bool × List (List Nat × List Nat) := (true, [([], []), ([], []), ([0, 1], [0, 1]), ([2], [2]), ([3], [3]), ([], []), ([4, 5], [4, 5]), ([], []), ([], []), ([7, 8], [7, 8]), ([9], [9]), ([10], [10]), ([6, 11], [6, 11]), ([], []), ([13, 12, 6, 0, 1, 2, 3, 4, 5, 6, 7, 8, 9, 10, 11, 12, 13], [12, 13])])
def marigraphkeep_Entries.B5 : List Nat := [0, 0, 3, 7, 15, 0, 63, 0, 0, 384, 896, 1920, 4095, 0, 16383]
theorem marigraphkeep_Entries.tab5 : rtab .any (opsOf Try.f21 5) = marigraphkeep_Entries.T5 := by kernel_rfl
theorem marigraphkeep_Entries.bits5 : waitsOk marigraphkeep_Entries.T5.2 marigraphkeep_Entries.B5 = true := by kernel_rfl
set_option maxHeartbeats 8000000 in
set_option maxRecDepth 100000 in
theorem marigraphkeep_Entries.calls (k : Nat) (P0_ : Nat → Prop) (A0 : Option Addr) (c0 : Nat) (l0 : List (S49)) (a1 : Int) (a2 : Int) (a3 : Int) (r : List (S49)) (w : World) (hs0 : Kd.V k49 49 w w.heap.size (fun k_ => P0_ k_) (.slice A0 l0.length c0) l0) (h : marigraphkeep_Entries.f k l0 a1 a2 a3 = some r) :
  Calls Try.prog 21 #[.slice A0 l0.length c0, .int .i64 a1, .int .i64 a2, .int .i64 a3] w fun e w' => ∃ v0_ : Value, e = .returned (v0_) ∧ Kd.N k49 49 w' w.heap.size (fun k_ => (P0_ k_ ∨ w.heap.size ≤ k_)) v0_ r ∧ Below w.heap.size w w' := by
 have hu49 := Try.underlying49
 have HO0 := Aside0.mk (show Kd.V k49 49 w w.heap.size (fun k_ => (P0_ k_ ∨ w.heap.size ≤ k_)) (.slice A0 l0.length c0) l0 from Kd.V_mono hs0 (fun k_ hk => .inl hk))
 have HB := Aside0.mk (Below.refl w.heap.size w)
 have H : (marigraphkeep_Entries.l0 k l0 a1 a2 a3 ([] : List (S49)) 0) = some r := h
 clear h
 have H' := Aside0.mk H
 clear H
 go_enter Try.func21, Try.ntmps21
 go_wp2
 go_loopg [9, 10] k (fun kq v9 v10 w' => ∃ (x9_1 : List (S49)) (x10_1 : Int), v10 = .int .i64 x10_1 ∧ Aside0 (marigraphkeep_Entries.l0 kq l0 a1 a2 a3 x9_1 x10_1 = some r) ∧ Aside0 (kq ≤ k) ∧ Aside0 (Kd.V k49 49 w' w.heap.size (fun k_ => (P0_ k_ ∨ w.heap.size ≤ k_) ∧ some k_ ≠ (v9 : Value).ownBlock) (.slice A0 l0.length c0) l0) ∧ Aside0 (Kd.N k49 49 w' w.heap.size (fun k_ => (P0_ k_ ∨ w.heap.size ≤ k_)) v9 x9_1) ∧ Aside0 (Below w.heap.size w w'))
 case atStart => exact ⟨(([] : List (S49))), (0), (by first | rfl | (simp; done) | (simp [*]; done)), H', ⟨Nat.le_refl _⟩, ⟨by (with_reducible repeat (first | apply Kd.V_alloc | apply Kd.V_drewN | apply Kd.V_drew)); exact Kd.V_mono HO0.out (fun _ hk => ⟨hk, (by simp [Value.ownBlock])⟩)⟩, ⟨by first | exact Kd.S_nil _ _ _ _ _ | exact Kd.N_nil _ _ _ _ _ | exact Kd.V_nil _ _ _ _ _ | exact Kd.Q_nil _ _ _ _ _ | exact Kd.R_nil _ _ _ _ _⟩, ⟨(belN HB.out)⟩⟩
 case round =>
  clear H'
  try clear c2
  try clear p2
  obtain ⟨x9_1, x10_1, rfl, HA, HK1, HO_0, HO_9, HB⟩ := hrel
  cases gk with
  | zero => exact absurd HA.out (by simp [marigraphkeep_Entries.l0])
  | succ k1 =>
   have H := HA.out
   clear HA
   simp only [marigraphkeep_Entries.l0] at H
   have HC5 := Aside0.mk H
   clear H
   go_upto_region 3 with (fail)
   go_cut [20] (fun v20 wc => ∃ (kq : Nat) (x20_4 : Bool), v20 = .bool x20_4 ∧ Aside0 (marigraphkeep_Entries.j1 kq l0 a1 a2 a3 x9_1 x10_1 x20_4 = some r) ∧ Aside0 (kq ≤ k1) ∧ Aside0 (Kd.V k49 49 wc w.heap.size (fun k_ => (P0_ k_ ∨ w.heap.size ≤ k_) ∧ some k_ ≠ (u9 : Value).ownBlock) (.slice A0 l0.length c0) l0) ∧ Aside0 (Kd.N k49 49 wc w.heap.size (fun k_ => (P0_ k_ ∨ w.heap.size ≤ k_)) u9 x9_1) ∧ Aside0 (Below w.heap.size w wc))
   case first =>
    have H := HC5.out
    clear HC5
    by_cases c6 : x10_1 < (l0.length : Int)
    ·rw [if_pos c6] at H
     have c6b0 : decide (x10_1 < (l0.length : Int)) = true := decide_eq_true c6
     clear c6
     (first | rw [c6b0] | rw [c6b1] | (simp only [i64_w, i32_w]; rw [c6b0]) | skip)
     have H' := Aside0.mk H
     clear H
     go_wp2
     go_meet
     case rel => exact ⟨_, (decide (x10_1 < a1)), (by first | rfl | (simp; done) | (simp [*]; done)), H', ⟨by have := HK1.out; first | omega | exact Nat.le_refl _⟩, ⟨by (with_reducible repeat (first | apply Kd.V_alloc | apply Kd.V_drewN | apply Kd.V_drew)); exact HO_0.out⟩, ⟨by (with_reducible repeat (first | apply Kd.N_alloc | apply Kd.N_drewN | apply Kd.N_drew)); exact HO_9.out⟩, ⟨(belN HB.out)⟩⟩
    ·rw [if_neg c6] at H
     have c6b0 : decide (x10_1 < (l0.length : Int)) = false := decide_eq_false c6
     clear c6
     (first | rw [c6b0] | rw [c6b1] | (simp only [i64_w, i32_w]; rw [c6b0]) | skip)
     have H' := Aside0.mk H
     clear H
     go_wp2
     go_meet
     case rel => exact ⟨_, (false), (by first | rfl | (simp; done) | (simp [*]; done)), H', ⟨by have := HK1.out; first | omega | exact Nat.le_refl _⟩, ⟨by (with_reducible repeat (first | apply Kd.V_alloc | apply Kd.V_drewN | apply Kd.V_drew)); exact HO_0.out⟩, ⟨by (with_reducible repeat (first | apply Kd.N_alloc | apply Kd.N_drewN | apply Kd.N_drew)); exact HO_9.out⟩, ⟨(belN HB.out)⟩⟩
   case rest =>
    clear HC5
    try clear c2
    try clear p2
    try clear c6
    try clear c6b0
    try clear p2
    obtain ⟨kq, x20_4, rfl, HA, HJ4, HO_0, HO_9, HB⟩ := hcut
    cases kq with
    | zero => exact absurd HA.out (by simp [marigraphkeep_Entries.j1])
    | succ kj4 =>
     have H := HA.out
     clear HA
     simp only [marigraphkeep_Entries.j1] at H
     by_cases c7 : x20_4 = true
     ·subst c7
      have H1 : (if 0 ≤ x10_1 then (if x10_1 < (l0.length : Int) then ((marigraphkeep_Cut.f ((rd_T49 l0 x10_1).f0) a2).bind fun t173 => (if (t173.length : Int) = 0 then ((some (([107] : List Int) : List Int)).bind fun y178 => (if ((rd_T49 l0 x10_1).f2 = true) then (if x9_1.length < 2513169434916 then (marigraphkeep_Entries.l0 kj4 l0 a1 a2 a3 (x9_1 ++ [(⟨y178, ([] : List Int), (rd_T49 l0 x10_1).f2⟩ : S49)]) (wrap64 (x10_1 + 1))) else (none)) else ((marigraphkeep_Cut.f ((rd_T49 l0 x10_1).f1) a3).bind fun t185 => (if x9_1.length < 2513169434916 then (marigraphkeep_Entries.l0 kj4 l0 a1 a2 a3 (x9_1 ++ [(⟨y178, t185, (rd_T49 l0 x10_1).f2⟩ : S49)]) (wrap64 (x10_1 + 1))) else (none))))) else (if ((rd_T49 l0 x10_1).f2 = true) then (if x9_1.length < 2513169434916 then (marigraphkeep_Entries.l0 kj4 l0 a1 a2 a3 (x9_1 ++ [(⟨t173, ([] : List Int), (rd_T49 l0 x10_1).f2⟩ : S49)]) (wrap64 (x10_1 + 1))) else (none)) else ((marigraphkeep_Cut.f ((rd_T49 l0 x10_1).f1) a3).bind fun t195 => (if x9_1.length < 2513169434916 then (marigraphkeep_Entries.l0 kj4 l0 a1 a2 a3 (x9_1 ++ [(⟨t173, t195, (rd_T49 l0 x10_1).f2⟩ : S49)]) (wrap64 (x10_1 + 1))) else (none)))))) else (none)) else (none)) = some r := by rw [if_pos rfl] at H; exact H
      clear H
      have H := H1
      clear H1
      by_cases c8 : 0 ≤ x10_1
      ·rw [if_pos c8] at H
       have c8b0 : decide (0 ≤ x10_1) = true := decide_eq_true c8
       clear c8
       by_cases c9 : x10_1 < (l0.length : Int)
       ·rw [if_pos c9] at H
        have c9b0 : decide (x10_1 < (l0.length : Int)) = true := decide_eq_true c9
        clear c9
        replace H := Option.bind_eq_some_iff.mp H
        obtain ⟨t173, A100, H⟩ := H
        replace H : (if (t173.length : Int) = 0 then ((some (([107] : List Int) : List Int)).bind fun y178 => (if ((rd_T49 l0 x10_1).f2 = true) then (if x9_1.length < 2513169434916 then (marigraphkeep_Entries.l0 kj4 l0 a1 a2 a3 (x9_1 ++ [(⟨y178, ([] : List Int), (rd_T49 l0 x10_1).f2⟩ : S49)]) (wrap64 (x10_1 + 1))) else (none)) else ((marigraphkeep_Cut.f ((rd_T49 l0 x10_1).f1) a3).bind fun t185 => (if x9_1.length < 2513169434916 then (marigraphkeep_Entries.l0 kj4 l0 a1 a2 a3 (x9_1 ++ [(⟨y178, t185, (rd_T49 l0 x10_1).f2⟩ : S49)]) (wrap64 (x10_1 + 1))) else (none))))) else (if ((rd_T49 l0 x10_1).f2 = true) then (if x9_1.length < 2513169434916 then (marigraphkeep_Entries.l0 kj4 l0 a1 a2 a3 (x9_1 ++ [(⟨t173, ([] : List Int), (rd_T49 l0 x10_1).f2⟩ : S49)]) (wrap64 (x10_1 + 1))) else (none)) else ((marigraphkeep_Cut.f ((rd_T49 l0 x10_1).f1) a3).bind fun t195 => (if x9_1.length < 2513169434916 then (marigraphkeep_Entries.l0 kj4 l0 a1 a2 a3 (x9_1 ++ [(⟨t173, t195, (rd_T49 l0 x10_1).f2⟩ : S49)]) (wrap64 (x10_1 + 1))) else (none))))) = some r := H
        have A10 := Aside0.mk A100
        clear A100
        by_cases c11 : (t173.length : Int) = 0
        ·rw [if_pos c11] at H
         have c11b0 : ((t173.length : Int) == 0) = true := beq_iff_eq.mpr c11
         have c11b1 : ((t173.length : Int) != 0) = false := bne_eq_false_iff_eq.mpr c11
         clear c11
         obtain ⟨y178, hy178⟩ : ∃ y_ : List Int, y_ = (([107] : List Int)) := ⟨_, rfl⟩
         replace H : (if ((rd_T49 l0 x10_1).f2 = true) then (if x9_1.length < 2513169434916 then (marigraphkeep_Entries.l0 kj4 l0 a1 a2 a3 (x9_1 ++ [(⟨y178, ([] : List Int), (rd_T49 l0 x10_1).f2⟩ : S49)]) (wrap64 (x10_1 + 1))) else (none)) else ((marigraphkeep_Cut.f ((rd_T49 l0 x10_1).f1) a3).bind fun t185 => (if x9_1.length < 2513169434916 then (marigraphkeep_Entries.l0 kj4 l0 a1 a2 a3 (x9_1 ++ [(⟨y178, t185, (rd_T49 l0 x10_1).f2⟩ : S49)]) (wrap64 (x10_1 + 1))) else (none)))) = some r := by first | (rw [hy178]; with_reducible exact H) | (have H2_ := (Option.bind_some _ _).symm.trans H; rw [hy178]; with_reducible exact H2_) | (have H2_ := (Option.bind_some _ _).symm.trans H; with_reducible exact H2_) | with_reducible exact H | (rw [hy178]; exact H) | exact H
         have Ny178 := Aside0.mk hy178
         clear hy178
         obtain ⟨bq12, hbq12⟩ : ∃ b_ : Bool, b_ = ((rd_T49 l0 x10_1).f2) := ⟨_, rfl⟩
         replace H : (if (bq12 = true) then (if x9_1.length < 2513169434916 then (marigraphkeep_Entries.l0 kj4 l0 a1 a2 a3 (x9_1 ++ [(⟨y178, ([] : List Int), bq12⟩ : S49)]) (wrap64 (x10_1 + 1))) else (none)) else ((marigraphkeep_Cut.f ((rd_T49 l0 x10_1).f1) a3).bind fun t185 => (if x9_1.length < 2513169434916 then (marigraphkeep_Entries.l0 kj4 l0 a1 a2 a3 (x9_1 ++ [(⟨y178, t185, bq12⟩ : S49)]) (wrap64 (x10_1 + 1))) else (none)))) = some r := by rw [← hbq12] at H; exact H
         have Nbq12 := Aside0.mk hbq12
         clear hbq12
         by_cases c13 : (bq12 = true)
         ·subst c13
          have H1 : (if x9_1.length < 2513169434916 then (marigraphkeep_Entries.l0 kj4 l0 a1 a2 a3 (x9_1 ++ [(⟨y178, ([] : List Int), true⟩ : S49)]) (wrap64 (x10_1 + 1))) else (none)) = some r := by rw [if_pos rfl] at H; exact H
          clear H
          have H := H1
          clear H1
          by_cases c14 : x9_1.length < 2513169434916
          ·rw [if_pos c14] at H
           have LMc14 := Aside0.mk c14
           clear c14
           obtain ⟨y181, hy181⟩ : ∃ y_ : List (S49), y_ = (x9_1 ++ [(⟨y178, ([] : List Int), true⟩ : S49)]) := ⟨_, rfl⟩
           replace H : (marigraphkeep_Entries.l0 kj4 l0 a1 a2 a3 y181 (wrap64 (x10_1 + 1))) = some r := by first | (rw [hy181]; with_reducible exact H) | (have H2_ := (Option.bind_some _ _).symm.trans H; rw [hy181]; with_reducible exact H2_) | (have H2_ := (Option.bind_some _ _).symm.trans H; with_reducible exact H2_) | with_reducible exact H | (rw [hy181]; exact H) | exact H
           have Ny181 := Aside0.mk hy181
           clear hy181
           have H' := Aside0.mk H
           clear H
           try go_wp2
           have n0_ := Aside0.mk (Kd.V_drew HO_0.out)
           have n1_ := Aside0.mk (Kd.N_drew HO_9.out)
           have n2_ := Aside0.mk (below_drew1 HB.out)
           clear HO_0
           clear HO_9
           clear HB
           have HO_0 := n0_
           have HO_9 := n1_
           have HB := n2_
           clear n0_ n1_ n2_
           have p172 : 0 ≤ (x10_1 : Int) := of_decide_eq_true (by first | (with_reducible assumption) | assumption)
           have q172 : x10_1 < (l0.length : Int) := of_decide_eq_true (by first | (with_reducible assumption) | assumption)
           obtain ⟨ad172, A172_0, c172_0, A172_1, c172_1, e172, hx172_0, hx172_1, hx172_2, hl172_0, hi172_0, hl172_1, hi172_1⟩ := at_T49 (Kd.V_reads' HO_0.out).2.2 x10_1 p172 q172
           (try rw [← Nbq12.out] at hx172_2)
           cases e172
           obtain ⟨ce172, hce172, hMe172, hcc172⟩ := Kd.V_get HO_0.out z49 x10_1 p172 (by first | exact q172 | exact of_decide_eq_true (by first | (with_reducible assumption) | assumption) | (have e_ := (Kd.V_reads' HO_0.out).1; omega))
           obtain ⟨ua172_0, uc172_0, ua172_1, uc172_1, rfl, ul172_0, ge172_0, ul172_1, ge172_1⟩ := k49_openF hMe172
           have hv172_0 := hcc172 0 _ rfl
           rw [Nat.add_zero] at hv172_0
           replace hv172_0 := Option.some.inj (hv172_0.symm.trans hx172_0)
           injection hv172_0 with hva_ hvn_ hvc_
           rw [hva_] at ge172_0
           rw [hvc_] at ul172_0
           have HL172_0 := Aside0.mk (show Kd.V (Kd.int .u8) 5 _ w.heap.size _ _ ((rd_T49 l0 x10_1).f0) from Kd.V_mk ul172_0 ge172_0)
           clear hva_ hvn_ hvc_ ge172_0 ul172_0
           have hv172_1 := hcc172 1 _ rfl
           rw [add_field _ _ 1 (by omega)] at hv172_1
           replace hv172_1 := Option.some.inj (hv172_1.symm.trans hx172_1)
           injection hv172_1 with hva_ hvn_ hvc_
           rw [hva_] at ge172_1
           rw [hvc_] at ul172_1
           have HL172_1 := Aside0.mk (show Kd.V (Kd.int .u8) 5 _ w.heap.size _ _ ((rd_T49 l0 x10_1).f1) from Kd.V_mk ul172_1 ge172_1)
           clear hva_ hvn_ hvc_ ge172_1 ul172_1
           clear hcc172 hce172
           have HR172_0 := Aside0.mk hi172_0
           have HC172_0 := Aside0.mk hl172_0
           clear hi172_0 hl172_0
           have HR172_1 := Aside0.mk hi172_1
           have HC172_1 := Aside0.mk hl172_1
           clear hi172_1 hl172_1
           replace p172 := eq_true p172
           replace q172 := eq_true q172
           have p176 : 0 ≤ (x10_1 : Int) := of_decide_eq_true (by first | (with_reducible assumption) | assumption)
           have q176 : x10_1 < (l0.length : Int) := of_decide_eq_true (by first | (with_reducible assumption) | assumption)
           obtain ⟨ad176, A176_0, c176_0, A176_1, c176_1, e176, hx176_0, hx176_1, hx176_2, hl176_0, hi176_0, hl176_1, hi176_1⟩ := at_T49 (Kd.V_reads' HO_0.out).2.2 x10_1 p176 q176
           (try rw [← Nbq12.out] at hx176_2)
           obtain rfl : ad172 = ad176 := (by injection e176)
           obtain ⟨ce176, hce176, hMe176, hcc176⟩ := Kd.V_get HO_0.out z49 x10_1 p176 (by first | exact q176 | exact of_decide_eq_true (by first | (with_reducible assumption) | assumption) | (have e_ := (Kd.V_reads' HO_0.out).1; omega))
           obtain ⟨ua176_0, uc176_0, ua176_1, uc176_1, rfl, ul176_0, ge176_0, ul176_1, ge176_1⟩ := k49_openF hMe176
           have hv176_0 := hcc176 0 _ rfl
           rw [Nat.add_zero] at hv176_0
           replace hv176_0 := Option.some.inj (hv176_0.symm.trans hx176_0)
           injection hv176_0 with hva_ hvn_ hvc_
           rw [hva_] at ge176_0
           rw [hvc_] at ul176_0
           have HL176_0 := Aside0.mk (show Kd.V (Kd.int .u8) 5 _ w.heap.size _ _ ((rd_T49 l0 x10_1).f0) from Kd.V_mk ul176_0 ge176_0)
           clear hva_ hvn_ hvc_ ge176_0 ul176_0
           have hv176_1 := hcc176 1 _ rfl
           rw [add_field _ _ 1 (by omega)] at hv176_1
           replace hv176_1 := Option.some.inj (hv176_1.symm.trans hx176_1)
           injection hv176_1 with hva_ hvn_ hvc_
           rw [hva_] at ge176_1
           rw [hvc_] at ul176_1
           have HL176_1 := Aside0.mk (show Kd.V (Kd.int .u8) 5 _ w.heap.size _ _ ((rd_T49 l0 x10_1).f1) from Kd.V_mk ul176_1 ge176_1)
           clear hva_ hvn_ hvc_ ge176_1 ul176_1
           clear hcc176 hce176
           have HR176_0 := Aside0.mk hi176_0
           have HC176_0 := Aside0.mk hl176_0
           clear hi176_0 hl176_0
           have HR176_1 := Aside0.mk hi176_1
           have HC176_1 := Aside0.mk hl176_1
           clear hi176_1 hl176_1
           replace p176 := eq_true p176
           replace q176 := eq_true q176
           have ea_ := Option.some.inj (hx172_0.symm.trans hx176_0)
           injection ea_ with ea_ en_ ec_
           subst ea_
           subst ec_
           clear en_
           have ea_ := Option.some.inj (hx172_1.symm.trans hx176_1)
           injection ea_ with ea_ en_ ec_
           subst ea_
           subst ec_
           clear en_
           refine start_ (n := 15) (S := fun w' => w'.cell? (ad172.add ((x10_1).toNat * 3)) = some (.slice A172_0 ((rd_T49 l0 x10_1).f0).length c172_0) ∧ w'.cell? ⟨(ad172.add ((x10_1).toNat * 3)).block, (ad172.add ((x10_1).toNat * 3)).off + 1, none⟩ = some (.slice A172_1 ((rd_T49 l0 x10_1).f1).length c172_1) ∧ w'.cell? ⟨(ad172.add ((x10_1).toNat * 3)).block, (ad172.add ((x10_1).toNat * 3)).off + 2, none⟩ = some (.bool true) ∧ w'.cell? (ad172.add ((x10_1).toNat * 3)) = some (.slice A172_0 ((rd_T49 l0 x10_1).f0).length c172_0) ∧ w'.cell? ⟨(ad172.add ((x10_1).toNat * 3)).block, (ad172.add ((x10_1).toNat * 3)).off + 1, none⟩ = some (.slice A172_1 ((rd_T49 l0 x10_1).f1).length c172_1) ∧ w'.cell? ⟨(ad172.add ((x10_1).toNat * 3)).block, (ad172.add ((x10_1).toNat * 3)).off + 2, none⟩ = some (.bool true)) (ds := []) #[false, false, false, false, false, false, false, false, false, false, false, false, false, false, false] (by kernel_rfl) rfl rfl ⟨hx172_0, hx172_1, hx172_2, hx176_0, hx176_1, hx176_2⟩ (fun hHeld => ?_); refine with_tabW marigraphkeep_Entries.tab5 marigraphkeep_Entries.bits5 (fun HT_ HW_ => ?_)
           generalize wc.drew = w15 at HO_0 HO_9 HB HL172_0 HL172_1 HL176_0 HL176_1 HR172_0 HR172_1 HR176_0 HR176_1 hx172_0 hx172_1 hx172_2 hx176_0 hx176_1 hx176_2 hHeld ⊢
           refine pA 0 (some 23) (bA 15 1) HT_.out ?_
           refine pA 1 (some 24) (bA 15 3) HT_.out ?_
           refine pA 2 (some 25) (bA 15 7) HT_.out ?_
           refine pA 3 (some 26) (bA 15 15) HT_.out ?_
           refine pA 5 (some 28) (bA 15 47) HT_.out ?_
           refine pA 7 (some 30) (bA 15 175) HT_.out ?_
           refine pA 8 (some 31) (bA 15 431) HT_.out ?_
           refine pA 9 (some 32) (bA 15 943) HT_.out ?_
           refine pA 10 (some 33) (bA 15 1967) HT_.out ?_
           refine take_ (i := 4) (N := some 27) (v := ?_) (a' := ?_) (bA 15 1983) rfl rfl (take_ofW HT_.out HW_.out (by kernel_rfl)) (fun _ _ _ h => h) (Or.inl ⟨by rfl, ?_⟩) hHeld ?_ ?_
           rotate_left
           ·rintro w' ⟨s0, s1, s2, s3, s4, s5⟩
            go_simp
            with_reducible rfl
           rotate_left
           ·simp only [Act.put, List.setIfInBounds_toArray, List.set_cons_zero, List.set_cons_succ, i64_w, i32_w]
            rfl
           refine take_ (i := 11) (N := some 34) (v := ?_) (a' := ?_) (bA 15 4031) rfl rfl (take_ofW HT_.out HW_.out (by kernel_rfl)) (fun _ _ _ h => h) (Or.inl ⟨by rfl, ?_⟩) hHeld ?_ ?_
           rotate_left
           ·rintro w' ⟨s0, s1, s2, s3, s4, s5⟩
            go_simp
            with_reducible rfl
           rotate_left
           ·simp only [Act.put, List.setIfInBounds_toArray, List.set_cons_zero, List.set_cons_succ, i64_w, i32_w]
            rfl
           refine join_ (σ := Value × Nat) 1 (bA 15 16383) (fun s_ => [(29, s_.1), (11, .pointer (some ⟨s_.2, 0, none⟩)), (35, .agg #[s_.1, .slice none 0 0, .bool true])]) (fun s_ w' => (w'.cell? (ad172.add ((x10_1).toNat * 3)) = some (.slice A172_0 ((rd_T49 l0 x10_1).f0).length c172_0) ∧ w'.cell? ⟨(ad172.add ((x10_1).toNat * 3)).block, (ad172.add ((x10_1).toNat * 3)).off + 1, none⟩ = some (.slice A172_1 ((rd_T49 l0 x10_1).f1).length c172_1) ∧ w'.cell? ⟨(ad172.add ((x10_1).toNat * 3)).block, (ad172.add ((x10_1).toNat * 3)).off + 2, none⟩ = some (.bool true) ∧ w'.cell? (ad172.add ((x10_1).toNat * 3)) = some (.slice A172_0 ((rd_T49 l0 x10_1).f0).length c172_0) ∧ w'.cell? ⟨(ad172.add ((x10_1).toNat * 3)).block, (ad172.add ((x10_1).toNat * 3)).off + 1, none⟩ = some (.slice A172_1 ((rd_T49 l0 x10_1).f1).length c172_1) ∧ w'.cell? ⟨(ad172.add ((x10_1).toNat * 3)).block, (ad172.add ((x10_1).toNat * 3)).off + 2, none⟩ = some (.bool true)) ∧ (Kd.V (Kd.int .u8) 5 w' w.heap.size (fun k_ => (P0_ k_ ∨ w.heap.size ≤ k_) ∧ some k_ ≠ (u9 : Value).ownBlock ∧ k_ ≠ s_.2) (.slice A172_0 ((rd_T49 l0 x10_1).f0).length c172_0) ((rd_T49 l0 x10_1).f0)) ∧ (Kd.V (Kd.int .u8) 5 w' w.heap.size (fun k_ => (P0_ k_ ∨ w.heap.size ≤ k_) ∧ some k_ ≠ (u9 : Value).ownBlock ∧ k_ ≠ s_.2) (.slice A172_1 ((rd_T49 l0 x10_1).f1).length c172_1) ((rd_T49 l0 x10_1).f1)) ∧ (Kd.V (Kd.int .u8) 5 w' w.heap.size (fun k_ => (P0_ k_ ∨ w.heap.size ≤ k_) ∧ some k_ ≠ (u9 : Value).ownBlock ∧ k_ ≠ s_.2) (.slice A172_0 ((rd_T49 l0 x10_1).f0).length c172_0) ((rd_T49 l0 x10_1).f0)) ∧ (Kd.V (Kd.int .u8) 5 w' w.heap.size (fun k_ => (P0_ k_ ∨ w.heap.size ≤ k_) ∧ some k_ ≠ (u9 : Value).ownBlock ∧ k_ ≠ s_.2) (.slice A172_1 ((rd_T49 l0 x10_1).f1).length c172_1) ((rd_T49 l0 x10_1).f1)) ∧ (Kd.V (Kd.int .u8) 5 w' w.heap.size (fun k_ => (P0_ k_ ∨ w.heap.size ≤ k_) ∧ some k_ ≠ (u9 : Value).ownBlock ∧ k_ ≠ s_.2) s_.1 t173) ∧ (Kd.V k49 49 w' w.heap.size (fun k_ => (P0_ k_ ∨ w.heap.size ≤ k_) ∧ some k_ ≠ (u9 : Value).ownBlock ∧ k_ ≠ s_.2) (.slice (some ad172) l0.length c0) l0) ∧ (Kd.N k49 49 w' w.heap.size (fun k_ => (P0_ k_ ∨ w.heap.size ≤ k_) ∧ k_ ≠ s_.2) u9 x9_1) ∧ (w'.heap[s_.2]? = some (.cells #[.slice none 0 0, .slice none 0 0, .bool false] 49 (0, 0))) ∧ (w.heap.size ≤ s_.2) ∧ (w.heap.size ≤ s_.2) ∧ (Below w.heap.size w w')) ?_ ?_
           rotate_left
           ·intro hCont
            refine two_ (i := 6) (j := 13) (Ni := some 29) (Nj := some 11) (bA 15 4095) (bA 15 12223) rfl rfl rfl rfl (two_of HT_.out (by kernel_rfl)) (by decide) (by decide) (fun K hK => ?_) (fun K hK => ?_)
            ·skip
             refine goes_ Try.func14 (by kernel_rfl) rfl #[.slice A172_0 ((rd_T49 l0 x10_1).f0).length c172_0, .int .i64 a2] (by rfl) rfl rfl argN ?_
             with_reducible refine (marigraphkeep_Cut.calls (fun k_ => ((P0_ k_ ∨ w.heap.size ≤ k_) ∧ some k_ ≠ (u9 : Value).ownBlock)) _ _ ((rd_T49 l0 x10_1).f0) a2 t173 _ ?side1 A10.out).mono ?_
             (case side1 => exact HL172_0.out)
             rintro e w16 ⟨v174, rfl, ho0, hb⟩
             have HS0_ := (hb.cell (World.block_lt_of_cell? _ _ (hHeld.1))).trans (hHeld.1)
             have HS1_ := (hb.cell (World.block_lt_of_cell? _ _ (hHeld.2.1))).trans (hHeld.2.1)
             have HS2_ := (hb.cell (World.block_lt_of_cell? _ _ (hHeld.2.2.1))).trans (hHeld.2.2.1)
             have HS3_ := (hb.cell (World.block_lt_of_cell? _ _ (hHeld.2.2.2.1))).trans (hHeld.2.2.2.1)
             have HS4_ := (hb.cell (World.block_lt_of_cell? _ _ (hHeld.2.2.2.2.1))).trans (hHeld.2.2.2.2.1)
             have HS5_ := (hb.cell (World.block_lt_of_cell? _ _ (hHeld.2.2.2.2.2))).trans (hHeld.2.2.2.2.2)
             refine ⟨_, rfl, ?_⟩
             have n0_ := Aside0.mk (Kd.V_below (by (with_reducible repeat (first | apply Kd.V_alloc | apply Kd.V_drewN | apply Kd.V_drew)); exact HO_0.out) hb)
             have n1_ := Aside0.mk (Kd.N_below (by (with_reducible repeat (first | apply Kd.N_alloc | apply Kd.N_drewN | apply Kd.N_drew)); exact HO_9.out) hb)
             have n2_ := Aside0.mk (Kd.V_below (by (with_reducible repeat (first | apply Kd.V_alloc | apply Kd.V_drewN | apply Kd.V_drew)); exact HL172_0.out) hb)
             have n3_ := Aside0.mk (Kd.V_below (by (with_reducible repeat (first | apply Kd.V_alloc | apply Kd.V_drewN | apply Kd.V_drew)); exact HL172_1.out) hb)
             have n4_ := Aside0.mk (Kd.V_below (by (with_reducible repeat (first | apply Kd.V_alloc | apply Kd.V_drewN | apply Kd.V_drew)); exact HL176_0.out) hb)
             have n5_ := Aside0.mk (Kd.V_below (by (with_reducible repeat (first | apply Kd.V_alloc | apply Kd.V_drewN | apply Kd.V_drew)); exact HL176_1.out) hb)
             have n6_ := Aside0.mk (Kd.V_lower (Kd.V_mono (ok' := fun k_ => (P0_ k_ ∨ w.heap.size ≤ k_) ∧ some k_ ≠ (u9 : Value).ownBlock) ho0 (fun k_ hk_ => ⟨Or.elim hk_ (fun hs_ => hs_.1) (fun hn_ => (.inr (Nat.le_trans (below_size (belN HB.out)) hn_))), Or.elim hk_ (fun hs_ => hs_.2) (fun hn_ => (Kd.fresh' (Kd.N_lt (by (with_reducible repeat (first | apply Kd.N_alloc | apply Kd.N_drewN | apply Kd.N_drew)); exact HO_9.out)) k_ hn_))⟩)) (below_size (belN HB.out)))
             have n7_ := Aside0.mk (cbN HR172_0.out hb)
             have n8_ := Aside0.mk (cbN HR172_1.out hb)
             have n9_ := Aside0.mk (cbN HR176_0.out hb)
             have n10_ := Aside0.mk (cbN HR176_1.out hb)
             have n11_ := Aside0.mk (below_step (belN HB.out) hb)
             clear HO_0
             clear HO_9
             clear HL172_0
             clear HL172_1
             clear HL176_0
             clear HL176_1
             clear HR172_0
             clear HR172_1
             clear HR176_0
             clear HR176_1
             clear HB
             have HO_0 := n0_
             have HO_9 := n1_
             have HL172_0 := n2_
             have HL172_1 := n3_
             have HL176_0 := n4_
             have HL176_1 := n5_
             have HO175 := n6_
             have HR172_0 := n7_
             have HR172_1 := n8_
             have HR176_0 := n9_
             have HR176_1 := n10_
             have HB := n11_
             clear n0_ n1_ n2_ n3_ n4_ n5_ n6_ n7_ n8_ n9_ n10_ n11_
             (try clear hb)
             (try clear hk)
             (try clear ho0)
             obtain ⟨Ao17, co17, eo17⟩ := Kd.V_slice HO175.out
             (first | subst eo17 | (injection eo17 with f1_ f2_ f3_; have f4_ := f1_.symm; have f5_ := f3_.symm; clear f1_ f2_ f3_; subst f4_; subst f5_))
             refine hK.out _ _ ⟨HS0_, HS1_, HS2_, HS3_, HS4_, HS5_⟩ (fun hHeld => ?_)
             clear hK K
             refine norm_ (a' := ?_) ?_ ?_
             rotate_left
             ·show Act.put _ (some 29) _ = _
              simp only [Act.put, List.setIfInBounds_toArray, List.set_cons_zero, List.set_cons_succ, i64_w, i32_w]
              rfl
             refine pA 12 (some 35) (bA 15 8191) HT_.out ?_
             refine one_ (i := 13) (N := some 11) (bA 15 16383) rfl rfl (one_of HT_.out (by kernel_rfl)) (by decide) (fun K hK => ?_)
             refine box_step ?hg (N := 11) ?hd (cs := #[.slice none 0 0, .slice none 0 0, .bool false]) (t := 49) ?hr ?_; (case hd => rfl); (case hg => rfl); (case hr => first | (go_simp; done) | (go_simp; rfl))
             intro gb177 hg w18 hbox hb
             have HS0_ := (hb.cell (World.block_lt_of_cell? _ _ (hHeld.1))).trans (hHeld.1)
             have HS1_ := (hb.cell (World.block_lt_of_cell? _ _ (hHeld.2.1))).trans (hHeld.2.1)
             have HS2_ := (hb.cell (World.block_lt_of_cell? _ _ (hHeld.2.2.1))).trans (hHeld.2.2.1)
             have HS3_ := (hb.cell (World.block_lt_of_cell? _ _ (hHeld.2.2.2.1))).trans (hHeld.2.2.2.1)
             have HS4_ := (hb.cell (World.block_lt_of_cell? _ _ (hHeld.2.2.2.2.1))).trans (hHeld.2.2.2.2.1)
             have HS5_ := (hb.cell (World.block_lt_of_cell? _ _ (hHeld.2.2.2.2.2))).trans (hHeld.2.2.2.2.2)
             have n0_ := Aside0.mk (Kd.V_below (Kd.V_elderB (by (with_reducible repeat (first | apply Kd.V_alloc | apply Kd.V_drewN | apply Kd.V_drew)); exact HO_0.out) gb177 (Nat.le_of_eq hg.symm)) hb)
             have n1_ := Aside0.mk (Kd.N_below (Kd.N_elderB (by (with_reducible repeat (first | apply Kd.N_alloc | apply Kd.N_drewN | apply Kd.N_drew)); exact HO_9.out) gb177 (Nat.le_of_eq hg.symm)) hb)
             have n2_ := Aside0.mk (Kd.V_below (Kd.V_elderB (by (with_reducible repeat (first | apply Kd.V_alloc | apply Kd.V_drewN | apply Kd.V_drew)); exact HL172_0.out) gb177 (Nat.le_of_eq hg.symm)) hb)
             have n3_ := Aside0.mk (Kd.V_below (Kd.V_elderB (by (with_reducible repeat (first | apply Kd.V_alloc | apply Kd.V_drewN | apply Kd.V_drew)); exact HL172_1.out) gb177 (Nat.le_of_eq hg.symm)) hb)
             have n4_ := Aside0.mk (Kd.V_below (Kd.V_elderB (by (with_reducible repeat (first | apply Kd.V_alloc | apply Kd.V_drewN | apply Kd.V_drew)); exact HL176_0.out) gb177 (Nat.le_of_eq hg.symm)) hb)
             have n5_ := Aside0.mk (Kd.V_below (Kd.V_elderB (by (with_reducible repeat (first | apply Kd.V_alloc | apply Kd.V_drewN | apply Kd.V_drew)); exact HL176_1.out) gb177 (Nat.le_of_eq hg.symm)) hb)
             have n6_ := Aside0.mk (Kd.V_below (Kd.V_elderB (by (with_reducible repeat (first | apply Kd.V_alloc | apply Kd.V_drewN | apply Kd.V_drew)); exact HO175.out) gb177 (Nat.le_of_eq hg.symm)) hb)
             have n7_ := Aside0.mk (cbN HR172_0.out hb)
             have n8_ := Aside0.mk (cbN HR172_1.out hb)
             have n9_ := Aside0.mk (cbN HR176_0.out hb)
             have n10_ := Aside0.mk (cbN HR176_1.out hb)
             have n11_ := Aside0.mk (below_step (belN HB.out) hb)
             have n12_ := Aside0.mk (hbox)
             have n13_ := Aside0.mk (szB hg HB.out)
             have n14_ := Aside0.mk (szB hg HB.out)
             clear HO_0
             clear HO_9
             clear HL172_0
             clear HL172_1
             clear HL176_0
             clear HL176_1
             clear HO175
             clear HR172_0
             clear HR172_1
             clear HR176_0
             clear HR176_1
             clear HB
             have HO_0 := n0_
             have HO_9 := n1_
             have HL172_0 := n2_
             have HL172_1 := n3_
             have HL176_0 := n4_
             have HL176_1 := n5_
             have HO175 := n6_
             have HR172_0 := n7_
             have HR172_1 := n8_
             have HR176_0 := n9_
             have HR176_1 := n10_
             have HB := n11_
             have BK177 := n12_
             have GW177 := n13_
             have GE177 := n14_
             clear n0_ n1_ n2_ n3_ n4_ n5_ n6_ n7_ n8_ n9_ n10_ n11_ n12_ n13_ n14_
             clear hb hbox hg
             refine hK.out _ _ ⟨HS0_, HS1_, HS2_, HS3_, HS4_, HS5_⟩ (fun hHeld => ?_)
             clear hK K
             refine norm_ (a' := ?_) ?_ ?_
             rotate_left
             ·show Act.put _ (some 11) _ = _
              simp only [Act.put, List.setIfInBounds_toArray, List.set_cons_zero, List.set_cons_succ, i64_w, i32_w]
              rfl
             exact norm_ (by simp only [putAll, Act.put, List.setIfInBounds_toArray, List.set_cons_zero, List.set_cons_succ]) (hCont (.slice Ao17 t173.length co17, gb177) _ ⟨hHeld, (by (with_reducible repeat (first | apply Kd.V_alloc | apply Kd.V_drewN | apply Kd.V_drew)); exact Kd.V_mono HL172_0.out (fun _ hk => ⟨hk.1.1, ⟨hk.1.2, hk.2⟩⟩)), (by (with_reducible repeat (first | apply Kd.V_alloc | apply Kd.V_drewN | apply Kd.V_drew)); exact Kd.V_mono HL172_1.out (fun _ hk => ⟨hk.1.1, ⟨hk.1.2, hk.2⟩⟩)), (by (with_reducible repeat (first | apply Kd.V_alloc | apply Kd.V_drewN | apply Kd.V_drew)); exact Kd.V_mono HL176_0.out (fun _ hk => ⟨hk.1.1, ⟨hk.1.2, hk.2⟩⟩)), (by (with_reducible repeat (first | apply Kd.V_alloc | apply Kd.V_drewN | apply Kd.V_drew)); exact Kd.V_mono HL176_1.out (fun _ hk => ⟨hk.1.1, ⟨hk.1.2, hk.2⟩⟩)), (by (with_reducible repeat (first | apply Kd.V_alloc | apply Kd.V_drewN | apply Kd.V_drew)); exact Kd.V_mono HO175.out (fun _ hk => ⟨hk.1.1, ⟨hk.1.2, hk.2⟩⟩)), (by (with_reducible repeat (first | apply Kd.V_alloc | apply Kd.V_drewN | apply Kd.V_drew)); exact Kd.V_mono HO_0.out (fun _ hk => ⟨hk.1.1, ⟨hk.1.2, hk.2⟩⟩)), (by (with_reducible repeat (first | apply Kd.N_alloc | apply Kd.N_drewN | apply Kd.N_drew)); exact HO_9.out), (blkN BK177.out), GW177.out, GE177.out, (belS HB.out)⟩)
            ·skip
             refine box_step ?hg (N := 11) ?hd (cs := #[.slice none 0 0, .slice none 0 0, .bool false]) (t := 49) ?hr ?_; (case hd => rfl); (case hg => rfl); (case hr => first | (go_simp; done) | (go_simp; rfl))
             intro gb177 hg w16 hbox hb
             have HS0_ := (hb.cell (World.block_lt_of_cell? _ _ (hHeld.1))).trans (hHeld.1)
             have HS1_ := (hb.cell (World.block_lt_of_cell? _ _ (hHeld.2.1))).trans (hHeld.2.1)
             have HS2_ := (hb.cell (World.block_lt_of_cell? _ _ (hHeld.2.2.1))).trans (hHeld.2.2.1)
             have HS3_ := (hb.cell (World.block_lt_of_cell? _ _ (hHeld.2.2.2.1))).trans (hHeld.2.2.2.1)
             have HS4_ := (hb.cell (World.block_lt_of_cell? _ _ (hHeld.2.2.2.2.1))).trans (hHeld.2.2.2.2.1)
             have HS5_ := (hb.cell (World.block_lt_of_cell? _ _ (hHeld.2.2.2.2.2))).trans (hHeld.2.2.2.2.2)
             have n0_ := Aside0.mk (Kd.V_below (Kd.V_elderB (by (with_reducible repeat (first | apply Kd.V_alloc | apply Kd.V_drewN | apply Kd.V_drew)); exact HO_0.out) gb177 (Nat.le_of_eq hg.symm)) hb)
             have n1_ := Aside0.mk (Kd.N_below (Kd.N_elderB (by (with_reducible repeat (first | apply Kd.N_alloc | apply Kd.N_drewN | apply Kd.N_drew)); exact HO_9.out) gb177 (Nat.le_of_eq hg.symm)) hb)
             have n2_ := Aside0.mk (Kd.V_below (Kd.V_elderB (by (with_reducible repeat (first | apply Kd.V_alloc | apply Kd.V_drewN | apply Kd.V_drew)); exact HL172_0.out) gb177 (Nat.le_of_eq hg.symm)) hb)
             have n3_ := Aside0.mk (Kd.V_below (Kd.V_elderB (by (with_reducible repeat (first | apply Kd.V_alloc | apply Kd.V_drewN | apply Kd.V_drew)); exact HL172_1.out) gb177 (Nat.le_of_eq hg.symm)) hb)
             have n4_ := Aside0.mk (Kd.V_below (Kd.V_elderB (by (with_reducible repeat (first | apply Kd.V_alloc | apply Kd.V_drewN | apply Kd.V_drew)); exact HL176_0.out) gb177 (Nat.le_of_eq hg.symm)) hb)
             have n5_ := Aside0.mk (Kd.V_below (Kd.V_elderB (by (with_reducible repeat (first | apply Kd.V_alloc | apply Kd.V_drewN | apply Kd.V_drew)); exact HL176_1.out) gb177 (Nat.le_of_eq hg.symm)) hb)
             have n6_ := Aside0.mk (cbN HR172_0.out hb)
             have n7_ := Aside0.mk (cbN HR172_1.out hb)
             have n8_ := Aside0.mk (cbN HR176_0.out hb)
             have n9_ := Aside0.mk (cbN HR176_1.out hb)
             have n10_ := Aside0.mk (below_step (belN HB.out) hb)
             have n11_ := Aside0.mk (hbox)
             have n12_ := Aside0.mk (szB hg HB.out)
             have n13_ := Aside0.mk (szB hg HB.out)
             clear HO_0
             clear HO_9
             clear HL172_0
             clear HL172_1
             clear HL176_0
             clear HL176_1
             clear HR172_0
             clear HR172_1
             clear HR176_0
             clear HR176_1
             clear HB
             have HO_0 := n0_
             have HO_9 := n1_
             have HL172_0 := n2_
             have HL172_1 := n3_
             have HL176_0 := n4_
             have HL176_1 := n5_
             have HR172_0 := n6_
             have HR172_1 := n7_
             have HR176_0 := n8_
             have HR176_1 := n9_
             have HB := n10_
             have BK177 := n11_
             have GW177 := n12_
             have GE177 := n13_
             clear n0_ n1_ n2_ n3_ n4_ n5_ n6_ n7_ n8_ n9_ n10_ n11_ n12_ n13_
             clear hb hbox hg
             refine hK.out _ _ ⟨HS0_, HS1_, HS2_, HS3_, HS4_, HS5_⟩ (fun hHeld => ?_)
             clear hK K
             refine norm_ (a' := ?_) ?_ ?_
             rotate_left
             ·show Act.put _ (some 11) _ = _
              simp only [Act.put, List.setIfInBounds_toArray, List.set_cons_zero, List.set_cons_succ, i64_w, i32_w]
              rfl
             refine one_ (i := 6) (N := some 29) (bA 15 12287) rfl rfl (one_of HT_.out (by kernel_rfl)) (by decide) (fun K hK => ?_)
             refine goes_ Try.func14 (by kernel_rfl) rfl #[.slice A172_0 ((rd_T49 l0 x10_1).f0).length c172_0, .int .i64 a2] (by rfl) rfl rfl argN ?_
             with_reducible refine (marigraphkeep_Cut.calls (fun k_ => (((P0_ k_ ∨ w.heap.size ≤ k_) ∧ some k_ ≠ (u9 : Value).ownBlock) ∧ k_ ≠ gb177)) _ _ ((rd_T49 l0 x10_1).f0) a2 t173 _ ?side1 A10.out).mono ?_
             (case side1 => exact HL172_0.out)
             rintro e w17 ⟨v174, rfl, ho0, hb⟩
             have HS0_ := (hb.cell (World.block_lt_of_cell? _ _ (hHeld.1))).trans (hHeld.1)
             have HS1_ := (hb.cell (World.block_lt_of_cell? _ _ (hHeld.2.1))).trans (hHeld.2.1)
             have HS2_ := (hb.cell (World.block_lt_of_cell? _ _ (hHeld.2.2.1))).trans (hHeld.2.2.1)
             have HS3_ := (hb.cell (World.block_lt_of_cell? _ _ (hHeld.2.2.2.1))).trans (hHeld.2.2.2.1)
             have HS4_ := (hb.cell (World.block_lt_of_cell? _ _ (hHeld.2.2.2.2.1))).trans (hHeld.2.2.2.2.1)
             have HS5_ := (hb.cell (World.block_lt_of_cell? _ _ (hHeld.2.2.2.2.2))).trans (hHeld.2.2.2.2.2)
             refine ⟨_, rfl, ?_⟩
             have n0_ := Aside0.mk (Kd.V_below (by (with_reducible repeat (first | apply Kd.V_alloc | apply Kd.V_drewN | apply Kd.V_drew)); exact HO_0.out) hb)
             have n1_ := Aside0.mk (Kd.N_below (by (with_reducible repeat (first | apply Kd.N_alloc | apply Kd.N_drewN | apply Kd.N_drew)); exact HO_9.out) hb)
             have n2_ := Aside0.mk (Kd.V_below (by (with_reducible repeat (first | apply Kd.V_alloc | apply Kd.V_drewN | apply Kd.V_drew)); exact HL172_0.out) hb)
             have n3_ := Aside0.mk (Kd.V_below (by (with_reducible repeat (first | apply Kd.V_alloc | apply Kd.V_drewN | apply Kd.V_drew)); exact HL172_1.out) hb)
             have n4_ := Aside0.mk (Kd.V_below (by (with_reducible repeat (first | apply Kd.V_alloc | apply Kd.V_drewN | apply Kd.V_drew)); exact HL176_0.out) hb)
             have n5_ := Aside0.mk (Kd.V_below (by (with_reducible repeat (first | apply Kd.V_alloc | apply Kd.V_drewN | apply Kd.V_drew)); exact HL176_1.out) hb)
             have n6_ := Aside0.mk (Kd.V_lower (Kd.V_mono (ok' := fun k_ => (P0_ k_ ∨ w.heap.size ≤ k_) ∧ some k_ ≠ (u9 : Value).ownBlock ∧ k_ ≠ gb177) ho0 (fun k_ hk_ => ⟨Or.elim hk_ (fun hs_ => hs_.1.1) (fun hn_ => (.inr (Nat.le_trans (below_size (belS HB.out)) hn_))), Or.elim hk_ (fun hs_ => hs_.1.2) (fun hn_ => (Kd.fresh' (Kd.N_lt (by (with_reducible repeat (first | apply Kd.N_alloc | apply Kd.N_drewN | apply Kd.N_drew)); exact HO_9.out)) k_ hn_)), Or.elim hk_ (fun hs_ => hs_.2) (fun hn_ => (Kd.freshB (g := gb177) (o := .cells #[.slice none 0 0, .slice none 0 0, .bool false] 49 (0, 0)) (blkN BK177.out) k_ hn_))⟩)) (below_size (belS HB.out)))
             have n7_ := Aside0.mk (cbN HR172_0.out hb)
             have n8_ := Aside0.mk (cbN HR172_1.out hb)
             have n9_ := Aside0.mk (cbN HR176_0.out hb)
             have n10_ := Aside0.mk (cbN HR176_1.out hb)
             have n11_ := Aside0.mk (bkB BK177.out hb)
             have n12_ := Aside0.mk (below_step (belS HB.out) hb)
             clear HO_0
             clear HO_9
             clear HL172_0
             clear HL172_1
             clear HL176_0
             clear HL176_1
             clear HR172_0
             clear HR172_1
             clear HR176_0
             clear HR176_1
             clear BK177
             clear HB
             have HO_0 := n0_
             have HO_9 := n1_
             have HL172_0 := n2_
             have HL172_1 := n3_
             have HL176_0 := n4_
             have HL176_1 := n5_
             have HO175 := n6_
             have HR172_0 := n7_
             have HR172_1 := n8_
             have HR176_0 := n9_
             have HR176_1 := n10_
             have BK177 := n11_
             have HB := n12_
             clear n0_ n1_ n2_ n3_ n4_ n5_ n6_ n7_ n8_ n9_ n10_ n11_ n12_
             (try clear hb)
             (try clear hk)
             (try clear ho0)
             obtain ⟨Ao18, co18, eo18⟩ := Kd.V_slice HO175.out
             (first | subst eo18 | (injection eo18 with f1_ f2_ f3_; have f4_ := f1_.symm; have f5_ := f3_.symm; clear f1_ f2_ f3_; subst f4_; subst f5_))
             refine hK.out _ _ ⟨HS0_, HS1_, HS2_, HS3_, HS4_, HS5_⟩ (fun hHeld => ?_)
             clear hK K
             refine norm_ (a' := ?_) ?_ ?_
             rotate_left
             ·show Act.put _ (some 29) _ = _
              simp only [Act.put, List.setIfInBounds_toArray, List.set_cons_zero, List.set_cons_succ, i64_w, i32_w]
              rfl
             refine pA 12 (some 35) (bA 15 16383) HT_.out ?_
             exact norm_ (by simp only [putAll, Act.put, List.setIfInBounds_toArray, List.set_cons_zero, List.set_cons_succ]) (hCont (.slice Ao18 t173.length co18, gb177) _ ⟨hHeld, (by (with_reducible repeat (first | apply Kd.V_alloc | apply Kd.V_drewN | apply Kd.V_drew)); exact Kd.V_mono HL172_0.out (fun _ hk => ⟨hk.1.1, ⟨hk.1.2, hk.2⟩⟩)), (by (with_reducible repeat (first | apply Kd.V_alloc | apply Kd.V_drewN | apply Kd.V_drew)); exact Kd.V_mono HL172_1.out (fun _ hk => ⟨hk.1.1, ⟨hk.1.2, hk.2⟩⟩)), (by (with_reducible repeat (first | apply Kd.V_alloc | apply Kd.V_drewN | apply Kd.V_drew)); exact Kd.V_mono HL176_0.out (fun _ hk => ⟨hk.1.1, ⟨hk.1.2, hk.2⟩⟩)), (by (with_reducible repeat (first | apply Kd.V_alloc | apply Kd.V_drewN | apply Kd.V_drew)); exact Kd.V_mono HL176_1.out (fun _ hk => ⟨hk.1.1, ⟨hk.1.2, hk.2⟩⟩)), (by (with_reducible repeat (first | apply Kd.V_alloc | apply Kd.V_drewN | apply Kd.V_drew)); exact HO175.out), (by (with_reducible repeat (first | apply Kd.V_alloc | apply Kd.V_drewN | apply Kd.V_drew)); exact Kd.V_mono HO_0.out (fun _ hk => ⟨hk.1.1, ⟨hk.1.2, hk.2⟩⟩)), (by (with_reducible repeat (first | apply Kd.N_alloc | apply Kd.N_drewN | apply Kd.N_drew)); exact HO_9.out), (blkN BK177.out), GW177.out, GE177.out, (belS HB.out)⟩)
           rintro ⟨v174, gb177⟩ w19 ⟨hS_, h0_, h1_, h2_, h3_, h4_, h5_, h6_, h7_, h8_, h9_, h10_⟩
           have n0_ : Aside0 (Kd.V (Kd.int .u8) 5 w19 w.heap.size (fun k_ => (P0_ k_ ∨ w.heap.size ≤ k_) ∧ some k_ ≠ (u9 : Value).ownBlock ∧ k_ ≠ gb177) (.slice A172_0 ((rd_T49 l0 x10_1).f0).length c172_0) ((rd_T49 l0 x10_1).f0)) := ⟨h0_⟩
           have n1_ : Aside0 (Kd.V (Kd.int .u8) 5 w19 w.heap.size (fun k_ => (P0_ k_ ∨ w.heap.size ≤ k_) ∧ some k_ ≠ (u9 : Value).ownBlock ∧ k_ ≠ gb177) (.slice A172_1 ((rd_T49 l0 x10_1).f1).length c172_1) ((rd_T49 l0 x10_1).f1)) := ⟨h1_⟩
           have n2_ : Aside0 (Kd.V (Kd.int .u8) 5 w19 w.heap.size (fun k_ => (P0_ k_ ∨ w.heap.size ≤ k_) ∧ some k_ ≠ (u9 : Value).ownBlock ∧ k_ ≠ gb177) (.slice A172_0 ((rd_T49 l0 x10_1).f0).length c172_0) ((rd_T49 l0 x10_1).f0)) := ⟨h2_⟩
           have n3_ : Aside0 (Kd.V (Kd.int .u8) 5 w19 w.heap.size (fun k_ => (P0_ k_ ∨ w.heap.size ≤ k_) ∧ some k_ ≠ (u9 : Value).ownBlock ∧ k_ ≠ gb177) (.slice A172_1 ((rd_T49 l0 x10_1).f1).length c172_1) ((rd_T49 l0 x10_1).f1)) := ⟨h3_⟩
           have n4_ : Aside0 (Kd.V (Kd.int .u8) 5 w19 w.heap.size (fun k_ => (P0_ k_ ∨ w.heap.size ≤ k_) ∧ some k_ ≠ (u9 : Value).ownBlock ∧ k_ ≠ gb177) v174 t173) := ⟨h4_⟩
           have n5_ : Aside0 (Kd.V k49 49 w19 w.heap.size (fun k_ => (P0_ k_ ∨ w.heap.size ≤ k_) ∧ some k_ ≠ (u9 : Value).ownBlock ∧ k_ ≠ gb177) (.slice (some ad172) l0.length c0) l0) := ⟨h5_⟩
           have n6_ : Aside0 (Kd.N k49 49 w19 w.heap.size (fun k_ => (P0_ k_ ∨ w.heap.size ≤ k_) ∧ k_ ≠ gb177) u9 x9_1) := ⟨h6_⟩
           have n7_ : Aside0 (w19.heap[gb177]? = some (.cells #[.slice none 0 0, .slice none 0 0, .bool false] 49 (0, 0))) := ⟨h7_⟩
           have n8_ : Aside0 (w.heap.size ≤ gb177) := ⟨h8_⟩
           have n9_ : Aside0 (w.heap.size ≤ gb177) := ⟨h9_⟩
           have n10_ : Aside0 (Below w.heap.size w w19) := ⟨h10_⟩
           clear HO_0
           clear HO_9
           clear HB
           clear h0_ h1_ h2_ h3_ h4_ h5_ h6_ h7_ h8_ h9_ h10_
           have HL172_0 := n0_
           have HL172_1 := n1_
           have HL176_0 := n2_
           have HL176_1 := n3_
           have HO175 := n4_
           have HO_0 := n5_
           have HO_9 := n6_
           have BK177 := n7_
           have GW177 := n8_
           have GE177 := n9_
           have HB := n10_
           clear n0_ n1_ n2_ n3_ n4_ n5_ n6_ n7_ n8_ n9_ n10_
           have hHeld : w19.cell? (ad172.add ((x10_1).toNat * 3)) = some (.slice A172_0 ((rd_T49 l0 x10_1).f0).length c172_0) ∧ w19.cell? ⟨(ad172.add ((x10_1).toNat * 3)).block, (ad172.add ((x10_1).toNat * 3)).off + 1, none⟩ = some (.slice A172_1 ((rd_T49 l0 x10_1).f1).length c172_1) ∧ w19.cell? ⟨(ad172.add ((x10_1).toNat * 3)).block, (ad172.add ((x10_1).toNat * 3)).off + 2, none⟩ = some (.bool true) ∧ w19.cell? (ad172.add ((x10_1).toNat * 3)) = some (.slice A172_0 ((rd_T49 l0 x10_1).f0).length c172_0) ∧ w19.cell? ⟨(ad172.add ((x10_1).toNat * 3)).block, (ad172.add ((x10_1).toNat * 3)).off + 1, none⟩ = some (.slice A172_1 ((rd_T49 l0 x10_1).f1).length c172_1) ∧ w19.cell? ⟨(ad172.add ((x10_1).toNat * 3)).block, (ad172.add ((x10_1).toNat * 3)).off + 2, none⟩ = some (.bool true) := hS_
           obtain ⟨Ao20, co20, eo20⟩ := Kd.V_slice HO175.out
           (first | subst eo20 | (injection eo20 with f1_ f2_ f3_; have f4_ := f1_.symm; have f5_ := f3_.symm; clear f1_ f2_ f3_; subst f4_; subst f5_))
           refine norm_ (a' := ?_) ?_ ?_
           rotate_left
           ·simp only [putAll, Act.put, List.setIfInBounds_toArray, List.set_cons_zero, List.set_cons_succ]
            rfl
           refine one_ (i := 14) (N := none) (bA 15 32767) rfl rfl (one_of HT_.out (by kernel_rfl)) (by decide) (fun K hK => ?_)
           have hs21 : w19.cell? ⟨gb177, 0, none⟩ = some (.slice none 0 0) := (blk_cell BK177.out 0).trans rfl
           have hfs21 := blk_frozen BK177.out 0
           have hs22 : w19.cell? ⟨gb177, 1, none⟩ = some (.slice none 0 0) := (blk_cell BK177.out 1).trans rfl
           have hfs22 := blk_frozen BK177.out 1
           have hs23 : w19.cell? ⟨gb177, 2, none⟩ = some (.bool false) := (blk_cell BK177.out 2).trans rfl
           have hfs23 := blk_frozen BK177.out 2
           refine skip_ (w1 := ?_) (by rfl) rfl ?_ ?_
           rotate_left
           ·go_simp
            rfl
           have hbl_ : (ad172.add ((x10_1).toNat * 3)).block ≠ gb177 := by rw [add_block]; exact V_blk HO_0.out z49 (by decide) (by have a_ := of_eq_true p172; have b_ := of_eq_true q172; omega) (fun _ hk => hk.2.2)
           refine hK.out _ _ ⟨(far3 (by exact hbl_)).trans hHeld.1, (far3 (by exact hbl_)).trans hHeld.2.1, (far3 (by exact hbl_)).trans hHeld.2.2.1, (far3 (by exact hbl_)).trans hHeld.2.2.2.1, (far3 (by exact hbl_)).trans hHeld.2.2.2.2.1, (far3 (by exact hbl_)).trans hHeld.2.2.2.2.2⟩ (fun hHeld => ?_)
           clear hbl_
           clear hK K
           refine done_ (done_of HT_.out (by kernel_rfl)) ?_
           have hcz24_0 : w19.cell? ⟨gb177, 0, none⟩ = some (.slice none 0 0) := (blk_cell BK177.out 0).trans rfl
           have hcz24_1 : w19.cell? ⟨gb177, 1, none⟩ = some (.slice none 0 0) := (blk_cell BK177.out 1).trans rfl
           have hcz24_2 : w19.cell? ⟨gb177, 2, none⟩ = some (.bool false) := (blk_cell BK177.out 2).trans rfl
           have hfz24_0 := blk_frozen BK177.out 0
           have hfz24_1 := blk_frozen BK177.out 1
           have hfz24_2 := blk_frozen BK177.out 2
           try go_wp2_with (first | ((with_reducible refine gate_dst (N := 40) rfl ?_); refine Kd.R_lit (Kd.int .u8) _ 5 ?hg (N := 40) ?hd (xs := ([107] : List Int)) (inner := [.int .u8 107]) (ok := fun _ => True) (okp := fun _ => True) ?hr ?hp (fun _ hk => hk) trivial (Below.refl _ _) (Nat.le_refl _) (by simp) ?_; (case hd => rfl); (case hg => rfl); (case hr => first | (go_simp; done) | (go_simp; rfl)); (case hp => exact (Reps.one (show Kd.M (Kd.int .u8) _ _ _ 107 [.int .u8 107] from rfl) (Reps.none _ _))); intro v179 w25 ho26 hb hg_ hnew_; clear hg_ hnew_; (first | rw [← Ny178.out] at ho26 | (simp only [Int.reduceToNat] at ho26; rw [← Ny178.out] at ho26)); have n0_ := Aside0.mk (Kd.V_elder' (by (with_reducible repeat (first | apply Kd.V_alloc | apply Kd.V_drewN | apply Kd.V_drew)); exact (Kd.V_mono (Kd.V_far (p := ⟨gb177, 2, none⟩) (Kd.V_far (p := ⟨gb177, 1, none⟩) (Kd.V_far (p := ⟨gb177, 0, none⟩) (Kd.V_mono HO_0.out (fun k_ hk => (⟨hk, hk.2.2⟩ : _ ∧ k_ ≠ gb177))) (fun _ hk => hk.2) (.slice Ao20 t173.length co20)) (fun _ hk => hk.2) (.slice none 0 0)) (fun _ hk => hk.2) (.bool true)) (fun _ h_ => h_.1))) (Kd.R_base ho26) hb); have n1_ := Aside0.mk (Kd.N_elder' (by (with_reducible repeat (first | apply Kd.N_alloc | apply Kd.N_drewN | apply Kd.N_drew)); exact (Kd.N_mono (Kd.N_far (p := ⟨gb177, 2, none⟩) (Kd.N_far (p := ⟨gb177, 1, none⟩) (Kd.N_far (p := ⟨gb177, 0, none⟩) (Kd.N_mono HO_9.out (fun k_ hk => (⟨hk, hk.2⟩ : _ ∧ k_ ≠ gb177))) (fun _ hk => hk.2) (.slice Ao20 t173.length co20)) (fun _ hk => hk.2) (.slice none 0 0)) (fun _ hk => hk.2) (.bool true)) (fun _ h_ => h_.1))) (Kd.R_base ho26) hb); have n2_ := Aside0.mk (Kd.V_elder' (by (with_reducible repeat (first | apply Kd.V_alloc | apply Kd.V_drewN | apply Kd.V_drew)); exact (Kd.V_mono (Kd.V_far (p := ⟨gb177, 2, none⟩) (Kd.V_far (p := ⟨gb177, 1, none⟩) (Kd.V_far (p := ⟨gb177, 0, none⟩) (Kd.V_mono HL172_0.out (fun k_ hk => (⟨hk, hk.2.2⟩ : _ ∧ k_ ≠ gb177))) (fun _ hk => hk.2) (.slice Ao20 t173.length co20)) (fun _ hk => hk.2) (.slice none 0 0)) (fun _ hk => hk.2) (.bool true)) (fun _ h_ => h_.1))) (Kd.R_base ho26) hb); have n3_ := Aside0.mk (Kd.V_elder' (by (with_reducible repeat (first | apply Kd.V_alloc | apply Kd.V_drewN | apply Kd.V_drew)); exact (Kd.V_mono (Kd.V_far (p := ⟨gb177, 2, none⟩) (Kd.V_far (p := ⟨gb177, 1, none⟩) (Kd.V_far (p := ⟨gb177, 0, none⟩) (Kd.V_mono HL172_1.out (fun k_ hk => (⟨hk, hk.2.2⟩ : _ ∧ k_ ≠ gb177))) (fun _ hk => hk.2) (.slice Ao20 t173.length co20)) (fun _ hk => hk.2) (.slice none 0 0)) (fun _ hk => hk.2) (.bool true)) (fun _ h_ => h_.1))) (Kd.R_base ho26) hb); have n4_ := Aside0.mk (Kd.V_elder' (by (with_reducible repeat (first | apply Kd.V_alloc | apply Kd.V_drewN | apply Kd.V_drew)); exact (Kd.V_mono (Kd.V_far (p := ⟨gb177, 2, none⟩) (Kd.V_far (p := ⟨gb177, 1, none⟩) (Kd.V_far (p := ⟨gb177, 0, none⟩) (Kd.V_mono HL176_0.out (fun k_ hk => (⟨hk, hk.2.2⟩ : _ ∧ k_ ≠ gb177))) (fun _ hk => hk.2) (.slice Ao20 t173.length co20)) (fun _ hk => hk.2) (.slice none 0 0)) (fun _ hk => hk.2) (.bool true)) (fun _ h_ => h_.1))) (Kd.R_base ho26) hb); have n5_ := Aside0.mk (Kd.V_elder' (by (with_reducible repeat (first | apply Kd.V_alloc | apply Kd.V_drewN | apply Kd.V_drew)); exact (Kd.V_mono (Kd.V_far (p := ⟨gb177, 2, none⟩) (Kd.V_far (p := ⟨gb177, 1, none⟩) (Kd.V_far (p := ⟨gb177, 0, none⟩) (Kd.V_mono HL176_1.out (fun k_ hk => (⟨hk, hk.2.2⟩ : _ ∧ k_ ≠ gb177))) (fun _ hk => hk.2) (.slice Ao20 t173.length co20)) (fun _ hk => hk.2) (.slice none 0 0)) (fun _ hk => hk.2) (.bool true)) (fun _ h_ => h_.1))) (Kd.R_base ho26) hb); have n6_ := Aside0.mk (Kd.V_elder' (by (with_reducible repeat (first | apply Kd.V_alloc | apply Kd.V_drewN | apply Kd.V_drew)); exact (Kd.V_mono (Kd.V_far (p := ⟨gb177, 2, none⟩) (Kd.V_far (p := ⟨gb177, 1, none⟩) (Kd.V_far (p := ⟨gb177, 0, none⟩) (Kd.V_mono HO175.out (fun k_ hk => (⟨hk, hk.2.2⟩ : _ ∧ k_ ≠ gb177))) (fun _ hk => hk.2) (.slice Ao20 t173.length co20)) (fun _ hk => hk.2) (.slice none 0 0)) (fun _ hk => hk.2) (.bool true)) (fun _ h_ => h_.1))) (Kd.R_base ho26) hb); have n7_ := Aside0.mk (Kd.R_lower (Kd.R_newM (M := fun k_ => (w.heap.size ≤ k_)) ho26 (below_size (belS HB.out)) (fun k_ h_ => h_)) (below_size (belS HB.out))); have n8_ := Aside0.mk (blk_below (g := gb177) (o := .cells #[.slice Ao20 t173.length co20, .slice none 0 0, .bool true] 49 (0, 0)) (by (with_reducible repeat (first | refine blk_drewN ?_ _ | refine blk_drew ?_ | refine blk_alloc ?_ _)); refine blk_put (cs := #[.slice Ao20 t173.length co20, .slice none 0 0, .bool false]) ?_ 2 _ rfl; (with_reducible repeat (first | refine blk_drewN ?_ _ | refine blk_drew ?_ | refine blk_alloc ?_ _)); refine blk_put (cs := #[.slice Ao20 t173.length co20, .slice none 0 0, .bool false]) ?_ 1 _ rfl; (with_reducible repeat (first | refine blk_drewN ?_ _ | refine blk_drew ?_ | refine blk_alloc ?_ _)); refine blk_put (cs := #[.slice none 0 0, .slice none 0 0, .bool false]) ?_ 0 _ rfl; (with_reducible repeat (first | refine blk_drewN ?_ _ | refine blk_drew ?_ | refine blk_alloc ?_ _)); exact BK177.out) hb); have n9_ := Aside0.mk (below_step (belS HB.out) hb); clear HO_0; clear HO_9; clear HL172_0; clear HL172_1; clear HL176_0; clear HL176_1; clear HO175; clear BK177; clear HB; have HO_0 := n0_; have HO_9 := n1_; have HL172_0 := n2_; have HL172_1 := n3_; have HL176_0 := n4_; have HL176_1 := n5_; have HO175 := n6_; have HO180 := n7_; have BK177 := n8_; have HB := n9_; clear n0_ n1_ n2_ n3_ n4_ n5_ n6_ n7_ n8_ n9_; clear hb ho26; obtain ⟨Ao27, co27, eo27⟩ := Kd.R_slice HO180.out; subst eo27; have hcz28_0 : w25.cell? ⟨gb177, 0, none⟩ = some (.slice Ao20 t173.length co20) := (blk_cell BK177.out 0).trans rfl; have hcz28_1 : w25.cell? ⟨gb177, 1, none⟩ = some (.slice none 0 0) := (blk_cell BK177.out 1).trans rfl; have hcz28_2 : w25.cell? ⟨gb177, 2, none⟩ = some (.bool true) := (blk_cell BK177.out 2).trans rfl; have hfz28_0 := blk_frozen BK177.out 0; have hfz28_1 := blk_frozen BK177.out 1; have hfz28_2 := blk_frozen BK177.out 2) | ((with_reducible refine gate_store (t := 23) (p := 41) rfl ?_); refine store_event (t := 23) (p := 41) (v := ?vo_w29) (w1 := (w25.setCell ⟨gb177, 0, none⟩ (.slice Ao27 y178.length co27))) ?hg ?ho ?hn ?hr ?_; (case ho => rfl); (case hg => rfl); (case hn => rfl); (case hr => first | (go_simp; done) | (go_simp; rfl)); intro w29 hw; have n0_ : Aside0 (Kd.V k49 49 w29 w.heap.size (fun k_ => (P0_ k_ ∨ w.heap.size ≤ k_) ∧ some k_ ≠ (u9 : Value).ownBlock ∧ some k_ ≠ (.slice Ao27 y178.length co27 : Value).ownBlock ∧ k_ ≠ gb177) (.slice (some ad172) l0.length c0) l0) := ⟨(by rw [hw]; exact (by (with_reducible repeat (first | apply Kd.V_alloc | apply Kd.V_drewN | apply Kd.V_drew)); exact Kd.V_mono (Kd.V_far (p := ⟨gb177, 0, none⟩) (Kd.V_mono HO_0.out (fun k_ hk => (⟨hk, hk.1.2.2⟩ : _ ∧ k_ ≠ gb177))) (fun _ hk => hk.2) (.slice Ao27 y178.length co27)) (fun _ hk => ⟨hk.1.1.1, ⟨hk.1.1.2.1, ⟨hk.1.2, hk.1.1.2.2⟩⟩⟩)))⟩; have n1_ : Aside0 (Kd.N k49 49 w29 w.heap.size (fun k_ => (P0_ k_ ∨ w.heap.size ≤ k_) ∧ some k_ ≠ (.slice Ao27 y178.length co27 : Value).ownBlock ∧ k_ ≠ gb177) u9 x9_1) := ⟨(by rw [hw]; exact (by (with_reducible repeat (first | apply Kd.N_alloc | apply Kd.N_drewN | apply Kd.N_drew)); exact Kd.N_mono (Kd.N_far (p := ⟨gb177, 0, none⟩) (Kd.N_mono HO_9.out (fun k_ hk => (⟨hk, hk.1.2⟩ : _ ∧ k_ ≠ gb177))) (fun _ hk => hk.2) (.slice Ao27 y178.length co27)) (fun _ hk => ⟨hk.1.1.1, ⟨hk.1.2, hk.1.1.2⟩⟩)))⟩; have n2_ : Aside0 (Kd.V (Kd.int .u8) 5 w29 w.heap.size (fun k_ => (P0_ k_ ∨ w.heap.size ≤ k_) ∧ some k_ ≠ (u9 : Value).ownBlock ∧ some k_ ≠ (.slice Ao27 y178.length co27 : Value).ownBlock ∧ k_ ≠ gb177) (.slice A172_0 ((rd_T49 l0 x10_1).f0).length c172_0) ((rd_T49 l0 x10_1).f0)) := ⟨(by rw [hw]; exact (by (with_reducible repeat (first | apply Kd.V_alloc | apply Kd.V_drewN | apply Kd.V_drew)); exact Kd.V_mono (Kd.V_far (p := ⟨gb177, 0, none⟩) (Kd.V_mono HL172_0.out (fun k_ hk => (⟨hk, hk.1.2.2⟩ : _ ∧ k_ ≠ gb177))) (fun _ hk => hk.2) (.slice Ao27 y178.length co27)) (fun _ hk => ⟨hk.1.1.1, ⟨hk.1.1.2.1, ⟨hk.1.2, hk.1.1.2.2⟩⟩⟩)))⟩; have n3_ : Aside0 (Kd.V (Kd.int .u8) 5 w29 w.heap.size (fun k_ => (P0_ k_ ∨ w.heap.size ≤ k_) ∧ some k_ ≠ (u9 : Value).ownBlock ∧ some k_ ≠ (.slice Ao27 y178.length co27 : Value).ownBlock ∧ k_ ≠ gb177) (.slice A172_1 ((rd_T49 l0 x10_1).f1).length c172_1) ((rd_T49 l0 x10_1).f1)) := ⟨(by rw [hw]; exact (by (with_reducible repeat (first | apply Kd.V_alloc | apply Kd.V_drewN | apply Kd.V_drew)); exact Kd.V_mono (Kd.V_far (p := ⟨gb177, 0, none⟩) (Kd.V_mono HL172_1.out (fun k_ hk => (⟨hk, hk.1.2.2⟩ : _ ∧ k_ ≠ gb177))) (fun _ hk => hk.2) (.slice Ao27 y178.length co27)) (fun _ hk => ⟨hk.1.1.1, ⟨hk.1.1.2.1, ⟨hk.1.2, hk.1.1.2.2⟩⟩⟩)))⟩; have n4_ : Aside0 (Kd.V (Kd.int .u8) 5 w29 w.heap.size (fun k_ => (P0_ k_ ∨ w.heap.size ≤ k_) ∧ some k_ ≠ (u9 : Value).ownBlock ∧ some k_ ≠ (.slice Ao27 y178.length co27 : Value).ownBlock ∧ k_ ≠ gb177) (.slice A172_0 ((rd_T49 l0 x10_1).f0).length c172_0) ((rd_T49 l0 x10_1).f0)) := ⟨(by rw [hw]; exact (by (with_reducible repeat (first | apply Kd.V_alloc | apply Kd.V_drewN | apply Kd.V_drew)); exact Kd.V_mono (Kd.V_far (p := ⟨gb177, 0, none⟩) (Kd.V_mono HL176_0.out (fun k_ hk => (⟨hk, hk.1.2.2⟩ : _ ∧ k_ ≠ gb177))) (fun _ hk => hk.2) (.slice Ao27 y178.length co27)) (fun _ hk => ⟨hk.1.1.1, ⟨hk.1.1.2.1, ⟨hk.1.2, hk.1.1.2.2⟩⟩⟩)))⟩; have n5_ : Aside0 (Kd.V (Kd.int .u8) 5 w29 w.heap.size (fun k_ => (P0_ k_ ∨ w.heap.size ≤ k_) ∧ some k_ ≠ (u9 : Value).ownBlock ∧ some k_ ≠ (.slice Ao27 y178.length co27 : Value).ownBlock ∧ k_ ≠ gb177) (.slice A172_1 ((rd_T49 l0 x10_1).f1).length c172_1) ((rd_T49 l0 x10_1).f1)) := ⟨(by rw [hw]; exact (by (with_reducible repeat (first | apply Kd.V_alloc | apply Kd.V_drewN | apply Kd.V_drew)); exact Kd.V_mono (Kd.V_far (p := ⟨gb177, 0, none⟩) (Kd.V_mono HL176_1.out (fun k_ hk => (⟨hk, hk.1.2.2⟩ : _ ∧ k_ ≠ gb177))) (fun _ hk => hk.2) (.slice Ao27 y178.length co27)) (fun _ hk => ⟨hk.1.1.1, ⟨hk.1.1.2.1, ⟨hk.1.2, hk.1.1.2.2⟩⟩⟩)))⟩; have n6_ : Aside0 (Kd.V (Kd.int .u8) 5 w29 w.heap.size (fun k_ => (P0_ k_ ∨ w.heap.size ≤ k_) ∧ some k_ ≠ (u9 : Value).ownBlock ∧ some k_ ≠ (.slice Ao27 y178.length co27 : Value).ownBlock ∧ k_ ≠ gb177) (.slice Ao20 t173.length co20) t173) := ⟨(by rw [hw]; exact (by (with_reducible repeat (first | apply Kd.V_alloc | apply Kd.V_drewN | apply Kd.V_drew)); exact Kd.V_mono (Kd.V_far (p := ⟨gb177, 0, none⟩) (Kd.V_mono HO175.out (fun k_ hk => (⟨hk, hk.1.2.2⟩ : _ ∧ k_ ≠ gb177))) (fun _ hk => hk.2) (.slice Ao27 y178.length co27)) (fun _ hk => ⟨hk.1.1.1, ⟨hk.1.1.2.1, ⟨hk.1.2, hk.1.1.2.2⟩⟩⟩)))⟩; have n7_ : Aside0 (Kd.R (Kd.int .u8) 5 w29 w.heap.size (fun k_ => (w.heap.size ≤ k_)) (.slice Ao27 y178.length co27) y178) := ⟨(by rw [hw]; exact (by (with_reducible repeat (first | apply Kd.R_alloc | apply Kd.R_drewN | apply Kd.R_drew)); exact Kd.R_mono (Kd.R_far (p := ⟨gb177, 0, none⟩) (Kd.R_types HO180.out BK177.out (by decide)) (fun _ hk => hk.2) (.slice Ao27 y178.length co27)) (fun _ hk => hk.1.1)))⟩; have n8_ : Aside0 (w29.heap[gb177]? = some (.cells #[.slice Ao27 y178.length co27, .slice none 0 0, .bool true] 49 (0, 0))) := ⟨(by rw [hw]; exact (by (with_reducible repeat (first | refine blk_drewN ?_ _ | refine blk_drew ?_ | refine blk_alloc ?_ _)); refine blk_put (cs := #[.slice Ao20 t173.length co20, .slice none 0 0, .bool true]) ?_ 0 _ rfl; (with_reducible repeat (first | refine blk_drewN ?_ _ | refine blk_drew ?_ | refine blk_alloc ?_ _)); exact BK177.out))⟩; have n9_ : Aside0 (Below w.heap.size w w29) := ⟨(by rw [hw]; exact (belS HB.out))⟩; clear hw; clear HO_0; clear HO_9; clear HL172_0; clear HL172_1; clear HL176_0; clear HL176_1; clear HO175; clear HO180; clear BK177; clear HB; have HO_0 := n0_; have HO_9 := n1_; have HL172_0 := n2_; have HL172_1 := n3_; have HL176_0 := n4_; have HL176_1 := n5_; have HO175 := n6_; have HO180 := n7_; have BK177 := n8_; have HB := n9_; clear n0_ n1_ n2_ n3_ n4_ n5_ n6_ n7_ n8_ n9_; have hcz30_0 : w29.cell? ⟨gb177, 0, none⟩ = some (.slice Ao27 y178.length co27) := (blk_cell BK177.out 0).trans rfl; have hcz30_1 : w29.cell? ⟨gb177, 1, none⟩ = some (.slice none 0 0) := (blk_cell BK177.out 1).trans rfl; have hcz30_2 : w29.cell? ⟨gb177, 2, none⟩ = some (.bool true) := (blk_cell BK177.out 2).trans rfl; have hfz30_0 := blk_frozen BK177.out 0; have hfz30_1 := blk_frozen BK177.out 1; have hfz30_2 := blk_frozen BK177.out 2) | ((with_reducible refine gate_builtin (b := .append) (xs := #[.tmp 53, .tmp 55]) rfl ?_); at_builtin; refine Kd.N_append k49 (w0 := w) w.heap.size rfl (.tmp 53) (.tmp 55) 37 49 (.agg #[(.slice none 0 0), (.slice none 0 0), (.bool false)]) 56 rfl Try.underlying37 info49 rfl (by decide) (by omega) u9 x9_1 (⟨y178, ([] : List Int), true⟩ : S49) [.slice Ao27 y178.length co27, .slice none 0 0, .bool true] (fun k_ => (P0_ k_ ∨ w.heap.size ≤ k_) ∧ k_ ≠ gb177) (fun k_ => ((fun k_ => (P0_ k_ ∨ w.heap.size ≤ k_) ∧ k_ ≠ gb177)) k_ ∧ some k_ ≠ (u9 : Value).ownBlock) rfl rfl ?aP (fun _ hk => hk) ?aF ?aO ?aB ?aS ?aL ?_; (case aP => exact (k49_mkF _ _ (⟨y178, ([] : List Int), true⟩ : S49) (Kd.R_reads' (Kd.R_mono (ok' := (fun k_ => ((fun k_ => (P0_ k_ ∨ w.heap.size ≤ k_) ∧ k_ ≠ gb177)) k_ ∧ some k_ ≠ (u9 : Value).ownBlock)) (Kd.R_types (Kd.R_apart' (HO180.out) (Kd.N_typed HO_9.out) (by decide)) BK177.out (by decide)) (fun k_ hk => ⟨⟨(.inr (hk.1.1)), hk.2⟩, hk.1.2⟩))).2.1 (Kd.R_F (Kd.R_mono (ok' := (fun k_ => ((fun k_ => (P0_ k_ ∨ w.heap.size ≤ k_) ∧ k_ ≠ gb177)) k_ ∧ some k_ ≠ (u9 : Value).ownBlock)) (Kd.R_types (Kd.R_apart' (HO180.out) (Kd.N_typed HO_9.out) (by decide)) BK177.out (by decide)) (fun k_ hk => ⟨⟨(.inr (hk.1.1)), hk.2⟩, hk.1.2⟩))) (Nat.le_refl _) (Kd.F_nil _ _ _))); (case aB => exact (belS HB.out)); (case aF => exact (fun k_ hk => ⟨(.inr (Nat.le_trans (below_size (belS HB.out)) hk)), Kd.freshB (g := gb177) (o := .cells #[.slice Ao27 y178.length co27, .slice none 0 0, .bool true] 49 (0, 0)) (blkN BK177.out) k_ hk⟩)); (case aO => exact (by (with_reducible repeat (first | apply Kd.N_alloc | apply Kd.N_drewN | apply Kd.N_drew)); exact Kd.N_mono HO_9.out (fun _ hk => ⟨hk.1, hk.2.2⟩))); (case aS => exact (below_size (belS HB.out))); (case aL => have := LMc14.out; omega); intro v182 w31 ho hb hg hat; rw [← Ny181.out] at ho; have n0_ := Aside0.mk (Kd.V_afterv (ok := (fun k_ => (P0_ k_ ∨ w.heap.size ≤ k_) ∧ some k_ ≠ (.slice Ao27 y178.length co27 : Value).ownBlock ∧ k_ ≠ gb177)) (by (with_reducible repeat (first | apply Kd.V_alloc | apply Kd.V_drewN | apply Kd.V_drew)); exact Kd.V_mono HO_0.out (fun _ hk => ⟨⟨hk.1, ⟨hk.2.2.1, hk.2.2.2⟩⟩, hk.2.1⟩)) hg hat); have n1_ := Aside0.mk (Kd.V_afterv (ok := (fun k_ => (P0_ k_ ∨ w.heap.size ≤ k_) ∧ some k_ ≠ (.slice Ao27 y178.length co27 : Value).ownBlock ∧ k_ ≠ gb177)) (by (with_reducible repeat (first | apply Kd.V_alloc | apply Kd.V_drewN | apply Kd.V_drew)); exact Kd.V_mono HL172_0.out (fun _ hk => ⟨⟨hk.1, ⟨hk.2.2.1, hk.2.2.2⟩⟩, hk.2.1⟩)) hg hat); have n2_ := Aside0.mk (Kd.V_afterv (ok := (fun k_ => (P0_ k_ ∨ w.heap.size ≤ k_) ∧ some k_ ≠ (.slice Ao27 y178.length co27 : Value).ownBlock ∧ k_ ≠ gb177)) (by (with_reducible repeat (first | apply Kd.V_alloc | apply Kd.V_drewN | apply Kd.V_drew)); exact Kd.V_mono HL172_1.out (fun _ hk => ⟨⟨hk.1, ⟨hk.2.2.1, hk.2.2.2⟩⟩, hk.2.1⟩)) hg hat); have n3_ := Aside0.mk (Kd.V_afterv (ok := (fun k_ => (P0_ k_ ∨ w.heap.size ≤ k_) ∧ some k_ ≠ (.slice Ao27 y178.length co27 : Value).ownBlock ∧ k_ ≠ gb177)) (by (with_reducible repeat (first | apply Kd.V_alloc | apply Kd.V_drewN | apply Kd.V_drew)); exact Kd.V_mono HL176_0.out (fun _ hk => ⟨⟨hk.1, ⟨hk.2.2.1, hk.2.2.2⟩⟩, hk.2.1⟩)) hg hat); have n4_ := Aside0.mk (Kd.V_afterv (ok := (fun k_ => (P0_ k_ ∨ w.heap.size ≤ k_) ∧ some k_ ≠ (.slice Ao27 y178.length co27 : Value).ownBlock ∧ k_ ≠ gb177)) (by (with_reducible repeat (first | apply Kd.V_alloc | apply Kd.V_drewN | apply Kd.V_drew)); exact Kd.V_mono HL176_1.out (fun _ hk => ⟨⟨hk.1, ⟨hk.2.2.1, hk.2.2.2⟩⟩, hk.2.1⟩)) hg hat); have n5_ := Aside0.mk (Kd.V_afterv (ok := (fun k_ => (P0_ k_ ∨ w.heap.size ≤ k_) ∧ some k_ ≠ (.slice Ao27 y178.length co27 : Value).ownBlock ∧ k_ ≠ gb177)) (by (with_reducible repeat (first | apply Kd.V_alloc | apply Kd.V_drewN | apply Kd.V_drew)); exact Kd.V_mono HO175.out (fun _ hk => ⟨⟨hk.1, ⟨hk.2.2.1, hk.2.2.2⟩⟩, hk.2.1⟩)) hg hat); have n6_ := Aside0.mk (blk_grown (g := gb177) (o := .cells #[.slice Ao27 y178.length co27, .slice none 0 0, .bool true] 49 (0, 0)) (blkN BK177.out) hg (Kd.N_away HO_9.out (fun _ hk => hk.2.2))); have n7_ := Aside0.mk (hb); have n8_ := Aside0.mk (ho); clear HO_0; clear HL172_0; clear HL172_1; clear HL176_0; clear HL176_1; clear HO175; clear BK177; clear HB; clear HO_9; clear HO180; have HO_0 := n0_; have HL172_0 := n1_; have HL172_1 := n2_; have HL176_0 := n3_; have HL176_1 := n4_; have HO175 := n5_; have BK177 := n6_; have HB := n7_; have HO183 := n8_; clear n0_ n1_ n2_ n3_ n4_ n5_ n6_ n7_ n8_; clear ho hb hg hat))
           go_roundg kj4
           case measure => have := HK1.out; have := HJ4.out; omega
           case rel => exact ⟨(y181), (wrap64 (x10_1 + 1)), (by first | rfl | (simp; done) | (simp [*]; done)), H', ⟨by have := HK1.out; have := HJ4.out; omega⟩, ⟨by (with_reducible repeat (first | apply Kd.V_alloc | apply Kd.V_drewN | apply Kd.V_drew)); exact Kd.V_mono HO_0.out (fun _ hk => ⟨hk.1.1, hk.2⟩)⟩, ⟨by (with_reducible repeat (first | apply Kd.N_alloc | apply Kd.N_drewN | apply Kd.N_drew)); exact Kd.N_mono HO183.out (fun _ hk => hk.1)⟩, ⟨(belS HB.out)⟩⟩
          ·rw [if_neg c14] at H
           exact absurd H (by simp)
         ·replace c13 := Bool.eq_false_iff.mpr c13
          subst c13
          have H1 : ((marigraphkeep_Cut.f ((rd_T49 l0 x10_1).f1) a3).bind fun t185 => (if x9_1.length < 2513169434916 then (marigraphkeep_Entries.l0 kj4 l0 a1 a2 a3 (x9_1 ++ [(⟨y178, t185, false⟩ : S49)]) (wrap64 (x10_1 + 1))) else (none))) = some r := by rw [if_neg (show ¬ (false = true) by decide)] at H; exact H
          clear H
          have H := H1
          clear H1
          replace H := Option.bind_eq_some_iff.mp H
          obtain ⟨t185, A320, H⟩ := H
          replace H : (if x9_1.length < 2513169434916 then (marigraphkeep_Entries.l0 kj4 l0 a1 a2 a3 (x9_1 ++ [(⟨y178, t185, false⟩ : S49)]) (wrap64 (x10_1 + 1))) else (none)) = some r := H
          have A32 := Aside0.mk A320
          clear A320
          by_cases c33 : x9_1.length < 2513169434916
          ·rw [if_pos c33] at H
           have LMc33 := Aside0.mk c33
           clear c33
           obtain ⟨y188, hy188⟩ : ∃ y_ : List (S49), y_ = (x9_1 ++ [(⟨y178, t185, false⟩ : S49)]) := ⟨_, rfl⟩
           replace H : (marigraphkeep_Entries.l0 kj4 l0 a1 a2 a3 y188 (wrap64 (x10_1 + 1))) = some r := by first | (rw [hy188]; with_reducible exact H) | (have H2_ := (Option.bind_some _ _).symm.trans H; rw [hy188]; with_reducible exact H2_) | (have H2_ := (Option.bind_some _ _).symm.trans H; with_reducible exact H2_) | with_reducible exact H | (rw [hy188]; exact H) | exact H
           have Ny188 := Aside0.mk hy188
           clear hy188
           have H' := Aside0.mk H
           clear H
           try go_wp2
           have n0_ := Aside0.mk (Kd.V_drew HO_0.out)
           have n1_ := Aside0.mk (Kd.N_drew HO_9.out)
           have n2_ := Aside0.mk (below_drew1 HB.out)
           clear HO_0
           clear HO_9
           clear HB
           have HO_0 := n0_
           have HO_9 := n1_
           have HB := n2_
           clear n0_ n1_ n2_
           have p172 : 0 ≤ (x10_1 : Int) := of_decide_eq_true (by first | (with_reducible assumption) | assumption)
           have q172 : x10_1 < (l0.length : Int) := of_decide_eq_true (by first | (with_reducible assumption) | assumption)
           obtain ⟨ad172, A172_0, c172_0, A172_1, c172_1, e172, hx172_0, hx172_1, hx172_2, hl172_0, hi172_0, hl172_1, hi172_1⟩ := at_T49 (Kd.V_reads' HO_0.out).2.2 x10_1 p172 q172
           (try rw [← Nbq12.out] at hx172_2)
           cases e172
           obtain ⟨ce172, hce172, hMe172, hcc172⟩ := Kd.V_get HO_0.out z49 x10_1 p172 (by first | exact q172 | exact of_decide_eq_true (by first | (with_reducible assumption) | assumption) | (have e_ := (Kd.V_reads' HO_0.out).1; omega))
           obtain ⟨ua172_0, uc172_0, ua172_1, uc172_1, rfl, ul172_0, ge172_0, ul172_1, ge172_1⟩ := k49_openF hMe172
           have hv172_0 := hcc172 0 _ rfl
           rw [Nat.add_zero] at hv172_0
           replace hv172_0 := Option.some.inj (hv172_0.symm.trans hx172_0)
           injection hv172_0 with hva_ hvn_ hvc_
           rw [hva_] at ge172_0
           rw [hvc_] at ul172_0
           have HL172_0 := Aside0.mk (show Kd.V (Kd.int .u8) 5 _ w.heap.size _ _ ((rd_T49 l0 x10_1).f0) from Kd.V_mk ul172_0 ge172_0)
           clear hva_ hvn_ hvc_ ge172_0 ul172_0
           have hv172_1 := hcc172 1 _ rfl
           rw [add_field _ _ 1 (by omega)] at hv172_1
           replace hv172_1 := Option.some.inj (hv172_1.symm.trans hx172_1)
           injection hv172_1 with hva_ hvn_ hvc_
           rw [hva_] at ge172_1
           rw [hvc_] at ul172_1
           have HL172_1 := Aside0.mk (show Kd.V (Kd.int .u8) 5 _ w.heap.size _ _ ((rd_T49 l0 x10_1).f1) from Kd.V_mk ul172_1 ge172_1)
           clear hva_ hvn_ hvc_ ge172_1 ul172_1
           clear hcc172 hce172
           have HR172_0 := Aside0.mk hi172_0
           have HC172_0 := Aside0.mk hl172_0
           clear hi172_0 hl172_0
           have HR172_1 := Aside0.mk hi172_1
           have HC172_1 := Aside0.mk hl172_1
           clear hi172_1 hl172_1
           replace p172 := eq_true p172
           replace q172 := eq_true q172
           have p176 : 0 ≤ (x10_1 : Int) := of_decide_eq_true (by first | (with_reducible assumption) | assumption)
           have q176 : x10_1 < (l0.length : Int) := of_decide_eq_true (by first | (with_reducible assumption) | assumption)
           obtain ⟨ad176, A176_0, c176_0, A176_1, c176_1, e176, hx176_0, hx176_1, hx176_2, hl176_0, hi176_0, hl176_1, hi176_1⟩ := at_T49 (Kd.V_reads' HO_0.out).2.2 x10_1 p176 q176
           (try rw [← Nbq12.out] at hx176_2)
           obtain rfl : ad172 = ad176 := (by injection e176)
           obtain ⟨ce176, hce176, hMe176, hcc176⟩ := Kd.V_get HO_0.out z49 x10_1 p176 (by first | exact q176 | exact of_decide_eq_true (by first | (with_reducible assumption) | assumption) | (have e_ := (Kd.V_reads' HO_0.out).1; omega))
           obtain ⟨ua176_0, uc176_0, ua176_1, uc176_1, rfl, ul176_0, ge176_0, ul176_1, ge176_1⟩ := k49_openF hMe176
           have hv176_0 := hcc176 0 _ rfl
           rw [Nat.add_zero] at hv176_0
           replace hv176_0 := Option.some.inj (hv176_0.symm.trans hx176_0)
           injection hv176_0 with hva_ hvn_ hvc_
           rw [hva_] at ge176_0
           rw [hvc_] at ul176_0
           have HL176_0 := Aside0.mk (show Kd.V (Kd.int .u8) 5 _ w.heap.size _ _ ((rd_T49 l0 x10_1).f0) from Kd.V_mk ul176_0 ge176_0)
           clear hva_ hvn_ hvc_ ge176_0 ul176_0
           have hv176_1 := hcc176 1 _ rfl
           rw [add_field _ _ 1 (by omega)] at hv176_1
           replace hv176_1 := Option.some.inj (hv176_1.symm.trans hx176_1)
           injection hv176_1 with hva_ hvn_ hvc_
           rw [hva_] at ge176_1
           rw [hvc_] at ul176_1
           have HL176_1 := Aside0.mk (show Kd.V (Kd.int .u8) 5 _ w.heap.size _ _ ((rd_T49 l0 x10_1).f1) from Kd.V_mk ul176_1 ge176_1)
           clear hva_ hvn_ hvc_ ge176_1 ul176_1
           clear hcc176 hce176
           have HR176_0 := Aside0.mk hi176_0
           have HC176_0 := Aside0.mk hl176_0
           clear hi176_0 hl176_0
           have HR176_1 := Aside0.mk hi176_1
           have HC176_1 := Aside0.mk hl176_1
           clear hi176_1 hl176_1
           replace p176 := eq_true p176
           replace q176 := eq_true q176
           have ea_ := Option.some.inj (hx172_0.symm.trans hx176_0)
           injection ea_ with ea_ en_ ec_
           subst ea_
           subst ec_
           clear en_
           have ea_ := Option.some.inj (hx172_1.symm.trans hx176_1)
           injection ea_ with ea_ en_ ec_
           subst ea_
           subst ec_
           clear en_
           refine start_ (n := 15) (S := fun w' => w'.cell? (ad172.add ((x10_1).toNat * 3)) = some (.slice A172_0 ((rd_T49 l0 x10_1).f0).length c172_0) ∧ w'.cell? ⟨(ad172.add ((x10_1).toNat * 3)).block, (ad172.add ((x10_1).toNat * 3)).off + 1, none⟩ = some (.slice A172_1 ((rd_T49 l0 x10_1).f1).length c172_1) ∧ w'.cell? ⟨(ad172.add ((x10_1).toNat * 3)).block, (ad172.add ((x10_1).toNat * 3)).off + 2, none⟩ = some (.bool false) ∧ w'.cell? (ad172.add ((x10_1).toNat * 3)) = some (.slice A172_0 ((rd_T49 l0 x10_1).f0).length c172_0) ∧ w'.cell? ⟨(ad172.add ((x10_1).toNat * 3)).block, (ad172.add ((x10_1).toNat * 3)).off + 1, none⟩ = some (.slice A172_1 ((rd_T49 l0 x10_1).f1).length c172_1) ∧ w'.cell? ⟨(ad172.add ((x10_1).toNat * 3)).block, (ad172.add ((x10_1).toNat * 3)).off + 2, none⟩ = some (.bool false)) (ds := []) #[false, false, false, false, false, false, false, false, false, false, false, false, false, false, false] (by kernel_rfl) rfl rfl ⟨hx172_0, hx172_1, hx172_2, hx176_0, hx176_1, hx176_2⟩ (fun hHeld => ?_); refine with_tabW marigraphkeep_Entries.tab5 marigraphkeep_Entries.bits5 (fun HT_ HW_ => ?_)
           generalize wc.drew = w34 at HO_0 HO_9 HB HL172_0 HL172_1 HL176_0 HL176_1 HR172_0 HR172_1 HR176_0 HR176_1 hx172_0 hx172_1 hx172_2 hx176_0 hx176_1 hx176_2 hHeld ⊢
           refine pA 0 (some 23) (bA 15 1) HT_.out ?_
           refine pA 1 (some 24) (bA 15 3) HT_.out ?_
           refine pA 2 (some 25) (bA 15 7) HT_.out ?_
           refine pA 3 (some 26) (bA 15 15) HT_.out ?_
           refine pA 5 (some 28) (bA 15 47) HT_.out ?_
           refine pA 7 (some 30) (bA 15 175) HT_.out ?_
           refine pA 8 (some 31) (bA 15 431) HT_.out ?_
           refine pA 9 (some 32) (bA 15 943) HT_.out ?_
           refine pA 10 (some 33) (bA 15 1967) HT_.out ?_
           refine take_ (i := 4) (N := some 27) (v := ?_) (a' := ?_) (bA 15 1983) rfl rfl (take_ofW HT_.out HW_.out (by kernel_rfl)) (fun _ _ _ h => h) (Or.inl ⟨by rfl, ?_⟩) hHeld ?_ ?_
           rotate_left
           ·rintro w' ⟨s0, s1, s2, s3, s4, s5⟩
            go_simp
            with_reducible rfl
           rotate_left
           ·simp only [Act.put, List.setIfInBounds_toArray, List.set_cons_zero, List.set_cons_succ, i64_w, i32_w]
            rfl
           refine take_ (i := 11) (N := some 34) (v := ?_) (a' := ?_) (bA 15 4031) rfl rfl (take_ofW HT_.out HW_.out (by kernel_rfl)) (fun _ _ _ h => h) (Or.inl ⟨by rfl, ?_⟩) hHeld ?_ ?_
           rotate_left
           ·rintro w' ⟨s0, s1, s2, s3, s4, s5⟩
            go_simp
            with_reducible rfl
           rotate_left
           ·simp only [Act.put, List.setIfInBounds_toArray, List.set_cons_zero, List.set_cons_succ, i64_w, i32_w]
            rfl
           refine join_ (σ := Value × Nat) 1 (bA 15 16383) (fun s_ => [(29, s_.1), (11, .pointer (some ⟨s_.2, 0, none⟩)), (35, .agg #[s_.1, .slice none 0 0, .bool false])]) (fun s_ w' => (w'.cell? (ad172.add ((x10_1).toNat * 3)) = some (.slice A172_0 ((rd_T49 l0 x10_1).f0).length c172_0) ∧ w'.cell? ⟨(ad172.add ((x10_1).toNat * 3)).block, (ad172.add ((x10_1).toNat * 3)).off + 1, none⟩ = some (.slice A172_1 ((rd_T49 l0 x10_1).f1).length c172_1) ∧ w'.cell? ⟨(ad172.add ((x10_1).toNat * 3)).block, (ad172.add ((x10_1).toNat * 3)).off + 2, none⟩ = some (.bool false) ∧ w'.cell? (ad172.add ((x10_1).toNat * 3)) = some (.slice A172_0 ((rd_T49 l0 x10_1).f0).length c172_0) ∧ w'.cell? ⟨(ad172.add ((x10_1).toNat * 3)).block, (ad172.add ((x10_1).toNat * 3)).off + 1, none⟩ = some (.slice A172_1 ((rd_T49 l0 x10_1).f1).length c172_1) ∧ w'.cell? ⟨(ad172.add ((x10_1).toNat * 3)).block, (ad172.add ((x10_1).toNat * 3)).off + 2, none⟩ = some (.bool false)) ∧ (Kd.V (Kd.int .u8) 5 w' w.heap.size (fun k_ => (P0_ k_ ∨ w.heap.size ≤ k_) ∧ some k_ ≠ (u9 : Value).ownBlock ∧ k_ ≠ s_.2) (.slice A172_0 ((rd_T49 l0 x10_1).f0).length c172_0) ((rd_T49 l0 x10_1).f0)) ∧ (Kd.V (Kd.int .u8) 5 w' w.heap.size (fun k_ => (P0_ k_ ∨ w.heap.size ≤ k_) ∧ some k_ ≠ (u9 : Value).ownBlock ∧ k_ ≠ s_.2) (.slice A172_1 ((rd_T49 l0 x10_1).f1).length c172_1) ((rd_T49 l0 x10_1).f1)) ∧ (Kd.V (Kd.int .u8) 5 w' w.heap.size (fun k_ => (P0_ k_ ∨ w.heap.size ≤ k_) ∧ some k_ ≠ (u9 : Value).ownBlock ∧ k_ ≠ s_.2) (.slice A172_0 ((rd_T49 l0 x10_1).f0).length c172_0) ((rd_T49 l0 x10_1).f0)) ∧ (Kd.V (Kd.int .u8) 5 w' w.heap.size (fun k_ => (P0_ k_ ∨ w.heap.size ≤ k_) ∧ some k_ ≠ (u9 : Value).ownBlock ∧ k_ ≠ s_.2) (.slice A172_1 ((rd_T49 l0 x10_1).f1).length c172_1) ((rd_T49 l0 x10_1).f1)) ∧ (Kd.V (Kd.int .u8) 5 w' w.heap.size (fun k_ => (P0_ k_ ∨ w.heap.size ≤ k_) ∧ some k_ ≠ (u9 : Value).ownBlock ∧ k_ ≠ s_.2) s_.1 t173) ∧ (Kd.V k49 49 w' w.heap.size (fun k_ => (P0_ k_ ∨ w.heap.size ≤ k_) ∧ some k_ ≠ (u9 : Value).ownBlock ∧ k_ ≠ s_.2) (.slice (some ad172) l0.length c0) l0) ∧ (Kd.N k49 49 w' w.heap.size (fun k_ => (P0_ k_ ∨ w.heap.size ≤ k_) ∧ k_ ≠ s_.2) u9 x9_1) ∧ (w'.heap[s_.2]? = some (.cells #[.slice none 0 0, .slice none 0 0, .bool false] 49 (0, 0))) ∧ (w.heap.size ≤ s_.2) ∧ (w.heap.size ≤ s_.2) ∧ (Below w.heap.size w w')) ?_ ?_
           rotate_left
           ·intro hCont
            refine two_ (i := 6) (j := 13) (Ni := some 29) (Nj := some 11) (bA 15 4095) (bA 15 12223) rfl rfl rfl rfl (two_of HT_.out (by kernel_rfl)) (by decide) (by decide) (fun K hK => ?_) (fun K hK => ?_)
            ·skip
             refine goes_ Try.func14 (by kernel_rfl) rfl #[.slice A172_0 ((rd_T49 l0 x10_1).f0).length c172_0, .int .i64 a2] (by rfl) rfl rfl argN ?_
             with_reducible refine (marigraphkeep_Cut.calls (fun k_ => ((P0_ k_ ∨ w.heap.size ≤ k_) ∧ some k_ ≠ (u9 : Value).ownBlock)) _ _ ((rd_T49 l0 x10_1).f0) a2 t173 _ ?side1 A10.out).mono ?_
             (case side1 => exact HL172_0.out)
             rintro e w35 ⟨v174, rfl, ho0, hb⟩
             have HS0_ := (hb.cell (World.block_lt_of_cell? _ _ (hHeld.1))).trans (hHeld.1)
             have HS1_ := (hb.cell (World.block_lt_of_cell? _ _ (hHeld.2.1))).trans (hHeld.2.1)
             have HS2_ := (hb.cell (World.block_lt_of_cell? _ _ (hHeld.2.2.1))).trans (hHeld.2.2.1)
             have HS3_ := (hb.cell (World.block_lt_of_cell? _ _ (hHeld.2.2.2.1))).trans (hHeld.2.2.2.1)
             have HS4_ := (hb.cell (World.block_lt_of_cell? _ _ (hHeld.2.2.2.2.1))).trans (hHeld.2.2.2.2.1)
             have HS5_ := (hb.cell (World.block_lt_of_cell? _ _ (hHeld.2.2.2.2.2))).trans (hHeld.2.2.2.2.2)
             refine ⟨_, rfl, ?_⟩
             have n0_ := Aside0.mk (Kd.V_below (by (with_reducible repeat (first | apply Kd.V_alloc | apply Kd.V_drewN | apply Kd.V_drew)); exact HO_0.out) hb)
             have n1_ := Aside0.mk (Kd.N_below (by (with_reducible repeat (first | apply Kd.N_alloc | apply Kd.N_drewN | apply Kd.N_drew)); exact HO_9.out) hb)
             have n2_ := Aside0.mk (Kd.V_below (by (with_reducible repeat (first | apply Kd.V_alloc | apply Kd.V_drewN | apply Kd.V_drew)); exact HL172_0.out) hb)
             have n3_ := Aside0.mk (Kd.V_below (by (with_reducible repeat (first | apply Kd.V_alloc | apply Kd.V_drewN | apply Kd.V_drew)); exact HL172_1.out) hb)
             have n4_ := Aside0.mk (Kd.V_below (by (with_reducible repeat (first | apply Kd.V_alloc | apply Kd.V_drewN | apply Kd.V_drew)); exact HL176_0.out) hb)
             have n5_ := Aside0.mk (Kd.V_below (by (with_reducible repeat (first | apply Kd.V_alloc | apply Kd.V_drewN | apply Kd.V_drew)); exact HL176_1.out) hb)
             have n6_ := Aside0.mk (Kd.V_lower (Kd.V_mono (ok' := fun k_ => (P0_ k_ ∨ w.heap.size ≤ k_) ∧ some k_ ≠ (u9 : Value).ownBlock) ho0 (fun k_ hk_ => ⟨Or.elim hk_ (fun hs_ => hs_.1) (fun hn_ => (.inr (Nat.le_trans (below_size (belN HB.out)) hn_))), Or.elim hk_ (fun hs_ => hs_.2) (fun hn_ => (Kd.fresh' (Kd.N_lt (by (with_reducible repeat (first | apply Kd.N_alloc | apply Kd.N_drewN | apply Kd.N_drew)); exact HO_9.out)) k_ hn_))⟩)) (below_size (belN HB.out)))
             have n7_ := Aside0.mk (cbN HR172_0.out hb)
             have n8_ := Aside0.mk (cbN HR172_1.out hb)
             have n9_ := Aside0.mk (cbN HR176_0.out hb)
             have n10_ := Aside0.mk (cbN HR176_1.out hb)
             have n11_ := Aside0.mk (below_step (belN HB.out) hb)
             clear HO_0
             clear HO_9
             clear HL172_0
             clear HL172_1
             clear HL176_0
             clear HL176_1
             clear HR172_0
             clear HR172_1
             clear HR176_0
             clear HR176_1
             clear HB
             have HO_0 := n0_
             have HO_9 := n1_
             have HL172_0 := n2_
             have HL172_1 := n3_
             have HL176_0 := n4_
             have HL176_1 := n5_
             have HO175 := n6_
             have HR172_0 := n7_
             have HR172_1 := n8_
             have HR176_0 := n9_
             have HR176_1 := n10_
             have HB := n11_
             clear n0_ n1_ n2_ n3_ n4_ n5_ n6_ n7_ n8_ n9_ n10_ n11_
             (try clear hb)
             (try clear hk)
             (try clear ho0)
             obtain ⟨Ao36, co36, eo36⟩ := Kd.V_slice HO175.out
             (first | subst eo36 | (injection eo36 with f1_ f2_ f3_; have f4_ := f1_.symm; have f5_ := f3_.symm; clear f1_ f2_ f3_; subst f4_; subst f5_))
             refine hK.out _ _ ⟨HS0_, HS1_, HS2_, HS3_, HS4_, HS5_⟩ (fun hHeld => ?_)
             clear hK K
             refine norm_ (a' := ?_) ?_ ?_
             rotate_left
             ·show Act.put _ (some 29) _ = _
              simp only [Act.put, List.setIfInBounds_toArray, List.set_cons_zero, List.set_cons_succ, i64_w, i32_w]
              rfl
             refine pA 12 (some 35) (bA 15 8191) HT_.out ?_
             refine one_ (i := 13) (N := some 11) (bA 15 16383) rfl rfl (one_of HT_.out (by kernel_rfl)) (by decide) (fun K hK => ?_)
             refine box_step ?hg (N := 11) ?hd (cs := #[.slice none 0 0, .slice none 0 0, .bool false]) (t := 49) ?hr ?_; (case hd => rfl); (case hg => rfl); (case hr => first | (go_simp; done) | (go_simp; rfl))
             intro gb177 hg w37 hbox hb
             have HS0_ := (hb.cell (World.block_lt_of_cell? _ _ (hHeld.1))).trans (hHeld.1)
             have HS1_ := (hb.cell (World.block_lt_of_cell? _ _ (hHeld.2.1))).trans (hHeld.2.1)
             have HS2_ := (hb.cell (World.block_lt_of_cell? _ _ (hHeld.2.2.1))).trans (hHeld.2.2.1)
             have HS3_ := (hb.cell (World.block_lt_of_cell? _ _ (hHeld.2.2.2.1))).trans (hHeld.2.2.2.1)
             have HS4_ := (hb.cell (World.block_lt_of_cell? _ _ (hHeld.2.2.2.2.1))).trans (hHeld.2.2.2.2.1)
             have HS5_ := (hb.cell (World.block_lt_of_cell? _ _ (hHeld.2.2.2.2.2))).trans (hHeld.2.2.2.2.2)
             have n0_ := Aside0.mk (Kd.V_below (Kd.V_elderB (by (with_reducible repeat (first | apply Kd.V_alloc | apply Kd.V_drewN | apply Kd.V_drew)); exact HO_0.out) gb177 (Nat.le_of_eq hg.symm)) hb)
             have n1_ := Aside0.mk (Kd.N_below (Kd.N_elderB (by (with_reducible repeat (first | apply Kd.N_alloc | apply Kd.N_drewN | apply Kd.N_drew)); exact HO_9.out) gb177 (Nat.le_of_eq hg.symm)) hb)
             have n2_ := Aside0.mk (Kd.V_below (Kd.V_elderB (by (with_reducible repeat (first | apply Kd.V_alloc | apply Kd.V_drewN | apply Kd.V_drew)); exact HL172_0.out) gb177 (Nat.le_of_eq hg.symm)) hb)
             have n3_ := Aside0.mk (Kd.V_below (Kd.V_elderB (by (with_reducible repeat (first | apply Kd.V_alloc | apply Kd.V_drewN | apply Kd.V_drew)); exact HL172_1.out) gb177 (Nat.le_of_eq hg.symm)) hb)
             have n4_ := Aside0.mk (Kd.V_below (Kd.V_elderB (by (with_reducible repeat (first | apply Kd.V_alloc | apply Kd.V_drewN | apply Kd.V_drew)); exact HL176_0.out) gb177 (Nat.le_of_eq hg.symm)) hb)
             have n5_ := Aside0.mk (Kd.V_below (Kd.V_elderB (by (with_reducible repeat (first | apply Kd.V_alloc | apply Kd.V_drewN | apply Kd.V_drew)); exact HL176_1.out) gb177 (Nat.le_of_eq hg.symm)) hb)
             have n6_ := Aside0.mk (Kd.V_below (Kd.V_elderB (by (with_reducible repeat (first | apply Kd.V_alloc | apply Kd.V_drewN | apply Kd.V_drew)); exact HO175.out) gb177 (Nat.le_of_eq hg.symm)) hb)
             have n7_ := Aside0.mk (cbN HR172_0.out hb)
             have n8_ := Aside0.mk (cbN HR172_1.out hb)
             have n9_ := Aside0.mk (cbN HR176_0.out hb)
             have n10_ := Aside0.mk (cbN HR176_1.out hb)
             have n11_ := Aside0.mk (below_step (belN HB.out) hb)
             have n12_ := Aside0.mk (hbox)
             have n13_ := Aside0.mk (szB hg HB.out)
             have n14_ := Aside0.mk (szB hg HB.out)
             clear HO_0
             clear HO_9
             clear HL172_0
             clear HL172_1
             clear HL176_0
             clear HL176_1
             clear HO175
             clear HR172_0
             clear HR172_1
             clear HR176_0
             clear HR176_1
             clear HB
             have HO_0 := n0_
             have HO_9 := n1_
             have HL172_0 := n2_
             have HL172_1 := n3_
             have HL176_0 := n4_
             have HL176_1 := n5_
             have HO175 := n6_
             have HR172_0 := n7_
             have HR172_1 := n8_
             have HR176_0 := n9_
             have HR176_1 := n10_
             have HB := n11_
             have BK177 := n12_
             have GW177 := n13_
             have GE177 := n14_
             clear n0_ n1_ n2_ n3_ n4_ n5_ n6_ n7_ n8_ n9_ n10_ n11_ n12_ n13_ n14_
             clear hb hbox hg
             refine hK.out _ _ ⟨HS0_, HS1_, HS2_, HS3_, HS4_, HS5_⟩ (fun hHeld => ?_)
             clear hK K
             refine norm_ (a' := ?_) ?_ ?_
             rotate_left
             ·show Act.put _ (some 11) _ = _
              simp only [Act.put, List.setIfInBounds_toArray, List.set_cons_zero, List.set_cons_succ, i64_w, i32_w]
              rfl
             exact norm_ (by simp only [putAll, Act.put, List.setIfInBounds_toArray, List.set_cons_zero, List.set_cons_succ]) (hCont (.slice Ao36 t173.length co36, gb177) _ ⟨hHeld, (by (with_reducible repeat (first | apply Kd.V_alloc | apply Kd.V_drewN | apply Kd.V_drew)); exact Kd.V_mono HL172_0.out (fun _ hk => ⟨hk.1.1, ⟨hk.1.2, hk.2⟩⟩)), (by (with_reducible repeat (first | apply Kd.V_alloc | apply Kd.V_drewN | apply Kd.V_drew)); exact Kd.V_mono HL172_1.out (fun _ hk => ⟨hk.1.1, ⟨hk.1.2, hk.2⟩⟩)), (by (with_reducible repeat (first | apply Kd.V_alloc | apply Kd.V_drewN | apply Kd.V_drew)); exact Kd.V_mono HL176_0.out (fun _ hk => ⟨hk.1.1, ⟨hk.1.2, hk.2⟩⟩)), (by (with_reducible repeat (first | apply Kd.V_alloc | apply Kd.V_drewN | apply Kd.V_drew)); exact Kd.V_mono HL176_1.out (fun _ hk => ⟨hk.1.1, ⟨hk.1.2, hk.2⟩⟩)), (by (with_reducible repeat (first | apply Kd.V_alloc | apply Kd.V_drewN | apply Kd.V_drew)); exact Kd.V_mono HO175.out (fun _ hk => ⟨hk.1.1, ⟨hk.1.2, hk.2⟩⟩)), (by (with_reducible repeat (first | apply Kd.V_alloc | apply Kd.V_drewN | apply Kd.V_drew)); exact Kd.V_mono HO_0.out (fun _ hk => ⟨hk.1.1, ⟨hk.1.2, hk.2⟩⟩)), (by (with_reducible repeat (first | apply Kd.N_alloc | apply Kd.N_drewN | apply Kd.N_drew)); exact HO_9.out), (blkN BK177.out), GW177.out, GE177.out, (belS HB.out)⟩)
            ·skip
             refine box_step ?hg (N := 11) ?hd (cs := #[.slice none 0 0, .slice none 0 0, .bool false]) (t := 49) ?hr ?_; (case hd => rfl); (case hg => rfl); (case hr => first | (go_simp; done) | (go_simp; rfl))
             intro gb177 hg w35 hbox hb
             have HS0_ := (hb.cell (World.block_lt_of_cell? _ _ (hHeld.1))).trans (hHeld.1)
             have HS1_ := (hb.cell (World.block_lt_of_cell? _ _ (hHeld.2.1))).trans (hHeld.2.1)
             have HS2_ := (hb.cell (World.block_lt_of_cell? _ _ (hHeld.2.2.1))).trans (hHeld.2.2.1)
             have HS3_ := (hb.cell (World.block_lt_of_cell? _ _ (hHeld.2.2.2.1))).trans (hHeld.2.2.2.1)
             have HS4_ := (hb.cell (World.block_lt_of_cell? _ _ (hHeld.2.2.2.2.1))).trans (hHeld.2.2.2.2.1)
             have HS5_ := (hb.cell (World.block_lt_of_cell? _ _ (hHeld.2.2.2.2.2))).trans (hHeld.2.2.2.2.2)
             have n0_ := Aside0.mk (Kd.V_below (Kd.V_elderB (by (with_reducible repeat (first | apply Kd.V_alloc | apply Kd.V_drewN | apply Kd.V_drew)); exact HO_0.out) gb177 (Nat.le_of_eq hg.symm)) hb)
             have n1_ := Aside0.mk (Kd.N_below (Kd.N_elderB (by (with_reducible repeat (first | apply Kd.N_alloc | apply Kd.N_drewN | apply Kd.N_drew)); exact HO_9.out) gb177 (Nat.le_of_eq hg.symm)) hb)
             have n2_ := Aside0.mk (Kd.V_below (Kd.V_elderB (by (with_reducible repeat (first | apply Kd.V_alloc | apply Kd.V_drewN | apply Kd.V_drew)); exact HL172_0.out) gb177 (Nat.le_of_eq hg.symm)) hb)
             have n3_ := Aside0.mk (Kd.V_below (Kd.V_elderB (by (with_reducible repeat (first | apply Kd.V_alloc | apply Kd.V_drewN | apply Kd.V_drew)); exact HL172_1.out) gb177 (Nat.le_of_eq hg.symm)) hb)
             have n4_ := Aside0.mk (Kd.V_below (Kd.V_elderB (by (with_reducible repeat (first | apply Kd.V_alloc | apply Kd.V_drewN | apply Kd.V_drew)); exact HL176_0.out) gb177 (Nat.le_of_eq hg.symm)) hb)
             have n5_ := Aside0.mk (Kd.V_below (Kd.V_elderB (by (with_reducible repeat (first | apply Kd.V_alloc | apply Kd.V_drewN | apply Kd.V_drew)); exact HL176_1.out) gb177 (Nat.le_of_eq hg.symm)) hb)
             have n6_ := Aside0.mk (cbN HR172_0.out hb)
             have n7_ := Aside0.mk (cbN HR172_1.out hb)
             have n8_ := Aside0.mk (cbN HR176_0.out hb)
             have n9_ := Aside0.mk (cbN HR176_1.out hb)
             have n10_ := Aside0.mk (below_step (belN HB.out) hb)
             have n11_ := Aside0.mk (hbox)
             have n12_ := Aside0.mk (szB hg HB.out)
             have n13_ := Aside0.mk (szB hg HB.out)
             clear HO_0
             clear HO_9
             clear HL172_0
             clear HL172_1
             clear HL176_0
             clear HL176_1
             clear HR172_0
             clear HR172_1
             clear HR176_0
             clear HR176_1
             clear HB
             have HO_0 := n0_
             have HO_9 := n1_
             have HL172_0 := n2_
             have HL172_1 := n3_
             have HL176_0 := n4_
             have HL176_1 := n5_
             have HR172_0 := n6_
             have HR172_1 := n7_
             have HR176_0 := n8_
             have HR176_1 := n9_
             have HB := n10_
             have BK177 := n11_
             have GW177 := n12_
             have GE177 := n13_
             clear n0_ n1_ n2_ n3_ n4_ n5_ n6_ n7_ n8_ n9_ n10_ n11_ n12_ n13_
             clear hb hbox hg
             refine hK.out _ _ ⟨HS0_, HS1_, HS2_, HS3_, HS4_, HS5_⟩ (fun hHeld => ?_)
             clear hK K
             refine norm_ (a' := ?_) ?_ ?_
             rotate_left
             ·show Act.put _ (some 11) _ = _
              simp only [Act.put, List.setIfInBounds_toArray, List.set_cons_zero, List.set_cons_succ, i64_w, i32_w]
              rfl
             refine one_ (i := 6) (N := some 29) (bA 15 12287) rfl rfl (one_of HT_.out (by kernel_rfl)) (by decide) (fun K hK => ?_)
             refine goes_ Try.func14 (by kernel_rfl) rfl #[.slice A172_0 ((rd_T49 l0 x10_1).f0).length c172_0, .int .i64 a2] (by rfl) rfl rfl argN ?_
             with_reducible refine (marigraphkeep_Cut.calls (fun k_ => (((P0_ k_ ∨ w.heap.size ≤ k_) ∧ some k_ ≠ (u9 : Value).ownBlock) ∧ k_ ≠ gb177)) _ _ ((rd_T49 l0 x10_1).f0) a2 t173 _ ?side1 A10.out).mono ?_
             (case side1 => exact HL172_0.out)
             rintro e w36 ⟨v174, rfl, ho0, hb⟩
             have HS0_ := (hb.cell (World.block_lt_of_cell? _ _ (hHeld.1))).trans (hHeld.1)
             have HS1_ := (hb.cell (World.block_lt_of_cell? _ _ (hHeld.2.1))).trans (hHeld.2.1)
             have HS2_ := (hb.cell (World.block_lt_of_cell? _ _ (hHeld.2.2.1))).trans (hHeld.2.2.1)
             have HS3_ := (hb.cell (World.block_lt_of_cell? _ _ (hHeld.2.2.2.1))).trans (hHeld.2.2.2.1)
             have HS4_ := (hb.cell (World.block_lt_of_cell? _ _ (hHeld.2.2.2.2.1))).trans (hHeld.2.2.2.2.1)
             have HS5_ := (hb.cell (World.block_lt_of_cell? _ _ (hHeld.2.2.2.2.2))).trans (hHeld.2.2.2.2.2)
             refine ⟨_, rfl, ?_⟩
             have n0_ := Aside0.mk (Kd.V_below (by (with_reducible repeat (first | apply Kd.V_alloc | apply Kd.V_drewN | apply Kd.V_drew)); exact HO_0.out) hb)
             have n1_ := Aside0.mk (Kd.N_below (by (with_reducible repeat (first | apply Kd.N_alloc | apply Kd.N_drewN | apply Kd.N_drew)); exact HO_9.out) hb)
             have n2_ := Aside0.mk (Kd.V_below (by (with_reducible repeat (first | apply Kd.V_alloc | apply Kd.V_drewN | apply Kd.V_drew)); exact HL172_0.out) hb)
             have n3_ := Aside0.mk (Kd.V_below (by (with_reducible repeat (first | apply Kd.V_alloc | apply Kd.V_drewN | apply Kd.V_drew)); exact HL172_1.out) hb)
             have n4_ := Aside0.mk (Kd.V_below (by (with_reducible repeat (first | apply Kd.V_alloc | apply Kd.V_drewN | apply Kd.V_drew)); exact HL176_0.out) hb)
             have n5_ := Aside0.mk (Kd.V_below (by (with_reducible repeat (first | apply Kd.V_alloc | apply Kd.V_drewN | apply Kd.V_drew)); exact HL176_1.out) hb)
             have n6_ := Aside0.mk (Kd.V_lower (Kd.V_mono (ok' := fun k_ => (P0_ k_ ∨ w.heap.size ≤ k_) ∧ some k_ ≠ (u9 : Value).ownBlock ∧ k_ ≠ gb177) ho0 (fun k_ hk_ => ⟨Or.elim hk_ (fun hs_ => hs_.1.1) (fun hn_ => (.inr (Nat.le_trans (below_size (belS HB.out)) hn_))), Or.elim hk_ (fun hs_ => hs_.1.2) (fun hn_ => (Kd.fresh' (Kd.N_lt (by (with_reducible repeat (first | apply Kd.N_alloc | apply Kd.N_drewN | apply Kd.N_drew)); exact HO_9.out)) k_ hn_)), Or.elim hk_ (fun hs_ => hs_.2) (fun hn_ => (Kd.freshB (g := gb177) (o := .cells #[.slice none 0 0, .slice none 0 0, .bool false] 49 (0, 0)) (blkN BK177.out) k_ hn_))⟩)) (below_size (belS HB.out)))
             have n7_ := Aside0.mk (cbN HR172_0.out hb)
             have n8_ := Aside0.mk (cbN HR172_1.out hb)
             have n9_ := Aside0.mk (cbN HR176_0.out hb)
             have n10_ := Aside0.mk (cbN HR176_1.out hb)
             have n11_ := Aside0.mk (bkB BK177.out hb)
             have n12_ := Aside0.mk (below_step (belS HB.out) hb)
             clear HO_0
             clear HO_9
             clear HL172_0
             clear HL172_1
             clear HL176_0
             clear HL176_1
             clear HR172_0
             clear HR172_1
             clear HR176_0
             clear HR176_1
             clear BK177
             clear HB
             have HO_0 := n0_
             have HO_9 := n1_
             have HL172_0 := n2_
             have HL172_1 := n3_
             have HL176_0 := n4_
             have HL176_1 := n5_
             have HO175 := n6_
             have HR172_0 := n7_
             have HR172_1 := n8_
             have HR176_0 := n9_
             have HR176_1 := n10_
             have BK177 := n11_
             have HB := n12_
             clear n0_ n1_ n2_ n3_ n4_ n5_ n6_ n7_ n8_ n9_ n10_ n11_ n12_
             (try clear hb)
             (try clear hk)
             (try clear ho0)
             obtain ⟨Ao37, co37, eo37⟩ := Kd.V_slice HO175.out
             (first | subst eo37 | (injection eo37 with f1_ f2_ f3_; have f4_ := f1_.symm; have f5_ := f3_.symm; clear f1_ f2_ f3_; subst f4_; subst f5_))
             refine hK.out _ _ ⟨HS0_, HS1_, HS2_, HS3_, HS4_, HS5_⟩ (fun hHeld => ?_)
             clear hK K
             refine norm_ (a' := ?_) ?_ ?_
             rotate_left
             ·show Act.put _ (some 29) _ = _
              simp only [Act.put, List.setIfInBounds_toArray, List.set_cons_zero, List.set_cons_succ, i64_w, i32_w]
              rfl
             refine pA 12 (some 35) (bA 15 16383) HT_.out ?_
             exact norm_ (by simp only [putAll, Act.put, List.setIfInBounds_toArray, List.set_cons_zero, List.set_cons_succ]) (hCont (.slice Ao37 t173.length co37, gb177) _ ⟨hHeld, (by (with_reducible repeat (first | apply Kd.V_alloc | apply Kd.V_drewN | apply Kd.V_drew)); exact Kd.V_mono HL172_0.out (fun _ hk => ⟨hk.1.1, ⟨hk.1.2, hk.2⟩⟩)), (by (with_reducible repeat (first | apply Kd.V_alloc | apply Kd.V_drewN | apply Kd.V_drew)); exact Kd.V_mono HL172_1.out (fun _ hk => ⟨hk.1.1, ⟨hk.1.2, hk.2⟩⟩)), (by (with_reducible repeat (first | apply Kd.V_alloc | apply Kd.V_drewN | apply Kd.V_drew)); exact Kd.V_mono HL176_0.out (fun _ hk => ⟨hk.1.1, ⟨hk.1.2, hk.2⟩⟩)), (by (with_reducible repeat (first | apply Kd.V_alloc | apply Kd.V_drewN | apply Kd.V_drew)); exact Kd.V_mono HL176_1.out (fun _ hk => ⟨hk.1.1, ⟨hk.1.2, hk.2⟩⟩)), (by (with_reducible repeat (first | apply Kd.V_alloc | apply Kd.V_drewN | apply Kd.V_drew)); exact HO175.out), (by (with_reducible repeat (first | apply Kd.V_alloc | apply Kd.V_drewN | apply Kd.V_drew)); exact Kd.V_mono HO_0.out (fun _ hk => ⟨hk.1.1, ⟨hk.1.2, hk.2⟩⟩)), (by (with_reducible repeat (first | apply Kd.N_alloc | apply Kd.N_drewN | apply Kd.N_drew)); exact HO_9.out), (blkN BK177.out), GW177.out, GE177.out, (belS HB.out)⟩)
           rintro ⟨v174, gb177⟩ w38 ⟨hS_, h0_, h1_, h2_, h3_, h4_, h5_, h6_, h7_, h8_, h9_, h10_⟩
           have n0_ : Aside0 (Kd.V (Kd.int .u8) 5 w38 w.heap.size (fun k_ => (P0_ k_ ∨ w.heap.size ≤ k_) ∧ some k_ ≠ (u9 : Value).ownBlock ∧ k_ ≠ gb177) (.slice A172_0 ((rd_T49 l0 x10_1).f0).length c172_0) ((rd_T49 l0 x10_1).f0)) := ⟨h0_⟩
           have n1_ : Aside0 (Kd.V (Kd.int .u8) 5 w38 w.heap.size (fun k_ => (P0_ k_ ∨ w.heap.size ≤ k_) ∧ some k_ ≠ (u9 : Value).ownBlock ∧ k_ ≠ gb177) (.slice A172_1 ((rd_T49 l0 x10_1).f1).length c172_1) ((rd_T49 l0 x10_1).f1)) := ⟨h1_⟩
           have n2_ : Aside0 (Kd.V (Kd.int .u8) 5 w38 w.heap.size (fun k_ => (P0_ k_ ∨ w.heap.size ≤ k_) ∧ some k_ ≠ (u9 : Value).ownBlock ∧ k_ ≠ gb177) (.slice A172_0 ((rd_T49 l0 x10_1).f0).length c172_0) ((rd_T49 l0 x10_1).f0)) := ⟨h2_⟩
           have n3_ : Aside0 (Kd.V (Kd.int .u8) 5 w38 w.heap.size (fun k_ => (P0_ k_ ∨ w.heap.size ≤ k_) ∧ some k_ ≠ (u9 : Value).ownBlock ∧ k_ ≠ gb177) (.slice A172_1 ((rd_T49 l0 x10_1).f1).length c172_1) ((rd_T49 l0 x10_1).f1)) := ⟨h3_⟩
           have n4_ : Aside0 (Kd.V (Kd.int .u8) 5 w38 w.heap.size (fun k_ => (P0_ k_ ∨ w.heap.size ≤ k_) ∧ some k_ ≠ (u9 : Value).ownBlock ∧ k_ ≠ gb177) v174 t173) := ⟨h4_⟩
           have n5_ : Aside0 (Kd.V k49 49 w38 w.heap.size (fun k_ => (P0_ k_ ∨ w.heap.size ≤ k_) ∧ some k_ ≠ (u9 : Value).ownBlock ∧ k_ ≠ gb177) (.slice (some ad172) l0.length c0) l0) := ⟨h5_⟩
           have n6_ : Aside0 (Kd.N k49 49 w38 w.heap.size (fun k_ => (P0_ k_ ∨ w.heap.size ≤ k_) ∧ k_ ≠ gb177) u9 x9_1) := ⟨h6_⟩
           have n7_ : Aside0 (w38.heap[gb177]? = some (.cells #[.slice none 0 0, .slice none 0 0, .bool false] 49 (0, 0))) := ⟨h7_⟩
           have n8_ : Aside0 (w.heap.size ≤ gb177) := ⟨h8_⟩
           have n9_ : Aside0 (w.heap.size ≤ gb177) := ⟨h9_⟩
           have n10_ : Aside0 (Below w.heap.size w w38) := ⟨h10_⟩
           clear HO_0
           clear HO_9
           clear HB
           clear h0_ h1_ h2_ h3_ h4_ h5_ h6_ h7_ h8_ h9_ h10_
           have HL172_0 := n0_
           have HL172_1 := n1_
           have HL176_0 := n2_
           have HL176_1 := n3_
           have HO175 := n4_
           have HO_0 := n5_
           have HO_9 := n6_
           have BK177 := n7_
           have GW177 := n8_
           have GE177 := n9_
           have HB := n10_
           clear n0_ n1_ n2_ n3_ n4_ n5_ n6_ n7_ n8_ n9_ n10_
           have hHeld : w38.cell? (ad172.add ((x10_1).toNat * 3)) = some (.slice A172_0 ((rd_T49 l0 x10_1).f0).length c172_0) ∧ w38.cell? ⟨(ad172.add ((x10_1).toNat * 3)).block, (ad172.add ((x10_1).toNat * 3)).off + 1, none⟩ = some (.slice A172_1 ((rd_T49 l0 x10_1).f1).length c172_1) ∧ w38.cell? ⟨(ad172.add ((x10_1).toNat * 3)).block, (ad172.add ((x10_1).toNat * 3)).off + 2, none⟩ = some (.bool false) ∧ w38.cell? (ad172.add ((x10_1).toNat * 3)) = some (.slice A172_0 ((rd_T49 l0 x10_1).f0).length c172_0) ∧ w38.cell? ⟨(ad172.add ((x10_1).toNat * 3)).block, (ad172.add ((x10_1).toNat * 3)).off + 1, none⟩ = some (.slice A172_1 ((rd_T49 l0 x10_1).f1).length c172_1) ∧ w38.cell? ⟨(ad172.add ((x10_1).toNat * 3)).block, (ad172.add ((x10_1).toNat * 3)).off + 2, none⟩ = some (.bool false) := hS_
           obtain ⟨Ao39, co39, eo39⟩ := Kd.V_slice HO175.out
           (first | subst eo39 | (injection eo39 with f1_ f2_ f3_; have f4_ := f1_.symm; have f5_ := f3_.symm; clear f1_ f2_ f3_; subst f4_; subst f5_))
           refine norm_ (a' := ?_) ?_ ?_
           rotate_left
           ·simp only [putAll, Act.put, List.setIfInBounds_toArray, List.set_cons_zero, List.set_cons_succ]
            rfl
           refine one_ (i := 14) (N := none) (bA 15 32767) rfl rfl (one_of HT_.out (by kernel_rfl)) (by decide) (fun K hK => ?_)
           have hs40 : w38.cell? ⟨gb177, 0, none⟩ = some (.slice none 0 0) := (blk_cell BK177.out 0).trans rfl
           have hfs40 := blk_frozen BK177.out 0
           have hs41 : w38.cell? ⟨gb177, 1, none⟩ = some (.slice none 0 0) := (blk_cell BK177.out 1).trans rfl
           have hfs41 := blk_frozen BK177.out 1
           have hs42 : w38.cell? ⟨gb177, 2, none⟩ = some (.bool false) := (blk_cell BK177.out 2).trans rfl
           have hfs42 := blk_frozen BK177.out 2
           refine skip_ (w1 := ?_) (by rfl) rfl ?_ ?_
           rotate_left
           ·go_simp
            rfl
           have hbl_ : (ad172.add ((x10_1).toNat * 3)).block ≠ gb177 := by rw [add_block]; exact V_blk HO_0.out z49 (by decide) (by have a_ := of_eq_true p172; have b_ := of_eq_true q172; omega) (fun _ hk => hk.2.2)
           refine hK.out _ _ ⟨(far3 (by exact hbl_)).trans hHeld.1, (far3 (by exact hbl_)).trans hHeld.2.1, (far3 (by exact hbl_)).trans hHeld.2.2.1, (far3 (by exact hbl_)).trans hHeld.2.2.2.1, (far3 (by exact hbl_)).trans hHeld.2.2.2.2.1, (far3 (by exact hbl_)).trans hHeld.2.2.2.2.2⟩ (fun hHeld => ?_)
           clear hbl_
           clear hK K
           refine done_ (done_of HT_.out (by kernel_rfl)) ?_
           have hcz43_0 : w38.cell? ⟨gb177, 0, none⟩ = some (.slice none 0 0) := (blk_cell BK177.out 0).trans rfl
           have hcz43_1 : w38.cell? ⟨gb177, 1, none⟩ = some (.slice none 0 0) := (blk_cell BK177.out 1).trans rfl
           have hcz43_2 : w38.cell? ⟨gb177, 2, none⟩ = some (.bool false) := (blk_cell BK177.out 2).trans rfl
           have hfz43_0 := blk_frozen BK177.out 0
           have hfz43_1 := blk_frozen BK177.out 1
           have hfz43_2 := blk_frozen BK177.out 2
           try go_wp2_with (first | ((with_reducible refine gate_dst (N := 40) rfl ?_); refine Kd.R_lit (Kd.int .u8) _ 5 ?hg (N := 40) ?hd (xs := ([107] : List Int)) (inner := [.int .u8 107]) (ok := fun _ => True) (okp := fun _ => True) ?hr ?hp (fun _ hk => hk) trivial (Below.refl _ _) (Nat.le_refl _) (by simp) ?_; (case hd => rfl); (case hg => rfl); (case hr => first | (go_simp; done) | (go_simp; rfl)); (case hp => exact (Reps.one (show Kd.M (Kd.int .u8) _ _ _ 107 [.int .u8 107] from rfl) (Reps.none _ _))); intro v179 w44 ho45 hb hg_ hnew_; clear hg_ hnew_; (first | rw [← Ny178.out] at ho45 | (simp only [Int.reduceToNat] at ho45; rw [← Ny178.out] at ho45)); have n0_ := Aside0.mk (Kd.V_elder' (by (with_reducible repeat (first | apply Kd.V_alloc | apply Kd.V_drewN | apply Kd.V_drew)); exact (Kd.V_mono (Kd.V_far (p := ⟨gb177, 2, none⟩) (Kd.V_far (p := ⟨gb177, 1, none⟩) (Kd.V_far (p := ⟨gb177, 0, none⟩) (Kd.V_mono HO_0.out (fun k_ hk => (⟨hk, hk.2.2⟩ : _ ∧ k_ ≠ gb177))) (fun _ hk => hk.2) (.slice Ao39 t173.length co39)) (fun _ hk => hk.2) (.slice none 0 0)) (fun _ hk => hk.2) (.bool false)) (fun _ h_ => h_.1))) (Kd.R_base ho45) hb); have n1_ := Aside0.mk (Kd.N_elder' (by (with_reducible repeat (first | apply Kd.N_alloc | apply Kd.N_drewN | apply Kd.N_drew)); exact (Kd.N_mono (Kd.N_far (p := ⟨gb177, 2, none⟩) (Kd.N_far (p := ⟨gb177, 1, none⟩) (Kd.N_far (p := ⟨gb177, 0, none⟩) (Kd.N_mono HO_9.out (fun k_ hk => (⟨hk, hk.2⟩ : _ ∧ k_ ≠ gb177))) (fun _ hk => hk.2) (.slice Ao39 t173.length co39)) (fun _ hk => hk.2) (.slice none 0 0)) (fun _ hk => hk.2) (.bool false)) (fun _ h_ => h_.1))) (Kd.R_base ho45) hb); have n2_ := Aside0.mk (Kd.V_elder' (by (with_reducible repeat (first | apply Kd.V_alloc | apply Kd.V_drewN | apply Kd.V_drew)); exact (Kd.V_mono (Kd.V_far (p := ⟨gb177, 2, none⟩) (Kd.V_far (p := ⟨gb177, 1, none⟩) (Kd.V_far (p := ⟨gb177, 0, none⟩) (Kd.V_mono HL172_0.out (fun k_ hk => (⟨hk, hk.2.2⟩ : _ ∧ k_ ≠ gb177))) (fun _ hk => hk.2) (.slice Ao39 t173.length co39)) (fun _ hk => hk.2) (.slice none 0 0)) (fun _ hk => hk.2) (.bool false)) (fun _ h_ => h_.1))) (Kd.R_base ho45) hb); have n3_ := Aside0.mk (Kd.V_elder' (by (with_reducible repeat (first | apply Kd.V_alloc | apply Kd.V_drewN | apply Kd.V_drew)); exact (Kd.V_mono (Kd.V_far (p := ⟨gb177, 2, none⟩) (Kd.V_far (p := ⟨gb177, 1, none⟩) (Kd.V_far (p := ⟨gb177, 0, none⟩) (Kd.V_mono HL172_1.out (fun k_ hk => (⟨hk, hk.2.2⟩ : _ ∧ k_ ≠ gb177))) (fun _ hk => hk.2) (.slice Ao39 t173.length co39)) (fun _ hk => hk.2) (.slice none 0 0)) (fun _ hk => hk.2) (.bool false)) (fun _ h_ => h_.1))) (Kd.R_base ho45) hb); have n4_ := Aside0.mk (Kd.V_elder' (by (with_reducible repeat (first | apply Kd.V_alloc | apply Kd.V_drewN | apply Kd.V_drew)); exact (Kd.V_mono (Kd.V_far (p := ⟨gb177, 2, none⟩) (Kd.V_far (p := ⟨gb177, 1, none⟩) (Kd.V_far (p := ⟨gb177, 0, none⟩) (Kd.V_mono HL176_0.out (fun k_ hk => (⟨hk, hk.2.2⟩ : _ ∧ k_ ≠ gb177))) (fun _ hk => hk.2) (.slice Ao39 t173.length co39)) (fun _ hk => hk.2) (.slice none 0 0)) (fun _ hk => hk.2) (.bool false)) (fun _ h_ => h_.1))) (Kd.R_base ho45) hb); have n5_ := Aside0.mk (Kd.V_elder' (by (with_reducible repeat (first | apply Kd.V_alloc | apply Kd.V_drewN | apply Kd.V_drew)); exact (Kd.V_mono (Kd.V_far (p := ⟨gb177, 2, none⟩) (Kd.V_far (p := ⟨gb177, 1, none⟩) (Kd.V_far (p := ⟨gb177, 0, none⟩) (Kd.V_mono HL176_1.out (fun k_ hk => (⟨hk, hk.2.2⟩ : _ ∧ k_ ≠ gb177))) (fun _ hk => hk.2) (.slice Ao39 t173.length co39)) (fun _ hk => hk.2) (.slice none 0 0)) (fun _ hk => hk.2) (.bool false)) (fun _ h_ => h_.1))) (Kd.R_base ho45) hb); have n6_ := Aside0.mk (Kd.V_elder' (by (with_reducible repeat (first | apply Kd.V_alloc | apply Kd.V_drewN | apply Kd.V_drew)); exact (Kd.V_mono (Kd.V_far (p := ⟨gb177, 2, none⟩) (Kd.V_far (p := ⟨gb177, 1, none⟩) (Kd.V_far (p := ⟨gb177, 0, none⟩) (Kd.V_mono HO175.out (fun k_ hk => (⟨hk, hk.2.2⟩ : _ ∧ k_ ≠ gb177))) (fun _ hk => hk.2) (.slice Ao39 t173.length co39)) (fun _ hk => hk.2) (.slice none 0 0)) (fun _ hk => hk.2) (.bool false)) (fun _ h_ => h_.1))) (Kd.R_base ho45) hb); have n7_ := Aside0.mk (Kd.R_lower (Kd.R_newM (M := fun k_ => (w.heap.size ≤ k_)) ho45 (below_size (belS HB.out)) (fun k_ h_ => h_)) (below_size (belS HB.out))); have n8_ := Aside0.mk (blk_below (g := gb177) (o := .cells #[.slice Ao39 t173.length co39, .slice none 0 0, .bool false] 49 (0, 0)) (by (with_reducible repeat (first | refine blk_drewN ?_ _ | refine blk_drew ?_ | refine blk_alloc ?_ _)); refine blk_put (cs := #[.slice Ao39 t173.length co39, .slice none 0 0, .bool false]) ?_ 2 _ rfl; (with_reducible repeat (first | refine blk_drewN ?_ _ | refine blk_drew ?_ | refine blk_alloc ?_ _)); refine blk_put (cs := #[.slice Ao39 t173.length co39, .slice none 0 0, .bool false]) ?_ 1 _ rfl; (with_reducible repeat (first | refine blk_drewN ?_ _ | refine blk_drew ?_ | refine blk_alloc ?_ _)); refine blk_put (cs := #[.slice none 0 0, .slice none 0 0, .bool false]) ?_ 0 _ rfl; (with_reducible repeat (first | refine blk_drewN ?_ _ | refine blk_drew ?_ | refine blk_alloc ?_ _)); exact BK177.out) hb); have n9_ := Aside0.mk (below_step (belS HB.out) hb); clear HO_0; clear HO_9; clear HL172_0; clear HL172_1; clear HL176_0; clear HL176_1; clear HO175; clear BK177; clear HB; have HO_0 := n0_; have HO_9 := n1_; have HL172_0 := n2_; have HL172_1 := n3_; have HL176_0 := n4_; have HL176_1 := n5_; have HO175 := n6_; have HO180 := n7_; have BK177 := n8_; have HB := n9_; clear n0_ n1_ n2_ n3_ n4_ n5_ n6_ n7_ n8_ n9_; clear hb ho45; obtain ⟨Ao46, co46, eo46⟩ := Kd.R_slice HO180.out; subst eo46; have hcz47_0 : w44.cell? ⟨gb177, 0, none⟩ = some (.slice Ao39 t173.length co39) := (blk_cell BK177.out 0).trans rfl; have hcz47_1 : w44.cell? ⟨gb177, 1, none⟩ = some (.slice none 0 0) := (blk_cell BK177.out 1).trans rfl; have hcz47_2 : w44.cell? ⟨gb177, 2, none⟩ = some (.bool false) := (blk_cell BK177.out 2).trans rfl; have hfz47_0 := blk_frozen BK177.out 0; have hfz47_1 := blk_frozen BK177.out 1; have hfz47_2 := blk_frozen BK177.out 2) | ((with_reducible refine gate_store (t := 23) (p := 41) rfl ?_); refine store_event (t := 23) (p := 41) (v := ?vo_w48) (w1 := (w44.setCell ⟨gb177, 0, none⟩ (.slice Ao46 y178.length co46))) ?hg ?ho ?hn ?hr ?_; (case ho => rfl); (case hg => rfl); (case hn => rfl); (case hr => first | (go_simp; done) | (go_simp; rfl)); intro w48 hw; have n0_ : Aside0 (Kd.V k49 49 w48 w.heap.size (fun k_ => (P0_ k_ ∨ w.heap.size ≤ k_) ∧ some k_ ≠ (u9 : Value).ownBlock ∧ some k_ ≠ (.slice Ao46 y178.length co46 : Value).ownBlock ∧ k_ ≠ gb177) (.slice (some ad172) l0.length c0) l0) := ⟨(by rw [hw]; exact (by (with_reducible repeat (first | apply Kd.V_alloc | apply Kd.V_drewN | apply Kd.V_drew)); exact Kd.V_mono (Kd.V_far (p := ⟨gb177, 0, none⟩) (Kd.V_mono HO_0.out (fun k_ hk => (⟨hk, hk.1.2.2⟩ : _ ∧ k_ ≠ gb177))) (fun _ hk => hk.2) (.slice Ao46 y178.length co46)) (fun _ hk => ⟨hk.1.1.1, ⟨hk.1.1.2.1, ⟨hk.1.2, hk.1.1.2.2⟩⟩⟩)))⟩; have n1_ : Aside0 (Kd.N k49 49 w48 w.heap.size (fun k_ => (P0_ k_ ∨ w.heap.size ≤ k_) ∧ some k_ ≠ (.slice Ao46 y178.length co46 : Value).ownBlock ∧ k_ ≠ gb177) u9 x9_1) := ⟨(by rw [hw]; exact (by (with_reducible repeat (first | apply Kd.N_alloc | apply Kd.N_drewN | apply Kd.N_drew)); exact Kd.N_mono (Kd.N_far (p := ⟨gb177, 0, none⟩) (Kd.N_mono HO_9.out (fun k_ hk => (⟨hk, hk.1.2⟩ : _ ∧ k_ ≠ gb177))) (fun _ hk => hk.2) (.slice Ao46 y178.length co46)) (fun _ hk => ⟨hk.1.1.1, ⟨hk.1.2, hk.1.1.2⟩⟩)))⟩; have n2_ : Aside0 (Kd.V (Kd.int .u8) 5 w48 w.heap.size (fun k_ => (P0_ k_ ∨ w.heap.size ≤ k_) ∧ some k_ ≠ (u9 : Value).ownBlock ∧ some k_ ≠ (.slice Ao46 y178.length co46 : Value).ownBlock ∧ k_ ≠ gb177) (.slice A172_0 ((rd_T49 l0 x10_1).f0).length c172_0) ((rd_T49 l0 x10_1).f0)) := ⟨(by rw [hw]; exact (by (with_reducible repeat (first | apply Kd.V_alloc | apply Kd.V_drewN | apply Kd.V_drew)); exact Kd.V_mono (Kd.V_far (p := ⟨gb177, 0, none⟩) (Kd.V_mono HL172_0.out (fun k_ hk => (⟨hk, hk.1.2.2⟩ : _ ∧ k_ ≠ gb177))) (fun _ hk => hk.2) (.slice Ao46 y178.length co46)) (fun _ hk => ⟨hk.1.1.1, ⟨hk.1.1.2.1, ⟨hk.1.2, hk.1.1.2.2⟩⟩⟩)))⟩; have n3_ : Aside0 (Kd.V (Kd.int .u8) 5 w48 w.heap.size (fun k_ => (P0_ k_ ∨ w.heap.size ≤ k_) ∧ some k_ ≠ (u9 : Value).ownBlock ∧ some k_ ≠ (.slice Ao46 y178.length co46 : Value).ownBlock ∧ k_ ≠ gb177) (.slice A172_1 ((rd_T49 l0 x10_1).f1).length c172_1) ((rd_T49 l0 x10_1).f1)) := ⟨(by rw [hw]; exact (by (with_reducible repeat (first | apply Kd.V_alloc | apply Kd.V_drewN | apply Kd.V_drew)); exact Kd.V_mono (Kd.V_far (p := ⟨gb177, 0, none⟩) (Kd.V_mono HL172_1.out (fun k_ hk => (⟨hk, hk.1.2.2⟩ : _ ∧ k_ ≠ gb177))) (fun _ hk => hk.2) (.slice Ao46 y178.length co46)) (fun _ hk => ⟨hk.1.1.1, ⟨hk.1.1.2.1, ⟨hk.1.2, hk.1.1.2.2⟩⟩⟩)))⟩; have n4_ : Aside0 (Kd.V (Kd.int .u8) 5 w48 w.heap.size (fun k_ => (P0_ k_ ∨ w.heap.size ≤ k_) ∧ some k_ ≠ (u9 : Value).ownBlock ∧ some k_ ≠ (.slice Ao46 y178.length co46 : Value).ownBlock ∧ k_ ≠ gb177) (.slice A172_0 ((rd_T49 l0 x10_1).f0).length c172_0) ((rd_T49 l0 x10_1).f0)) := ⟨(by rw [hw]; exact (by (with_reducible repeat (first | apply Kd.V_alloc | apply Kd.V_drewN | apply Kd.V_drew)); exact Kd.V_mono (Kd.V_far (p := ⟨gb177, 0, none⟩) (Kd.V_mono HL176_0.out (fun k_ hk => (⟨hk, hk.1.2.2⟩ : _ ∧ k_ ≠ gb177))) (fun _ hk => hk.2) (.slice Ao46 y178.length co46)) (fun _ hk => ⟨hk.1.1.1, ⟨hk.1.1.2.1, ⟨hk.1.2, hk.1.1.2.2⟩⟩⟩)))⟩; have n5_ : Aside0 (Kd.V (Kd.int .u8) 5 w48 w.heap.size (fun k_ => (P0_ k_ ∨ w.heap.size ≤ k_) ∧ some k_ ≠ (u9 : Value).ownBlock ∧ some k_ ≠ (.slice Ao46 y178.length co46 : Value).ownBlock ∧ k_ ≠ gb177) (.slice A172_1 ((rd_T49 l0 x10_1).f1).length c172_1) ((rd_T49 l0 x10_1).f1)) := ⟨(by rw [hw]; exact (by (with_reducible repeat (first | apply Kd.V_alloc | apply Kd.V_drewN | apply Kd.V_drew)); exact Kd.V_mono (Kd.V_far (p := ⟨gb177, 0, none⟩) (Kd.V_mono HL176_1.out (fun k_ hk => (⟨hk, hk.1.2.2⟩ : _ ∧ k_ ≠ gb177))) (fun _ hk => hk.2) (.slice Ao46 y178.length co46)) (fun _ hk => ⟨hk.1.1.1, ⟨hk.1.1.2.1, ⟨hk.1.2, hk.1.1.2.2⟩⟩⟩)))⟩; have n6_ : Aside0 (Kd.V (Kd.int .u8) 5 w48 w.heap.size (fun k_ => (P0_ k_ ∨ w.heap.size ≤ k_) ∧ some k_ ≠ (u9 : Value).ownBlock ∧ some k_ ≠ (.slice Ao46 y178.length co46 : Value).ownBlock ∧ k_ ≠ gb177) (.slice Ao39 t173.length co39) t173) := ⟨(by rw [hw]; exact (by (with_reducible repeat (first | apply Kd.V_alloc | apply Kd.V_drewN | apply Kd.V_drew)); exact Kd.V_mono (Kd.V_far (p := ⟨gb177, 0, none⟩) (Kd.V_mono HO175.out (fun k_ hk => (⟨hk, hk.1.2.2⟩ : _ ∧ k_ ≠ gb177))) (fun _ hk => hk.2) (.slice Ao46 y178.length co46)) (fun _ hk => ⟨hk.1.1.1, ⟨hk.1.1.2.1, ⟨hk.1.2, hk.1.1.2.2⟩⟩⟩)))⟩; have n7_ : Aside0 (Kd.R (Kd.int .u8) 5 w48 w.heap.size (fun k_ => (w.heap.size ≤ k_)) (.slice Ao46 y178.length co46) y178) := ⟨(by rw [hw]; exact (by (with_reducible repeat (first | apply Kd.R_alloc | apply Kd.R_drewN | apply Kd.R_drew)); exact Kd.R_mono (Kd.R_far (p := ⟨gb177, 0, none⟩) (Kd.R_types HO180.out BK177.out (by decide)) (fun _ hk => hk.2) (.slice Ao46 y178.length co46)) (fun _ hk => hk.1.1)))⟩; have n8_ : Aside0 (w48.heap[gb177]? = some (.cells #[.slice Ao46 y178.length co46, .slice none 0 0, .bool false] 49 (0, 0))) := ⟨(by rw [hw]; exact (by (with_reducible repeat (first | refine blk_drewN ?_ _ | refine blk_drew ?_ | refine blk_alloc ?_ _)); refine blk_put (cs := #[.slice Ao39 t173.length co39, .slice none 0 0, .bool false]) ?_ 0 _ rfl; (with_reducible repeat (first | refine blk_drewN ?_ _ | refine blk_drew ?_ | refine blk_alloc ?_ _)); exact BK177.out))⟩; have n9_ : Aside0 (Below w.heap.size w w48) := ⟨(by rw [hw]; exact (belS HB.out))⟩; clear hw; clear HO_0; clear HO_9; clear HL172_0; clear HL172_1; clear HL176_0; clear HL176_1; clear HO175; clear HO180; clear BK177; clear HB; have HO_0 := n0_; have HO_9 := n1_; have HL172_0 := n2_; have HL172_1 := n3_; have HL176_0 := n4_; have HL176_1 := n5_; have HO175 := n6_; have HO180 := n7_; have BK177 := n8_; have HB := n9_; clear n0_ n1_ n2_ n3_ n4_ n5_ n6_ n7_ n8_ n9_; have hcz49_0 : w48.cell? ⟨gb177, 0, none⟩ = some (.slice Ao46 y178.length co46) := (blk_cell BK177.out 0).trans rfl; have hcz49_1 : w48.cell? ⟨gb177, 1, none⟩ = some (.slice none 0 0) := (blk_cell BK177.out 1).trans rfl; have hcz49_2 : w48.cell? ⟨gb177, 2, none⟩ = some (.bool false) := (blk_cell BK177.out 2).trans rfl; have hfz49_0 := blk_frozen BK177.out 0; have hfz49_1 := blk_frozen BK177.out 1; have hfz49_2 := blk_frozen BK177.out 2; have p184 : 0 ≤ (x10_1 : Int) := of_decide_eq_true (by first | (with_reducible assumption) | assumption); have q184 : x10_1 < (l0.length : Int) := of_decide_eq_true (by first | (with_reducible assumption) | assumption); obtain ⟨ad184, A184_0, c184_0, A184_1, c184_1, e184, hx184_0, hx184_1, hx184_2, hl184_0, hi184_0, hl184_1, hi184_1⟩ := at_T49 (Kd.V_reads' HO_0.out).2.2 x10_1 p184 q184; (try rw [← Nbq12.out] at hx184_2); obtain rfl : ad172 = ad184 := (by injection e184); obtain ⟨ce184, hce184, hMe184, hcc184⟩ := Kd.V_get HO_0.out z49 x10_1 p184 (by first | exact q184 | exact of_decide_eq_true (by first | (with_reducible assumption) | assumption) | (have e_ := (Kd.V_reads' HO_0.out).1; omega)); obtain ⟨ua184_0, uc184_0, ua184_1, uc184_1, rfl, ul184_0, ge184_0, ul184_1, ge184_1⟩ := k49_openF hMe184; have hv184_0 := hcc184 0 _ rfl; rw [Nat.add_zero] at hv184_0; replace hv184_0 := Option.some.inj (hv184_0.symm.trans hx184_0); injection hv184_0 with hva_ hvn_ hvc_; rw [hva_] at ge184_0; rw [hvc_] at ul184_0; have HL184_0 := Aside0.mk (show Kd.V (Kd.int .u8) 5 _ w.heap.size _ _ ((rd_T49 l0 x10_1).f0) from Kd.V_mk ul184_0 ge184_0); clear hva_ hvn_ hvc_ ge184_0 ul184_0; have hv184_1 := hcc184 1 _ rfl; rw [add_field _ _ 1 (by omega)] at hv184_1; replace hv184_1 := Option.some.inj (hv184_1.symm.trans hx184_1); injection hv184_1 with hva_ hvn_ hvc_; rw [hva_] at ge184_1; rw [hvc_] at ul184_1; have HL184_1 := Aside0.mk (show Kd.V (Kd.int .u8) 5 _ w.heap.size _ _ ((rd_T49 l0 x10_1).f1) from Kd.V_mk ul184_1 ge184_1); clear hva_ hvn_ hvc_ ge184_1 ul184_1; clear hcc184 hce184; have HR184_0 := Aside0.mk hi184_0; have HC184_0 := Aside0.mk hl184_0; clear hi184_0 hl184_0; have HR184_1 := Aside0.mk hi184_1; have HC184_1 := Aside0.mk hl184_1; clear hi184_1 hl184_1; replace p184 := eq_true p184; replace q184 := eq_true q184) | ((with_reducible refine gate_callee (f := 14) rfl ?_); refine goesL_ (some 51) rfl rfl Try.func14 (by kernel_rfl) rfl #[.slice A184_1 ((rd_T49 l0 x10_1).f1).length c184_1, .int .i64 a3] rfl argN ?_; (with_reducible refine (marigraphkeep_Cut.calls (fun k_ => ((P0_ k_ ∨ w.heap.size ≤ k_) ∧ (some k_ ≠ (u9 : Value).ownBlock ∧ (some k_ ≠ (.slice Ao46 y178.length co46 : Value).ownBlock ∧ k_ ≠ gb177)))) _ _ ((rd_T49 l0 x10_1).f1) a3 t185 _ ?side1 A32.out).mono ?_); (case side1 => exact HL184_1.out); rintro e w50 ⟨v186, rfl, ho0, hb⟩; refine ⟨_, rfl, ?_⟩; have n0_ := Aside0.mk (Kd.V_below (by (with_reducible repeat (first | apply Kd.V_alloc | apply Kd.V_drewN | apply Kd.V_drew)); exact HO_0.out) hb); have n1_ := Aside0.mk (Kd.N_below (by (with_reducible repeat (first | apply Kd.N_alloc | apply Kd.N_drewN | apply Kd.N_drew)); exact HO_9.out) hb); have n2_ := Aside0.mk (Kd.V_below (by (with_reducible repeat (first | apply Kd.V_alloc | apply Kd.V_drewN | apply Kd.V_drew)); exact HL172_0.out) hb); have n3_ := Aside0.mk (Kd.V_below (by (with_reducible repeat (first | apply Kd.V_alloc | apply Kd.V_drewN | apply Kd.V_drew)); exact HL172_1.out) hb); have n4_ := Aside0.mk (Kd.V_below (by (with_reducible repeat (first | apply Kd.V_alloc | apply Kd.V_drewN | apply Kd.V_drew)); exact HL176_0.out) hb); have n5_ := Aside0.mk (Kd.V_below (by (with_reducible repeat (first | apply Kd.V_alloc | apply Kd.V_drewN | apply Kd.V_drew)); exact HL176_1.out) hb); have n6_ := Aside0.mk (Kd.V_below (by (with_reducible repeat (first | apply Kd.V_alloc | apply Kd.V_drewN | apply Kd.V_drew)); exact HO175.out) hb); have n7_ := Aside0.mk (Kd.R_below (rowN HO180.out) hb); have n8_ := Aside0.mk (Kd.V_below (by (with_reducible repeat (first | apply Kd.V_alloc | apply Kd.V_drewN | apply Kd.V_drew)); exact HL184_0.out) hb); have n9_ := Aside0.mk (Kd.V_below (by (with_reducible repeat (first | apply Kd.V_alloc | apply Kd.V_drewN | apply Kd.V_drew)); exact HL184_1.out) hb); have n10_ := Aside0.mk (Kd.V_lower (Kd.V_mono (ok' := fun k_ => (P0_ k_ ∨ w.heap.size ≤ k_) ∧ some k_ ≠ (u9 : Value).ownBlock ∧ some k_ ≠ (.slice Ao46 y178.length co46 : Value).ownBlock ∧ k_ ≠ gb177) ho0 (fun k_ hk_ => ⟨Or.elim hk_ (fun hs_ => hs_.1) (fun hn_ => (.inr (Nat.le_trans (below_size (belS HB.out)) hn_))), Or.elim hk_ (fun hs_ => hs_.2.1) (fun hn_ => (Kd.fresh' (Kd.N_lt (by (with_reducible repeat (first | apply Kd.N_alloc | apply Kd.N_drewN | apply Kd.N_drew)); exact HO_9.out)) k_ hn_)), Or.elim hk_ (fun hs_ => hs_.2.2.1) (fun hn_ => (Kd.fresh' (Kd.R_lt (rowN HO180.out)) k_ hn_)), Or.elim hk_ (fun hs_ => hs_.2.2.2) (fun hn_ => (Kd.freshB (g := gb177) (o := .cells #[.slice Ao46 y178.length co46, .slice none 0 0, .bool false] 49 (0, 0)) (blkN BK177.out) k_ hn_))⟩)) (below_size (belS HB.out))); have n11_ := Aside0.mk (bkB BK177.out hb); have n12_ := Aside0.mk (cbN HR184_0.out hb); have n13_ := Aside0.mk (cbN HR184_1.out hb); have n14_ := Aside0.mk (below_step (belS HB.out) hb); clear HO_0; clear HO_9; clear HL172_0; clear HL172_1; clear HL176_0; clear HL176_1; clear HO175; clear HO180; clear HL184_0; clear HL184_1; clear BK177; clear HR184_0; clear HR184_1; clear HB; have HO_0 := n0_; have HO_9 := n1_; have HL172_0 := n2_; have HL172_1 := n3_; have HL176_0 := n4_; have HL176_1 := n5_; have HO175 := n6_; have HO180 := n7_; have HL184_0 := n8_; have HL184_1 := n9_; have HO187 := n10_; have BK177 := n11_; have HR184_0 := n12_; have HR184_1 := n13_; have HB := n14_; clear n0_ n1_ n2_ n3_ n4_ n5_ n6_ n7_ n8_ n9_ n10_ n11_ n12_ n13_ n14_; (try clear hb); (try clear hk); (try clear ho0); obtain ⟨Ao51, co51, eo51⟩ := Kd.V_slice HO187.out; subst eo51; have hcz52_0 : w50.cell? ⟨gb177, 0, none⟩ = some (.slice Ao46 y178.length co46) := (blk_cell BK177.out 0).trans rfl; have hcz52_1 : w50.cell? ⟨gb177, 1, none⟩ = some (.slice none 0 0) := (blk_cell BK177.out 1).trans rfl; have hcz52_2 : w50.cell? ⟨gb177, 2, none⟩ = some (.bool false) := (blk_cell BK177.out 2).trans rfl; have hfz52_0 := blk_frozen BK177.out 0; have hfz52_1 := blk_frozen BK177.out 1; have hfz52_2 := blk_frozen BK177.out 2) | ((with_reducible refine gate_store (t := 23) (p := 52) rfl ?_); refine store_event (t := 23) (p := 52) (v := ?vo_w53) (w1 := (w50.setCell ⟨gb177, 1, none⟩ (.slice Ao51 t185.length co51))) ?hg ?ho ?hn ?hr ?_; (case ho => rfl); (case hg => rfl); (case hn => rfl); (case hr => first | (go_simp; done) | (go_simp; rfl)); intro w53 hw; have n0_ : Aside0 (Kd.V k49 49 w53 w.heap.size (fun k_ => (P0_ k_ ∨ w.heap.size ≤ k_) ∧ some k_ ≠ (u9 : Value).ownBlock ∧ some k_ ≠ (.slice Ao46 y178.length co46 : Value).ownBlock ∧ k_ ≠ gb177) (.slice (some ad172) l0.length c0) l0) := ⟨(by rw [hw]; exact (by (with_reducible repeat (first | apply Kd.V_alloc | apply Kd.V_drewN | apply Kd.V_drew)); exact Kd.V_mono (Kd.V_far (p := ⟨gb177, 1, none⟩) (Kd.V_mono HO_0.out (fun k_ hk => (⟨hk, hk.2.2.2⟩ : _ ∧ k_ ≠ gb177))) (fun _ hk => hk.2) (.slice Ao51 t185.length co51)) (fun _ hk => ⟨hk.1.1, ⟨hk.1.2.1, ⟨hk.1.2.2.1, hk.1.2.2.2⟩⟩⟩)))⟩; have n1_ : Aside0 (Kd.N k49 49 w53 w.heap.size (fun k_ => (P0_ k_ ∨ w.heap.size ≤ k_) ∧ some k_ ≠ (.slice Ao46 y178.length co46 : Value).ownBlock ∧ k_ ≠ gb177) u9 x9_1) := ⟨(by rw [hw]; exact (by (with_reducible repeat (first | apply Kd.N_alloc | apply Kd.N_drewN | apply Kd.N_drew)); exact Kd.N_mono (Kd.N_far (p := ⟨gb177, 1, none⟩) (Kd.N_mono HO_9.out (fun k_ hk => (⟨hk, hk.2.2⟩ : _ ∧ k_ ≠ gb177))) (fun _ hk => hk.2) (.slice Ao51 t185.length co51)) (fun _ hk => ⟨hk.1.1, ⟨hk.1.2.1, hk.1.2.2⟩⟩)))⟩; have n2_ : Aside0 (Kd.V (Kd.int .u8) 5 w53 w.heap.size (fun k_ => (P0_ k_ ∨ w.heap.size ≤ k_) ∧ some k_ ≠ (u9 : Value).ownBlock ∧ some k_ ≠ (.slice Ao46 y178.length co46 : Value).ownBlock ∧ k_ ≠ gb177) (.slice A172_0 ((rd_T49 l0 x10_1).f0).length c172_0) ((rd_T49 l0 x10_1).f0)) := ⟨(by rw [hw]; exact (by (with_reducible repeat (first | apply Kd.V_alloc | apply Kd.V_drewN | apply Kd.V_drew)); exact Kd.V_mono (Kd.V_far (p := ⟨gb177, 1, none⟩) (Kd.V_mono HL172_0.out (fun k_ hk => (⟨hk, hk.2.2.2⟩ : _ ∧ k_ ≠ gb177))) (fun _ hk => hk.2) (.slice Ao51 t185.length co51)) (fun _ hk => ⟨hk.1.1, ⟨hk.1.2.1, ⟨hk.1.2.2.1, hk.1.2.2.2⟩⟩⟩)))⟩; have n3_ : Aside0 (Kd.V (Kd.int .u8) 5 w53 w.heap.size (fun k_ => (P0_ k_ ∨ w.heap.size ≤ k_) ∧ some k_ ≠ (u9 : Value).ownBlock ∧ some k_ ≠ (.slice Ao46 y178.length co46 : Value).ownBlock ∧ k_ ≠ gb177) (.slice A172_1 ((rd_T49 l0 x10_1).f1).length c172_1) ((rd_T49 l0 x10_1).f1)) := ⟨(by rw [hw]; exact (by (with_reducible repeat (first | apply Kd.V_alloc | apply Kd.V_drewN | apply Kd.V_drew)); exact Kd.V_mono (Kd.V_far (p := ⟨gb177, 1, none⟩) (Kd.V_mono HL172_1.out (fun k_ hk => (⟨hk, hk.2.2.2⟩ : _ ∧ k_ ≠ gb177))) (fun _ hk => hk.2) (.slice Ao51 t185.length co51)) (fun _ hk => ⟨hk.1.1, ⟨hk.1.2.1, ⟨hk.1.2.2.1, hk.1.2.2.2⟩⟩⟩)))⟩; have n4_ : Aside0 (Kd.V (Kd.int .u8) 5 w53 w.heap.size (fun k_ => (P0_ k_ ∨ w.heap.size ≤ k_) ∧ some k_ ≠ (u9 : Value).ownBlock ∧ some k_ ≠ (.slice Ao46 y178.length co46 : Value).ownBlock ∧ k_ ≠ gb177) (.slice A172_0 ((rd_T49 l0 x10_1).f0).length c172_0) ((rd_T49 l0 x10_1).f0)) := ⟨(by rw [hw]; exact (by (with_reducible repeat (first | apply Kd.V_alloc | apply Kd.V_drewN | apply Kd.V_drew)); exact Kd.V_mono (Kd.V_far (p := ⟨gb177, 1, none⟩) (Kd.V_mono HL176_0.out (fun k_ hk => (⟨hk, hk.2.2.2⟩ : _ ∧ k_ ≠ gb177))) (fun _ hk => hk.2) (.slice Ao51 t185.length co51)) (fun _ hk => ⟨hk.1.1, ⟨hk.1.2.1, ⟨hk.1.2.2.1, hk.1.2.2.2⟩⟩⟩)))⟩; have n5_ : Aside0 (Kd.V (Kd.int .u8) 5 w53 w.heap.size (fun k_ => (P0_ k_ ∨ w.heap.size ≤ k_) ∧ some k_ ≠ (u9 : Value).ownBlock ∧ some k_ ≠ (.slice Ao46 y178.length co46 : Value).ownBlock ∧ k_ ≠ gb177) (.slice A172_1 ((rd_T49 l0 x10_1).f1).length c172_1) ((rd_T49 l0 x10_1).f1)) := ⟨(by rw [hw]; exact (by (with_reducible repeat (first | apply Kd.V_alloc | apply Kd.V_drewN | apply Kd.V_drew)); exact Kd.V_mono (Kd.V_far (p := ⟨gb177, 1, none⟩) (Kd.V_mono HL176_1.out (fun k_ hk => (⟨hk, hk.2.2.2⟩ : _ ∧ k_ ≠ gb177))) (fun _ hk => hk.2) (.slice Ao51 t185.length co51)) (fun _ hk => ⟨hk.1.1, ⟨hk.1.2.1, ⟨hk.1.2.2.1, hk.1.2.2.2⟩⟩⟩)))⟩; have n6_ : Aside0 (Kd.V (Kd.int .u8) 5 w53 w.heap.size (fun k_ => (P0_ k_ ∨ w.heap.size ≤ k_) ∧ some k_ ≠ (u9 : Value).ownBlock ∧ some k_ ≠ (.slice Ao46 y178.length co46 : Value).ownBlock ∧ k_ ≠ gb177) (.slice Ao39 t173.length co39) t173) := ⟨(by rw [hw]; exact (by (with_reducible repeat (first | apply Kd.V_alloc | apply Kd.V_drewN | apply Kd.V_drew)); exact Kd.V_mono (Kd.V_far (p := ⟨gb177, 1, none⟩) (Kd.V_mono HO175.out (fun k_ hk => (⟨hk, hk.2.2.2⟩ : _ ∧ k_ ≠ gb177))) (fun _ hk => hk.2) (.slice Ao51 t185.length co51)) (fun _ hk => ⟨hk.1.1, ⟨hk.1.2.1, ⟨hk.1.2.2.1, hk.1.2.2.2⟩⟩⟩)))⟩; have n7_ : Aside0 (Kd.R (Kd.int .u8) 5 w53 w.heap.size (fun k_ => (w.heap.size ≤ k_)) (.slice Ao46 y178.length co46) y178) := ⟨(by rw [hw]; exact (by (with_reducible repeat (first | apply Kd.R_alloc | apply Kd.R_drewN | apply Kd.R_drew)); exact Kd.R_mono (Kd.R_far (p := ⟨gb177, 1, none⟩) (Kd.R_types HO180.out BK177.out (by decide)) (fun _ hk => hk.2) (.slice Ao51 t185.length co51)) (fun _ hk => hk.1)))⟩; have n8_ : Aside0 (Kd.V (Kd.int .u8) 5 w53 w.heap.size (fun k_ => (P0_ k_ ∨ w.heap.size ≤ k_) ∧ some k_ ≠ (u9 : Value).ownBlock ∧ some k_ ≠ (.slice Ao46 y178.length co46 : Value).ownBlock ∧ k_ ≠ gb177) (.slice A184_0 ((rd_T49 l0 x10_1).f0).length c184_0) ((rd_T49 l0 x10_1).f0)) := ⟨(by rw [hw]; exact (by (with_reducible repeat (first | apply Kd.V_alloc | apply Kd.V_drewN | apply Kd.V_drew)); exact Kd.V_mono (Kd.V_far (p := ⟨gb177, 1, none⟩) (Kd.V_mono HL184_0.out (fun k_ hk => (⟨hk, hk.2.2.2⟩ : _ ∧ k_ ≠ gb177))) (fun _ hk => hk.2) (.slice Ao51 t185.length co51)) (fun _ hk => ⟨hk.1.1, ⟨hk.1.2.1, ⟨hk.1.2.2.1, hk.1.2.2.2⟩⟩⟩)))⟩; have n9_ : Aside0 (Kd.V (Kd.int .u8) 5 w53 w.heap.size (fun k_ => (P0_ k_ ∨ w.heap.size ≤ k_) ∧ some k_ ≠ (u9 : Value).ownBlock ∧ some k_ ≠ (.slice Ao46 y178.length co46 : Value).ownBlock ∧ k_ ≠ gb177) (.slice A184_1 ((rd_T49 l0 x10_1).f1).length c184_1) ((rd_T49 l0 x10_1).f1)) := ⟨(by rw [hw]; exact (by (with_reducible repeat (first | apply Kd.V_alloc | apply Kd.V_drewN | apply Kd.V_drew)); exact Kd.V_mono (Kd.V_far (p := ⟨gb177, 1, none⟩) (Kd.V_mono HL184_1.out (fun k_ hk => (⟨hk, hk.2.2.2⟩ : _ ∧ k_ ≠ gb177))) (fun _ hk => hk.2) (.slice Ao51 t185.length co51)) (fun _ hk => ⟨hk.1.1, ⟨hk.1.2.1, ⟨hk.1.2.2.1, hk.1.2.2.2⟩⟩⟩)))⟩; have n10_ : Aside0 (Kd.V (Kd.int .u8) 5 w53 w.heap.size (fun k_ => (P0_ k_ ∨ w.heap.size ≤ k_) ∧ some k_ ≠ (u9 : Value).ownBlock ∧ some k_ ≠ (.slice Ao46 y178.length co46 : Value).ownBlock ∧ k_ ≠ gb177) (.slice Ao51 t185.length co51) t185) := ⟨(by rw [hw]; exact (by (with_reducible repeat (first | apply Kd.V_alloc | apply Kd.V_drewN | apply Kd.V_drew)); exact Kd.V_mono (Kd.V_far (p := ⟨gb177, 1, none⟩) (Kd.V_mono HO187.out (fun k_ hk => (⟨hk, hk.2.2.2⟩ : _ ∧ k_ ≠ gb177))) (fun _ hk => hk.2) (.slice Ao51 t185.length co51)) (fun _ hk => ⟨hk.1.1, ⟨hk.1.2.1, ⟨hk.1.2.2.1, hk.1.2.2.2⟩⟩⟩)))⟩; have n11_ : Aside0 (w53.heap[gb177]? = some (.cells #[.slice Ao46 y178.length co46, .slice Ao51 t185.length co51, .bool false] 49 (0, 0))) := ⟨(by rw [hw]; exact (by (with_reducible repeat (first | refine blk_drewN ?_ _ | refine blk_drew ?_ | refine blk_alloc ?_ _)); refine blk_put (cs := #[.slice Ao46 y178.length co46, .slice none 0 0, .bool false]) ?_ 1 _ rfl; (with_reducible repeat (first | refine blk_drewN ?_ _ | refine blk_drew ?_ | refine blk_alloc ?_ _)); exact BK177.out))⟩; have n12_ : Aside0 (Below w.heap.size w w53) := ⟨(by rw [hw]; exact (belS HB.out))⟩; clear hw; clear HO_0; clear HO_9; clear HL172_0; clear HL172_1; clear HL176_0; clear HL176_1; clear HO175; clear HO180; clear HL184_0; clear HL184_1; clear HO187; clear BK177; clear HB; have HO_0 := n0_; have HO_9 := n1_; have HL172_0 := n2_; have HL172_1 := n3_; have HL176_0 := n4_; have HL176_1 := n5_; have HO175 := n6_; have HO180 := n7_; have HL184_0 := n8_; have HL184_1 := n9_; have HO187 := n10_; have BK177 := n11_; have HB := n12_; clear n0_ n1_ n2_ n3_ n4_ n5_ n6_ n7_ n8_ n9_ n10_ n11_ n12_; have hcz54_0 : w53.cell? ⟨gb177, 0, none⟩ = some (.slice Ao46 y178.length co46) := (blk_cell BK177.out 0).trans rfl; have hcz54_1 : w53.cell? ⟨gb177, 1, none⟩ = some (.slice Ao51 t185.length co51) := (blk_cell BK177.out 1).trans rfl; have hcz54_2 : w53.cell? ⟨gb177, 2, none⟩ = some (.bool false) := (blk_cell BK177.out 2).trans rfl; have hfz54_0 := blk_frozen BK177.out 0; have hfz54_1 := blk_frozen BK177.out 1; have hfz54_2 := blk_frozen BK177.out 2) | ((with_reducible refine gate_builtin (b := .append) (xs := #[.tmp 53, .tmp 55]) rfl ?_); at_builtin; refine Kd.N_append k49 (w0 := w) w.heap.size rfl (.tmp 53) (.tmp 55) 37 49 (.agg #[(.slice none 0 0), (.slice none 0 0), (.bool false)]) 56 rfl Try.underlying37 info49 rfl (by decide) (by omega) u9 x9_1 (⟨y178, t185, false⟩ : S49) [.slice Ao46 y178.length co46, .slice Ao51 t185.length co51, .bool false] (fun k_ => (P0_ k_ ∨ w.heap.size ≤ k_) ∧ k_ ≠ gb177) (fun k_ => ((fun k_ => (P0_ k_ ∨ w.heap.size ≤ k_) ∧ k_ ≠ gb177)) k_ ∧ some k_ ≠ (u9 : Value).ownBlock) rfl rfl ?aP (fun _ hk => hk) ?aF ?aO ?aB ?aS ?aL ?_; (case aP => exact (k49_mkF _ _ (⟨y178, t185, false⟩ : S49) (Kd.R_reads' (Kd.R_mono (ok' := (fun k_ => ((fun k_ => (P0_ k_ ∨ w.heap.size ≤ k_) ∧ k_ ≠ gb177)) k_ ∧ some k_ ≠ (u9 : Value).ownBlock)) (Kd.R_types (Kd.R_apart' (HO180.out) (Kd.N_typed HO_9.out) (by decide)) BK177.out (by decide)) (fun k_ hk => ⟨⟨(.inr (hk.1.1)), hk.2⟩, hk.1.2⟩))).2.1 (Kd.R_F (Kd.R_mono (ok' := (fun k_ => ((fun k_ => (P0_ k_ ∨ w.heap.size ≤ k_) ∧ k_ ≠ gb177)) k_ ∧ some k_ ≠ (u9 : Value).ownBlock)) (Kd.R_types (Kd.R_apart' (HO180.out) (Kd.N_typed HO_9.out) (by decide)) BK177.out (by decide)) (fun k_ hk => ⟨⟨(.inr (hk.1.1)), hk.2⟩, hk.1.2⟩))) (Kd.V_reads' (Kd.V_mono (ok' := (fun k_ => ((fun k_ => (P0_ k_ ∨ w.heap.size ≤ k_) ∧ k_ ≠ gb177)) k_ ∧ some k_ ≠ (u9 : Value).ownBlock)) (HO187.out) (fun k_ hk => ⟨⟨hk.1, hk.2.2.2⟩, hk.2.1⟩))).2.1 (Kd.V_F (Kd.V_mono (ok' := (fun k_ => ((fun k_ => (P0_ k_ ∨ w.heap.size ≤ k_) ∧ k_ ≠ gb177)) k_ ∧ some k_ ≠ (u9 : Value).ownBlock)) (HO187.out) (fun k_ hk => ⟨⟨hk.1, hk.2.2.2⟩, hk.2.1⟩))))); (case aB => exact (belS HB.out)); (case aF => exact (fun k_ hk => ⟨(.inr (Nat.le_trans (below_size (belS HB.out)) hk)), Kd.freshB (g := gb177) (o := .cells #[.slice Ao46 y178.length co46, .slice Ao51 t185.length co51, .bool false] 49 (0, 0)) (blkN BK177.out) k_ hk⟩)); (case aO => exact (by (with_reducible repeat (first | apply Kd.N_alloc | apply Kd.N_drewN | apply Kd.N_drew)); exact Kd.N_mono HO_9.out (fun _ hk => ⟨hk.1, hk.2.2⟩))); (case aS => exact (below_size (belS HB.out))); (case aL => have := LMc33.out; omega); intro v189 w55 ho hb hg hat; rw [← Ny188.out] at ho; have n0_ := Aside0.mk (Kd.V_afterv (ok := (fun k_ => (P0_ k_ ∨ w.heap.size ≤ k_) ∧ some k_ ≠ (.slice Ao46 y178.length co46 : Value).ownBlock ∧ k_ ≠ gb177)) (by (with_reducible repeat (first | apply Kd.V_alloc | apply Kd.V_drewN | apply Kd.V_drew)); exact Kd.V_mono HO_0.out (fun _ hk => ⟨⟨hk.1, ⟨hk.2.2.1, hk.2.2.2⟩⟩, hk.2.1⟩)) hg hat); have n1_ := Aside0.mk (Kd.V_afterv (ok := (fun k_ => (P0_ k_ ∨ w.heap.size ≤ k_) ∧ some k_ ≠ (.slice Ao46 y178.length co46 : Value).ownBlock ∧ k_ ≠ gb177)) (by (with_reducible repeat (first | apply Kd.V_alloc | apply Kd.V_drewN | apply Kd.V_drew)); exact Kd.V_mono HL172_0.out (fun _ hk => ⟨⟨hk.1, ⟨hk.2.2.1, hk.2.2.2⟩⟩, hk.2.1⟩)) hg hat); have n2_ := Aside0.mk (Kd.V_afterv (ok := (fun k_ => (P0_ k_ ∨ w.heap.size ≤ k_) ∧ some k_ ≠ (.slice Ao46 y178.length co46 : Value).ownBlock ∧ k_ ≠ gb177)) (by (with_reducible repeat (first | apply Kd.V_alloc | apply Kd.V_drewN | apply Kd.V_drew)); exact Kd.V_mono HL172_1.out (fun _ hk => ⟨⟨hk.1, ⟨hk.2.2.1, hk.2.2.2⟩⟩, hk.2.1⟩)) hg hat); have n3_ := Aside0.mk (Kd.V_afterv (ok := (fun k_ => (P0_ k_ ∨ w.heap.size ≤ k_) ∧ some k_ ≠ (.slice Ao46 y178.length co46 : Value).ownBlock ∧ k_ ≠ gb177)) (by (with_reducible repeat (first | apply Kd.V_alloc | apply Kd.V_drewN | apply Kd.V_drew)); exact Kd.V_mono HL176_0.out (fun _ hk => ⟨⟨hk.1, ⟨hk.2.2.1, hk.2.2.2⟩⟩, hk.2.1⟩)) hg hat); have n4_ := Aside0.mk (Kd.V_afterv (ok := (fun k_ => (P0_ k_ ∨ w.heap.size ≤ k_) ∧ some k_ ≠ (.slice Ao46 y178.length co46 : Value).ownBlock ∧ k_ ≠ gb177)) (by (with_reducible repeat (first | apply Kd.V_alloc | apply Kd.V_drewN | apply Kd.V_drew)); exact Kd.V_mono HL176_1.out (fun _ hk => ⟨⟨hk.1, ⟨hk.2.2.1, hk.2.2.2⟩⟩, hk.2.1⟩)) hg hat); have n5_ := Aside0.mk (Kd.V_afterv (ok := (fun k_ => (P0_ k_ ∨ w.heap.size ≤ k_) ∧ some k_ ≠ (.slice Ao46 y178.length co46 : Value).ownBlock ∧ k_ ≠ gb177)) (by (with_reducible repeat (first | apply Kd.V_alloc | apply Kd.V_drewN | apply Kd.V_drew)); exact Kd.V_mono HO175.out (fun _ hk => ⟨⟨hk.1, ⟨hk.2.2.1, hk.2.2.2⟩⟩, hk.2.1⟩)) hg hat); have n6_ := Aside0.mk (blk_grown (g := gb177) (o := .cells #[.slice Ao46 y178.length co46, .slice Ao51 t185.length co51, .bool false] 49 (0, 0)) (blkN BK177.out) hg (Kd.N_away HO_9.out (fun _ hk => hk.2.2))); have n7_ := Aside0.mk (Kd.V_afterv (ok := (fun k_ => (P0_ k_ ∨ w.heap.size ≤ k_) ∧ some k_ ≠ (.slice Ao46 y178.length co46 : Value).ownBlock ∧ k_ ≠ gb177)) (by (with_reducible repeat (first | apply Kd.V_alloc | apply Kd.V_drewN | apply Kd.V_drew)); exact Kd.V_mono HL184_0.out (fun _ hk => ⟨⟨hk.1, ⟨hk.2.2.1, hk.2.2.2⟩⟩, hk.2.1⟩)) hg hat); have n8_ := Aside0.mk (Kd.V_afterv (ok := (fun k_ => (P0_ k_ ∨ w.heap.size ≤ k_) ∧ some k_ ≠ (.slice Ao46 y178.length co46 : Value).ownBlock ∧ k_ ≠ gb177)) (by (with_reducible repeat (first | apply Kd.V_alloc | apply Kd.V_drewN | apply Kd.V_drew)); exact Kd.V_mono HL184_1.out (fun _ hk => ⟨⟨hk.1, ⟨hk.2.2.1, hk.2.2.2⟩⟩, hk.2.1⟩)) hg hat); have n9_ := Aside0.mk (Kd.V_afterv (ok := (fun k_ => (P0_ k_ ∨ w.heap.size ≤ k_) ∧ some k_ ≠ (.slice Ao46 y178.length co46 : Value).ownBlock ∧ k_ ≠ gb177)) (by (with_reducible repeat (first | apply Kd.V_alloc | apply Kd.V_drewN | apply Kd.V_drew)); exact Kd.V_mono HO187.out (fun _ hk => ⟨⟨hk.1, ⟨hk.2.2.1, hk.2.2.2⟩⟩, hk.2.1⟩)) hg hat); have n10_ := Aside0.mk (hb); have n11_ := Aside0.mk (ho); clear HO_0; clear HL172_0; clear HL172_1; clear HL176_0; clear HL176_1; clear HO175; clear BK177; clear HL184_0; clear HL184_1; clear HO187; clear HB; clear HO_9; clear HO180; have HO_0 := n0_; have HL172_0 := n1_; have HL172_1 := n2_; have HL176_0 := n3_; have HL176_1 := n4_; have HO175 := n5_; have BK177 := n6_; have HL184_0 := n7_; have HL184_1 := n8_; have HO187 := n9_; have HB := n10_; have HO190 := n11_; clear n0_ n1_ n2_ n3_ n4_ n5_ n6_ n7_ n8_ n9_ n10_ n11_; clear ho hb hg hat))
           go_roundg kj4
           case measure => have := HK1.out; have := HJ4.out; omega
           case rel => exact ⟨(y188), (wrap64 (x10_1 + 1)), (by first | rfl | (simp; done) | (simp [*]; done)), H', ⟨by have := HK1.out; have := HJ4.out; omega⟩, ⟨by (with_reducible repeat (first | apply Kd.V_alloc | apply Kd.V_drewN | apply Kd.V_drew)); exact Kd.V_mono HO_0.out (fun _ hk => ⟨hk.1.1, hk.2⟩)⟩, ⟨by (with_reducible repeat (first | apply Kd.N_alloc | apply Kd.N_drewN | apply Kd.N_drew)); exact Kd.N_mono HO190.out (fun _ hk => hk.1)⟩, ⟨(belS HB.out)⟩⟩
          ·rw [if_neg c33] at H
           exact absurd H (by simp)
        ·rw [if_neg c11] at H
         have c11b0 : ((t173.length : Int) == 0) = false := beq_eq_false_iff_ne.mpr c11
         have c11b1 : ((t173.length : Int) != 0) = true := bne_iff_ne.mpr c11
         have c11b2 : ¬ (t173 = []) := fun h_ => c11 (by rw [h_]; rfl)
         obtain ⟨bq56, hbq56⟩ : ∃ b_ : Bool, b_ = ((rd_T49 l0 x10_1).f2) := ⟨_, rfl⟩
         replace H : (if (bq56 = true) then (if x9_1.length < 2513169434916 then (marigraphkeep_Entries.l0 kj4 l0 a1 a2 a3 (x9_1 ++ [(⟨t173, ([] : List Int), bq56⟩ : S49)]) (wrap64 (x10_1 + 1))) else (none)) else ((marigraphkeep_Cut.f ((rd_T49 l0 x10_1).f1) a3).bind fun t195 => (if x9_1.length < 2513169434916 then (marigraphkeep_Entries.l0 kj4 l0 a1 a2 a3 (x9_1 ++ [(⟨t173, t195, bq56⟩ : S49)]) (wrap64 (x10_1 + 1))) else (none)))) = some r := by rw [← hbq56] at H; exact H
         have Nbq56 := Aside0.mk hbq56
         clear hbq56
         by_cases c57 : (bq56 = true)
         ·subst c57
          have H1 : (if x9_1.length < 2513169434916 then (marigraphkeep_Entries.l0 kj4 l0 a1 a2 a3 (x9_1 ++ [(⟨t173, ([] : List Int), true⟩ : S49)]) (wrap64 (x10_1 + 1))) else (none)) = some r := by rw [if_pos rfl] at H; exact H
          clear H
          have H := H1
          clear H1
          by_cases c58 : x9_1.length < 2513169434916
          ·rw [if_pos c58] at H
           have LMc58 := Aside0.mk c58
           clear c58
           obtain ⟨y191, hy191⟩ : ∃ y_ : List (S49), y_ = (x9_1 ++ [(⟨t173, ([] : List Int), true⟩ : S49)]) := ⟨_, rfl⟩
           replace H : (marigraphkeep_Entries.l0 kj4 l0 a1 a2 a3 y191 (wrap64 (x10_1 + 1))) = some r := by first | (rw [hy191]; with_reducible exact H) | (have H2_ := (Option.bind_some _ _).symm.trans H; rw [hy191]; with_reducible exact H2_) | (have H2_ := (Option.bind_some _ _).symm.trans H; with_reducible exact H2_) | with_reducible exact H | (rw [hy191]; exact H) | exact H
           have Ny191 := Aside0.mk hy191
           clear hy191
           have H' := Aside0.mk H
           clear H
           try go_wp2
           have n0_ := Aside0.mk (Kd.V_drew HO_0.out)
           have n1_ := Aside0.mk (Kd.N_drew HO_9.out)
           have n2_ := Aside0.mk (below_drew1 HB.out)
           clear HO_0
           clear HO_9
           clear HB
           have HO_0 := n0_
           have HO_9 := n1_
           have HB := n2_
           clear n0_ n1_ n2_
           have p172 : 0 ≤ (x10_1 : Int) := of_decide_eq_true (by first | (with_reducible assumption) | assumption)
           have q172 : x10_1 < (l0.length : Int) := of_decide_eq_true (by first | (with_reducible assumption) | assumption)
           obtain ⟨ad172, A172_0, c172_0, A172_1, c172_1, e172, hx172_0, hx172_1, hx172_2, hl172_0, hi172_0, hl172_1, hi172_1⟩ := at_T49 (Kd.V_reads' HO_0.out).2.2 x10_1 p172 q172
           (try rw [← Nbq56.out] at hx172_2)
           cases e172
           obtain ⟨ce172, hce172, hMe172, hcc172⟩ := Kd.V_get HO_0.out z49 x10_1 p172 (by first | exact q172 | exact of_decide_eq_true (by first | (with_reducible assumption) | assumption) | (have e_ := (Kd.V_reads' HO_0.out).1; omega))
           obtain ⟨ua172_0, uc172_0, ua172_1, uc172_1, rfl, ul172_0, ge172_0, ul172_1, ge172_1⟩ := k49_openF hMe172
           have hv172_0 := hcc172 0 _ rfl
           rw [Nat.add_zero] at hv172_0
           replace hv172_0 := Option.some.inj (hv172_0.symm.trans hx172_0)
           injection hv172_0 with hva_ hvn_ hvc_
           rw [hva_] at ge172_0
           rw [hvc_] at ul172_0
           have HL172_0 := Aside0.mk (show Kd.V (Kd.int .u8) 5 _ w.heap.size _ _ ((rd_T49 l0 x10_1).f0) from Kd.V_mk ul172_0 ge172_0)
           clear hva_ hvn_ hvc_ ge172_0 ul172_0
           have hv172_1 := hcc172 1 _ rfl
           rw [add_field _ _ 1 (by omega)] at hv172_1
           replace hv172_1 := Option.some.inj (hv172_1.symm.trans hx172_1)
           injection hv172_1 with hva_ hvn_ hvc_
           rw [hva_] at ge172_1
           rw [hvc_] at ul172_1
           have HL172_1 := Aside0.mk (show Kd.V (Kd.int .u8) 5 _ w.heap.size _ _ ((rd_T49 l0 x10_1).f1) from Kd.V_mk ul172_1 ge172_1)
           clear hva_ hvn_ hvc_ ge172_1 ul172_1
           clear hcc172 hce172
           have HR172_0 := Aside0.mk hi172_0
           have HC172_0 := Aside0.mk hl172_0
           clear hi172_0 hl172_0
           have HR172_1 := Aside0.mk hi172_1
           have HC172_1 := Aside0.mk hl172_1
           clear hi172_1 hl172_1
           replace p172 := eq_true p172
           replace q172 := eq_true q172
           have p176 : 0 ≤ (x10_1 : Int) := of_decide_eq_true (by first | (with_reducible assumption) | assumption)
           have q176 : x10_1 < (l0.length : Int) := of_decide_eq_true (by first | (with_reducible assumption) | assumption)
           obtain ⟨ad176, A176_0, c176_0, A176_1, c176_1, e176, hx176_0, hx176_1, hx176_2, hl176_0, hi176_0, hl176_1, hi176_1⟩ := at_T49 (Kd.V_reads' HO_0.out).2.2 x10_1 p176 q176
           (try rw [← Nbq56.out] at hx176_2)
           obtain rfl : ad172 = ad176 := (by injection e176)
           obtain ⟨ce176, hce176, hMe176, hcc176⟩ := Kd.V_get HO_0.out z49 x10_1 p176 (by first | exact q176 | exact of_decide_eq_true (by first | (with_reducible assumption) | assumption) | (have e_ := (Kd.V_reads' HO_0.out).1; omega))
           obtain ⟨ua176_0, uc176_0, ua176_1, uc176_1, rfl, ul176_0, ge176_0, ul176_1, ge176_1⟩ := k49_openF hMe176
           have hv176_0 := hcc176 0 _ rfl
           rw [Nat.add_zero] at hv176_0
           replace hv176_0 := Option.some.inj (hv176_0.symm.trans hx176_0)
           injection hv176_0 with hva_ hvn_ hvc_
           rw [hva_] at ge176_0
           rw [hvc_] at ul176_0
           have HL176_0 := Aside0.mk (show Kd.V (Kd.int .u8) 5 _ w.heap.size _ _ ((rd_T49 l0 x10_1).f0) from Kd.V_mk ul176_0 ge176_0)
           clear hva_ hvn_ hvc_ ge176_0 ul176_0
           have hv176_1 := hcc176 1 _ rfl
           rw [add_field _ _ 1 (by omega)] at hv176_1
           replace hv176_1 := Option.some.inj (hv176_1.symm.trans hx176_1)
           injection hv176_1 with hva_ hvn_ hvc_
           rw [hva_] at ge176_1
           rw [hvc_] at ul176_1
           have HL176_1 := Aside0.mk (show Kd.V (Kd.int .u8) 5 _ w.heap.size _ _ ((rd_T49 l0 x10_1).f1) from Kd.V_mk ul176_1 ge176_1)
           clear hva_ hvn_ hvc_ ge176_1 ul176_1
           clear hcc176 hce176
           have HR176_0 := Aside0.mk hi176_0
           have HC176_0 := Aside0.mk hl176_0
           clear hi176_0 hl176_0
           have HR176_1 := Aside0.mk hi176_1
           have HC176_1 := Aside0.mk hl176_1
           clear hi176_1 hl176_1
           replace p176 := eq_true p176
           replace q176 := eq_true q176
           have ea_ := Option.some.inj (hx172_0.symm.trans hx176_0)
           injection ea_ with ea_ en_ ec_
           subst ea_
           subst ec_
           clear en_
           have ea_ := Option.some.inj (hx172_1.symm.trans hx176_1)
           injection ea_ with ea_ en_ ec_
           subst ea_
           subst ec_
           clear en_
           refine start_ (n := 15) (S := fun w' => w'.cell? (ad172.add ((x10_1).toNat * 3)) = some (.slice A172_0 ((rd_T49 l0 x10_1).f0).length c172_0) ∧ w'.cell? ⟨(ad172.add ((x10_1).toNat * 3)).block, (ad172.add ((x10_1).toNat * 3)).off + 1, none⟩ = some (.slice A172_1 ((rd_T49 l0 x10_1).f1).length c172_1) ∧ w'.cell? ⟨(ad172.add ((x10_1).toNat * 3)).block, (ad172.add ((x10_1).toNat * 3)).off + 2, none⟩ = some (.bool true) ∧ w'.cell? (ad172.add ((x10_1).toNat * 3)) = some (.slice A172_0 ((rd_T49 l0 x10_1).f0).length c172_0) ∧ w'.cell? ⟨(ad172.add ((x10_1).toNat * 3)).block, (ad172.add ((x10_1).toNat * 3)).off + 1, none⟩ = some (.slice A172_1 ((rd_T49 l0 x10_1).f1).length c172_1) ∧ w'.cell? ⟨(ad172.add ((x10_1).toNat * 3)).block, (ad172.add ((x10_1).toNat * 3)).off + 2, none⟩ = some (.bool true)) (ds := []) #[false, false, false, false, false, false, false, false, false, false, false, false, false, false, false] (by kernel_rfl) rfl rfl ⟨hx172_0, hx172_1, hx172_2, hx176_0, hx176_1, hx176_2⟩ (fun hHeld => ?_); refine with_tabW marigraphkeep_Entries.tab5 marigraphkeep_Entries.bits5 (fun HT_ HW_ => ?_)
           generalize wc.drew = w59 at HO_0 HO_9 HB HL172_0 HL172_1 HL176_0 HL176_1 HR172_0 HR172_1 HR176_0 HR176_1 hx172_0 hx172_1 hx172_2 hx176_0 hx176_1 hx176_2 hHeld ⊢
           refine pA 0 (some 23) (bA 15 1) HT_.out ?_
           refine pA 1 (some 24) (bA 15 3) HT_.out ?_
           refine pA 2 (some 25) (bA 15 7) HT_.out ?_
           refine pA 3 (some 26) (bA 15 15) HT_.out ?_
           refine pA 5 (some 28) (bA 15 47) HT_.out ?_
           refine pA 7 (some 30) (bA 15 175) HT_.out ?_
           refine pA 8 (some 31) (bA 15 431) HT_.out ?_
           refine pA 9 (some 32) (bA 15 943) HT_.out ?_
           refine pA 10 (some 33) (bA 15 1967) HT_.out ?_
           refine take_ (i := 4) (N := some 27) (v := ?_) (a' := ?_) (bA 15 1983) rfl rfl (take_ofW HT_.out HW_.out (by kernel_rfl)) (fun _ _ _ h => h) (Or.inl ⟨by rfl, ?_⟩) hHeld ?_ ?_
           rotate_left
           ·rintro w' ⟨s0, s1, s2, s3, s4, s5⟩
            go_simp
            with_reducible rfl
           rotate_left
           ·simp only [Act.put, List.setIfInBounds_toArray, List.set_cons_zero, List.set_cons_succ, i64_w, i32_w]
            rfl
           refine take_ (i := 11) (N := some 34) (v := ?_) (a' := ?_) (bA 15 4031) rfl rfl (take_ofW HT_.out HW_.out (by kernel_rfl)) (fun _ _ _ h => h) (Or.inl ⟨by rfl, ?_⟩) hHeld ?_ ?_
           rotate_left
           ·rintro w' ⟨s0, s1, s2, s3, s4, s5⟩
            go_simp
            with_reducible rfl
           rotate_left
           ·simp only [Act.put, List.setIfInBounds_toArray, List.set_cons_zero, List.set_cons_succ, i64_w, i32_w]
            rfl
           refine join_ (σ := Value × Nat) 1 (bA 15 16383) (fun s_ => [(29, s_.1), (11, .pointer (some ⟨s_.2, 0, none⟩)), (35, .agg #[s_.1, .slice none 0 0, .bool true])]) (fun s_ w' => (w'.cell? (ad172.add ((x10_1).toNat * 3)) = some (.slice A172_0 ((rd_T49 l0 x10_1).f0).length c172_0) ∧ w'.cell? ⟨(ad172.add ((x10_1).toNat * 3)).block, (ad172.add ((x10_1).toNat * 3)).off + 1, none⟩ = some (.slice A172_1 ((rd_T49 l0 x10_1).f1).length c172_1) ∧ w'.cell? ⟨(ad172.add ((x10_1).toNat * 3)).block, (ad172.add ((x10_1).toNat * 3)).off + 2, none⟩ = some (.bool true) ∧ w'.cell? (ad172.add ((x10_1).toNat * 3)) = some (.slice A172_0 ((rd_T49 l0 x10_1).f0).length c172_0) ∧ w'.cell? ⟨(ad172.add ((x10_1).toNat * 3)).block, (ad172.add ((x10_1).toNat * 3)).off + 1, none⟩ = some (.slice A172_1 ((rd_T49 l0 x10_1).f1).length c172_1) ∧ w'.cell? ⟨(ad172.add ((x10_1).toNat * 3)).block, (ad172.add ((x10_1).toNat * 3)).off + 2, none⟩ = some (.bool true)) ∧ (Kd.V (Kd.int .u8) 5 w' w.heap.size (fun k_ => (P0_ k_ ∨ w.heap.size ≤ k_) ∧ some k_ ≠ (u9 : Value).ownBlock ∧ k_ ≠ s_.2) (.slice A172_0 ((rd_T49 l0 x10_1).f0).length c172_0) ((rd_T49 l0 x10_1).f0)) ∧ (Kd.V (Kd.int .u8) 5 w' w.heap.size (fun k_ => (P0_ k_ ∨ w.heap.size ≤ k_) ∧ some k_ ≠ (u9 : Value).ownBlock ∧ k_ ≠ s_.2) (.slice A172_1 ((rd_T49 l0 x10_1).f1).length c172_1) ((rd_T49 l0 x10_1).f1)) ∧ (Kd.V (Kd.int .u8) 5 w' w.heap.size (fun k_ => (P0_ k_ ∨ w.heap.size ≤ k_) ∧ some k_ ≠ (u9 : Value).ownBlock ∧ k_ ≠ s_.2) (.slice A172_0 ((rd_T49 l0 x10_1).f0).length c172_0) ((rd_T49 l0 x10_1).f0)) ∧ (Kd.V (Kd.int .u8) 5 w' w.heap.size (fun k_ => (P0_ k_ ∨ w.heap.size ≤ k_) ∧ some k_ ≠ (u9 : Value).ownBlock ∧ k_ ≠ s_.2) (.slice A172_1 ((rd_T49 l0 x10_1).f1).length c172_1) ((rd_T49 l0 x10_1).f1)) ∧ (Kd.V (Kd.int .u8) 5 w' w.heap.size (fun k_ => (P0_ k_ ∨ w.heap.size ≤ k_) ∧ some k_ ≠ (u9 : Value).ownBlock ∧ k_ ≠ s_.2) s_.1 t173) ∧ (Kd.V k49 49 w' w.heap.size (fun k_ => (P0_ k_ ∨ w.heap.size ≤ k_) ∧ some k_ ≠ (u9 : Value).ownBlock ∧ k_ ≠ s_.2) (.slice (some ad172) l0.length c0) l0) ∧ (Kd.N k49 49 w' w.heap.size (fun k_ => (P0_ k_ ∨ w.heap.size ≤ k_) ∧ k_ ≠ s_.2) u9 x9_1) ∧ (w'.heap[s_.2]? = some (.cells #[.slice none 0 0, .slice none 0 0, .bool false] 49 (0, 0))) ∧ (w.heap.size ≤ s_.2) ∧ (w.heap.size ≤ s_.2) ∧ (Below w.heap.size w w')) ?_ ?_
           rotate_left
           ·intro hCont
            refine two_ (i := 6) (j := 13) (Ni := some 29) (Nj := some 11) (bA 15 4095) (bA 15 12223) rfl rfl rfl rfl (two_of HT_.out (by kernel_rfl)) (by decide) (by decide) (fun K hK => ?_) (fun K hK => ?_)
            ·skip
             refine goes_ Try.func14 (by kernel_rfl) rfl #[.slice A172_0 ((rd_T49 l0 x10_1).f0).length c172_0, .int .i64 a2] (by rfl) rfl rfl argN ?_
             with_reducible refine (marigraphkeep_Cut.calls (fun k_ => ((P0_ k_ ∨ w.heap.size ≤ k_) ∧ some k_ ≠ (u9 : Value).ownBlock)) _ _ ((rd_T49 l0 x10_1).f0) a2 t173 _ ?side1 A10.out).mono ?_
             (case side1 => exact HL172_0.out)
             rintro e w60 ⟨v174, rfl, ho0, hb⟩
             have HS0_ := (hb.cell (World.block_lt_of_cell? _ _ (hHeld.1))).trans (hHeld.1)
             have HS1_ := (hb.cell (World.block_lt_of_cell? _ _ (hHeld.2.1))).trans (hHeld.2.1)
             have HS2_ := (hb.cell (World.block_lt_of_cell? _ _ (hHeld.2.2.1))).trans (hHeld.2.2.1)
             have HS3_ := (hb.cell (World.block_lt_of_cell? _ _ (hHeld.2.2.2.1))).trans (hHeld.2.2.2.1)
             have HS4_ := (hb.cell (World.block_lt_of_cell? _ _ (hHeld.2.2.2.2.1))).trans (hHeld.2.2.2.2.1)
             have HS5_ := (hb.cell (World.block_lt_of_cell? _ _ (hHeld.2.2.2.2.2))).trans (hHeld.2.2.2.2.2)
             refine ⟨_, rfl, ?_⟩
             have n0_ := Aside0.mk (Kd.V_below (by (with_reducible repeat (first | apply Kd.V_alloc | apply Kd.V_drewN | apply Kd.V_drew)); exact HO_0.out) hb)
             have n1_ := Aside0.mk (Kd.N_below (by (with_reducible repeat (first | apply Kd.N_alloc | apply Kd.N_drewN | apply Kd.N_drew)); exact HO_9.out) hb)
             have n2_ := Aside0.mk (Kd.V_below (by (with_reducible repeat (first | apply Kd.V_alloc | apply Kd.V_drewN | apply Kd.V_drew)); exact HL172_0.out) hb)
             have n3_ := Aside0.mk (Kd.V_below (by (with_reducible repeat (first | apply Kd.V_alloc | apply Kd.V_drewN | apply Kd.V_drew)); exact HL172_1.out) hb)
             have n4_ := Aside0.mk (Kd.V_below (by (with_reducible repeat (first | apply Kd.V_alloc | apply Kd.V_drewN | apply Kd.V_drew)); exact HL176_0.out) hb)
             have n5_ := Aside0.mk (Kd.V_below (by (with_reducible repeat (first | apply Kd.V_alloc | apply Kd.V_drewN | apply Kd.V_drew)); exact HL176_1.out) hb)
             have n6_ := Aside0.mk (Kd.V_lower (Kd.V_mono (ok' := fun k_ => (P0_ k_ ∨ w.heap.size ≤ k_) ∧ some k_ ≠ (u9 : Value).ownBlock) ho0 (fun k_ hk_ => ⟨Or.elim hk_ (fun hs_ => hs_.1) (fun hn_ => (.inr (Nat.le_trans (below_size (belN HB.out)) hn_))), Or.elim hk_ (fun hs_ => hs_.2) (fun hn_ => (Kd.fresh' (Kd.N_lt (by (with_reducible repeat (first | apply Kd.N_alloc | apply Kd.N_drewN | apply Kd.N_drew)); exact HO_9.out)) k_ hn_))⟩)) (below_size (belN HB.out)))
             have n7_ := Aside0.mk (cbN HR172_0.out hb)
             have n8_ := Aside0.mk (cbN HR172_1.out hb)
             have n9_ := Aside0.mk (cbN HR176_0.out hb)
             have n10_ := Aside0.mk (cbN HR176_1.out hb)
             have n11_ := Aside0.mk (below_step (belN HB.out) hb)
             clear HO_0
             clear HO_9
             clear HL172_0
             clear HL172_1
             clear HL176_0
             clear HL176_1
             clear HR172_0
             clear HR172_1
             clear HR176_0
             clear HR176_1
             clear HB
             have HO_0 := n0_
             have HO_9 := n1_
             have HL172_0 := n2_
             have HL172_1 := n3_
             have HL176_0 := n4_
             have HL176_1 := n5_
             have HO175 := n6_
             have HR172_0 := n7_
             have HR172_1 := n8_
             have HR176_0 := n9_
             have HR176_1 := n10_
             have HB := n11_
             clear n0_ n1_ n2_ n3_ n4_ n5_ n6_ n7_ n8_ n9_ n10_ n11_
             (try clear hb)
             (try clear hk)
             (try clear ho0)
             obtain ⟨Ao61, co61, eo61⟩ := Kd.V_slice HO175.out
             (first | subst eo61 | (injection eo61 with f1_ f2_ f3_; have f4_ := f1_.symm; have f5_ := f3_.symm; clear f1_ f2_ f3_; subst f4_; subst f5_))
             refine hK.out _ _ ⟨HS0_, HS1_, HS2_, HS3_, HS4_, HS5_⟩ (fun hHeld => ?_)
             clear hK K
             refine norm_ (a' := ?_) ?_ ?_
             rotate_left
             ·show Act.put _ (some 29) _ = _
              simp only [Act.put, List.setIfInBounds_toArray, List.set_cons_zero, List.set_cons_succ, i64_w, i32_w]
              rfl
             refine pA 12 (some 35) (bA 15 8191) HT_.out ?_
             refine one_ (i := 13) (N := some 11) (bA 15 16383) rfl rfl (one_of HT_.out (by kernel_rfl)) (by decide) (fun K hK => ?_)
             refine box_step ?hg (N := 11) ?hd (cs := #[.slice none 0 0, .slice none 0 0, .bool false]) (t := 49) ?hr ?_; (case hd => rfl); (case hg => rfl); (case hr => first | (go_simp; done) | (go_simp; rfl))
             intro gb177 hg w62 hbox hb
             have HS0_ := (hb.cell (World.block_lt_of_cell? _ _ (hHeld.1))).trans (hHeld.1)
             have HS1_ := (hb.cell (World.block_lt_of_cell? _ _ (hHeld.2.1))).trans (hHeld.2.1)
             have HS2_ := (hb.cell (World.block_lt_of_cell? _ _ (hHeld.2.2.1))).trans (hHeld.2.2.1)
             have HS3_ := (hb.cell (World.block_lt_of_cell? _ _ (hHeld.2.2.2.1))).trans (hHeld.2.2.2.1)
             have HS4_ := (hb.cell (World.block_lt_of_cell? _ _ (hHeld.2.2.2.2.1))).trans (hHeld.2.2.2.2.1)
             have HS5_ := (hb.cell (World.block_lt_of_cell? _ _ (hHeld.2.2.2.2.2))).trans (hHeld.2.2.2.2.2)
             have n0_ := Aside0.mk (Kd.V_below (Kd.V_elderB (by (with_reducible repeat (first | apply Kd.V_alloc | apply Kd.V_drewN | apply Kd.V_drew)); exact HO_0.out) gb177 (Nat.le_of_eq hg.symm)) hb)
             have n1_ := Aside0.mk (Kd.N_below (Kd.N_elderB (by (with_reducible repeat (first | apply Kd.N_alloc | apply Kd.N_drewN | apply Kd.N_drew)); exact HO_9.out) gb177 (Nat.le_of_eq hg.symm)) hb)
             have n2_ := Aside0.mk (Kd.V_below (Kd.V_elderB (by (with_reducible repeat (first | apply Kd.V_alloc | apply Kd.V_drewN | apply Kd.V_drew)); exact HL172_0.out) gb177 (Nat.le_of_eq hg.symm)) hb)
             have n3_ := Aside0.mk (Kd.V_below (Kd.V_elderB (by (with_reducible repeat (first | apply Kd.V_alloc | apply Kd.V_drewN | apply Kd.V_drew)); exact HL172_1.out) gb177 (Nat.le_of_eq hg.symm)) hb)
             have n4_ := Aside0.mk (Kd.V_below (Kd.V_elderB (by (with_reducible repeat (first | apply Kd.V_alloc | apply Kd.V_drewN | apply Kd.V_drew)); exact HL176_0.out) gb177 (Nat.le_of_eq hg.symm)) hb)
             have n5_ := Aside0.mk (Kd.V_below (Kd.V_elderB (by (with_reducible repeat (first | apply Kd.V_alloc | apply Kd.V_drewN | apply Kd.V_drew)); exact HL176_1.out) gb177 (Nat.le_of_eq hg.symm)) hb)
             have n6_ := Aside0.mk (Kd.V_below (Kd.V_elderB (by (with_reducible repeat (first | apply Kd.V_alloc | apply Kd.V_drewN | apply Kd.V_drew)); exact HO175.out) gb177 (Nat.le_of_eq hg.symm)) hb)
             have n7_ := Aside0.mk (cbN HR172_0.out hb)
             have n8_ := Aside0.mk (cbN HR172_1.out hb)
             have n9_ := Aside0.mk (cbN HR176_0.out hb)
             have n10_ := Aside0.mk (cbN HR176_1.out hb)
             have n11_ := Aside0.mk (below_step (belN HB.out) hb)
             have n12_ := Aside0.mk (hbox)
             have n13_ := Aside0.mk (szB hg HB.out)
             have n14_ := Aside0.mk (szB hg HB.out)
             clear HO_0
             clear HO_9
             clear HL172_0
             clear HL172_1
             clear HL176_0
             clear HL176_1
             clear HO175
             clear HR172_0
             clear HR172_1
             clear HR176_0
             clear HR176_1
             clear HB
             have HO_0 := n0_
             have HO_9 := n1_
             have HL172_0 := n2_
             have HL172_1 := n3_
             have HL176_0 := n4_
             have HL176_1 := n5_
             have HO175 := n6_
             have HR172_0 := n7_
             have HR172_1 := n8_
             have HR176_0 := n9_
             have HR176_1 := n10_
             have HB := n11_
             have BK177 := n12_
             have GW177 := n13_
             have GE177 := n14_
             clear n0_ n1_ n2_ n3_ n4_ n5_ n6_ n7_ n8_ n9_ n10_ n11_ n12_ n13_ n14_
             clear hb hbox hg
             refine hK.out _ _ ⟨HS0_, HS1_, HS2_, HS3_, HS4_, HS5_⟩ (fun hHeld => ?_)
             clear hK K
             refine norm_ (a' := ?_) ?_ ?_
             rotate_left
             ·show Act.put _ (some 11) _ = _
              simp only [Act.put, List.setIfInBounds_toArray, List.set_cons_zero, List.set_cons_succ, i64_w, i32_w]
              rfl
             exact norm_ (by simp only [putAll, Act.put, List.setIfInBounds_toArray, List.set_cons_zero, List.set_cons_succ]) (hCont (.slice Ao61 t173.length co61, gb177) _ ⟨hHeld, (by (with_reducible repeat (first | apply Kd.V_alloc | apply Kd.V_drewN | apply Kd.V_drew)); exact Kd.V_mono HL172_0.out (fun _ hk => ⟨hk.1.1, ⟨hk.1.2, hk.2⟩⟩)), (by (with_reducible repeat (first | apply Kd.V_alloc | apply Kd.V_drewN | apply Kd.V_drew)); exact Kd.V_mono HL172_1.out (fun _ hk => ⟨hk.1.1, ⟨hk.1.2, hk.2⟩⟩)), (by (with_reducible repeat (first | apply Kd.V_alloc | apply Kd.V_drewN | apply Kd.V_drew)); exact Kd.V_mono HL176_0.out (fun _ hk => ⟨hk.1.1, ⟨hk.1.2, hk.2⟩⟩)), (by (with_reducible repeat (first | apply Kd.V_alloc | apply Kd.V_drewN | apply Kd.V_drew)); exact Kd.V_mono HL176_1.out (fun _ hk => ⟨hk.1.1, ⟨hk.1.2, hk.2⟩⟩)), (by (with_reducible repeat (first | apply Kd.V_alloc | apply Kd.V_drewN | apply Kd.V_drew)); exact Kd.V_mono HO175.out (fun _ hk => ⟨hk.1.1, ⟨hk.1.2, hk.2⟩⟩)), (by (with_reducible repeat (first | apply Kd.V_alloc | apply Kd.V_drewN | apply Kd.V_drew)); exact Kd.V_mono HO_0.out (fun _ hk => ⟨hk.1.1, ⟨hk.1.2, hk.2⟩⟩)), (by (with_reducible repeat (first | apply Kd.N_alloc | apply Kd.N_drewN | apply Kd.N_drew)); exact HO_9.out), (blkN BK177.out), GW177.out, GE177.out, (belS HB.out)⟩)
            ·skip
             refine box_step ?hg (N := 11) ?hd (cs := #[.slice none 0 0, .slice none 0 0, .bool false]) (t := 49) ?hr ?_; (case hd => rfl); (case hg => rfl); (case hr => first | (go_simp; done) | (go_simp; rfl))
             intro gb177 hg w60 hbox hb
             have HS0_ := (hb.cell (World.block_lt_of_cell? _ _ (hHeld.1))).trans (hHeld.1)
             have HS1_ := (hb.cell (World.block_lt_of_cell? _ _ (hHeld.2.1))).trans (hHeld.2.1)
             have HS2_ := (hb.cell (World.block_lt_of_cell? _ _ (hHeld.2.2.1))).trans (hHeld.2.2.1)
             have HS3_ := (hb.cell (World.block_lt_of_cell? _ _ (hHeld.2.2.2.1))).trans (hHeld.2.2.2.1)
             have HS4_ := (hb.cell (World.block_lt_of_cell? _ _ (hHeld.2.2.2.2.1))).trans (hHeld.2.2.2.2.1)
             have HS5_ := (hb.cell (World.block_lt_of_cell? _ _ (hHeld.2.2.2.2.2))).trans (hHeld.2.2.2.2.2)
             have n0_ := Aside0.mk (Kd.V_below (Kd.V_elderB (by (with_reducible repeat (first | apply Kd.V_alloc | apply Kd.V_drewN | apply Kd.V_drew)); exact HO_0.out) gb177 (Nat.le_of_eq hg.symm)) hb)
             have n1_ := Aside0.mk (Kd.N_below (Kd.N_elderB (by (with_reducible repeat (first | apply Kd.N_alloc | apply Kd.N_drewN | apply Kd.N_drew)); exact HO_9.out) gb177 (Nat.le_of_eq hg.symm)) hb)
             have n2_ := Aside0.mk (Kd.V_below (Kd.V_elderB (by (with_reducible repeat (first | apply Kd.V_alloc | apply Kd.V_drewN | apply Kd.V_drew)); exact HL172_0.out) gb177 (Nat.le_of_eq hg.symm)) hb)
             have n3_ := Aside0.mk (Kd.V_below (Kd.V_elderB (by (with_reducible repeat (first | apply Kd.V_alloc | apply Kd.V_drewN | apply Kd.V_drew)); exact HL172_1.out) gb177 (Nat.le_of_eq hg.symm)) hb)
             have n4_ := Aside0.mk (Kd.V_below (Kd.V_elderB (by (with_reducible repeat (first | apply Kd.V_alloc | apply Kd.V_drewN | apply Kd.V_drew)); exact HL176_0.out) gb177 (Nat.le_of_eq hg.symm)) hb)
             have n5_ := Aside0.mk (Kd.V_below (Kd.V_elderB (by (with_reducible repeat (first | apply Kd.V_alloc | apply Kd.V_drewN | apply Kd.V_drew)); exact HL176_1.out) gb177 (Nat.le_of_eq hg.symm)) hb)
             have n6_ := Aside0.mk (cbN HR172_0.out hb)
             have n7_ := Aside0.mk (cbN HR172_1.out hb)
             have n8_ := Aside0.mk (cbN HR176_0.out hb)
             have n9_ := Aside0.mk (cbN HR176_1.out hb)
             have n10_ := Aside0.mk (below_step (belN HB.out) hb)
             have n11_ := Aside0.mk (hbox)
             have n12_ := Aside0.mk (szB hg HB.out)
             have n13_ := Aside0.mk (szB hg HB.out)
             clear HO_0
             clear HO_9
             clear HL172_0
             clear HL172_1
             clear HL176_0
             clear HL176_1
             clear HR172_0
             clear HR172_1
             clear HR176_0
             clear HR176_1
             clear HB
             have HO_0 := n0_
             have HO_9 := n1_
             have HL172_0 := n2_
             have HL172_1 := n3_
             have HL176_0 := n4_
             have HL176_1 := n5_
             have HR172_0 := n6_
             have HR172_1 := n7_
             have HR176_0 := n8_
             have HR176_1 := n9_
             have HB := n10_
             have BK177 := n11_
             have GW177 := n12_
             have GE177 := n13_
             clear n0_ n1_ n2_ n3_ n4_ n5_ n6_ n7_ n8_ n9_ n10_ n11_ n12_ n13_
             clear hb hbox hg
             refine hK.out _ _ ⟨HS0_, HS1_, HS2_, HS3_, HS4_, HS5_⟩ (fun hHeld => ?_)
             clear hK K
             refine norm_ (a' := ?_) ?_ ?_
             rotate_left
             ·show Act.put _ (some 11) _ = _
              simp only [Act.put, List.setIfInBounds_toArray, List.set_cons_zero, List.set_cons_succ, i64_w, i32_w]
              rfl
             refine one_ (i := 6) (N := some 29) (bA 15 12287) rfl rfl (one_of HT_.out (by kernel_rfl)) (by decide) (fun K hK => ?_)
             refine goes_ Try.func14 (by kernel_rfl) rfl #[.slice A172_0 ((rd_T49 l0 x10_1).f0).length c172_0, .int .i64 a2] (by rfl) rfl rfl argN ?_
             with_reducible refine (marigraphkeep_Cut.calls (fun k_ => (((P0_ k_ ∨ w.heap.size ≤ k_) ∧ some k_ ≠ (u9 : Value).ownBlock) ∧ k_ ≠ gb177)) _ _ ((rd_T49 l0 x10_1).f0) a2 t173 _ ?side1 A10.out).mono ?_
             (case side1 => exact HL172_0.out)
             rintro e w61 ⟨v174, rfl, ho0, hb⟩
             have HS0_ := (hb.cell (World.block_lt_of_cell? _ _ (hHeld.1))).trans (hHeld.1)
             have HS1_ := (hb.cell (World.block_lt_of_cell? _ _ (hHeld.2.1))).trans (hHeld.2.1)
             have HS2_ := (hb.cell (World.block_lt_of_cell? _ _ (hHeld.2.2.1))).trans (hHeld.2.2.1)
             have HS3_ := (hb.cell (World.block_lt_of_cell? _ _ (hHeld.2.2.2.1))).trans (hHeld.2.2.2.1)
             have HS4_ := (hb.cell (World.block_lt_of_cell? _ _ (hHeld.2.2.2.2.1))).trans (hHeld.2.2.2.2.1)
             have HS5_ := (hb.cell (World.block_lt_of_cell? _ _ (hHeld.2.2.2.2.2))).trans (hHeld.2.2.2.2.2)
             refine ⟨_, rfl, ?_⟩
             have n0_ := Aside0.mk (Kd.V_below (by (with_reducible repeat (first | apply Kd.V_alloc | apply Kd.V_drewN | apply Kd.V_drew)); exact HO_0.out) hb)
             have n1_ := Aside0.mk (Kd.N_below (by (with_reducible repeat (first | apply Kd.N_alloc | apply Kd.N_drewN | apply Kd.N_drew)); exact HO_9.out) hb)
             have n2_ := Aside0.mk (Kd.V_below (by (with_reducible repeat (first | apply Kd.V_alloc | apply Kd.V_drewN | apply Kd.V_drew)); exact HL172_0.out) hb)
             have n3_ := Aside0.mk (Kd.V_below (by (with_reducible repeat (first | apply Kd.V_alloc | apply Kd.V_drewN | apply Kd.V_drew)); exact HL172_1.out) hb)
             have n4_ := Aside0.mk (Kd.V_below (by (with_reducible repeat (first | apply Kd.V_alloc | apply Kd.V_drewN | apply Kd.V_drew)); exact HL176_0.out) hb)
             have n5_ := Aside0.mk (Kd.V_below (by (with_reducible repeat (first | apply Kd.V_alloc | apply Kd.V_drewN | apply Kd.V_drew)); exact HL176_1.out) hb)
             have n6_ := Aside0.mk (Kd.V_lower (Kd.V_mono (ok' := fun k_ => (P0_ k_ ∨ w.heap.size ≤ k_) ∧ some k_ ≠ (u9 : Value).ownBlock ∧ k_ ≠ gb177) ho0 (fun k_ hk_ => ⟨Or.elim hk_ (fun hs_ => hs_.1.1) (fun hn_ => (.inr (Nat.le_trans (below_size (belS HB.out)) hn_))), Or.elim hk_ (fun hs_ => hs_.1.2) (fun hn_ => (Kd.fresh' (Kd.N_lt (by (with_reducible repeat (first | apply Kd.N_alloc | apply Kd.N_drewN | apply Kd.N_drew)); exact HO_9.out)) k_ hn_)), Or.elim hk_ (fun hs_ => hs_.2) (fun hn_ => (Kd.freshB (g := gb177) (o := .cells #[.slice none 0 0, .slice none 0 0, .bool false] 49 (0, 0)) (blkN BK177.out) k_ hn_))⟩)) (below_size (belS HB.out)))
             have n7_ := Aside0.mk (cbN HR172_0.out hb)
             have n8_ := Aside0.mk (cbN HR172_1.out hb)
             have n9_ := Aside0.mk (cbN HR176_0.out hb)
             have n10_ := Aside0.mk (cbN HR176_1.out hb)
             have n11_ := Aside0.mk (bkB BK177.out hb)
             have n12_ := Aside0.mk (below_step (belS HB.out) hb)
             clear HO_0
             clear HO_9
             clear HL172_0
             clear HL172_1
             clear HL176_0
             clear HL176_1
             clear HR172_0
             clear HR172_1
             clear HR176_0
             clear HR176_1
             clear BK177
             clear HB
             have HO_0 := n0_
             have HO_9 := n1_
             have HL172_0 := n2_
             have HL172_1 := n3_
             have HL176_0 := n4_
             have HL176_1 := n5_
             have HO175 := n6_
             have HR172_0 := n7_
             have HR172_1 := n8_
             have HR176_0 := n9_
             have HR176_1 := n10_
             have BK177 := n11_
             have HB := n12_
             clear n0_ n1_ n2_ n3_ n4_ n5_ n6_ n7_ n8_ n9_ n10_ n11_ n12_
             (try clear hb)
             (try clear hk)
             (try clear ho0)
             obtain ⟨Ao62, co62, eo62⟩ := Kd.V_slice HO175.out
             (first | subst eo62 | (injection eo62 with f1_ f2_ f3_; have f4_ := f1_.symm; have f5_ := f3_.symm; clear f1_ f2_ f3_; subst f4_; subst f5_))
             refine hK.out _ _ ⟨HS0_, HS1_, HS2_, HS3_, HS4_, HS5_⟩ (fun hHeld => ?_)
             clear hK K
             refine norm_ (a' := ?_) ?_ ?_
             rotate_left
             ·show Act.put _ (some 29) _ = _
              simp only [Act.put, List.setIfInBounds_toArray, List.set_cons_zero, List.set_cons_succ, i64_w, i32_w]
              rfl
             refine pA 12 (some 35) (bA 15 16383) HT_.out ?_
             exact norm_ (by simp only [putAll, Act.put, List.setIfInBounds_toArray, List.set_cons_zero, List.set_cons_succ]) (hCont (.slice Ao62 t173.length co62, gb177) _ ⟨hHeld, (by (with_reducible repeat (first | apply Kd.V_alloc | apply Kd.V_drewN | apply Kd.V_drew)); exact Kd.V_mono HL172_0.out (fun _ hk => ⟨hk.1.1, ⟨hk.1.2, hk.2⟩⟩)), (by (with_reducible repeat (first | apply Kd.V_alloc | apply Kd.V_drewN | apply Kd.V_drew)); exact Kd.V_mono HL172_1.out (fun _ hk => ⟨hk.1.1, ⟨hk.1.2, hk.2⟩⟩)), (by (with_reducible repeat (first | apply Kd.V_alloc | apply Kd.V_drewN | apply Kd.V_drew)); exact Kd.V_mono HL176_0.out (fun _ hk => ⟨hk.1.1, ⟨hk.1.2, hk.2⟩⟩)), (by (with_reducible repeat (first | apply Kd.V_alloc | apply Kd.V_drewN | apply Kd.V_drew)); exact Kd.V_mono HL176_1.out (fun _ hk => ⟨hk.1.1, ⟨hk.1.2, hk.2⟩⟩)), (by (with_reducible repeat (first | apply Kd.V_alloc | apply Kd.V_drewN | apply Kd.V_drew)); exact HO175.out), (by (with_reducible repeat (first | apply Kd.V_alloc | apply Kd.V_drewN | apply Kd.V_drew)); exact Kd.V_mono HO_0.out (fun _ hk => ⟨hk.1.1, ⟨hk.1.2, hk.2⟩⟩)), (by (with_reducible repeat (first | apply Kd.N_alloc | apply Kd.N_drewN | apply Kd.N_drew)); exact HO_9.out), (blkN BK177.out), GW177.out, GE177.out, (belS HB.out)⟩)
           rintro ⟨v174, gb177⟩ w63 ⟨hS_, h0_, h1_, h2_, h3_, h4_, h5_, h6_, h7_, h8_, h9_, h10_⟩
           have n0_ : Aside0 (Kd.V (Kd.int .u8) 5 w63 w.heap.size (fun k_ => (P0_ k_ ∨ w.heap.size ≤ k_) ∧ some k_ ≠ (u9 : Value).ownBlock ∧ k_ ≠ gb177) (.slice A172_0 ((rd_T49 l0 x10_1).f0).length c172_0) ((rd_T49 l0 x10_1).f0)) := ⟨h0_⟩
           have n1_ : Aside0 (Kd.V (Kd.int .u8) 5 w63 w.heap.size (fun k_ => (P0_ k_ ∨ w.heap.size ≤ k_) ∧ some k_ ≠ (u9 : Value).ownBlock ∧ k_ ≠ gb177) (.slice A172_1 ((rd_T49 l0 x10_1).f1).length c172_1) ((rd_T49 l0 x10_1).f1)) := ⟨h1_⟩
           have n2_ : Aside0 (Kd.V (Kd.int .u8) 5 w63 w.heap.size (fun k_ => (P0_ k_ ∨ w.heap.size ≤ k_) ∧ some k_ ≠ (u9 : Value).ownBlock ∧ k_ ≠ gb177) (.slice A172_0 ((rd_T49 l0 x10_1).f0).length c172_0) ((rd_T49 l0 x10_1).f0)) := ⟨h2_⟩
           have n3_ : Aside0 (Kd.V (Kd.int .u8) 5 w63 w.heap.size (fun k_ => (P0_ k_ ∨ w.heap.size ≤ k_) ∧ some k_ ≠ (u9 : Value).ownBlock ∧ k_ ≠ gb177) (.slice A172_1 ((rd_T49 l0 x10_1).f1).length c172_1) ((rd_T49 l0 x10_1).f1)) := ⟨h3_⟩
           have n4_ : Aside0 (Kd.V (Kd.int .u8) 5 w63 w.heap.size (fun k_ => (P0_ k_ ∨ w.heap.size ≤ k_) ∧ some k_ ≠ (u9 : Value).ownBlock ∧ k_ ≠ gb177) v174 t173) := ⟨h4_⟩
           have n5_ : Aside0 (Kd.V k49 49 w63 w.heap.size (fun k_ => (P0_ k_ ∨ w.heap.size ≤ k_) ∧ some k_ ≠ (u9 : Value).ownBlock ∧ k_ ≠ gb177) (.slice (some ad172) l0.length c0) l0) := ⟨h5_⟩
           have n6_ : Aside0 (Kd.N k49 49 w63 w.heap.size (fun k_ => (P0_ k_ ∨ w.heap.size ≤ k_) ∧ k_ ≠ gb177) u9 x9_1) := ⟨h6_⟩
           have n7_ : Aside0 (w63.heap[gb177]? = some (.cells #[.slice none 0 0, .slice none 0 0, .bool false] 49 (0, 0))) := ⟨h7_⟩
           have n8_ : Aside0 (w.heap.size ≤ gb177) := ⟨h8_⟩
           have n9_ : Aside0 (w.heap.size ≤ gb177) := ⟨h9_⟩
           have n10_ : Aside0 (Below w.heap.size w w63) := ⟨h10_⟩
           clear HO_0
           clear HO_9
           clear HB
           clear h0_ h1_ h2_ h3_ h4_ h5_ h6_ h7_ h8_ h9_ h10_
           have HL172_0 := n0_
           have HL172_1 := n1_
           have HL176_0 := n2_
           have HL176_1 := n3_
           have HO175 := n4_
           have HO_0 := n5_
           have HO_9 := n6_
           have BK177 := n7_
           have GW177 := n8_
           have GE177 := n9_
           have HB := n10_
           clear n0_ n1_ n2_ n3_ n4_ n5_ n6_ n7_ n8_ n9_ n10_
           have hHeld : w63.cell? (ad172.add ((x10_1).toNat * 3)) = some (.slice A172_0 ((rd_T49 l0 x10_1).f0).length c172_0) ∧ w63.cell? ⟨(ad172.add ((x10_1).toNat * 3)).block, (ad172.add ((x10_1).toNat * 3)).off + 1, none⟩ = some (.slice A172_1 ((rd_T49 l0 x10_1).f1).length c172_1) ∧ w63.cell? ⟨(ad172.add ((x10_1).toNat * 3)).block, (ad172.add ((x10_1).toNat * 3)).off + 2, none⟩ = some (.bool true) ∧ w63.cell? (ad172.add ((x10_1).toNat * 3)) = some (.slice A172_0 ((rd_T49 l0 x10_1).f0).length c172_0) ∧ w63.cell? ⟨(ad172.add ((x10_1).toNat * 3)).block, (ad172.add ((x10_1).toNat * 3)).off + 1, none⟩ = some (.slice A172_1 ((rd_T49 l0 x10_1).f1).length c172_1) ∧ w63.cell? ⟨(ad172.add ((x10_1).toNat * 3)).block, (ad172.add ((x10_1).toNat * 3)).off + 2, none⟩ = some (.bool true) := hS_
           obtain ⟨Ao64, co64, eo64⟩ := Kd.V_slice HO175.out
           (first | subst eo64 | (injection eo64 with f1_ f2_ f3_; have f4_ := f1_.symm; have f5_ := f3_.symm; clear f1_ f2_ f3_; subst f4_; subst f5_))
           refine norm_ (a' := ?_) ?_ ?_
           rotate_left
           ·simp only [putAll, Act.put, List.setIfInBounds_toArray, List.set_cons_zero, List.set_cons_succ]
            rfl
           refine one_ (i := 14) (N := none) (bA 15 32767) rfl rfl (one_of HT_.out (by kernel_rfl)) (by decide) (fun K hK => ?_)
           have hs65 : w63.cell? ⟨gb177, 0, none⟩ = some (.slice none 0 0) := (blk_cell BK177.out 0).trans rfl
           have hfs65 := blk_frozen BK177.out 0
           have hs66 : w63.cell? ⟨gb177, 1, none⟩ = some (.slice none 0 0) := (blk_cell BK177.out 1).trans rfl
           have hfs66 := blk_frozen BK177.out 1
           have hs67 : w63.cell? ⟨gb177, 2, none⟩ = some (.bool false) := (blk_cell BK177.out 2).trans rfl
           have hfs67 := blk_frozen BK177.out 2
           refine skip_ (w1 := ?_) (by rfl) rfl ?_ ?_
           rotate_left
           ·go_simp
            rfl
           have hbl_ : (ad172.add ((x10_1).toNat * 3)).block ≠ gb177 := by rw [add_block]; exact V_blk HO_0.out z49 (by decide) (by have a_ := of_eq_true p172; have b_ := of_eq_true q172; omega) (fun _ hk => hk.2.2)
           refine hK.out _ _ ⟨(far3 (by exact hbl_)).trans hHeld.1, (far3 (by exact hbl_)).trans hHeld.2.1, (far3 (by exact hbl_)).trans hHeld.2.2.1, (far3 (by exact hbl_)).trans hHeld.2.2.2.1, (far3 (by exact hbl_)).trans hHeld.2.2.2.2.1, (far3 (by exact hbl_)).trans hHeld.2.2.2.2.2⟩ (fun hHeld => ?_)
           clear hbl_
           clear hK K
           refine done_ (done_of HT_.out (by kernel_rfl)) ?_
           have n0_ : Aside0 (Kd.V k49 49 (((w63.setCell ⟨gb177, 0, none⟩ (.slice Ao64 t173.length co64)).setCell ⟨gb177, 1, none⟩ (.slice none 0 0)).setCell ⟨gb177, 2, none⟩ (.bool true)) w.heap.size (fun k_ => (P0_ k_ ∨ w.heap.size ≤ k_) ∧ some k_ ≠ (u9 : Value).ownBlock ∧ k_ ≠ gb177) (.slice (some ad172) l0.length c0) l0) := ⟨by (with_reducible repeat (first | apply Kd.V_alloc | apply Kd.V_drewN | apply Kd.V_drew)); exact Kd.V_mono (Kd.V_far (p := ⟨gb177, 2, none⟩) (Kd.V_far (p := ⟨gb177, 1, none⟩) (Kd.V_far (p := ⟨gb177, 0, none⟩) (Kd.V_mono HO_0.out (fun k_ hk => (⟨hk, hk.2.2⟩ : _ ∧ k_ ≠ gb177))) (fun _ hk => hk.2) (.slice Ao64 t173.length co64)) (fun _ hk => hk.2) (.slice none 0 0)) (fun _ hk => hk.2) (.bool true)) (fun _ hk => ⟨hk.1.1, ⟨hk.1.2.1, hk.1.2.2⟩⟩)⟩
           have n1_ : Aside0 (Kd.N k49 49 (((w63.setCell ⟨gb177, 0, none⟩ (.slice Ao64 t173.length co64)).setCell ⟨gb177, 1, none⟩ (.slice none 0 0)).setCell ⟨gb177, 2, none⟩ (.bool true)) w.heap.size (fun k_ => (P0_ k_ ∨ w.heap.size ≤ k_) ∧ k_ ≠ gb177) u9 x9_1) := ⟨by (with_reducible repeat (first | apply Kd.N_alloc | apply Kd.N_drewN | apply Kd.N_drew)); exact Kd.N_mono (Kd.N_far (p := ⟨gb177, 2, none⟩) (Kd.N_far (p := ⟨gb177, 1, none⟩) (Kd.N_far (p := ⟨gb177, 0, none⟩) (Kd.N_mono HO_9.out (fun k_ hk => (⟨hk, hk.2⟩ : _ ∧ k_ ≠ gb177))) (fun _ hk => hk.2) (.slice Ao64 t173.length co64)) (fun _ hk => hk.2) (.slice none 0 0)) (fun _ hk => hk.2) (.bool true)) (fun _ hk => ⟨hk.1.1, hk.1.2⟩)⟩
           have n2_ : Aside0 (Kd.V (Kd.int .u8) 5 (((w63.setCell ⟨gb177, 0, none⟩ (.slice Ao64 t173.length co64)).setCell ⟨gb177, 1, none⟩ (.slice none 0 0)).setCell ⟨gb177, 2, none⟩ (.bool true)) w.heap.size (fun k_ => (P0_ k_ ∨ w.heap.size ≤ k_) ∧ some k_ ≠ (u9 : Value).ownBlock ∧ k_ ≠ gb177) (.slice A172_0 ((rd_T49 l0 x10_1).f0).length c172_0) ((rd_T49 l0 x10_1).f0)) := ⟨by (with_reducible repeat (first | apply Kd.V_alloc | apply Kd.V_drewN | apply Kd.V_drew)); exact Kd.V_mono (Kd.V_far (p := ⟨gb177, 2, none⟩) (Kd.V_far (p := ⟨gb177, 1, none⟩) (Kd.V_far (p := ⟨gb177, 0, none⟩) (Kd.V_mono HL172_0.out (fun k_ hk => (⟨hk, hk.2.2⟩ : _ ∧ k_ ≠ gb177))) (fun _ hk => hk.2) (.slice Ao64 t173.length co64)) (fun _ hk => hk.2) (.slice none 0 0)) (fun _ hk => hk.2) (.bool true)) (fun _ hk => ⟨hk.1.1, ⟨hk.1.2.1, hk.1.2.2⟩⟩)⟩
           have n3_ : Aside0 (Kd.V (Kd.int .u8) 5 (((w63.setCell ⟨gb177, 0, none⟩ (.slice Ao64 t173.length co64)).setCell ⟨gb177, 1, none⟩ (.slice none 0 0)).setCell ⟨gb177, 2, none⟩ (.bool true)) w.heap.size (fun k_ => (P0_ k_ ∨ w.heap.size ≤ k_) ∧ some k_ ≠ (u9 : Value).ownBlock ∧ k_ ≠ gb177) (.slice A172_1 ((rd_T49 l0 x10_1).f1).length c172_1) ((rd_T49 l0 x10_1).f1)) := ⟨by (with_reducible repeat (first | apply Kd.V_alloc | apply Kd.V_drewN | apply Kd.V_drew)); exact Kd.V_mono (Kd.V_far (p := ⟨gb177, 2, none⟩) (Kd.V_far (p := ⟨gb177, 1, none⟩) (Kd.V_far (p := ⟨gb177, 0, none⟩) (Kd.V_mono HL172_1.out (fun k_ hk => (⟨hk, hk.2.2⟩ : _ ∧ k_ ≠ gb177))) (fun _ hk => hk.2) (.slice Ao64 t173.length co64)) (fun _ hk => hk.2) (.slice none 0 0)) (fun _ hk => hk.2) (.bool true)) (fun _ hk => ⟨hk.1.1, ⟨hk.1.2.1, hk.1.2.2⟩⟩)⟩
           have n4_ : Aside0 (Kd.V (Kd.int .u8) 5 (((w63.setCell ⟨gb177, 0, none⟩ (.slice Ao64 t173.length co64)).setCell ⟨gb177, 1, none⟩ (.slice none 0 0)).setCell ⟨gb177, 2, none⟩ (.bool true)) w.heap.size (fun k_ => (P0_ k_ ∨ w.heap.size ≤ k_) ∧ some k_ ≠ (u9 : Value).ownBlock ∧ k_ ≠ gb177) (.slice A172_0 ((rd_T49 l0 x10_1).f0).length c172_0) ((rd_T49 l0 x10_1).f0)) := ⟨by (with_reducible repeat (first | apply Kd.V_alloc | apply Kd.V_drewN | apply Kd.V_drew)); exact Kd.V_mono (Kd.V_far (p := ⟨gb177, 2, none⟩) (Kd.V_far (p := ⟨gb177, 1, none⟩) (Kd.V_far (p := ⟨gb177, 0, none⟩) (Kd.V_mono HL176_0.out (fun k_ hk => (⟨hk, hk.2.2⟩ : _ ∧ k_ ≠ gb177))) (fun _ hk => hk.2) (.slice Ao64 t173.length co64)) (fun _ hk => hk.2) (.slice none 0 0)) (fun _ hk => hk.2) (.bool true)) (fun _ hk => ⟨hk.1.1, ⟨hk.1.2.1, hk.1.2.2⟩⟩)⟩
           have n5_ : Aside0 (Kd.V (Kd.int .u8) 5 (((w63.setCell ⟨gb177, 0, none⟩ (.slice Ao64 t173.length co64)).setCell ⟨gb177, 1, none⟩ (.slice none 0 0)).setCell ⟨gb177, 2, none⟩ (.bool true)) w.heap.size (fun k_ => (P0_ k_ ∨ w.heap.size ≤ k_) ∧ some k_ ≠ (u9 : Value).ownBlock ∧ k_ ≠ gb177) (.slice A172_1 ((rd_T49 l0 x10_1).f1).length c172_1) ((rd_T49 l0 x10_1).f1)) := ⟨by (with_reducible repeat (first | apply Kd.V_alloc | apply Kd.V_drewN | apply Kd.V_drew)); exact Kd.V_mono (Kd.V_far (p := ⟨gb177, 2, none⟩) (Kd.V_far (p := ⟨gb177, 1, none⟩) (Kd.V_far (p := ⟨gb177, 0, none⟩) (Kd.V_mono HL176_1.out (fun k_ hk => (⟨hk, hk.2.2⟩ : _ ∧ k_ ≠ gb177))) (fun _ hk => hk.2) (.slice Ao64 t173.length co64)) (fun _ hk => hk.2) (.slice none 0 0)) (fun _ hk => hk.2) (.bool true)) (fun _ hk => ⟨hk.1.1, ⟨hk.1.2.1, hk.1.2.2⟩⟩)⟩
           have n6_ : Aside0 (Kd.V (Kd.int .u8) 5 (((w63.setCell ⟨gb177, 0, none⟩ (.slice Ao64 t173.length co64)).setCell ⟨gb177, 1, none⟩ (.slice none 0 0)).setCell ⟨gb177, 2, none⟩ (.bool true)) w.heap.size (fun k_ => (P0_ k_ ∨ w.heap.size ≤ k_) ∧ some k_ ≠ (u9 : Value).ownBlock ∧ k_ ≠ gb177) (.slice Ao64 t173.length co64) t173) := ⟨by (with_reducible repeat (first | apply Kd.V_alloc | apply Kd.V_drewN | apply Kd.V_drew)); exact Kd.V_mono (Kd.V_far (p := ⟨gb177, 2, none⟩) (Kd.V_far (p := ⟨gb177, 1, none⟩) (Kd.V_far (p := ⟨gb177, 0, none⟩) (Kd.V_mono HO175.out (fun k_ hk => (⟨hk, hk.2.2⟩ : _ ∧ k_ ≠ gb177))) (fun _ hk => hk.2) (.slice Ao64 t173.length co64)) (fun _ hk => hk.2) (.slice none 0 0)) (fun _ hk => hk.2) (.bool true)) (fun _ hk => ⟨hk.1.1, ⟨hk.1.2.1, hk.1.2.2⟩⟩)⟩
           have n7_ : Aside0 ((((w63.setCell ⟨gb177, 0, none⟩ (.slice Ao64 t173.length co64)).setCell ⟨gb177, 1, none⟩ (.slice none 0 0)).setCell ⟨gb177, 2, none⟩ (.bool true)).heap[gb177]? = some (.cells #[.slice Ao64 t173.length co64, .slice none 0 0, .bool true] 49 (0, 0))) := ⟨by (with_reducible repeat (first | refine blk_drewN ?_ _ | refine blk_drew ?_ | refine blk_alloc ?_ _)); refine blk_put (cs := #[.slice Ao64 t173.length co64, .slice none 0 0, .bool false]) ?_ 2 _ rfl; (with_reducible repeat (first | refine blk_drewN ?_ _ | refine blk_drew ?_ | refine blk_alloc ?_ _)); refine blk_put (cs := #[.slice Ao64 t173.length co64, .slice none 0 0, .bool false]) ?_ 1 _ rfl; (with_reducible repeat (first | refine blk_drewN ?_ _ | refine blk_drew ?_ | refine blk_alloc ?_ _)); refine blk_put (cs := #[.slice none 0 0, .slice none 0 0, .bool false]) ?_ 0 _ rfl; (with_reducible repeat (first | refine blk_drewN ?_ _ | refine blk_drew ?_ | refine blk_alloc ?_ _)); exact BK177.out⟩
           have n8_ : Aside0 (Below w.heap.size w (((w63.setCell ⟨gb177, 0, none⟩ (.slice Ao64 t173.length co64)).setCell ⟨gb177, 1, none⟩ (.slice none 0 0)).setCell ⟨gb177, 2, none⟩ (.bool true))) := ⟨(belS HB.out)⟩
           (try clear HO_0)
           (try clear HO_9)
           (try clear HL172_0)
           (try clear HL172_1)
           (try clear HL176_0)
           (try clear HL176_1)
           (try clear HO175)
           (try clear BK177)
           (try clear HB)
           generalize (((w63.setCell ⟨gb177, 0, none⟩ (.slice Ao64 t173.length co64)).setCell ⟨gb177, 1, none⟩ (.slice none 0 0)).setCell ⟨gb177, 2, none⟩ (.bool true)) = w68 at n0_ n1_ n2_ n3_ n4_ n5_ n6_ n7_ n8_ ⊢
           have HO_0 := n0_
           have HO_9 := n1_
           have HL172_0 := n2_
           have HL172_1 := n3_
           have HL176_0 := n4_
           have HL176_1 := n5_
           have HO175 := n6_
           have BK177 := n7_
           have HB := n8_
           clear n0_ n1_ n2_ n3_ n4_ n5_ n6_ n7_ n8_
           have hcz69_0 : w68.cell? ⟨gb177, 0, none⟩ = some (.slice Ao64 t173.length co64) := (blk_cell BK177.out 0).trans rfl
           have hcz69_1 : w68.cell? ⟨gb177, 1, none⟩ = some (.slice none 0 0) := (blk_cell BK177.out 1).trans rfl
           have hcz69_2 : w68.cell? ⟨gb177, 2, none⟩ = some (.bool true) := (blk_cell BK177.out 2).trans rfl
           have hfz69_0 := blk_frozen BK177.out 0
           have hfz69_1 := blk_frozen BK177.out 1
           have hfz69_2 := blk_frozen BK177.out 2
           try go_wp2_with (first | ((with_reducible refine gate_builtin (b := .append) (xs := #[.tmp 53, .tmp 55]) rfl ?_); at_builtin; refine Kd.N_append k49 (w0 := w) w.heap.size rfl (.tmp 53) (.tmp 55) 37 49 (.agg #[(.slice none 0 0), (.slice none 0 0), (.bool false)]) 56 rfl Try.underlying37 info49 rfl (by decide) (by omega) u9 x9_1 (⟨t173, ([] : List Int), true⟩ : S49) [.slice Ao64 t173.length co64, .slice none 0 0, .bool true] (fun k_ => (P0_ k_ ∨ w.heap.size ≤ k_) ∧ k_ ≠ gb177) (fun k_ => ((fun k_ => (P0_ k_ ∨ w.heap.size ≤ k_) ∧ k_ ≠ gb177)) k_ ∧ some k_ ≠ (u9 : Value).ownBlock) rfl rfl ?aP (fun _ hk => hk) ?aF ?aO ?aB ?aS ?aL ?_; (case aP => exact (k49_mkF _ _ (⟨t173, ([] : List Int), true⟩ : S49) (Kd.V_reads' (Kd.V_mono (ok' := (fun k_ => ((fun k_ => (P0_ k_ ∨ w.heap.size ≤ k_) ∧ k_ ≠ gb177)) k_ ∧ some k_ ≠ (u9 : Value).ownBlock)) (HO175.out) (fun k_ hk => ⟨⟨hk.1, hk.2.2⟩, hk.2.1⟩))).2.1 (Kd.V_F (Kd.V_mono (ok' := (fun k_ => ((fun k_ => (P0_ k_ ∨ w.heap.size ≤ k_) ∧ k_ ≠ gb177)) k_ ∧ some k_ ≠ (u9 : Value).ownBlock)) (HO175.out) (fun k_ hk => ⟨⟨hk.1, hk.2.2⟩, hk.2.1⟩))) (Nat.le_refl _) (Kd.F_nil _ _ _))); (case aB => exact (belS HB.out)); (case aF => exact (fun k_ hk => ⟨(.inr (Nat.le_trans (below_size (belS HB.out)) hk)), Kd.freshB (g := gb177) (o := .cells #[.slice Ao64 t173.length co64, .slice none 0 0, .bool true] 49 (0, 0)) (blkN BK177.out) k_ hk⟩)); (case aO => exact (by (with_reducible repeat (first | apply Kd.N_alloc | apply Kd.N_drewN | apply Kd.N_drew)); exact HO_9.out)); (case aS => exact (below_size (belS HB.out))); (case aL => have := LMc58.out; omega); intro v192 w70 ho hb hg hat; rw [← Ny191.out] at ho; have n0_ := Aside0.mk (Kd.V_afterv (ok := (fun k_ => (P0_ k_ ∨ w.heap.size ≤ k_) ∧ k_ ≠ gb177)) (by (with_reducible repeat (first | apply Kd.V_alloc | apply Kd.V_drewN | apply Kd.V_drew)); exact Kd.V_mono HO_0.out (fun _ hk => ⟨⟨hk.1, hk.2.2⟩, hk.2.1⟩)) hg hat); have n1_ := Aside0.mk (Kd.V_afterv (ok := (fun k_ => (P0_ k_ ∨ w.heap.size ≤ k_) ∧ k_ ≠ gb177)) (by (with_reducible repeat (first | apply Kd.V_alloc | apply Kd.V_drewN | apply Kd.V_drew)); exact Kd.V_mono HL172_0.out (fun _ hk => ⟨⟨hk.1, hk.2.2⟩, hk.2.1⟩)) hg hat); have n2_ := Aside0.mk (Kd.V_afterv (ok := (fun k_ => (P0_ k_ ∨ w.heap.size ≤ k_) ∧ k_ ≠ gb177)) (by (with_reducible repeat (first | apply Kd.V_alloc | apply Kd.V_drewN | apply Kd.V_drew)); exact Kd.V_mono HL172_1.out (fun _ hk => ⟨⟨hk.1, hk.2.2⟩, hk.2.1⟩)) hg hat); have n3_ := Aside0.mk (Kd.V_afterv (ok := (fun k_ => (P0_ k_ ∨ w.heap.size ≤ k_) ∧ k_ ≠ gb177)) (by (with_reducible repeat (first | apply Kd.V_alloc | apply Kd.V_drewN | apply Kd.V_drew)); exact Kd.V_mono HL176_0.out (fun _ hk => ⟨⟨hk.1, hk.2.2⟩, hk.2.1⟩)) hg hat); have n4_ := Aside0.mk (Kd.V_afterv (ok := (fun k_ => (P0_ k_ ∨ w.heap.size ≤ k_) ∧ k_ ≠ gb177)) (by (with_reducible repeat (first | apply Kd.V_alloc | apply Kd.V_drewN | apply Kd.V_drew)); exact Kd.V_mono HL176_1.out (fun _ hk => ⟨⟨hk.1, hk.2.2⟩, hk.2.1⟩)) hg hat); have n5_ := Aside0.mk (Kd.V_afterv (ok := (fun k_ => (P0_ k_ ∨ w.heap.size ≤ k_) ∧ k_ ≠ gb177)) (by (with_reducible repeat (first | apply Kd.V_alloc | apply Kd.V_drewN | apply Kd.V_drew)); exact Kd.V_mono HO175.out (fun _ hk => ⟨⟨hk.1, hk.2.2⟩, hk.2.1⟩)) hg hat); have n6_ := Aside0.mk (blk_grown (g := gb177) (o := .cells #[.slice Ao64 t173.length co64, .slice none 0 0, .bool true] 49 (0, 0)) (blkN BK177.out) hg (Kd.N_away HO_9.out (fun _ hk => hk.2))); have n7_ := Aside0.mk (hb); have n8_ := Aside0.mk (ho); clear HO_0; clear HL172_0; clear HL172_1; clear HL176_0; clear HL176_1; clear HO175; clear BK177; clear HB; clear HO_9; have HO_0 := n0_; have HL172_0 := n1_; have HL172_1 := n2_; have HL176_0 := n3_; have HL176_1 := n4_; have HO175 := n5_; have BK177 := n6_; have HB := n7_; have HO193 := n8_; clear n0_ n1_ n2_ n3_ n4_ n5_ n6_ n7_ n8_; clear ho hb hg hat))
           go_roundg kj4
           case measure => have := HK1.out; have := HJ4.out; omega
           case rel => exact ⟨(y191), (wrap64 (x10_1 + 1)), (by first | rfl | (simp; done) | (simp [*]; done)), H', ⟨by have := HK1.out; have := HJ4.out; omega⟩, ⟨by (with_reducible repeat (first | apply Kd.V_alloc | apply Kd.V_drewN | apply Kd.V_drew)); exact Kd.V_mono HO_0.out (fun _ hk => ⟨hk.1.1, hk.2⟩)⟩, ⟨by (with_reducible repeat (first | apply Kd.N_alloc | apply Kd.N_drewN | apply Kd.N_drew)); exact Kd.N_mono HO193.out (fun _ hk => hk.1)⟩, ⟨(belS HB.out)⟩⟩
          ·rw [if_neg c58] at H
           exact absurd H (by simp)
         ·replace c57 := Bool.eq_false_iff.mpr c57
          subst c57
          have H1 : ((marigraphkeep_Cut.f ((rd_T49 l0 x10_1).f1) a3).bind fun t195 => (if x9_1.length < 2513169434916 then (marigraphkeep_Entries.l0 kj4 l0 a1 a2 a3 (x9_1 ++ [(⟨t173, t195, false⟩ : S49)]) (wrap64 (x10_1 + 1))) else (none))) = some r := by rw [if_neg (show ¬ (false = true) by decide)] at H; exact H
          clear H
          have H := H1
          clear H1
          replace H := Option.bind_eq_some_iff.mp H
          obtain ⟨t195, A710, H⟩ := H
          replace H : (if x9_1.length < 2513169434916 then (marigraphkeep_Entries.l0 kj4 l0 a1 a2 a3 (x9_1 ++ [(⟨t173, t195, false⟩ : S49)]) (wrap64 (x10_1 + 1))) else (none)) = some r := H
          have A71 := Aside0.mk A710
          clear A710
          by_cases c72 : x9_1.length < 2513169434916
          ·rw [if_pos c72] at H
           have LMc72 := Aside0.mk c72
           clear c72
           obtain ⟨y198, hy198⟩ : ∃ y_ : List (S49), y_ = (x9_1 ++ [(⟨t173, t195, false⟩ : S49)]) := ⟨_, rfl⟩
           replace H : (marigraphkeep_Entries.l0 kj4 l0 a1 a2 a3 y198 (wrap64 (x10_1 + 1))) = some r := by first | (rw [hy198]; with_reducible exact H) | (have H2_ := (Option.bind_some _ _).symm.trans H; rw [hy198]; with_reducible exact H2_) | (have H2_ := (Option.bind_some _ _).symm.trans H; with_reducible exact H2_) | with_reducible exact H | (rw [hy198]; exact H) | exact H
           have Ny198 := Aside0.mk hy198
           clear hy198
           have H' := Aside0.mk H
           clear H
           try go_wp2
           have n0_ := Aside0.mk (Kd.V_drew HO_0.out)
           have n1_ := Aside0.mk (Kd.N_drew HO_9.out)
           have n2_ := Aside0.mk (below_drew1 HB.out)
           clear HO_0
           clear HO_9
           clear HB
           have HO_0 := n0_
           have HO_9 := n1_
           have HB := n2_
           clear n0_ n1_ n2_
           have p172 : 0 ≤ (x10_1 : Int) := of_decide_eq_true (by first | (with_reducible assumption) | assumption)
           have q172 : x10_1 < (l0.length : Int) := of_decide_eq_true (by first | (with_reducible assumption) | assumption)
           obtain ⟨ad172, A172_0, c172_0, A172_1, c172_1, e172, hx172_0, hx172_1, hx172_2, hl172_0, hi172_0, hl172_1, hi172_1⟩ := at_T49 (Kd.V_reads' HO_0.out).2.2 x10_1 p172 q172
           (try rw [← Nbq56.out] at hx172_2)
           cases e172
           obtain ⟨ce172, hce172, hMe172, hcc172⟩ := Kd.V_get HO_0.out z49 x10_1 p172 (by first | exact q172 | exact of_decide_eq_true (by first | (with_reducible assumption) | assumption) | (have e_ := (Kd.V_reads' HO_0.out).1; omega))
           obtain ⟨ua172_0, uc172_0, ua172_1, uc172_1, rfl, ul172_0, ge172_0, ul172_1, ge172_1⟩ := k49_openF hMe172
           have hv172_0 := hcc172 0 _ rfl
           rw [Nat.add_zero] at hv172_0
           replace hv172_0 := Option.some.inj (hv172_0.symm.trans hx172_0)
           injection hv172_0 with hva_ hvn_ hvc_
           rw [hva_] at ge172_0
           rw [hvc_] at ul172_0
           have HL172_0 := Aside0.mk (show Kd.V (Kd.int .u8) 5 _ w.heap.size _ _ ((rd_T49 l0 x10_1).f0) from Kd.V_mk ul172_0 ge172_0)
           clear hva_ hvn_ hvc_ ge172_0 ul172_0
           have hv172_1 := hcc172 1 _ rfl
           rw [add_field _ _ 1 (by omega)] at hv172_1
           replace hv172_1 := Option.some.inj (hv172_1.symm.trans hx172_1)
           injection hv172_1 with hva_ hvn_ hvc_
           rw [hva_] at ge172_1
           rw [hvc_] at ul172_1
           have HL172_1 := Aside0.mk (show Kd.V (Kd.int .u8) 5 _ w.heap.size _ _ ((rd_T49 l0 x10_1).f1) from Kd.V_mk ul172_1 ge172_1)
           clear hva_ hvn_ hvc_ ge172_1 ul172_1
           clear hcc172 hce172
           have HR172_0 := Aside0.mk hi172_0
           have HC172_0 := Aside0.mk hl172_0
           clear hi172_0 hl172_0
           have HR172_1 := Aside0.mk hi172_1
           have HC172_1 := Aside0.mk hl172_1
           clear hi172_1 hl172_1
           replace p172 := eq_true p172
           replace q172 := eq_true q172
           have p176 : 0 ≤ (x10_1 : Int) := of_decide_eq_true (by first | (with_reducible assumption) | assumption)
           have q176 : x10_1 < (l0.length : Int) := of_decide_eq_true (by first | (with_reducible assumption) | assumption)
           obtain ⟨ad176, A176_0, c176_0, A176_1, c176_1, e176, hx176_0, hx176_1, hx176_2, hl176_0, hi176_0, hl176_1, hi176_1⟩ := at_T49 (Kd.V_reads' HO_0.out).2.2 x10_1 p176 q176
           (try rw [← Nbq56.out] at hx176_2)
           obtain rfl : ad172 = ad176 := (by injection e176)
           obtain ⟨ce176, hce176, hMe176, hcc176⟩ := Kd.V_get HO_0.out z49 x10_1 p176 (by first | exact q176 | exact of_decide_eq_true (by first | (with_reducible assumption) | assumption) | (have e_ := (Kd.V_reads' HO_0.out).1; omega))
           obtain ⟨ua176_0, uc176_0, ua176_1, uc176_1, rfl, ul176_0, ge176_0, ul176_1, ge176_1⟩ := k49_openF hMe176
           have hv176_0 := hcc176 0 _ rfl
           rw [Nat.add_zero] at hv176_0
           replace hv176_0 := Option.some.inj (hv176_0.symm.trans hx176_0)
           injection hv176_0 with hva_ hvn_ hvc_
           rw [hva_] at ge176_0
           rw [hvc_] at ul176_0
           have HL176_0 := Aside0.mk (show Kd.V (Kd.int .u8) 5 _ w.heap.size _ _ ((rd_T49 l0 x10_1).f0) from Kd.V_mk ul176_0 ge176_0)
           clear hva_ hvn_ hvc_ ge176_0 ul176_0
           have hv176_1 := hcc176 1 _ rfl
           rw [add_field _ _ 1 (by omega)] at hv176_1
           replace hv176_1 := Option.some.inj (hv176_1.symm.trans hx176_1)
           injection hv176_1 with hva_ hvn_ hvc_
           rw [hva_] at ge176_1
           rw [hvc_] at ul176_1
           have HL176_1 := Aside0.mk (show Kd.V (Kd.int .u8) 5 _ w.heap.size _ _ ((rd_T49 l0 x10_1).f1) from Kd.V_mk ul176_1 ge176_1)
           clear hva_ hvn_ hvc_ ge176_1 ul176_1
           clear hcc176 hce176
           have HR176_0 := Aside0.mk hi176_0
           have HC176_0 := Aside0.mk hl176_0
           clear hi176_0 hl176_0
           have HR176_1 := Aside0.mk hi176_1
           have HC176_1 := Aside0.mk hl176_1
           clear hi176_1 hl176_1
           replace p176 := eq_true p176
           replace q176 := eq_true q176
           have ea_ := Option.some.inj (hx172_0.symm.trans hx176_0)
           injection ea_ with ea_ en_ ec_
           subst ea_
           subst ec_
           clear en_
           have ea_ := Option.some.inj (hx172_1.symm.trans hx176_1)
           injection ea_ with ea_ en_ ec_
           subst ea_
           subst ec_
           clear en_
           refine start_ (n := 15) (S := fun w' => w'.cell? (ad172.add ((x10_1).toNat * 3)) = some (.slice A172_0 ((rd_T49 l0 x10_1).f0).length c172_0) ∧ w'.cell? ⟨(ad172.add ((x10_1).toNat * 3)).block, (ad172.add ((x10_1).toNat * 3)).off + 1, none⟩ = some (.slice A172_1 ((rd_T49 l0 x10_1).f1).length c172_1) ∧ w'.cell? ⟨(ad172.add ((x10_1).toNat * 3)).block, (ad172.add ((x10_1).toNat * 3)).off + 2, none⟩ = some (.bool false) ∧ w'.cell? (ad172.add ((x10_1).toNat * 3)) = some (.slice A172_0 ((rd_T49 l0 x10_1).f0).length c172_0) ∧ w'.cell? ⟨(ad172.add ((x10_1).toNat * 3)).block, (ad172.add ((x10_1).toNat * 3)).off + 1, none⟩ = some (.slice A172_1 ((rd_T49 l0 x10_1).f1).length c172_1) ∧ w'.cell? ⟨(ad172.add ((x10_1).toNat * 3)).block, (ad172.add ((x10_1).toNat * 3)).off + 2, none⟩ = some (.bool false)) (ds := []) #[false, false, false, false, false, false, false, false, false, false, false, false, false, false, false] (by kernel_rfl) rfl rfl ⟨hx172_0, hx172_1, hx172_2, hx176_0, hx176_1, hx176_2⟩ (fun hHeld => ?_); refine with_tabW marigraphkeep_Entries.tab5 marigraphkeep_Entries.bits5 (fun HT_ HW_ => ?_)
           generalize wc.drew = w73 at HO_0 HO_9 HB HL172_0 HL172_1 HL176_0 HL176_1 HR172_0 HR172_1 HR176_0 HR176_1 hx172_0 hx172_1 hx172_2 hx176_0 hx176_1 hx176_2 hHeld ⊢
           refine pA 0 (some 23) (bA 15 1) HT_.out ?_
           refine pA 1 (some 24) (bA 15 3) HT_.out ?_
           refine pA 2 (some 25) (bA 15 7) HT_.out ?_
           refine pA 3 (some 26) (bA 15 15) HT_.out ?_
           refine pA 5 (some 28) (bA 15 47) HT_.out ?_
           refine pA 7 (some 30) (bA 15 175) HT_.out ?_
           refine pA 8 (some 31) (bA 15 431) HT_.out ?_
           refine pA 9 (some 32) (bA 15 943) HT_.out ?_
           refine pA 10 (some 33) (bA 15 1967) HT_.out ?_
           refine take_ (i := 4) (N := some 27) (v := ?_) (a' := ?_) (bA 15 1983) rfl rfl (take_ofW HT_.out HW_.out (by kernel_rfl)) (fun _ _ _ h => h) (Or.inl ⟨by rfl, ?_⟩) hHeld ?_ ?_
           rotate_left
           ·rintro w' ⟨s0, s1, s2, s3, s4, s5⟩
            go_simp
            with_reducible rfl
           rotate_left
           ·simp only [Act.put, List.setIfInBounds_toArray, List.set_cons_zero, List.set_cons_succ, i64_w, i32_w]
            rfl
           refine take_ (i := 11) (N := some 34) (v := ?_) (a' := ?_) (bA 15 4031) rfl rfl (take_ofW HT_.out HW_.out (by kernel_rfl)) (fun _ _ _ h => h) (Or.inl ⟨by rfl, ?_⟩) hHeld ?_ ?_
           rotate_left
           ·rintro w' ⟨s0, s1, s2, s3, s4, s5⟩
            go_simp
            with_reducible rfl
           rotate_left
           ·simp only [Act.put, List.setIfInBounds_toArray, List.set_cons_zero, List.set_cons_succ, i64_w, i32_w]
            rfl
           refine join_ (σ := Value × Nat) 1 (bA 15 16383) (fun s_ => [(29, s_.1), (11, .pointer (some ⟨s_.2, 0, none⟩)), (35, .agg #[s_.1, .slice none 0 0, .bool false])]) (fun s_ w' => (w'.cell? (ad172.add ((x10_1).toNat * 3)) = some (.slice A172_0 ((rd_T49 l0 x10_1).f0).length c172_0) ∧ w'.cell? ⟨(ad172.add ((x10_1).toNat * 3)).block, (ad172.add ((x10_1).toNat * 3)).off + 1, none⟩ = some (.slice A172_1 ((rd_T49 l0 x10_1).f1).length c172_1) ∧ w'.cell? ⟨(ad172.add ((x10_1).toNat * 3)).block, (ad172.add ((x10_1).toNat * 3)).off + 2, none⟩ = some (.bool false) ∧ w'.cell? (ad172.add ((x10_1).toNat * 3)) = some (.slice A172_0 ((rd_T49 l0 x10_1).f0).length c172_0) ∧ w'.cell? ⟨(ad172.add ((x10_1).toNat * 3)).block, (ad172.add ((x10_1).toNat * 3)).off + 1, none⟩ = some (.slice A172_1 ((rd_T49 l0 x10_1).f1).length c172_1) ∧ w'.cell? ⟨(ad172.add ((x10_1).toNat * 3)).block, (ad172.add ((x10_1).toNat * 3)).off + 2, none⟩ = some (.bool false)) ∧ (Kd.V (Kd.int .u8) 5 w' w.heap.size (fun k_ => (P0_ k_ ∨ w.heap.size ≤ k_) ∧ some k_ ≠ (u9 : Value).ownBlock ∧ k_ ≠ s_.2) (.slice A172_0 ((rd_T49 l0 x10_1).f0).length c172_0) ((rd_T49 l0 x10_1).f0)) ∧ (Kd.V (Kd.int .u8) 5 w' w.heap.size (fun k_ => (P0_ k_ ∨ w.heap.size ≤ k_) ∧ some k_ ≠ (u9 : Value).ownBlock ∧ k_ ≠ s_.2) (.slice A172_1 ((rd_T49 l0 x10_1).f1).length c172_1) ((rd_T49 l0 x10_1).f1)) ∧ (Kd.V (Kd.int .u8) 5 w' w.heap.size (fun k_ => (P0_ k_ ∨ w.heap.size ≤ k_) ∧ some k_ ≠ (u9 : Value).ownBlock ∧ k_ ≠ s_.2) (.slice A172_0 ((rd_T49 l0 x10_1).f0).length c172_0) ((rd_T49 l0 x10_1).f0)) ∧ (Kd.V (Kd.int .u8) 5 w' w.heap.size (fun k_ => (P0_ k_ ∨ w.heap.size ≤ k_) ∧ some k_ ≠ (u9 : Value).ownBlock ∧ k_ ≠ s_.2) (.slice A172_1 ((rd_T49 l0 x10_1).f1).length c172_1) ((rd_T49 l0 x10_1).f1)) ∧ (Kd.V (Kd.int .u8) 5 w' w.heap.size (fun k_ => (P0_ k_ ∨ w.heap.size ≤ k_) ∧ some k_ ≠ (u9 : Value).ownBlock ∧ k_ ≠ s_.2) s_.1 t173) ∧ (Kd.V k49 49 w' w.heap.size (fun k_ => (P0_ k_ ∨ w.heap.size ≤ k_) ∧ some k_ ≠ (u9 : Value).ownBlock ∧ k_ ≠ s_.2) (.slice (some ad172) l0.length c0) l0) ∧ (Kd.N k49 49 w' w.heap.size (fun k_ => (P0_ k_ ∨ w.heap.size ≤ k_) ∧ k_ ≠ s_.2) u9 x9_1) ∧ (w'.heap[s_.2]? = some (.cells #[.slice none 0 0, .slice none 0 0, .bool false] 49 (0, 0))) ∧ (w.heap.size ≤ s_.2) ∧ (w.heap.size ≤ s_.2) ∧ (Below w.heap.size w w')) ?_ ?_
           rotate_left
           ·intro hCont
            refine two_ (i := 6) (j := 13) (Ni := some 29) (Nj := some 11) (bA 15 4095) (bA 15 12223) rfl rfl rfl rfl (two_of HT_.out (by kernel_rfl)) (by decide) (by decide) (fun K hK => ?_) (fun K hK => ?_)
            ·skip
             refine goes_ Try.func14 (by kernel_rfl) rfl #[.slice A172_0 ((rd_T49 l0 x10_1).f0).length c172_0, .int .i64 a2] (by rfl) rfl rfl argN ?_
             with_reducible refine (marigraphkeep_Cut.calls (fun k_ => ((P0_ k_ ∨ w.heap.size ≤ k_) ∧ some k_ ≠ (u9 : Value).ownBlock)) _ _ ((rd_T49 l0 x10_1).f0) a2 t173 _ ?side1 A10.out).mono ?_
             (case side1 => exact HL172_0.out)
             rintro e w74 ⟨v174, rfl, ho0, hb⟩
             have HS0_ := (hb.cell (World.block_lt_of_cell? _ _ (hHeld.1))).trans (hHeld.1)
             have HS1_ := (hb.cell (World.block_lt_of_cell? _ _ (hHeld.2.1))).trans (hHeld.2.1)
             have HS2_ := (hb.cell (World.block_lt_of_cell? _ _ (hHeld.2.2.1))).trans (hHeld.2.2.1)
             have HS3_ := (hb.cell (World.block_lt_of_cell? _ _ (hHeld.2.2.2.1))).trans (hHeld.2.2.2.1)
             have HS4_ := (hb.cell (World.block_lt_of_cell? _ _ (hHeld.2.2.2.2.1))).trans (hHeld.2.2.2.2.1)
             have HS5_ := (hb.cell (World.block_lt_of_cell? _ _ (hHeld.2.2.2.2.2))).trans (hHeld.2.2.2.2.2)
             refine ⟨_, rfl, ?_⟩
             have n0_ := Aside0.mk (Kd.V_below (by (with_reducible repeat (first | apply Kd.V_alloc | apply Kd.V_drewN | apply Kd.V_drew)); exact HO_0.out) hb)
             have n1_ := Aside0.mk (Kd.N_below (by (with_reducible repeat (first | apply Kd.N_alloc | apply Kd.N_drewN | apply Kd.N_drew)); exact HO_9.out) hb)
             have n2_ := Aside0.mk (Kd.V_below (by (with_reducible repeat (first | apply Kd.V_alloc | apply Kd.V_drewN | apply Kd.V_drew)); exact HL172_0.out) hb)
             have n3_ := Aside0.mk (Kd.V_below (by (with_reducible repeat (first | apply Kd.V_alloc | apply Kd.V_drewN | apply Kd.V_drew)); exact HL172_1.out) hb)
             have n4_ := Aside0.mk (Kd.V_below (by (with_reducible repeat (first | apply Kd.V_alloc | apply Kd.V_drewN | apply Kd.V_drew)); exact HL176_0.out) hb)
             have n5_ := Aside0.mk (Kd.V_below (by (with_reducible repeat (first | apply Kd.V_alloc | apply Kd.V_drewN | apply Kd.V_drew)); exact HL176_1.out) hb)
             have n6_ := Aside0.mk (Kd.V_lower (Kd.V_mono (ok' := fun k_ => (P0_ k_ ∨ w.heap.size ≤ k_) ∧ some k_ ≠ (u9 : Value).ownBlock) ho0 (fun k_ hk_ => ⟨Or.elim hk_ (fun hs_ => hs_.1) (fun hn_ => (.inr (Nat.le_trans (below_size (belN HB.out)) hn_))), Or.elim hk_ (fun hs_ => hs_.2) (fun hn_ => (Kd.fresh' (Kd.N_lt (by (with_reducible repeat (first | apply Kd.N_alloc | apply Kd.N_drewN | apply Kd.N_drew)); exact HO_9.out)) k_ hn_))⟩)) (below_size (belN HB.out)))
             have n7_ := Aside0.mk (cbN HR172_0.out hb)
             have n8_ := Aside0.mk (cbN HR172_1.out hb)
             have n9_ := Aside0.mk (cbN HR176_0.out hb)
             have n10_ := Aside0.mk (cbN HR176_1.out hb)
             have n11_ := Aside0.mk (below_step (belN HB.out) hb)
             clear HO_0
             clear HO_9
             clear HL172_0
             clear HL172_1
             clear HL176_0
             clear HL176_1
             clear HR172_0
             clear HR172_1
             clear HR176_0
             clear HR176_1
             clear HB
             have HO_0 := n0_
             have HO_9 := n1_
             have HL172_0 := n2_
             have HL172_1 := n3_
             have HL176_0 := n4_
             have HL176_1 := n5_
             have HO175 := n6_
             have HR172_0 := n7_
             have HR172_1 := n8_
             have HR176_0 := n9_
             have HR176_1 := n10_
             have HB := n11_
             clear n0_ n1_ n2_ n3_ n4_ n5_ n6_ n7_ n8_ n9_ n10_ n11_
             (try clear hb)
             (try clear hk)
             (try clear ho0)
             obtain ⟨Ao75, co75, eo75⟩ := Kd.V_slice HO175.out
             (first | subst eo75 | (injection eo75 with f1_ f2_ f3_; have f4_ := f1_.symm; have f5_ := f3_.symm; clear f1_ f2_ f3_; subst f4_; subst f5_))
             refine hK.out _ _ ⟨HS0_, HS1_, HS2_, HS3_, HS4_, HS5_⟩ (fun hHeld => ?_)
             clear hK K
             refine norm_ (a' := ?_) ?_ ?_
             rotate_left
             ·show Act.put _ (some 29) _ = _
              simp only [Act.put, List.setIfInBounds_toArray, List.set_cons_zero, List.set_cons_succ, i64_w, i32_w]
              rfl
             refine pA 12 (some 35) (bA 15 8191) HT_.out ?_
             refine one_ (i := 13) (N := some 11) (bA 15 16383) rfl rfl (one_of HT_.out (by kernel_rfl)) (by decide) (fun K hK => ?_)
             refine box_step ?hg (N := 11) ?hd (cs := #[.slice none 0 0, .slice none 0 0, .bool false]) (t := 49) ?hr ?_; (case hd => rfl); (case hg => rfl); (case hr => first | (go_simp; done) | (go_simp; rfl))
             intro gb177 hg w76 hbox hb
             have HS0_ := (hb.cell (World.block_lt_of_cell? _ _ (hHeld.1))).trans (hHeld.1)
             have HS1_ := (hb.cell (World.block_lt_of_cell? _ _ (hHeld.2.1))).trans (hHeld.2.1)
             have HS2_ := (hb.cell (World.block_lt_of_cell? _ _ (hHeld.2.2.1))).trans (hHeld.2.2.1)
             have HS3_ := (hb.cell (World.block_lt_of_cell? _ _ (hHeld.2.2.2.1))).trans (hHeld.2.2.2.1)
             have HS4_ := (hb.cell (World.block_lt_of_cell? _ _ (hHeld.2.2.2.2.1))).trans (hHeld.2.2.2.2.1)
             have HS5_ := (hb.cell (World.block_lt_of_cell? _ _ (hHeld.2.2.2.2.2))).trans (hHeld.2.2.2.2.2)
             have n0_ := Aside0.mk (Kd.V_below (Kd.V_elderB (by (with_reducible repeat (first | apply Kd.V_alloc | apply Kd.V_drewN | apply Kd.V_drew)); exact HO_0.out) gb177 (Nat.le_of_eq hg.symm)) hb)
             have n1_ := Aside0.mk (Kd.N_below (Kd.N_elderB (by (with_reducible repeat (first | apply Kd.N_alloc | apply Kd.N_drewN | apply Kd.N_drew)); exact HO_9.out) gb177 (Nat.le_of_eq hg.symm)) hb)
             have n2_ := Aside0.mk (Kd.V_below (Kd.V_elderB (by (with_reducible repeat (first | apply Kd.V_alloc | apply Kd.V_drewN | apply Kd.V_drew)); exact HL172_0.out) gb177 (Nat.le_of_eq hg.symm)) hb)
             have n3_ := Aside0.mk (Kd.V_below (Kd.V_elderB (by (with_reducible repeat (first | apply Kd.V_alloc | apply Kd.V_drewN | apply Kd.V_drew)); exact HL172_1.out) gb177 (Nat.le_of_eq hg.symm)) hb)
             have n4_ := Aside0.mk (Kd.V_below (Kd.V_elderB (by (with_reducible repeat (first | apply Kd.V_alloc | apply Kd.V_drewN | apply Kd.V_drew)); exact HL176_0.out) gb177 (Nat.le_of_eq hg.symm)) hb)
             have n5_ := Aside0.mk (Kd.V_below (Kd.V_elderB (by (with_reducible repeat (first | apply Kd.V_alloc | apply Kd.V_drewN | apply Kd.V_drew)); exact HL176_1.out) gb177 (Nat.le_of_eq hg.symm)) hb)
             have n6_ := Aside0.mk (Kd.V_below (Kd.V_elderB (by (with_reducible repeat (first | apply Kd.V_alloc | apply Kd.V_drewN | apply Kd.V_drew)); exact HO175.out) gb177 (Nat.le_of_eq hg.symm)) hb)
             have n7_ := Aside0.mk (cbN HR172_0.out hb)
             have n8_ := Aside0.mk (cbN HR172_1.out hb)
             have n9_ := Aside0.mk (cbN HR176_0.out hb)
             have n10_ := Aside0.mk (cbN HR176_1.out hb)
             have n11_ := Aside0.mk (below_step (belN HB.out) hb)
             have n12_ := Aside0.mk (hbox)
             have n13_ := Aside0.mk (szB hg HB.out)
             have n14_ := Aside0.mk (szB hg HB.out)
             clear HO_0
             clear HO_9
             clear HL172_0
             clear HL172_1
             clear HL176_0
             clear HL176_1
             clear HO175
             clear HR172_0
             clear HR172_1
             clear HR176_0
             clear HR176_1
             clear HB
             have HO_0 := n0_
             have HO_9 := n1_
             have HL172_0 := n2_
             have HL172_1 := n3_
             have HL176_0 := n4_
             have HL176_1 := n5_
             have HO175 := n6_
             have HR172_0 := n7_
             have HR172_1 := n8_
             have HR176_0 := n9_
             have HR176_1 := n10_
             have HB := n11_
             have BK177 := n12_
             have GW177 := n13_
             have GE177 := n14_
             clear n0_ n1_ n2_ n3_ n4_ n5_ n6_ n7_ n8_ n9_ n10_ n11_ n12_ n13_ n14_
             clear hb hbox hg
             refine hK.out _ _ ⟨HS0_, HS1_, HS2_, HS3_, HS4_, HS5_⟩ (fun hHeld => ?_)
             clear hK K
             refine norm_ (a' := ?_) ?_ ?_
             rotate_left
             ·show Act.put _ (some 11) _ = _
              simp only [Act.put, List.setIfInBounds_toArray, List.set_cons_zero, List.set_cons_succ, i64_w, i32_w]
              rfl
             exact norm_ (by simp only [putAll, Act.put, List.setIfInBounds_toArray, List.set_cons_zero, List.set_cons_succ]) (hCont (.slice Ao75 t173.length co75, gb177) _ ⟨hHeld, (by (with_reducible repeat (first | apply Kd.V_alloc | apply Kd.V_drewN | apply Kd.V_drew)); exact Kd.V_mono HL172_0.out (fun _ hk => ⟨hk.1.1, ⟨hk.1.2, hk.2⟩⟩)), (by (with_reducible repeat (first | apply Kd.V_alloc | apply Kd.V_drewN | apply Kd.V_drew)); exact Kd.V_mono HL172_1.out (fun _ hk => ⟨hk.1.1, ⟨hk.1.2, hk.2⟩⟩)), (by (with_reducible repeat (first | apply Kd.V_alloc | apply Kd.V_drewN | apply Kd.V_drew)); exact Kd.V_mono HL176_0.out (fun _ hk => ⟨hk.1.1, ⟨hk.1.2, hk.2⟩⟩)), (by (with_reducible repeat (first | apply Kd.V_alloc | apply Kd.V_drewN | apply Kd.V_drew)); exact Kd.V_mono HL176_1.out (fun _ hk => ⟨hk.1.1, ⟨hk.1.2, hk.2⟩⟩)), (by (with_reducible repeat (first | apply Kd.V_alloc | apply Kd.V_drewN | apply Kd.V_drew)); exact Kd.V_mono HO175.out (fun _ hk => ⟨hk.1.1, ⟨hk.1.2, hk.2⟩⟩)), (by (with_reducible repeat (first | apply Kd.V_alloc | apply Kd.V_drewN | apply Kd.V_drew)); exact Kd.V_mono HO_0.out (fun _ hk => ⟨hk.1.1, ⟨hk.1.2, hk.2⟩⟩)), (by (with_reducible repeat (first | apply Kd.N_alloc | apply Kd.N_drewN | apply Kd.N_drew)); exact HO_9.out), (blkN BK177.out), GW177.out, GE177.out, (belS HB.out)⟩)
            ·skip
             refine box_step ?hg (N := 11) ?hd (cs := #[.slice none 0 0, .slice none 0 0, .bool false]) (t := 49) ?hr ?_; (case hd => rfl); (case hg => rfl); (case hr => first | (go_simp; done) | (go_simp; rfl))
             intro gb177 hg w74 hbox hb
             have HS0_ := (hb.cell (World.block_lt_of_cell? _ _ (hHeld.1))).trans (hHeld.1)
             have HS1_ := (hb.cell (World.block_lt_of_cell? _ _ (hHeld.2.1))).trans (hHeld.2.1)
             have HS2_ := (hb.cell (World.block_lt_of_cell? _ _ (hHeld.2.2.1))).trans (hHeld.2.2.1)
             have HS3_ := (hb.cell (World.block_lt_of_cell? _ _ (hHeld.2.2.2.1))).trans (hHeld.2.2.2.1)
             have HS4_ := (hb.cell (World.block_lt_of_cell? _ _ (hHeld.2.2.2.2.1))).trans (hHeld.2.2.2.2.1)
             have HS5_ := (hb.cell (World.block_lt_of_cell? _ _ (hHeld.2.2.2.2.2))).trans (hHeld.2.2.2.2.2)
             have n0_ := Aside0.mk (Kd.V_below (Kd.V_elderB (by (with_reducible repeat (first | apply Kd.V_alloc | apply Kd.V_drewN | apply Kd.V_drew)); exact HO_0.out) gb177 (Nat.le_of_eq hg.symm)) hb)
             have n1_ := Aside0.mk (Kd.N_below (Kd.N_elderB (by (with_reducible repeat (first | apply Kd.N_alloc | apply Kd.N_drewN | apply Kd.N_drew)); exact HO_9.out) gb177 (Nat.le_of_eq hg.symm)) hb)
             have n2_ := Aside0.mk (Kd.V_below (Kd.V_elderB (by (with_reducible repeat (first | apply Kd.V_alloc | apply Kd.V_drewN | apply Kd.V_drew)); exact HL172_0.out) gb177 (Nat.le_of_eq hg.symm)) hb)
             have n3_ := Aside0.mk (Kd.V_below (Kd.V_elderB (by (with_reducible repeat (first | apply Kd.V_alloc | apply Kd.V_drewN | apply Kd.V_drew)); exact HL172_1.out) gb177 (Nat.le_of_eq hg.symm)) hb)
             have n4_ := Aside0.mk (Kd.V_below (Kd.V_elderB (by (with_reducible repeat (first | apply Kd.V_alloc | apply Kd.V_drewN | apply Kd.V_drew)); exact HL176_0.out) gb177 (Nat.le_of_eq hg.symm)) hb)
             have n5_ := Aside0.mk (Kd.V_below (Kd.V_elderB (by (with_reducible repeat (first | apply Kd.V_alloc | apply Kd.V_drewN | apply Kd.V_drew)); exact HL176_1.out) gb177 (Nat.le_of_eq hg.symm)) hb)
             have n6_ := Aside0.mk (cbN HR172_0.out hb)
             have n7_ := Aside0.mk (cbN HR172_1.out hb)
             have n8_ := Aside0.mk (cbN HR176_0.out hb)
             have n9_ := Aside0.mk (cbN HR176_1.out hb)
             have n10_ := Aside0.mk (below_step (belN HB.out) hb)
             have n11_ := Aside0.mk (hbox)
             have n12_ := Aside0.mk (szB hg HB.out)
             have n13_ := Aside0.mk (szB hg HB.out)
             clear HO_0
             clear HO_9
             clear HL172_0
             clear HL172_1
             clear HL176_0
             clear HL176_1
             clear HR172_0
             clear HR172_1
             clear HR176_0
             clear HR176_1
             clear HB
             have HO_0 := n0_
             have HO_9 := n1_
             have HL172_0 := n2_
             have HL172_1 := n3_
             have HL176_0 := n4_
             have HL176_1 := n5_
             have HR172_0 := n6_
             have HR172_1 := n7_
             have HR176_0 := n8_
             have HR176_1 := n9_
             have HB := n10_
             have BK177 := n11_
             have GW177 := n12_
             have GE177 := n13_
             clear n0_ n1_ n2_ n3_ n4_ n5_ n6_ n7_ n8_ n9_ n10_ n11_ n12_ n13_
             clear hb hbox hg
             refine hK.out _ _ ⟨HS0_, HS1_, HS2_, HS3_, HS4_, HS5_⟩ (fun hHeld => ?_)
             clear hK K
             refine norm_ (a' := ?_) ?_ ?_
             rotate_left
             ·show Act.put _ (some 11) _ = _
              simp only [Act.put, List.setIfInBounds_toArray, List.set_cons_zero, List.set_cons_succ, i64_w, i32_w]
              rfl
             refine one_ (i := 6) (N := some 29) (bA 15 12287) rfl rfl (one_of HT_.out (by kernel_rfl)) (by decide) (fun K hK => ?_)
             refine goes_ Try.func14 (by kernel_rfl) rfl #[.slice A172_0 ((rd_T49 l0 x10_1).f0).length c172_0, .int .i64 a2] (by rfl) rfl rfl argN ?_
             with_reducible refine (marigraphkeep_Cut.calls (fun k_ => (((P0_ k_ ∨ w.heap.size ≤ k_) ∧ some k_ ≠ (u9 : Value).ownBlock) ∧ k_ ≠ gb177)) _ _ ((rd_T49 l0 x10_1).f0) a2 t173 _ ?side1 A10.out).mono ?_
             (case side1 => exact HL172_0.out)
             rintro e w75 ⟨v174, rfl, ho0, hb⟩
             have HS0_ := (hb.cell (World.block_lt_of_cell? _ _ (hHeld.1))).trans (hHeld.1)
             have HS1_ := (hb.cell (World.block_lt_of_cell? _ _ (hHeld.2.1))).trans (hHeld.2.1)
             have HS2_ := (hb.cell (World.block_lt_of_cell? _ _ (hHeld.2.2.1))).trans (hHeld.2.2.1)
             have HS3_ := (hb.cell (World.block_lt_of_cell? _ _ (hHeld.2.2.2.1))).trans (hHeld.2.2.2.1)
             have HS4_ := (hb.cell (World.block_lt_of_cell? _ _ (hHeld.2.2.2.2.1))).trans (hHeld.2.2.2.2.1)
             have HS5_ := (hb.cell (World.block_lt_of_cell? _ _ (hHeld.2.2.2.2.2))).trans (hHeld.2.2.2.2.2)
             refine ⟨_, rfl, ?_⟩
             have n0_ := Aside0.mk (Kd.V_below (by (with_reducible repeat (first | apply Kd.V_alloc | apply Kd.V_drewN | apply Kd.V_drew)); exact HO_0.out) hb)
             have n1_ := Aside0.mk (Kd.N_below (by (with_reducible repeat (first | apply Kd.N_alloc | apply Kd.N_drewN | apply Kd.N_drew)); exact HO_9.out) hb)
             have n2_ := Aside0.mk (Kd.V_below (by (with_reducible repeat (first | apply Kd.V_alloc | apply Kd.V_drewN | apply Kd.V_drew)); exact HL172_0.out) hb)
             have n3_ := Aside0.mk (Kd.V_below (by (with_reducible repeat (first | apply Kd.V_alloc | apply Kd.V_drewN | apply Kd.V_drew)); exact HL172_1.out) hb)
             have n4_ := Aside0.mk (Kd.V_below (by (with_reducible repeat (first | apply Kd.V_alloc | apply Kd.V_drewN | apply Kd.V_drew)); exact HL176_0.out) hb)
             have n5_ := Aside0.mk (Kd.V_below (by (with_reducible repeat (first | apply Kd.V_alloc | apply Kd.V_drewN | apply Kd.V_drew)); exact HL176_1.out) hb)
             have n6_ := Aside0.mk (Kd.V_lower (Kd.V_mono (ok' := fun k_ => (P0_ k_ ∨ w.heap.size ≤ k_) ∧ some k_ ≠ (u9 : Value).ownBlock ∧ k_ ≠ gb177) ho0 (fun k_ hk_ => ⟨Or.elim hk_ (fun hs_ => hs_.1.1) (fun hn_ => (.inr (Nat.le_trans (below_size (belS HB.out)) hn_))), Or.elim hk_ (fun hs_ => hs_.1.2) (fun hn_ => (Kd.fresh' (Kd.N_lt (by (with_reducible repeat (first | apply Kd.N_alloc | apply Kd.N_drewN | apply Kd.N_drew)); exact HO_9.out)) k_ hn_)), Or.elim hk_ (fun hs_ => hs_.2) (fun hn_ => (Kd.freshB (g := gb177) (o := .cells #[.slice none 0 0, .slice none 0 0, .bool false] 49 (0, 0)) (blkN BK177.out) k_ hn_))⟩)) (below_size (belS HB.out)))
             have n7_ := Aside0.mk (cbN HR172_0.out hb)
             have n8_ := Aside0.mk (cbN HR172_1.out hb)
             have n9_ := Aside0.mk (cbN HR176_0.out hb)
             have n10_ := Aside0.mk (cbN HR176_1.out hb)
             have n11_ := Aside0.mk (bkB BK177.out hb)
             have n12_ := Aside0.mk (below_step (belS HB.out) hb)
             clear HO_0
             clear HO_9
             clear HL172_0
             clear HL172_1
             clear HL176_0
             clear HL176_1
             clear HR172_0
             clear HR172_1
             clear HR176_0
             clear HR176_1
             clear BK177
             clear HB
             have HO_0 := n0_
             have HO_9 := n1_
             have HL172_0 := n2_
             have HL172_1 := n3_
             have HL176_0 := n4_
             have HL176_1 := n5_
             have HO175 := n6_
             have HR172_0 := n7_
             have HR172_1 := n8_
             have HR176_0 := n9_
             have HR176_1 := n10_
             have BK177 := n11_
             have HB := n12_
             clear n0_ n1_ n2_ n3_ n4_ n5_ n6_ n7_ n8_ n9_ n10_ n11_ n12_
             (try clear hb)
             (try clear hk)
             (try clear ho0)
             obtain ⟨Ao76, co76, eo76⟩ := Kd.V_slice HO175.out
             (first | subst eo76 | (injection eo76 with f1_ f2_ f3_; have f4_ := f1_.symm; have f5_ := f3_.symm; clear f1_ f2_ f3_; subst f4_; subst f5_))
             refine hK.out _ _ ⟨HS0_, HS1_, HS2_, HS3_, HS4_, HS5_⟩ (fun hHeld => ?_)
             clear hK K
             refine norm_ (a' := ?_) ?_ ?_
             rotate_left
             ·show Act.put _ (some 29) _ = _
              simp only [Act.put, List.setIfInBounds_toArray, List.set_cons_zero, List.set_cons_succ, i64_w, i32_w]
              rfl
             refine pA 12 (some 35) (bA 15 16383) HT_.out ?_
             exact norm_ (by simp only [putAll, Act.put, List.setIfInBounds_toArray, List.set_cons_zero, List.set_cons_succ]) (hCont (.slice Ao76 t173.length co76, gb177) _ ⟨hHeld, (by (with_reducible repeat (first | apply Kd.V_alloc | apply Kd.V_drewN | apply Kd.V_drew)); exact Kd.V_mono HL172_0.out (fun _ hk => ⟨hk.1.1, ⟨hk.1.2, hk.2⟩⟩)), (by (with_reducible repeat (first | apply Kd.V_alloc | apply Kd.V_drewN | apply Kd.V_drew)); exact Kd.V_mono HL172_1.out (fun _ hk => ⟨hk.1.1, ⟨hk.1.2, hk.2⟩⟩)), (by (with_reducible repeat (first | apply Kd.V_alloc | apply Kd.V_drewN | apply Kd.V_drew)); exact Kd.V_mono HL176_0.out (fun _ hk => ⟨hk.1.1, ⟨hk.1.2, hk.2⟩⟩)), (by (with_reducible repeat (first | apply Kd.V_alloc | apply Kd.V_drewN | apply Kd.V_drew)); exact Kd.V_mono HL176_1.out (fun _ hk => ⟨hk.1.1, ⟨hk.1.2, hk.2⟩⟩)), (by (with_reducible repeat (first | apply Kd.V_alloc | apply Kd.V_drewN | apply Kd.V_drew)); exact HO175.out), (by (with_reducible repeat (first | apply Kd.V_alloc | apply Kd.V_drewN | apply Kd.V_drew)); exact Kd.V_mono HO_0.out (fun _ hk => ⟨hk.1.1, ⟨hk.1.2, hk.2⟩⟩)), (by (with_reducible repeat (first | apply Kd.N_alloc | apply Kd.N_drewN | apply Kd.N_drew)); exact HO_9.out), (blkN BK177.out), GW177.out, GE177.out, (belS HB.out)⟩)
           rintro ⟨v174, gb177⟩ w77 ⟨hS_, h0_, h1_, h2_, h3_, h4_, h5_, h6_, h7_, h8_, h9_, h10_⟩
           have n0_ : Aside0 (Kd.V (Kd.int .u8) 5 w77 w.heap.size (fun k_ => (P0_ k_ ∨ w.heap.size ≤ k_) ∧ some k_ ≠ (u9 : Value).ownBlock ∧ k_ ≠ gb177) (.slice A172_0 ((rd_T49 l0 x10_1).f0).length c172_0) ((rd_T49 l0 x10_1).f0)) := ⟨h0_⟩
           have n1_ : Aside0 (Kd.V (Kd.int .u8) 5 w77 w.heap.size (fun k_ => (P0_ k_ ∨ w.heap.size ≤ k_) ∧ some k_ ≠ (u9 : Value).ownBlock ∧ k_ ≠ gb177) (.slice A172_1 ((rd_T49 l0 x10_1).f1).length c172_1) ((rd_T49 l0 x10_1).f1)) := ⟨h1_⟩
           have n2_ : Aside0 (Kd.V (Kd.int .u8) 5 w77 w.heap.size (fun k_ => (P0_ k_ ∨ w.heap.size ≤ k_) ∧ some k_ ≠ (u9 : Value).ownBlock ∧ k_ ≠ gb177) (.slice A172_0 ((rd_T49 l0 x10_1).f0).length c172_0) ((rd_T49 l0 x10_1).f0)) := ⟨h2_⟩
           have n3_ : Aside0 (Kd.V (Kd.int .u8) 5 w77 w.heap.size (fun k_ => (P0_ k_ ∨ w.heap.size ≤ k_) ∧ some k_ ≠ (u9 : Value).ownBlock ∧ k_ ≠ gb177) (.slice A172_1 ((rd_T49 l0 x10_1).f1).length c172_1) ((rd_T49 l0 x10_1).f1)) := ⟨h3_⟩
           have n4_ : Aside0 (Kd.V (Kd.int .u8) 5 w77 w.heap.size (fun k_ => (P0_ k_ ∨ w.heap.size ≤ k_) ∧ some k_ ≠ (u9 : Value).ownBlock ∧ k_ ≠ gb177) v174 t173) := ⟨h4_⟩
           have n5_ : Aside0 (Kd.V k49 49 w77 w.heap.size (fun k_ => (P0_ k_ ∨ w.heap.size ≤ k_) ∧ some k_ ≠ (u9 : Value).ownBlock ∧ k_ ≠ gb177) (.slice (some ad172) l0.length c0) l0) := ⟨h5_⟩
           have n6_ : Aside0 (Kd.N k49 49 w77 w.heap.size (fun k_ => (P0_ k_ ∨ w.heap.size ≤ k_) ∧ k_ ≠ gb177) u9 x9_1) := ⟨h6_⟩
           have n7_ : Aside0 (w77.heap[gb177]? = some (.cells #[.slice none 0 0, .slice none 0 0, .bool false] 49 (0, 0))) := ⟨h7_⟩
           have n8_ : Aside0 (w.heap.size ≤ gb177) := ⟨h8_⟩
           have n9_ : Aside0 (w.heap.size ≤ gb177) := ⟨h9_⟩
           have n10_ : Aside0 (Below w.heap.size w w77) := ⟨h10_⟩
           clear HO_0
           clear HO_9
           clear HB
           clear h0_ h1_ h2_ h3_ h4_ h5_ h6_ h7_ h8_ h9_ h10_
           have HL172_0 := n0_
           have HL172_1 := n1_
           have HL176_0 := n2_
           have HL176_1 := n3_
           have HO175 := n4_
           have HO_0 := n5_
           have HO_9 := n6_
           have BK177 := n7_
           have GW177 := n8_
           have GE177 := n9_
           have HB := n10_
           clear n0_ n1_ n2_ n3_ n4_ n5_ n6_ n7_ n8_ n9_ n10_
           have hHeld : w77.cell? (ad172.add ((x10_1).toNat * 3)) = some (.slice A172_0 ((rd_T49 l0 x10_1).f0).length c172_0) ∧ w77.cell? ⟨(ad172.add ((x10_1).toNat * 3)).block, (ad172.add ((x10_1).toNat * 3)).off + 1, none⟩ = some (.slice A172_1 ((rd_T49 l0 x10_1).f1).length c172_1) ∧ w77.cell? ⟨(ad172.add ((x10_1).toNat * 3)).block, (ad172.add ((x10_1).toNat * 3)).off + 2, none⟩ = some (.bool false) ∧ w77.cell? (ad172.add ((x10_1).toNat * 3)) = some (.slice A172_0 ((rd_T49 l0 x10_1).f0).length c172_0) ∧ w77.cell? ⟨(ad172.add ((x10_1).toNat * 3)).block, (ad172.add ((x10_1).toNat * 3)).off + 1, none⟩ = some (.slice A172_1 ((rd_T49 l0 x10_1).f1).length c172_1) ∧ w77.cell? ⟨(ad172.add ((x10_1).toNat * 3)).block, (ad172.add ((x10_1).toNat * 3)).off + 2, none⟩ = some (.bool false) := hS_
           obtain ⟨Ao78, co78, eo78⟩ := Kd.V_slice HO175.out
           (first | subst eo78 | (injection eo78 with f1_ f2_ f3_; have f4_ := f1_.symm; have f5_ := f3_.symm; clear f1_ f2_ f3_; subst f4_; subst f5_))
           refine norm_ (a' := ?_) ?_ ?_
           rotate_left
           ·simp only [putAll, Act.put, List.setIfInBounds_toArray, List.set_cons_zero, List.set_cons_succ]
            rfl
           refine one_ (i := 14) (N := none) (bA 15 32767) rfl rfl (one_of HT_.out (by kernel_rfl)) (by decide) (fun K hK => ?_)
           have hs79 : w77.cell? ⟨gb177, 0, none⟩ = some (.slice none 0 0) := (blk_cell BK177.out 0).trans rfl
           have hfs79 := blk_frozen BK177.out 0
           have hs80 : w77.cell? ⟨gb177, 1, none⟩ = some (.slice none 0 0) := (blk_cell BK177.out 1).trans rfl
           have hfs80 := blk_frozen BK177.out 1
           have hs81 : w77.cell? ⟨gb177, 2, none⟩ = some (.bool false) := (blk_cell BK177.out 2).trans rfl
           have hfs81 := blk_frozen BK177.out 2
           refine skip_ (w1 := ?_) (by rfl) rfl ?_ ?_
           rotate_left
           ·go_simp
            rfl
           have hbl_ : (ad172.add ((x10_1).toNat * 3)).block ≠ gb177 := by rw [add_block]; exact V_blk HO_0.out z49 (by decide) (by have a_ := of_eq_true p172; have b_ := of_eq_true q172; omega) (fun _ hk => hk.2.2)
           refine hK.out _ _ ⟨(far3 (by exact hbl_)).trans hHeld.1, (far3 (by exact hbl_)).trans hHeld.2.1, (far3 (by exact hbl_)).trans hHeld.2.2.1, (far3 (by exact hbl_)).trans hHeld.2.2.2.1, (far3 (by exact hbl_)).trans hHeld.2.2.2.2.1, (far3 (by exact hbl_)).trans hHeld.2.2.2.2.2⟩ (fun hHeld => ?_)
           clear hbl_
           clear hK K
           refine done_ (done_of HT_.out (by kernel_rfl)) ?_
           have n0_ : Aside0 (Kd.V k49 49 (((w77.setCell ⟨gb177, 0, none⟩ (.slice Ao78 t173.length co78)).setCell ⟨gb177, 1, none⟩ (.slice none 0 0)).setCell ⟨gb177, 2, none⟩ (.bool false)) w.heap.size (fun k_ => (P0_ k_ ∨ w.heap.size ≤ k_) ∧ some k_ ≠ (u9 : Value).ownBlock ∧ k_ ≠ gb177) (.slice (some ad172) l0.length c0) l0) := ⟨by (with_reducible repeat (first | apply Kd.V_alloc | apply Kd.V_drewN | apply Kd.V_drew)); exact Kd.V_mono (Kd.V_far (p := ⟨gb177, 2, none⟩) (Kd.V_far (p := ⟨gb177, 1, none⟩) (Kd.V_far (p := ⟨gb177, 0, none⟩) (Kd.V_mono HO_0.out (fun k_ hk => (⟨hk, hk.2.2⟩ : _ ∧ k_ ≠ gb177))) (fun _ hk => hk.2) (.slice Ao78 t173.length co78)) (fun _ hk => hk.2) (.slice none 0 0)) (fun _ hk => hk.2) (.bool false)) (fun _ hk => ⟨hk.1.1, ⟨hk.1.2.1, hk.1.2.2⟩⟩)⟩
           have n1_ : Aside0 (Kd.N k49 49 (((w77.setCell ⟨gb177, 0, none⟩ (.slice Ao78 t173.length co78)).setCell ⟨gb177, 1, none⟩ (.slice none 0 0)).setCell ⟨gb177, 2, none⟩ (.bool false)) w.heap.size (fun k_ => (P0_ k_ ∨ w.heap.size ≤ k_) ∧ k_ ≠ gb177) u9 x9_1) := ⟨by (with_reducible repeat (first | apply Kd.N_alloc | apply Kd.N_drewN | apply Kd.N_drew)); exact Kd.N_mono (Kd.N_far (p := ⟨gb177, 2, none⟩) (Kd.N_far (p := ⟨gb177, 1, none⟩) (Kd.N_far (p := ⟨gb177, 0, none⟩) (Kd.N_mono HO_9.out (fun k_ hk => (⟨hk, hk.2⟩ : _ ∧ k_ ≠ gb177))) (fun _ hk => hk.2) (.slice Ao78 t173.length co78)) (fun _ hk => hk.2) (.slice none 0 0)) (fun _ hk => hk.2) (.bool false)) (fun _ hk => ⟨hk.1.1, hk.1.2⟩)⟩
           have n2_ : Aside0 (Kd.V (Kd.int .u8) 5 (((w77.setCell ⟨gb177, 0, none⟩ (.slice Ao78 t173.length co78)).setCell ⟨gb177, 1, none⟩ (.slice none 0 0)).setCell ⟨gb177, 2, none⟩ (.bool false)) w.heap.size (fun k_ => (P0_ k_ ∨ w.heap.size ≤ k_) ∧ some k_ ≠ (u9 : Value).ownBlock ∧ k_ ≠ gb177) (.slice A172_0 ((rd_T49 l0 x10_1).f0).length c172_0) ((rd_T49 l0 x10_1).f0)) := ⟨by (with_reducible repeat (first | apply Kd.V_alloc | apply Kd.V_drewN | apply Kd.V_drew)); exact Kd.V_mono (Kd.V_far (p := ⟨gb177, 2, none⟩) (Kd.V_far (p := ⟨gb177, 1, none⟩) (Kd.V_far (p := ⟨gb177, 0, none⟩) (Kd.V_mono HL172_0.out (fun k_ hk => (⟨hk, hk.2.2⟩ : _ ∧ k_ ≠ gb177))) (fun _ hk => hk.2) (.slice Ao78 t173.length co78)) (fun _ hk => hk.2) (.slice none 0 0)) (fun _ hk => hk.2) (.bool false)) (fun _ hk => ⟨hk.1.1, ⟨hk.1.2.1, hk.1.2.2⟩⟩)⟩
           have n3_ : Aside0 (Kd.V (Kd.int .u8) 5 (((w77.setCell ⟨gb177, 0, none⟩ (.slice Ao78 t173.length co78)).setCell ⟨gb177, 1, none⟩ (.slice none 0 0)).setCell ⟨gb177, 2, none⟩ (.bool false)) w.heap.size (fun k_ => (P0_ k_ ∨ w.heap.size ≤ k_) ∧ some k_ ≠ (u9 : Value).ownBlock ∧ k_ ≠ gb177) (.slice A172_1 ((rd_T49 l0 x10_1).f1).length c172_1) ((rd_T49 l0 x10_1).f1)) := ⟨by (with_reducible repeat (first | apply Kd.V_alloc | apply Kd.V_drewN | apply Kd.V_drew)); exact Kd.V_mono (Kd.V_far (p := ⟨gb177, 2, none⟩) (Kd.V_far (p := ⟨gb177, 1, none⟩) (Kd.V_far (p := ⟨gb177, 0, none⟩) (Kd.V_mono HL172_1.out (fun k_ hk => (⟨hk, hk.2.2⟩ : _ ∧ k_ ≠ gb177))) (fun _ hk => hk.2) (.slice Ao78 t173.length co78)) (fun _ hk => hk.2) (.slice none 0 0)) (fun _ hk => hk.2) (.bool false)) (fun _ hk => ⟨hk.1.1, ⟨hk.1.2.1, hk.1.2.2⟩⟩)⟩
           have n4_ : Aside0 (Kd.V (Kd.int .u8) 5 (((w77.setCell ⟨gb177, 0, none⟩ (.slice Ao78 t173.length co78)).setCell ⟨gb177, 1, none⟩ (.slice none 0 0)).setCell ⟨gb177, 2, none⟩ (.bool false)) w.heap.size (fun k_ => (P0_ k_ ∨ w.heap.size ≤ k_) ∧ some k_ ≠ (u9 : Value).ownBlock ∧ k_ ≠ gb177) (.slice A172_0 ((rd_T49 l0 x10_1).f0).length c172_0) ((rd_T49 l0 x10_1).f0)) := ⟨by (with_reducible repeat (first | apply Kd.V_alloc | apply Kd.V_drewN | apply Kd.V_drew)); exact Kd.V_mono (Kd.V_far (p := ⟨gb177, 2, none⟩) (Kd.V_far (p := ⟨gb177, 1, none⟩) (Kd.V_far (p := ⟨gb177, 0, none⟩) (Kd.V_mono HL176_0.out (fun k_ hk => (⟨hk, hk.2.2⟩ : _ ∧ k_ ≠ gb177))) (fun _ hk => hk.2) (.slice Ao78 t173.length co78)) (fun _ hk => hk.2) (.slice none 0 0)) (fun _ hk => hk.2) (.bool false)) (fun _ hk => ⟨hk.1.1, ⟨hk.1.2.1, hk.1.2.2⟩⟩)⟩
           have n5_ : Aside0 (Kd.V (Kd.int .u8) 5 (((w77.setCell ⟨gb177, 0, none⟩ (.slice Ao78 t173.length co78)).setCell ⟨gb177, 1, none⟩ (.slice none 0 0)).setCell ⟨gb177, 2, none⟩ (.bool false)) w.heap.size (fun k_ => (P0_ k_ ∨ w.heap.size ≤ k_) ∧ some k_ ≠ (u9 : Value).ownBlock ∧ k_ ≠ gb177) (.slice A172_1 ((rd_T49 l0 x10_1).f1).length c172_1) ((rd_T49 l0 x10_1).f1)) := ⟨by (with_reducible repeat (first | apply Kd.V_alloc | apply Kd.V_drewN | apply Kd.V_drew)); exact Kd.V_mono (Kd.V_far (p := ⟨gb177, 2, none⟩) (Kd.V_far (p := ⟨gb177, 1, none⟩) (Kd.V_far (p := ⟨gb177, 0, none⟩) (Kd.V_mono HL176_1.out (fun k_ hk => (⟨hk, hk.2.2⟩ : _ ∧ k_ ≠ gb177))) (fun _ hk => hk.2) (.slice Ao78 t173.length co78)) (fun _ hk => hk.2) (.slice none 0 0)) (fun _ hk => hk.2) (.bool false)) (fun _ hk => ⟨hk.1.1, ⟨hk.1.2.1, hk.1.2.2⟩⟩)⟩
           have n6_ : Aside0 (Kd.V (Kd.int .u8) 5 (((w77.setCell ⟨gb177, 0, none⟩ (.slice Ao78 t173.length co78)).setCell ⟨gb177, 1, none⟩ (.slice none 0 0)).setCell ⟨gb177, 2, none⟩ (.bool false)) w.heap.size (fun k_ => (P0_ k_ ∨ w.heap.size ≤ k_) ∧ some k_ ≠ (u9 : Value).ownBlock ∧ k_ ≠ gb177) (.slice Ao78 t173.length co78) t173) := ⟨by (with_reducible repeat (first | apply Kd.V_alloc | apply Kd.V_drewN | apply Kd.V_drew)); exact Kd.V_mono (Kd.V_far (p := ⟨gb177, 2, none⟩) (Kd.V_far (p := ⟨gb177, 1, none⟩) (Kd.V_far (p := ⟨gb177, 0, none⟩) (Kd.V_mono HO175.out (fun k_ hk => (⟨hk, hk.2.2⟩ : _ ∧ k_ ≠ gb177))) (fun _ hk => hk.2) (.slice Ao78 t173.length co78)) (fun _ hk => hk.2) (.slice none 0 0)) (fun _ hk => hk.2) (.bool false)) (fun _ hk => ⟨hk.1.1, ⟨hk.1.2.1, hk.1.2.2⟩⟩)⟩
           have n7_ : Aside0 ((((w77.setCell ⟨gb177, 0, none⟩ (.slice Ao78 t173.length co78)).setCell ⟨gb177, 1, none⟩ (.slice none 0 0)).setCell ⟨gb177, 2, none⟩ (.bool false)).heap[gb177]? = some (.cells #[.slice Ao78 t173.length co78, .slice none 0 0, .bool false] 49 (0, 0))) := ⟨by (with_reducible repeat (first | refine blk_drewN ?_ _ | refine blk_drew ?_ | refine blk_alloc ?_ _)); refine blk_put (cs := #[.slice Ao78 t173.length co78, .slice none 0 0, .bool false]) ?_ 2 _ rfl; (with_reducible repeat (first | refine blk_drewN ?_ _ | refine blk_drew ?_ | refine blk_alloc ?_ _)); refine blk_put (cs := #[.slice Ao78 t173.length co78, .slice none 0 0, .bool false]) ?_ 1 _ rfl; (with_reducible repeat (first | refine blk_drewN ?_ _ | refine blk_drew ?_ | refine blk_alloc ?_ _)); refine blk_put (cs := #[.slice none 0 0, .slice none 0 0, .bool false]) ?_ 0 _ rfl; (with_reducible repeat (first | refine blk_drewN ?_ _ | refine blk_drew ?_ | refine blk_alloc ?_ _)); exact BK177.out⟩
           have n8_ : Aside0 (Below w.heap.size w (((w77.setCell ⟨gb177, 0, none⟩ (.slice Ao78 t173.length co78)).setCell ⟨gb177, 1, none⟩ (.slice none 0 0)).setCell ⟨gb177, 2, none⟩ (.bool false))) := ⟨(belS HB.out)⟩
           (try clear HO_0)
           (try clear HO_9)
           (try clear HL172_0)
           (try clear HL172_1)
           (try clear HL176_0)
           (try clear HL176_1)
           (try clear HO175)
           (try clear BK177)
           (try clear HB)
           generalize (((w77.setCell ⟨gb177, 0, none⟩ (.slice Ao78 t173.length co78)).setCell ⟨gb177, 1, none⟩ (.slice none 0 0)).setCell ⟨gb177, 2, none⟩ (.bool false)) = w82 at n0_ n1_ n2_ n3_ n4_ n5_ n6_ n7_ n8_ ⊢
           have HO_0 := n0_
           have HO_9 := n1_
           have HL172_0 := n2_
           have HL172_1 := n3_
           have HL176_0 := n4_
           have HL176_1 := n5_
           have HO175 := n6_
           have BK177 := n7_
           have HB := n8_
           clear n0_ n1_ n2_ n3_ n4_ n5_ n6_ n7_ n8_
           have hcz83_0 : w82.cell? ⟨gb177, 0, none⟩ = some (.slice Ao78 t173.length co78) := (blk_cell BK177.out 0).trans rfl
           have hcz83_1 : w82.cell? ⟨gb177, 1, none⟩ = some (.slice none 0 0) := (blk_cell BK177.out 1).trans rfl
           have hcz83_2 : w82.cell? ⟨gb177, 2, none⟩ = some (.bool false) := (blk_cell BK177.out 2).trans rfl
           have hfz83_0 := blk_frozen BK177.out 0
           have hfz83_1 := blk_frozen BK177.out 1
           have hfz83_2 := blk_frozen BK177.out 2
           have p194 : 0 ≤ (x10_1 : Int) := of_decide_eq_true (by first | (with_reducible assumption) | assumption)
           have q194 : x10_1 < (l0.length : Int) := of_decide_eq_true (by first | (with_reducible assumption) | assumption)
           obtain ⟨ad194, A194_0, c194_0, A194_1, c194_1, e194, hx194_0, hx194_1, hx194_2, hl194_0, hi194_0, hl194_1, hi194_1⟩ := at_T49 (Kd.V_reads' HO_0.out).2.2 x10_1 p194 q194
           (try rw [← Nbq56.out] at hx194_2)
           obtain rfl : ad172 = ad194 := (by injection e194)
           obtain ⟨ce194, hce194, hMe194, hcc194⟩ := Kd.V_get HO_0.out z49 x10_1 p194 (by first | exact q194 | exact of_decide_eq_true (by first | (with_reducible assumption) | assumption) | (have e_ := (Kd.V_reads' HO_0.out).1; omega))
           obtain ⟨ua194_0, uc194_0, ua194_1, uc194_1, rfl, ul194_0, ge194_0, ul194_1, ge194_1⟩ := k49_openF hMe194
           have hv194_0 := hcc194 0 _ rfl
           rw [Nat.add_zero] at hv194_0
           replace hv194_0 := Option.some.inj (hv194_0.symm.trans hx194_0)
           injection hv194_0 with hva_ hvn_ hvc_
           rw [hva_] at ge194_0
           rw [hvc_] at ul194_0
           have HL194_0 := Aside0.mk (show Kd.V (Kd.int .u8) 5 _ w.heap.size _ _ ((rd_T49 l0 x10_1).f0) from Kd.V_mk ul194_0 ge194_0)
           clear hva_ hvn_ hvc_ ge194_0 ul194_0
           have hv194_1 := hcc194 1 _ rfl
           rw [add_field _ _ 1 (by omega)] at hv194_1
           replace hv194_1 := Option.some.inj (hv194_1.symm.trans hx194_1)
           injection hv194_1 with hva_ hvn_ hvc_
           rw [hva_] at ge194_1
           rw [hvc_] at ul194_1
           have HL194_1 := Aside0.mk (show Kd.V (Kd.int .u8) 5 _ w.heap.size _ _ ((rd_T49 l0 x10_1).f1) from Kd.V_mk ul194_1 ge194_1)
           clear hva_ hvn_ hvc_ ge194_1 ul194_1
           clear hcc194 hce194
           have HR194_0 := Aside0.mk hi194_0
           have HC194_0 := Aside0.mk hl194_0
           clear hi194_0 hl194_0
           have HR194_1 := Aside0.mk hi194_1
           have HC194_1 := Aside0.mk hl194_1
           clear hi194_1 hl194_1
           replace p194 := eq_true p194
           replace q194 := eq_true q194
           try go_wp2_with (first | ((with_reducible refine gate_callee (f := 14) rfl ?_); refine goesL_ (some 51) rfl rfl Try.func14 (by kernel_rfl) rfl #[.slice A194_1 ((rd_T49 l0 x10_1).f1).length c194_1, .int .i64 a3] rfl argN ?_; (with_reducible refine (marigraphkeep_Cut.calls (fun k_ => ((P0_ k_ ∨ w.heap.size ≤ k_) ∧ (some k_ ≠ (u9 : Value).ownBlock ∧ k_ ≠ gb177))) _ _ ((rd_T49 l0 x10_1).f1) a3 t195 _ ?side1 A71.out).mono ?_); (case side1 => exact HL194_1.out); rintro e w84 ⟨v196, rfl, ho0, hb⟩; refine ⟨_, rfl, ?_⟩; have n0_ := Aside0.mk (Kd.V_below (by (with_reducible repeat (first | apply Kd.V_alloc | apply Kd.V_drewN | apply Kd.V_drew)); exact HO_0.out) hb); have n1_ := Aside0.mk (Kd.N_below (by (with_reducible repeat (first | apply Kd.N_alloc | apply Kd.N_drewN | apply Kd.N_drew)); exact HO_9.out) hb); have n2_ := Aside0.mk (Kd.V_below (by (with_reducible repeat (first | apply Kd.V_alloc | apply Kd.V_drewN | apply Kd.V_drew)); exact HL172_0.out) hb); have n3_ := Aside0.mk (Kd.V_below (by (with_reducible repeat (first | apply Kd.V_alloc | apply Kd.V_drewN | apply Kd.V_drew)); exact HL172_1.out) hb); have n4_ := Aside0.mk (Kd.V_below (by (with_reducible repeat (first | apply Kd.V_alloc | apply Kd.V_drewN | apply Kd.V_drew)); exact HL176_0.out) hb); have n5_ := Aside0.mk (Kd.V_below (by (with_reducible repeat (first | apply Kd.V_alloc | apply Kd.V_drewN | apply Kd.V_drew)); exact HL176_1.out) hb); have n6_ := Aside0.mk (Kd.V_below (by (with_reducible repeat (first | apply Kd.V_alloc | apply Kd.V_drewN | apply Kd.V_drew)); exact HO175.out) hb); have n7_ := Aside0.mk (Kd.V_below (by (with_reducible repeat (first | apply Kd.V_alloc | apply Kd.V_drewN | apply Kd.V_drew)); exact HL194_0.out) hb); have n8_ := Aside0.mk (Kd.V_below (by (with_reducible repeat (first | apply Kd.V_alloc | apply Kd.V_drewN | apply Kd.V_drew)); exact HL194_1.out) hb); have n9_ := Aside0.mk (Kd.V_lower (Kd.V_mono (ok' := fun k_ => (P0_ k_ ∨ w.heap.size ≤ k_) ∧ some k_ ≠ (u9 : Value).ownBlock ∧ k_ ≠ gb177) ho0 (fun k_ hk_ => ⟨Or.elim hk_ (fun hs_ => hs_.1) (fun hn_ => (.inr (Nat.le_trans (below_size (belS HB.out)) hn_))), Or.elim hk_ (fun hs_ => hs_.2.1) (fun hn_ => (Kd.fresh' (Kd.N_lt (by (with_reducible repeat (first | apply Kd.N_alloc | apply Kd.N_drewN | apply Kd.N_drew)); exact HO_9.out)) k_ hn_)), Or.elim hk_ (fun hs_ => hs_.2.2) (fun hn_ => (Kd.freshB (g := gb177) (o := .cells #[.slice Ao78 t173.length co78, .slice none 0 0, .bool false] 49 (0, 0)) (blkN BK177.out) k_ hn_))⟩)) (below_size (belS HB.out))); have n10_ := Aside0.mk (bkB BK177.out hb); have n11_ := Aside0.mk (cbN HR194_0.out hb); have n12_ := Aside0.mk (cbN HR194_1.out hb); have n13_ := Aside0.mk (below_step (belS HB.out) hb); clear HO_0; clear HO_9; clear HL172_0; clear HL172_1; clear HL176_0; clear HL176_1; clear HO175; clear HL194_0; clear HL194_1; clear BK177; clear HR194_0; clear HR194_1; clear HB; have HO_0 := n0_; have HO_9 := n1_; have HL172_0 := n2_; have HL172_1 := n3_; have HL176_0 := n4_; have HL176_1 := n5_; have HO175 := n6_; have HL194_0 := n7_; have HL194_1 := n8_; have HO197 := n9_; have BK177 := n10_; have HR194_0 := n11_; have HR194_1 := n12_; have HB := n13_; clear n0_ n1_ n2_ n3_ n4_ n5_ n6_ n7_ n8_ n9_ n10_ n11_ n12_ n13_; (try clear hb); (try clear hk); (try clear ho0); obtain ⟨Ao85, co85, eo85⟩ := Kd.V_slice HO197.out; subst eo85; have hcz86_0 : w84.cell? ⟨gb177, 0, none⟩ = some (.slice Ao78 t173.length co78) := (blk_cell BK177.out 0).trans rfl; have hcz86_1 : w84.cell? ⟨gb177, 1, none⟩ = some (.slice none 0 0) := (blk_cell BK177.out 1).trans rfl; have hcz86_2 : w84.cell? ⟨gb177, 2, none⟩ = some (.bool false) := (blk_cell BK177.out 2).trans rfl; have hfz86_0 := blk_frozen BK177.out 0; have hfz86_1 := blk_frozen BK177.out 1; have hfz86_2 := blk_frozen BK177.out 2) | ((with_reducible refine gate_store (t := 23) (p := 52) rfl ?_); refine store_event (t := 23) (p := 52) (v := ?vo_w87) (w1 := (w84.setCell ⟨gb177, 1, none⟩ (.slice Ao85 t195.length co85))) ?hg ?ho ?hn ?hr ?_; (case ho => rfl); (case hg => rfl); (case hn => rfl); (case hr => first | (go_simp; done) | (go_simp; rfl)); intro w87 hw; have n0_ : Aside0 (Kd.V k49 49 w87 w.heap.size (fun k_ => (P0_ k_ ∨ w.heap.size ≤ k_) ∧ some k_ ≠ (u9 : Value).ownBlock ∧ k_ ≠ gb177) (.slice (some ad172) l0.length c0) l0) := ⟨(by rw [hw]; exact (by (with_reducible repeat (first | apply Kd.V_alloc | apply Kd.V_drewN | apply Kd.V_drew)); exact Kd.V_mono (Kd.V_far (p := ⟨gb177, 1, none⟩) (Kd.V_mono HO_0.out (fun k_ hk => (⟨hk, hk.2.2⟩ : _ ∧ k_ ≠ gb177))) (fun _ hk => hk.2) (.slice Ao85 t195.length co85)) (fun _ hk => ⟨hk.1.1, ⟨hk.1.2.1, hk.1.2.2⟩⟩)))⟩; have n1_ : Aside0 (Kd.N k49 49 w87 w.heap.size (fun k_ => (P0_ k_ ∨ w.heap.size ≤ k_) ∧ k_ ≠ gb177) u9 x9_1) := ⟨(by rw [hw]; exact (by (with_reducible repeat (first | apply Kd.N_alloc | apply Kd.N_drewN | apply Kd.N_drew)); exact Kd.N_mono (Kd.N_far (p := ⟨gb177, 1, none⟩) (Kd.N_mono HO_9.out (fun k_ hk => (⟨hk, hk.2⟩ : _ ∧ k_ ≠ gb177))) (fun _ hk => hk.2) (.slice Ao85 t195.length co85)) (fun _ hk => ⟨hk.1.1, hk.1.2⟩)))⟩; have n2_ : Aside0 (Kd.V (Kd.int .u8) 5 w87 w.heap.size (fun k_ => (P0_ k_ ∨ w.heap.size ≤ k_) ∧ some k_ ≠ (u9 : Value).ownBlock ∧ k_ ≠ gb177) (.slice A172_0 ((rd_T49 l0 x10_1).f0).length c172_0) ((rd_T49 l0 x10_1).f0)) := ⟨(by rw [hw]; exact (by (with_reducible repeat (first | apply Kd.V_alloc | apply Kd.V_drewN | apply Kd.V_drew)); exact Kd.V_mono (Kd.V_far (p := ⟨gb177, 1, none⟩) (Kd.V_mono HL172_0.out (fun k_ hk => (⟨hk, hk.2.2⟩ : _ ∧ k_ ≠ gb177))) (fun _ hk => hk.2) (.slice Ao85 t195.length co85)) (fun _ hk => ⟨hk.1.1, ⟨hk.1.2.1, hk.1.2.2⟩⟩)))⟩; have n3_ : Aside0 (Kd.V (Kd.int .u8) 5 w87 w.heap.size (fun k_ => (P0_ k_ ∨ w.heap.size ≤ k_) ∧ some k_ ≠ (u9 : Value).ownBlock ∧ k_ ≠ gb177) (.slice A172_1 ((rd_T49 l0 x10_1).f1).length c172_1) ((rd_T49 l0 x10_1).f1)) := ⟨(by rw [hw]; exact (by (with_reducible repeat (first | apply Kd.V_alloc | apply Kd.V_drewN | apply Kd.V_drew)); exact Kd.V_mono (Kd.V_far (p := ⟨gb177, 1, none⟩) (Kd.V_mono HL172_1.out (fun k_ hk => (⟨hk, hk.2.2⟩ : _ ∧ k_ ≠ gb177))) (fun _ hk => hk.2) (.slice Ao85 t195.length co85)) (fun _ hk => ⟨hk.1.1, ⟨hk.1.2.1, hk.1.2.2⟩⟩)))⟩; have n4_ : Aside0 (Kd.V (Kd.int .u8) 5 w87 w.heap.size (fun k_ => (P0_ k_ ∨ w.heap.size ≤ k_) ∧ some k_ ≠ (u9 : Value).ownBlock ∧ k_ ≠ gb177) (.slice A172_0 ((rd_T49 l0 x10_1).f0).length c172_0) ((rd_T49 l0 x10_1).f0)) := ⟨(by rw [hw]; exact (by (with_reducible repeat (first | apply Kd.V_alloc | apply Kd.V_drewN | apply Kd.V_drew)); exact Kd.V_mono (Kd.V_far (p := ⟨gb177, 1, none⟩) (Kd.V_mono HL176_0.out (fun k_ hk => (⟨hk, hk.2.2⟩ : _ ∧ k_ ≠ gb177))) (fun _ hk => hk.2) (.slice Ao85 t195.length co85)) (fun _ hk => ⟨hk.1.1, ⟨hk.1.2.1, hk.1.2.2⟩⟩)))⟩; have n5_ : Aside0 (Kd.V (Kd.int .u8) 5 w87 w.heap.size (fun k_ => (P0_ k_ ∨ w.heap.size ≤ k_) ∧ some k_ ≠ (u9 : Value).ownBlock ∧ k_ ≠ gb177) (.slice A172_1 ((rd_T49 l0 x10_1).f1).length c172_1) ((rd_T49 l0 x10_1).f1)) := ⟨(by rw [hw]; exact (by (with_reducible repeat (first | apply Kd.V_alloc | apply Kd.V_drewN | apply Kd.V_drew)); exact Kd.V_mono (Kd.V_far (p := ⟨gb177, 1, none⟩) (Kd.V_mono HL176_1.out (fun k_ hk => (⟨hk, hk.2.2⟩ : _ ∧ k_ ≠ gb177))) (fun _ hk => hk.2) (.slice Ao85 t195.length co85)) (fun _ hk => ⟨hk.1.1, ⟨hk.1.2.1, hk.1.2.2⟩⟩)))⟩; have n6_ : Aside0 (Kd.V (Kd.int .u8) 5 w87 w.heap.size (fun k_ => (P0_ k_ ∨ w.heap.size ≤ k_) ∧ some k_ ≠ (u9 : Value).ownBlock ∧ k_ ≠ gb177) (.slice Ao78 t173.length co78) t173) := ⟨(by rw [hw]; exact (by (with_reducible repeat (first | apply Kd.V_alloc | apply Kd.V_drewN | apply Kd.V_drew)); exact Kd.V_mono (Kd.V_far (p := ⟨gb177, 1, none⟩) (Kd.V_mono HO175.out (fun k_ hk => (⟨hk, hk.2.2⟩ : _ ∧ k_ ≠ gb177))) (fun _ hk => hk.2) (.slice Ao85 t195.length co85)) (fun _ hk => ⟨hk.1.1, ⟨hk.1.2.1, hk.1.2.2⟩⟩)))⟩; have n7_ : Aside0 (Kd.V (Kd.int .u8) 5 w87 w.heap.size (fun k_ => (P0_ k_ ∨ w.heap.size ≤ k_) ∧ some k_ ≠ (u9 : Value).ownBlock ∧ k_ ≠ gb177) (.slice A194_0 ((rd_T49 l0 x10_1).f0).length c194_0) ((rd_T49 l0 x10_1).f0)) := ⟨(by rw [hw]; exact (by (with_reducible repeat (first | apply Kd.V_alloc | apply Kd.V_drewN | apply Kd.V_drew)); exact Kd.V_mono (Kd.V_far (p := ⟨gb177, 1, none⟩) (Kd.V_mono HL194_0.out (fun k_ hk => (⟨hk, hk.2.2⟩ : _ ∧ k_ ≠ gb177))) (fun _ hk => hk.2) (.slice Ao85 t195.length co85)) (fun _ hk => ⟨hk.1.1, ⟨hk.1.2.1, hk.1.2.2⟩⟩)))⟩; have n8_ : Aside0 (Kd.V (Kd.int .u8) 5 w87 w.heap.size (fun k_ => (P0_ k_ ∨ w.heap.size ≤ k_) ∧ some k_ ≠ (u9 : Value).ownBlock ∧ k_ ≠ gb177) (.slice A194_1 ((rd_T49 l0 x10_1).f1).length c194_1) ((rd_T49 l0 x10_1).f1)) := ⟨(by rw [hw]; exact (by (with_reducible repeat (first | apply Kd.V_alloc | apply Kd.V_drewN | apply Kd.V_drew)); exact Kd.V_mono (Kd.V_far (p := ⟨gb177, 1, none⟩) (Kd.V_mono HL194_1.out (fun k_ hk => (⟨hk, hk.2.2⟩ : _ ∧ k_ ≠ gb177))) (fun _ hk => hk.2) (.slice Ao85 t195.length co85)) (fun _ hk => ⟨hk.1.1, ⟨hk.1.2.1, hk.1.2.2⟩⟩)))⟩; have n9_ : Aside0 (Kd.V (Kd.int .u8) 5 w87 w.heap.size (fun k_ => (P0_ k_ ∨ w.heap.size ≤ k_) ∧ some k_ ≠ (u9 : Value).ownBlock ∧ k_ ≠ gb177) (.slice Ao85 t195.length co85) t195) := ⟨(by rw [hw]; exact (by (with_reducible repeat (first | apply Kd.V_alloc | apply Kd.V_drewN | apply Kd.V_drew)); exact Kd.V_mono (Kd.V_far (p := ⟨gb177, 1, none⟩) (Kd.V_mono HO197.out (fun k_ hk => (⟨hk, hk.2.2⟩ : _ ∧ k_ ≠ gb177))) (fun _ hk => hk.2) (.slice Ao85 t195.length co85)) (fun _ hk => ⟨hk.1.1, ⟨hk.1.2.1, hk.1.2.2⟩⟩)))⟩; have n10_ : Aside0 (w87.heap[gb177]? = some (.cells #[.slice Ao78 t173.length co78, .slice Ao85 t195.length co85, .bool false] 49 (0, 0))) := ⟨(by rw [hw]; exact (by (with_reducible repeat (first | refine blk_drewN ?_ _ | refine blk_drew ?_ | refine blk_alloc ?_ _)); refine blk_put (cs := #[.slice Ao78 t173.length co78, .slice none 0 0, .bool false]) ?_ 1 _ rfl; (with_reducible repeat (first | refine blk_drewN ?_ _ | refine blk_drew ?_ | refine blk_alloc ?_ _)); exact BK177.out))⟩; have n11_ : Aside0 (Below w.heap.size w w87) := ⟨(by rw [hw]; exact (belS HB.out))⟩; clear hw; clear HO_0; clear HO_9; clear HL172_0; clear HL172_1; clear HL176_0; clear HL176_1; clear HO175; clear HL194_0; clear HL194_1; clear HO197; clear BK177; clear HB; have HO_0 := n0_; have HO_9 := n1_; have HL172_0 := n2_; have HL172_1 := n3_; have HL176_0 := n4_; have HL176_1 := n5_; have HO175 := n6_; have HL194_0 := n7_; have HL194_1 := n8_; have HO197 := n9_; have BK177 := n10_; have HB := n11_; clear n0_ n1_ n2_ n3_ n4_ n5_ n6_ n7_ n8_ n9_ n10_ n11_; have hcz88_0 : w87.cell? ⟨gb177, 0, none⟩ = some (.slice Ao78 t173.length co78) := (blk_cell BK177.out 0).trans rfl; have hcz88_1 : w87.cell? ⟨gb177, 1, none⟩ = some (.slice Ao85 t195.length co85) := (blk_cell BK177.out 1).trans rfl; have hcz88_2 : w87.cell? ⟨gb177, 2, none⟩ = some (.bool false) := (blk_cell BK177.out 2).trans rfl; have hfz88_0 := blk_frozen BK177.out 0; have hfz88_1 := blk_frozen BK177.out 1; have hfz88_2 := blk_frozen BK177.out 2) | ((with_reducible refine gate_builtin (b := .append) (xs := #[.tmp 53, .tmp 55]) rfl ?_); at_builtin; refine Kd.N_append k49 (w0 := w) w.heap.size rfl (.tmp 53) (.tmp 55) 37 49 (.agg #[(.slice none 0 0), (.slice none 0 0), (.bool false)]) 56 rfl Try.underlying37 info49 rfl (by decide) (by omega) u9 x9_1 (⟨t173, t195, false⟩ : S49) [.slice Ao78 t173.length co78, .slice Ao85 t195.length co85, .bool false] (fun k_ => (P0_ k_ ∨ w.heap.size ≤ k_) ∧ k_ ≠ gb177) (fun k_ => ((fun k_ => (P0_ k_ ∨ w.heap.size ≤ k_) ∧ k_ ≠ gb177)) k_ ∧ some k_ ≠ (u9 : Value).ownBlock) rfl rfl ?aP (fun _ hk => hk) ?aF ?aO ?aB ?aS ?aL ?_; (case aP => exact (k49_mkF _ _ (⟨t173, t195, false⟩ : S49) (Kd.V_reads' (Kd.V_mono (ok' := (fun k_ => ((fun k_ => (P0_ k_ ∨ w.heap.size ≤ k_) ∧ k_ ≠ gb177)) k_ ∧ some k_ ≠ (u9 : Value).ownBlock)) (HO175.out) (fun k_ hk => ⟨⟨hk.1, hk.2.2⟩, hk.2.1⟩))).2.1 (Kd.V_F (Kd.V_mono (ok' := (fun k_ => ((fun k_ => (P0_ k_ ∨ w.heap.size ≤ k_) ∧ k_ ≠ gb177)) k_ ∧ some k_ ≠ (u9 : Value).ownBlock)) (HO175.out) (fun k_ hk => ⟨⟨hk.1, hk.2.2⟩, hk.2.1⟩))) (Kd.V_reads' (Kd.V_mono (ok' := (fun k_ => ((fun k_ => (P0_ k_ ∨ w.heap.size ≤ k_) ∧ k_ ≠ gb177)) k_ ∧ some k_ ≠ (u9 : Value).ownBlock)) (HO197.out) (fun k_ hk => ⟨⟨hk.1, hk.2.2⟩, hk.2.1⟩))).2.1 (Kd.V_F (Kd.V_mono (ok' := (fun k_ => ((fun k_ => (P0_ k_ ∨ w.heap.size ≤ k_) ∧ k_ ≠ gb177)) k_ ∧ some k_ ≠ (u9 : Value).ownBlock)) (HO197.out) (fun k_ hk => ⟨⟨hk.1, hk.2.2⟩, hk.2.1⟩))))); (case aB => exact (belS HB.out)); (case aF => exact (fun k_ hk => ⟨(.inr (Nat.le_trans (below_size (belS HB.out)) hk)), Kd.freshB (g := gb177) (o := .cells #[.slice Ao78 t173.length co78, .slice Ao85 t195.length co85, .bool false] 49 (0, 0)) (blkN BK177.out) k_ hk⟩)); (case aO => exact (by (with_reducible repeat (first | apply Kd.N_alloc | apply Kd.N_drewN | apply Kd.N_drew)); exact HO_9.out)); (case aS => exact (below_size (belS HB.out))); (case aL => have := LMc72.out; omega); intro v199 w89 ho hb hg hat; rw [← Ny198.out] at ho; have n0_ := Aside0.mk (Kd.V_afterv (ok := (fun k_ => (P0_ k_ ∨ w.heap.size ≤ k_) ∧ k_ ≠ gb177)) (by (with_reducible repeat (first | apply Kd.V_alloc | apply Kd.V_drewN | apply Kd.V_drew)); exact Kd.V_mono HO_0.out (fun _ hk => ⟨⟨hk.1, hk.2.2⟩, hk.2.1⟩)) hg hat); have n1_ := Aside0.mk (Kd.V_afterv (ok := (fun k_ => (P0_ k_ ∨ w.heap.size ≤ k_) ∧ k_ ≠ gb177)) (by (with_reducible repeat (first | apply Kd.V_alloc | apply Kd.V_drewN | apply Kd.V_drew)); exact Kd.V_mono HL172_0.out (fun _ hk => ⟨⟨hk.1, hk.2.2⟩, hk.2.1⟩)) hg hat); have n2_ := Aside0.mk (Kd.V_afterv (ok := (fun k_ => (P0_ k_ ∨ w.heap.size ≤ k_) ∧ k_ ≠ gb177)) (by (with_reducible repeat (first | apply Kd.V_alloc | apply Kd.V_drewN | apply Kd.V_drew)); exact Kd.V_mono HL172_1.out (fun _ hk => ⟨⟨hk.1, hk.2.2⟩, hk.2.1⟩)) hg hat); have n3_ := Aside0.mk (Kd.V_afterv (ok := (fun k_ => (P0_ k_ ∨ w.heap.size ≤ k_) ∧ k_ ≠ gb177)) (by (with_reducible repeat (first | apply Kd.V_alloc | apply Kd.V_drewN | apply Kd.V_drew)); exact Kd.V_mono HL176_0.out (fun _ hk => ⟨⟨hk.1, hk.2.2⟩, hk.2.1⟩)) hg hat); have n4_ := Aside0.mk (Kd.V_afterv (ok := (fun k_ => (P0_ k_ ∨ w.heap.size ≤ k_) ∧ k_ ≠ gb177)) (by (with_reducible repeat (first | apply Kd.V_alloc | apply Kd.V_drewN | apply Kd.V_drew)); exact Kd.V_mono HL176_1.out (fun _ hk => ⟨⟨hk.1, hk.2.2⟩, hk.2.1⟩)) hg hat); have n5_ := Aside0.mk (Kd.V_afterv (ok := (fun k_ => (P0_ k_ ∨ w.heap.size ≤ k_) ∧ k_ ≠ gb177)) (by (with_reducible repeat (first | apply Kd.V_alloc | apply Kd.V_drewN | apply Kd.V_drew)); exact Kd.V_mono HO175.out (fun _ hk => ⟨⟨hk.1, hk.2.2⟩, hk.2.1⟩)) hg hat); have n6_ := Aside0.mk (blk_grown (g := gb177) (o := .cells #[.slice Ao78 t173.length co78, .slice Ao85 t195.length co85, .bool false] 49 (0, 0)) (blkN BK177.out) hg (Kd.N_away HO_9.out (fun _ hk => hk.2))); have n7_ := Aside0.mk (Kd.V_afterv (ok := (fun k_ => (P0_ k_ ∨ w.heap.size ≤ k_) ∧ k_ ≠ gb177)) (by (with_reducible repeat (first | apply Kd.V_alloc | apply Kd.V_drewN | apply Kd.V_drew)); exact Kd.V_mono HL194_0.out (fun _ hk => ⟨⟨hk.1, hk.2.2⟩, hk.2.1⟩)) hg hat); have n8_ := Aside0.mk (Kd.V_afterv (ok := (fun k_ => (P0_ k_ ∨ w.heap.size ≤ k_) ∧ k_ ≠ gb177)) (by (with_reducible repeat (first | apply Kd.V_alloc | apply Kd.V_drewN | apply Kd.V_drew)); exact Kd.V_mono HL194_1.out (fun _ hk => ⟨⟨hk.1, hk.2.2⟩, hk.2.1⟩)) hg hat); have n9_ := Aside0.mk (Kd.V_afterv (ok := (fun k_ => (P0_ k_ ∨ w.heap.size ≤ k_) ∧ k_ ≠ gb177)) (by (with_reducible repeat (first | apply Kd.V_alloc | apply Kd.V_drewN | apply Kd.V_drew)); exact Kd.V_mono HO197.out (fun _ hk => ⟨⟨hk.1, hk.2.2⟩, hk.2.1⟩)) hg hat); have n10_ := Aside0.mk (hb); have n11_ := Aside0.mk (ho); clear HO_0; clear HL172_0; clear HL172_1; clear HL176_0; clear HL176_1; clear HO175; clear BK177; clear HL194_0; clear HL194_1; clear HO197; clear HB; clear HO_9; have HO_0 := n0_; have HL172_0 := n1_; have HL172_1 := n2_; have HL176_0 := n3_; have HL176_1 := n4_; have HO175 := n5_; have BK177 := n6_; have HL194_0 := n7_; have HL194_1 := n8_; have HO197 := n9_; have HB := n10_; have HO200 := n11_; clear n0_ n1_ n2_ n3_ n4_ n5_ n6_ n7_ n8_ n9_ n10_ n11_; clear ho hb hg hat))
           go_roundg kj4
           case measure => have := HK1.out; have := HJ4.out; omega
           case rel => exact ⟨(y198), (wrap64 (x10_1 + 1)), (by first | rfl | (simp; done) | (simp [*]; done)), H', ⟨by have := HK1.out; have := HJ4.out; omega⟩, ⟨by (with_reducible repeat (first | apply Kd.V_alloc | apply Kd.V_drewN | apply Kd.V_drew)); exact Kd.V_mono HO_0.out (fun _ hk => ⟨hk.1.1, hk.2⟩)⟩, ⟨by (with_reducible repeat (first | apply Kd.N_alloc | apply Kd.N_drewN | apply Kd.N_drew)); exact Kd.N_mono HO200.out (fun _ hk => hk.1)⟩, ⟨(belS HB.out)⟩⟩
          ·rw [if_neg c72] at H
           exact absurd H (by simp)
       ·rw [if_neg c9] at H
        exact absurd H (by simp)
      ·rw [if_neg c8] at H
       exact absurd H (by simp)
     ·replace c7 := Bool.eq_false_iff.mpr c7
      subst c7
      have H1 : (some x9_1) = some r := by rw [if_neg (show ¬ (false = true) by decide)] at H; exact H
      clear H
      have H := H1
      clear H1
      obtain rfl := Option.some.inj H
      go_wp2
      go_ret
      exact ⟨_, by first | rfl | (simp [errW_none, errW_some] <;> rfl) | (simp [*, errW_none, errW_some] <;> rfl), by (with_reducible repeat (first | apply Kd.N_alloc | apply Kd.N_drewN | apply Kd.N_drew)); exact HO_9.out, (belN HB.out)⟩

end Go.Proofs.Ytmimfnangdabmaa.PFrameBack

/- The walk of the Go functions that a law reaches, told as plain functions; a program of this session has written it. No condition beyond the statement's own. -/
import Derived.Test.YtpcomhliikmjkaaPBlockTellsx0
import Derived.Test.YtpcomhliikmjkaaPBlockTellsx1
namespace Go.Proofs.Ytpcomhliikmjkaa.PBlockTells
open Go.RowKit Go.Proofs.YtpcomhliikmjkaaW.PrintWords Go.Proofs.YtpcomhliikmjkaaW.PrintLast Go.Proofs.YtpcomhliikmjkaaW.PrintMore
attribute [local go_sem] max2_int min2_int max_two min_two max_three min_three max_four min_four   -- for this text's walks alone
set_option linter.unusedVariables false
set_option linter.unusedSimpArgs false

/-- A shared row that has an element lies in a block of its own footprint: in a world without that block it could not be read. -/
theorem V_blk {α : Type} {d : Kd α} {e base n c : Nat} {ok : Nat → Prop} {W : World} {ad : Addr} {g : Nat} {xs : List α} (h : Kd.V d e W base ok (.slice (some ad) n c) xs) (z : α) (hz : 0 < d.sz) (hn : 0 < n) (hok : ∀ k, ok k → k ≠ g) : ad.block ≠ g := by
  rintro rfl
  have hC : Kd.C d { W with heap := W.heap.setIfInBounds ad.block (.cells #[] 0 (0, 0)) } (some ad) n xs := Kd.V_F h _ (fun k hk _ => Array.getElem?_setIfInBounds_ne (Ne.symm (hok k hk)))
  obtain ⟨ad', cs, he, hl, _, hc⟩ := Kd.C_get hC z 0 (by omega) (by omega)
  injection he with he
  subst he
  cases cs with
  | nil => simp at hl; omega
  | cons u l =>
   have hu := hc 0 u rfl
   by_cases hb : ad.block < W.heap.size
   · simp [World.cell?, add_block, Array.getElem?_setIfInBounds, hb] at hu
   · simp [World.cell?, add_block, Array.getElem?_setIfInBounds, hb] at hu
theorem far3 {W : World} {g i j k : Nat} {u v z : Value} {a : Addr} (h : a.block ≠ g) : (((W.setCell ⟨g, i, none⟩ u).setCell ⟨g, j, none⟩ v).setCell ⟨g, k, none⟩ z).cell? a = W.cell? a := (cell_far (p := ⟨g, k, none⟩) h z).trans ((cell_far (p := ⟨g, j, none⟩) h v).trans (cell_far (p := ⟨g, i, none⟩) h u))
/-! ### marigraphkeep_Entries: function 11 -/
mutual
def marigraphkeep_Entries.l0 : Nat → List (S34) → Int → Int → Int → List (S34) → Int → Option ((List (S34)))
 | 0, _, _, _, _, _, _ => none
 | k + 1, x0, x1, x2, x3, x9, x10 => if x10 < (x0.length : Int) then (marigraphkeep_Entries.j1 k x0 x1 x2 x3 x9 x10 (decide (x10 < x1))) else (marigraphkeep_Entries.j1 k x0 x1 x2 x3 x9 x10 false)
def marigraphkeep_Entries.j1 : Nat → List (S34) → Int → Int → Int → List (S34) → Int → Bool → Option ((List (S34)))
 | 0, _, _, _, _, _, _, _ => none
 | k + 1, x0, x1, x2, x3, x9, x10, x20 => if x20 = true then (if 0 ≤ x10 then (if x10 < (x0.length : Int) then ((marigraphkeep_Cut.f ((rd_T34 x0 x10).f0) x2).bind fun t107 => (if (t107.length : Int) = 0 then ((some (([107] : List Int) : List Int)).bind fun y112 => (if ((rd_T34 x0 x10).f2 = true) then (if x9.length < 2513169434916 then (marigraphkeep_Entries.l0 k x0 x1 x2 x3 (x9 ++ [(⟨y112, ([] : List Int), (rd_T34 x0 x10).f2⟩ : S34)]) (wrap64 (x10 + 1))) else (none)) else ((marigraphkeep_Cut.f ((rd_T34 x0 x10).f1) x3).bind fun t119 => (if x9.length < 2513169434916 then (marigraphkeep_Entries.l0 k x0 x1 x2 x3 (x9 ++ [(⟨y112, t119, (rd_T34 x0 x10).f2⟩ : S34)]) (wrap64 (x10 + 1))) else (none))))) else (if ((rd_T34 x0 x10).f2 = true) then (if x9.length < 2513169434916 then (marigraphkeep_Entries.l0 k x0 x1 x2 x3 (x9 ++ [(⟨t107, ([] : List Int), (rd_T34 x0 x10).f2⟩ : S34)]) (wrap64 (x10 + 1))) else (none)) else ((marigraphkeep_Cut.f ((rd_T34 x0 x10).f1) x3).bind fun t129 => (if x9.length < 2513169434916 then (marigraphkeep_Entries.l0 k x0 x1 x2 x3 (x9 ++ [(⟨t107, t129, (rd_T34 x0 x10).f2⟩ : S34)]) (wrap64 (x10 + 1))) else (none)))))) else (none)) else (none)) else (some x9)
end
def marigraphkeep_Entries.f (k : Nat) (l0 : List (S34)) (a1 : Int) (a2 : Int) (a3 : Int) : Option ((List (S34))) := marigraphkeep_Entries.l0 k l0 a1 a2 a3 ([] : List (S34)) 0
theorem marigraphkeep_Entries.mono_l : ∀ k, (∀ y0 y1 y2 y3 y4 y5, LeO (marigraphkeep_Entries.l0 k y0 y1 y2 y3 y4 y5) (marigraphkeep_Entries.l0 (k + 1) y0 y1 y2 y3 y4 y5)) ∧ (∀ y0 y1 y2 y3 y4 y5 y6, LeO (marigraphkeep_Entries.j1 k y0 y1 y2 y3 y4 y5 y6) (marigraphkeep_Entries.j1 (k + 1) y0 y1 y2 y3 y4 y5 y6))
 | 0 => ⟨fun _ _ _ _ _ _ r h => by simp [marigraphkeep_Entries.l0] at h, fun _ _ _ _ _ _ _ r h => by simp [marigraphkeep_Entries.j1] at h⟩
 | k + 1 => by
  obtain ⟨ih0, ih1⟩ := marigraphkeep_Entries.mono_l k
  refine ⟨?_, ?_⟩
  ·intro y0 y1 y2 y3 y4 y5
   unfold marigraphkeep_Entries.l0
   repeat' first
   | (with_reducible exact ih0 _ _ _ _ _ _)
   | (with_reducible exact ih1 _ _ _ _ _ _ _)
   | (with_reducible exact LeO.refl _)
   | (with_reducible exact LeO.none _)
   | (with_reducible refine LeO.ite ?_ ?_)
   | (with_reducible refine LeO.bind ?_ (fun _ => ?_))
   | exact ih0 _ _ _ _ _ _
   | exact ih1 _ _ _ _ _ _ _
   | exact LeO.none _
   | refine LeO.ite ?_ ?_
   | refine LeO.bind ?_ (fun _ => ?_)
  ·intro y0 y1 y2 y3 y4 y5 y6
   unfold marigraphkeep_Entries.j1
   repeat' first
   | (with_reducible exact ih0 _ _ _ _ _ _)
   | (with_reducible exact ih1 _ _ _ _ _ _ _)
   | (with_reducible exact LeO.refl _)
   | (with_reducible exact LeO.none _)
   | (with_reducible refine LeO.ite ?_ ?_)
   | (with_reducible refine LeO.bind ?_ (fun _ => ?_))
   | exact ih0 _ _ _ _ _ _
   | exact ih1 _ _ _ _ _ _ _
   | exact LeO.none _
   | refine LeO.ite ?_ ?_
   | refine LeO.bind ?_ (fun _ => ?_)
theorem marigraphkeep_Entries.mono : ∀ a0 a1 a2 a3 k, LeO (marigraphkeep_Entries.f k a0 a1 a2 a3) (marigraphkeep_Entries.f (k + 1) a0 a1 a2 a3) := by
 intro a0 a1 a2 a3 k
 obtain ⟨ih0, ih1⟩ := marigraphkeep_Entries.mono_l k
 unfold marigraphkeep_Entries.f
 repeat' first
   | (with_reducible exact ih0 _ _ _ _ _ _)
   | (with_reducible exact ih1 _ _ _ _ _ _ _)
   | (with_reducible exact LeO.refl _)
   | (with_reducible exact LeO.none _)
   | (with_reducible refine LeO.ite ?_ ?_)
   | (with_reducible refine LeO.bind ?_ (fun _ => ?_))
   | exact ih0 _ _ _ _ _ _
   | exact ih1 _ _ _ _ _ _ _
   | exact LeO.none _
   | refine LeO.ite ?_ ?_
   | refine LeO.bind ?_ (fun _ => ?_)
def marigraphkeep_Entries.T5 : Bool × List (List Nat × List Nat) := (true, [([], []), ([], []), ([0, 1], [0, 1]), ([2], [2]), ([3], [3]), ([], []), ([4, 5], [4, 5]), ([], []), ([], []), ([7, 8], [7, 8]), ([9], [9]), ([10], [10]), ([6, 11], [6, 11]), ([], []), ([13, 12, 6, 0, 1, 2, 3, 4, 5, 6, 7, 8, 9, 10, 11, 12, 13], [12, 13])])
def marigraphkeep_Entries.B5 : List Nat := [0, 0, 3, 7, 15, 0, 63, 0, 0, 384, 896, 1920, 4095, 0, 16383]
theorem marigraphkeep_Entries.tab5 : rtab .any (opsOf Try.f11 5) = marigraphkeep_Entries.T5 := by kernel_rfl
theorem marigraphkeep_Entries.bits5 : waitsOk marigraphkeep_Entries.T5.2 marigraphkeep_Entries.B5 = true := by kernel_rfl
set_option maxHeartbeats 8000000 in
set_option maxRecDepth 100000 in
theorem marigraphkeep_Entries.calls (k : Nat) (P0_ : Nat → Prop) (A0 : Option Addr) (c0 : Nat) (l0 : List (S34)) (a1 : Int) (a2 : Int) (a3 : Int) (r : List (S34)) (w : World) (hs0 : Kd.V k34 34 w w.heap.size (fun k_ => P0_ k_) (.slice A0 l0.length c0) l0) (h : marigraphkeep_Entries.f k l0 a1 a2 a3 = some r) :
  Calls Try.prog 11 #[.slice A0 l0.length c0, .int .i64 a1, .int .i64 a2, .int .i64 a3] w fun e w' => ∃ v0_ : Value, e = .returned (v0_) ∧ Kd.N k34 34 w' w.heap.size (fun k_ => (P0_ k_ ∨ w.heap.size ≤ k_)) v0_ r ∧ Below w.heap.size w w' := by
 have hu34 := Try.underlying34
 have HO0 := Aside0.mk (show Kd.V k34 34 w w.heap.size (fun k_ => (P0_ k_ ∨ w.heap.size ≤ k_)) (.slice A0 l0.length c0) l0 from Kd.V_mono hs0 (fun k_ hk => .inl hk))
 have HB := Aside0.mk (Below.refl w.heap.size w)
 have H : (marigraphkeep_Entries.l0 k l0 a1 a2 a3 ([] : List (S34)) 0) = some r := h
 clear h
 have H' := Aside0.mk H
 clear H
 go_enter Try.func11, Try.ntmps11
 go_wp2
 go_loopg [9, 10] k (fun kq v9 v10 w' => ∃ (x9_1 : List (S34)) (x10_1 : Int), v10 = .int .i64 x10_1 ∧ Aside0 (marigraphkeep_Entries.l0 kq l0 a1 a2 a3 x9_1 x10_1 = some r) ∧ Aside0 (kq ≤ k) ∧ Aside0 (Kd.V k34 34 w' w.heap.size (fun k_ => (P0_ k_ ∨ w.heap.size ≤ k_) ∧ some k_ ≠ (v9 : Value).ownBlock) (.slice A0 l0.length c0) l0) ∧ Aside0 (Kd.N k34 34 w' w.heap.size (fun k_ => (P0_ k_ ∨ w.heap.size ≤ k_)) v9 x9_1) ∧ Aside0 (Below w.heap.size w w'))
 case atStart => exact ⟨(([] : List (S34))), (0), (by first | rfl | (simp; done) | (simp [*]; done)), H', ⟨Nat.le_refl _⟩, ⟨by (with_reducible repeat (first | apply Kd.V_alloc | apply Kd.V_drewN | apply Kd.V_drew)); exact Kd.V_mono HO0.out (fun _ hk => ⟨hk, (by simp [Value.ownBlock])⟩)⟩, ⟨by first | exact Kd.S_nil _ _ _ _ _ | exact Kd.N_nil _ _ _ _ _ | exact Kd.V_nil _ _ _ _ _ | exact Kd.Q_nil _ _ _ _ _ | exact Kd.R_nil _ _ _ _ _⟩, ⟨(belN HB.out)⟩⟩
 case round =>
  clear H'
  try clear c1
  try clear p2
  obtain ⟨x9_1, x10_1, rfl, HA, HK1, HO_0, HO_9, HB⟩ := hrel
  cases gk with
  | zero => exact absurd HA.out (by simp [marigraphkeep_Entries.l0])
  | succ k1 =>
   have H := HA.out
   clear HA
   simp only [marigraphkeep_Entries.l0] at H
   have HC5 := Aside0.mk H
   clear H
   go_upto_region 3 with (fail)
   go_cut [20] (fun v20 wc => ∃ (kq : Nat) (x20_4 : Bool), v20 = .bool x20_4 ∧ Aside0 (marigraphkeep_Entries.j1 kq l0 a1 a2 a3 x9_1 x10_1 x20_4 = some r) ∧ Aside0 (kq ≤ k1) ∧ Aside0 (Kd.V k34 34 wc w.heap.size (fun k_ => (P0_ k_ ∨ w.heap.size ≤ k_) ∧ some k_ ≠ (u9 : Value).ownBlock) (.slice A0 l0.length c0) l0) ∧ Aside0 (Kd.N k34 34 wc w.heap.size (fun k_ => (P0_ k_ ∨ w.heap.size ≤ k_)) u9 x9_1) ∧ Aside0 (Below w.heap.size w wc))
   case first =>
    have H := HC5.out
    clear HC5
    by_cases c6 : x10_1 < (l0.length : Int)
    ·rw [if_pos c6] at H
     have c6b0 : decide (x10_1 < (l0.length : Int)) = true := decide_eq_true c6
     clear c6
     (first | rw [c6b0] | rw [c6b1] | (simp only [i64_w, i32_w]; rw [c6b0]) | skip)
     have H' := Aside0.mk H
     clear H
     go_wp2
     go_meet
     case rel => exact ⟨_, (decide (x10_1 < a1)), (by first | rfl | (simp; done) | (simp [*]; done)), H', ⟨by have := HK1.out; first | omega | exact Nat.le_refl _⟩, ⟨by (with_reducible repeat (first | apply Kd.V_alloc | apply Kd.V_drewN | apply Kd.V_drew)); exact HO_0.out⟩, ⟨by (with_reducible repeat (first | apply Kd.N_alloc | apply Kd.N_drewN | apply Kd.N_drew)); exact HO_9.out⟩, ⟨(belN HB.out)⟩⟩
    ·rw [if_neg c6] at H
     have c6b0 : decide (x10_1 < (l0.length : Int)) = false := decide_eq_false c6
     clear c6
     (first | rw [c6b0] | rw [c6b1] | (simp only [i64_w, i32_w]; rw [c6b0]) | skip)
     have H' := Aside0.mk H
     clear H
     go_wp2
     go_meet
     case rel => exact ⟨_, (false), (by first | rfl | (simp; done) | (simp [*]; done)), H', ⟨by have := HK1.out; first | omega | exact Nat.le_refl _⟩, ⟨by (with_reducible repeat (first | apply Kd.V_alloc | apply Kd.V_drewN | apply Kd.V_drew)); exact HO_0.out⟩, ⟨by (with_reducible repeat (first | apply Kd.N_alloc | apply Kd.N_drewN | apply Kd.N_drew)); exact HO_9.out⟩, ⟨(belN HB.out)⟩⟩
   case rest =>
    clear HC5
    try clear c1
    try clear p2
    try clear c6
    try clear c6b0
    try clear p2
    obtain ⟨kq, x20_4, rfl, HA, HJ4, HO_0, HO_9, HB⟩ := hcut
    cases kq with
    | zero => exact absurd HA.out (by simp [marigraphkeep_Entries.j1])
    | succ kj4 =>
     have H := HA.out
     clear HA
     simp only [marigraphkeep_Entries.j1] at H
     by_cases c7 : x20_4 = true
     ·subst c7
      have H1 : (if 0 ≤ x10_1 then (if x10_1 < (l0.length : Int) then ((marigraphkeep_Cut.f ((rd_T34 l0 x10_1).f0) a2).bind fun t107 => (if (t107.length : Int) = 0 then ((some (([107] : List Int) : List Int)).bind fun y112 => (if ((rd_T34 l0 x10_1).f2 = true) then (if x9_1.length < 2513169434916 then (marigraphkeep_Entries.l0 kj4 l0 a1 a2 a3 (x9_1 ++ [(⟨y112, ([] : List Int), (rd_T34 l0 x10_1).f2⟩ : S34)]) (wrap64 (x10_1 + 1))) else (none)) else ((marigraphkeep_Cut.f ((rd_T34 l0 x10_1).f1) a3).bind fun t119 => (if x9_1.length < 2513169434916 then (marigraphkeep_Entries.l0 kj4 l0 a1 a2 a3 (x9_1 ++ [(⟨y112, t119, (rd_T34 l0 x10_1).f2⟩ : S34)]) (wrap64 (x10_1 + 1))) else (none))))) else (if ((rd_T34 l0 x10_1).f2 = true) then (if x9_1.length < 2513169434916 then (marigraphkeep_Entries.l0 kj4 l0 a1 a2 a3 (x9_1 ++ [(⟨t107, ([] : List Int), (rd_T34 l0 x10_1).f2⟩ : S34)]) (wrap64 (x10_1 + 1))) else (none)) else ((marigraphkeep_Cut.f ((rd_T34 l0 x10_1).f1) a3).bind fun t129 => (if x9_1.length < 2513169434916 then (marigraphkeep_Entries.l0 kj4 l0 a1 a2 a3 (x9_1 ++ [(⟨t107, t129, (rd_T34 l0 x10_1).f2⟩ : S34)]) (wrap64 (x10_1 + 1))) else (none)))))) else (none)) else (none)) = some r := by rw [if_pos rfl] at H; exact H
      clear H
      have H := H1
      clear H1
      by_cases c8 : 0 ≤ x10_1
      ·rw [if_pos c8] at H
       have c8b0 : decide (0 ≤ x10_1) = true := decide_eq_true c8
       clear c8
       by_cases c9 : x10_1 < (l0.length : Int)
       ·rw [if_pos c9] at H
        have c9b0 : decide (x10_1 < (l0.length : Int)) = true := decide_eq_true c9
        clear c9
        replace H := Option.bind_eq_some_iff.mp H
        obtain ⟨t107, A100, H⟩ := H
        replace H : (if (t107.length : Int) = 0 then ((some (([107] : List Int) : List Int)).bind fun y112 => (if ((rd_T34 l0 x10_1).f2 = true) then (if x9_1.length < 2513169434916 then (marigraphkeep_Entries.l0 kj4 l0 a1 a2 a3 (x9_1 ++ [(⟨y112, ([] : List Int), (rd_T34 l0 x10_1).f2⟩ : S34)]) (wrap64 (x10_1 + 1))) else (none)) else ((marigraphkeep_Cut.f ((rd_T34 l0 x10_1).f1) a3).bind fun t119 => (if x9_1.length < 2513169434916 then (marigraphkeep_Entries.l0 kj4 l0 a1 a2 a3 (x9_1 ++ [(⟨y112, t119, (rd_T34 l0 x10_1).f2⟩ : S34)]) (wrap64 (x10_1 + 1))) else (none))))) else (if ((rd_T34 l0 x10_1).f2 = true) then (if x9_1.length < 2513169434916 then (marigraphkeep_Entries.l0 kj4 l0 a1 a2 a3 (x9_1 ++ [(⟨t107, ([] : List Int), (rd_T34 l0 x10_1).f2⟩ : S34)]) (wrap64 (x10_1 + 1))) else (none)) else ((marigraphkeep_Cut.f ((rd_T34 l0 x10_1).f1) a3).bind fun t129 => (if x9_1.length < 2513169434916 then (marigraphkeep_Entries.l0 kj4 l0 a1 a2 a3 (x9_1 ++ [(⟨t107, t129, (rd_T34 l0 x10_1).f2⟩ : S34)]) (wrap64 (x10_1 + 1))) else (none))))) = some r := H
        have A10 := Aside0.mk A100
        clear A100
        by_cases c11 : (t107.length : Int) = 0
        ·rw [if_pos c11] at H
         have c11b0 : ((t107.length : Int) == 0) = true := beq_iff_eq.mpr c11
         have c11b1 : ((t107.length : Int) != 0) = false := bne_eq_false_iff_eq.mpr c11
         clear c11
         obtain ⟨y112, hy112⟩ : ∃ y_ : List Int, y_ = (([107] : List Int)) := ⟨_, rfl⟩
         replace H : (if ((rd_T34 l0 x10_1).f2 = true) then (if x9_1.length < 2513169434916 then (marigraphkeep_Entries.l0 kj4 l0 a1 a2 a3 (x9_1 ++ [(⟨y112, ([] : List Int), (rd_T34 l0 x10_1).f2⟩ : S34)]) (wrap64 (x10_1 + 1))) else (none)) else ((marigraphkeep_Cut.f ((rd_T34 l0 x10_1).f1) a3).bind fun t119 => (if x9_1.length < 2513169434916 then (marigraphkeep_Entries.l0 kj4 l0 a1 a2 a3 (x9_1 ++ [(⟨y112, t119, (rd_T34 l0 x10_1).f2⟩ : S34)]) (wrap64 (x10_1 + 1))) else (none)))) = some r := by first | (rw [hy112]; with_reducible exact H) | (have H2_ := (Option.bind_some _ _).symm.trans H; rw [hy112]; with_reducible exact H2_) | (have H2_ := (Option.bind_some _ _).symm.trans H; with_reducible exact H2_) | with_reducible exact H | (rw [hy112]; exact H) | exact H
         have Ny112 := Aside0.mk hy112
         clear hy112
         obtain ⟨bq12, hbq12⟩ : ∃ b_ : Bool, b_ = ((rd_T34 l0 x10_1).f2) := ⟨_, rfl⟩
         replace H : (if (bq12 = true) then (if x9_1.length < 2513169434916 then (marigraphkeep_Entries.l0 kj4 l0 a1 a2 a3 (x9_1 ++ [(⟨y112, ([] : List Int), bq12⟩ : S34)]) (wrap64 (x10_1 + 1))) else (none)) else ((marigraphkeep_Cut.f ((rd_T34 l0 x10_1).f1) a3).bind fun t119 => (if x9_1.length < 2513169434916 then (marigraphkeep_Entries.l0 kj4 l0 a1 a2 a3 (x9_1 ++ [(⟨y112, t119, bq12⟩ : S34)]) (wrap64 (x10_1 + 1))) else (none)))) = some r := by rw [← hbq12] at H; exact H
         have Nbq12 := Aside0.mk hbq12
         clear hbq12
         by_cases c13 : (bq12 = true)
         ·subst c13
          have H1 : (if x9_1.length < 2513169434916 then (marigraphkeep_Entries.l0 kj4 l0 a1 a2 a3 (x9_1 ++ [(⟨y112, ([] : List Int), true⟩ : S34)]) (wrap64 (x10_1 + 1))) else (none)) = some r := by rw [if_pos rfl] at H; exact H
          clear H
          have H := H1
          clear H1
          by_cases c14 : x9_1.length < 2513169434916
          ·rw [if_pos c14] at H
           have LMc14 := Aside0.mk c14
           clear c14
           obtain ⟨y115, hy115⟩ : ∃ y_ : List (S34), y_ = (x9_1 ++ [(⟨y112, ([] : List Int), true⟩ : S34)]) := ⟨_, rfl⟩
           replace H : (marigraphkeep_Entries.l0 kj4 l0 a1 a2 a3 y115 (wrap64 (x10_1 + 1))) = some r := by first | (rw [hy115]; with_reducible exact H) | (have H2_ := (Option.bind_some _ _).symm.trans H; rw [hy115]; with_reducible exact H2_) | (have H2_ := (Option.bind_some _ _).symm.trans H; with_reducible exact H2_) | with_reducible exact H | (rw [hy115]; exact H) | exact H
           have Ny115 := Aside0.mk hy115
           clear hy115
           have H' := Aside0.mk H
           clear H
           try go_wp2
           have n0_ := Aside0.mk (Kd.V_drew HO_0.out)
           have n1_ := Aside0.mk (Kd.N_drew HO_9.out)
           have n2_ := Aside0.mk (below_drew1 HB.out)
           clear HO_0
           clear HO_9
           clear HB
           have HO_0 := n0_
           have HO_9 := n1_
           have HB := n2_
           clear n0_ n1_ n2_
           have p106 : 0 ≤ (x10_1 : Int) := of_decide_eq_true (by first | (with_reducible assumption) | assumption)
           have q106 : x10_1 < (l0.length : Int) := of_decide_eq_true (by first | (with_reducible assumption) | assumption)
           obtain ⟨ad106, A106_0, c106_0, A106_1, c106_1, e106, hx106_0, hx106_1, hx106_2, hl106_0, hi106_0, hl106_1, hi106_1⟩ := at_T34 (Kd.V_reads' HO_0.out).2.2 x10_1 p106 q106
           (try rw [← Nbq12.out] at hx106_2)
           cases e106
           obtain ⟨ce106, hce106, hMe106, hcc106⟩ := Kd.V_get HO_0.out z34 x10_1 p106 (by first | exact q106 | exact of_decide_eq_true (by first | (with_reducible assumption) | assumption) | (have e_ := (Kd.V_reads' HO_0.out).1; omega))
           obtain ⟨ua106_0, uc106_0, ua106_1, uc106_1, rfl, ul106_0, ge106_0, ul106_1, ge106_1⟩ := k34_openF hMe106
           have hv106_0 := hcc106 0 _ rfl
           rw [Nat.add_zero] at hv106_0
           replace hv106_0 := Option.some.inj (hv106_0.symm.trans hx106_0)
           injection hv106_0 with hva_ hvn_ hvc_
           rw [hva_] at ge106_0
           rw [hvc_] at ul106_0
           have HL106_0 := Aside0.mk (show Kd.V (Kd.int .u8) 5 _ w.heap.size _ _ ((rd_T34 l0 x10_1).f0) from Kd.V_mk ul106_0 ge106_0)
           clear hva_ hvn_ hvc_ ge106_0 ul106_0
           have hv106_1 := hcc106 1 _ rfl
           rw [add_field _ _ 1 (by omega)] at hv106_1
           replace hv106_1 := Option.some.inj (hv106_1.symm.trans hx106_1)
           injection hv106_1 with hva_ hvn_ hvc_
           rw [hva_] at ge106_1
           rw [hvc_] at ul106_1
           have HL106_1 := Aside0.mk (show Kd.V (Kd.int .u8) 5 _ w.heap.size _ _ ((rd_T34 l0 x10_1).f1) from Kd.V_mk ul106_1 ge106_1)
           clear hva_ hvn_ hvc_ ge106_1 ul106_1
           clear hcc106 hce106
           have HR106_0 := Aside0.mk hi106_0
           have HC106_0 := Aside0.mk hl106_0
           clear hi106_0 hl106_0
           have HR106_1 := Aside0.mk hi106_1
           have HC106_1 := Aside0.mk hl106_1
           clear hi106_1 hl106_1
           replace p106 := eq_true p106
           replace q106 := eq_true q106
           have p110 : 0 ≤ (x10_1 : Int) := of_decide_eq_true (by first | (with_reducible assumption) | assumption)
           have q110 : x10_1 < (l0.length : Int) := of_decide_eq_true (by first | (with_reducible assumption) | assumption)
           obtain ⟨ad110, A110_0, c110_0, A110_1, c110_1, e110, hx110_0, hx110_1, hx110_2, hl110_0, hi110_0, hl110_1, hi110_1⟩ := at_T34 (Kd.V_reads' HO_0.out).2.2 x10_1 p110 q110
           (try rw [← Nbq12.out] at hx110_2)
           obtain rfl : ad106 = ad110 := (by injection e110)
           obtain ⟨ce110, hce110, hMe110, hcc110⟩ := Kd.V_get HO_0.out z34 x10_1 p110 (by first | exact q110 | exact of_decide_eq_true (by first | (with_reducible assumption) | assumption) | (have e_ := (Kd.V_reads' HO_0.out).1; omega))
           obtain ⟨ua110_0, uc110_0, ua110_1, uc110_1, rfl, ul110_0, ge110_0, ul110_1, ge110_1⟩ := k34_openF hMe110
           have hv110_0 := hcc110 0 _ rfl
           rw [Nat.add_zero] at hv110_0
           replace hv110_0 := Option.some.inj (hv110_0.symm.trans hx110_0)
           injection hv110_0 with hva_ hvn_ hvc_
           rw [hva_] at ge110_0
           rw [hvc_] at ul110_0
           have HL110_0 := Aside0.mk (show Kd.V (Kd.int .u8) 5 _ w.heap.size _ _ ((rd_T34 l0 x10_1).f0) from Kd.V_mk ul110_0 ge110_0)
           clear hva_ hvn_ hvc_ ge110_0 ul110_0
           have hv110_1 := hcc110 1 _ rfl
           rw [add_field _ _ 1 (by omega)] at hv110_1
           replace hv110_1 := Option.some.inj (hv110_1.symm.trans hx110_1)
           injection hv110_1 with hva_ hvn_ hvc_
           rw [hva_] at ge110_1
           rw [hvc_] at ul110_1
           have HL110_1 := Aside0.mk (show Kd.V (Kd.int .u8) 5 _ w.heap.size _ _ ((rd_T34 l0 x10_1).f1) from Kd.V_mk ul110_1 ge110_1)
           clear hva_ hvn_ hvc_ ge110_1 ul110_1
           clear hcc110 hce110
           have HR110_0 := Aside0.mk hi110_0
           have HC110_0 := Aside0.mk hl110_0
           clear hi110_0 hl110_0
           have HR110_1 := Aside0.mk hi110_1
           have HC110_1 := Aside0.mk hl110_1
           clear hi110_1 hl110_1
           replace p110 := eq_true p110
           replace q110 := eq_true q110
           have ea_ := Option.some.inj (hx106_0.symm.trans hx110_0)
           injection ea_ with ea_ en_ ec_
           subst ea_
           subst ec_
           clear en_
           have ea_ := Option.some.inj (hx106_1.symm.trans hx110_1)
           injection ea_ with ea_ en_ ec_
           subst ea_
           subst ec_
           clear en_
           refine start_ (n := 15) (S := fun w' => w'.cell? (ad106.add ((x10_1).toNat * 3)) = some (.slice A106_0 ((rd_T34 l0 x10_1).f0).length c106_0) ∧ w'.cell? ⟨(ad106.add ((x10_1).toNat * 3)).block, (ad106.add ((x10_1).toNat * 3)).off + 1, none⟩ = some (.slice A106_1 ((rd_T34 l0 x10_1).f1).length c106_1) ∧ w'.cell? ⟨(ad106.add ((x10_1).toNat * 3)).block, (ad106.add ((x10_1).toNat * 3)).off + 2, none⟩ = some (.bool true) ∧ w'.cell? (ad106.add ((x10_1).toNat * 3)) = some (.slice A106_0 ((rd_T34 l0 x10_1).f0).length c106_0) ∧ w'.cell? ⟨(ad106.add ((x10_1).toNat * 3)).block, (ad106.add ((x10_1).toNat * 3)).off + 1, none⟩ = some (.slice A106_1 ((rd_T34 l0 x10_1).f1).length c106_1) ∧ w'.cell? ⟨(ad106.add ((x10_1).toNat * 3)).block, (ad106.add ((x10_1).toNat * 3)).off + 2, none⟩ = some (.bool true)) (ds := []) #[false, false, false, false, false, false, false, false, false, false, false, false, false, false, false] (by kernel_rfl) rfl rfl ⟨hx106_0, hx106_1, hx106_2, hx110_0, hx110_1, hx110_2⟩ (fun hHeld => ?_); refine with_tabW marigraphkeep_Entries.tab5 marigraphkeep_Entries.bits5 (fun HT_ HW_ => ?_)
           generalize wc.drew = w15 at HO_0 HO_9 HB HL106_0 HL106_1 HL110_0 HL110_1 HR106_0 HR106_1 HR110_0 HR110_1 hx106_0 hx106_1 hx106_2 hx110_0 hx110_1 hx110_2 hHeld ⊢
           refine pA 0 (some 23) (bA 15 1) HT_.out ?_
           refine pA 1 (some 24) (bA 15 3) HT_.out ?_
           refine pA 2 (some 25) (bA 15 7) HT_.out ?_
           refine pA 3 (some 26) (bA 15 15) HT_.out ?_
           refine pA 5 (some 28) (bA 15 47) HT_.out ?_
           refine pA 7 (some 30) (bA 15 175) HT_.out ?_
           refine pA 8 (some 31) (bA 15 431) HT_.out ?_
           refine pA 9 (some 32) (bA 15 943) HT_.out ?_
           refine pA 10 (some 33) (bA 15 1967) HT_.out ?_
           refine take_ (i := 4) (N := some 27) (v := ?_) (a' := ?_) (bA 15 1983) rfl rfl (take_ofW HT_.out HW_.out (by kernel_rfl)) (fun _ _ _ h => h) (Or.inl ⟨by rfl, ?_⟩) hHeld ?_ ?_
           rotate_left
           ·rintro w' ⟨s0, s1, s2, s3, s4, s5⟩
            go_simp
            with_reducible rfl
           rotate_left
           ·simp only [Act.put, List.setIfInBounds_toArray, List.set_cons_zero, List.set_cons_succ, i64_w, i32_w]
            rfl
           refine take_ (i := 11) (N := some 34) (v := ?_) (a' := ?_) (bA 15 4031) rfl rfl (take_ofW HT_.out HW_.out (by kernel_rfl)) (fun _ _ _ h => h) (Or.inl ⟨by rfl, ?_⟩) hHeld ?_ ?_
           rotate_left
           ·rintro w' ⟨s0, s1, s2, s3, s4, s5⟩
            go_simp
            with_reducible rfl
           rotate_left
           ·simp only [Act.put, List.setIfInBounds_toArray, List.set_cons_zero, List.set_cons_succ, i64_w, i32_w]
            rfl
           refine join_ (σ := Value × Nat) 1 (bA 15 16383) (fun s_ => [(29, s_.1), (11, .pointer (some ⟨s_.2, 0, none⟩)), (35, .agg #[s_.1, .slice none 0 0, .bool true])]) (fun s_ w' => (w'.cell? (ad106.add ((x10_1).toNat * 3)) = some (.slice A106_0 ((rd_T34 l0 x10_1).f0).length c106_0) ∧ w'.cell? ⟨(ad106.add ((x10_1).toNat * 3)).block, (ad106.add ((x10_1).toNat * 3)).off + 1, none⟩ = some (.slice A106_1 ((rd_T34 l0 x10_1).f1).length c106_1) ∧ w'.cell? ⟨(ad106.add ((x10_1).toNat * 3)).block, (ad106.add ((x10_1).toNat * 3)).off + 2, none⟩ = some (.bool true) ∧ w'.cell? (ad106.add ((x10_1).toNat * 3)) = some (.slice A106_0 ((rd_T34 l0 x10_1).f0).length c106_0) ∧ w'.cell? ⟨(ad106.add ((x10_1).toNat * 3)).block, (ad106.add ((x10_1).toNat * 3)).off + 1, none⟩ = some (.slice A106_1 ((rd_T34 l0 x10_1).f1).length c106_1) ∧ w'.cell? ⟨(ad106.add ((x10_1).toNat * 3)).block, (ad106.add ((x10_1).toNat * 3)).off + 2, none⟩ = some (.bool true)) ∧ (Kd.V (Kd.int .u8) 5 w' w.heap.size (fun k_ => (P0_ k_ ∨ w.heap.size ≤ k_) ∧ some k_ ≠ (u9 : Value).ownBlock ∧ k_ ≠ s_.2) (.slice A106_0 ((rd_T34 l0 x10_1).f0).length c106_0) ((rd_T34 l0 x10_1).f0)) ∧ (Kd.V (Kd.int .u8) 5 w' w.heap.size (fun k_ => (P0_ k_ ∨ w.heap.size ≤ k_) ∧ some k_ ≠ (u9 : Value).ownBlock ∧ k_ ≠ s_.2) (.slice A106_1 ((rd_T34 l0 x10_1).f1).length c106_1) ((rd_T34 l0 x10_1).f1)) ∧ (Kd.V (Kd.int .u8) 5 w' w.heap.size (fun k_ => (P0_ k_ ∨ w.heap.size ≤ k_) ∧ some k_ ≠ (u9 : Value).ownBlock ∧ k_ ≠ s_.2) (.slice A106_0 ((rd_T34 l0 x10_1).f0).length c106_0) ((rd_T34 l0 x10_1).f0)) ∧ (Kd.V (Kd.int .u8) 5 w' w.heap.size (fun k_ => (P0_ k_ ∨ w.heap.size ≤ k_) ∧ some k_ ≠ (u9 : Value).ownBlock ∧ k_ ≠ s_.2) (.slice A106_1 ((rd_T34 l0 x10_1).f1).length c106_1) ((rd_T34 l0 x10_1).f1)) ∧ (Kd.V (Kd.int .u8) 5 w' w.heap.size (fun k_ => (P0_ k_ ∨ w.heap.size ≤ k_) ∧ some k_ ≠ (u9 : Value).ownBlock ∧ k_ ≠ s_.2) s_.1 t107) ∧ (Kd.V k34 34 w' w.heap.size (fun k_ => (P0_ k_ ∨ w.heap.size ≤ k_) ∧ some k_ ≠ (u9 : Value).ownBlock ∧ k_ ≠ s_.2) (.slice (some ad106) l0.length c0) l0) ∧ (Kd.N k34 34 w' w.heap.size (fun k_ => (P0_ k_ ∨ w.heap.size ≤ k_) ∧ k_ ≠ s_.2) u9 x9_1) ∧ (w'.heap[s_.2]? = some (.cells #[.slice none 0 0, .slice none 0 0, .bool false] 34 (0, 0))) ∧ (w.heap.size ≤ s_.2) ∧ (w.heap.size ≤ s_.2) ∧ (Below w.heap.size w w')) ?_ ?_
           rotate_left
           ·intro hCont
            refine two_ (i := 6) (j := 13) (Ni := some 29) (Nj := some 11) (bA 15 4095) (bA 15 12223) rfl rfl rfl rfl (two_of HT_.out (by kernel_rfl)) (by decide) (by decide) (fun K hK => ?_) (fun K hK => ?_)
            ·skip
             refine goes_ Try.func20 (by kernel_rfl) rfl #[.slice A106_0 ((rd_T34 l0 x10_1).f0).length c106_0, .int .i64 a2] (by rfl) rfl rfl argN ?_
             with_reducible refine (marigraphkeep_Cut.calls (fun k_ => ((P0_ k_ ∨ w.heap.size ≤ k_) ∧ some k_ ≠ (u9 : Value).ownBlock)) _ _ ((rd_T34 l0 x10_1).f0) a2 t107 _ ?side1 A10.out).mono ?_
             (case side1 => exact HL106_0.out)
             rintro e w16 ⟨v108, rfl, ho0, hb⟩
             have HS0_ := (hb.cell (World.block_lt_of_cell? _ _ (hHeld.1))).trans (hHeld.1)
             have HS1_ := (hb.cell (World.block_lt_of_cell? _ _ (hHeld.2.1))).trans (hHeld.2.1)
             have HS2_ := (hb.cell (World.block_lt_of_cell? _ _ (hHeld.2.2.1))).trans (hHeld.2.2.1)
             have HS3_ := (hb.cell (World.block_lt_of_cell? _ _ (hHeld.2.2.2.1))).trans (hHeld.2.2.2.1)
             have HS4_ := (hb.cell (World.block_lt_of_cell? _ _ (hHeld.2.2.2.2.1))).trans (hHeld.2.2.2.2.1)
             have HS5_ := (hb.cell (World.block_lt_of_cell? _ _ (hHeld.2.2.2.2.2))).trans (hHeld.2.2.2.2.2)
             refine ⟨_, rfl, ?_⟩
             have n0_ := Aside0.mk (Kd.V_below (by (with_reducible repeat (first | apply Kd.V_alloc | apply Kd.V_drewN | apply Kd.V_drew)); exact HO_0.out) hb)
             have n1_ := Aside0.mk (Kd.N_below (by (with_reducible repeat (first | apply Kd.N_alloc | apply Kd.N_drewN | apply Kd.N_drew)); exact HO_9.out) hb)
             have n2_ := Aside0.mk (Kd.V_below (by (with_reducible repeat (first | apply Kd.V_alloc | apply Kd.V_drewN | apply Kd.V_drew)); exact HL106_0.out) hb)
             have n3_ := Aside0.mk (Kd.V_below (by (with_reducible repeat (first | apply Kd.V_alloc | apply Kd.V_drewN | apply Kd.V_drew)); exact HL106_1.out) hb)
             have n4_ := Aside0.mk (Kd.V_below (by (with_reducible repeat (first | apply Kd.V_alloc | apply Kd.V_drewN | apply Kd.V_drew)); exact HL110_0.out) hb)
             have n5_ := Aside0.mk (Kd.V_below (by (with_reducible repeat (first | apply Kd.V_alloc | apply Kd.V_drewN | apply Kd.V_drew)); exact HL110_1.out) hb)
             have n6_ := Aside0.mk (Kd.V_lower (Kd.V_mono (ok' := fun k_ => (P0_ k_ ∨ w.heap.size ≤ k_) ∧ some k_ ≠ (u9 : Value).ownBlock) ho0 (fun k_ hk_ => ⟨Or.elim hk_ (fun hs_ => hs_.1) (fun hn_ => (.inr (Nat.le_trans (below_size (belN HB.out)) hn_))), Or.elim hk_ (fun hs_ => hs_.2) (fun hn_ => (Kd.fresh' (Kd.N_lt (by (with_reducible repeat (first | apply Kd.N_alloc | apply Kd.N_drewN | apply Kd.N_drew)); exact HO_9.out)) k_ hn_))⟩)) (below_size (belN HB.out)))
             have n7_ := Aside0.mk (cbN HR106_0.out hb)
             have n8_ := Aside0.mk (cbN HR106_1.out hb)
             have n9_ := Aside0.mk (cbN HR110_0.out hb)
             have n10_ := Aside0.mk (cbN HR110_1.out hb)
             have n11_ := Aside0.mk (below_step (belN HB.out) hb)
             clear HO_0
             clear HO_9
             clear HL106_0
             clear HL106_1
             clear HL110_0
             clear HL110_1
             clear HR106_0
             clear HR106_1
             clear HR110_0
             clear HR110_1
             clear HB
             have HO_0 := n0_
             have HO_9 := n1_
             have HL106_0 := n2_
             have HL106_1 := n3_
             have HL110_0 := n4_
             have HL110_1 := n5_
             have HO109 := n6_
             have HR106_0 := n7_
             have HR106_1 := n8_
             have HR110_0 := n9_
             have HR110_1 := n10_
             have HB := n11_
             clear n0_ n1_ n2_ n3_ n4_ n5_ n6_ n7_ n8_ n9_ n10_ n11_
             (try clear hb)
             (try clear hk)
             (try clear ho0)
             obtain ⟨Ao17, co17, eo17⟩ := Kd.V_slice HO109.out
             (first | subst eo17 | (injection eo17 with f1_ f2_ f3_; have f4_ := f1_.symm; have f5_ := f3_.symm; clear f1_ f2_ f3_; subst f4_; subst f5_))
             refine hK.out _ _ ⟨HS0_, HS1_, HS2_, HS3_, HS4_, HS5_⟩ (fun hHeld => ?_)
             clear hK K
             refine norm_ (a' := ?_) ?_ ?_
             rotate_left
             ·show Act.put _ (some 29) _ = _
              simp only [Act.put, List.setIfInBounds_toArray, List.set_cons_zero, List.set_cons_succ, i64_w, i32_w]
              rfl
             refine pA 12 (some 35) (bA 15 8191) HT_.out ?_
             refine one_ (i := 13) (N := some 11) (bA 15 16383) rfl rfl (one_of HT_.out (by kernel_rfl)) (by decide) (fun K hK => ?_)
             refine box_step ?hg (N := 11) ?hd (cs := #[.slice none 0 0, .slice none 0 0, .bool false]) (t := 34) ?hr ?_; (case hd => rfl); (case hg => rfl); (case hr => first | (go_simp; done) | (go_simp; rfl))
             intro gb111 hg w18 hbox hb
             have HS0_ := (hb.cell (World.block_lt_of_cell? _ _ (hHeld.1))).trans (hHeld.1)
             have HS1_ := (hb.cell (World.block_lt_of_cell? _ _ (hHeld.2.1))).trans (hHeld.2.1)
             have HS2_ := (hb.cell (World.block_lt_of_cell? _ _ (hHeld.2.2.1))).trans (hHeld.2.2.1)
             have HS3_ := (hb.cell (World.block_lt_of_cell? _ _ (hHeld.2.2.2.1))).trans (hHeld.2.2.2.1)
             have HS4_ := (hb.cell (World.block_lt_of_cell? _ _ (hHeld.2.2.2.2.1))).trans (hHeld.2.2.2.2.1)
             have HS5_ := (hb.cell (World.block_lt_of_cell? _ _ (hHeld.2.2.2.2.2))).trans (hHeld.2.2.2.2.2)
             have n0_ := Aside0.mk (Kd.V_below (Kd.V_elderB (by (with_reducible repeat (first | apply Kd.V_alloc | apply Kd.V_drewN | apply Kd.V_drew)); exact HO_0.out) gb111 (Nat.le_of_eq hg.symm)) hb)
             have n1_ := Aside0.mk (Kd.N_below (Kd.N_elderB (by (with_reducible repeat (first | apply Kd.N_alloc | apply Kd.N_drewN | apply Kd.N_drew)); exact HO_9.out) gb111 (Nat.le_of_eq hg.symm)) hb)
             have n2_ := Aside0.mk (Kd.V_below (Kd.V_elderB (by (with_reducible repeat (first | apply Kd.V_alloc | apply Kd.V_drewN | apply Kd.V_drew)); exact HL106_0.out) gb111 (Nat.le_of_eq hg.symm)) hb)
             have n3_ := Aside0.mk (Kd.V_below (Kd.V_elderB (by (with_reducible repeat (first | apply Kd.V_alloc | apply Kd.V_drewN | apply Kd.V_drew)); exact HL106_1.out) gb111 (Nat.le_of_eq hg.symm)) hb)
             have n4_ := Aside0.mk (Kd.V_below (Kd.V_elderB (by (with_reducible repeat (first | apply Kd.V_alloc | apply Kd.V_drewN | apply Kd.V_drew)); exact HL110_0.out) gb111 (Nat.le_of_eq hg.symm)) hb)
             have n5_ := Aside0.mk (Kd.V_below (Kd.V_elderB (by (with_reducible repeat (first | apply Kd.V_alloc | apply Kd.V_drewN | apply Kd.V_drew)); exact HL110_1.out) gb111 (Nat.le_of_eq hg.symm)) hb)
             have n6_ := Aside0.mk (Kd.V_below (Kd.V_elderB (by (with_reducible repeat (first | apply Kd.V_alloc | apply Kd.V_drewN | apply Kd.V_drew)); exact HO109.out) gb111 (Nat.le_of_eq hg.symm)) hb)
             have n7_ := Aside0.mk (cbN HR106_0.out hb)
             have n8_ := Aside0.mk (cbN HR106_1.out hb)
             have n9_ := Aside0.mk (cbN HR110_0.out hb)
             have n10_ := Aside0.mk (cbN HR110_1.out hb)
             have n11_ := Aside0.mk (below_step (belN HB.out) hb)
             have n12_ := Aside0.mk (hbox)
             have n13_ := Aside0.mk (szB hg HB.out)
             have n14_ := Aside0.mk (szB hg HB.out)
             clear HO_0
             clear HO_9
             clear HL106_0
             clear HL106_1
             clear HL110_0
             clear HL110_1
             clear HO109
             clear HR106_0
             clear HR106_1
             clear HR110_0
             clear HR110_1
             clear HB
             have HO_0 := n0_
             have HO_9 := n1_
             have HL106_0 := n2_
             have HL106_1 := n3_
             have HL110_0 := n4_
             have HL110_1 := n5_
             have HO109 := n6_
             have HR106_0 := n7_
             have HR106_1 := n8_
             have HR110_0 := n9_
             have HR110_1 := n10_
             have HB := n11_
             have BK111 := n12_
             have GW111 := n13_
             have GE111 := n14_
             clear n0_ n1_ n2_ n3_ n4_ n5_ n6_ n7_ n8_ n9_ n10_ n11_ n12_ n13_ n14_
             clear hb hbox hg
             refine hK.out _ _ ⟨HS0_, HS1_, HS2_, HS3_, HS4_, HS5_⟩ (fun hHeld => ?_)
             clear hK K
             refine norm_ (a' := ?_) ?_ ?_
             rotate_left
             ·show Act.put _ (some 11) _ = _
              simp only [Act.put, List.setIfInBounds_toArray, List.set_cons_zero, List.set_cons_succ, i64_w, i32_w]
              rfl
             exact norm_ (by simp only [putAll, Act.put, List.setIfInBounds_toArray, List.set_cons_zero, List.set_cons_succ]) (hCont (.slice Ao17 t107.length co17, gb111) _ ⟨hHeld, (by (with_reducible repeat (first | apply Kd.V_alloc | apply Kd.V_drewN | apply Kd.V_drew)); exact Kd.V_mono HL106_0.out (fun _ hk => ⟨hk.1.1, ⟨hk.1.2, hk.2⟩⟩)), (by (with_reducible repeat (first | apply Kd.V_alloc | apply Kd.V_drewN | apply Kd.V_drew)); exact Kd.V_mono HL106_1.out (fun _ hk => ⟨hk.1.1, ⟨hk.1.2, hk.2⟩⟩)), (by (with_reducible repeat (first | apply Kd.V_alloc | apply Kd.V_drewN | apply Kd.V_drew)); exact Kd.V_mono HL110_0.out (fun _ hk => ⟨hk.1.1, ⟨hk.1.2, hk.2⟩⟩)), (by (with_reducible repeat (first | apply Kd.V_alloc | apply Kd.V_drewN | apply Kd.V_drew)); exact Kd.V_mono HL110_1.out (fun _ hk => ⟨hk.1.1, ⟨hk.1.2, hk.2⟩⟩)), (by (with_reducible repeat (first | apply Kd.V_alloc | apply Kd.V_drewN | apply Kd.V_drew)); exact Kd.V_mono HO109.out (fun _ hk => ⟨hk.1.1, ⟨hk.1.2, hk.2⟩⟩)), (by (with_reducible repeat (first | apply Kd.V_alloc | apply Kd.V_drewN | apply Kd.V_drew)); exact Kd.V_mono HO_0.out (fun _ hk => ⟨hk.1.1, ⟨hk.1.2, hk.2⟩⟩)), (by (with_reducible repeat (first | apply Kd.N_alloc | apply Kd.N_drewN | apply Kd.N_drew)); exact HO_9.out), (blkN BK111.out), GW111.out, GE111.out, (belS HB.out)⟩)
            ·skip
             refine box_step ?hg (N := 11) ?hd (cs := #[.slice none 0 0, .slice none 0 0, .bool false]) (t := 34) ?hr ?_; (case hd => rfl); (case hg => rfl); (case hr => first | (go_simp; done) | (go_simp; rfl))
             intro gb111 hg w16 hbox hb
             have HS0_ := (hb.cell (World.block_lt_of_cell? _ _ (hHeld.1))).trans (hHeld.1)
             have HS1_ := (hb.cell (World.block_lt_of_cell? _ _ (hHeld.2.1))).trans (hHeld.2.1)
             have HS2_ := (hb.cell (World.block_lt_of_cell? _ _ (hHeld.2.2.1))).trans (hHeld.2.2.1)
             have HS3_ := (hb.cell (World.block_lt_of_cell? _ _ (hHeld.2.2.2.1))).trans (hHeld.2.2.2.1)
             have HS4_ := (hb.cell (World.block_lt_of_cell? _ _ (hHeld.2.2.2.2.1))).trans (hHeld.2.2.2.2.1)
             have HS5_ := (hb.cell (World.block_lt_of_cell? _ _ (hHeld.2.2.2.2.2))).trans (hHeld.2.2.2.2.2)
             have n0_ := Aside0.mk (Kd.V_below (Kd.V_elderB (by (with_reducible repeat (first | apply Kd.V_alloc | apply Kd.V_drewN | apply Kd.V_drew)); exact HO_0.out) gb111 (Nat.le_of_eq hg.symm)) hb)
             have n1_ := Aside0.mk (Kd.N_below (Kd.N_elderB (by (with_reducible repeat (first | apply Kd.N_alloc | apply Kd.N_drewN | apply Kd.N_drew)); exact HO_9.out) gb111 (Nat.le_of_eq hg.symm)) hb)
             have n2_ := Aside0.mk (Kd.V_below (Kd.V_elderB (by (with_reducible repeat (first | apply Kd.V_alloc | apply Kd.V_drewN | apply Kd.V_drew)); exact HL106_0.out) gb111 (Nat.le_of_eq hg.symm)) hb)
             have n3_ := Aside0.mk (Kd.V_below (Kd.V_elderB (by (with_reducible repeat (first | apply Kd.V_alloc | apply Kd.V_drewN | apply Kd.V_drew)); exact HL106_1.out) gb111 (Nat.le_of_eq hg.symm)) hb)
             have n4_ := Aside0.mk (Kd.V_below (Kd.V_elderB (by (with_reducible repeat (first | apply Kd.V_alloc | apply Kd.V_drewN | apply Kd.V_drew)); exact HL110_0.out) gb111 (Nat.le_of_eq hg.symm)) hb)
             have n5_ := Aside0.mk (Kd.V_below (Kd.V_elderB (by (with_reducible repeat (first | apply Kd.V_alloc | apply Kd.V_drewN | apply Kd.V_drew)); exact HL110_1.out) gb111 (Nat.le_of_eq hg.symm)) hb)
             have n6_ := Aside0.mk (cbN HR106_0.out hb)
             have n7_ := Aside0.mk (cbN HR106_1.out hb)
             have n8_ := Aside0.mk (cbN HR110_0.out hb)
             have n9_ := Aside0.mk (cbN HR110_1.out hb)
             have n10_ := Aside0.mk (below_step (belN HB.out) hb)
             have n11_ := Aside0.mk (hbox)
             have n12_ := Aside0.mk (szB hg HB.out)
             have n13_ := Aside0.mk (szB hg HB.out)
             clear HO_0
             clear HO_9
             clear HL106_0
             clear HL106_1
             clear HL110_0
             clear HL110_1
             clear HR106_0
             clear HR106_1
             clear HR110_0
             clear HR110_1
             clear HB
             have HO_0 := n0_
             have HO_9 := n1_
             have HL106_0 := n2_
             have HL106_1 := n3_
             have HL110_0 := n4_
             have HL110_1 := n5_
             have HR106_0 := n6_
             have HR106_1 := n7_
             have HR110_0 := n8_
             have HR110_1 := n9_
             have HB := n10_
             have BK111 := n11_
             have GW111 := n12_
             have GE111 := n13_
             clear n0_ n1_ n2_ n3_ n4_ n5_ n6_ n7_ n8_ n9_ n10_ n11_ n12_ n13_
             clear hb hbox hg
             refine hK.out _ _ ⟨HS0_, HS1_, HS2_, HS3_, HS4_, HS5_⟩ (fun hHeld => ?_)
             clear hK K
             refine norm_ (a' := ?_) ?_ ?_
             rotate_left
             ·show Act.put _ (some 11) _ = _
              simp only [Act.put, List.setIfInBounds_toArray, List.set_cons_zero, List.set_cons_succ, i64_w, i32_w]
              rfl
             refine one_ (i := 6) (N := some 29) (bA 15 12287) rfl rfl (one_of HT_.out (by kernel_rfl)) (by decide) (fun K hK => ?_)
             refine goes_ Try.func20 (by kernel_rfl) rfl #[.slice A106_0 ((rd_T34 l0 x10_1).f0).length c106_0, .int .i64 a2] (by rfl) rfl rfl argN ?_
             with_reducible refine (marigraphkeep_Cut.calls (fun k_ => (((P0_ k_ ∨ w.heap.size ≤ k_) ∧ some k_ ≠ (u9 : Value).ownBlock) ∧ k_ ≠ gb111)) _ _ ((rd_T34 l0 x10_1).f0) a2 t107 _ ?side1 A10.out).mono ?_
             (case side1 => exact HL106_0.out)
             rintro e w17 ⟨v108, rfl, ho0, hb⟩
             have HS0_ := (hb.cell (World.block_lt_of_cell? _ _ (hHeld.1))).trans (hHeld.1)
             have HS1_ := (hb.cell (World.block_lt_of_cell? _ _ (hHeld.2.1))).trans (hHeld.2.1)
             have HS2_ := (hb.cell (World.block_lt_of_cell? _ _ (hHeld.2.2.1))).trans (hHeld.2.2.1)
             have HS3_ := (hb.cell (World.block_lt_of_cell? _ _ (hHeld.2.2.2.1))).trans (hHeld.2.2.2.1)
             have HS4_ := (hb.cell (World.block_lt_of_cell? _ _ (hHeld.2.2.2.2.1))).trans (hHeld.2.2.2.2.1)
             have HS5_ := (hb.cell (World.block_lt_of_cell? _ _ (hHeld.2.2.2.2.2))).trans (hHeld.2.2.2.2.2)
             refine ⟨_, rfl, ?_⟩
             have n0_ := Aside0.mk (Kd.V_below (by (with_reducible repeat (first | apply Kd.V_alloc | apply Kd.V_drewN | apply Kd.V_drew)); exact HO_0.out) hb)
             have n1_ := Aside0.mk (Kd.N_below (by (with_reducible repeat (first | apply Kd.N_alloc | apply Kd.N_drewN | apply Kd.N_drew)); exact HO_9.out) hb)
             have n2_ := Aside0.mk (Kd.V_below (by (with_reducible repeat (first | apply Kd.V_alloc | apply Kd.V_drewN | apply Kd.V_drew)); exact HL106_0.out) hb)
             have n3_ := Aside0.mk (Kd.V_below (by (with_reducible repeat (first | apply Kd.V_alloc | apply Kd.V_drewN | apply Kd.V_drew)); exact HL106_1.out) hb)
             have n4_ := Aside0.mk (Kd.V_below (by (with_reducible repeat (first | apply Kd.V_alloc | apply Kd.V_drewN | apply Kd.V_drew)); exact HL110_0.out) hb)
             have n5_ := Aside0.mk (Kd.V_below (by (with_reducible repeat (first | apply Kd.V_alloc | apply Kd.V_drewN | apply Kd.V_drew)); exact HL110_1.out) hb)
             have n6_ := Aside0.mk (Kd.V_lower (Kd.V_mono (ok' := fun k_ => (P0_ k_ ∨ w.heap.size ≤ k_) ∧ some k_ ≠ (u9 : Value).ownBlock ∧ k_ ≠ gb111) ho0 (fun k_ hk_ => ⟨Or.elim hk_ (fun hs_ => hs_.1.1) (fun hn_ => (.inr (Nat.le_trans (below_size (belS HB.out)) hn_))), Or.elim hk_ (fun hs_ => hs_.1.2) (fun hn_ => (Kd.fresh' (Kd.N_lt (by (with_reducible repeat (first | apply Kd.N_alloc | apply Kd.N_drewN | apply Kd.N_drew)); exact HO_9.out)) k_ hn_)), Or.elim hk_ (fun hs_ => hs_.2) (fun hn_ => (Kd.freshB (g := gb111) (o := .cells #[.slice none 0 0, .slice none 0 0, .bool false] 34 (0, 0)) (blkN BK111.out) k_ hn_))⟩)) (below_size (belS HB.out)))
             have n7_ := Aside0.mk (cbN HR106_0.out hb)
             have n8_ := Aside0.mk (cbN HR106_1.out hb)
             have n9_ := Aside0.mk (cbN HR110_0.out hb)
             have n10_ := Aside0.mk (cbN HR110_1.out hb)
             have n11_ := Aside0.mk (bkB BK111.out hb)
             have n12_ := Aside0.mk (below_step (belS HB.out) hb)
             clear HO_0
             clear HO_9
             clear HL106_0
             clear HL106_1
             clear HL110_0
             clear HL110_1
             clear HR106_0
             clear HR106_1
             clear HR110_0
             clear HR110_1
             clear BK111
             clear HB
             have HO_0 := n0_
             have HO_9 := n1_
             have HL106_0 := n2_
             have HL106_1 := n3_
             have HL110_0 := n4_
             have HL110_1 := n5_
             have HO109 := n6_
             have HR106_0 := n7_
             have HR106_1 := n8_
             have HR110_0 := n9_
             have HR110_1 := n10_
             have BK111 := n11_
             have HB := n12_
             clear n0_ n1_ n2_ n3_ n4_ n5_ n6_ n7_ n8_ n9_ n10_ n11_ n12_
             (try clear hb)
             (try clear hk)
             (try clear ho0)
             obtain ⟨Ao18, co18, eo18⟩ := Kd.V_slice HO109.out
             (first | subst eo18 | (injection eo18 with f1_ f2_ f3_; have f4_ := f1_.symm; have f5_ := f3_.symm; clear f1_ f2_ f3_; subst f4_; subst f5_))
             refine hK.out _ _ ⟨HS0_, HS1_, HS2_, HS3_, HS4_, HS5_⟩ (fun hHeld => ?_)
             clear hK K
             refine norm_ (a' := ?_) ?_ ?_
             rotate_left
             ·show Act.put _ (some 29) _ = _
              simp only [Act.put, List.setIfInBounds_toArray, List.set_cons_zero, List.set_cons_succ, i64_w, i32_w]
              rfl
             refine pA 12 (some 35) (bA 15 16383) HT_.out ?_
             exact norm_ (by simp only [putAll, Act.put, List.setIfInBounds_toArray, List.set_cons_zero, List.set_cons_succ]) (hCont (.slice Ao18 t107.length co18, gb111) _ ⟨hHeld, (by (with_reducible repeat (first | apply Kd.V_alloc | apply Kd.V_drewN | apply Kd.V_drew)); exact Kd.V_mono HL106_0.out (fun _ hk => ⟨hk.1.1, ⟨hk.1.2, hk.2⟩⟩)), (by (with_reducible repeat (first | apply Kd.V_alloc | apply Kd.V_drewN | apply Kd.V_drew)); exact Kd.V_mono HL106_1.out (fun _ hk => ⟨hk.1.1, ⟨hk.1.2, hk.2⟩⟩)), (by (with_reducible repeat (first | apply Kd.V_alloc | apply Kd.V_drewN | apply Kd.V_drew)); exact Kd.V_mono HL110_0.out (fun _ hk => ⟨hk.1.1, ⟨hk.1.2, hk.2⟩⟩)), (by (with_reducible repeat (first | apply Kd.V_alloc | apply Kd.V_drewN | apply Kd.V_drew)); exact Kd.V_mono HL110_1.out (fun _ hk => ⟨hk.1.1, ⟨hk.1.2, hk.2⟩⟩)), (by (with_reducible repeat (first | apply Kd.V_alloc | apply Kd.V_drewN | apply Kd.V_drew)); exact HO109.out), (by (with_reducible repeat (first | apply Kd.V_alloc | apply Kd.V_drewN | apply Kd.V_drew)); exact Kd.V_mono HO_0.out (fun _ hk => ⟨hk.1.1, ⟨hk.1.2, hk.2⟩⟩)), (by (with_reducible repeat (first | apply Kd.N_alloc | apply Kd.N_drewN | apply Kd.N_drew)); exact HO_9.out), (blkN BK111.out), GW111.out, GE111.out, (belS HB.out)⟩)
           rintro ⟨v108, gb111⟩ w19 ⟨hS_, h0_, h1_, h2_, h3_, h4_, h5_, h6_, h7_, h8_, h9_, h10_⟩
           have n0_ : Aside0 (Kd.V (Kd.int .u8) 5 w19 w.heap.size (fun k_ => (P0_ k_ ∨ w.heap.size ≤ k_) ∧ some k_ ≠ (u9 : Value).ownBlock ∧ k_ ≠ gb111) (.slice A106_0 ((rd_T34 l0 x10_1).f0).length c106_0) ((rd_T34 l0 x10_1).f0)) := ⟨h0_⟩
           have n1_ : Aside0 (Kd.V (Kd.int .u8) 5 w19 w.heap.size (fun k_ => (P0_ k_ ∨ w.heap.size ≤ k_) ∧ some k_ ≠ (u9 : Value).ownBlock ∧ k_ ≠ gb111) (.slice A106_1 ((rd_T34 l0 x10_1).f1).length c106_1) ((rd_T34 l0 x10_1).f1)) := ⟨h1_⟩
           have n2_ : Aside0 (Kd.V (Kd.int .u8) 5 w19 w.heap.size (fun k_ => (P0_ k_ ∨ w.heap.size ≤ k_) ∧ some k_ ≠ (u9 : Value).ownBlock ∧ k_ ≠ gb111) (.slice A106_0 ((rd_T34 l0 x10_1).f0).length c106_0) ((rd_T34 l0 x10_1).f0)) := ⟨h2_⟩
           have n3_ : Aside0 (Kd.V (Kd.int .u8) 5 w19 w.heap.size (fun k_ => (P0_ k_ ∨ w.heap.size ≤ k_) ∧ some k_ ≠ (u9 : Value).ownBlock ∧ k_ ≠ gb111) (.slice A106_1 ((rd_T34 l0 x10_1).f1).length c106_1) ((rd_T34 l0 x10_1).f1)) := ⟨h3_⟩
           have n4_ : Aside0 (Kd.V (Kd.int .u8) 5 w19 w.heap.size (fun k_ => (P0_ k_ ∨ w.heap.size ≤ k_) ∧ some k_ ≠ (u9 : Value).ownBlock ∧ k_ ≠ gb111) v108 t107) := ⟨h4_⟩
           have n5_ : Aside0 (Kd.V k34 34 w19 w.heap.size (fun k_ => (P0_ k_ ∨ w.heap.size ≤ k_) ∧ some k_ ≠ (u9 : Value).ownBlock ∧ k_ ≠ gb111) (.slice (some ad106) l0.length c0) l0) := ⟨h5_⟩
           have n6_ : Aside0 (Kd.N k34 34 w19 w.heap.size (fun k_ => (P0_ k_ ∨ w.heap.size ≤ k_) ∧ k_ ≠ gb111) u9 x9_1) := ⟨h6_⟩
           have n7_ : Aside0 (w19.heap[gb111]? = some (.cells #[.slice none 0 0, .slice none 0 0, .bool false] 34 (0, 0))) := ⟨h7_⟩
           have n8_ : Aside0 (w.heap.size ≤ gb111) := ⟨h8_⟩
           have n9_ : Aside0 (w.heap.size ≤ gb111) := ⟨h9_⟩
           have n10_ : Aside0 (Below w.heap.size w w19) := ⟨h10_⟩
           clear HO_0
           clear HO_9
           clear HB
           clear h0_ h1_ h2_ h3_ h4_ h5_ h6_ h7_ h8_ h9_ h10_
           have HL106_0 := n0_
           have HL106_1 := n1_
           have HL110_0 := n2_
           have HL110_1 := n3_
           have HO109 := n4_
           have HO_0 := n5_
           have HO_9 := n6_
           have BK111 := n7_
           have GW111 := n8_
           have GE111 := n9_
           have HB := n10_
           clear n0_ n1_ n2_ n3_ n4_ n5_ n6_ n7_ n8_ n9_ n10_
           have hHeld : w19.cell? (ad106.add ((x10_1).toNat * 3)) = some (.slice A106_0 ((rd_T34 l0 x10_1).f0).length c106_0) ∧ w19.cell? ⟨(ad106.add ((x10_1).toNat * 3)).block, (ad106.add ((x10_1).toNat * 3)).off + 1, none⟩ = some (.slice A106_1 ((rd_T34 l0 x10_1).f1).length c106_1) ∧ w19.cell? ⟨(ad106.add ((x10_1).toNat * 3)).block, (ad106.add ((x10_1).toNat * 3)).off + 2, none⟩ = some (.bool true) ∧ w19.cell? (ad106.add ((x10_1).toNat * 3)) = some (.slice A106_0 ((rd_T34 l0 x10_1).f0).length c106_0) ∧ w19.cell? ⟨(ad106.add ((x10_1).toNat * 3)).block, (ad106.add ((x10_1).toNat * 3)).off + 1, none⟩ = some (.slice A106_1 ((rd_T34 l0 x10_1).f1).length c106_1) ∧ w19.cell? ⟨(ad106.add ((x10_1).toNat * 3)).block, (ad106.add ((x10_1).toNat * 3)).off + 2, none⟩ = some (.bool true) := hS_
           obtain ⟨Ao20, co20, eo20⟩ := Kd.V_slice HO109.out
           (first | subst eo20 | (injection eo20 with f1_ f2_ f3_; have f4_ := f1_.symm; have f5_ := f3_.symm; clear f1_ f2_ f3_; subst f4_; subst f5_))
           refine norm_ (a' := ?_) ?_ ?_
           rotate_left
           ·simp only [putAll, Act.put, List.setIfInBounds_toArray, List.set_cons_zero, List.set_cons_succ]
            rfl
           refine one_ (i := 14) (N := none) (bA 15 32767) rfl rfl (one_of HT_.out (by kernel_rfl)) (by decide) (fun K hK => ?_)
           have hs21 : w19.cell? ⟨gb111, 0, none⟩ = some (.slice none 0 0) := (blk_cell BK111.out 0).trans rfl
           have hfs21 := blk_frozen BK111.out 0
           have hs22 : w19.cell? ⟨gb111, 1, none⟩ = some (.slice none 0 0) := (blk_cell BK111.out 1).trans rfl
           have hfs22 := blk_frozen BK111.out 1
           have hs23 : w19.cell? ⟨gb111, 2, none⟩ = some (.bool false) := (blk_cell BK111.out 2).trans rfl
           have hfs23 := blk_frozen BK111.out 2
           refine skip_ (w1 := ?_) (by rfl) rfl ?_ ?_
           rotate_left
           ·go_simp
            rfl
           have hbl_ : (ad106.add ((x10_1).toNat * 3)).block ≠ gb111 := by rw [add_block]; exact V_blk HO_0.out z34 (by decide) (by have a_ := of_eq_true p106; have b_ := of_eq_true q106; omega) (fun _ hk => hk.2.2)
           refine hK.out _ _ ⟨(far3 (by exact hbl_)).trans hHeld.1, (far3 (by exact hbl_)).trans hHeld.2.1, (far3 (by exact hbl_)).trans hHeld.2.2.1, (far3 (by exact hbl_)).trans hHeld.2.2.2.1, (far3 (by exact hbl_)).trans hHeld.2.2.2.2.1, (far3 (by exact hbl_)).trans hHeld.2.2.2.2.2⟩ (fun hHeld => ?_)
           clear hbl_
           clear hK K
           refine done_ (done_of HT_.out (by kernel_rfl)) ?_
           have hcz24_0 : w19.cell? ⟨gb111, 0, none⟩ = some (.slice none 0 0) := (blk_cell BK111.out 0).trans rfl
           have hcz24_1 : w19.cell? ⟨gb111, 1, none⟩ = some (.slice none 0 0) := (blk_cell BK111.out 1).trans rfl
           have hcz24_2 : w19.cell? ⟨gb111, 2, none⟩ = some (.bool false) := (blk_cell BK111.out 2).trans rfl
           have hfz24_0 := blk_frozen BK111.out 0
           have hfz24_1 := blk_frozen BK111.out 1
           have hfz24_2 := blk_frozen BK111.out 2
           try go_wp2_with (first | ((with_reducible refine gate_dst (N := 40) rfl ?_); refine Kd.R_lit (Kd.int .u8) _ 5 ?hg (N := 40) ?hd (xs := ([107] : List Int)) (inner := [.int .u8 107]) (ok := fun _ => True) (okp := fun _ => True) ?hr ?hp (fun _ hk => hk) trivial (Below.refl _ _) (Nat.le_refl _) (by simp) ?_; (case hd => rfl); (case hg => rfl); (case hr => first | (go_simp; done) | (go_simp; rfl)); (case hp => exact (Reps.one (show Kd.M (Kd.int .u8) _ _ _ 107 [.int .u8 107] from rfl) (Reps.none _ _))); intro v113 w25 ho26 hb hg_ hnew_; clear hg_ hnew_; (first | rw [← Ny112.out] at ho26 | (simp only [Int.reduceToNat] at ho26; rw [← Ny112.out] at ho26)); have n0_ := Aside0.mk (Kd.V_elder' (by (with_reducible repeat (first | apply Kd.V_alloc | apply Kd.V_drewN | apply Kd.V_drew)); exact (Kd.V_mono (Kd.V_far (p := ⟨gb111, 2, none⟩) (Kd.V_far (p := ⟨gb111, 1, none⟩) (Kd.V_far (p := ⟨gb111, 0, none⟩) (Kd.V_mono HO_0.out (fun k_ hk => (⟨hk, hk.2.2⟩ : _ ∧ k_ ≠ gb111))) (fun _ hk => hk.2) (.slice Ao20 t107.length co20)) (fun _ hk => hk.2) (.slice none 0 0)) (fun _ hk => hk.2) (.bool true)) (fun _ h_ => h_.1))) (Kd.R_base ho26) hb); have n1_ := Aside0.mk (Kd.N_elder' (by (with_reducible repeat (first | apply Kd.N_alloc | apply Kd.N_drewN | apply Kd.N_drew)); exact (Kd.N_mono (Kd.N_far (p := ⟨gb111, 2, none⟩) (Kd.N_far (p := ⟨gb111, 1, none⟩) (Kd.N_far (p := ⟨gb111, 0, none⟩) (Kd.N_mono HO_9.out (fun k_ hk => (⟨hk, hk.2⟩ : _ ∧ k_ ≠ gb111))) (fun _ hk => hk.2) (.slice Ao20 t107.length co20)) (fun _ hk => hk.2) (.slice none 0 0)) (fun _ hk => hk.2) (.bool true)) (fun _ h_ => h_.1))) (Kd.R_base ho26) hb); have n2_ := Aside0.mk (Kd.V_elder' (by (with_reducible repeat (first | apply Kd.V_alloc | apply Kd.V_drewN | apply Kd.V_drew)); exact (Kd.V_mono (Kd.V_far (p := ⟨gb111, 2, none⟩) (Kd.V_far (p := ⟨gb111, 1, none⟩) (Kd.V_far (p := ⟨gb111, 0, none⟩) (Kd.V_mono HL106_0.out (fun k_ hk => (⟨hk, hk.2.2⟩ : _ ∧ k_ ≠ gb111))) (fun _ hk => hk.2) (.slice Ao20 t107.length co20)) (fun _ hk => hk.2) (.slice none 0 0)) (fun _ hk => hk.2) (.bool true)) (fun _ h_ => h_.1))) (Kd.R_base ho26) hb); have n3_ := Aside0.mk (Kd.V_elder' (by (with_reducible repeat (first | apply Kd.V_alloc | apply Kd.V_drewN | apply Kd.V_drew)); exact (Kd.V_mono (Kd.V_far (p := ⟨gb111, 2, none⟩) (Kd.V_far (p := ⟨gb111, 1, none⟩) (Kd.V_far (p := ⟨gb111, 0, none⟩) (Kd.V_mono HL106_1.out (fun k_ hk => (⟨hk, hk.2.2⟩ : _ ∧ k_ ≠ gb111))) (fun _ hk => hk.2) (.slice Ao20 t107.length co20)) (fun _ hk => hk.2) (.slice none 0 0)) (fun _ hk => hk.2) (.bool true)) (fun _ h_ => h_.1))) (Kd.R_base ho26) hb); have n4_ := Aside0.mk (Kd.V_elder' (by (with_reducible repeat (first | apply Kd.V_alloc | apply Kd.V_drewN | apply Kd.V_drew)); exact (Kd.V_mono (Kd.V_far (p := ⟨gb111, 2, none⟩) (Kd.V_far (p := ⟨gb111, 1, none⟩) (Kd.V_far (p := ⟨gb111, 0, none⟩) (Kd.V_mono HL110_0.out (fun k_ hk => (⟨hk, hk.2.2⟩ : _ ∧ k_ ≠ gb111))) (fun _ hk => hk.2) (.slice Ao20 t107.length co20)) (fun _ hk => hk.2) (.slice none 0 0)) (fun _ hk => hk.2) (.bool true)) (fun _ h_ => h_.1))) (Kd.R_base ho26) hb); have n5_ := Aside0.mk (Kd.V_elder' (by (with_reducible repeat (first | apply Kd.V_alloc | apply Kd.V_drewN | apply Kd.V_drew)); exact (Kd.V_mono (Kd.V_far (p := ⟨gb111, 2, none⟩) (Kd.V_far (p := ⟨gb111, 1, none⟩) (Kd.V_far (p := ⟨gb111, 0, none⟩) (Kd.V_mono HL110_1.out (fun k_ hk => (⟨hk, hk.2.2⟩ : _ ∧ k_ ≠ gb111))) (fun _ hk => hk.2) (.slice Ao20 t107.length co20)) (fun _ hk => hk.2) (.slice none 0 0)) (fun _ hk => hk.2) (.bool true)) (fun _ h_ => h_.1))) (Kd.R_base ho26) hb); have n6_ := Aside0.mk (Kd.V_elder' (by (with_reducible repeat (first | apply Kd.V_alloc | apply Kd.V_drewN | apply Kd.V_drew)); exact (Kd.V_mono (Kd.V_far (p := ⟨gb111, 2, none⟩) (Kd.V_far (p := ⟨gb111, 1, none⟩) (Kd.V_far (p := ⟨gb111, 0, none⟩) (Kd.V_mono HO109.out (fun k_ hk => (⟨hk, hk.2.2⟩ : _ ∧ k_ ≠ gb111))) (fun _ hk => hk.2) (.slice Ao20 t107.length co20)) (fun _ hk => hk.2) (.slice none 0 0)) (fun _ hk => hk.2) (.bool true)) (fun _ h_ => h_.1))) (Kd.R_base ho26) hb); have n7_ := Aside0.mk (Kd.R_lower (Kd.R_newM (M := fun k_ => (w.heap.size ≤ k_)) ho26 (below_size (belS HB.out)) (fun k_ h_ => h_)) (below_size (belS HB.out))); have n8_ := Aside0.mk (blk_below (g := gb111) (o := .cells #[.slice Ao20 t107.length co20, .slice none 0 0, .bool true] 34 (0, 0)) (by (with_reducible repeat (first | refine blk_drewN ?_ _ | refine blk_drew ?_ | refine blk_alloc ?_ _)); refine blk_put (cs := #[.slice Ao20 t107.length co20, .slice none 0 0, .bool false]) ?_ 2 _ rfl; (with_reducible repeat (first | refine blk_drewN ?_ _ | refine blk_drew ?_ | refine blk_alloc ?_ _)); refine blk_put (cs := #[.slice Ao20 t107.length co20, .slice none 0 0, .bool false]) ?_ 1 _ rfl; (with_reducible repeat (first | refine blk_drewN ?_ _ | refine blk_drew ?_ | refine blk_alloc ?_ _)); refine blk_put (cs := #[.slice none 0 0, .slice none 0 0, .bool false]) ?_ 0 _ rfl; (with_reducible repeat (first | refine blk_drewN ?_ _ | refine blk_drew ?_ | refine blk_alloc ?_ _)); exact BK111.out) hb); have n9_ := Aside0.mk (below_step (belS HB.out) hb); clear HO_0; clear HO_9; clear HL106_0; clear HL106_1; clear HL110_0; clear HL110_1; clear HO109; clear BK111; clear HB; have HO_0 := n0_; have HO_9 := n1_; have HL106_0 := n2_; have HL106_1 := n3_; have HL110_0 := n4_; have HL110_1 := n5_; have HO109 := n6_; have HO114 := n7_; have BK111 := n8_; have HB := n9_; clear n0_ n1_ n2_ n3_ n4_ n5_ n6_ n7_ n8_ n9_; clear hb ho26; obtain ⟨Ao27, co27, eo27⟩ := Kd.R_slice HO114.out; subst eo27; have hcz28_0 : w25.cell? ⟨gb111, 0, none⟩ = some (.slice Ao20 t107.length co20) := (blk_cell BK111.out 0).trans rfl; have hcz28_1 : w25.cell? ⟨gb111, 1, none⟩ = some (.slice none 0 0) := (blk_cell BK111.out 1).trans rfl; have hcz28_2 : w25.cell? ⟨gb111, 2, none⟩ = some (.bool true) := (blk_cell BK111.out 2).trans rfl; have hfz28_0 := blk_frozen BK111.out 0; have hfz28_1 := blk_frozen BK111.out 1; have hfz28_2 := blk_frozen BK111.out 2) | ((with_reducible refine gate_store (t := 26) (p := 41) rfl ?_); refine store_event (t := 26) (p := 41) (v := ?vo_w29) (w1 := (w25.setCell ⟨gb111, 0, none⟩ (.slice Ao27 y112.length co27))) ?hg ?ho ?hn ?hr ?_; (case ho => rfl); (case hg => rfl); (case hn => rfl); (case hr => first | (go_simp; done) | (go_simp; rfl)); intro w29 hw; have n0_ : Aside0 (Kd.V k34 34 w29 w.heap.size (fun k_ => (P0_ k_ ∨ w.heap.size ≤ k_) ∧ some k_ ≠ (u9 : Value).ownBlock ∧ some k_ ≠ (.slice Ao27 y112.length co27 : Value).ownBlock ∧ k_ ≠ gb111) (.slice (some ad106) l0.length c0) l0) := ⟨(by rw [hw]; exact (by (with_reducible repeat (first | apply Kd.V_alloc | apply Kd.V_drewN | apply Kd.V_drew)); exact Kd.V_mono (Kd.V_far (p := ⟨gb111, 0, none⟩) (Kd.V_mono HO_0.out (fun k_ hk => (⟨hk, hk.1.2.2⟩ : _ ∧ k_ ≠ gb111))) (fun _ hk => hk.2) (.slice Ao27 y112.length co27)) (fun _ hk => ⟨hk.1.1.1, ⟨hk.1.1.2.1, ⟨hk.1.2, hk.1.1.2.2⟩⟩⟩)))⟩; have n1_ : Aside0 (Kd.N k34 34 w29 w.heap.size (fun k_ => (P0_ k_ ∨ w.heap.size ≤ k_) ∧ some k_ ≠ (.slice Ao27 y112.length co27 : Value).ownBlock ∧ k_ ≠ gb111) u9 x9_1) := ⟨(by rw [hw]; exact (by (with_reducible repeat (first | apply Kd.N_alloc | apply Kd.N_drewN | apply Kd.N_drew)); exact Kd.N_mono (Kd.N_far (p := ⟨gb111, 0, none⟩) (Kd.N_mono HO_9.out (fun k_ hk => (⟨hk, hk.1.2⟩ : _ ∧ k_ ≠ gb111))) (fun _ hk => hk.2) (.slice Ao27 y112.length co27)) (fun _ hk => ⟨hk.1.1.1, ⟨hk.1.2, hk.1.1.2⟩⟩)))⟩; have n2_ : Aside0 (Kd.V (Kd.int .u8) 5 w29 w.heap.size (fun k_ => (P0_ k_ ∨ w.heap.size ≤ k_) ∧ some k_ ≠ (u9 : Value).ownBlock ∧ some k_ ≠ (.slice Ao27 y112.length co27 : Value).ownBlock ∧ k_ ≠ gb111) (.slice A106_0 ((rd_T34 l0 x10_1).f0).length c106_0) ((rd_T34 l0 x10_1).f0)) := ⟨(by rw [hw]; exact (by (with_reducible repeat (first | apply Kd.V_alloc | apply Kd.V_drewN | apply Kd.V_drew)); exact Kd.V_mono (Kd.V_far (p := ⟨gb111, 0, none⟩) (Kd.V_mono HL106_0.out (fun k_ hk => (⟨hk, hk.1.2.2⟩ : _ ∧ k_ ≠ gb111))) (fun _ hk => hk.2) (.slice Ao27 y112.length co27)) (fun _ hk => ⟨hk.1.1.1, ⟨hk.1.1.2.1, ⟨hk.1.2, hk.1.1.2.2⟩⟩⟩)))⟩; have n3_ : Aside0 (Kd.V (Kd.int .u8) 5 w29 w.heap.size (fun k_ => (P0_ k_ ∨ w.heap.size ≤ k_) ∧ some k_ ≠ (u9 : Value).ownBlock ∧ some k_ ≠ (.slice Ao27 y112.length co27 : Value).ownBlock ∧ k_ ≠ gb111) (.slice A106_1 ((rd_T34 l0 x10_1).f1).length c106_1) ((rd_T34 l0 x10_1).f1)) := ⟨(by rw [hw]; exact (by (with_reducible repeat (first | apply Kd.V_alloc | apply Kd.V_drewN | apply Kd.V_drew)); exact Kd.V_mono (Kd.V_far (p := ⟨gb111, 0, none⟩) (Kd.V_mono HL106_1.out (fun k_ hk => (⟨hk, hk.1.2.2⟩ : _ ∧ k_ ≠ gb111))) (fun _ hk => hk.2) (.slice Ao27 y112.length co27)) (fun _ hk => ⟨hk.1.1.1, ⟨hk.1.1.2.1, ⟨hk.1.2, hk.1.1.2.2⟩⟩⟩)))⟩; have n4_ : Aside0 (Kd.V (Kd.int .u8) 5 w29 w.heap.size (fun k_ => (P0_ k_ ∨ w.heap.size ≤ k_) ∧ some k_ ≠ (u9 : Value).ownBlock ∧ some k_ ≠ (.slice Ao27 y112.length co27 : Value).ownBlock ∧ k_ ≠ gb111) (.slice A106_0 ((rd_T34 l0 x10_1).f0).length c106_0) ((rd_T34 l0 x10_1).f0)) := ⟨(by rw [hw]; exact (by (with_reducible repeat (first | apply Kd.V_alloc | apply Kd.V_drewN | apply Kd.V_drew)); exact Kd.V_mono (Kd.V_far (p := ⟨gb111, 0, none⟩) (Kd.V_mono HL110_0.out (fun k_ hk => (⟨hk, hk.1.2.2⟩ : _ ∧ k_ ≠ gb111))) (fun _ hk => hk.2) (.slice Ao27 y112.length co27)) (fun _ hk => ⟨hk.1.1.1, ⟨hk.1.1.2.1, ⟨hk.1.2, hk.1.1.2.2⟩⟩⟩)))⟩; have n5_ : Aside0 (Kd.V (Kd.int .u8) 5 w29 w.heap.size (fun k_ => (P0_ k_ ∨ w.heap.size ≤ k_) ∧ some k_ ≠ (u9 : Value).ownBlock ∧ some k_ ≠ (.slice Ao27 y112.length co27 : Value).ownBlock ∧ k_ ≠ gb111) (.slice A106_1 ((rd_T34 l0 x10_1).f1).length c106_1) ((rd_T34 l0 x10_1).f1)) := ⟨(by rw [hw]; exact (by (with_reducible repeat (first | apply Kd.V_alloc | apply Kd.V_drewN | apply Kd.V_drew)); exact Kd.V_mono (Kd.V_far (p := ⟨gb111, 0, none⟩) (Kd.V_mono HL110_1.out (fun k_ hk => (⟨hk, hk.1.2.2⟩ : _ ∧ k_ ≠ gb111))) (fun _ hk => hk.2) (.slice Ao27 y112.length co27)) (fun _ hk => ⟨hk.1.1.1, ⟨hk.1.1.2.1, ⟨hk.1.2, hk.1.1.2.2⟩⟩⟩)))⟩; have n6_ : Aside0 (Kd.V (Kd.int .u8) 5 w29 w.heap.size (fun k_ => (P0_ k_ ∨ w.heap.size ≤ k_) ∧ some k_ ≠ (u9 : Value).ownBlock ∧ some k_ ≠ (.slice Ao27 y112.length co27 : Value).ownBlock ∧ k_ ≠ gb111) (.slice Ao20 t107.length co20) t107) := ⟨(by rw [hw]; exact (by (with_reducible repeat (first | apply Kd.V_alloc | apply Kd.V_drewN | apply Kd.V_drew)); exact Kd.V_mono (Kd.V_far (p := ⟨gb111, 0, none⟩) (Kd.V_mono HO109.out (fun k_ hk => (⟨hk, hk.1.2.2⟩ : _ ∧ k_ ≠ gb111))) (fun _ hk => hk.2) (.slice Ao27 y112.length co27)) (fun _ hk => ⟨hk.1.1.1, ⟨hk.1.1.2.1, ⟨hk.1.2, hk.1.1.2.2⟩⟩⟩)))⟩; have n7_ : Aside0 (Kd.R (Kd.int .u8) 5 w29 w.heap.size (fun k_ => (w.heap.size ≤ k_)) (.slice Ao27 y112.length co27) y112) := ⟨(by rw [hw]; exact (by (with_reducible repeat (first | apply Kd.R_alloc | apply Kd.R_drewN | apply Kd.R_drew)); exact Kd.R_mono (Kd.R_far (p := ⟨gb111, 0, none⟩) (Kd.R_types HO114.out BK111.out (by decide)) (fun _ hk => hk.2) (.slice Ao27 y112.length co27)) (fun _ hk => hk.1.1)))⟩; have n8_ : Aside0 (w29.heap[gb111]? = some (.cells #[.slice Ao27 y112.length co27, .slice none 0 0, .bool true] 34 (0, 0))) := ⟨(by rw [hw]; exact (by (with_reducible repeat (first | refine blk_drewN ?_ _ | refine blk_drew ?_ | refine blk_alloc ?_ _)); refine blk_put (cs := #[.slice Ao20 t107.length co20, .slice none 0 0, .bool true]) ?_ 0 _ rfl; (with_reducible repeat (first | refine blk_drewN ?_ _ | refine blk_drew ?_ | refine blk_alloc ?_ _)); exact BK111.out))⟩; have n9_ : Aside0 (Below w.heap.size w w29) := ⟨(by rw [hw]; exact (belS HB.out))⟩; clear hw; clear HO_0; clear HO_9; clear HL106_0; clear HL106_1; clear HL110_0; clear HL110_1; clear HO109; clear HO114; clear BK111; clear HB; have HO_0 := n0_; have HO_9 := n1_; have HL106_0 := n2_; have HL106_1 := n3_; have HL110_0 := n4_; have HL110_1 := n5_; have HO109 := n6_; have HO114 := n7_; have BK111 := n8_; have HB := n9_; clear n0_ n1_ n2_ n3_ n4_ n5_ n6_ n7_ n8_ n9_; have hcz30_0 : w29.cell? ⟨gb111, 0, none⟩ = some (.slice Ao27 y112.length co27) := (blk_cell BK111.out 0).trans rfl; have hcz30_1 : w29.cell? ⟨gb111, 1, none⟩ = some (.slice none 0 0) := (blk_cell BK111.out 1).trans rfl; have hcz30_2 : w29.cell? ⟨gb111, 2, none⟩ = some (.bool true) := (blk_cell BK111.out 2).trans rfl; have hfz30_0 := blk_frozen BK111.out 0; have hfz30_1 := blk_frozen BK111.out 1; have hfz30_2 := blk_frozen BK111.out 2) | ((with_reducible refine gate_builtin (b := .append) (xs := #[.tmp 53, .tmp 55]) rfl ?_); at_builtin; refine Kd.N_append k34 (w0 := w) w.heap.size rfl (.tmp 53) (.tmp 55) 22 34 (.agg #[(.slice none 0 0), (.slice none 0 0), (.bool false)]) 56 rfl Try.underlying22 info34 rfl (by decide) (by omega) u9 x9_1 (⟨y112, ([] : List Int), true⟩ : S34) [.slice Ao27 y112.length co27, .slice none 0 0, .bool true] (fun k_ => (P0_ k_ ∨ w.heap.size ≤ k_) ∧ k_ ≠ gb111) (fun k_ => ((fun k_ => (P0_ k_ ∨ w.heap.size ≤ k_) ∧ k_ ≠ gb111)) k_ ∧ some k_ ≠ (u9 : Value).ownBlock) rfl rfl ?aP (fun _ hk => hk) ?aF ?aO ?aB ?aS ?aL ?_; (case aP => exact (k34_mkF _ _ (⟨y112, ([] : List Int), true⟩ : S34) (Kd.R_reads' (Kd.R_mono (ok' := (fun k_ => ((fun k_ => (P0_ k_ ∨ w.heap.size ≤ k_) ∧ k_ ≠ gb111)) k_ ∧ some k_ ≠ (u9 : Value).ownBlock)) (Kd.R_types (Kd.R_apart' (HO114.out) (Kd.N_typed HO_9.out) (by decide)) BK111.out (by decide)) (fun k_ hk => ⟨⟨(.inr (hk.1.1)), hk.2⟩, hk.1.2⟩))).2.1 (Kd.R_F (Kd.R_mono (ok' := (fun k_ => ((fun k_ => (P0_ k_ ∨ w.heap.size ≤ k_) ∧ k_ ≠ gb111)) k_ ∧ some k_ ≠ (u9 : Value).ownBlock)) (Kd.R_types (Kd.R_apart' (HO114.out) (Kd.N_typed HO_9.out) (by decide)) BK111.out (by decide)) (fun k_ hk => ⟨⟨(.inr (hk.1.1)), hk.2⟩, hk.1.2⟩))) (Nat.le_refl _) (Kd.F_nil _ _ _))); (case aB => exact (belS HB.out)); (case aF => exact (fun k_ hk => ⟨(.inr (Nat.le_trans (below_size (belS HB.out)) hk)), Kd.freshB (g := gb111) (o := .cells #[.slice Ao27 y112.length co27, .slice none 0 0, .bool true] 34 (0, 0)) (blkN BK111.out) k_ hk⟩)); (case aO => exact (by (with_reducible repeat (first | apply Kd.N_alloc | apply Kd.N_drewN | apply Kd.N_drew)); exact Kd.N_mono HO_9.out (fun _ hk => ⟨hk.1, hk.2.2⟩))); (case aS => exact (below_size (belS HB.out))); (case aL => have := LMc14.out; omega); intro v116 w31 ho hb hg hat; rw [← Ny115.out] at ho; have n0_ := Aside0.mk (Kd.V_afterv (ok := (fun k_ => (P0_ k_ ∨ w.heap.size ≤ k_) ∧ some k_ ≠ (.slice Ao27 y112.length co27 : Value).ownBlock ∧ k_ ≠ gb111)) (by (with_reducible repeat (first | apply Kd.V_alloc | apply Kd.V_drewN | apply Kd.V_drew)); exact Kd.V_mono HO_0.out (fun _ hk => ⟨⟨hk.1, ⟨hk.2.2.1, hk.2.2.2⟩⟩, hk.2.1⟩)) hg hat); have n1_ := Aside0.mk (Kd.V_afterv (ok := (fun k_ => (P0_ k_ ∨ w.heap.size ≤ k_) ∧ some k_ ≠ (.slice Ao27 y112.length co27 : Value).ownBlock ∧ k_ ≠ gb111)) (by (with_reducible repeat (first | apply Kd.V_alloc | apply Kd.V_drewN | apply Kd.V_drew)); exact Kd.V_mono HL106_0.out (fun _ hk => ⟨⟨hk.1, ⟨hk.2.2.1, hk.2.2.2⟩⟩, hk.2.1⟩)) hg hat); have n2_ := Aside0.mk (Kd.V_afterv (ok := (fun k_ => (P0_ k_ ∨ w.heap.size ≤ k_) ∧ some k_ ≠ (.slice Ao27 y112.length co27 : Value).ownBlock ∧ k_ ≠ gb111)) (by (with_reducible repeat (first | apply Kd.V_alloc | apply Kd.V_drewN | apply Kd.V_drew)); exact Kd.V_mono HL106_1.out (fun _ hk => ⟨⟨hk.1, ⟨hk.2.2.1, hk.2.2.2⟩⟩, hk.2.1⟩)) hg hat); have n3_ := Aside0.mk (Kd.V_afterv (ok := (fun k_ => (P0_ k_ ∨ w.heap.size ≤ k_) ∧ some k_ ≠ (.slice Ao27 y112.length co27 : Value).ownBlock ∧ k_ ≠ gb111)) (by (with_reducible repeat (first | apply Kd.V_alloc | apply Kd.V_drewN | apply Kd.V_drew)); exact Kd.V_mono HL110_0.out (fun _ hk => ⟨⟨hk.1, ⟨hk.2.2.1, hk.2.2.2⟩⟩, hk.2.1⟩)) hg hat); have n4_ := Aside0.mk (Kd.V_afterv (ok := (fun k_ => (P0_ k_ ∨ w.heap.size ≤ k_) ∧ some k_ ≠ (.slice Ao27 y112.length co27 : Value).ownBlock ∧ k_ ≠ gb111)) (by (with_reducible repeat (first | apply Kd.V_alloc | apply Kd.V_drewN | apply Kd.V_drew)); exact Kd.V_mono HL110_1.out (fun _ hk => ⟨⟨hk.1, ⟨hk.2.2.1, hk.2.2.2⟩⟩, hk.2.1⟩)) hg hat); have n5_ := Aside0.mk (Kd.V_afterv (ok := (fun k_ => (P0_ k_ ∨ w.heap.size ≤ k_) ∧ some k_ ≠ (.slice Ao27 y112.length co27 : Value).ownBlock ∧ k_ ≠ gb111)) (by (with_reducible repeat (first | apply Kd.V_alloc | apply Kd.V_drewN | apply Kd.V_drew)); exact Kd.V_mono HO109.out (fun _ hk => ⟨⟨hk.1, ⟨hk.2.2.1, hk.2.2.2⟩⟩, hk.2.1⟩)) hg hat); have n6_ := Aside0.mk (blk_grown (g := gb111) (o := .cells #[.slice Ao27 y112.length co27, .slice none 0 0, .bool true] 34 (0, 0)) (blkN BK111.out) hg (Kd.N_away HO_9.out (fun _ hk => hk.2.2))); have n7_ := Aside0.mk (hb); have n8_ := Aside0.mk (ho); clear HO_0; clear HL106_0; clear HL106_1; clear HL110_0; clear HL110_1; clear HO109; clear BK111; clear HB; clear HO_9; clear HO114; have HO_0 := n0_; have HL106_0 := n1_; have HL106_1 := n2_; have HL110_0 := n3_; have HL110_1 := n4_; have HO109 := n5_; have BK111 := n6_; have HB := n7_; have HO117 := n8_; clear n0_ n1_ n2_ n3_ n4_ n5_ n6_ n7_ n8_; clear ho hb hg hat))
           go_roundg kj4
           case measure => have := HK1.out; have := HJ4.out; omega
           case rel => exact ⟨(y115), (wrap64 (x10_1 + 1)), (by first | rfl | (simp; done) | (simp [*]; done)), H', ⟨by have := HK1.out; have := HJ4.out; omega⟩, ⟨by (with_reducible repeat (first | apply Kd.V_alloc | apply Kd.V_drewN | apply Kd.V_drew)); exact Kd.V_mono HO_0.out (fun _ hk => ⟨hk.1.1, hk.2⟩)⟩, ⟨by (with_reducible repeat (first | apply Kd.N_alloc | apply Kd.N_drewN | apply Kd.N_drew)); exact Kd.N_mono HO117.out (fun _ hk => hk.1)⟩, ⟨(belS HB.out)⟩⟩
          ·rw [if_neg c14] at H
           exact absurd H (by simp)
         ·replace c13 := Bool.eq_false_iff.mpr c13
          subst c13
          have H1 : ((marigraphkeep_Cut.f ((rd_T34 l0 x10_1).f1) a3).bind fun t119 => (if x9_1.length < 2513169434916 then (marigraphkeep_Entries.l0 kj4 l0 a1 a2 a3 (x9_1 ++ [(⟨y112, t119, false⟩ : S34)]) (wrap64 (x10_1 + 1))) else (none))) = some r := by rw [if_neg (show ¬ (false = true) by decide)] at H; exact H
          clear H
          have H := H1
          clear H1
          replace H := Option.bind_eq_some_iff.mp H
          obtain ⟨t119, A320, H⟩ := H
          replace H : (if x9_1.length < 2513169434916 then (marigraphkeep_Entries.l0 kj4 l0 a1 a2 a3 (x9_1 ++ [(⟨y112, t119, false⟩ : S34)]) (wrap64 (x10_1 + 1))) else (none)) = some r := H
          have A32 := Aside0.mk A320
          clear A320
          by_cases c33 : x9_1.length < 2513169434916
          ·rw [if_pos c33] at H
           have LMc33 := Aside0.mk c33
           clear c33
           obtain ⟨y122, hy122⟩ : ∃ y_ : List (S34), y_ = (x9_1 ++ [(⟨y112, t119, false⟩ : S34)]) := ⟨_, rfl⟩
           replace H : (marigraphkeep_Entries.l0 kj4 l0 a1 a2 a3 y122 (wrap64 (x10_1 + 1))) = some r := by first | (rw [hy122]; with_reducible exact H) | (have H2_ := (Option.bind_some _ _).symm.trans H; rw [hy122]; with_reducible exact H2_) | (have H2_ := (Option.bind_some _ _).symm.trans H; with_reducible exact H2_) | with_reducible exact H | (rw [hy122]; exact H) | exact H
           have Ny122 := Aside0.mk hy122
           clear hy122
           have H' := Aside0.mk H
           clear H
           try go_wp2
           have n0_ := Aside0.mk (Kd.V_drew HO_0.out)
           have n1_ := Aside0.mk (Kd.N_drew HO_9.out)
           have n2_ := Aside0.mk (below_drew1 HB.out)
           clear HO_0
           clear HO_9
           clear HB
           have HO_0 := n0_
           have HO_9 := n1_
           have HB := n2_
           clear n0_ n1_ n2_
           have p106 : 0 ≤ (x10_1 : Int) := of_decide_eq_true (by first | (with_reducible assumption) | assumption)
           have q106 : x10_1 < (l0.length : Int) := of_decide_eq_true (by first | (with_reducible assumption) | assumption)
           obtain ⟨ad106, A106_0, c106_0, A106_1, c106_1, e106, hx106_0, hx106_1, hx106_2, hl106_0, hi106_0, hl106_1, hi106_1⟩ := at_T34 (Kd.V_reads' HO_0.out).2.2 x10_1 p106 q106
           (try rw [← Nbq12.out] at hx106_2)
           cases e106
           obtain ⟨ce106, hce106, hMe106, hcc106⟩ := Kd.V_get HO_0.out z34 x10_1 p106 (by first | exact q106 | exact of_decide_eq_true (by first | (with_reducible assumption) | assumption) | (have e_ := (Kd.V_reads' HO_0.out).1; omega))
           obtain ⟨ua106_0, uc106_0, ua106_1, uc106_1, rfl, ul106_0, ge106_0, ul106_1, ge106_1⟩ := k34_openF hMe106
           have hv106_0 := hcc106 0 _ rfl
           rw [Nat.add_zero] at hv106_0
           replace hv106_0 := Option.some.inj (hv106_0.symm.trans hx106_0)
           injection hv106_0 with hva_ hvn_ hvc_
           rw [hva_] at ge106_0
           rw [hvc_] at ul106_0
           have HL106_0 := Aside0.mk (show Kd.V (Kd.int .u8) 5 _ w.heap.size _ _ ((rd_T34 l0 x10_1).f0) from Kd.V_mk ul106_0 ge106_0)
           clear hva_ hvn_ hvc_ ge106_0 ul106_0
           have hv106_1 := hcc106 1 _ rfl
           rw [add_field _ _ 1 (by omega)] at hv106_1
           replace hv106_1 := Option.some.inj (hv106_1.symm.trans hx106_1)
           injection hv106_1 with hva_ hvn_ hvc_
           rw [hva_] at ge106_1
           rw [hvc_] at ul106_1
           have HL106_1 := Aside0.mk (show Kd.V (Kd.int .u8) 5 _ w.heap.size _ _ ((rd_T34 l0 x10_1).f1) from Kd.V_mk ul106_1 ge106_1)
           clear hva_ hvn_ hvc_ ge106_1 ul106_1
           clear hcc106 hce106
           have HR106_0 := Aside0.mk hi106_0
           have HC106_0 := Aside0.mk hl106_0
           clear hi106_0 hl106_0
           have HR106_1 := Aside0.mk hi106_1
           have HC106_1 := Aside0.mk hl106_1
           clear hi106_1 hl106_1
           replace p106 := eq_true p106
           replace q106 := eq_true q106
           have p110 : 0 ≤ (x10_1 : Int) := of_decide_eq_true (by first | (with_reducible assumption) | assumption)
           have q110 : x10_1 < (l0.length : Int) := of_decide_eq_true (by first | (with_reducible assumption) | assumption)
           obtain ⟨ad110, A110_0, c110_0, A110_1, c110_1, e110, hx110_0, hx110_1, hx110_2, hl110_0, hi110_0, hl110_1, hi110_1⟩ := at_T34 (Kd.V_reads' HO_0.out).2.2 x10_1 p110 q110
           (try rw [← Nbq12.out] at hx110_2)
           obtain rfl : ad106 = ad110 := (by injection e110)
           obtain ⟨ce110, hce110, hMe110, hcc110⟩ := Kd.V_get HO_0.out z34 x10_1 p110 (by first | exact q110 | exact of_decide_eq_true (by first | (with_reducible assumption) | assumption) | (have e_ := (Kd.V_reads' HO_0.out).1; omega))
           obtain ⟨ua110_0, uc110_0, ua110_1, uc110_1, rfl, ul110_0, ge110_0, ul110_1, ge110_1⟩ := k34_openF hMe110
           have hv110_0 := hcc110 0 _ rfl
           rw [Nat.add_zero] at hv110_0
           replace hv110_0 := Option.some.inj (hv110_0.symm.trans hx110_0)
           injection hv110_0 with hva_ hvn_ hvc_
           rw [hva_] at ge110_0
           rw [hvc_] at ul110_0
           have HL110_0 := Aside0.mk (show Kd.V (Kd.int .u8) 5 _ w.heap.size _ _ ((rd_T34 l0 x10_1).f0) from Kd.V_mk ul110_0 ge110_0)
           clear hva_ hvn_ hvc_ ge110_0 ul110_0
           have hv110_1 := hcc110 1 _ rfl
           rw [add_field _ _ 1 (by omega)] at hv110_1
           replace hv110_1 := Option.some.inj (hv110_1.symm.trans hx110_1)
           injection hv110_1 with hva_ hvn_ hvc_
           rw [hva_] at ge110_1
           rw [hvc_] at ul110_1
           have HL110_1 := Aside0.mk (show Kd.V (Kd.int .u8) 5 _ w.heap.size _ _ ((rd_T34 l0 x10_1).f1) from Kd.V_mk ul110_1 ge110_1)
           clear hva_ hvn_ hvc_ ge110_1 ul110_1
           clear hcc110 hce110
           have HR110_0 := Aside0.mk hi110_0
           have HC110_0 := Aside0.mk hl110_0
           clear hi110_0 hl110_0
           have HR110_1 := Aside0.mk hi110_1
           have HC110_1 := Aside0.mk hl110_1
           clear hi110_1 hl110_1
           replace p110 := eq_true p110
           replace q110 := eq_true q110
           have ea_ := Option.some.inj (hx106_0.symm.trans hx110_0)
           injection ea_ with ea_ en_ ec_
           subst ea_
           subst ec_
           clear en_
           have ea_ := Option.some.inj (hx106_1.symm.trans hx110_1)
           injection ea_ with ea_ en_ ec_
           subst ea_
           subst ec_
           clear en_
           refine start_ (n := 15) (S := fun w' => w'.cell? (ad106.add ((x10_1).toNat * 3)) = some (.slice A106_0 ((rd_T34 l0 x10_1).f0).length c106_0) ∧ w'.cell? ⟨(ad106.add ((x10_1).toNat * 3)).block, (ad106.add ((x10_1).toNat * 3)).off + 1, none⟩ = some (.slice A106_1 ((rd_T34 l0 x10_1).f1).length c106_1) ∧ w'.cell? ⟨(ad106.add ((x10_1).toNat * 3)).block, (ad106.add ((x10_1).toNat * 3)).off + 2, none⟩ = some (.bool false) ∧ w'.cell? (ad106.add ((x10_1).toNat * 3)) = some (.slice A106_0 ((rd_T34 l0 x10_1).f0).length c106_0) ∧ w'.cell? ⟨(ad106.add ((x10_1).toNat * 3)).block, (ad106.add ((x10_1).toNat * 3)).off + 1, none⟩ = some (.slice A106_1 ((rd_T34 l0 x10_1).f1).length c106_1) ∧ w'.cell? ⟨(ad106.add ((x10_1).toNat * 3)).block, (ad106.add ((x10_1).toNat * 3)).off + 2, none⟩ = some (.bool false)) (ds := []) #[false, false, false, false, false, false, false, false, false, false, false, false, false, false, false] (by kernel_rfl) rfl rfl ⟨hx106_0, hx106_1, hx106_2, hx110_0, hx110_1, hx110_2⟩ (fun hHeld => ?_); refine with_tabW marigraphkeep_Entries.tab5 marigraphkeep_Entries.bits5 (fun HT_ HW_ => ?_)
           generalize wc.drew = w34 at HO_0 HO_9 HB HL106_0 HL106_1 HL110_0 HL110_1 HR106_0 HR106_1 HR110_0 HR110_1 hx106_0 hx106_1 hx106_2 hx110_0 hx110_1 hx110_2 hHeld ⊢
           refine pA 0 (some 23) (bA 15 1) HT_.out ?_
           refine pA 1 (some 24) (bA 15 3) HT_.out ?_
           refine pA 2 (some 25) (bA 15 7) HT_.out ?_
           refine pA 3 (some 26) (bA 15 15) HT_.out ?_
           refine pA 5 (some 28) (bA 15 47) HT_.out ?_
           refine pA 7 (some 30) (bA 15 175) HT_.out ?_
           refine pA 8 (some 31) (bA 15 431) HT_.out ?_
           refine pA 9 (some 32) (bA 15 943) HT_.out ?_
           refine pA 10 (some 33) (bA 15 1967) HT_.out ?_
           refine take_ (i := 4) (N := some 27) (v := ?_) (a' := ?_) (bA 15 1983) rfl rfl (take_ofW HT_.out HW_.out (by kernel_rfl)) (fun _ _ _ h => h) (Or.inl ⟨by rfl, ?_⟩) hHeld ?_ ?_
           rotate_left
           ·rintro w' ⟨s0, s1, s2, s3, s4, s5⟩
            go_simp
            with_reducible rfl
           rotate_left
           ·simp only [Act.put, List.setIfInBounds_toArray, List.set_cons_zero, List.set_cons_succ, i64_w, i32_w]
            rfl
           refine take_ (i := 11) (N := some 34) (v := ?_) (a' := ?_) (bA 15 4031) rfl rfl (take_ofW HT_.out HW_.out (by kernel_rfl)) (fun _ _ _ h => h) (Or.inl ⟨by rfl, ?_⟩) hHeld ?_ ?_
           rotate_left
           ·rintro w' ⟨s0, s1, s2, s3, s4, s5⟩
            go_simp
            with_reducible rfl
           rotate_left
           ·simp only [Act.put, List.setIfInBounds_toArray, List.set_cons_zero, List.set_cons_succ, i64_w, i32_w]
            rfl
           refine join_ (σ := Value × Nat) 1 (bA 15 16383) (fun s_ => [(29, s_.1), (11, .pointer (some ⟨s_.2, 0, none⟩)), (35, .agg #[s_.1, .slice none 0 0, .bool false])]) (fun s_ w' => (w'.cell? (ad106.add ((x10_1).toNat * 3)) = some (.slice A106_0 ((rd_T34 l0 x10_1).f0).length c106_0) ∧ w'.cell? ⟨(ad106.add ((x10_1).toNat * 3)).block, (ad106.add ((x10_1).toNat * 3)).off + 1, none⟩ = some (.slice A106_1 ((rd_T34 l0 x10_1).f1).length c106_1) ∧ w'.cell? ⟨(ad106.add ((x10_1).toNat * 3)).block, (ad106.add ((x10_1).toNat * 3)).off + 2, none⟩ = some (.bool false) ∧ w'.cell? (ad106.add ((x10_1).toNat * 3)) = some (.slice A106_0 ((rd_T34 l0 x10_1).f0).length c106_0) ∧ w'.cell? ⟨(ad106.add ((x10_1).toNat * 3)).block, (ad106.add ((x10_1).toNat * 3)).off + 1, none⟩ = some (.slice A106_1 ((rd_T34 l0 x10_1).f1).length c106_1) ∧ w'.cell? ⟨(ad106.add ((x10_1).toNat * 3)).block, (ad106.add ((x10_1).toNat * 3)).off + 2, none⟩ = some (.bool false)) ∧ (Kd.V (Kd.int .u8) 5 w' w.heap.size (fun k_ => (P0_ k_ ∨ w.heap.size ≤ k_) ∧ some k_ ≠ (u9 : Value).ownBlock ∧ k_ ≠ s_.2) (.slice A106_0 ((rd_T34 l0 x10_1).f0).length c106_0) ((rd_T34 l0 x10_1).f0)) ∧ (Kd.V (Kd.int .u8) 5 w' w.heap.size (fun k_ => (P0_ k_ ∨ w.heap.size ≤ k_) ∧ some k_ ≠ (u9 : Value).ownBlock ∧ k_ ≠ s_.2) (.slice A106_1 ((rd_T34 l0 x10_1).f1).length c106_1) ((rd_T34 l0 x10_1).f1)) ∧ (Kd.V (Kd.int .u8) 5 w' w.heap.size (fun k_ => (P0_ k_ ∨ w.heap.size ≤ k_) ∧ some k_ ≠ (u9 : Value).ownBlock ∧ k_ ≠ s_.2) (.slice A106_0 ((rd_T34 l0 x10_1).f0).length c106_0) ((rd_T34 l0 x10_1).f0)) ∧ (Kd.V (Kd.int .u8) 5 w' w.heap.size (fun k_ => (P0_ k_ ∨ w.heap.size ≤ k_) ∧ some k_ ≠ (u9 : Value).ownBlock ∧ k_ ≠ s_.2) (.slice A106_1 ((rd_T34 l0 x10_1).f1).length c106_1) ((rd_T34 l0 x10_1).f1)) ∧ (Kd.V (Kd.int .u8) 5 w' w.heap.size (fun k_ => (P0_ k_ ∨ w.heap.size ≤ k_) ∧ some k_ ≠ (u9 : Value).ownBlock ∧ k_ ≠ s_.2) s_.1 t107) ∧ (Kd.V k34 34 w' w.heap.size (fun k_ => (P0_ k_ ∨ w.heap.size ≤ k_) ∧ some k_ ≠ (u9 : Value).ownBlock ∧ k_ ≠ s_.2) (.slice (some ad106) l0.length c0) l0) ∧ (Kd.N k34 34 w' w.heap.size (fun k_ => (P0_ k_ ∨ w.heap.size ≤ k_) ∧ k_ ≠ s_.2) u9 x9_1) ∧ (w'.heap[s_.2]? = some (.cells #[.slice none 0 0, .slice none 0 0, .bool false] 34 (0, 0))) ∧ (w.heap.size ≤ s_.2) ∧ (w.heap.size ≤ s_.2) ∧ (Below w.heap.size w w')) ?_ ?_
           rotate_left
           ·intro hCont
            refine two_ (i := 6) (j := 13) (Ni := some 29) (Nj := some 11) (bA 15 4095) (bA 15 12223) rfl rfl rfl rfl (two_of HT_.out (by kernel_rfl)) (by decide) (by decide) (fun K hK => ?_) (fun K hK => ?_)
            ·skip
             refine goes_ Try.func20 (by kernel_rfl) rfl #[.slice A106_0 ((rd_T34 l0 x10_1).f0).length c106_0, .int .i64 a2] (by rfl) rfl rfl argN ?_
             with_reducible refine (marigraphkeep_Cut.calls (fun k_ => ((P0_ k_ ∨ w.heap.size ≤ k_) ∧ some k_ ≠ (u9 : Value).ownBlock)) _ _ ((rd_T34 l0 x10_1).f0) a2 t107 _ ?side1 A10.out).mono ?_
             (case side1 => exact HL106_0.out)
             rintro e w35 ⟨v108, rfl, ho0, hb⟩
             have HS0_ := (hb.cell (World.block_lt_of_cell? _ _ (hHeld.1))).trans (hHeld.1)
             have HS1_ := (hb.cell (World.block_lt_of_cell? _ _ (hHeld.2.1))).trans (hHeld.2.1)
             have HS2_ := (hb.cell (World.block_lt_of_cell? _ _ (hHeld.2.2.1))).trans (hHeld.2.2.1)
             have HS3_ := (hb.cell (World.block_lt_of_cell? _ _ (hHeld.2.2.2.1))).trans (hHeld.2.2.2.1)
             have HS4_ := (hb.cell (World.block_lt_of_cell? _ _ (hHeld.2.2.2.2.1))).trans (hHeld.2.2.2.2.1)
             have HS5_ := (hb.cell (World.block_lt_of_cell? _ _ (hHeld.2.2.2.2.2))).trans (hHeld.2.2.2.2.2)
             refine ⟨_, rfl, ?_⟩
             have n0_ := Aside0.mk (Kd.V_below (by (with_reducible repeat (first | apply Kd.V_alloc | apply Kd.V_drewN | apply Kd.V_drew)); exact HO_0.out) hb)
             have n1_ := Aside0.mk (Kd.N_below (by (with_reducible repeat (first | apply Kd.N_alloc | apply Kd.N_drewN | apply Kd.N_drew)); exact HO_9.out) hb)
             have n2_ := Aside0.mk (Kd.V_below (by (with_reducible repeat (first | apply Kd.V_alloc | apply Kd.V_drewN | apply Kd.V_drew)); exact HL106_0.out) hb)
             have n3_ := Aside0.mk (Kd.V_below (by (with_reducible repeat (first | apply Kd.V_alloc | apply Kd.V_drewN | apply Kd.V_drew)); exact HL106_1.out) hb)
             have n4_ := Aside0.mk (Kd.V_below (by (with_reducible repeat (first | apply Kd.V_alloc | apply Kd.V_drewN | apply Kd.V_drew)); exact HL110_0.out) hb)
             have n5_ := Aside0.mk (Kd.V_below (by (with_reducible repeat (first | apply Kd.V_alloc | apply Kd.V_drewN | apply Kd.V_drew)); exact HL110_1.out) hb)
             have n6_ := Aside0.mk (Kd.V_lower (Kd.V_mono (ok' := fun k_ => (P0_ k_ ∨ w.heap.size ≤ k_) ∧ some k_ ≠ (u9 : Value).ownBlock) ho0 (fun k_ hk_ => ⟨Or.elim hk_ (fun hs_ => hs_.1) (fun hn_ => (.inr (Nat.le_trans (below_size (belN HB.out)) hn_))), Or.elim hk_ (fun hs_ => hs_.2) (fun hn_ => (Kd.fresh' (Kd.N_lt (by (with_reducible repeat (first | apply Kd.N_alloc | apply Kd.N_drewN | apply Kd.N_drew)); exact HO_9.out)) k_ hn_))⟩)) (below_size (belN HB.out)))
             have n7_ := Aside0.mk (cbN HR106_0.out hb)
             have n8_ := Aside0.mk (cbN HR106_1.out hb)
             have n9_ := Aside0.mk (cbN HR110_0.out hb)
             have n10_ := Aside0.mk (cbN HR110_1.out hb)
             have n11_ := Aside0.mk (below_step (belN HB.out) hb)
             clear HO_0
             clear HO_9
             clear HL106_0
             clear HL106_1
             clear HL110_0
             clear HL110_1
             clear HR106_0
             clear HR106_1
             clear HR110_0
             clear HR110_1
             clear HB
             have HO_0 := n0_
             have HO_9 := n1_
             have HL106_0 := n2_
             have HL106_1 := n3_
             have HL110_0 := n4_
             have HL110_1 := n5_
             have HO109 := n6_
             have HR106_0 := n7_
             have HR106_1 := n8_
             have HR110_0 := n9_
             have HR110_1 := n10_
             have HB := n11_
             clear n0_ n1_ n2_ n3_ n4_ n5_ n6_ n7_ n8_ n9_ n10_ n11_
             (try clear hb)
             (try clear hk)
             (try clear ho0)
             obtain ⟨Ao36, co36, eo36⟩ := Kd.V_slice HO109.out
             (first | subst eo36 | (injection eo36 with f1_ f2_ f3_; have f4_ := f1_.symm; have f5_ := f3_.symm; clear f1_ f2_ f3_; subst f4_; subst f5_))
             refine hK.out _ _ ⟨HS0_, HS1_, HS2_, HS3_, HS4_, HS5_⟩ (fun hHeld => ?_)
             clear hK K
             refine norm_ (a' := ?_) ?_ ?_
             rotate_left
             ·show Act.put _ (some 29) _ = _
              simp only [Act.put, List.setIfInBounds_toArray, List.set_cons_zero, List.set_cons_succ, i64_w, i32_w]
              rfl
             refine pA 12 (some 35) (bA 15 8191) HT_.out ?_
             refine one_ (i := 13) (N := some 11) (bA 15 16383) rfl rfl (one_of HT_.out (by kernel_rfl)) (by decide) (fun K hK => ?_)
             refine box_step ?hg (N := 11) ?hd (cs := #[.slice none 0 0, .slice none 0 0, .bool false]) (t := 34) ?hr ?_; (case hd => rfl); (case hg => rfl); (case hr => first | (go_simp; done) | (go_simp; rfl))
             intro gb111 hg w37 hbox hb
             have HS0_ := (hb.cell (World.block_lt_of_cell? _ _ (hHeld.1))).trans (hHeld.1)
             have HS1_ := (hb.cell (World.block_lt_of_cell? _ _ (hHeld.2.1))).trans (hHeld.2.1)
             have HS2_ := (hb.cell (World.block_lt_of_cell? _ _ (hHeld.2.2.1))).trans (hHeld.2.2.1)
             have HS3_ := (hb.cell (World.block_lt_of_cell? _ _ (hHeld.2.2.2.1))).trans (hHeld.2.2.2.1)
             have HS4_ := (hb.cell (World.block_lt_of_cell? _ _ (hHeld.2.2.2.2.1))).trans (hHeld.2.2.2.2.1)
             have HS5_ := (hb.cell (World.block_lt_of_cell? _ _ (hHeld.2.2.2.2.2))).trans (hHeld.2.2.2.2.2)
             have n0_ := Aside0.mk (Kd.V_below (Kd.V_elderB (by (with_reducible repeat (first | apply Kd.V_alloc | apply Kd.V_drewN | apply Kd.V_drew)); exact HO_0.out) gb111 (Nat.le_of_eq hg.symm)) hb)
             have n1_ := Aside0.mk (Kd.N_below (Kd.N_elderB (by (with_reducible repeat (first | apply Kd.N_alloc | apply Kd.N_drewN | apply Kd.N_drew)); exact HO_9.out) gb111 (Nat.le_of_eq hg.symm)) hb)
             have n2_ := Aside0.mk (Kd.V_below (Kd.V_elderB (by (with_reducible repeat (first | apply Kd.V_alloc | apply Kd.V_drewN | apply Kd.V_drew)); exact HL106_0.out) gb111 (Nat.le_of_eq hg.symm)) hb)
             have n3_ := Aside0.mk (Kd.V_below (Kd.V_elderB (by (with_reducible repeat (first | apply Kd.V_alloc | apply Kd.V_drewN | apply Kd.V_drew)); exact HL106_1.out) gb111 (Nat.le_of_eq hg.symm)) hb)
             have n4_ := Aside0.mk (Kd.V_below (Kd.V_elderB (by (with_reducible repeat (first | apply Kd.V_alloc | apply Kd.V_drewN | apply Kd.V_drew)); exact HL110_0.out) gb111 (Nat.le_of_eq hg.symm)) hb)
             have n5_ := Aside0.mk (Kd.V_below (Kd.V_elderB (by (with_reducible repeat (first | apply Kd.V_alloc | apply Kd.V_drewN | apply Kd.V_drew)); exact HL110_1.out) gb111 (Nat.le_of_eq hg.symm)) hb)
             have n6_ := Aside0.mk (Kd.V_below (Kd.V_elderB (by (with_reducible repeat (first | apply Kd.V_alloc | apply Kd.V_drewN | apply Kd.V_drew)); exact HO109.out) gb111 (Nat.le_of_eq hg.symm)) hb)
             have n7_ := Aside0.mk (cbN HR106_0.out hb)
             have n8_ := Aside0.mk (cbN HR106_1.out hb)
             have n9_ := Aside0.mk (cbN HR110_0.out hb)
             have n10_ := Aside0.mk (cbN HR110_1.out hb)
             have n11_ := Aside0.mk (below_step (belN HB.out) hb)
             have n12_ := Aside0.mk (hbox)
             have n13_ := Aside0.mk (szB hg HB.out)
             have n14_ := Aside0.mk (szB hg HB.out)
             clear HO_0
             clear HO_9
             clear HL106_0
             clear HL106_1
             clear HL110_0
             clear HL110_1
             clear HO109
             clear HR106_0
             clear HR106_1
             clear HR110_0
             clear HR110_1
             clear HB
             have HO_0 := n0_
             have HO_9 := n1_
             have HL106_0 := n2_
             have HL106_1 := n3_
             have HL110_0 := n4_
             have HL110_1 := n5_
             have HO109 := n6_
             have HR106_0 := n7_
             have HR106_1 := n8_
             have HR110_0 := n9_
             have HR110_1 := n10_
             have HB := n11_
             have BK111 := n12_
             have GW111 := n13_
             have GE111 := n14_
             clear n0_ n1_ n2_ n3_ n4_ n5_ n6_ n7_ n8_ n9_ n10_ n11_ n12_ n13_ n14_
             clear hb hbox hg
             refine hK.out _ _ ⟨HS0_, HS1_, HS2_, HS3_, HS4_, HS5_⟩ (fun hHeld => ?_)
             clear hK K
             refine norm_ (a' := ?_) ?_ ?_
             rotate_left
             ·show Act.put _ (some 11) _ = _
              simp only [Act.put, List.setIfInBounds_toArray, List.set_cons_zero, List.set_cons_succ, i64_w, i32_w]
              rfl
             exact norm_ (by simp only [putAll, Act.put, List.setIfInBounds_toArray, List.set_cons_zero, List.set_cons_succ]) (hCont (.slice Ao36 t107.length co36, gb111) _ ⟨hHeld, (by (with_reducible repeat (first | apply Kd.V_alloc | apply Kd.V_drewN | apply Kd.V_drew)); exact Kd.V_mono HL106_0.out (fun _ hk => ⟨hk.1.1, ⟨hk.1.2, hk.2⟩⟩)), (by (with_reducible repeat (first | apply Kd.V_alloc | apply Kd.V_drewN | apply Kd.V_drew)); exact Kd.V_mono HL106_1.out (fun _ hk => ⟨hk.1.1, ⟨hk.1.2, hk.2⟩⟩)), (by (with_reducible repeat (first | apply Kd.V_alloc | apply Kd.V_drewN | apply Kd.V_drew)); exact Kd.V_mono HL110_0.out (fun _ hk => ⟨hk.1.1, ⟨hk.1.2, hk.2⟩⟩)), (by (with_reducible repeat (first | apply Kd.V_alloc | apply Kd.V_drewN | apply Kd.V_drew)); exact Kd.V_mono HL110_1.out (fun _ hk => ⟨hk.1.1, ⟨hk.1.2, hk.2⟩⟩)), (by (with_reducible repeat (first | apply Kd.V_alloc | apply Kd.V_drewN | apply Kd.V_drew)); exact Kd.V_mono HO109.out (fun _ hk => ⟨hk.1.1, ⟨hk.1.2, hk.2⟩⟩)), (by (with_reducible repeat (first | apply Kd.V_alloc | apply Kd.V_drewN | apply Kd.V_drew)); exact Kd.V_mono HO_0.out (fun _ hk => ⟨hk.1.1, ⟨hk.1.2, hk.2⟩⟩)), (by (with_reducible repeat (first | apply Kd.N_alloc | apply Kd.N_drewN | apply Kd.N_drew)); exact HO_9.out), (blkN BK111.out), GW111.out, GE111.out, (belS HB.out)⟩)
            ·skip
             refine box_step ?hg (N := 11) ?hd (cs := #[.slice none 0 0, .slice none 0 0, .bool false]) (t := 34) ?hr ?_; (case hd => rfl); (case hg => rfl); (case hr => first | (go_simp; done) | (go_simp; rfl))
             intro gb111 hg w35 hbox hb
             have HS0_ := (hb.cell (World.block_lt_of_cell? _ _ (hHeld.1))).trans (hHeld.1)
             have HS1_ := (hb.cell (World.block_lt_of_cell? _ _ (hHeld.2.1))).trans (hHeld.2.1)
             have HS2_ := (hb.cell (World.block_lt_of_cell? _ _ (hHeld.2.2.1))).trans (hHeld.2.2.1)
             have HS3_ := (hb.cell (World.block_lt_of_cell? _ _ (hHeld.2.2.2.1))).trans (hHeld.2.2.2.1)
             have HS4_ := (hb.cell (World.block_lt_of_cell? _ _ (hHeld.2.2.2.2.1))).trans (hHeld.2.2.2.2.1)
             have HS5_ := (hb.cell (World.block_lt_of_cell? _ _ (hHeld.2.2.2.2.2))).trans (hHeld.2.2.2.2.2)
             have n0_ := Aside0.mk (Kd.V_below (Kd.V_elderB (by (with_reducible repeat (first | apply Kd.V_alloc | apply Kd.V_drewN | apply Kd.V_drew)); exact HO_0.out) gb111 (Nat.le_of_eq hg.symm)) hb)
             have n1_ := Aside0.mk (Kd.N_below (Kd.N_elderB (by (with_reducible repeat (first | apply Kd.N_alloc | apply Kd.N_drewN | apply Kd.N_drew)); exact HO_9.out) gb111 (Nat.le_of_eq hg.symm)) hb)
             have n2_ := Aside0.mk (Kd.V_below (Kd.V_elderB (by (with_reducible repeat (first | apply Kd.V_alloc | apply Kd.V_drewN | apply Kd.V_drew)); exact HL106_0.out) gb111 (Nat.le_of_eq hg.symm)) hb)
             have n3_ := Aside0.mk (Kd.V_below (Kd.V_elderB (by (with_reducible repeat (first | apply Kd.V_alloc | apply Kd.V_drewN | apply Kd.V_drew)); exact HL106_1.out) gb111 (Nat.le_of_eq hg.symm)) hb)
             have n4_ := Aside0.mk (Kd.V_below (Kd.V_elderB (by (with_reducible repeat (first | apply Kd.V_alloc | apply Kd.V_drewN | apply Kd.V_drew)); exact HL110_0.out) gb111 (Nat.le_of_eq hg.symm)) hb)
             have n5_ := Aside0.mk (Kd.V_below (Kd.V_elderB (by (with_reducible repeat (first | apply Kd.V_alloc | apply Kd.V_drewN | apply Kd.V_drew)); exact HL110_1.out) gb111 (Nat.le_of_eq hg.symm)) hb)
             have n6_ := Aside0.mk (cbN HR106_0.out hb)
             have n7_ := Aside0.mk (cbN HR106_1.out hb)
             have n8_ := Aside0.mk (cbN HR110_0.out hb)
             have n9_ := Aside0.mk (cbN HR110_1.out hb)
             have n10_ := Aside0.mk (below_step (belN HB.out) hb)
             have n11_ := Aside0.mk (hbox)
             have n12_ := Aside0.mk (szB hg HB.out)
             have n13_ := Aside0.mk (szB hg HB.out)
             clear HO_0
             clear HO_9
             clear HL106_0
             clear HL106_1
             clear HL110_0
             clear HL110_1
             clear HR106_0
             clear HR106_1
             clear HR110_0
             clear HR110_1
             clear HB
             have HO_0 := n0_
             have HO_9 := n1_
             have HL106_0 := n2_
             have HL106_1 := n3_
             have HL110_0 := n4_
             have HL110_1 := n5_
             have HR106_0 := n6_
             have HR106_1 := n7_
             have HR110_0 := n8_
             have HR110_1 := n9_
             have HB := n10_
             have BK111 := n11_
             have GW111 := n12_
             have GE111 := n13_
             clear n0_ n1_ n2_ n3_ n4_ n5_ n6_ n7_ n8_ n9_ n10_ n11_ n12_ n13_
             clear hb hbox hg
             refine hK.out _ _ ⟨HS0_, HS1_, HS2_, HS3_, HS4_, HS5_⟩ (fun hHeld => ?_)
             clear hK K
             refine norm_ (a' := ?_) ?_ ?_
             rotate_left
             ·show Act.put _ (some 11) _ = _
              simp only [Act.put, List.setIfInBounds_toArray, List.set_cons_zero, List.set_cons_succ, i64_w, i32_w]
              rfl
             refine one_ (i := 6) (N := some 29) (bA 15 12287) rfl rfl (one_of HT_.out (by kernel_rfl)) (by decide) (fun K hK => ?_)
             refine goes_ Try.func20 (by kernel_rfl) rfl #[.slice A106_0 ((rd_T34 l0 x10_1).f0).length c106_0, .int .i64 a2] (by rfl) rfl rfl argN ?_
             with_reducible refine (marigraphkeep_Cut.calls (fun k_ => (((P0_ k_ ∨ w.heap.size ≤ k_) ∧ some k_ ≠ (u9 : Value).ownBlock) ∧ k_ ≠ gb111)) _ _ ((rd_T34 l0 x10_1).f0) a2 t107 _ ?side1 A10.out).mono ?_
             (case side1 => exact HL106_0.out)
             rintro e w36 ⟨v108, rfl, ho0, hb⟩
             have HS0_ := (hb.cell (World.block_lt_of_cell? _ _ (hHeld.1))).trans (hHeld.1)
             have HS1_ := (hb.cell (World.block_lt_of_cell? _ _ (hHeld.2.1))).trans (hHeld.2.1)
             have HS2_ := (hb.cell (World.block_lt_of_cell? _ _ (hHeld.2.2.1))).trans (hHeld.2.2.1)
             have HS3_ := (hb.cell (World.block_lt_of_cell? _ _ (hHeld.2.2.2.1))).trans (hHeld.2.2.2.1)
             have HS4_ := (hb.cell (World.block_lt_of_cell? _ _ (hHeld.2.2.2.2.1))).trans (hHeld.2.2.2.2.1)
             have HS5_ := (hb.cell (World.block_lt_of_cell? _ _ (hHeld.2.2.2.2.2))).trans (hHeld.2.2.2.2.2)
             refine ⟨_, rfl, ?_⟩
             have n0_ := Aside0.mk (Kd.V_below (by (with_reducible repeat (first | apply Kd.V_alloc | apply Kd.V_drewN | apply Kd.V_drew)); exact HO_0.out) hb)
             have n1_ := Aside0.mk (Kd.N_below (by (with_reducible repeat (first | apply Kd.N_alloc | apply Kd.N_drewN | apply Kd.N_drew)); exact HO_9.out) hb)
             have n2_ := Aside0.mk (Kd.V_below (by (with_reducible repeat (first | apply Kd.V_alloc | apply Kd.V_drewN | apply Kd.V_drew)); exact HL106_0.out) hb)
             have n3_ := Aside0.mk (Kd.V_below (by (with_reducible repeat (first | apply Kd.V_alloc | apply Kd.V_drewN | apply Kd.V_drew)); exact HL106_1.out) hb)
             have n4_ := Aside0.mk (Kd.V_below (by (with_reducible repeat (first | apply Kd.V_alloc | apply Kd.V_drewN | apply Kd.V_drew)); exact HL110_0.out) hb)
             have n5_ := Aside0.mk (Kd.V_below (by (with_reducible repeat (first | apply Kd.V_alloc | apply Kd.V_drewN | apply Kd.V_drew)); exact HL110_1.out) hb)
             have n6_ := Aside0.mk (Kd.V_lower (Kd.V_mono (ok' := fun k_ => (P0_ k_ ∨ w.heap.size ≤ k_) ∧ some k_ ≠ (u9 : Value).ownBlock ∧ k_ ≠ gb111) ho0 (fun k_ hk_ => ⟨Or.elim hk_ (fun hs_ => hs_.1.1) (fun hn_ => (.inr (Nat.le_trans (below_size (belS HB.out)) hn_))), Or.elim hk_ (fun hs_ => hs_.1.2) (fun hn_ => (Kd.fresh' (Kd.N_lt (by (with_reducible repeat (first | apply Kd.N_alloc | apply Kd.N_drewN | apply Kd.N_drew)); exact HO_9.out)) k_ hn_)), Or.elim hk_ (fun hs_ => hs_.2) (fun hn_ => (Kd.freshB (g := gb111) (o := .cells #[.slice none 0 0, .slice none 0 0, .bool false] 34 (0, 0)) (blkN BK111.out) k_ hn_))⟩)) (below_size (belS HB.out)))
             have n7_ := Aside0.mk (cbN HR106_0.out hb)
             have n8_ := Aside0.mk (cbN HR106_1.out hb)
             have n9_ := Aside0.mk (cbN HR110_0.out hb)
             have n10_ := Aside0.mk (cbN HR110_1.out hb)
             have n11_ := Aside0.mk (bkB BK111.out hb)
             have n12_ := Aside0.mk (below_step (belS HB.out) hb)
             clear HO_0
             clear HO_9
             clear HL106_0
             clear HL106_1
             clear HL110_0
             clear HL110_1
             clear HR106_0
             clear HR106_1
             clear HR110_0
             clear HR110_1
             clear BK111
             clear HB
             have HO_0 := n0_
             have HO_9 := n1_
             have HL106_0 := n2_
             have HL106_1 := n3_
             have HL110_0 := n4_
             have HL110_1 := n5_
             have HO109 := n6_
             have HR106_0 := n7_
             have HR106_1 := n8_
             have HR110_0 := n9_
             have HR110_1 := n10_
             have BK111 := n11_
             have HB := n12_
             clear n0_ n1_ n2_ n3_ n4_ n5_ n6_ n7_ n8_ n9_ n10_ n11_ n12_
             (try clear hb)
             (try clear hk)
             (try clear ho0)
             obtain ⟨Ao37, co37, eo37⟩ := Kd.V_slice HO109.out
             (first | subst eo37 | (injection eo37 with f1_ f2_ f3_; have f4_ := f1_.symm; have f5_ := f3_.symm; clear f1_ f2_ f3_; subst f4_; subst f5_))
             refine hK.out _ _ ⟨HS0_, HS1_, HS2_, HS3_, HS4_, HS5_⟩ (fun hHeld => ?_)
             clear hK K
             refine norm_ (a' := ?_) ?_ ?_
             rotate_left
             ·show Act.put _ (some 29) _ = _
              simp only [Act.put, List.setIfInBounds_toArray, List.set_cons_zero, List.set_cons_succ, i64_w, i32_w]
              rfl
             refine pA 12 (some 35) (bA 15 16383) HT_.out ?_
             exact norm_ (by simp only [putAll, Act.put, List.setIfInBounds_toArray, List.set_cons_zero, List.set_cons_succ]) (hCont (.slice Ao37 t107.length co37, gb111) _ ⟨hHeld, (by (with_reducible repeat (first | apply Kd.V_alloc | apply Kd.V_drewN | apply Kd.V_drew)); exact Kd.V_mono HL106_0.out (fun _ hk => ⟨hk.1.1, ⟨hk.1.2, hk.2⟩⟩)), (by (with_reducible repeat (first | apply Kd.V_alloc | apply Kd.V_drewN | apply Kd.V_drew)); exact Kd.V_mono HL106_1.out (fun _ hk => ⟨hk.1.1, ⟨hk.1.2, hk.2⟩⟩)), (by (with_reducible repeat (first | apply Kd.V_alloc | apply Kd.V_drewN | apply Kd.V_drew)); exact Kd.V_mono HL110_0.out (fun _ hk => ⟨hk.1.1, ⟨hk.1.2, hk.2⟩⟩)), (by (with_reducible repeat (first | apply Kd.V_alloc | apply Kd.V_drewN | apply Kd.V_drew)); exact Kd.V_mono HL110_1.out (fun _ hk => ⟨hk.1.1, ⟨hk.1.2, hk.2⟩⟩)), (by (with_reducible repeat (first | apply Kd.V_alloc | apply Kd.V_drewN | apply Kd.V_drew)); exact HO109.out), (by (with_reducible repeat (first | apply Kd.V_alloc | apply Kd.V_drewN | apply Kd.V_drew)); exact Kd.V_mono HO_0.out (fun _ hk => ⟨hk.1.1, ⟨hk.1.2, hk.2⟩⟩)), (by (with_reducible repeat (first | apply Kd.N_alloc | apply Kd.N_drewN | apply Kd.N_drew)); exact HO_9.out), (blkN BK111.out), GW111.out, GE111.out, (belS HB.out)⟩)
           rintro ⟨v108, gb111⟩ w38 ⟨hS_, h0_, h1_, h2_, h3_, h4_, h5_, h6_, h7_, h8_, h9_, h10_⟩
           have n0_ : Aside0 (Kd.V (Kd.int .u8) 5 w38 w.heap.size (fun k_ => (P0_ k_ ∨ w.heap.size ≤ k_) ∧ some k_ ≠ (u9 : Value).ownBlock ∧ k_ ≠ gb111) (.slice A106_0 ((rd_T34 l0 x10_1).f0).length c106_0) ((rd_T34 l0 x10_1).f0)) := ⟨h0_⟩
           have n1_ : Aside0 (Kd.V (Kd.int .u8) 5 w38 w.heap.size (fun k_ => (P0_ k_ ∨ w.heap.size ≤ k_) ∧ some k_ ≠ (u9 : Value).ownBlock ∧ k_ ≠ gb111) (.slice A106_1 ((rd_T34 l0 x10_1).f1).length c106_1) ((rd_T34 l0 x10_1).f1)) := ⟨h1_⟩
           have n2_ : Aside0 (Kd.V (Kd.int .u8) 5 w38 w.heap.size (fun k_ => (P0_ k_ ∨ w.heap.size ≤ k_) ∧ some k_ ≠ (u9 : Value).ownBlock ∧ k_ ≠ gb111) (.slice A106_0 ((rd_T34 l0 x10_1).f0).length c106_0) ((rd_T34 l0 x10_1).f0)) := ⟨h2_⟩
           have n3_ : Aside0 (Kd.V (Kd.int .u8) 5 w38 w.heap.size (fun k_ => (P0_ k_ ∨ w.heap.size ≤ k_) ∧ some k_ ≠ (u9 : Value).ownBlock ∧ k_ ≠ gb111) (.slice A106_1 ((rd_T34 l0 x10_1).f1).length c106_1) ((rd_T34 l0 x10_1).f1)) := ⟨h3_⟩
           have n4_ : Aside0 (Kd.V (Kd.int .u8) 5 w38 w.heap.size (fun k_ => (P0_ k_ ∨ w.heap.size ≤ k_) ∧ some k_ ≠ (u9 : Value).ownBlock ∧ k_ ≠ gb111) v108 t107) := ⟨h4_⟩
           have n5_ : Aside0 (Kd.V k34 34 w38 w.heap.size (fun k_ => (P0_ k_ ∨ w.heap.size ≤ k_) ∧ some k_ ≠ (u9 : Value).ownBlock ∧ k_ ≠ gb111) (.slice (some ad106) l0.length c0) l0) := ⟨h5_⟩
           have n6_ : Aside0 (Kd.N k34 34 w38 w.heap.size (fun k_ => (P0_ k_ ∨ w.heap.size ≤ k_) ∧ k_ ≠ gb111) u9 x9_1) := ⟨h6_⟩
           have n7_ : Aside0 (w38.heap[gb111]? = some (.cells #[.slice none 0 0, .slice none 0 0, .bool false] 34 (0, 0))) := ⟨h7_⟩
           have n8_ : Aside0 (w.heap.size ≤ gb111) := ⟨h8_⟩
           have n9_ : Aside0 (w.heap.size ≤ gb111) := ⟨h9_⟩
           have n10_ : Aside0 (Below w.heap.size w w38) := ⟨h10_⟩
           clear HO_0
           clear HO_9
           clear HB
           clear h0_ h1_ h2_ h3_ h4_ h5_ h6_ h7_ h8_ h9_ h10_
           have HL106_0 := n0_
           have HL106_1 := n1_
           have HL110_0 := n2_
           have HL110_1 := n3_
           have HO109 := n4_
           have HO_0 := n5_
           have HO_9 := n6_
           have BK111 := n7_
           have GW111 := n8_
           have GE111 := n9_
           have HB := n10_
           clear n0_ n1_ n2_ n3_ n4_ n5_ n6_ n7_ n8_ n9_ n10_
           have hHeld : w38.cell? (ad106.add ((x10_1).toNat * 3)) = some (.slice A106_0 ((rd_T34 l0 x10_1).f0).length c106_0) ∧ w38.cell? ⟨(ad106.add ((x10_1).toNat * 3)).block, (ad106.add ((x10_1).toNat * 3)).off + 1, none⟩ = some (.slice A106_1 ((rd_T34 l0 x10_1).f1).length c106_1) ∧ w38.cell? ⟨(ad106.add ((x10_1).toNat * 3)).block, (ad106.add ((x10_1).toNat * 3)).off + 2, none⟩ = some (.bool false) ∧ w38.cell? (ad106.add ((x10_1).toNat * 3)) = some (.slice A106_0 ((rd_T34 l0 x10_1).f0).length c106_0) ∧ w38.cell? ⟨(ad106.add ((x10_1).toNat * 3)).block, (ad106.add ((x10_1).toNat * 3)).off + 1, none⟩ = some (.slice A106_1 ((rd_T34 l0 x10_1).f1).length c106_1) ∧ w38.cell? ⟨(ad106.add ((x10_1).toNat * 3)).block, (ad106.add ((x10_1).toNat * 3)).off + 2, none⟩ = some (.bool false) := hS_
           obtain ⟨Ao39, co39, eo39⟩ := Kd.V_slice HO109.out
           (first | subst eo39 | (injection eo39 with f1_ f2_ f3_; have f4_ := f1_.symm; have f5_ := f3_.symm; clear f1_ f2_ f3_; subst f4_; subst f5_))
           refine norm_ (a' := ?_) ?_ ?_
           rotate_left
           ·simp only [putAll, Act.put, List.setIfInBounds_toArray, List.set_cons_zero, List.set_cons_succ]
            rfl
           refine one_ (i := 14) (N := none) (bA 15 32767) rfl rfl (one_of HT_.out (by kernel_rfl)) (by decide) (fun K hK => ?_)
           have hs40 : w38.cell? ⟨gb111, 0, none⟩ = some (.slice none 0 0) := (blk_cell BK111.out 0).trans rfl
           have hfs40 := blk_frozen BK111.out 0
           have hs41 : w38.cell? ⟨gb111, 1, none⟩ = some (.slice none 0 0) := (blk_cell BK111.out 1).trans rfl
           have hfs41 := blk_frozen BK111.out 1
           have hs42 : w38.cell? ⟨gb111, 2, none⟩ = some (.bool false) := (blk_cell BK111.out 2).trans rfl
           have hfs42 := blk_frozen BK111.out 2
           refine skip_ (w1 := ?_) (by rfl) rfl ?_ ?_
           rotate_left
           ·go_simp
            rfl
           have hbl_ : (ad106.add ((x10_1).toNat * 3)).block ≠ gb111 := by rw [add_block]; exact V_blk HO_0.out z34 (by decide) (by have a_ := of_eq_true p106; have b_ := of_eq_true q106; omega) (fun _ hk => hk.2.2)
           refine hK.out _ _ ⟨(far3 (by exact hbl_)).trans hHeld.1, (far3 (by exact hbl_)).trans hHeld.2.1, (far3 (by exact hbl_)).trans hHeld.2.2.1, (far3 (by exact hbl_)).trans hHeld.2.2.2.1, (far3 (by exact hbl_)).trans hHeld.2.2.2.2.1, (far3 (by exact hbl_)).trans hHeld.2.2.2.2.2⟩ (fun hHeld => ?_)
           clear hbl_
           clear hK K
           refine done_ (done_of HT_.out (by kernel_rfl)) ?_
           have hcz43_0 : w38.cell? ⟨gb111, 0, none⟩ = some (.slice none 0 0) := (blk_cell BK111.out 0).trans rfl
           have hcz43_1 : w38.cell? ⟨gb111, 1, none⟩ = some (.slice none 0 0) := (blk_cell BK111.out 1).trans rfl
           have hcz43_2 : w38.cell? ⟨gb111, 2, none⟩ = some (.bool false) := (blk_cell BK111.out 2).trans rfl
           have hfz43_0 := blk_frozen BK111.out 0
           have hfz43_1 := blk_frozen BK111.out 1
           have hfz43_2 := blk_frozen BK111.out 2
           try go_wp2_with (first | ((with_reducible refine gate_dst (N := 40) rfl ?_); refine Kd.R_lit (Kd.int .u8) _ 5 ?hg (N := 40) ?hd (xs := ([107] : List Int)) (inner := [.int .u8 107]) (ok := fun _ => True) (okp := fun _ => True) ?hr ?hp (fun _ hk => hk) trivial (Below.refl _ _) (Nat.le_refl _) (by simp) ?_; (case hd => rfl); (case hg => rfl); (case hr => first | (go_simp; done) | (go_simp; rfl)); (case hp => exact (Reps.one (show Kd.M (Kd.int .u8) _ _ _ 107 [.int .u8 107] from rfl) (Reps.none _ _))); intro v113 w44 ho45 hb hg_ hnew_; clear hg_ hnew_; (first | rw [← Ny112.out] at ho45 | (simp only [Int.reduceToNat] at ho45; rw [← Ny112.out] at ho45)); have n0_ := Aside0.mk (Kd.V_elder' (by (with_reducible repeat (first | apply Kd.V_alloc | apply Kd.V_drewN | apply Kd.V_drew)); exact (Kd.V_mono (Kd.V_far (p := ⟨gb111, 2, none⟩) (Kd.V_far (p := ⟨gb111, 1, none⟩) (Kd.V_far (p := ⟨gb111, 0, none⟩) (Kd.V_mono HO_0.out (fun k_ hk => (⟨hk, hk.2.2⟩ : _ ∧ k_ ≠ gb111))) (fun _ hk => hk.2) (.slice Ao39 t107.length co39)) (fun _ hk => hk.2) (.slice none 0 0)) (fun _ hk => hk.2) (.bool false)) (fun _ h_ => h_.1))) (Kd.R_base ho45) hb); have n1_ := Aside0.mk (Kd.N_elder' (by (with_reducible repeat (first | apply Kd.N_alloc | apply Kd.N_drewN | apply Kd.N_drew)); exact (Kd.N_mono (Kd.N_far (p := ⟨gb111, 2, none⟩) (Kd.N_far (p := ⟨gb111, 1, none⟩) (Kd.N_far (p := ⟨gb111, 0, none⟩) (Kd.N_mono HO_9.out (fun k_ hk => (⟨hk, hk.2⟩ : _ ∧ k_ ≠ gb111))) (fun _ hk => hk.2) (.slice Ao39 t107.length co39)) (fun _ hk => hk.2) (.slice none 0 0)) (fun _ hk => hk.2) (.bool false)) (fun _ h_ => h_.1))) (Kd.R_base ho45) hb); have n2_ := Aside0.mk (Kd.V_elder' (by (with_reducible repeat (first | apply Kd.V_alloc | apply Kd.V_drewN | apply Kd.V_drew)); exact (Kd.V_mono (Kd.V_far (p := ⟨gb111, 2, none⟩) (Kd.V_far (p := ⟨gb111, 1, none⟩) (Kd.V_far (p := ⟨gb111, 0, none⟩) (Kd.V_mono HL106_0.out (fun k_ hk => (⟨hk, hk.2.2⟩ : _ ∧ k_ ≠ gb111))) (fun _ hk => hk.2) (.slice Ao39 t107.length co39)) (fun _ hk => hk.2) (.slice none 0 0)) (fun _ hk => hk.2) (.bool false)) (fun _ h_ => h_.1))) (Kd.R_base ho45) hb); have n3_ := Aside0.mk (Kd.V_elder' (by (with_reducible repeat (first | apply Kd.V_alloc | apply Kd.V_drewN | apply Kd.V_drew)); exact (Kd.V_mono (Kd.V_far (p := ⟨gb111, 2, none⟩) (Kd.V_far (p := ⟨gb111, 1, none⟩) (Kd.V_far (p := ⟨gb111, 0, none⟩) (Kd.V_mono HL106_1.out (fun k_ hk => (⟨hk, hk.2.2⟩ : _ ∧ k_ ≠ gb111))) (fun _ hk => hk.2) (.slice Ao39 t107.length co39)) (fun _ hk => hk.2) (.slice none 0 0)) (fun _ hk => hk.2) (.bool false)) (fun _ h_ => h_.1))) (Kd.R_base ho45) hb); have n4_ := Aside0.mk (Kd.V_elder' (by (with_reducible repeat (first | apply Kd.V_alloc | apply Kd.V_drewN | apply Kd.V_drew)); exact (Kd.V_mono (Kd.V_far (p := ⟨gb111, 2, none⟩) (Kd.V_far (p := ⟨gb111, 1, none⟩) (Kd.V_far (p := ⟨gb111, 0, none⟩) (Kd.V_mono HL110_0.out (fun k_ hk => (⟨hk, hk.2.2⟩ : _ ∧ k_ ≠ gb111))) (fun _ hk => hk.2) (.slice Ao39 t107.length co39)) (fun _ hk => hk.2) (.slice none 0 0)) (fun _ hk => hk.2) (.bool false)) (fun _ h_ => h_.1))) (Kd.R_base ho45) hb); have n5_ := Aside0.mk (Kd.V_elder' (by (with_reducible repeat (first | apply Kd.V_alloc | apply Kd.V_drewN | apply Kd.V_drew)); exact (Kd.V_mono (Kd.V_far (p := ⟨gb111, 2, none⟩) (Kd.V_far (p := ⟨gb111, 1, none⟩) (Kd.V_far (p := ⟨gb111, 0, none⟩) (Kd.V_mono HL110_1.out (fun k_ hk => (⟨hk, hk.2.2⟩ : _ ∧ k_ ≠ gb111))) (fun _ hk => hk.2) (.slice Ao39 t107.length co39)) (fun _ hk => hk.2) (.slice none 0 0)) (fun _ hk => hk.2) (.bool false)) (fun _ h_ => h_.1))) (Kd.R_base ho45) hb); have n6_ := Aside0.mk (Kd.V_elder' (by (with_reducible repeat (first | apply Kd.V_alloc | apply Kd.V_drewN | apply Kd.V_drew)); exact (Kd.V_mono (Kd.V_far (p := ⟨gb111, 2, none⟩) (Kd.V_far (p := ⟨gb111, 1, none⟩) (Kd.V_far (p := ⟨gb111, 0, none⟩) (Kd.V_mono HO109.out (fun k_ hk => (⟨hk, hk.2.2⟩ : _ ∧ k_ ≠ gb111))) (fun _ hk => hk.2) (.slice Ao39 t107.length co39)) (fun _ hk => hk.2) (.slice none 0 0)) (fun _ hk => hk.2) (.bool false)) (fun _ h_ => h_.1))) (Kd.R_base ho45) hb); have n7_ := Aside0.mk (Kd.R_lower (Kd.R_newM (M := fun k_ => (w.heap.size ≤ k_)) ho45 (below_size (belS HB.out)) (fun k_ h_ => h_)) (below_size (belS HB.out))); have n8_ := Aside0.mk (blk_below (g := gb111) (o := .cells #[.slice Ao39 t107.length co39, .slice none 0 0, .bool false] 34 (0, 0)) (by (with_reducible repeat (first | refine blk_drewN ?_ _ | refine blk_drew ?_ | refine blk_alloc ?_ _)); refine blk_put (cs := #[.slice Ao39 t107.length co39, .slice none 0 0, .bool false]) ?_ 2 _ rfl; (with_reducible repeat (first | refine blk_drewN ?_ _ | refine blk_drew ?_ | refine blk_alloc ?_ _)); refine blk_put (cs := #[.slice Ao39 t107.length co39, .slice none 0 0, .bool false]) ?_ 1 _ rfl; (with_reducible repeat (first | refine blk_drewN ?_ _ | refine blk_drew ?_ | refine blk_alloc ?_ _)); refine blk_put (cs := #[.slice none 0 0, .slice none 0 0, .bool false]) ?_ 0 _ rfl; (with_reducible repeat (first | refine blk_drewN ?_ _ | refine blk_drew ?_ | refine blk_alloc ?_ _)); exact BK111.out) hb); have n9_ := Aside0.mk (below_step (belS HB.out) hb); clear HO_0; clear HO_9; clear HL106_0; clear HL106_1; clear HL110_0; clear HL110_1; clear HO109; clear BK111; clear HB; have HO_0 := n0_; have HO_9 := n1_; have HL106_0 := n2_; have HL106_1 := n3_; have HL110_0 := n4_; have HL110_1 := n5_; have HO109 := n6_; have HO114 := n7_; have BK111 := n8_; have HB := n9_; clear n0_ n1_ n2_ n3_ n4_ n5_ n6_ n7_ n8_ n9_; clear hb ho45; obtain ⟨Ao46, co46, eo46⟩ := Kd.R_slice HO114.out; subst eo46; have hcz47_0 : w44.cell? ⟨gb111, 0, none⟩ = some (.slice Ao39 t107.length co39) := (blk_cell BK111.out 0).trans rfl; have hcz47_1 : w44.cell? ⟨gb111, 1, none⟩ = some (.slice none 0 0) := (blk_cell BK111.out 1).trans rfl; have hcz47_2 : w44.cell? ⟨gb111, 2, none⟩ = some (.bool false) := (blk_cell BK111.out 2).trans rfl; have hfz47_0 := blk_frozen BK111.out 0; have hfz47_1 := blk_frozen BK111.out 1; have hfz47_2 := blk_frozen BK111.out 2) | ((with_reducible refine gate_store (t := 26) (p := 41) rfl ?_); refine store_event (t := 26) (p := 41) (v := ?vo_w48) (w1 := (w44.setCell ⟨gb111, 0, none⟩ (.slice Ao46 y112.length co46))) ?hg ?ho ?hn ?hr ?_; (case ho => rfl); (case hg => rfl); (case hn => rfl); (case hr => first | (go_simp; done) | (go_simp; rfl)); intro w48 hw; have n0_ : Aside0 (Kd.V k34 34 w48 w.heap.size (fun k_ => (P0_ k_ ∨ w.heap.size ≤ k_) ∧ some k_ ≠ (u9 : Value).ownBlock ∧ some k_ ≠ (.slice Ao46 y112.length co46 : Value).ownBlock ∧ k_ ≠ gb111) (.slice (some ad106) l0.length c0) l0) := ⟨(by rw [hw]; exact (by (with_reducible repeat (first | apply Kd.V_alloc | apply Kd.V_drewN | apply Kd.V_drew)); exact Kd.V_mono (Kd.V_far (p := ⟨gb111, 0, none⟩) (Kd.V_mono HO_0.out (fun k_ hk => (⟨hk, hk.1.2.2⟩ : _ ∧ k_ ≠ gb111))) (fun _ hk => hk.2) (.slice Ao46 y112.length co46)) (fun _ hk => ⟨hk.1.1.1, ⟨hk.1.1.2.1, ⟨hk.1.2, hk.1.1.2.2⟩⟩⟩)))⟩; have n1_ : Aside0 (Kd.N k34 34 w48 w.heap.size (fun k_ => (P0_ k_ ∨ w.heap.size ≤ k_) ∧ some k_ ≠ (.slice Ao46 y112.length co46 : Value).ownBlock ∧ k_ ≠ gb111) u9 x9_1) := ⟨(by rw [hw]; exact (by (with_reducible repeat (first | apply Kd.N_alloc | apply Kd.N_drewN | apply Kd.N_drew)); exact Kd.N_mono (Kd.N_far (p := ⟨gb111, 0, none⟩) (Kd.N_mono HO_9.out (fun k_ hk => (⟨hk, hk.1.2⟩ : _ ∧ k_ ≠ gb111))) (fun _ hk => hk.2) (.slice Ao46 y112.length co46)) (fun _ hk => ⟨hk.1.1.1, ⟨hk.1.2, hk.1.1.2⟩⟩)))⟩; have n2_ : Aside0 (Kd.V (Kd.int .u8) 5 w48 w.heap.size (fun k_ => (P0_ k_ ∨ w.heap.size ≤ k_) ∧ some k_ ≠ (u9 : Value).ownBlock ∧ some k_ ≠ (.slice Ao46 y112.length co46 : Value).ownBlock ∧ k_ ≠ gb111) (.slice A106_0 ((rd_T34 l0 x10_1).f0).length c106_0) ((rd_T34 l0 x10_1).f0)) := ⟨(by rw [hw]; exact (by (with_reducible repeat (first | apply Kd.V_alloc | apply Kd.V_drewN | apply Kd.V_drew)); exact Kd.V_mono (Kd.V_far (p := ⟨gb111, 0, none⟩) (Kd.V_mono HL106_0.out (fun k_ hk => (⟨hk, hk.1.2.2⟩ : _ ∧ k_ ≠ gb111))) (fun _ hk => hk.2) (.slice Ao46 y112.length co46)) (fun _ hk => ⟨hk.1.1.1, ⟨hk.1.1.2.1, ⟨hk.1.2, hk.1.1.2.2⟩⟩⟩)))⟩; have n3_ : Aside0 (Kd.V (Kd.int .u8) 5 w48 w.heap.size (fun k_ => (P0_ k_ ∨ w.heap.size ≤ k_) ∧ some k_ ≠ (u9 : Value).ownBlock ∧ some k_ ≠ (.slice Ao46 y112.length co46 : Value).ownBlock ∧ k_ ≠ gb111) (.slice A106_1 ((rd_T34 l0 x10_1).f1).length c106_1) ((rd_T34 l0 x10_1).f1)) := ⟨(by rw [hw]; exact (by (with_reducible repeat (first | apply Kd.V_alloc | apply Kd.V_drewN | apply Kd.V_drew)); exact Kd.V_mono (Kd.V_far (p := ⟨gb111, 0, none⟩) (Kd.V_mono HL106_1.out (fun k_ hk => (⟨hk, hk.1.2.2⟩ : _ ∧ k_ ≠ gb111))) (fun _ hk => hk.2) (.slice Ao46 y112.length co46)) (fun _ hk => ⟨hk.1.1.1, ⟨hk.1.1.2.1, ⟨hk.1.2, hk.1.1.2.2⟩⟩⟩)))⟩; have n4_ : Aside0 (Kd.V (Kd.int .u8) 5 w48 w.heap.size (fun k_ => (P0_ k_ ∨ w.heap.size ≤ k_) ∧ some k_ ≠ (u9 : Value).ownBlock ∧ some k_ ≠ (.slice Ao46 y112.length co46 : Value).ownBlock ∧ k_ ≠ gb111) (.slice A106_0 ((rd_T34 l0 x10_1).f0).length c106_0) ((rd_T34 l0 x10_1).f0)) := ⟨(by rw [hw]; exact (by (with_reducible repeat (first | apply Kd.V_alloc | apply Kd.V_drewN | apply Kd.V_drew)); exact Kd.V_mono (Kd.V_far (p := ⟨gb111, 0, none⟩) (Kd.V_mono HL110_0.out (fun k_ hk => (⟨hk, hk.1.2.2⟩ : _ ∧ k_ ≠ gb111))) (fun _ hk => hk.2) (.slice Ao46 y112.length co46)) (fun _ hk => ⟨hk.1.1.1, ⟨hk.1.1.2.1, ⟨hk.1.2, hk.1.1.2.2⟩⟩⟩)))⟩; have n5_ : Aside0 (Kd.V (Kd.int .u8) 5 w48 w.heap.size (fun k_ => (P0_ k_ ∨ w.heap.size ≤ k_) ∧ some k_ ≠ (u9 : Value).ownBlock ∧ some k_ ≠ (.slice Ao46 y112.length co46 : Value).ownBlock ∧ k_ ≠ gb111) (.slice A106_1 ((rd_T34 l0 x10_1).f1).length c106_1) ((rd_T34 l0 x10_1).f1)) := ⟨(by rw [hw]; exact (by (with_reducible repeat (first | apply Kd.V_alloc | apply Kd.V_drewN | apply Kd.V_drew)); exact Kd.V_mono (Kd.V_far (p := ⟨gb111, 0, none⟩) (Kd.V_mono HL110_1.out (fun k_ hk => (⟨hk, hk.1.2.2⟩ : _ ∧ k_ ≠ gb111))) (fun _ hk => hk.2) (.slice Ao46 y112.length co46)) (fun _ hk => ⟨hk.1.1.1, ⟨hk.1.1.2.1, ⟨hk.1.2, hk.1.1.2.2⟩⟩⟩)))⟩; have n6_ : Aside0 (Kd.V (Kd.int .u8) 5 w48 w.heap.size (fun k_ => (P0_ k_ ∨ w.heap.size ≤ k_) ∧ some k_ ≠ (u9 : Value).ownBlock ∧ some k_ ≠ (.slice Ao46 y112.length co46 : Value).ownBlock ∧ k_ ≠ gb111) (.slice Ao39 t107.length co39) t107) := ⟨(by rw [hw]; exact (by (with_reducible repeat (first | apply Kd.V_alloc | apply Kd.V_drewN | apply Kd.V_drew)); exact Kd.V_mono (Kd.V_far (p := ⟨gb111, 0, none⟩) (Kd.V_mono HO109.out (fun k_ hk => (⟨hk, hk.1.2.2⟩ : _ ∧ k_ ≠ gb111))) (fun _ hk => hk.2) (.slice Ao46 y112.length co46)) (fun _ hk => ⟨hk.1.1.1, ⟨hk.1.1.2.1, ⟨hk.1.2, hk.1.1.2.2⟩⟩⟩)))⟩; have n7_ : Aside0 (Kd.R (Kd.int .u8) 5 w48 w.heap.size (fun k_ => (w.heap.size ≤ k_)) (.slice Ao46 y112.length co46) y112) := ⟨(by rw [hw]; exact (by (with_reducible repeat (first | apply Kd.R_alloc | apply Kd.R_drewN | apply Kd.R_drew)); exact Kd.R_mono (Kd.R_far (p := ⟨gb111, 0, none⟩) (Kd.R_types HO114.out BK111.out (by decide)) (fun _ hk => hk.2) (.slice Ao46 y112.length co46)) (fun _ hk => hk.1.1)))⟩; have n8_ : Aside0 (w48.heap[gb111]? = some (.cells #[.slice Ao46 y112.length co46, .slice none 0 0, .bool false] 34 (0, 0))) := ⟨(by rw [hw]; exact (by (with_reducible repeat (first | refine blk_drewN ?_ _ | refine blk_drew ?_ | refine blk_alloc ?_ _)); refine blk_put (cs := #[.slice Ao39 t107.length co39, .slice none 0 0, .bool false]) ?_ 0 _ rfl; (with_reducible repeat (first | refine blk_drewN ?_ _ | refine blk_drew ?_ | refine blk_alloc ?_ _)); exact BK111.out))⟩; have n9_ : Aside0 (Below w.heap.size w w48) := ⟨(by rw [hw]; exact (belS HB.out))⟩; clear hw; clear HO_0; clear HO_9; clear HL106_0; clear HL106_1; clear HL110_0; clear HL110_1; clear HO109; clear HO114; clear BK111; clear HB; have HO_0 := n0_; have HO_9 := n1_; have HL106_0 := n2_; have HL106_1 := n3_; have HL110_0 := n4_; have HL110_1 := n5_; have HO109 := n6_; have HO114 := n7_; have BK111 := n8_; have HB := n9_; clear n0_ n1_ n2_ n3_ n4_ n5_ n6_ n7_ n8_ n9_; have hcz49_0 : w48.cell? ⟨gb111, 0, none⟩ = some (.slice Ao46 y112.length co46) := (blk_cell BK111.out 0).trans rfl; have hcz49_1 : w48.cell? ⟨gb111, 1, none⟩ = some (.slice none 0 0) := (blk_cell BK111.out 1).trans rfl; have hcz49_2 : w48.cell? ⟨gb111, 2, none⟩ = some (.bool false) := (blk_cell BK111.out 2).trans rfl; have hfz49_0 := blk_frozen BK111.out 0; have hfz49_1 := blk_frozen BK111.out 1; have hfz49_2 := blk_frozen BK111.out 2; have p118 : 0 ≤ (x10_1 : Int) := of_decide_eq_true (by first | (with_reducible assumption) | assumption); have q118 : x10_1 < (l0.length : Int) := of_decide_eq_true (by first | (with_reducible assumption) | assumption); obtain ⟨ad118, A118_0, c118_0, A118_1, c118_1, e118, hx118_0, hx118_1, hx118_2, hl118_0, hi118_0, hl118_1, hi118_1⟩ := at_T34 (Kd.V_reads' HO_0.out).2.2 x10_1 p118 q118; (try rw [← Nbq12.out] at hx118_2); obtain rfl : ad106 = ad118 := (by injection e118); obtain ⟨ce118, hce118, hMe118, hcc118⟩ := Kd.V_get HO_0.out z34 x10_1 p118 (by first | exact q118 | exact of_decide_eq_true (by first | (with_reducible assumption) | assumption) | (have e_ := (Kd.V_reads' HO_0.out).1; omega)); obtain ⟨ua118_0, uc118_0, ua118_1, uc118_1, rfl, ul118_0, ge118_0, ul118_1, ge118_1⟩ := k34_openF hMe118; have hv118_0 := hcc118 0 _ rfl; rw [Nat.add_zero] at hv118_0; replace hv118_0 := Option.some.inj (hv118_0.symm.trans hx118_0); injection hv118_0 with hva_ hvn_ hvc_; rw [hva_] at ge118_0; rw [hvc_] at ul118_0; have HL118_0 := Aside0.mk (show Kd.V (Kd.int .u8) 5 _ w.heap.size _ _ ((rd_T34 l0 x10_1).f0) from Kd.V_mk ul118_0 ge118_0); clear hva_ hvn_ hvc_ ge118_0 ul118_0; have hv118_1 := hcc118 1 _ rfl; rw [add_field _ _ 1 (by omega)] at hv118_1; replace hv118_1 := Option.some.inj (hv118_1.symm.trans hx118_1); injection hv118_1 with hva_ hvn_ hvc_; rw [hva_] at ge118_1; rw [hvc_] at ul118_1; have HL118_1 := Aside0.mk (show Kd.V (Kd.int .u8) 5 _ w.heap.size _ _ ((rd_T34 l0 x10_1).f1) from Kd.V_mk ul118_1 ge118_1); clear hva_ hvn_ hvc_ ge118_1 ul118_1; clear hcc118 hce118; have HR118_0 := Aside0.mk hi118_0; have HC118_0 := Aside0.mk hl118_0; clear hi118_0 hl118_0; have HR118_1 := Aside0.mk hi118_1; have HC118_1 := Aside0.mk hl118_1; clear hi118_1 hl118_1; replace p118 := eq_true p118; replace q118 := eq_true q118) | ((with_reducible refine gate_callee (f := 20) rfl ?_); refine goesL_ (some 51) rfl rfl Try.func20 (by kernel_rfl) rfl #[.slice A118_1 ((rd_T34 l0 x10_1).f1).length c118_1, .int .i64 a3] rfl argN ?_; (with_reducible refine (marigraphkeep_Cut.calls (fun k_ => ((P0_ k_ ∨ w.heap.size ≤ k_) ∧ (some k_ ≠ (u9 : Value).ownBlock ∧ (some k_ ≠ (.slice Ao46 y112.length co46 : Value).ownBlock ∧ k_ ≠ gb111)))) _ _ ((rd_T34 l0 x10_1).f1) a3 t119 _ ?side1 A32.out).mono ?_); (case side1 => exact HL118_1.out); rintro e w50 ⟨v120, rfl, ho0, hb⟩; refine ⟨_, rfl, ?_⟩; have n0_ := Aside0.mk (Kd.V_below (by (with_reducible repeat (first | apply Kd.V_alloc | apply Kd.V_drewN | apply Kd.V_drew)); exact HO_0.out) hb); have n1_ := Aside0.mk (Kd.N_below (by (with_reducible repeat (first | apply Kd.N_alloc | apply Kd.N_drewN | apply Kd.N_drew)); exact HO_9.out) hb); have n2_ := Aside0.mk (Kd.V_below (by (with_reducible repeat (first | apply Kd.V_alloc | apply Kd.V_drewN | apply Kd.V_drew)); exact HL106_0.out) hb); have n3_ := Aside0.mk (Kd.V_below (by (with_reducible repeat (first | apply Kd.V_alloc | apply Kd.V_drewN | apply Kd.V_drew)); exact HL106_1.out) hb); have n4_ := Aside0.mk (Kd.V_below (by (with_reducible repeat (first | apply Kd.V_alloc | apply Kd.V_drewN | apply Kd.V_drew)); exact HL110_0.out) hb); have n5_ := Aside0.mk (Kd.V_below (by (with_reducible repeat (first | apply Kd.V_alloc | apply Kd.V_drewN | apply Kd.V_drew)); exact HL110_1.out) hb); have n6_ := Aside0.mk (Kd.V_below (by (with_reducible repeat (first | apply Kd.V_alloc | apply Kd.V_drewN | apply Kd.V_drew)); exact HO109.out) hb); have n7_ := Aside0.mk (Kd.R_below (rowN HO114.out) hb); have n8_ := Aside0.mk (Kd.V_below (by (with_reducible repeat (first | apply Kd.V_alloc | apply Kd.V_drewN | apply Kd.V_drew)); exact HL118_0.out) hb); have n9_ := Aside0.mk (Kd.V_below (by (with_reducible repeat (first | apply Kd.V_alloc | apply Kd.V_drewN | apply Kd.V_drew)); exact HL118_1.out) hb); have n10_ := Aside0.mk (Kd.V_lower (Kd.V_mono (ok' := fun k_ => (P0_ k_ ∨ w.heap.size ≤ k_) ∧ some k_ ≠ (u9 : Value).ownBlock ∧ some k_ ≠ (.slice Ao46 y112.length co46 : Value).ownBlock ∧ k_ ≠ gb111) ho0 (fun k_ hk_ => ⟨Or.elim hk_ (fun hs_ => hs_.1) (fun hn_ => (.inr (Nat.le_trans (below_size (belS HB.out)) hn_))), Or.elim hk_ (fun hs_ => hs_.2.1) (fun hn_ => (Kd.fresh' (Kd.N_lt (by (with_reducible repeat (first | apply Kd.N_alloc | apply Kd.N_drewN | apply Kd.N_drew)); exact HO_9.out)) k_ hn_)), Or.elim hk_ (fun hs_ => hs_.2.2.1) (fun hn_ => (Kd.fresh' (Kd.R_lt (rowN HO114.out)) k_ hn_)), Or.elim hk_ (fun hs_ => hs_.2.2.2) (fun hn_ => (Kd.freshB (g := gb111) (o := .cells #[.slice Ao46 y112.length co46, .slice none 0 0, .bool false] 34 (0, 0)) (blkN BK111.out) k_ hn_))⟩)) (below_size (belS HB.out))); have n11_ := Aside0.mk (bkB BK111.out hb); have n12_ := Aside0.mk (cbN HR118_0.out hb); have n13_ := Aside0.mk (cbN HR118_1.out hb); have n14_ := Aside0.mk (below_step (belS HB.out) hb); clear HO_0; clear HO_9; clear HL106_0; clear HL106_1; clear HL110_0; clear HL110_1; clear HO109; clear HO114; clear HL118_0; clear HL118_1; clear BK111; clear HR118_0; clear HR118_1; clear HB; have HO_0 := n0_; have HO_9 := n1_; have HL106_0 := n2_; have HL106_1 := n3_; have HL110_0 := n4_; have HL110_1 := n5_; have HO109 := n6_; have HO114 := n7_; have HL118_0 := n8_; have HL118_1 := n9_; have HO121 := n10_; have BK111 := n11_; have HR118_0 := n12_; have HR118_1 := n13_; have HB := n14_; clear n0_ n1_ n2_ n3_ n4_ n5_ n6_ n7_ n8_ n9_ n10_ n11_ n12_ n13_ n14_; (try clear hb); (try clear hk); (try clear ho0); obtain ⟨Ao51, co51, eo51⟩ := Kd.V_slice HO121.out; subst eo51; have hcz52_0 : w50.cell? ⟨gb111, 0, none⟩ = some (.slice Ao46 y112.length co46) := (blk_cell BK111.out 0).trans rfl; have hcz52_1 : w50.cell? ⟨gb111, 1, none⟩ = some (.slice none 0 0) := (blk_cell BK111.out 1).trans rfl; have hcz52_2 : w50.cell? ⟨gb111, 2, none⟩ = some (.bool false) := (blk_cell BK111.out 2).trans rfl; have hfz52_0 := blk_frozen BK111.out 0; have hfz52_1 := blk_frozen BK111.out 1; have hfz52_2 := blk_frozen BK111.out 2) | ((with_reducible refine gate_store (t := 26) (p := 52) rfl ?_); refine store_event (t := 26) (p := 52) (v := ?vo_w53) (w1 := (w50.setCell ⟨gb111, 1, none⟩ (.slice Ao51 t119.length co51))) ?hg ?ho ?hn ?hr ?_; (case ho => rfl); (case hg => rfl); (case hn => rfl); (case hr => first | (go_simp; done) | (go_simp; rfl)); intro w53 hw; have n0_ : Aside0 (Kd.V k34 34 w53 w.heap.size (fun k_ => (P0_ k_ ∨ w.heap.size ≤ k_) ∧ some k_ ≠ (u9 : Value).ownBlock ∧ some k_ ≠ (.slice Ao46 y112.length co46 : Value).ownBlock ∧ k_ ≠ gb111) (.slice (some ad106) l0.length c0) l0) := ⟨(by rw [hw]; exact (by (with_reducible repeat (first | apply Kd.V_alloc | apply Kd.V_drewN | apply Kd.V_drew)); exact Kd.V_mono (Kd.V_far (p := ⟨gb111, 1, none⟩) (Kd.V_mono HO_0.out (fun k_ hk => (⟨hk, hk.2.2.2⟩ : _ ∧ k_ ≠ gb111))) (fun _ hk => hk.2) (.slice Ao51 t119.length co51)) (fun _ hk => ⟨hk.1.1, ⟨hk.1.2.1, ⟨hk.1.2.2.1, hk.1.2.2.2⟩⟩⟩)))⟩; have n1_ : Aside0 (Kd.N k34 34 w53 w.heap.size (fun k_ => (P0_ k_ ∨ w.heap.size ≤ k_) ∧ some k_ ≠ (.slice Ao46 y112.length co46 : Value).ownBlock ∧ k_ ≠ gb111) u9 x9_1) := ⟨(by rw [hw]; exact (by (with_reducible repeat (first | apply Kd.N_alloc | apply Kd.N_drewN | apply Kd.N_drew)); exact Kd.N_mono (Kd.N_far (p := ⟨gb111, 1, none⟩) (Kd.N_mono HO_9.out (fun k_ hk => (⟨hk, hk.2.2⟩ : _ ∧ k_ ≠ gb111))) (fun _ hk => hk.2) (.slice Ao51 t119.length co51)) (fun _ hk => ⟨hk.1.1, ⟨hk.1.2.1, hk.1.2.2⟩⟩)))⟩; have n2_ : Aside0 (Kd.V (Kd.int .u8) 5 w53 w.heap.size (fun k_ => (P0_ k_ ∨ w.heap.size ≤ k_) ∧ some k_ ≠ (u9 : Value).ownBlock ∧ some k_ ≠ (.slice Ao46 y112.length co46 : Value).ownBlock ∧ k_ ≠ gb111) (.slice A106_0 ((rd_T34 l0 x10_1).f0).length c106_0) ((rd_T34 l0 x10_1).f0)) := ⟨(by rw [hw]; exact (by (with_reducible repeat (first | apply Kd.V_alloc | apply Kd.V_drewN | apply Kd.V_drew)); exact Kd.V_mono (Kd.V_far (p := ⟨gb111, 1, none⟩) (Kd.V_mono HL106_0.out (fun k_ hk => (⟨hk, hk.2.2.2⟩ : _ ∧ k_ ≠ gb111))) (fun _ hk => hk.2) (.slice Ao51 t119.length co51)) (fun _ hk => ⟨hk.1.1, ⟨hk.1.2.1, ⟨hk.1.2.2.1, hk.1.2.2.2⟩⟩⟩)))⟩; have n3_ : Aside0 (Kd.V (Kd.int .u8) 5 w53 w.heap.size (fun k_ => (P0_ k_ ∨ w.heap.size ≤ k_) ∧ some k_ ≠ (u9 : Value).ownBlock ∧ some k_ ≠ (.slice Ao46 y112.length co46 : Value).ownBlock ∧ k_ ≠ gb111) (.slice A106_1 ((rd_T34 l0 x10_1).f1).length c106_1) ((rd_T34 l0 x10_1).f1)) := ⟨(by rw [hw]; exact (by (with_reducible repeat (first | apply Kd.V_alloc | apply Kd.V_drewN | apply Kd.V_drew)); exact Kd.V_mono (Kd.V_far (p := ⟨gb111, 1, none⟩) (Kd.V_mono HL106_1.out (fun k_ hk => (⟨hk, hk.2.2.2⟩ : _ ∧ k_ ≠ gb111))) (fun _ hk => hk.2) (.slice Ao51 t119.length co51)) (fun _ hk => ⟨hk.1.1, ⟨hk.1.2.1, ⟨hk.1.2.2.1, hk.1.2.2.2⟩⟩⟩)))⟩; have n4_ : Aside0 (Kd.V (Kd.int .u8) 5 w53 w.heap.size (fun k_ => (P0_ k_ ∨ w.heap.size ≤ k_) ∧ some k_ ≠ (u9 : Value).ownBlock ∧ some k_ ≠ (.slice Ao46 y112.length co46 : Value).ownBlock ∧ k_ ≠ gb111) (.slice A106_0 ((rd_T34 l0 x10_1).f0).length c106_0) ((rd_T34 l0 x10_1).f0)) := ⟨(by rw [hw]; exact (by (with_reducible repeat (first | apply Kd.V_alloc | apply Kd.V_drewN | apply Kd.V_drew)); exact Kd.V_mono (Kd.V_far (p := ⟨gb111, 1, none⟩) (Kd.V_mono HL110_0.out (fun k_ hk => (⟨hk, hk.2.2.2⟩ : _ ∧ k_ ≠ gb111))) (fun _ hk => hk.2) (.slice Ao51 t119.length co51)) (fun _ hk => ⟨hk.1.1, ⟨hk.1.2.1, ⟨hk.1.2.2.1, hk.1.2.2.2⟩⟩⟩)))⟩; have n5_ : Aside0 (Kd.V (Kd.int .u8) 5 w53 w.heap.size (fun k_ => (P0_ k_ ∨ w.heap.size ≤ k_) ∧ some k_ ≠ (u9 : Value).ownBlock ∧ some k_ ≠ (.slice Ao46 y112.length co46 : Value).ownBlock ∧ k_ ≠ gb111) (.slice A106_1 ((rd_T34 l0 x10_1).f1).length c106_1) ((rd_T34 l0 x10_1).f1)) := ⟨(by rw [hw]; exact (by (with_reducible repeat (first | apply Kd.V_alloc | apply Kd.V_drewN | apply Kd.V_drew)); exact Kd.V_mono (Kd.V_far (p := ⟨gb111, 1, none⟩) (Kd.V_mono HL110_1.out (fun k_ hk => (⟨hk, hk.2.2.2⟩ : _ ∧ k_ ≠ gb111))) (fun _ hk => hk.2) (.slice Ao51 t119.length co51)) (fun _ hk => ⟨hk.1.1, ⟨hk.1.2.1, ⟨hk.1.2.2.1, hk.1.2.2.2⟩⟩⟩)))⟩; have n6_ : Aside0 (Kd.V (Kd.int .u8) 5 w53 w.heap.size (fun k_ => (P0_ k_ ∨ w.heap.size ≤ k_) ∧ some k_ ≠ (u9 : Value).ownBlock ∧ some k_ ≠ (.slice Ao46 y112.length co46 : Value).ownBlock ∧ k_ ≠ gb111) (.slice Ao39 t107.length co39) t107) := ⟨(by rw [hw]; exact (by (with_reducible repeat (first | apply Kd.V_alloc | apply Kd.V_drewN | apply Kd.V_drew)); exact Kd.V_mono (Kd.V_far (p := ⟨gb111, 1, none⟩) (Kd.V_mono HO109.out (fun k_ hk => (⟨hk, hk.2.2.2⟩ : _ ∧ k_ ≠ gb111))) (fun _ hk => hk.2) (.slice Ao51 t119.length co51)) (fun _ hk => ⟨hk.1.1, ⟨hk.1.2.1, ⟨hk.1.2.2.1, hk.1.2.2.2⟩⟩⟩)))⟩; have n7_ : Aside0 (Kd.R (Kd.int .u8) 5 w53 w.heap.size (fun k_ => (w.heap.size ≤ k_)) (.slice Ao46 y112.length co46) y112) := ⟨(by rw [hw]; exact (by (with_reducible repeat (first | apply Kd.R_alloc | apply Kd.R_drewN | apply Kd.R_drew)); exact Kd.R_mono (Kd.R_far (p := ⟨gb111, 1, none⟩) (Kd.R_types HO114.out BK111.out (by decide)) (fun _ hk => hk.2) (.slice Ao51 t119.length co51)) (fun _ hk => hk.1)))⟩; have n8_ : Aside0 (Kd.V (Kd.int .u8) 5 w53 w.heap.size (fun k_ => (P0_ k_ ∨ w.heap.size ≤ k_) ∧ some k_ ≠ (u9 : Value).ownBlock ∧ some k_ ≠ (.slice Ao46 y112.length co46 : Value).ownBlock ∧ k_ ≠ gb111) (.slice A118_0 ((rd_T34 l0 x10_1).f0).length c118_0) ((rd_T34 l0 x10_1).f0)) := ⟨(by rw [hw]; exact (by (with_reducible repeat (first | apply Kd.V_alloc | apply Kd.V_drewN | apply Kd.V_drew)); exact Kd.V_mono (Kd.V_far (p := ⟨gb111, 1, none⟩) (Kd.V_mono HL118_0.out (fun k_ hk => (⟨hk, hk.2.2.2⟩ : _ ∧ k_ ≠ gb111))) (fun _ hk => hk.2) (.slice Ao51 t119.length co51)) (fun _ hk => ⟨hk.1.1, ⟨hk.1.2.1, ⟨hk.1.2.2.1, hk.1.2.2.2⟩⟩⟩)))⟩; have n9_ : Aside0 (Kd.V (Kd.int .u8) 5 w53 w.heap.size (fun k_ => (P0_ k_ ∨ w.heap.size ≤ k_) ∧ some k_ ≠ (u9 : Value).ownBlock ∧ some k_ ≠ (.slice Ao46 y112.length co46 : Value).ownBlock ∧ k_ ≠ gb111) (.slice A118_1 ((rd_T34 l0 x10_1).f1).length c118_1) ((rd_T34 l0 x10_1).f1)) := ⟨(by rw [hw]; exact (by (with_reducible repeat (first | apply Kd.V_alloc | apply Kd.V_drewN | apply Kd.V_drew)); exact Kd.V_mono (Kd.V_far (p := ⟨gb111, 1, none⟩) (Kd.V_mono HL118_1.out (fun k_ hk => (⟨hk, hk.2.2.2⟩ : _ ∧ k_ ≠ gb111))) (fun _ hk => hk.2) (.slice Ao51 t119.length co51)) (fun _ hk => ⟨hk.1.1, ⟨hk.1.2.1, ⟨hk.1.2.2.1, hk.1.2.2.2⟩⟩⟩)))⟩; have n10_ : Aside0 (Kd.V (Kd.int .u8) 5 w53 w.heap.size (fun k_ => (P0_ k_ ∨ w.heap.size ≤ k_) ∧ some k_ ≠ (u9 : Value).ownBlock ∧ some k_ ≠ (.slice Ao46 y112.length co46 : Value).ownBlock ∧ k_ ≠ gb111) (.slice Ao51 t119.length co51) t119) := ⟨(by rw [hw]; exact (by (with_reducible repeat (first | apply Kd.V_alloc | apply Kd.V_drewN | apply Kd.V_drew)); exact Kd.V_mono (Kd.V_far (p := ⟨gb111, 1, none⟩) (Kd.V_mono HO121.out (fun k_ hk => (⟨hk, hk.2.2.2⟩ : _ ∧ k_ ≠ gb111))) (fun _ hk => hk.2) (.slice Ao51 t119.length co51)) (fun _ hk => ⟨hk.1.1, ⟨hk.1.2.1, ⟨hk.1.2.2.1, hk.1.2.2.2⟩⟩⟩)))⟩; have n11_ : Aside0 (w53.heap[gb111]? = some (.cells #[.slice Ao46 y112.length co46, .slice Ao51 t119.length co51, .bool false] 34 (0, 0))) := ⟨(by rw [hw]; exact (by (with_reducible repeat (first | refine blk_drewN ?_ _ | refine blk_drew ?_ | refine blk_alloc ?_ _)); refine blk_put (cs := #[.slice Ao46 y112.length co46, .slice none 0 0, .bool false]) ?_ 1 _ rfl; (with_reducible repeat (first | refine blk_drewN ?_ _ | refine blk_drew ?_ | refine blk_alloc ?_ _)); exact BK111.out))⟩; have n12_ : Aside0 (Below w.heap.size w w53) := ⟨(by rw [hw]; exact (belS HB.out))⟩; clear hw; clear HO_0; clear HO_9; clear HL106_0; clear HL106_1; clear HL110_0; clear HL110_1; clear HO109; clear HO114; clear HL118_0; clear HL118_1; clear HO121; clear BK111; clear HB; have HO_0 := n0_; have HO_9 := n1_; have HL106_0 := n2_; have HL106_1 := n3_; have HL110_0 := n4_; have HL110_1 := n5_; have HO109 := n6_; have HO114 := n7_; have HL118_0 := n8_; have HL118_1 := n9_; have HO121 := n10_; have BK111 := n11_; have HB := n12_; clear n0_ n1_ n2_ n3_ n4_ n5_ n6_ n7_ n8_ n9_ n10_ n11_ n12_; have hcz54_0 : w53.cell? ⟨gb111, 0, none⟩ = some (.slice Ao46 y112.length co46) := (blk_cell BK111.out 0).trans rfl; have hcz54_1 : w53.cell? ⟨gb111, 1, none⟩ = some (.slice Ao51 t119.length co51) := (blk_cell BK111.out 1).trans rfl; have hcz54_2 : w53.cell? ⟨gb111, 2, none⟩ = some (.bool false) := (blk_cell BK111.out 2).trans rfl; have hfz54_0 := blk_frozen BK111.out 0; have hfz54_1 := blk_frozen BK111.out 1; have hfz54_2 := blk_frozen BK111.out 2) | ((with_reducible refine gate_builtin (b := .append) (xs := #[.tmp 53, .tmp 55]) rfl ?_); at_builtin; refine Kd.N_append k34 (w0 := w) w.heap.size rfl (.tmp 53) (.tmp 55) 22 34 (.agg #[(.slice none 0 0), (.slice none 0 0), (.bool false)]) 56 rfl Try.underlying22 info34 rfl (by decide) (by omega) u9 x9_1 (⟨y112, t119, false⟩ : S34) [.slice Ao46 y112.length co46, .slice Ao51 t119.length co51, .bool false] (fun k_ => (P0_ k_ ∨ w.heap.size ≤ k_) ∧ k_ ≠ gb111) (fun k_ => ((fun k_ => (P0_ k_ ∨ w.heap.size ≤ k_) ∧ k_ ≠ gb111)) k_ ∧ some k_ ≠ (u9 : Value).ownBlock) rfl rfl ?aP (fun _ hk => hk) ?aF ?aO ?aB ?aS ?aL ?_; (case aP => exact (k34_mkF _ _ (⟨y112, t119, false⟩ : S34) (Kd.R_reads' (Kd.R_mono (ok' := (fun k_ => ((fun k_ => (P0_ k_ ∨ w.heap.size ≤ k_) ∧ k_ ≠ gb111)) k_ ∧ some k_ ≠ (u9 : Value).ownBlock)) (Kd.R_types (Kd.R_apart' (HO114.out) (Kd.N_typed HO_9.out) (by decide)) BK111.out (by decide)) (fun k_ hk => ⟨⟨(.inr (hk.1.1)), hk.2⟩, hk.1.2⟩))).2.1 (Kd.R_F (Kd.R_mono (ok' := (fun k_ => ((fun k_ => (P0_ k_ ∨ w.heap.size ≤ k_) ∧ k_ ≠ gb111)) k_ ∧ some k_ ≠ (u9 : Value).ownBlock)) (Kd.R_types (Kd.R_apart' (HO114.out) (Kd.N_typed HO_9.out) (by decide)) BK111.out (by decide)) (fun k_ hk => ⟨⟨(.inr (hk.1.1)), hk.2⟩, hk.1.2⟩))) (Kd.V_reads' (Kd.V_mono (ok' := (fun k_ => ((fun k_ => (P0_ k_ ∨ w.heap.size ≤ k_) ∧ k_ ≠ gb111)) k_ ∧ some k_ ≠ (u9 : Value).ownBlock)) (HO121.out) (fun k_ hk => ⟨⟨hk.1, hk.2.2.2⟩, hk.2.1⟩))).2.1 (Kd.V_F (Kd.V_mono (ok' := (fun k_ => ((fun k_ => (P0_ k_ ∨ w.heap.size ≤ k_) ∧ k_ ≠ gb111)) k_ ∧ some k_ ≠ (u9 : Value).ownBlock)) (HO121.out) (fun k_ hk => ⟨⟨hk.1, hk.2.2.2⟩, hk.2.1⟩))))); (case aB => exact (belS HB.out)); (case aF => exact (fun k_ hk => ⟨(.inr (Nat.le_trans (below_size (belS HB.out)) hk)), Kd.freshB (g := gb111) (o := .cells #[.slice Ao46 y112.length co46, .slice Ao51 t119.length co51, .bool false] 34 (0, 0)) (blkN BK111.out) k_ hk⟩)); (case aO => exact (by (with_reducible repeat (first | apply Kd.N_alloc | apply Kd.N_drewN | apply Kd.N_drew)); exact Kd.N_mono HO_9.out (fun _ hk => ⟨hk.1, hk.2.2⟩))); (case aS => exact (below_size (belS HB.out))); (case aL => have := LMc33.out; omega); intro v123 w55 ho hb hg hat; rw [← Ny122.out] at ho; have n0_ := Aside0.mk (Kd.V_afterv (ok := (fun k_ => (P0_ k_ ∨ w.heap.size ≤ k_) ∧ some k_ ≠ (.slice Ao46 y112.length co46 : Value).ownBlock ∧ k_ ≠ gb111)) (by (with_reducible repeat (first | apply Kd.V_alloc | apply Kd.V_drewN | apply Kd.V_drew)); exact Kd.V_mono HO_0.out (fun _ hk => ⟨⟨hk.1, ⟨hk.2.2.1, hk.2.2.2⟩⟩, hk.2.1⟩)) hg hat); have n1_ := Aside0.mk (Kd.V_afterv (ok := (fun k_ => (P0_ k_ ∨ w.heap.size ≤ k_) ∧ some k_ ≠ (.slice Ao46 y112.length co46 : Value).ownBlock ∧ k_ ≠ gb111)) (by (with_reducible repeat (first | apply Kd.V_alloc | apply Kd.V_drewN | apply Kd.V_drew)); exact Kd.V_mono HL106_0.out (fun _ hk => ⟨⟨hk.1, ⟨hk.2.2.1, hk.2.2.2⟩⟩, hk.2.1⟩)) hg hat); have n2_ := Aside0.mk (Kd.V_afterv (ok := (fun k_ => (P0_ k_ ∨ w.heap.size ≤ k_) ∧ some k_ ≠ (.slice Ao46 y112.length co46 : Value).ownBlock ∧ k_ ≠ gb111)) (by (with_reducible repeat (first | apply Kd.V_alloc | apply Kd.V_drewN | apply Kd.V_drew)); exact Kd.V_mono HL106_1.out (fun _ hk => ⟨⟨hk.1, ⟨hk.2.2.1, hk.2.2.2⟩⟩, hk.2.1⟩)) hg hat); have n3_ := Aside0.mk (Kd.V_afterv (ok := (fun k_ => (P0_ k_ ∨ w.heap.size ≤ k_) ∧ some k_ ≠ (.slice Ao46 y112.length co46 : Value).ownBlock ∧ k_ ≠ gb111)) (by (with_reducible repeat (first | apply Kd.V_alloc | apply Kd.V_drewN | apply Kd.V_drew)); exact Kd.V_mono HL110_0.out (fun _ hk => ⟨⟨hk.1, ⟨hk.2.2.1, hk.2.2.2⟩⟩, hk.2.1⟩)) hg hat); have n4_ := Aside0.mk (Kd.V_afterv (ok := (fun k_ => (P0_ k_ ∨ w.heap.size ≤ k_) ∧ some k_ ≠ (.slice Ao46 y112.length co46 : Value).ownBlock ∧ k_ ≠ gb111)) (by (with_reducible repeat (first | apply Kd.V_alloc | apply Kd.V_drewN | apply Kd.V_drew)); exact Kd.V_mono HL110_1.out (fun _ hk => ⟨⟨hk.1, ⟨hk.2.2.1, hk.2.2.2⟩⟩, hk.2.1⟩)) hg hat); have n5_ := Aside0.mk (Kd.V_afterv (ok := (fun k_ => (P0_ k_ ∨ w.heap.size ≤ k_) ∧ some k_ ≠ (.slice Ao46 y112.length co46 : Value).ownBlock ∧ k_ ≠ gb111)) (by (with_reducible repeat (first | apply Kd.V_alloc | apply Kd.V_drewN | apply Kd.V_drew)); exact Kd.V_mono HO109.out (fun _ hk => ⟨⟨hk.1, ⟨hk.2.2.1, hk.2.2.2⟩⟩, hk.2.1⟩)) hg hat); have n6_ := Aside0.mk (blk_grown (g := gb111) (o := .cells #[.slice Ao46 y112.length co46, .slice Ao51 t119.length co51, .bool false] 34 (0, 0)) (blkN BK111.out) hg (Kd.N_away HO_9.out (fun _ hk => hk.2.2))); have n7_ := Aside0.mk (Kd.V_afterv (ok := (fun k_ => (P0_ k_ ∨ w.heap.size ≤ k_) ∧ some k_ ≠ (.slice Ao46 y112.length co46 : Value).ownBlock ∧ k_ ≠ gb111)) (by (with_reducible repeat (first | apply Kd.V_alloc | apply Kd.V_drewN | apply Kd.V_drew)); exact Kd.V_mono HL118_0.out (fun _ hk => ⟨⟨hk.1, ⟨hk.2.2.1, hk.2.2.2⟩⟩, hk.2.1⟩)) hg hat); have n8_ := Aside0.mk (Kd.V_afterv (ok := (fun k_ => (P0_ k_ ∨ w.heap.size ≤ k_) ∧ some k_ ≠ (.slice Ao46 y112.length co46 : Value).ownBlock ∧ k_ ≠ gb111)) (by (with_reducible repeat (first | apply Kd.V_alloc | apply Kd.V_drewN | apply Kd.V_drew)); exact Kd.V_mono HL118_1.out (fun _ hk => ⟨⟨hk.1, ⟨hk.2.2.1, hk.2.2.2⟩⟩, hk.2.1⟩)) hg hat); have n9_ := Aside0.mk (Kd.V_afterv (ok := (fun k_ => (P0_ k_ ∨ w.heap.size ≤ k_) ∧ some k_ ≠ (.slice Ao46 y112.length co46 : Value).ownBlock ∧ k_ ≠ gb111)) (by (with_reducible repeat (first | apply Kd.V_alloc | apply Kd.V_drewN | apply Kd.V_drew)); exact Kd.V_mono HO121.out (fun _ hk => ⟨⟨hk.1, ⟨hk.2.2.1, hk.2.2.2⟩⟩, hk.2.1⟩)) hg hat); have n10_ := Aside0.mk (hb); have n11_ := Aside0.mk (ho); clear HO_0; clear HL106_0; clear HL106_1; clear HL110_0; clear HL110_1; clear HO109; clear BK111; clear HL118_0; clear HL118_1; clear HO121; clear HB; clear HO_9; clear HO114; have HO_0 := n0_; have HL106_0 := n1_; have HL106_1 := n2_; have HL110_0 := n3_; have HL110_1 := n4_; have HO109 := n5_; have BK111 := n6_; have HL118_0 := n7_; have HL118_1 := n8_; have HO121 := n9_; have HB := n10_; have HO124 := n11_; clear n0_ n1_ n2_ n3_ n4_ n5_ n6_ n7_ n8_ n9_ n10_ n11_; clear ho hb hg hat))
           go_roundg kj4
           case measure => have := HK1.out; have := HJ4.out; omega
           case rel => exact ⟨(y122), (wrap64 (x10_1 + 1)), (by first | rfl | (simp; done) | (simp [*]; done)), H', ⟨by have := HK1.out; have := HJ4.out; omega⟩, ⟨by (with_reducible repeat (first | apply Kd.V_alloc | apply Kd.V_drewN | apply Kd.V_drew)); exact Kd.V_mono HO_0.out (fun _ hk => ⟨hk.1.1, hk.2⟩)⟩, ⟨by (with_reducible repeat (first | apply Kd.N_alloc | apply Kd.N_drewN | apply Kd.N_drew)); exact Kd.N_mono HO124.out (fun _ hk => hk.1)⟩, ⟨(belS HB.out)⟩⟩
          ·rw [if_neg c33] at H
           exact absurd H (by simp)
        ·rw [if_neg c11] at H
         have c11b0 : ((t107.length : Int) == 0) = false := beq_eq_false_iff_ne.mpr c11
         have c11b1 : ((t107.length : Int) != 0) = true := bne_iff_ne.mpr c11
         have c11b2 : ¬ (t107 = []) := fun h_ => c11 (by rw [h_]; rfl)
         obtain ⟨bq56, hbq56⟩ : ∃ b_ : Bool, b_ = ((rd_T34 l0 x10_1).f2) := ⟨_, rfl⟩
         replace H : (if (bq56 = true) then (if x9_1.length < 2513169434916 then (marigraphkeep_Entries.l0 kj4 l0 a1 a2 a3 (x9_1 ++ [(⟨t107, ([] : List Int), bq56⟩ : S34)]) (wrap64 (x10_1 + 1))) else (none)) else ((marigraphkeep_Cut.f ((rd_T34 l0 x10_1).f1) a3).bind fun t129 => (if x9_1.length < 2513169434916 then (marigraphkeep_Entries.l0 kj4 l0 a1 a2 a3 (x9_1 ++ [(⟨t107, t129, bq56⟩ : S34)]) (wrap64 (x10_1 + 1))) else (none)))) = some r := by rw [← hbq56] at H; exact H
         have Nbq56 := Aside0.mk hbq56
         clear hbq56
         by_cases c57 : (bq56 = true)
         ·subst c57
          have H1 : (if x9_1.length < 2513169434916 then (marigraphkeep_Entries.l0 kj4 l0 a1 a2 a3 (x9_1 ++ [(⟨t107, ([] : List Int), true⟩ : S34)]) (wrap64 (x10_1 + 1))) else (none)) = some r := by rw [if_pos rfl] at H; exact H
          clear H
          have H := H1
          clear H1
          by_cases c58 : x9_1.length < 2513169434916
          ·rw [if_pos c58] at H
           have LMc58 := Aside0.mk c58
           clear c58
           obtain ⟨y125, hy125⟩ : ∃ y_ : List (S34), y_ = (x9_1 ++ [(⟨t107, ([] : List Int), true⟩ : S34)]) := ⟨_, rfl⟩
           replace H : (marigraphkeep_Entries.l0 kj4 l0 a1 a2 a3 y125 (wrap64 (x10_1 + 1))) = some r := by first | (rw [hy125]; with_reducible exact H) | (have H2_ := (Option.bind_some _ _).symm.trans H; rw [hy125]; with_reducible exact H2_) | (have H2_ := (Option.bind_some _ _).symm.trans H; with_reducible exact H2_) | with_reducible exact H | (rw [hy125]; exact H) | exact H
           have Ny125 := Aside0.mk hy125
           clear hy125
           have H' := Aside0.mk H
           clear H
           try go_wp2
           have n0_ := Aside0.mk (Kd.V_drew HO_0.out)
           have n1_ := Aside0.mk (Kd.N_drew HO_9.out)
           have n2_ := Aside0.mk (below_drew1 HB.out)
           clear HO_0
           clear HO_9
           clear HB
           have HO_0 := n0_
           have HO_9 := n1_
           have HB := n2_
           clear n0_ n1_ n2_
           have p106 : 0 ≤ (x10_1 : Int) := of_decide_eq_true (by first | (with_reducible assumption) | assumption)
           have q106 : x10_1 < (l0.length : Int) := of_decide_eq_true (by first | (with_reducible assumption) | assumption)
           obtain ⟨ad106, A106_0, c106_0, A106_1, c106_1, e106, hx106_0, hx106_1, hx106_2, hl106_0, hi106_0, hl106_1, hi106_1⟩ := at_T34 (Kd.V_reads' HO_0.out).2.2 x10_1 p106 q106
           (try rw [← Nbq56.out] at hx106_2)
           cases e106
           obtain ⟨ce106, hce106, hMe106, hcc106⟩ := Kd.V_get HO_0.out z34 x10_1 p106 (by first | exact q106 | exact of_decide_eq_true (by first | (with_reducible assumption) | assumption) | (have e_ := (Kd.V_reads' HO_0.out).1; omega))
           obtain ⟨ua106_0, uc106_0, ua106_1, uc106_1, rfl, ul106_0, ge106_0, ul106_1, ge106_1⟩ := k34_openF hMe106
           have hv106_0 := hcc106 0 _ rfl
           rw [Nat.add_zero] at hv106_0
           replace hv106_0 := Option.some.inj (hv106_0.symm.trans hx106_0)
           injection hv106_0 with hva_ hvn_ hvc_
           rw [hva_] at ge106_0
           rw [hvc_] at ul106_0
           have HL106_0 := Aside0.mk (show Kd.V (Kd.int .u8) 5 _ w.heap.size _ _ ((rd_T34 l0 x10_1).f0) from Kd.V_mk ul106_0 ge106_0)
           clear hva_ hvn_ hvc_ ge106_0 ul106_0
           have hv106_1 := hcc106 1 _ rfl
           rw [add_field _ _ 1 (by omega)] at hv106_1
           replace hv106_1 := Option.some.inj (hv106_1.symm.trans hx106_1)
           injection hv106_1 with hva_ hvn_ hvc_
           rw [hva_] at ge106_1
           rw [hvc_] at ul106_1
           have HL106_1 := Aside0.mk (show Kd.V (Kd.int .u8) 5 _ w.heap.size _ _ ((rd_T34 l0 x10_1).f1) from Kd.V_mk ul106_1 ge106_1)
           clear hva_ hvn_ hvc_ ge106_1 ul106_1
           clear hcc106 hce106
           have HR106_0 := Aside0.mk hi106_0
           have HC106_0 := Aside0.mk hl106_0
           clear hi106_0 hl106_0
           have HR106_1 := Aside0.mk hi106_1
           have HC106_1 := Aside0.mk hl106_1
           clear hi106_1 hl106_1
           replace p106 := eq_true p106
           replace q106 := eq_true q106
           have p110 : 0 ≤ (x10_1 : Int) := of_decide_eq_true (by first | (with_reducible assumption) | assumption)
           have q110 : x10_1 < (l0.length : Int) := of_decide_eq_true (by first | (with_reducible assumption) | assumption)
           obtain ⟨ad110, A110_0, c110_0, A110_1, c110_1, e110, hx110_0, hx110_1, hx110_2, hl110_0, hi110_0, hl110_1, hi110_1⟩ := at_T34 (Kd.V_reads' HO_0.out).2.2 x10_1 p110 q110
           (try rw [← Nbq56.out] at hx110_2)
           obtain rfl : ad106 = ad110 := (by injection e110)
           obtain ⟨ce110, hce110, hMe110, hcc110⟩ := Kd.V_get HO_0.out z34 x10_1 p110 (by first | exact q110 | exact of_decide_eq_true (by first | (with_reducible assumption) | assumption) | (have e_ := (Kd.V_reads' HO_0.out).1; omega))
           obtain ⟨ua110_0, uc110_0, ua110_1, uc110_1, rfl, ul110_0, ge110_0, ul110_1, ge110_1⟩ := k34_openF hMe110
           have hv110_0 := hcc110 0 _ rfl
           rw [Nat.add_zero] at hv110_0
           replace hv110_0 := Option.some.inj (hv110_0.symm.trans hx110_0)
           injection hv110_0 with hva_ hvn_ hvc_
           rw [hva_] at ge110_0
           rw [hvc_] at ul110_0
           have HL110_0 := Aside0.mk (show Kd.V (Kd.int .u8) 5 _ w.heap.size _ _ ((rd_T34 l0 x10_1).f0) from Kd.V_mk ul110_0 ge110_0)
           clear hva_ hvn_ hvc_ ge110_0 ul110_0
           have hv110_1 := hcc110 1 _ rfl
           rw [add_field _ _ 1 (by omega)] at hv110_1
           replace hv110_1 := Option.some.inj (hv110_1.symm.trans hx110_1)
           injection hv110_1 with hva_ hvn_ hvc_
           rw [hva_] at ge110_1
           rw [hvc_] at ul110_1
           have HL110_1 := Aside0.mk (show Kd.V (Kd.int .u8) 5 _ w.heap.size _ _ ((rd_T34 l0 x10_1).f1) from Kd.V_mk ul110_1 ge110_1)
           clear hva_ hvn_ hvc_ ge110_1 ul110_1
           clear hcc110 hce110
           have HR110_0 := Aside0.mk hi110_0
           have HC110_0 := Aside0.mk hl110_0
           clear hi110_0 hl110_0
           have HR110_1 := Aside0.mk hi110_1
           have HC110_1 := Aside0.mk hl110_1
           clear hi110_1 hl110_1
           replace p110 := eq_true p110
           replace q110 := eq_true q110
           have ea_ := Option.some.inj (hx106_0.symm.trans hx110_0)
           injection ea_ with ea_ en_ ec_
           subst ea_
           subst ec_
           clear en_
           have ea_ := Option.some.inj (hx106_1.symm.trans hx110_1)
           injection ea_ with ea_ en_ ec_
           subst ea_
           subst ec_
           clear en_
           refine start_ (n := 15) (S := fun w' => w'.cell? (ad106.add ((x10_1).toNat * 3)) = some (.slice A106_0 ((rd_T34 l0 x10_1).f0).length c106_0) ∧ w'.cell? ⟨(ad106.add ((x10_1).toNat * 3)).block, (ad106.add ((x10_1).toNat * 3)).off + 1, none⟩ = some (.slice A106_1 ((rd_T34 l0 x10_1).f1).length c106_1) ∧ w'.cell? ⟨(ad106.add ((x10_1).toNat * 3)).block, (ad106.add ((x10_1).toNat * 3)).off + 2, none⟩ = some (.bool true) ∧ w'.cell? (ad106.add ((x10_1).toNat * 3)) = some (.slice A106_0 ((rd_T34 l0 x10_1).f0).length c106_0) ∧ w'.cell? ⟨(ad106.add ((x10_1).toNat * 3)).block, (ad106.add ((x10_1).toNat * 3)).off + 1, none⟩ = some (.slice A106_1 ((rd_T34 l0 x10_1).f1).length c106_1) ∧ w'.cell? ⟨(ad106.add ((x10_1).toNat * 3)).block, (ad106.add ((x10_1).toNat * 3)).off + 2, none⟩ = some (.bool true)) (ds := []) #[false, false, false, false, false, false, false, false, false, false, false, false, false, false, false] (by kernel_rfl) rfl rfl ⟨hx106_0, hx106_1, hx106_2, hx110_0, hx110_1, hx110_2⟩ (fun hHeld => ?_); refine with_tabW marigraphkeep_Entries.tab5 marigraphkeep_Entries.bits5 (fun HT_ HW_ => ?_)
           generalize wc.drew = w59 at HO_0 HO_9 HB HL106_0 HL106_1 HL110_0 HL110_1 HR106_0 HR106_1 HR110_0 HR110_1 hx106_0 hx106_1 hx106_2 hx110_0 hx110_1 hx110_2 hHeld ⊢
           refine pA 0 (some 23) (bA 15 1) HT_.out ?_
           refine pA 1 (some 24) (bA 15 3) HT_.out ?_
           refine pA 2 (some 25) (bA 15 7) HT_.out ?_
           refine pA 3 (some 26) (bA 15 15) HT_.out ?_
           refine pA 5 (some 28) (bA 15 47) HT_.out ?_
           refine pA 7 (some 30) (bA 15 175) HT_.out ?_
           refine pA 8 (some 31) (bA 15 431) HT_.out ?_
           refine pA 9 (some 32) (bA 15 943) HT_.out ?_
           refine pA 10 (some 33) (bA 15 1967) HT_.out ?_
           refine take_ (i := 4) (N := some 27) (v := ?_) (a' := ?_) (bA 15 1983) rfl rfl (take_ofW HT_.out HW_.out (by kernel_rfl)) (fun _ _ _ h => h) (Or.inl ⟨by rfl, ?_⟩) hHeld ?_ ?_
           rotate_left
           ·rintro w' ⟨s0, s1, s2, s3, s4, s5⟩
            go_simp
            with_reducible rfl
           rotate_left
           ·simp only [Act.put, List.setIfInBounds_toArray, List.set_cons_zero, List.set_cons_succ, i64_w, i32_w]
            rfl
           refine take_ (i := 11) (N := some 34) (v := ?_) (a' := ?_) (bA 15 4031) rfl rfl (take_ofW HT_.out HW_.out (by kernel_rfl)) (fun _ _ _ h => h) (Or.inl ⟨by rfl, ?_⟩) hHeld ?_ ?_
           rotate_left
           ·rintro w' ⟨s0, s1, s2, s3, s4, s5⟩
            go_simp
            with_reducible rfl
           rotate_left
           ·simp only [Act.put, List.setIfInBounds_toArray, List.set_cons_zero, List.set_cons_succ, i64_w, i32_w]
            rfl
           refine join_ (σ := Value × Nat) 1 (bA 15 16383) (fun s_ => [(29, s_.1), (11, .pointer (some ⟨s_.2, 0, none⟩)), (35, .agg #[s_.1, .slice none 0 0, .bool true])]) (fun s_ w' => (w'.cell? (ad106.add ((x10_1).toNat * 3)) = some (.slice A106_0 ((rd_T34 l0 x10_1).f0).length c106_0) ∧ w'.cell? ⟨(ad106.add ((x10_1).toNat * 3)).block, (ad106.add ((x10_1).toNat * 3)).off + 1, none⟩ = some (.slice A106_1 ((rd_T34 l0 x10_1).f1).length c106_1) ∧ w'.cell? ⟨(ad106.add ((x10_1).toNat * 3)).block, (ad106.add ((x10_1).toNat * 3)).off + 2, none⟩ = some (.bool true) ∧ w'.cell? (ad106.add ((x10_1).toNat * 3)) = some (.slice A106_0 ((rd_T34 l0 x10_1).f0).length c106_0) ∧ w'.cell? ⟨(ad106.add ((x10_1).toNat * 3)).block, (ad106.add ((x10_1).toNat * 3)).off + 1, none⟩ = some (.slice A106_1 ((rd_T34 l0 x10_1).f1).length c106_1) ∧ w'.cell? ⟨(ad106.add ((x10_1).toNat * 3)).block, (ad106.add ((x10_1).toNat * 3)).off + 2, none⟩ = some (.bool true)) ∧ (Kd.V (Kd.int .u8) 5 w' w.heap.size (fun k_ => (P0_ k_ ∨ w.heap.size ≤ k_) ∧ some k_ ≠ (u9 : Value).ownBlock ∧ k_ ≠ s_.2) (.slice A106_0 ((rd_T34 l0 x10_1).f0).length c106_0) ((rd_T34 l0 x10_1).f0)) ∧ (Kd.V (Kd.int .u8) 5 w' w.heap.size (fun k_ => (P0_ k_ ∨ w.heap.size ≤ k_) ∧ some k_ ≠ (u9 : Value).ownBlock ∧ k_ ≠ s_.2) (.slice A106_1 ((rd_T34 l0 x10_1).f1).length c106_1) ((rd_T34 l0 x10_1).f1)) ∧ (Kd.V (Kd.int .u8) 5 w' w.heap.size (fun k_ => (P0_ k_ ∨ w.heap.size ≤ k_) ∧ some k_ ≠ (u9 : Value).ownBlock ∧ k_ ≠ s_.2) (.slice A106_0 ((rd_T34 l0 x10_1).f0).length c106_0) ((rd_T34 l0 x10_1).f0)) ∧ (Kd.V (Kd.int .u8) 5 w' w.heap.size (fun k_ => (P0_ k_ ∨ w.heap.size ≤ k_) ∧ some k_ ≠ (u9 : Value).ownBlock ∧ k_ ≠ s_.2) (.slice A106_1 ((rd_T34 l0 x10_1).f1).length c106_1) ((rd_T34 l0 x10_1).f1)) ∧ (Kd.V (Kd.int .u8) 5 w' w.heap.size (fun k_ => (P0_ k_ ∨ w.heap.size ≤ k_) ∧ some k_ ≠ (u9 : Value).ownBlock ∧ k_ ≠ s_.2) s_.1 t107) ∧ (Kd.V k34 34 w' w.heap.size (fun k_ => (P0_ k_ ∨ w.heap.size ≤ k_) ∧ some k_ ≠ (u9 : Value).ownBlock ∧ k_ ≠ s_.2) (.slice (some ad106) l0.length c0) l0) ∧ (Kd.N k34 34 w' w.heap.size (fun k_ => (P0_ k_ ∨ w.heap.size ≤ k_) ∧ k_ ≠ s_.2) u9 x9_1) ∧ (w'.heap[s_.2]? = some (.cells #[.slice none 0 0, .slice none 0 0, .bool false] 34 (0, 0))) ∧ (w.heap.size ≤ s_.2) ∧ (w.heap.size ≤ s_.2) ∧ (Below w.heap.size w w')) ?_ ?_
           rotate_left
           ·intro hCont
            refine two_ (i := 6) (j := 13) (Ni := some 29) (Nj := some 11) (bA 15 4095) (bA 15 12223) rfl rfl rfl rfl (two_of HT_.out (by kernel_rfl)) (by decide) (by decide) (fun K hK => ?_) (fun K hK => ?_)
            ·skip
             refine goes_ Try.func20 (by kernel_rfl) rfl #[.slice A106_0 ((rd_T34 l0 x10_1).f0).length c106_0, .int .i64 a2] (by rfl) rfl rfl argN ?_
             with_reducible refine (marigraphkeep_Cut.calls (fun k_ => ((P0_ k_ ∨ w.heap.size ≤ k_) ∧ some k_ ≠ (u9 : Value).ownBlock)) _ _ ((rd_T34 l0 x10_1).f0) a2 t107 _ ?side1 A10.out).mono ?_
             (case side1 => exact HL106_0.out)
             rintro e w60 ⟨v108, rfl, ho0, hb⟩
             have HS0_ := (hb.cell (World.block_lt_of_cell? _ _ (hHeld.1))).trans (hHeld.1)
             have HS1_ := (hb.cell (World.block_lt_of_cell? _ _ (hHeld.2.1))).trans (hHeld.2.1)
             have HS2_ := (hb.cell (World.block_lt_of_cell? _ _ (hHeld.2.2.1))).trans (hHeld.2.2.1)
             have HS3_ := (hb.cell (World.block_lt_of_cell? _ _ (hHeld.2.2.2.1))).trans (hHeld.2.2.2.1)
             have HS4_ := (hb.cell (World.block_lt_of_cell? _ _ (hHeld.2.2.2.2.1))).trans (hHeld.2.2.2.2.1)
             have HS5_ := (hb.cell (World.block_lt_of_cell? _ _ (hHeld.2.2.2.2.2))).trans (hHeld.2.2.2.2.2)
             refine ⟨_, rfl, ?_⟩
             have n0_ := Aside0.mk (Kd.V_below (by (with_reducible repeat (first | apply Kd.V_alloc | apply Kd.V_drewN | apply Kd.V_drew)); exact HO_0.out) hb)
             have n1_ := Aside0.mk (Kd.N_below (by (with_reducible repeat (first | apply Kd.N_alloc | apply Kd.N_drewN | apply Kd.N_drew)); exact HO_9.out) hb)
             have n2_ := Aside0.mk (Kd.V_below (by (with_reducible repeat (first | apply Kd.V_alloc | apply Kd.V_drewN | apply Kd.V_drew)); exact HL106_0.out) hb)
             have n3_ := Aside0.mk (Kd.V_below (by (with_reducible repeat (first | apply Kd.V_alloc | apply Kd.V_drewN | apply Kd.V_drew)); exact HL106_1.out) hb)
             have n4_ := Aside0.mk (Kd.V_below (by (with_reducible repeat (first | apply Kd.V_alloc | apply Kd.V_drewN | apply Kd.V_drew)); exact HL110_0.out) hb)
             have n5_ := Aside0.mk (Kd.V_below (by (with_reducible repeat (first | apply Kd.V_alloc | apply Kd.V_drewN | apply Kd.V_drew)); exact HL110_1.out) hb)
             have n6_ := Aside0.mk (Kd.V_lower (Kd.V_mono (ok' := fun k_ => (P0_ k_ ∨ w.heap.size ≤ k_) ∧ some k_ ≠ (u9 : Value).ownBlock) ho0 (fun k_ hk_ => ⟨Or.elim hk_ (fun hs_ => hs_.1) (fun hn_ => (.inr (Nat.le_trans (below_size (belN HB.out)) hn_))), Or.elim hk_ (fun hs_ => hs_.2) (fun hn_ => (Kd.fresh' (Kd.N_lt (by (with_reducible repeat (first | apply Kd.N_alloc | apply Kd.N_drewN | apply Kd.N_drew)); exact HO_9.out)) k_ hn_))⟩)) (below_size (belN HB.out)))
             have n7_ := Aside0.mk (cbN HR106_0.out hb)
             have n8_ := Aside0.mk (cbN HR106_1.out hb)
             have n9_ := Aside0.mk (cbN HR110_0.out hb)
             have n10_ := Aside0.mk (cbN HR110_1.out hb)
             have n11_ := Aside0.mk (below_step (belN HB.out) hb)
             clear HO_0
             clear HO_9
             clear HL106_0
             clear HL106_1
             clear HL110_0
             clear HL110_1
             clear HR106_0
             clear HR106_1
             clear HR110_0
             clear HR110_1
             clear HB
             have HO_0 := n0_
             have HO_9 := n1_
             have HL106_0 := n2_
             have HL106_1 := n3_
             have HL110_0 := n4_
             have HL110_1 := n5_
             have HO109 := n6_
             have HR106_0 := n7_
             have HR106_1 := n8_
             have HR110_0 := n9_
             have HR110_1 := n10_
             have HB := n11_
             clear n0_ n1_ n2_ n3_ n4_ n5_ n6_ n7_ n8_ n9_ n10_ n11_
             (try clear hb)
             (try clear hk)
             (try clear ho0)
             obtain ⟨Ao61, co61, eo61⟩ := Kd.V_slice HO109.out
             (first | subst eo61 | (injection eo61 with f1_ f2_ f3_; have f4_ := f1_.symm; have f5_ := f3_.symm; clear f1_ f2_ f3_; subst f4_; subst f5_))
             refine hK.out _ _ ⟨HS0_, HS1_, HS2_, HS3_, HS4_, HS5_⟩ (fun hHeld => ?_)
             clear hK K
             refine norm_ (a' := ?_) ?_ ?_
             rotate_left
             ·show Act.put _ (some 29) _ = _
              simp only [Act.put, List.setIfInBounds_toArray, List.set_cons_zero, List.set_cons_succ, i64_w, i32_w]
              rfl
             refine pA 12 (some 35) (bA 15 8191) HT_.out ?_
             refine one_ (i := 13) (N := some 11) (bA 15 16383) rfl rfl (one_of HT_.out (by kernel_rfl)) (by decide) (fun K hK => ?_)
             refine box_step ?hg (N := 11) ?hd (cs := #[.slice none 0 0, .slice none 0 0, .bool false]) (t := 34) ?hr ?_; (case hd => rfl); (case hg => rfl); (case hr => first | (go_simp; done) | (go_simp; rfl))
             intro gb111 hg w62 hbox hb
             have HS0_ := (hb.cell (World.block_lt_of_cell? _ _ (hHeld.1))).trans (hHeld.1)
             have HS1_ := (hb.cell (World.block_lt_of_cell? _ _ (hHeld.2.1))).trans (hHeld.2.1)
             have HS2_ := (hb.cell (World.block_lt_of_cell? _ _ (hHeld.2.2.1))).trans (hHeld.2.2.1)
             have HS3_ := (hb.cell (World.block_lt_of_cell? _ _ (hHeld.2.2.2.1))).trans (hHeld.2.2.2.1)
             have HS4_ := (hb.cell (World.block_lt_of_cell? _ _ (hHeld.2.2.2.2.1))).trans (hHeld.2.2.2.2.1)
             have HS5_ := (hb.cell (World.block_lt_of_cell? _ _ (hHeld.2.2.2.2.2))).trans (hHeld.2.2.2.2.2)
             have n0_ := Aside0.mk (Kd.V_below (Kd.V_elderB (by (with_reducible repeat (first | apply Kd.V_alloc | apply Kd.V_drewN | apply Kd.V_drew)); exact HO_0.out) gb111 (Nat.le_of_eq hg.symm)) hb)
             have n1_ := Aside0.mk (Kd.N_below (Kd.N_elderB (by (with_reducible repeat (first | apply Kd.N_alloc | apply Kd.N_drewN | apply Kd.N_drew)); exact HO_9.out) gb111 (Nat.le_of_eq hg.symm)) hb)
             have n2_ := Aside0.mk (Kd.V_below (Kd.V_elderB (by (with_reducible repeat (first | apply Kd.V_alloc | apply Kd.V_drewN | apply Kd.V_drew)); exact HL106_0.out) gb111 (Nat.le_of_eq hg.symm)) hb)
             have n3_ := Aside0.mk (Kd.V_below (Kd.V_elderB (by (with_reducible repeat (first | apply Kd.V_alloc | apply Kd.V_drewN | apply Kd.V_drew)); exact HL106_1.out) gb111 (Nat.le_of_eq hg.symm)) hb)
             have n4_ := Aside0.mk (Kd.V_below (Kd.V_elderB (by (with_reducible repeat (first | apply Kd.V_alloc | apply Kd.V_drewN | apply Kd.V_drew)); exact HL110_0.out) gb111 (Nat.le_of_eq hg.symm)) hb)
             have n5_ := Aside0.mk (Kd.V_below (Kd.V_elderB (by (with_reducible repeat (first | apply Kd.V_alloc | apply Kd.V_drewN | apply Kd.V_drew)); exact HL110_1.out) gb111 (Nat.le_of_eq hg.symm)) hb)
             have n6_ := Aside0.mk (Kd.V_below (Kd.V_elderB (by (with_reducible repeat (first | apply Kd.V_alloc | apply Kd.V_drewN | apply Kd.V_drew)); exact HO109.out) gb111 (Nat.le_of_eq hg.symm)) hb)
             have n7_ := Aside0.mk (cbN HR106_0.out hb)
             have n8_ := Aside0.mk (cbN HR106_1.out hb)
             have n9_ := Aside0.mk (cbN HR110_0.out hb)
             have n10_ := Aside0.mk (cbN HR110_1.out hb)
             have n11_ := Aside0.mk (below_step (belN HB.out) hb)
             have n12_ := Aside0.mk (hbox)
             have n13_ := Aside0.mk (szB hg HB.out)
             have n14_ := Aside0.mk (szB hg HB.out)
             clear HO_0
             clear HO_9
             clear HL106_0
             clear HL106_1
             clear HL110_0
             clear HL110_1
             clear HO109
             clear HR106_0
             clear HR106_1
             clear HR110_0
             clear HR110_1
             clear HB
             have HO_0 := n0_
             have HO_9 := n1_
             have HL106_0 := n2_
             have HL106_1 := n3_
             have HL110_0 := n4_
             have HL110_1 := n5_
             have HO109 := n6_
             have HR106_0 := n7_
             have HR106_1 := n8_
             have HR110_0 := n9_
             have HR110_1 := n10_
             have HB := n11_
             have BK111 := n12_
             have GW111 := n13_
             have GE111 := n14_
             clear n0_ n1_ n2_ n3_ n4_ n5_ n6_ n7_ n8_ n9_ n10_ n11_ n12_ n13_ n14_
             clear hb hbox hg
             refine hK.out _ _ ⟨HS0_, HS1_, HS2_, HS3_, HS4_, HS5_⟩ (fun hHeld => ?_)
             clear hK K
             refine norm_ (a' := ?_) ?_ ?_
             rotate_left
             ·show Act.put _ (some 11) _ = _
              simp only [Act.put, List.setIfInBounds_toArray, List.set_cons_zero, List.set_cons_succ, i64_w, i32_w]
              rfl
             exact norm_ (by simp only [putAll, Act.put, List.setIfInBounds_toArray, List.set_cons_zero, List.set_cons_succ]) (hCont (.slice Ao61 t107.length co61, gb111) _ ⟨hHeld, (by (with_reducible repeat (first | apply Kd.V_alloc | apply Kd.V_drewN | apply Kd.V_drew)); exact Kd.V_mono HL106_0.out (fun _ hk => ⟨hk.1.1, ⟨hk.1.2, hk.2⟩⟩)), (by (with_reducible repeat (first | apply Kd.V_alloc | apply Kd.V_drewN | apply Kd.V_drew)); exact Kd.V_mono HL106_1.out (fun _ hk => ⟨hk.1.1, ⟨hk.1.2, hk.2⟩⟩)), (by (with_reducible repeat (first | apply Kd.V_alloc | apply Kd.V_drewN | apply Kd.V_drew)); exact Kd.V_mono HL110_0.out (fun _ hk => ⟨hk.1.1, ⟨hk.1.2, hk.2⟩⟩)), (by (with_reducible repeat (first | apply Kd.V_alloc | apply Kd.V_drewN | apply Kd.V_drew)); exact Kd.V_mono HL110_1.out (fun _ hk => ⟨hk.1.1, ⟨hk.1.2, hk.2⟩⟩)), (by (with_reducible repeat (first | apply Kd.V_alloc | apply Kd.V_drewN | apply Kd.V_drew)); exact Kd.V_mono HO109.out (fun _ hk => ⟨hk.1.1, ⟨hk.1.2, hk.2⟩⟩)), (by (with_reducible repeat (first | apply Kd.V_alloc | apply Kd.V_drewN | apply Kd.V_drew)); exact Kd.V_mono HO_0.out (fun _ hk => ⟨hk.1.1, ⟨hk.1.2, hk.2⟩⟩)), (by (with_reducible repeat (first | apply Kd.N_alloc | apply Kd.N_drewN | apply Kd.N_drew)); exact HO_9.out), (blkN BK111.out), GW111.out, GE111.out, (belS HB.out)⟩)
            ·skip
             refine box_step ?hg (N := 11) ?hd (cs := #[.slice none 0 0, .slice none 0 0, .bool false]) (t := 34) ?hr ?_; (case hd => rfl); (case hg => rfl); (case hr => first | (go_simp; done) | (go_simp; rfl))
             intro gb111 hg w60 hbox hb
             have HS0_ := (hb.cell (World.block_lt_of_cell? _ _ (hHeld.1))).trans (hHeld.1)
             have HS1_ := (hb.cell (World.block_lt_of_cell? _ _ (hHeld.2.1))).trans (hHeld.2.1)
             have HS2_ := (hb.cell (World.block_lt_of_cell? _ _ (hHeld.2.2.1))).trans (hHeld.2.2.1)
             have HS3_ := (hb.cell (World.block_lt_of_cell? _ _ (hHeld.2.2.2.1))).trans (hHeld.2.2.2.1)
             have HS4_ := (hb.cell (World.block_lt_of_cell? _ _ (hHeld.2.2.2.2.1))).trans (hHeld.2.2.2.2.1)
             have HS5_ := (hb.cell (World.block_lt_of_cell? _ _ (hHeld.2.2.2.2.2))).trans (hHeld.2.2.2.2.2)
             have n0_ := Aside0.mk (Kd.V_below (Kd.V_elderB (by (with_reducible repeat (first | apply Kd.V_alloc | apply Kd.V_drewN | apply Kd.V_drew)); exact HO_0.out) gb111 (Nat.le_of_eq hg.symm)) hb)
             have n1_ := Aside0.mk (Kd.N_below (Kd.N_elderB (by (with_reducible repeat (first | apply Kd.N_alloc | apply Kd.N_drewN | apply Kd.N_drew)); exact HO_9.out) gb111 (Nat.le_of_eq hg.symm)) hb)
             have n2_ := Aside0.mk (Kd.V_below (Kd.V_elderB (by (with_reducible repeat (first | apply Kd.V_alloc | apply Kd.V_drewN | apply Kd.V_drew)); exact HL106_0.out) gb111 (Nat.le_of_eq hg.symm)) hb)
             have n3_ := Aside0.mk (Kd.V_below (Kd.V_elderB (by (with_reducible repeat (first | apply Kd.V_alloc | apply Kd.V_drewN | apply Kd.V_drew)); exact HL106_1.out) gb111 (Nat.le_of_eq hg.symm)) hb)
             have n4_ := Aside0.mk (Kd.V_below (Kd.V_elderB (by (with_reducible repeat (first | apply Kd.V_alloc | apply Kd.V_drewN | apply Kd.V_drew)); exact HL110_0.out) gb111 (Nat.le_of_eq hg.symm)) hb)
             have n5_ := Aside0.mk (Kd.V_below (Kd.V_elderB (by (with_reducible repeat (first | apply Kd.V_alloc | apply Kd.V_drewN | apply Kd.V_drew)); exact HL110_1.out) gb111 (Nat.le_of_eq hg.symm)) hb)
             have n6_ := Aside0.mk (cbN HR106_0.out hb)
             have n7_ := Aside0.mk (cbN HR106_1.out hb)
             have n8_ := Aside0.mk (cbN HR110_0.out hb)
             have n9_ := Aside0.mk (cbN HR110_1.out hb)
             have n10_ := Aside0.mk (below_step (belN HB.out) hb)
             have n11_ := Aside0.mk (hbox)
             have n12_ := Aside0.mk (szB hg HB.out)
             have n13_ := Aside0.mk (szB hg HB.out)
             clear HO_0
             clear HO_9
             clear HL106_0
             clear HL106_1
             clear HL110_0
             clear HL110_1
             clear HR106_0
             clear HR106_1
             clear HR110_0
             clear HR110_1
             clear HB
             have HO_0 := n0_
             have HO_9 := n1_
             have HL106_0 := n2_
             have HL106_1 := n3_
             have HL110_0 := n4_
             have HL110_1 := n5_
             have HR106_0 := n6_
             have HR106_1 := n7_
             have HR110_0 := n8_
             have HR110_1 := n9_
             have HB := n10_
             have BK111 := n11_
             have GW111 := n12_
             have GE111 := n13_
             clear n0_ n1_ n2_ n3_ n4_ n5_ n6_ n7_ n8_ n9_ n10_ n11_ n12_ n13_
             clear hb hbox hg
             refine hK.out _ _ ⟨HS0_, HS1_, HS2_, HS3_, HS4_, HS5_⟩ (fun hHeld => ?_)
             clear hK K
             refine norm_ (a' := ?_) ?_ ?_
             rotate_left
             ·show Act.put _ (some 11) _ = _
              simp only [Act.put, List.setIfInBounds_toArray, List.set_cons_zero, List.set_cons_succ, i64_w, i32_w]
              rfl
             refine one_ (i := 6) (N := some 29) (bA 15 12287) rfl rfl (one_of HT_.out (by kernel_rfl)) (by decide) (fun K hK => ?_)
             refine goes_ Try.func20 (by kernel_rfl) rfl #[.slice A106_0 ((rd_T34 l0 x10_1).f0).length c106_0, .int .i64 a2] (by rfl) rfl rfl argN ?_
             with_reducible refine (marigraphkeep_Cut.calls (fun k_ => (((P0_ k_ ∨ w.heap.size ≤ k_) ∧ some k_ ≠ (u9 : Value).ownBlock) ∧ k_ ≠ gb111)) _ _ ((rd_T34 l0 x10_1).f0) a2 t107 _ ?side1 A10.out).mono ?_
             (case side1 => exact HL106_0.out)
             rintro e w61 ⟨v108, rfl, ho0, hb⟩
             have HS0_ := (hb.cell (World.block_lt_of_cell? _ _ (hHeld.1))).trans (hHeld.1)
             have HS1_ := (hb.cell (World.block_lt_of_cell? _ _ (hHeld.2.1))).trans (hHeld.2.1)
             have HS2_ := (hb.cell (World.block_lt_of_cell? _ _ (hHeld.2.2.1))).trans (hHeld.2.2.1)
             have HS3_ := (hb.cell (World.block_lt_of_cell? _ _ (hHeld.2.2.2.1))).trans (hHeld.2.2.2.1)
             have HS4_ := (hb.cell (World.block_lt_of_cell? _ _ (hHeld.2.2.2.2.1))).trans (hHeld.2.2.2.2.1)
             have HS5_ := (hb.cell (World.block_lt_of_cell? _ _ (hHeld.2.2.2.2.2))).trans (hHeld.2.2.2.2.2)
             refine ⟨_, rfl, ?_⟩
             have n0_ := Aside0.mk (Kd.V_below (by (with_reducible repeat (first | apply Kd.V_alloc | apply Kd.V_drewN | apply Kd.V_drew)); exact HO_0.out) hb)
             have n1_ := Aside0.mk (Kd.N_below (by (with_reducible repeat (first | apply Kd.N_alloc | apply Kd.N_drewN | apply Kd.N_drew)); exact HO_9.out) hb)
             have n2_ := Aside0.mk (Kd.V_below (by (with_reducible repeat (first | apply Kd.V_alloc | apply Kd.V_drewN | apply Kd.V_drew)); exact HL106_0.out) hb)
             have n3_ := Aside0.mk (Kd.V_below (by (with_reducible repeat (first | apply Kd.V_alloc | apply Kd.V_drewN | apply Kd.V_drew)); exact HL106_1.out) hb)
             have n4_ := Aside0.mk (Kd.V_below (by (with_reducible repeat (first | apply Kd.V_alloc | apply Kd.V_drewN | apply Kd.V_drew)); exact HL110_0.out) hb)
             have n5_ := Aside0.mk (Kd.V_below (by (with_reducible repeat (first | apply Kd.V_alloc | apply Kd.V_drewN | apply Kd.V_drew)); exact HL110_1.out) hb)
             have n6_ := Aside0.mk (Kd.V_lower (Kd.V_mono (ok' := fun k_ => (P0_ k_ ∨ w.heap.size ≤ k_) ∧ some k_ ≠ (u9 : Value).ownBlock ∧ k_ ≠ gb111) ho0 (fun k_ hk_ => ⟨Or.elim hk_ (fun hs_ => hs_.1.1) (fun hn_ => (.inr (Nat.le_trans (below_size (belS HB.out)) hn_))), Or.elim hk_ (fun hs_ => hs_.1.2) (fun hn_ => (Kd.fresh' (Kd.N_lt (by (with_reducible repeat (first | apply Kd.N_alloc | apply Kd.N_drewN | apply Kd.N_drew)); exact HO_9.out)) k_ hn_)), Or.elim hk_ (fun hs_ => hs_.2) (fun hn_ => (Kd.freshB (g := gb111) (o := .cells #[.slice none 0 0, .slice none 0 0, .bool false] 34 (0, 0)) (blkN BK111.out) k_ hn_))⟩)) (below_size (belS HB.out)))
             have n7_ := Aside0.mk (cbN HR106_0.out hb)
             have n8_ := Aside0.mk (cbN HR106_1.out hb)
             have n9_ := Aside0.mk (cbN HR110_0.out hb)
             have n10_ := Aside0.mk (cbN HR110_1.out hb)
             have n11_ := Aside0.mk (bkB BK111.out hb)
             have n12_ := Aside0.mk (below_step (belS HB.out) hb)
             clear HO_0
             clear HO_9
             clear HL106_0
             clear HL106_1
             clear HL110_0
             clear HL110_1
             clear HR106_0
             clear HR106_1
             clear HR110_0
             clear HR110_1
             clear BK111
             clear HB
             have HO_0 := n0_
             have HO_9 := n1_
             have HL106_0 := n2_
             have HL106_1 := n3_
             have HL110_0 := n4_
             have HL110_1 := n5_
             have HO109 := n6_
             have HR106_0 := n7_
             have HR106_1 := n8_
             have HR110_0 := n9_
             have HR110_1 := n10_
             have BK111 := n11_
             have HB := n12_
             clear n0_ n1_ n2_ n3_ n4_ n5_ n6_ n7_ n8_ n9_ n10_ n11_ n12_
             (try clear hb)
             (try clear hk)
             (try clear ho0)
             obtain ⟨Ao62, co62, eo62⟩ := Kd.V_slice HO109.out
             (first | subst eo62 | (injection eo62 with f1_ f2_ f3_; have f4_ := f1_.symm; have f5_ := f3_.symm; clear f1_ f2_ f3_; subst f4_; subst f5_))
             refine hK.out _ _ ⟨HS0_, HS1_, HS2_, HS3_, HS4_, HS5_⟩ (fun hHeld => ?_)
             clear hK K
             refine norm_ (a' := ?_) ?_ ?_
             rotate_left
             ·show Act.put _ (some 29) _ = _
              simp only [Act.put, List.setIfInBounds_toArray, List.set_cons_zero, List.set_cons_succ, i64_w, i32_w]
              rfl
             refine pA 12 (some 35) (bA 15 16383) HT_.out ?_
             exact norm_ (by simp only [putAll, Act.put, List.setIfInBounds_toArray, List.set_cons_zero, List.set_cons_succ]) (hCont (.slice Ao62 t107.length co62, gb111) _ ⟨hHeld, (by (with_reducible repeat (first | apply Kd.V_alloc | apply Kd.V_drewN | apply Kd.V_drew)); exact Kd.V_mono HL106_0.out (fun _ hk => ⟨hk.1.1, ⟨hk.1.2, hk.2⟩⟩)), (by (with_reducible repeat (first | apply Kd.V_alloc | apply Kd.V_drewN | apply Kd.V_drew)); exact Kd.V_mono HL106_1.out (fun _ hk => ⟨hk.1.1, ⟨hk.1.2, hk.2⟩⟩)), (by (with_reducible repeat (first | apply Kd.V_alloc | apply Kd.V_drewN | apply Kd.V_drew)); exact Kd.V_mono HL110_0.out (fun _ hk => ⟨hk.1.1, ⟨hk.1.2, hk.2⟩⟩)), (by (with_reducible repeat (first | apply Kd.V_alloc | apply Kd.V_drewN | apply Kd.V_drew)); exact Kd.V_mono HL110_1.out (fun _ hk => ⟨hk.1.1, ⟨hk.1.2, hk.2⟩⟩)), (by (with_reducible repeat (first | apply Kd.V_alloc | apply Kd.V_drewN | apply Kd.V_drew)); exact HO109.out), (by (with_reducible repeat (first | apply Kd.V_alloc | apply Kd.V_drewN | apply Kd.V_drew)); exact Kd.V_mono HO_0.out (fun _ hk => ⟨hk.1.1, ⟨hk.1.2, hk.2⟩⟩)), (by (with_reducible repeat (first | apply Kd.N_alloc | apply Kd.N_drewN | apply Kd.N_drew)); exact HO_9.out), (blkN BK111.out), GW111.out, GE111.out, (belS HB.out)⟩)
           rintro ⟨v108, gb111⟩ w63 ⟨hS_, h0_, h1_, h2_, h3_, h4_, h5_, h6_, h7_, h8_, h9_, h10_⟩
           have n0_ : Aside0 (Kd.V (Kd.int .u8) 5 w63 w.heap.size (fun k_ => (P0_ k_ ∨ w.heap.size ≤ k_) ∧ some k_ ≠ (u9 : Value).ownBlock ∧ k_ ≠ gb111) (.slice A106_0 ((rd_T34 l0 x10_1).f0).length c106_0) ((rd_T34 l0 x10_1).f0)) := ⟨h0_⟩
           have n1_ : Aside0 (Kd.V (Kd.int .u8) 5 w63 w.heap.size (fun k_ => (P0_ k_ ∨ w.heap.size ≤ k_) ∧ some k_ ≠ (u9 : Value).ownBlock ∧ k_ ≠ gb111) (.slice A106_1 ((rd_T34 l0 x10_1).f1).length c106_1) ((rd_T34 l0 x10_1).f1)) := ⟨h1_⟩
           have n2_ : Aside0 (Kd.V (Kd.int .u8) 5 w63 w.heap.size (fun k_ => (P0_ k_ ∨ w.heap.size ≤ k_) ∧ some k_ ≠ (u9 : Value).ownBlock ∧ k_ ≠ gb111) (.slice A106_0 ((rd_T34 l0 x10_1).f0).length c106_0) ((rd_T34 l0 x10_1).f0)) := ⟨h2_⟩
           have n3_ : Aside0 (Kd.V (Kd.int .u8) 5 w63 w.heap.size (fun k_ => (P0_ k_ ∨ w.heap.size ≤ k_) ∧ some k_ ≠ (u9 : Value).ownBlock ∧ k_ ≠ gb111) (.slice A106_1 ((rd_T34 l0 x10_1).f1).length c106_1) ((rd_T34 l0 x10_1).f1)) := ⟨h3_⟩
           have n4_ : Aside0 (Kd.V (Kd.int .u8) 5 w63 w.heap.size (fun k_ => (P0_ k_ ∨ w.heap.size ≤ k_) ∧ some k_ ≠ (u9 : Value).ownBlock ∧ k_ ≠ gb111) v108 t107) := ⟨h4_⟩
           have n5_ : Aside0 (Kd.V k34 34 w63 w.heap.size (fun k_ => (P0_ k_ ∨ w.heap.size ≤ k_) ∧ some k_ ≠ (u9 : Value).ownBlock ∧ k_ ≠ gb111) (.slice (some ad106) l0.length c0) l0) := ⟨h5_⟩
           have n6_ : Aside0 (Kd.N k34 34 w63 w.heap.size (fun k_ => (P0_ k_ ∨ w.heap.size ≤ k_) ∧ k_ ≠ gb111) u9 x9_1) := ⟨h6_⟩
           have n7_ : Aside0 (w63.heap[gb111]? = some (.cells #[.slice none 0 0, .slice none 0 0, .bool false] 34 (0, 0))) := ⟨h7_⟩
           have n8_ : Aside0 (w.heap.size ≤ gb111) := ⟨h8_⟩
           have n9_ : Aside0 (w.heap.size ≤ gb111) := ⟨h9_⟩
           have n10_ : Aside0 (Below w.heap.size w w63) := ⟨h10_⟩
           clear HO_0
           clear HO_9
           clear HB
           clear h0_ h1_ h2_ h3_ h4_ h5_ h6_ h7_ h8_ h9_ h10_
           have HL106_0 := n0_
           have HL106_1 := n1_
           have HL110_0 := n2_
           have HL110_1 := n3_
           have HO109 := n4_
           have HO_0 := n5_
           have HO_9 := n6_
           have BK111 := n7_
           have GW111 := n8_
           have GE111 := n9_
           have HB := n10_
           clear n0_ n1_ n2_ n3_ n4_ n5_ n6_ n7_ n8_ n9_ n10_
           have hHeld : w63.cell? (ad106.add ((x10_1).toNat * 3)) = some (.slice A106_0 ((rd_T34 l0 x10_1).f0).length c106_0) ∧ w63.cell? ⟨(ad106.add ((x10_1).toNat * 3)).block, (ad106.add ((x10_1).toNat * 3)).off + 1, none⟩ = some (.slice A106_1 ((rd_T34 l0 x10_1).f1).length c106_1) ∧ w63.cell? ⟨(ad106.add ((x10_1).toNat * 3)).block, (ad106.add ((x10_1).toNat * 3)).off + 2, none⟩ = some (.bool true) ∧ w63.cell? (ad106.add ((x10_1).toNat * 3)) = some (.slice A106_0 ((rd_T34 l0 x10_1).f0).length c106_0) ∧ w63.cell? ⟨(ad106.add ((x10_1).toNat * 3)).block, (ad106.add ((x10_1).toNat * 3)).off + 1, none⟩ = some (.slice A106_1 ((rd_T34 l0 x10_1).f1).length c106_1) ∧ w63.cell? ⟨(ad106.add ((x10_1).toNat * 3)).block, (ad106.add ((x10_1).toNat * 3)).off + 2, none⟩ = some (.bool true) := hS_
           obtain ⟨Ao64, co64, eo64⟩ := Kd.V_slice HO109.out
           (first | subst eo64 | (injection eo64 with f1_ f2_ f3_; have f4_ := f1_.symm; have f5_ := f3_.symm; clear f1_ f2_ f3_; subst f4_; subst f5_))
           refine norm_ (a' := ?_) ?_ ?_
           rotate_left
           ·simp only [putAll, Act.put, List.setIfInBounds_toArray, List.set_cons_zero, List.set_cons_succ]
            rfl
           refine one_ (i := 14) (N := none) (bA 15 32767) rfl rfl (one_of HT_.out (by kernel_rfl)) (by decide) (fun K hK => ?_)
           have hs65 : w63.cell? ⟨gb111, 0, none⟩ = some (.slice none 0 0) := (blk_cell BK111.out 0).trans rfl
           have hfs65 := blk_frozen BK111.out 0
           have hs66 : w63.cell? ⟨gb111, 1, none⟩ = some (.slice none 0 0) := (blk_cell BK111.out 1).trans rfl
           have hfs66 := blk_frozen BK111.out 1
           have hs67 : w63.cell? ⟨gb111, 2, none⟩ = some (.bool false) := (blk_cell BK111.out 2).trans rfl
           have hfs67 := blk_frozen BK111.out 2
           refine skip_ (w1 := ?_) (by rfl) rfl ?_ ?_
           rotate_left
           ·go_simp
            rfl
           have hbl_ : (ad106.add ((x10_1).toNat * 3)).block ≠ gb111 := by rw [add_block]; exact V_blk HO_0.out z34 (by decide) (by have a_ := of_eq_true p106; have b_ := of_eq_true q106; omega) (fun _ hk => hk.2.2)
           refine hK.out _ _ ⟨(far3 (by exact hbl_)).trans hHeld.1, (far3 (by exact hbl_)).trans hHeld.2.1, (far3 (by exact hbl_)).trans hHeld.2.2.1, (far3 (by exact hbl_)).trans hHeld.2.2.2.1, (far3 (by exact hbl_)).trans hHeld.2.2.2.2.1, (far3 (by exact hbl_)).trans hHeld.2.2.2.2.2⟩ (fun hHeld => ?_)
           clear hbl_
           clear hK K
           refine done_ (done_of HT_.out (by kernel_rfl)) ?_
           have n0_ : Aside0 (Kd.V k34 34 (((w63.setCell ⟨gb111, 0, none⟩ (.slice Ao64 t107.length co64)).setCell ⟨gb111, 1, none⟩ (.slice none 0 0)).setCell ⟨gb111, 2, none⟩ (.bool true)) w.heap.size (fun k_ => (P0_ k_ ∨ w.heap.size ≤ k_) ∧ some k_ ≠ (u9 : Value).ownBlock ∧ k_ ≠ gb111) (.slice (some ad106) l0.length c0) l0) := ⟨by (with_reducible repeat (first | apply Kd.V_alloc | apply Kd.V_drewN | apply Kd.V_drew)); exact Kd.V_mono (Kd.V_far (p := ⟨gb111, 2, none⟩) (Kd.V_far (p := ⟨gb111, 1, none⟩) (Kd.V_far (p := ⟨gb111, 0, none⟩) (Kd.V_mono HO_0.out (fun k_ hk => (⟨hk, hk.2.2⟩ : _ ∧ k_ ≠ gb111))) (fun _ hk => hk.2) (.slice Ao64 t107.length co64)) (fun _ hk => hk.2) (.slice none 0 0)) (fun _ hk => hk.2) (.bool true)) (fun _ hk => ⟨hk.1.1, ⟨hk.1.2.1, hk.1.2.2⟩⟩)⟩
           have n1_ : Aside0 (Kd.N k34 34 (((w63.setCell ⟨gb111, 0, none⟩ (.slice Ao64 t107.length co64)).setCell ⟨gb111, 1, none⟩ (.slice none 0 0)).setCell ⟨gb111, 2, none⟩ (.bool true)) w.heap.size (fun k_ => (P0_ k_ ∨ w.heap.size ≤ k_) ∧ k_ ≠ gb111) u9 x9_1) := ⟨by (with_reducible repeat (first | apply Kd.N_alloc | apply Kd.N_drewN | apply Kd.N_drew)); exact Kd.N_mono (Kd.N_far (p := ⟨gb111, 2, none⟩) (Kd.N_far (p := ⟨gb111, 1, none⟩) (Kd.N_far (p := ⟨gb111, 0, none⟩) (Kd.N_mono HO_9.out (fun k_ hk => (⟨hk, hk.2⟩ : _ ∧ k_ ≠ gb111))) (fun _ hk => hk.2) (.slice Ao64 t107.length co64)) (fun _ hk => hk.2) (.slice none 0 0)) (fun _ hk => hk.2) (.bool true)) (fun _ hk => ⟨hk.1.1, hk.1.2⟩)⟩
           have n2_ : Aside0 (Kd.V (Kd.int .u8) 5 (((w63.setCell ⟨gb111, 0, none⟩ (.slice Ao64 t107.length co64)).setCell ⟨gb111, 1, none⟩ (.slice none 0 0)).setCell ⟨gb111, 2, none⟩ (.bool true)) w.heap.size (fun k_ => (P0_ k_ ∨ w.heap.size ≤ k_) ∧ some k_ ≠ (u9 : Value).ownBlock ∧ k_ ≠ gb111) (.slice A106_0 ((rd_T34 l0 x10_1).f0).length c106_0) ((rd_T34 l0 x10_1).f0)) := ⟨by (with_reducible repeat (first | apply Kd.V_alloc | apply Kd.V_drewN | apply Kd.V_drew)); exact Kd.V_mono (Kd.V_far (p := ⟨gb111, 2, none⟩) (Kd.V_far (p := ⟨gb111, 1, none⟩) (Kd.V_far (p := ⟨gb111, 0, none⟩) (Kd.V_mono HL106_0.out (fun k_ hk => (⟨hk, hk.2.2⟩ : _ ∧ k_ ≠ gb111))) (fun _ hk => hk.2) (.slice Ao64 t107.length co64)) (fun _ hk => hk.2) (.slice none 0 0)) (fun _ hk => hk.2) (.bool true)) (fun _ hk => ⟨hk.1.1, ⟨hk.1.2.1, hk.1.2.2⟩⟩)⟩
           have n3_ : Aside0 (Kd.V (Kd.int .u8) 5 (((w63.setCell ⟨gb111, 0, none⟩ (.slice Ao64 t107.length co64)).setCell ⟨gb111, 1, none⟩ (.slice none 0 0)).setCell ⟨gb111, 2, none⟩ (.bool true)) w.heap.size (fun k_ => (P0_ k_ ∨ w.heap.size ≤ k_) ∧ some k_ ≠ (u9 : Value).ownBlock ∧ k_ ≠ gb111) (.slice A106_1 ((rd_T34 l0 x10_1).f1).length c106_1) ((rd_T34 l0 x10_1).f1)) := ⟨by (with_reducible repeat (first | apply Kd.V_alloc | apply Kd.V_drewN | apply Kd.V_drew)); exact Kd.V_mono (Kd.V_far (p := ⟨gb111, 2, none⟩) (Kd.V_far (p := ⟨gb111, 1, none⟩) (Kd.V_far (p := ⟨gb111, 0, none⟩) (Kd.V_mono HL106_1.out (fun k_ hk => (⟨hk, hk.2.2⟩ : _ ∧ k_ ≠ gb111))) (fun _ hk => hk.2) (.slice Ao64 t107.length co64)) (fun _ hk => hk.2) (.slice none 0 0)) (fun _ hk => hk.2) (.bool true)) (fun _ hk => ⟨hk.1.1, ⟨hk.1.2.1, hk.1.2.2⟩⟩)⟩
           have n4_ : Aside0 (Kd.V (Kd.int .u8) 5 (((w63.setCell ⟨gb111, 0, none⟩ (.slice Ao64 t107.length co64)).setCell ⟨gb111, 1, none⟩ (.slice none 0 0)).setCell ⟨gb111, 2, none⟩ (.bool true)) w.heap.size (fun k_ => (P0_ k_ ∨ w.heap.size ≤ k_) ∧ some k_ ≠ (u9 : Value).ownBlock ∧ k_ ≠ gb111) (.slice A106_0 ((rd_T34 l0 x10_1).f0).length c106_0) ((rd_T34 l0 x10_1).f0)) := ⟨by (with_reducible repeat (first | apply Kd.V_alloc | apply Kd.V_drewN | apply Kd.V_drew)); exact Kd.V_mono (Kd.V_far (p := ⟨gb111, 2, none⟩) (Kd.V_far (p := ⟨gb111, 1, none⟩) (Kd.V_far (p := ⟨gb111, 0, none⟩) (Kd.V_mono HL110_0.out (fun k_ hk => (⟨hk, hk.2.2⟩ : _ ∧ k_ ≠ gb111))) (fun _ hk => hk.2) (.slice Ao64 t107.length co64)) (fun _ hk => hk.2) (.slice none 0 0)) (fun _ hk => hk.2) (.bool true)) (fun _ hk => ⟨hk.1.1, ⟨hk.1.2.1, hk.1.2.2⟩⟩)⟩
           have n5_ : Aside0 (Kd.V (Kd.int .u8) 5 (((w63.setCell ⟨gb111, 0, none⟩ (.slice Ao64 t107.length co64)).setCell ⟨gb111, 1, none⟩ (.slice none 0 0)).setCell ⟨gb111, 2, none⟩ (.bool true)) w.heap.size (fun k_ => (P0_ k_ ∨ w.heap.size ≤ k_) ∧ some k_ ≠ (u9 : Value).ownBlock ∧ k_ ≠ gb111) (.slice A106_1 ((rd_T34 l0 x10_1).f1).length c106_1) ((rd_T34 l0 x10_1).f1)) := ⟨by (with_reducible repeat (first | apply Kd.V_alloc | apply Kd.V_drewN | apply Kd.V_drew)); exact Kd.V_mono (Kd.V_far (p := ⟨gb111, 2, none⟩) (Kd.V_far (p := ⟨gb111, 1, none⟩) (Kd.V_far (p := ⟨gb111, 0, none⟩) (Kd.V_mono HL110_1.out (fun k_ hk => (⟨hk, hk.2.2⟩ : _ ∧ k_ ≠ gb111))) (fun _ hk => hk.2) (.slice Ao64 t107.length co64)) (fun _ hk => hk.2) (.slice none 0 0)) (fun _ hk => hk.2) (.bool true)) (fun _ hk => ⟨hk.1.1, ⟨hk.1.2.1, hk.1.2.2⟩⟩)⟩
           have n6_ : Aside0 (Kd.V (Kd.int .u8) 5 (((w63.setCell ⟨gb111, 0, none⟩ (.slice Ao64 t107.length co64)).setCell ⟨gb111, 1, none⟩ (.slice none 0 0)).setCell ⟨gb111, 2, none⟩ (.bool true)) w.heap.size (fun k_ => (P0_ k_ ∨ w.heap.size ≤ k_) ∧ some k_ ≠ (u9 : Value).ownBlock ∧ k_ ≠ gb111) (.slice Ao64 t107.length co64) t107) := ⟨by (with_reducible repeat (first | apply Kd.V_alloc | apply Kd.V_drewN | apply Kd.V_drew)); exact Kd.V_mono (Kd.V_far (p := ⟨gb111, 2, none⟩) (Kd.V_far (p := ⟨gb111, 1, none⟩) (Kd.V_far (p := ⟨gb111, 0, none⟩) (Kd.V_mono HO109.out (fun k_ hk => (⟨hk, hk.2.2⟩ : _ ∧ k_ ≠ gb111))) (fun _ hk => hk.2) (.slice Ao64 t107.length co64)) (fun _ hk => hk.2) (.slice none 0 0)) (fun _ hk => hk.2) (.bool true)) (fun _ hk => ⟨hk.1.1, ⟨hk.1.2.1, hk.1.2.2⟩⟩)⟩
           have n7_ : Aside0 ((((w63.setCell ⟨gb111, 0, none⟩ (.slice Ao64 t107.length co64)).setCell ⟨gb111, 1, none⟩ (.slice none 0 0)).setCell ⟨gb111, 2, none⟩ (.bool true)).heap[gb111]? = some (.cells #[.slice Ao64 t107.length co64, .slice none 0 0, .bool true] 34 (0, 0))) := ⟨by (with_reducible repeat (first | refine blk_drewN ?_ _ | refine blk_drew ?_ | refine blk_alloc ?_ _)); refine blk_put (cs := #[.slice Ao64 t107.length co64, .slice none 0 0, .bool false]) ?_ 2 _ rfl; (with_reducible repeat (first | refine blk_drewN ?_ _ | refine blk_drew ?_ | refine blk_alloc ?_ _)); refine blk_put (cs := #[.slice Ao64 t107.length co64, .slice none 0 0, .bool false]) ?_ 1 _ rfl; (with_reducible repeat (first | refine blk_drewN ?_ _ | refine blk_drew ?_ | refine blk_alloc ?_ _)); refine blk_put (cs := #[.slice none 0 0, .slice none 0 0, .bool false]) ?_ 0 _ rfl; (with_reducible repeat (first | refine blk_drewN ?_ _ | refine blk_drew ?_ | refine blk_alloc ?_ _)); exact BK111.out⟩
           have n8_ : Aside0 (Below w.heap.size w (((w63.setCell ⟨gb111, 0, none⟩ (.slice Ao64 t107.length co64)).setCell ⟨gb111, 1, none⟩ (.slice none 0 0)).setCell ⟨gb111, 2, none⟩ (.bool true))) := ⟨(belS HB.out)⟩
           (try clear HO_0)
           (try clear HO_9)
           (try clear HL106_0)
           (try clear HL106_1)
           (try clear HL110_0)
           (try clear HL110_1)
           (try clear HO109)
           (try clear BK111)
           (try clear HB)
           generalize (((w63.setCell ⟨gb111, 0, none⟩ (.slice Ao64 t107.length co64)).setCell ⟨gb111, 1, none⟩ (.slice none 0 0)).setCell ⟨gb111, 2, none⟩ (.bool true)) = w68 at n0_ n1_ n2_ n3_ n4_ n5_ n6_ n7_ n8_ ⊢
           have HO_0 := n0_
           have HO_9 := n1_
           have HL106_0 := n2_
           have HL106_1 := n3_
           have HL110_0 := n4_
           have HL110_1 := n5_
           have HO109 := n6_
           have BK111 := n7_
           have HB := n8_
           clear n0_ n1_ n2_ n3_ n4_ n5_ n6_ n7_ n8_
           have hcz69_0 : w68.cell? ⟨gb111, 0, none⟩ = some (.slice Ao64 t107.length co64) := (blk_cell BK111.out 0).trans rfl
           have hcz69_1 : w68.cell? ⟨gb111, 1, none⟩ = some (.slice none 0 0) := (blk_cell BK111.out 1).trans rfl
           have hcz69_2 : w68.cell? ⟨gb111, 2, none⟩ = some (.bool true) := (blk_cell BK111.out 2).trans rfl
           have hfz69_0 := blk_frozen BK111.out 0
           have hfz69_1 := blk_frozen BK111.out 1
           have hfz69_2 := blk_frozen BK111.out 2
           try go_wp2_with (first | ((with_reducible refine gate_builtin (b := .append) (xs := #[.tmp 53, .tmp 55]) rfl ?_); at_builtin; refine Kd.N_append k34 (w0 := w) w.heap.size rfl (.tmp 53) (.tmp 55) 22 34 (.agg #[(.slice none 0 0), (.slice none 0 0), (.bool false)]) 56 rfl Try.underlying22 info34 rfl (by decide) (by omega) u9 x9_1 (⟨t107, ([] : List Int), true⟩ : S34) [.slice Ao64 t107.length co64, .slice none 0 0, .bool true] (fun k_ => (P0_ k_ ∨ w.heap.size ≤ k_) ∧ k_ ≠ gb111) (fun k_ => ((fun k_ => (P0_ k_ ∨ w.heap.size ≤ k_) ∧ k_ ≠ gb111)) k_ ∧ some k_ ≠ (u9 : Value).ownBlock) rfl rfl ?aP (fun _ hk => hk) ?aF ?aO ?aB ?aS ?aL ?_; (case aP => exact (k34_mkF _ _ (⟨t107, ([] : List Int), true⟩ : S34) (Kd.V_reads' (Kd.V_mono (ok' := (fun k_ => ((fun k_ => (P0_ k_ ∨ w.heap.size ≤ k_) ∧ k_ ≠ gb111)) k_ ∧ some k_ ≠ (u9 : Value).ownBlock)) (HO109.out) (fun k_ hk => ⟨⟨hk.1, hk.2.2⟩, hk.2.1⟩))).2.1 (Kd.V_F (Kd.V_mono (ok' := (fun k_ => ((fun k_ => (P0_ k_ ∨ w.heap.size ≤ k_) ∧ k_ ≠ gb111)) k_ ∧ some k_ ≠ (u9 : Value).ownBlock)) (HO109.out) (fun k_ hk => ⟨⟨hk.1, hk.2.2⟩, hk.2.1⟩))) (Nat.le_refl _) (Kd.F_nil _ _ _))); (case aB => exact (belS HB.out)); (case aF => exact (fun k_ hk => ⟨(.inr (Nat.le_trans (below_size (belS HB.out)) hk)), Kd.freshB (g := gb111) (o := .cells #[.slice Ao64 t107.length co64, .slice none 0 0, .bool true] 34 (0, 0)) (blkN BK111.out) k_ hk⟩)); (case aO => exact (by (with_reducible repeat (first | apply Kd.N_alloc | apply Kd.N_drewN | apply Kd.N_drew)); exact HO_9.out)); (case aS => exact (below_size (belS HB.out))); (case aL => have := LMc58.out; omega); intro v126 w70 ho hb hg hat; rw [← Ny125.out] at ho; have n0_ := Aside0.mk (Kd.V_afterv (ok := (fun k_ => (P0_ k_ ∨ w.heap.size ≤ k_) ∧ k_ ≠ gb111)) (by (with_reducible repeat (first | apply Kd.V_alloc | apply Kd.V_drewN | apply Kd.V_drew)); exact Kd.V_mono HO_0.out (fun _ hk => ⟨⟨hk.1, hk.2.2⟩, hk.2.1⟩)) hg hat); have n1_ := Aside0.mk (Kd.V_afterv (ok := (fun k_ => (P0_ k_ ∨ w.heap.size ≤ k_) ∧ k_ ≠ gb111)) (by (with_reducible repeat (first | apply Kd.V_alloc | apply Kd.V_drewN | apply Kd.V_drew)); exact Kd.V_mono HL106_0.out (fun _ hk => ⟨⟨hk.1, hk.2.2⟩, hk.2.1⟩)) hg hat); have n2_ := Aside0.mk (Kd.V_afterv (ok := (fun k_ => (P0_ k_ ∨ w.heap.size ≤ k_) ∧ k_ ≠ gb111)) (by (with_reducible repeat (first | apply Kd.V_alloc | apply Kd.V_drewN | apply Kd.V_drew)); exact Kd.V_mono HL106_1.out (fun _ hk => ⟨⟨hk.1, hk.2.2⟩, hk.2.1⟩)) hg hat); have n3_ := Aside0.mk (Kd.V_afterv (ok := (fun k_ => (P0_ k_ ∨ w.heap.size ≤ k_) ∧ k_ ≠ gb111)) (by (with_reducible repeat (first | apply Kd.V_alloc | apply Kd.V_drewN | apply Kd.V_drew)); exact Kd.V_mono HL110_0.out (fun _ hk => ⟨⟨hk.1, hk.2.2⟩, hk.2.1⟩)) hg hat); have n4_ := Aside0.mk (Kd.V_afterv (ok := (fun k_ => (P0_ k_ ∨ w.heap.size ≤ k_) ∧ k_ ≠ gb111)) (by (with_reducible repeat (first | apply Kd.V_alloc | apply Kd.V_drewN | apply Kd.V_drew)); exact Kd.V_mono HL110_1.out (fun _ hk => ⟨⟨hk.1, hk.2.2⟩, hk.2.1⟩)) hg hat); have n5_ := Aside0.mk (Kd.V_afterv (ok := (fun k_ => (P0_ k_ ∨ w.heap.size ≤ k_) ∧ k_ ≠ gb111)) (by (with_reducible repeat (first | apply Kd.V_alloc | apply Kd.V_drewN | apply Kd.V_drew)); exact Kd.V_mono HO109.out (fun _ hk => ⟨⟨hk.1, hk.2.2⟩, hk.2.1⟩)) hg hat); have n6_ := Aside0.mk (blk_grown (g := gb111) (o := .cells #[.slice Ao64 t107.length co64, .slice none 0 0, .bool true] 34 (0, 0)) (blkN BK111.out) hg (Kd.N_away HO_9.out (fun _ hk => hk.2))); have n7_ := Aside0.mk (hb); have n8_ := Aside0.mk (ho); clear HO_0; clear HL106_0; clear HL106_1; clear HL110_0; clear HL110_1; clear HO109; clear BK111; clear HB; clear HO_9; have HO_0 := n0_; have HL106_0 := n1_; have HL106_1 := n2_; have HL110_0 := n3_; have HL110_1 := n4_; have HO109 := n5_; have BK111 := n6_; have HB := n7_; have HO127 := n8_; clear n0_ n1_ n2_ n3_ n4_ n5_ n6_ n7_ n8_; clear ho hb hg hat))
           go_roundg kj4
           case measure => have := HK1.out; have := HJ4.out; omega
           case rel => exact ⟨(y125), (wrap64 (x10_1 + 1)), (by first | rfl | (simp; done) | (simp [*]; done)), H', ⟨by have := HK1.out; have := HJ4.out; omega⟩, ⟨by (with_reducible repeat (first | apply Kd.V_alloc | apply Kd.V_drewN | apply Kd.V_drew)); exact Kd.V_mono HO_0.out (fun _ hk => ⟨hk.1.1, hk.2⟩)⟩, ⟨by (with_reducible repeat (first | apply Kd.N_alloc | apply Kd.N_drewN | apply Kd.N_drew)); exact Kd.N_mono HO127.out (fun _ hk => hk.1)⟩, ⟨(belS HB.out)⟩⟩
          ·rw [if_neg c58] at H
           exact absurd H (by simp)
         ·replace c57 := Bool.eq_false_iff.mpr c57
          subst c57
          have H1 : ((marigraphkeep_Cut.f ((rd_T34 l0 x10_1).f1) a3).bind fun t129 => (if x9_1.length < 2513169434916 then (marigraphkeep_Entries.l0 kj4 l0 a1 a2 a3 (x9_1 ++ [(⟨t107, t129, false⟩ : S34)]) (wrap64 (x10_1 + 1))) else (none))) = some r := by rw [if_neg (show ¬ (false = true) by decide)] at H; exact H
          clear H
          have H := H1
          clear H1
          replace H := Option.bind_eq_some_iff.mp H
          obtain ⟨t129, A710, H⟩ := H
          replace H : (if x9_1.length < 2513169434916 then (marigraphkeep_Entries.l0 kj4 l0 a1 a2 a3 (x9_1 ++ [(⟨t107, t129, false⟩ : S34)]) (wrap64 (x10_1 + 1))) else (none)) = some r := H
          have A71 := Aside0.mk A710
          clear A710
          by_cases c72 : x9_1.length < 2513169434916
          ·rw [if_pos c72] at H
           have LMc72 := Aside0.mk c72
           clear c72
           obtain ⟨y132, hy132⟩ : ∃ y_ : List (S34), y_ = (x9_1 ++ [(⟨t107, t129, false⟩ : S34)]) := ⟨_, rfl⟩
           replace H : (marigraphkeep_Entries.l0 kj4 l0 a1 a2 a3 y132 (wrap64 (x10_1 + 1))) = some r := by first | (rw [hy132]; with_reducible exact H) | (have H2_ := (Option.bind_some _ _).symm.trans H; rw [hy132]; with_reducible exact H2_) | (have H2_ := (Option.bind_some _ _).symm.trans H; with_reducible exact H2_) | with_reducible exact H | (rw [hy132]; exact H) | exact H
           have Ny132 := Aside0.mk hy132
           clear hy132
           have H' := Aside0.mk H
           clear H
           try go_wp2
           have n0_ := Aside0.mk (Kd.V_drew HO_0.out)
           have n1_ := Aside0.mk (Kd.N_drew HO_9.out)
           have n2_ := Aside0.mk (below_drew1 HB.out)
           clear HO_0
           clear HO_9
           clear HB
           have HO_0 := n0_
           have HO_9 := n1_
           have HB := n2_
           clear n0_ n1_ n2_
           have p106 : 0 ≤ (x10_1 : Int) := of_decide_eq_true (by first | (with_reducible assumption) | assumption)
           have q106 : x10_1 < (l0.length : Int) := of_decide_eq_true (by first | (with_reducible assumption) | assumption)
           obtain ⟨ad106, A106_0, c106_0, A106_1, c106_1, e106, hx106_0, hx106_1, hx106_2, hl106_0, hi106_0, hl106_1, hi106_1⟩ := at_T34 (Kd.V_reads' HO_0.out).2.2 x10_1 p106 q106
           (try rw [← Nbq56.out] at hx106_2)
           cases e106
           obtain ⟨ce106, hce106, hMe106, hcc106⟩ := Kd.V_get HO_0.out z34 x10_1 p106 (by first | exact q106 | exact of_decide_eq_true (by first | (with_reducible assumption) | assumption) | (have e_ := (Kd.V_reads' HO_0.out).1; omega))
           obtain ⟨ua106_0, uc106_0, ua106_1, uc106_1, rfl, ul106_0, ge106_0, ul106_1, ge106_1⟩ := k34_openF hMe106
           have hv106_0 := hcc106 0 _ rfl
           rw [Nat.add_zero] at hv106_0
           replace hv106_0 := Option.some.inj (hv106_0.symm.trans hx106_0)
           injection hv106_0 with hva_ hvn_ hvc_
           rw [hva_] at ge106_0
           rw [hvc_] at ul106_0
           have HL106_0 := Aside0.mk (show Kd.V (Kd.int .u8) 5 _ w.heap.size _ _ ((rd_T34 l0 x10_1).f0) from Kd.V_mk ul106_0 ge106_0)
           clear hva_ hvn_ hvc_ ge106_0 ul106_0
           have hv106_1 := hcc106 1 _ rfl
           rw [add_field _ _ 1 (by omega)] at hv106_1
           replace hv106_1 := Option.some.inj (hv106_1.symm.trans hx106_1)
           injection hv106_1 with hva_ hvn_ hvc_
           rw [hva_] at ge106_1
           rw [hvc_] at ul106_1
           have HL106_1 := Aside0.mk (show Kd.V (Kd.int .u8) 5 _ w.heap.size _ _ ((rd_T34 l0 x10_1).f1) from Kd.V_mk ul106_1 ge106_1)
           clear hva_ hvn_ hvc_ ge106_1 ul106_1
           clear hcc106 hce106
           have HR106_0 := Aside0.mk hi106_0
           have HC106_0 := Aside0.mk hl106_0
           clear hi106_0 hl106_0
           have HR106_1 := Aside0.mk hi106_1
           have HC106_1 := Aside0.mk hl106_1
           clear hi106_1 hl106_1
           replace p106 := eq_true p106
           replace q106 := eq_true q106
           have p110 : 0 ≤ (x10_1 : Int) := of_decide_eq_true (by first | (with_reducible assumption) | assumption)
           have q110 : x10_1 < (l0.length : Int) := of_decide_eq_true (by first | (with_reducible assumption) | assumption)
           obtain ⟨ad110, A110_0, c110_0, A110_1, c110_1, e110, hx110_0, hx110_1, hx110_2, hl110_0, hi110_0, hl110_1, hi110_1⟩ := at_T34 (Kd.V_reads' HO_0.out).2.2 x10_1 p110 q110
           (try rw [← Nbq56.out] at hx110_2)
           obtain rfl : ad106 = ad110 := (by injection e110)
           obtain ⟨ce110, hce110, hMe110, hcc110⟩ := Kd.V_get HO_0.out z34 x10_1 p110 (by first | exact q110 | exact of_decide_eq_true (by first | (with_reducible assumption) | assumption) | (have e_ := (Kd.V_reads' HO_0.out).1; omega))
           obtain ⟨ua110_0, uc110_0, ua110_1, uc110_1, rfl, ul110_0, ge110_0, ul110_1, ge110_1⟩ := k34_openF hMe110
           have hv110_0 := hcc110 0 _ rfl
           rw [Nat.add_zero] at hv110_0
           replace hv110_0 := Option.some.inj (hv110_0.symm.trans hx110_0)
           injection hv110_0 with hva_ hvn_ hvc_
           rw [hva_] at ge110_0
           rw [hvc_] at ul110_0
           have HL110_0 := Aside0.mk (show Kd.V (Kd.int .u8) 5 _ w.heap.size _ _ ((rd_T34 l0 x10_1).f0) from Kd.V_mk ul110_0 ge110_0)
           clear hva_ hvn_ hvc_ ge110_0 ul110_0
           have hv110_1 := hcc110 1 _ rfl
           rw [add_field _ _ 1 (by omega)] at hv110_1
           replace hv110_1 := Option.some.inj (hv110_1.symm.trans hx110_1)
           injection hv110_1 with hva_ hvn_ hvc_
           rw [hva_] at ge110_1
           rw [hvc_] at ul110_1
           have HL110_1 := Aside0.mk (show Kd.V (Kd.int .u8) 5 _ w.heap.size _ _ ((rd_T34 l0 x10_1).f1) from Kd.V_mk ul110_1 ge110_1)
           clear hva_ hvn_ hvc_ ge110_1 ul110_1
           clear hcc110 hce110
           have HR110_0 := Aside0.mk hi110_0
           have HC110_0 := Aside0.mk hl110_0
           clear hi110_0 hl110_0
           have HR110_1 := Aside0.mk hi110_1
           have HC110_1 := Aside0.mk hl110_1
           clear hi110_1 hl110_1
           replace p110 := eq_true p110
           replace q110 := eq_true q110
           have ea_ := Option.some.inj (hx106_0.symm.trans hx110_0)
           injection ea_ with ea_ en_ ec_
           subst ea_
           subst ec_
           clear en_
           have ea_ := Option.some.inj (hx106_1.symm.trans hx110_1)
           injection ea_ with ea_ en_ ec_
           subst ea_
           subst ec_
           clear en_
           refine start_ (n := 15) (S := fun w' => w'.cell? (ad106.add ((x10_1).toNat * 3)) = some (.slice A106_0 ((rd_T34 l0 x10_1).f0).length c106_0) ∧ w'.cell? ⟨(ad106.add ((x10_1).toNat * 3)).block, (ad106.add ((x10_1).toNat * 3)).off + 1, none⟩ = some (.slice A106_1 ((rd_T34 l0 x10_1).f1).length c106_1) ∧ w'.cell? ⟨(ad106.add ((x10_1).toNat * 3)).block, (ad106.add ((x10_1).toNat * 3)).off + 2, none⟩ = some (.bool false) ∧ w'.cell? (ad106.add ((x10_1).toNat * 3)) = some (.slice A106_0 ((rd_T34 l0 x10_1).f0).length c106_0) ∧ w'.cell? ⟨(ad106.add ((x10_1).toNat * 3)).block, (ad106.add ((x10_1).toNat * 3)).off + 1, none⟩ = some (.slice A106_1 ((rd_T34 l0 x10_1).f1).length c106_1) ∧ w'.cell? ⟨(ad106.add ((x10_1).toNat * 3)).block, (ad106.add ((x10_1).toNat * 3)).off + 2, none⟩ = some (.bool false)) (ds := []) #[false, false, false, false, false, false, false, false, false, false, false, false, false, false, false] (by kernel_rfl) rfl rfl ⟨hx106_0, hx106_1, hx106_2, hx110_0, hx110_1, hx110_2⟩ (fun hHeld => ?_); refine with_tabW marigraphkeep_Entries.tab5 marigraphkeep_Entries.bits5 (fun HT_ HW_ => ?_)
           generalize wc.drew = w73 at HO_0 HO_9 HB HL106_0 HL106_1 HL110_0 HL110_1 HR106_0 HR106_1 HR110_0 HR110_1 hx106_0 hx106_1 hx106_2 hx110_0 hx110_1 hx110_2 hHeld ⊢
           refine pA 0 (some 23) (bA 15 1) HT_.out ?_
           refine pA 1 (some 24) (bA 15 3) HT_.out ?_
           refine pA 2 (some 25) (bA 15 7) HT_.out ?_
           refine pA 3 (some 26) (bA 15 15) HT_.out ?_
           refine pA 5 (some 28) (bA 15 47) HT_.out ?_
           refine pA 7 (some 30) (bA 15 175) HT_.out ?_
           refine pA 8 (some 31) (bA 15 431) HT_.out ?_
           refine pA 9 (some 32) (bA 15 943) HT_.out ?_
           refine pA 10 (some 33) (bA 15 1967) HT_.out ?_
           refine take_ (i := 4) (N := some 27) (v := ?_) (a' := ?_) (bA 15 1983) rfl rfl (take_ofW HT_.out HW_.out (by kernel_rfl)) (fun _ _ _ h => h) (Or.inl ⟨by rfl, ?_⟩) hHeld ?_ ?_
           rotate_left
           ·rintro w' ⟨s0, s1, s2, s3, s4, s5⟩
            go_simp
            with_reducible rfl
           rotate_left
           ·simp only [Act.put, List.setIfInBounds_toArray, List.set_cons_zero, List.set_cons_succ, i64_w, i32_w]
            rfl
           refine take_ (i := 11) (N := some 34) (v := ?_) (a' := ?_) (bA 15 4031) rfl rfl (take_ofW HT_.out HW_.out (by kernel_rfl)) (fun _ _ _ h => h) (Or.inl ⟨by rfl, ?_⟩) hHeld ?_ ?_
           rotate_left
           ·rintro w' ⟨s0, s1, s2, s3, s4, s5⟩
            go_simp
            with_reducible rfl
           rotate_left
           ·simp only [Act.put, List.setIfInBounds_toArray, List.set_cons_zero, List.set_cons_succ, i64_w, i32_w]
            rfl
           refine join_ (σ := Value × Nat) 1 (bA 15 16383) (fun s_ => [(29, s_.1), (11, .pointer (some ⟨s_.2, 0, none⟩)), (35, .agg #[s_.1, .slice none 0 0, .bool false])]) (fun s_ w' => (w'.cell? (ad106.add ((x10_1).toNat * 3)) = some (.slice A106_0 ((rd_T34 l0 x10_1).f0).length c106_0) ∧ w'.cell? ⟨(ad106.add ((x10_1).toNat * 3)).block, (ad106.add ((x10_1).toNat * 3)).off + 1, none⟩ = some (.slice A106_1 ((rd_T34 l0 x10_1).f1).length c106_1) ∧ w'.cell? ⟨(ad106.add ((x10_1).toNat * 3)).block, (ad106.add ((x10_1).toNat * 3)).off + 2, none⟩ = some (.bool false) ∧ w'.cell? (ad106.add ((x10_1).toNat * 3)) = some (.slice A106_0 ((rd_T34 l0 x10_1).f0).length c106_0) ∧ w'.cell? ⟨(ad106.add ((x10_1).toNat * 3)).block, (ad106.add ((x10_1).toNat * 3)).off + 1, none⟩ = some (.slice A106_1 ((rd_T34 l0 x10_1).f1).length c106_1) ∧ w'.cell? ⟨(ad106.add ((x10_1).toNat * 3)).block, (ad106.add ((x10_1).toNat * 3)).off + 2, none⟩ = some (.bool false)) ∧ (Kd.V (Kd.int .u8) 5 w' w.heap.size (fun k_ => (P0_ k_ ∨ w.heap.size ≤ k_) ∧ some k_ ≠ (u9 : Value).ownBlock ∧ k_ ≠ s_.2) (.slice A106_0 ((rd_T34 l0 x10_1).f0).length c106_0) ((rd_T34 l0 x10_1).f0)) ∧ (Kd.V (Kd.int .u8) 5 w' w.heap.size (fun k_ => (P0_ k_ ∨ w.heap.size ≤ k_) ∧ some k_ ≠ (u9 : Value).ownBlock ∧ k_ ≠ s_.2) (.slice A106_1 ((rd_T34 l0 x10_1).f1).length c106_1) ((rd_T34 l0 x10_1).f1)) ∧ (Kd.V (Kd.int .u8) 5 w' w.heap.size (fun k_ => (P0_ k_ ∨ w.heap.size ≤ k_) ∧ some k_ ≠ (u9 : Value).ownBlock ∧ k_ ≠ s_.2) (.slice A106_0 ((rd_T34 l0 x10_1).f0).length c106_0) ((rd_T34 l0 x10_1).f0)) ∧ (Kd.V (Kd.int .u8) 5 w' w.heap.size (fun k_ => (P0_ k_ ∨ w.heap.size ≤ k_) ∧ some k_ ≠ (u9 : Value).ownBlock ∧ k_ ≠ s_.2) (.slice A106_1 ((rd_T34 l0 x10_1).f1).length c106_1) ((rd_T34 l0 x10_1).f1)) ∧ (Kd.V (Kd.int .u8) 5 w' w.heap.size (fun k_ => (P0_ k_ ∨ w.heap.size ≤ k_) ∧ some k_ ≠ (u9 : Value).ownBlock ∧ k_ ≠ s_.2) s_.1 t107) ∧ (Kd.V k34 34 w' w.heap.size (fun k_ => (P0_ k_ ∨ w.heap.size ≤ k_) ∧ some k_ ≠ (u9 : Value).ownBlock ∧ k_ ≠ s_.2) (.slice (some ad106) l0.length c0) l0) ∧ (Kd.N k34 34 w' w.heap.size (fun k_ => (P0_ k_ ∨ w.heap.size ≤ k_) ∧ k_ ≠ s_.2) u9 x9_1) ∧ (w'.heap[s_.2]? = some (.cells #[.slice none 0 0, .slice none 0 0, .bool false] 34 (0, 0))) ∧ (w.heap.size ≤ s_.2) ∧ (w.heap.size ≤ s_.2) ∧ (Below w.heap.size w w')) ?_ ?_
           rotate_left
           ·intro hCont
            refine two_ (i := 6) (j := 13) (Ni := some 29) (Nj := some 11) (bA 15 4095) (bA 15 12223) rfl rfl rfl rfl (two_of HT_.out (by kernel_rfl)) (by decide) (by decide) (fun K hK => ?_) (fun K hK => ?_)
            ·skip
             refine goes_ Try.func20 (by kernel_rfl) rfl #[.slice A106_0 ((rd_T34 l0 x10_1).f0).length c106_0, .int .i64 a2] (by rfl) rfl rfl argN ?_
             with_reducible refine (marigraphkeep_Cut.calls (fun k_ => ((P0_ k_ ∨ w.heap.size ≤ k_) ∧ some k_ ≠ (u9 : Value).ownBlock)) _ _ ((rd_T34 l0 x10_1).f0) a2 t107 _ ?side1 A10.out).mono ?_
             (case side1 => exact HL106_0.out)
             rintro e w74 ⟨v108, rfl, ho0, hb⟩
             have HS0_ := (hb.cell (World.block_lt_of_cell? _ _ (hHeld.1))).trans (hHeld.1)
             have HS1_ := (hb.cell (World.block_lt_of_cell? _ _ (hHeld.2.1))).trans (hHeld.2.1)
             have HS2_ := (hb.cell (World.block_lt_of_cell? _ _ (hHeld.2.2.1))).trans (hHeld.2.2.1)
             have HS3_ := (hb.cell (World.block_lt_of_cell? _ _ (hHeld.2.2.2.1))).trans (hHeld.2.2.2.1)
             have HS4_ := (hb.cell (World.block_lt_of_cell? _ _ (hHeld.2.2.2.2.1))).trans (hHeld.2.2.2.2.1)
             have HS5_ := (hb.cell (World.block_lt_of_cell? _ _ (hHeld.2.2.2.2.2))).trans (hHeld.2.2.2.2.2)
             refine ⟨_, rfl, ?_⟩
             have n0_ := Aside0.mk (Kd.V_below (by (with_reducible repeat (first | apply Kd.V_alloc | apply Kd.V_drewN | apply Kd.V_drew)); exact HO_0.out) hb)
             have n1_ := Aside0.mk (Kd.N_below (by (with_reducible repeat (first | apply Kd.N_alloc | apply Kd.N_drewN | apply Kd.N_drew)); exact HO_9.out) hb)
             have n2_ := Aside0.mk (Kd.V_below (by (with_reducible repeat (first | apply Kd.V_alloc | apply Kd.V_drewN | apply Kd.V_drew)); exact HL106_0.out) hb)
             have n3_ := Aside0.mk (Kd.V_below (by (with_reducible repeat (first | apply Kd.V_alloc | apply Kd.V_drewN | apply Kd.V_drew)); exact HL106_1.out) hb)
             have n4_ := Aside0.mk (Kd.V_below (by (with_reducible repeat (first | apply Kd.V_alloc | apply Kd.V_drewN | apply Kd.V_drew)); exact HL110_0.out) hb)
             have n5_ := Aside0.mk (Kd.V_below (by (with_reducible repeat (first | apply Kd.V_alloc | apply Kd.V_drewN | apply Kd.V_drew)); exact HL110_1.out) hb)
             have n6_ := Aside0.mk (Kd.V_lower (Kd.V_mono (ok' := fun k_ => (P0_ k_ ∨ w.heap.size ≤ k_) ∧ some k_ ≠ (u9 : Value).ownBlock) ho0 (fun k_ hk_ => ⟨Or.elim hk_ (fun hs_ => hs_.1) (fun hn_ => (.inr (Nat.le_trans (below_size (belN HB.out)) hn_))), Or.elim hk_ (fun hs_ => hs_.2) (fun hn_ => (Kd.fresh' (Kd.N_lt (by (with_reducible repeat (first | apply Kd.N_alloc | apply Kd.N_drewN | apply Kd.N_drew)); exact HO_9.out)) k_ hn_))⟩)) (below_size (belN HB.out)))
             have n7_ := Aside0.mk (cbN HR106_0.out hb)
             have n8_ := Aside0.mk (cbN HR106_1.out hb)
             have n9_ := Aside0.mk (cbN HR110_0.out hb)
             have n10_ := Aside0.mk (cbN HR110_1.out hb)
             have n11_ := Aside0.mk (below_step (belN HB.out) hb)
             clear HO_0
             clear HO_9
             clear HL106_0
             clear HL106_1
             clear HL110_0
             clear HL110_1
             clear HR106_0
             clear HR106_1
             clear HR110_0
             clear HR110_1
             clear HB
             have HO_0 := n0_
             have HO_9 := n1_
             have HL106_0 := n2_
             have HL106_1 := n3_
             have HL110_0 := n4_
             have HL110_1 := n5_
             have HO109 := n6_
             have HR106_0 := n7_
             have HR106_1 := n8_
             have HR110_0 := n9_
             have HR110_1 := n10_
             have HB := n11_
             clear n0_ n1_ n2_ n3_ n4_ n5_ n6_ n7_ n8_ n9_ n10_ n11_
             (try clear hb)
             (try clear hk)
             (try clear ho0)
             obtain ⟨Ao75, co75, eo75⟩ := Kd.V_slice HO109.out
             (first | subst eo75 | (injection eo75 with f1_ f2_ f3_; have f4_ := f1_.symm; have f5_ := f3_.symm; clear f1_ f2_ f3_; subst f4_; subst f5_))
             refine hK.out _ _ ⟨HS0_, HS1_, HS2_, HS3_, HS4_, HS5_⟩ (fun hHeld => ?_)
             clear hK K
             refine norm_ (a' := ?_) ?_ ?_
             rotate_left
             ·show Act.put _ (some 29) _ = _
              simp only [Act.put, List.setIfInBounds_toArray, List.set_cons_zero, List.set_cons_succ, i64_w, i32_w]
              rfl
             refine pA 12 (some 35) (bA 15 8191) HT_.out ?_
             refine one_ (i := 13) (N := some 11) (bA 15 16383) rfl rfl (one_of HT_.out (by kernel_rfl)) (by decide) (fun K hK => ?_)
             refine box_step ?hg (N := 11) ?hd (cs := #[.slice none 0 0, .slice none 0 0, .bool false]) (t := 34) ?hr ?_; (case hd => rfl); (case hg => rfl); (case hr => first | (go_simp; done) | (go_simp; rfl))
             intro gb111 hg w76 hbox hb
             have HS0_ := (hb.cell (World.block_lt_of_cell? _ _ (hHeld.1))).trans (hHeld.1)
             have HS1_ := (hb.cell (World.block_lt_of_cell? _ _ (hHeld.2.1))).trans (hHeld.2.1)
             have HS2_ := (hb.cell (World.block_lt_of_cell? _ _ (hHeld.2.2.1))).trans (hHeld.2.2.1)
             have HS3_ := (hb.cell (World.block_lt_of_cell? _ _ (hHeld.2.2.2.1))).trans (hHeld.2.2.2.1)
             have HS4_ := (hb.cell (World.block_lt_of_cell? _ _ (hHeld.2.2.2.2.1))).trans (hHeld.2.2.2.2.1)
             have HS5_ := (hb.cell (World.block_lt_of_cell? _ _ (hHeld.2.2.2.2.2))).trans (hHeld.2.2.2.2.2)
             have n0_ := Aside0.mk (Kd.V_below (Kd.V_elderB (by (with_reducible repeat (first | apply Kd.V_alloc | apply Kd.V_drewN | apply Kd.V_drew)); exact HO_0.out) gb111 (Nat.le_of_eq hg.symm)) hb)
             have n1_ := Aside0.mk (Kd.N_below (Kd.N_elderB (by (with_reducible repeat (first | apply Kd.N_alloc | apply Kd.N_drewN | apply Kd.N_drew)); exact HO_9.out) gb111 (Nat.le_of_eq hg.symm)) hb)
             have n2_ := Aside0.mk (Kd.V_below (Kd.V_elderB (by (with_reducible repeat (first | apply Kd.V_alloc | apply Kd.V_drewN | apply Kd.V_drew)); exact HL106_0.out) gb111 (Nat.le_of_eq hg.symm)) hb)
             have n3_ := Aside0.mk (Kd.V_below (Kd.V_elderB (by (with_reducible repeat (first | apply Kd.V_alloc | apply Kd.V_drewN | apply Kd.V_drew)); exact HL106_1.out) gb111 (Nat.le_of_eq hg.symm)) hb)
             have n4_ := Aside0.mk (Kd.V_below (Kd.V_elderB (by (with_reducible repeat (first | apply Kd.V_alloc | apply Kd.V_drewN | apply Kd.V_drew)); exact HL110_0.out) gb111 (Nat.le_of_eq hg.symm)) hb)
             have n5_ := Aside0.mk (Kd.V_below (Kd.V_elderB (by (with_reducible repeat (first | apply Kd.V_alloc | apply Kd.V_drewN | apply Kd.V_drew)); exact HL110_1.out) gb111 (Nat.le_of_eq hg.symm)) hb)
             have n6_ := Aside0.mk (Kd.V_below (Kd.V_elderB (by (with_reducible repeat (first | apply Kd.V_alloc | apply Kd.V_drewN | apply Kd.V_drew)); exact HO109.out) gb111 (Nat.le_of_eq hg.symm)) hb)
             have n7_ := Aside0.mk (cbN HR106_0.out hb)
             have n8_ := Aside0.mk (cbN HR106_1.out hb)
             have n9_ := Aside0.mk (cbN HR110_0.out hb)
             have n10_ := Aside0.mk (cbN HR110_1.out hb)
             have n11_ := Aside0.mk (below_step (belN HB.out) hb)
             have n12_ := Aside0.mk (hbox)
             have n13_ := Aside0.mk (szB hg HB.out)
             have n14_ := Aside0.mk (szB hg HB.out)
             clear HO_0
             clear HO_9
             clear HL106_0
             clear HL106_1
             clear HL110_0
             clear HL110_1
             clear HO109
             clear HR106_0
             clear HR106_1
             clear HR110_0
             clear HR110_1
             clear HB
             have HO_0 := n0_
             have HO_9 := n1_
             have HL106_0 := n2_
             have HL106_1 := n3_
             have HL110_0 := n4_
             have HL110_1 := n5_
             have HO109 := n6_
             have HR106_0 := n7_
             have HR106_1 := n8_
             have HR110_0 := n9_
             have HR110_1 := n10_
             have HB := n11_
             have BK111 := n12_
             have GW111 := n13_
             have GE111 := n14_
             clear n0_ n1_ n2_ n3_ n4_ n5_ n6_ n7_ n8_ n9_ n10_ n11_ n12_ n13_ n14_
             clear hb hbox hg
             refine hK.out _ _ ⟨HS0_, HS1_, HS2_, HS3_, HS4_, HS5_⟩ (fun hHeld => ?_)
             clear hK K
             refine norm_ (a' := ?_) ?_ ?_
             rotate_left
             ·show Act.put _ (some 11) _ = _
              simp only [Act.put, List.setIfInBounds_toArray, List.set_cons_zero, List.set_cons_succ, i64_w, i32_w]
              rfl
             exact norm_ (by simp only [putAll, Act.put, List.setIfInBounds_toArray, List.set_cons_zero, List.set_cons_succ]) (hCont (.slice Ao75 t107.length co75, gb111) _ ⟨hHeld, (by (with_reducible repeat (first | apply Kd.V_alloc | apply Kd.V_drewN | apply Kd.V_drew)); exact Kd.V_mono HL106_0.out (fun _ hk => ⟨hk.1.1, ⟨hk.1.2, hk.2⟩⟩)), (by (with_reducible repeat (first | apply Kd.V_alloc | apply Kd.V_drewN | apply Kd.V_drew)); exact Kd.V_mono HL106_1.out (fun _ hk => ⟨hk.1.1, ⟨hk.1.2, hk.2⟩⟩)), (by (with_reducible repeat (first | apply Kd.V_alloc | apply Kd.V_drewN | apply Kd.V_drew)); exact Kd.V_mono HL110_0.out (fun _ hk => ⟨hk.1.1, ⟨hk.1.2, hk.2⟩⟩)), (by (with_reducible repeat (first | apply Kd.V_alloc | apply Kd.V_drewN | apply Kd.V_drew)); exact Kd.V_mono HL110_1.out (fun _ hk => ⟨hk.1.1, ⟨hk.1.2, hk.2⟩⟩)), (by (with_reducible repeat (first | apply Kd.V_alloc | apply Kd.V_drewN | apply Kd.V_drew)); exact Kd.V_mono HO109.out (fun _ hk => ⟨hk.1.1, ⟨hk.1.2, hk.2⟩⟩)), (by (with_reducible repeat (first | apply Kd.V_alloc | apply Kd.V_drewN | apply Kd.V_drew)); exact Kd.V_mono HO_0.out (fun _ hk => ⟨hk.1.1, ⟨hk.1.2, hk.2⟩⟩)), (by (with_reducible repeat (first | apply Kd.N_alloc | apply Kd.N_drewN | apply Kd.N_drew)); exact HO_9.out), (blkN BK111.out), GW111.out, GE111.out, (belS HB.out)⟩)
            ·skip
             refine box_step ?hg (N := 11) ?hd (cs := #[.slice none 0 0, .slice none 0 0, .bool false]) (t := 34) ?hr ?_; (case hd => rfl); (case hg => rfl); (case hr => first | (go_simp; done) | (go_simp; rfl))
             intro gb111 hg w74 hbox hb
             have HS0_ := (hb.cell (World.block_lt_of_cell? _ _ (hHeld.1))).trans (hHeld.1)
             have HS1_ := (hb.cell (World.block_lt_of_cell? _ _ (hHeld.2.1))).trans (hHeld.2.1)
             have HS2_ := (hb.cell (World.block_lt_of_cell? _ _ (hHeld.2.2.1))).trans (hHeld.2.2.1)
             have HS3_ := (hb.cell (World.block_lt_of_cell? _ _ (hHeld.2.2.2.1))).trans (hHeld.2.2.2.1)
             have HS4_ := (hb.cell (World.block_lt_of_cell? _ _ (hHeld.2.2.2.2.1))).trans (hHeld.2.2.2.2.1)
             have HS5_ := (hb.cell (World.block_lt_of_cell? _ _ (hHeld.2.2.2.2.2))).trans (hHeld.2.2.2.2.2)
             have n0_ := Aside0.mk (Kd.V_below (Kd.V_elderB (by (with_reducible repeat (first | apply Kd.V_alloc | apply Kd.V_drewN | apply Kd.V_drew)); exact HO_0.out) gb111 (Nat.le_of_eq hg.symm)) hb)
             have n1_ := Aside0.mk (Kd.N_below (Kd.N_elderB (by (with_reducible repeat (first | apply Kd.N_alloc | apply Kd.N_drewN | apply Kd.N_drew)); exact HO_9.out) gb111 (Nat.le_of_eq hg.symm)) hb)
             have n2_ := Aside0.mk (Kd.V_below (Kd.V_elderB (by (with_reducible repeat (first | apply Kd.V_alloc | apply Kd.V_drewN | apply Kd.V_drew)); exact HL106_0.out) gb111 (Nat.le_of_eq hg.symm)) hb)
             have n3_ := Aside0.mk (Kd.V_below (Kd.V_elderB (by (with_reducible repeat (first | apply Kd.V_alloc | apply Kd.V_drewN | apply Kd.V_drew)); exact HL106_1.out) gb111 (Nat.le_of_eq hg.symm)) hb)
             have n4_ := Aside0.mk (Kd.V_below (Kd.V_elderB (by (with_reducible repeat (first | apply Kd.V_alloc | apply Kd.V_drewN | apply Kd.V_drew)); exact HL110_0.out) gb111 (Nat.le_of_eq hg.symm)) hb)
             have n5_ := Aside0.mk (Kd.V_below (Kd.V_elderB (by (with_reducible repeat (first | apply Kd.V_alloc | apply Kd.V_drewN | apply Kd.V_drew)); exact HL110_1.out) gb111 (Nat.le_of_eq hg.symm)) hb)
             have n6_ := Aside0.mk (cbN HR106_0.out hb)
             have n7_ := Aside0.mk (cbN HR106_1.out hb)
             have n8_ := Aside0.mk (cbN HR110_0.out hb)
             have n9_ := Aside0.mk (cbN HR110_1.out hb)
             have n10_ := Aside0.mk (below_step (belN HB.out) hb)
             have n11_ := Aside0.mk (hbox)
             have n12_ := Aside0.mk (szB hg HB.out)
             have n13_ := Aside0.mk (szB hg HB.out)
             clear HO_0
             clear HO_9
             clear HL106_0
             clear HL106_1
             clear HL110_0
             clear HL110_1
             clear HR106_0
             clear HR106_1
             clear HR110_0
             clear HR110_1
             clear HB
             have HO_0 := n0_
             have HO_9 := n1_
             have HL106_0 := n2_
             have HL106_1 := n3_
             have HL110_0 := n4_
             have HL110_1 := n5_
             have HR106_0 := n6_
             have HR106_1 := n7_
             have HR110_0 := n8_
             have HR110_1 := n9_
             have HB := n10_
             have BK111 := n11_
             have GW111 := n12_
             have GE111 := n13_
             clear n0_ n1_ n2_ n3_ n4_ n5_ n6_ n7_ n8_ n9_ n10_ n11_ n12_ n13_
             clear hb hbox hg
             refine hK.out _ _ ⟨HS0_, HS1_, HS2_, HS3_, HS4_, HS5_⟩ (fun hHeld => ?_)
             clear hK K
             refine norm_ (a' := ?_) ?_ ?_
             rotate_left
             ·show Act.put _ (some 11) _ = _
              simp only [Act.put, List.setIfInBounds_toArray, List.set_cons_zero, List.set_cons_succ, i64_w, i32_w]
              rfl
             refine one_ (i := 6) (N := some 29) (bA 15 12287) rfl rfl (one_of HT_.out (by kernel_rfl)) (by decide) (fun K hK => ?_)
             refine goes_ Try.func20 (by kernel_rfl) rfl #[.slice A106_0 ((rd_T34 l0 x10_1).f0).length c106_0, .int .i64 a2] (by rfl) rfl rfl argN ?_
             with_reducible refine (marigraphkeep_Cut.calls (fun k_ => (((P0_ k_ ∨ w.heap.size ≤ k_) ∧ some k_ ≠ (u9 : Value).ownBlock) ∧ k_ ≠ gb111)) _ _ ((rd_T34 l0 x10_1).f0) a2 t107 _ ?side1 A10.out).mono ?_
             (case side1 => exact HL106_0.out)
             rintro e w75 ⟨v108, rfl, ho0, hb⟩
             have HS0_ := (hb.cell (World.block_lt_of_cell? _ _ (hHeld.1))).trans (hHeld.1)
             have HS1_ := (hb.cell (World.block_lt_of_cell? _ _ (hHeld.2.1))).trans (hHeld.2.1)
             have HS2_ := (hb.cell (World.block_lt_of_cell? _ _ (hHeld.2.2.1))).trans (hHeld.2.2.1)
             have HS3_ := (hb.cell (World.block_lt_of_cell? _ _ (hHeld.2.2.2.1))).trans (hHeld.2.2.2.1)
             have HS4_ := (hb.cell (World.block_lt_of_cell? _ _ (hHeld.2.2.2.2.1))).trans (hHeld.2.2.2.2.1)
             have HS5_ := (hb.cell (World.block_lt_of_cell? _ _ (hHeld.2.2.2.2.2))).trans (hHeld.2.2.2.2.2)
             refine ⟨_, rfl, ?_⟩
             have n0_ := Aside0.mk (Kd.V_below (by (with_reducible repeat (first | apply Kd.V_alloc | apply Kd.V_drewN | apply Kd.V_drew)); exact HO_0.out) hb)
             have n1_ := Aside0.mk (Kd.N_below (by (with_reducible repeat (first | apply Kd.N_alloc | apply Kd.N_drewN | apply Kd.N_drew)); exact HO_9.out) hb)
             have n2_ := Aside0.mk (Kd.V_below (by (with_reducible repeat (first | apply Kd.V_alloc | apply Kd.V_drewN | apply Kd.V_drew)); exact HL106_0.out) hb)
             have n3_ := Aside0.mk (Kd.V_below (by (with_reducible repeat (first | apply Kd.V_alloc | apply Kd.V_drewN | apply Kd.V_drew)); exact HL106_1.out) hb)
             have n4_ := Aside0.mk (Kd.V_below (by (with_reducible repeat (first | apply Kd.V_alloc | apply Kd.V_drewN | apply Kd.V_drew)); exact HL110_0.out) hb)
             have n5_ := Aside0.mk (Kd.V_below (by (with_reducible repeat (first | apply Kd.V_alloc | apply Kd.V_drewN | apply Kd.V_drew)); exact HL110_1.out) hb)
             have n6_ := Aside0.mk (Kd.V_lower (Kd.V_mono (ok' := fun k_ => (P0_ k_ ∨ w.heap.size ≤ k_) ∧ some k_ ≠ (u9 : Value).ownBlock ∧ k_ ≠ gb111) ho0 (fun k_ hk_ => ⟨Or.elim hk_ (fun hs_ => hs_.1.1) (fun hn_ => (.inr (Nat.le_trans (below_size (belS HB.out)) hn_))), Or.elim hk_ (fun hs_ => hs_.1.2) (fun hn_ => (Kd.fresh' (Kd.N_lt (by (with_reducible repeat (first | apply Kd.N_alloc | apply Kd.N_drewN | apply Kd.N_drew)); exact HO_9.out)) k_ hn_)), Or.elim hk_ (fun hs_ => hs_.2) (fun hn_ => (Kd.freshB (g := gb111) (o := .cells #[.slice none 0 0, .slice none 0 0, .bool false] 34 (0, 0)) (blkN BK111.out) k_ hn_))⟩)) (below_size (belS HB.out)))
             have n7_ := Aside0.mk (cbN HR106_0.out hb)
             have n8_ := Aside0.mk (cbN HR106_1.out hb)
             have n9_ := Aside0.mk (cbN HR110_0.out hb)
             have n10_ := Aside0.mk (cbN HR110_1.out hb)
             have n11_ := Aside0.mk (bkB BK111.out hb)
             have n12_ := Aside0.mk (below_step (belS HB.out) hb)
             clear HO_0
             clear HO_9
             clear HL106_0
             clear HL106_1
             clear HL110_0
             clear HL110_1
             clear HR106_0
             clear HR106_1
             clear HR110_0
             clear HR110_1
             clear BK111
             clear HB
             have HO_0 := n0_
             have HO_9 := n1_
             have HL106_0 := n2_
             have HL106_1 := n3_
             have HL110_0 := n4_
             have HL110_1 := n5_
             have HO109 := n6_
             have HR106_0 := n7_
             have HR106_1 := n8_
             have HR110_0 := n9_
             have HR110_1 := n10_
             have BK111 := n11_
             have HB := n12_
             clear n0_ n1_ n2_ n3_ n4_ n5_ n6_ n7_ n8_ n9_ n10_ n11_ n12_
             (try clear hb)
             (try clear hk)
             (try clear ho0)
             obtain ⟨Ao76, co76, eo76⟩ := Kd.V_slice HO109.out
             (first | subst eo76 | (injection eo76 with f1_ f2_ f3_; have f4_ := f1_.symm; have f5_ := f3_.symm; clear f1_ f2_ f3_; subst f4_; subst f5_))
             refine hK.out _ _ ⟨HS0_, HS1_, HS2_, HS3_, HS4_, HS5_⟩ (fun hHeld => ?_)
             clear hK K
             refine norm_ (a' := ?_) ?_ ?_
             rotate_left
             ·show Act.put _ (some 29) _ = _
              simp only [Act.put, List.setIfInBounds_toArray, List.set_cons_zero, List.set_cons_succ, i64_w, i32_w]
              rfl
             refine pA 12 (some 35) (bA 15 16383) HT_.out ?_
             exact norm_ (by simp only [putAll, Act.put, List.setIfInBounds_toArray, List.set_cons_zero, List.set_cons_succ]) (hCont (.slice Ao76 t107.length co76, gb111) _ ⟨hHeld, (by (with_reducible repeat (first | apply Kd.V_alloc | apply Kd.V_drewN | apply Kd.V_drew)); exact Kd.V_mono HL106_0.out (fun _ hk => ⟨hk.1.1, ⟨hk.1.2, hk.2⟩⟩)), (by (with_reducible repeat (first | apply Kd.V_alloc | apply Kd.V_drewN | apply Kd.V_drew)); exact Kd.V_mono HL106_1.out (fun _ hk => ⟨hk.1.1, ⟨hk.1.2, hk.2⟩⟩)), (by (with_reducible repeat (first | apply Kd.V_alloc | apply Kd.V_drewN | apply Kd.V_drew)); exact Kd.V_mono HL110_0.out (fun _ hk => ⟨hk.1.1, ⟨hk.1.2, hk.2⟩⟩)), (by (with_reducible repeat (first | apply Kd.V_alloc | apply Kd.V_drewN | apply Kd.V_drew)); exact Kd.V_mono HL110_1.out (fun _ hk => ⟨hk.1.1, ⟨hk.1.2, hk.2⟩⟩)), (by (with_reducible repeat (first | apply Kd.V_alloc | apply Kd.V_drewN | apply Kd.V_drew)); exact HO109.out), (by (with_reducible repeat (first | apply Kd.V_alloc | apply Kd.V_drewN | apply Kd.V_drew)); exact Kd.V_mono HO_0.out (fun _ hk => ⟨hk.1.1, ⟨hk.1.2, hk.2⟩⟩)), (by (with_reducible repeat (first | apply Kd.N_alloc | apply Kd.N_drewN | apply Kd.N_drew)); exact HO_9.out), (blkN BK111.out), GW111.out, GE111.out, (belS HB.out)⟩)
           rintro ⟨v108, gb111⟩ w77 ⟨hS_, h0_, h1_, h2_, h3_, h4_, h5_, h6_, h7_, h8_, h9_, h10_⟩
           have n0_ : Aside0 (Kd.V (Kd.int .u8) 5 w77 w.heap.size (fun k_ => (P0_ k_ ∨ w.heap.size ≤ k_) ∧ some k_ ≠ (u9 : Value).ownBlock ∧ k_ ≠ gb111) (.slice A106_0 ((rd_T34 l0 x10_1).f0).length c106_0) ((rd_T34 l0 x10_1).f0)) := ⟨h0_⟩
           have n1_ : Aside0 (Kd.V (Kd.int .u8) 5 w77 w.heap.size (fun k_ => (P0_ k_ ∨ w.heap.size ≤ k_) ∧ some k_ ≠ (u9 : Value).ownBlock ∧ k_ ≠ gb111) (.slice A106_1 ((rd_T34 l0 x10_1).f1).length c106_1) ((rd_T34 l0 x10_1).f1)) := ⟨h1_⟩
           have n2_ : Aside0 (Kd.V (Kd.int .u8) 5 w77 w.heap.size (fun k_ => (P0_ k_ ∨ w.heap.size ≤ k_) ∧ some k_ ≠ (u9 : Value).ownBlock ∧ k_ ≠ gb111) (.slice A106_0 ((rd_T34 l0 x10_1).f0).length c106_0) ((rd_T34 l0 x10_1).f0)) := ⟨h2_⟩
           have n3_ : Aside0 (Kd.V (Kd.int .u8) 5 w77 w.heap.size (fun k_ => (P0_ k_ ∨ w.heap.size ≤ k_) ∧ some k_ ≠ (u9 : Value).ownBlock ∧ k_ ≠ gb111) (.slice A106_1 ((rd_T34 l0 x10_1).f1).length c106_1) ((rd_T34 l0 x10_1).f1)) := ⟨h3_⟩
           have n4_ : Aside0 (Kd.V (Kd.int .u8) 5 w77 w.heap.size (fun k_ => (P0_ k_ ∨ w.heap.size ≤ k_) ∧ some k_ ≠ (u9 : Value).ownBlock ∧ k_ ≠ gb111) v108 t107) := ⟨h4_⟩
           have n5_ : Aside0 (Kd.V k34 34 w77 w.heap.size (fun k_ => (P0_ k_ ∨ w.heap.size ≤ k_) ∧ some k_ ≠ (u9 : Value).ownBlock ∧ k_ ≠ gb111) (.slice (some ad106) l0.length c0) l0) := ⟨h5_⟩
           have n6_ : Aside0 (Kd.N k34 34 w77 w.heap.size (fun k_ => (P0_ k_ ∨ w.heap.size ≤ k_) ∧ k_ ≠ gb111) u9 x9_1) := ⟨h6_⟩
           have n7_ : Aside0 (w77.heap[gb111]? = some (.cells #[.slice none 0 0, .slice none 0 0, .bool false] 34 (0, 0))) := ⟨h7_⟩
           have n8_ : Aside0 (w.heap.size ≤ gb111) := ⟨h8_⟩
           have n9_ : Aside0 (w.heap.size ≤ gb111) := ⟨h9_⟩
           have n10_ : Aside0 (Below w.heap.size w w77) := ⟨h10_⟩
           clear HO_0
           clear HO_9
           clear HB
           clear h0_ h1_ h2_ h3_ h4_ h5_ h6_ h7_ h8_ h9_ h10_
           have HL106_0 := n0_
           have HL106_1 := n1_
           have HL110_0 := n2_
           have HL110_1 := n3_
           have HO109 := n4_
           have HO_0 := n5_
           have HO_9 := n6_
           have BK111 := n7_
           have GW111 := n8_
           have GE111 := n9_
           have HB := n10_
           clear n0_ n1_ n2_ n3_ n4_ n5_ n6_ n7_ n8_ n9_ n10_
           have hHeld : w77.cell? (ad106.add ((x10_1).toNat * 3)) = some (.slice A106_0 ((rd_T34 l0 x10_1).f0).length c106_0) ∧ w77.cell? ⟨(ad106.add ((x10_1).toNat * 3)).block, (ad106.add ((x10_1).toNat * 3)).off + 1, none⟩ = some (.slice A106_1 ((rd_T34 l0 x10_1).f1).length c106_1) ∧ w77.cell? ⟨(ad106.add ((x10_1).toNat * 3)).block, (ad106.add ((x10_1).toNat * 3)).off + 2, none⟩ = some (.bool false) ∧ w77.cell? (ad106.add ((x10_1).toNat * 3)) = some (.slice A106_0 ((rd_T34 l0 x10_1).f0).length c106_0) ∧ w77.cell? ⟨(ad106.add ((x10_1).toNat * 3)).block, (ad106.add ((x10_1).toNat * 3)).off + 1, none⟩ = some (.slice A106_1 ((rd_T34 l0 x10_1).f1).length c106_1) ∧ w77.cell? ⟨(ad106.add ((x10_1).toNat * 3)).block, (ad106.add ((x10_1).toNat * 3)).off + 2, none⟩ = some (.bool false) := hS_
           obtain ⟨Ao78, co78, eo78⟩ := Kd.V_slice HO109.out
           (first | subst eo78 | (injection eo78 with f1_ f2_ f3_; have f4_ := f1_.symm; have f5_ := f3_.symm; clear f1_ f2_ f3_; subst f4_; subst f5_))
           refine norm_ (a' := ?_) ?_ ?_
           rotate_left
           ·simp only [putAll, Act.put, List.setIfInBounds_toArray, List.set_cons_zero, List.set_cons_succ]
            rfl
           refine one_ (i := 14) (N := none) (bA 15 32767) rfl rfl (one_of HT_.out (by kernel_rfl)) (by decide) (fun K hK => ?_)
           have hs79 : w77.cell? ⟨gb111, 0, none⟩ = some (.slice none 0 0) := (blk_cell BK111.out 0).trans rfl
           have hfs79 := blk_frozen BK111.out 0
           have hs80 : w77.cell? ⟨gb111, 1, none⟩ = some (.slice none 0 0) := (blk_cell BK111.out 1).trans rfl
           have hfs80 := blk_frozen BK111.out 1
           have hs81 : w77.cell? ⟨gb111, 2, none⟩ = some (.bool false) := (blk_cell BK111.out 2).trans rfl
           have hfs81 := blk_frozen BK111.out 2
           refine skip_ (w1 := ?_) (by rfl) rfl ?_ ?_
           rotate_left
           ·go_simp
            rfl
           have hbl_ : (ad106.add ((x10_1).toNat * 3)).block ≠ gb111 := by rw [add_block]; exact V_blk HO_0.out z34 (by decide) (by have a_ := of_eq_true p106; have b_ := of_eq_true q106; omega) (fun _ hk => hk.2.2)
           refine hK.out _ _ ⟨(far3 (by exact hbl_)).trans hHeld.1, (far3 (by exact hbl_)).trans hHeld.2.1, (far3 (by exact hbl_)).trans hHeld.2.2.1, (far3 (by exact hbl_)).trans hHeld.2.2.2.1, (far3 (by exact hbl_)).trans hHeld.2.2.2.2.1, (far3 (by exact hbl_)).trans hHeld.2.2.2.2.2⟩ (fun hHeld => ?_)
           clear hbl_
           clear hK K
           refine done_ (done_of HT_.out (by kernel_rfl)) ?_
           have n0_ : Aside0 (Kd.V k34 34 (((w77.setCell ⟨gb111, 0, none⟩ (.slice Ao78 t107.length co78)).setCell ⟨gb111, 1, none⟩ (.slice none 0 0)).setCell ⟨gb111, 2, none⟩ (.bool false)) w.heap.size (fun k_ => (P0_ k_ ∨ w.heap.size ≤ k_) ∧ some k_ ≠ (u9 : Value).ownBlock ∧ k_ ≠ gb111) (.slice (some ad106) l0.length c0) l0) := ⟨by (with_reducible repeat (first | apply Kd.V_alloc | apply Kd.V_drewN | apply Kd.V_drew)); exact Kd.V_mono (Kd.V_far (p := ⟨gb111, 2, none⟩) (Kd.V_far (p := ⟨gb111, 1, none⟩) (Kd.V_far (p := ⟨gb111, 0, none⟩) (Kd.V_mono HO_0.out (fun k_ hk => (⟨hk, hk.2.2⟩ : _ ∧ k_ ≠ gb111))) (fun _ hk => hk.2) (.slice Ao78 t107.length co78)) (fun _ hk => hk.2) (.slice none 0 0)) (fun _ hk => hk.2) (.bool false)) (fun _ hk => ⟨hk.1.1, ⟨hk.1.2.1, hk.1.2.2⟩⟩)⟩
           have n1_ : Aside0 (Kd.N k34 34 (((w77.setCell ⟨gb111, 0, none⟩ (.slice Ao78 t107.length co78)).setCell ⟨gb111, 1, none⟩ (.slice none 0 0)).setCell ⟨gb111, 2, none⟩ (.bool false)) w.heap.size (fun k_ => (P0_ k_ ∨ w.heap.size ≤ k_) ∧ k_ ≠ gb111) u9 x9_1) := ⟨by (with_reducible repeat (first | apply Kd.N_alloc | apply Kd.N_drewN | apply Kd.N_drew)); exact Kd.N_mono (Kd.N_far (p := ⟨gb111, 2, none⟩) (Kd.N_far (p := ⟨gb111, 1, none⟩) (Kd.N_far (p := ⟨gb111, 0, none⟩) (Kd.N_mono HO_9.out (fun k_ hk => (⟨hk, hk.2⟩ : _ ∧ k_ ≠ gb111))) (fun _ hk => hk.2) (.slice Ao78 t107.length co78)) (fun _ hk => hk.2) (.slice none 0 0)) (fun _ hk => hk.2) (.bool false)) (fun _ hk => ⟨hk.1.1, hk.1.2⟩)⟩
           have n2_ : Aside0 (Kd.V (Kd.int .u8) 5 (((w77.setCell ⟨gb111, 0, none⟩ (.slice Ao78 t107.length co78)).setCell ⟨gb111, 1, none⟩ (.slice none 0 0)).setCell ⟨gb111, 2, none⟩ (.bool false)) w.heap.size (fun k_ => (P0_ k_ ∨ w.heap.size ≤ k_) ∧ some k_ ≠ (u9 : Value).ownBlock ∧ k_ ≠ gb111) (.slice A106_0 ((rd_T34 l0 x10_1).f0).length c106_0) ((rd_T34 l0 x10_1).f0)) := ⟨by (with_reducible repeat (first | apply Kd.V_alloc | apply Kd.V_drewN | apply Kd.V_drew)); exact Kd.V_mono (Kd.V_far (p := ⟨gb111, 2, none⟩) (Kd.V_far (p := ⟨gb111, 1, none⟩) (Kd.V_far (p := ⟨gb111, 0, none⟩) (Kd.V_mono HL106_0.out (fun k_ hk => (⟨hk, hk.2.2⟩ : _ ∧ k_ ≠ gb111))) (fun _ hk => hk.2) (.slice Ao78 t107.length co78)) (fun _ hk => hk.2) (.slice none 0 0)) (fun _ hk => hk.2) (.bool false)) (fun _ hk => ⟨hk.1.1, ⟨hk.1.2.1, hk.1.2.2⟩⟩)⟩
           have n3_ : Aside0 (Kd.V (Kd.int .u8) 5 (((w77.setCell ⟨gb111, 0, none⟩ (.slice Ao78 t107.length co78)).setCell ⟨gb111, 1, none⟩ (.slice none 0 0)).setCell ⟨gb111, 2, none⟩ (.bool false)) w.heap.size (fun k_ => (P0_ k_ ∨ w.heap.size ≤ k_) ∧ some k_ ≠ (u9 : Value).ownBlock ∧ k_ ≠ gb111) (.slice A106_1 ((rd_T34 l0 x10_1).f1).length c106_1) ((rd_T34 l0 x10_1).f1)) := ⟨by (with_reducible repeat (first | apply Kd.V_alloc | apply Kd.V_drewN | apply Kd.V_drew)); exact Kd.V_mono (Kd.V_far (p := ⟨gb111, 2, none⟩) (Kd.V_far (p := ⟨gb111, 1, none⟩) (Kd.V_far (p := ⟨gb111, 0, none⟩) (Kd.V_mono HL106_1.out (fun k_ hk => (⟨hk, hk.2.2⟩ : _ ∧ k_ ≠ gb111))) (fun _ hk => hk.2) (.slice Ao78 t107.length co78)) (fun _ hk => hk.2) (.slice none 0 0)) (fun _ hk => hk.2) (.bool false)) (fun _ hk => ⟨hk.1.1, ⟨hk.1.2.1, hk.1.2.2⟩⟩)⟩
           have n4_ : Aside0 (Kd.V (Kd.int .u8) 5 (((w77.setCell ⟨gb111, 0, none⟩ (.slice Ao78 t107.length co78)).setCell ⟨gb111, 1, none⟩ (.slice none 0 0)).setCell ⟨gb111, 2, none⟩ (.bool false)) w.heap.size (fun k_ => (P0_ k_ ∨ w.heap.size ≤ k_) ∧ some k_ ≠ (u9 : Value).ownBlock ∧ k_ ≠ gb111) (.slice A106_0 ((rd_T34 l0 x10_1).f0).length c106_0) ((rd_T34 l0 x10_1).f0)) := ⟨by (with_reducible repeat (first | apply Kd.V_alloc | apply Kd.V_drewN | apply Kd.V_drew)); exact Kd.V_mono (Kd.V_far (p := ⟨gb111, 2, none⟩) (Kd.V_far (p := ⟨gb111, 1, none⟩) (Kd.V_far (p := ⟨gb111, 0, none⟩) (Kd.V_mono HL110_0.out (fun k_ hk => (⟨hk, hk.2.2⟩ : _ ∧ k_ ≠ gb111))) (fun _ hk => hk.2) (.slice Ao78 t107.length co78)) (fun _ hk => hk.2) (.slice none 0 0)) (fun _ hk => hk.2) (.bool false)) (fun _ hk => ⟨hk.1.1, ⟨hk.1.2.1, hk.1.2.2⟩⟩)⟩
           have n5_ : Aside0 (Kd.V (Kd.int .u8) 5 (((w77.setCell ⟨gb111, 0, none⟩ (.slice Ao78 t107.length co78)).setCell ⟨gb111, 1, none⟩ (.slice none 0 0)).setCell ⟨gb111, 2, none⟩ (.bool false)) w.heap.size (fun k_ => (P0_ k_ ∨ w.heap.size ≤ k_) ∧ some k_ ≠ (u9 : Value).ownBlock ∧ k_ ≠ gb111) (.slice A106_1 ((rd_T34 l0 x10_1).f1).length c106_1) ((rd_T34 l0 x10_1).f1)) := ⟨by (with_reducible repeat (first | apply Kd.V_alloc | apply Kd.V_drewN | apply Kd.V_drew)); exact Kd.V_mono (Kd.V_far (p := ⟨gb111, 2, none⟩) (Kd.V_far (p := ⟨gb111, 1, none⟩) (Kd.V_far (p := ⟨gb111, 0, none⟩) (Kd.V_mono HL110_1.out (fun k_ hk => (⟨hk, hk.2.2⟩ : _ ∧ k_ ≠ gb111))) (fun _ hk => hk.2) (.slice Ao78 t107.length co78)) (fun _ hk => hk.2) (.slice none 0 0)) (fun _ hk => hk.2) (.bool false)) (fun _ hk => ⟨hk.1.1, ⟨hk.1.2.1, hk.1.2.2⟩⟩)⟩
           have n6_ : Aside0 (Kd.V (Kd.int .u8) 5 (((w77.setCell ⟨gb111, 0, none⟩ (.slice Ao78 t107.length co78)).setCell ⟨gb111, 1, none⟩ (.slice none 0 0)).setCell ⟨gb111, 2, none⟩ (.bool false)) w.heap.size (fun k_ => (P0_ k_ ∨ w.heap.size ≤ k_) ∧ some k_ ≠ (u9 : Value).ownBlock ∧ k_ ≠ gb111) (.slice Ao78 t107.length co78) t107) := ⟨by (with_reducible repeat (first | apply Kd.V_alloc | apply Kd.V_drewN | apply Kd.V_drew)); exact Kd.V_mono (Kd.V_far (p := ⟨gb111, 2, none⟩) (Kd.V_far (p := ⟨gb111, 1, none⟩) (Kd.V_far (p := ⟨gb111, 0, none⟩) (Kd.V_mono HO109.out (fun k_ hk => (⟨hk, hk.2.2⟩ : _ ∧ k_ ≠ gb111))) (fun _ hk => hk.2) (.slice Ao78 t107.length co78)) (fun _ hk => hk.2) (.slice none 0 0)) (fun _ hk => hk.2) (.bool false)) (fun _ hk => ⟨hk.1.1, ⟨hk.1.2.1, hk.1.2.2⟩⟩)⟩
           have n7_ : Aside0 ((((w77.setCell ⟨gb111, 0, none⟩ (.slice Ao78 t107.length co78)).setCell ⟨gb111, 1, none⟩ (.slice none 0 0)).setCell ⟨gb111, 2, none⟩ (.bool false)).heap[gb111]? = some (.cells #[.slice Ao78 t107.length co78, .slice none 0 0, .bool false] 34 (0, 0))) := ⟨by (with_reducible repeat (first | refine blk_drewN ?_ _ | refine blk_drew ?_ | refine blk_alloc ?_ _)); refine blk_put (cs := #[.slice Ao78 t107.length co78, .slice none 0 0, .bool false]) ?_ 2 _ rfl; (with_reducible repeat (first | refine blk_drewN ?_ _ | refine blk_drew ?_ | refine blk_alloc ?_ _)); refine blk_put (cs := #[.slice Ao78 t107.length co78, .slice none 0 0, .bool false]) ?_ 1 _ rfl; (with_reducible repeat (first | refine blk_drewN ?_ _ | refine blk_drew ?_ | refine blk_alloc ?_ _)); refine blk_put (cs := #[.slice none 0 0, .slice none 0 0, .bool false]) ?_ 0 _ rfl; (with_reducible repeat (first | refine blk_drewN ?_ _ | refine blk_drew ?_ | refine blk_alloc ?_ _)); exact BK111.out⟩
           have n8_ : Aside0 (Below w.heap.size w (((w77.setCell ⟨gb111, 0, none⟩ (.slice Ao78 t107.length co78)).setCell ⟨gb111, 1, none⟩ (.slice none 0 0)).setCell ⟨gb111, 2, none⟩ (.bool false))) := ⟨(belS HB.out)⟩
           (try clear HO_0)
           (try clear HO_9)
           (try clear HL106_0)
           (try clear HL106_1)
           (try clear HL110_0)
           (try clear HL110_1)
           (try clear HO109)
           (try clear BK111)
           (try clear HB)
           generalize (((w77.setCell ⟨gb111, 0, none⟩ (.slice Ao78 t107.length co78)).setCell ⟨gb111, 1, none⟩ (.slice none 0 0)).setCell ⟨gb111, 2, none⟩ (.bool false)) = w82 at n0_ n1_ n2_ n3_ n4_ n5_ n6_ n7_ n8_ ⊢
           have HO_0 := n0_
           have HO_9 := n1_
           have HL106_0 := n2_
           have HL106_1 := n3_
           have HL110_0 := n4_
           have HL110_1 := n5_
           have HO109 := n6_
           have BK111 := n7_
           have HB := n8_
           clear n0_ n1_ n2_ n3_ n4_ n5_ n6_ n7_ n8_
           have hcz83_0 : w82.cell? ⟨gb111, 0, none⟩ = some (.slice Ao78 t107.length co78) := (blk_cell BK111.out 0).trans rfl
           have hcz83_1 : w82.cell? ⟨gb111, 1, none⟩ = some (.slice none 0 0) := (blk_cell BK111.out 1).trans rfl
           have hcz83_2 : w82.cell? ⟨gb111, 2, none⟩ = some (.bool false) := (blk_cell BK111.out 2).trans rfl
           have hfz83_0 := blk_frozen BK111.out 0
           have hfz83_1 := blk_frozen BK111.out 1
           have hfz83_2 := blk_frozen BK111.out 2
           have p128 : 0 ≤ (x10_1 : Int) := of_decide_eq_true (by first | (with_reducible assumption) | assumption)
           have q128 : x10_1 < (l0.length : Int) := of_decide_eq_true (by first | (with_reducible assumption) | assumption)
           obtain ⟨ad128, A128_0, c128_0, A128_1, c128_1, e128, hx128_0, hx128_1, hx128_2, hl128_0, hi128_0, hl128_1, hi128_1⟩ := at_T34 (Kd.V_reads' HO_0.out).2.2 x10_1 p128 q128
           (try rw [← Nbq56.out] at hx128_2)
           obtain rfl : ad106 = ad128 := (by injection e128)
           obtain ⟨ce128, hce128, hMe128, hcc128⟩ := Kd.V_get HO_0.out z34 x10_1 p128 (by first | exact q128 | exact of_decide_eq_true (by first | (with_reducible assumption) | assumption) | (have e_ := (Kd.V_reads' HO_0.out).1; omega))
           obtain ⟨ua128_0, uc128_0, ua128_1, uc128_1, rfl, ul128_0, ge128_0, ul128_1, ge128_1⟩ := k34_openF hMe128
           have hv128_0 := hcc128 0 _ rfl
           rw [Nat.add_zero] at hv128_0
           replace hv128_0 := Option.some.inj (hv128_0.symm.trans hx128_0)
           injection hv128_0 with hva_ hvn_ hvc_
           rw [hva_] at ge128_0
           rw [hvc_] at ul128_0
           have HL128_0 := Aside0.mk (show Kd.V (Kd.int .u8) 5 _ w.heap.size _ _ ((rd_T34 l0 x10_1).f0) from Kd.V_mk ul128_0 ge128_0)
           clear hva_ hvn_ hvc_ ge128_0 ul128_0
           have hv128_1 := hcc128 1 _ rfl
           rw [add_field _ _ 1 (by omega)] at hv128_1
           replace hv128_1 := Option.some.inj (hv128_1.symm.trans hx128_1)
           injection hv128_1 with hva_ hvn_ hvc_
           rw [hva_] at ge128_1
           rw [hvc_] at ul128_1
           have HL128_1 := Aside0.mk (show Kd.V (Kd.int .u8) 5 _ w.heap.size _ _ ((rd_T34 l0 x10_1).f1) from Kd.V_mk ul128_1 ge128_1)
           clear hva_ hvn_ hvc_ ge128_1 ul128_1
           clear hcc128 hce128
           have HR128_0 := Aside0.mk hi128_0
           have HC128_0 := Aside0.mk hl128_0
           clear hi128_0 hl128_0
           have HR128_1 := Aside0.mk hi128_1
           have HC128_1 := Aside0.mk hl128_1
           clear hi128_1 hl128_1
           replace p128 := eq_true p128
           replace q128 := eq_true q128
           try go_wp2_with (first | ((with_reducible refine gate_callee (f := 20) rfl ?_); refine goesL_ (some 51) rfl rfl Try.func20 (by kernel_rfl) rfl #[.slice A128_1 ((rd_T34 l0 x10_1).f1).length c128_1, .int .i64 a3] rfl argN ?_; (with_reducible refine (marigraphkeep_Cut.calls (fun k_ => ((P0_ k_ ∨ w.heap.size ≤ k_) ∧ (some k_ ≠ (u9 : Value).ownBlock ∧ k_ ≠ gb111))) _ _ ((rd_T34 l0 x10_1).f1) a3 t129 _ ?side1 A71.out).mono ?_); (case side1 => exact HL128_1.out); rintro e w84 ⟨v130, rfl, ho0, hb⟩; refine ⟨_, rfl, ?_⟩; have n0_ := Aside0.mk (Kd.V_below (by (with_reducible repeat (first | apply Kd.V_alloc | apply Kd.V_drewN | apply Kd.V_drew)); exact HO_0.out) hb); have n1_ := Aside0.mk (Kd.N_below (by (with_reducible repeat (first | apply Kd.N_alloc | apply Kd.N_drewN | apply Kd.N_drew)); exact HO_9.out) hb); have n2_ := Aside0.mk (Kd.V_below (by (with_reducible repeat (first | apply Kd.V_alloc | apply Kd.V_drewN | apply Kd.V_drew)); exact HL106_0.out) hb); have n3_ := Aside0.mk (Kd.V_below (by (with_reducible repeat (first | apply Kd.V_alloc | apply Kd.V_drewN | apply Kd.V_drew)); exact HL106_1.out) hb); have n4_ := Aside0.mk (Kd.V_below (by (with_reducible repeat (first | apply Kd.V_alloc | apply Kd.V_drewN | apply Kd.V_drew)); exact HL110_0.out) hb); have n5_ := Aside0.mk (Kd.V_below (by (with_reducible repeat (first | apply Kd.V_alloc | apply Kd.V_drewN | apply Kd.V_drew)); exact HL110_1.out) hb); have n6_ := Aside0.mk (Kd.V_below (by (with_reducible repeat (first | apply Kd.V_alloc | apply Kd.V_drewN | apply Kd.V_drew)); exact HO109.out) hb); have n7_ := Aside0.mk (Kd.V_below (by (with_reducible repeat (first | apply Kd.V_alloc | apply Kd.V_drewN | apply Kd.V_drew)); exact HL128_0.out) hb); have n8_ := Aside0.mk (Kd.V_below (by (with_reducible repeat (first | apply Kd.V_alloc | apply Kd.V_drewN | apply Kd.V_drew)); exact HL128_1.out) hb); have n9_ := Aside0.mk (Kd.V_lower (Kd.V_mono (ok' := fun k_ => (P0_ k_ ∨ w.heap.size ≤ k_) ∧ some k_ ≠ (u9 : Value).ownBlock ∧ k_ ≠ gb111) ho0 (fun k_ hk_ => ⟨Or.elim hk_ (fun hs_ => hs_.1) (fun hn_ => (.inr (Nat.le_trans (below_size (belS HB.out)) hn_))), Or.elim hk_ (fun hs_ => hs_.2.1) (fun hn_ => (Kd.fresh' (Kd.N_lt (by (with_reducible repeat (first | apply Kd.N_alloc | apply Kd.N_drewN | apply Kd.N_drew)); exact HO_9.out)) k_ hn_)), Or.elim hk_ (fun hs_ => hs_.2.2) (fun hn_ => (Kd.freshB (g := gb111) (o := .cells #[.slice Ao78 t107.length co78, .slice none 0 0, .bool false] 34 (0, 0)) (blkN BK111.out) k_ hn_))⟩)) (below_size (belS HB.out))); have n10_ := Aside0.mk (bkB BK111.out hb); have n11_ := Aside0.mk (cbN HR128_0.out hb); have n12_ := Aside0.mk (cbN HR128_1.out hb); have n13_ := Aside0.mk (below_step (belS HB.out) hb); clear HO_0; clear HO_9; clear HL106_0; clear HL106_1; clear HL110_0; clear HL110_1; clear HO109; clear HL128_0; clear HL128_1; clear BK111; clear HR128_0; clear HR128_1; clear HB; have HO_0 := n0_; have HO_9 := n1_; have HL106_0 := n2_; have HL106_1 := n3_; have HL110_0 := n4_; have HL110_1 := n5_; have HO109 := n6_; have HL128_0 := n7_; have HL128_1 := n8_; have HO131 := n9_; have BK111 := n10_; have HR128_0 := n11_; have HR128_1 := n12_; have HB := n13_; clear n0_ n1_ n2_ n3_ n4_ n5_ n6_ n7_ n8_ n9_ n10_ n11_ n12_ n13_; (try clear hb); (try clear hk); (try clear ho0); obtain ⟨Ao85, co85, eo85⟩ := Kd.V_slice HO131.out; subst eo85; have hcz86_0 : w84.cell? ⟨gb111, 0, none⟩ = some (.slice Ao78 t107.length co78) := (blk_cell BK111.out 0).trans rfl; have hcz86_1 : w84.cell? ⟨gb111, 1, none⟩ = some (.slice none 0 0) := (blk_cell BK111.out 1).trans rfl; have hcz86_2 : w84.cell? ⟨gb111, 2, none⟩ = some (.bool false) := (blk_cell BK111.out 2).trans rfl; have hfz86_0 := blk_frozen BK111.out 0; have hfz86_1 := blk_frozen BK111.out 1; have hfz86_2 := blk_frozen BK111.out 2) | ((with_reducible refine gate_store (t := 26) (p := 52) rfl ?_); refine store_event (t := 26) (p := 52) (v := ?vo_w87) (w1 := (w84.setCell ⟨gb111, 1, none⟩ (.slice Ao85 t129.length co85))) ?hg ?ho ?hn ?hr ?_; (case ho => rfl); (case hg => rfl); (case hn => rfl); (case hr => first | (go_simp; done) | (go_simp; rfl)); intro w87 hw; have n0_ : Aside0 (Kd.V k34 34 w87 w.heap.size (fun k_ => (P0_ k_ ∨ w.heap.size ≤ k_) ∧ some k_ ≠ (u9 : Value).ownBlock ∧ k_ ≠ gb111) (.slice (some ad106) l0.length c0) l0) := ⟨(by rw [hw]; exact (by (with_reducible repeat (first | apply Kd.V_alloc | apply Kd.V_drewN | apply Kd.V_drew)); exact Kd.V_mono (Kd.V_far (p := ⟨gb111, 1, none⟩) (Kd.V_mono HO_0.out (fun k_ hk => (⟨hk, hk.2.2⟩ : _ ∧ k_ ≠ gb111))) (fun _ hk => hk.2) (.slice Ao85 t129.length co85)) (fun _ hk => ⟨hk.1.1, ⟨hk.1.2.1, hk.1.2.2⟩⟩)))⟩; have n1_ : Aside0 (Kd.N k34 34 w87 w.heap.size (fun k_ => (P0_ k_ ∨ w.heap.size ≤ k_) ∧ k_ ≠ gb111) u9 x9_1) := ⟨(by rw [hw]; exact (by (with_reducible repeat (first | apply Kd.N_alloc | apply Kd.N_drewN | apply Kd.N_drew)); exact Kd.N_mono (Kd.N_far (p := ⟨gb111, 1, none⟩) (Kd.N_mono HO_9.out (fun k_ hk => (⟨hk, hk.2⟩ : _ ∧ k_ ≠ gb111))) (fun _ hk => hk.2) (.slice Ao85 t129.length co85)) (fun _ hk => ⟨hk.1.1, hk.1.2⟩)))⟩; have n2_ : Aside0 (Kd.V (Kd.int .u8) 5 w87 w.heap.size (fun k_ => (P0_ k_ ∨ w.heap.size ≤ k_) ∧ some k_ ≠ (u9 : Value).ownBlock ∧ k_ ≠ gb111) (.slice A106_0 ((rd_T34 l0 x10_1).f0).length c106_0) ((rd_T34 l0 x10_1).f0)) := ⟨(by rw [hw]; exact (by (with_reducible repeat (first | apply Kd.V_alloc | apply Kd.V_drewN | apply Kd.V_drew)); exact Kd.V_mono (Kd.V_far (p := ⟨gb111, 1, none⟩) (Kd.V_mono HL106_0.out (fun k_ hk => (⟨hk, hk.2.2⟩ : _ ∧ k_ ≠ gb111))) (fun _ hk => hk.2) (.slice Ao85 t129.length co85)) (fun _ hk => ⟨hk.1.1, ⟨hk.1.2.1, hk.1.2.2⟩⟩)))⟩; have n3_ : Aside0 (Kd.V (Kd.int .u8) 5 w87 w.heap.size (fun k_ => (P0_ k_ ∨ w.heap.size ≤ k_) ∧ some k_ ≠ (u9 : Value).ownBlock ∧ k_ ≠ gb111) (.slice A106_1 ((rd_T34 l0 x10_1).f1).length c106_1) ((rd_T34 l0 x10_1).f1)) := ⟨(by rw [hw]; exact (by (with_reducible repeat (first | apply Kd.V_alloc | apply Kd.V_drewN | apply Kd.V_drew)); exact Kd.V_mono (Kd.V_far (p := ⟨gb111, 1, none⟩) (Kd.V_mono HL106_1.out (fun k_ hk => (⟨hk, hk.2.2⟩ : _ ∧ k_ ≠ gb111))) (fun _ hk => hk.2) (.slice Ao85 t129.length co85)) (fun _ hk => ⟨hk.1.1, ⟨hk.1.2.1, hk.1.2.2⟩⟩)))⟩; have n4_ : Aside0 (Kd.V (Kd.int .u8) 5 w87 w.heap.size (fun k_ => (P0_ k_ ∨ w.heap.size ≤ k_) ∧ some k_ ≠ (u9 : Value).ownBlock ∧ k_ ≠ gb111) (.slice A106_0 ((rd_T34 l0 x10_1).f0).length c106_0) ((rd_T34 l0 x10_1).f0)) := ⟨(by rw [hw]; exact (by (with_reducible repeat (first | apply Kd.V_alloc | apply Kd.V_drewN | apply Kd.V_drew)); exact Kd.V_mono (Kd.V_far (p := ⟨gb111, 1, none⟩) (Kd.V_mono HL110_0.out (fun k_ hk => (⟨hk, hk.2.2⟩ : _ ∧ k_ ≠ gb111))) (fun _ hk => hk.2) (.slice Ao85 t129.length co85)) (fun _ hk => ⟨hk.1.1, ⟨hk.1.2.1, hk.1.2.2⟩⟩)))⟩; have n5_ : Aside0 (Kd.V (Kd.int .u8) 5 w87 w.heap.size (fun k_ => (P0_ k_ ∨ w.heap.size ≤ k_) ∧ some k_ ≠ (u9 : Value).ownBlock ∧ k_ ≠ gb111) (.slice A106_1 ((rd_T34 l0 x10_1).f1).length c106_1) ((rd_T34 l0 x10_1).f1)) := ⟨(by rw [hw]; exact (by (with_reducible repeat (first | apply Kd.V_alloc | apply Kd.V_drewN | apply Kd.V_drew)); exact Kd.V_mono (Kd.V_far (p := ⟨gb111, 1, none⟩) (Kd.V_mono HL110_1.out (fun k_ hk => (⟨hk, hk.2.2⟩ : _ ∧ k_ ≠ gb111))) (fun _ hk => hk.2) (.slice Ao85 t129.length co85)) (fun _ hk => ⟨hk.1.1, ⟨hk.1.2.1, hk.1.2.2⟩⟩)))⟩; have n6_ : Aside0 (Kd.V (Kd.int .u8) 5 w87 w.heap.size (fun k_ => (P0_ k_ ∨ w.heap.size ≤ k_) ∧ some k_ ≠ (u9 : Value).ownBlock ∧ k_ ≠ gb111) (.slice Ao78 t107.length co78) t107) := ⟨(by rw [hw]; exact (by (with_reducible repeat (first | apply Kd.V_alloc | apply Kd.V_drewN | apply Kd.V_drew)); exact Kd.V_mono (Kd.V_far (p := ⟨gb111, 1, none⟩) (Kd.V_mono HO109.out (fun k_ hk => (⟨hk, hk.2.2⟩ : _ ∧ k_ ≠ gb111))) (fun _ hk => hk.2) (.slice Ao85 t129.length co85)) (fun _ hk => ⟨hk.1.1, ⟨hk.1.2.1, hk.1.2.2⟩⟩)))⟩; have n7_ : Aside0 (Kd.V (Kd.int .u8) 5 w87 w.heap.size (fun k_ => (P0_ k_ ∨ w.heap.size ≤ k_) ∧ some k_ ≠ (u9 : Value).ownBlock ∧ k_ ≠ gb111) (.slice A128_0 ((rd_T34 l0 x10_1).f0).length c128_0) ((rd_T34 l0 x10_1).f0)) := ⟨(by rw [hw]; exact (by (with_reducible repeat (first | apply Kd.V_alloc | apply Kd.V_drewN | apply Kd.V_drew)); exact Kd.V_mono (Kd.V_far (p := ⟨gb111, 1, none⟩) (Kd.V_mono HL128_0.out (fun k_ hk => (⟨hk, hk.2.2⟩ : _ ∧ k_ ≠ gb111))) (fun _ hk => hk.2) (.slice Ao85 t129.length co85)) (fun _ hk => ⟨hk.1.1, ⟨hk.1.2.1, hk.1.2.2⟩⟩)))⟩; have n8_ : Aside0 (Kd.V (Kd.int .u8) 5 w87 w.heap.size (fun k_ => (P0_ k_ ∨ w.heap.size ≤ k_) ∧ some k_ ≠ (u9 : Value).ownBlock ∧ k_ ≠ gb111) (.slice A128_1 ((rd_T34 l0 x10_1).f1).length c128_1) ((rd_T34 l0 x10_1).f1)) := ⟨(by rw [hw]; exact (by (with_reducible repeat (first | apply Kd.V_alloc | apply Kd.V_drewN | apply Kd.V_drew)); exact Kd.V_mono (Kd.V_far (p := ⟨gb111, 1, none⟩) (Kd.V_mono HL128_1.out (fun k_ hk => (⟨hk, hk.2.2⟩ : _ ∧ k_ ≠ gb111))) (fun _ hk => hk.2) (.slice Ao85 t129.length co85)) (fun _ hk => ⟨hk.1.1, ⟨hk.1.2.1, hk.1.2.2⟩⟩)))⟩; have n9_ : Aside0 (Kd.V (Kd.int .u8) 5 w87 w.heap.size (fun k_ => (P0_ k_ ∨ w.heap.size ≤ k_) ∧ some k_ ≠ (u9 : Value).ownBlock ∧ k_ ≠ gb111) (.slice Ao85 t129.length co85) t129) := ⟨(by rw [hw]; exact (by (with_reducible repeat (first | apply Kd.V_alloc | apply Kd.V_drewN | apply Kd.V_drew)); exact Kd.V_mono (Kd.V_far (p := ⟨gb111, 1, none⟩) (Kd.V_mono HO131.out (fun k_ hk => (⟨hk, hk.2.2⟩ : _ ∧ k_ ≠ gb111))) (fun _ hk => hk.2) (.slice Ao85 t129.length co85)) (fun _ hk => ⟨hk.1.1, ⟨hk.1.2.1, hk.1.2.2⟩⟩)))⟩; have n10_ : Aside0 (w87.heap[gb111]? = some (.cells #[.slice Ao78 t107.length co78, .slice Ao85 t129.length co85, .bool false] 34 (0, 0))) := ⟨(by rw [hw]; exact (by (with_reducible repeat (first | refine blk_drewN ?_ _ | refine blk_drew ?_ | refine blk_alloc ?_ _)); refine blk_put (cs := #[.slice Ao78 t107.length co78, .slice none 0 0, .bool false]) ?_ 1 _ rfl; (with_reducible repeat (first | refine blk_drewN ?_ _ | refine blk_drew ?_ | refine blk_alloc ?_ _)); exact BK111.out))⟩; have n11_ : Aside0 (Below w.heap.size w w87) := ⟨(by rw [hw]; exact (belS HB.out))⟩; clear hw; clear HO_0; clear HO_9; clear HL106_0; clear HL106_1; clear HL110_0; clear HL110_1; clear HO109; clear HL128_0; clear HL128_1; clear HO131; clear BK111; clear HB; have HO_0 := n0_; have HO_9 := n1_; have HL106_0 := n2_; have HL106_1 := n3_; have HL110_0 := n4_; have HL110_1 := n5_; have HO109 := n6_; have HL128_0 := n7_; have HL128_1 := n8_; have HO131 := n9_; have BK111 := n10_; have HB := n11_; clear n0_ n1_ n2_ n3_ n4_ n5_ n6_ n7_ n8_ n9_ n10_ n11_; have hcz88_0 : w87.cell? ⟨gb111, 0, none⟩ = some (.slice Ao78 t107.length co78) := (blk_cell BK111.out 0).trans rfl; have hcz88_1 : w87.cell? ⟨gb111, 1, none⟩ = some (.slice Ao85 t129.length co85) := (blk_cell BK111.out 1).trans rfl; have hcz88_2 : w87.cell? ⟨gb111, 2, none⟩ = some (.bool false) := (blk_cell BK111.out 2).trans rfl; have hfz88_0 := blk_frozen BK111.out 0; have hfz88_1 := blk_frozen BK111.out 1; have hfz88_2 := blk_frozen BK111.out 2) | ((with_reducible refine gate_builtin (b := .append) (xs := #[.tmp 53, .tmp 55]) rfl ?_); at_builtin; refine Kd.N_append k34 (w0 := w) w.heap.size rfl (.tmp 53) (.tmp 55) 22 34 (.agg #[(.slice none 0 0), (.slice none 0 0), (.bool false)]) 56 rfl Try.underlying22 info34 rfl (by decide) (by omega) u9 x9_1 (⟨t107, t129, false⟩ : S34) [.slice Ao78 t107.length co78, .slice Ao85 t129.length co85, .bool false] (fun k_ => (P0_ k_ ∨ w.heap.size ≤ k_) ∧ k_ ≠ gb111) (fun k_ => ((fun k_ => (P0_ k_ ∨ w.heap.size ≤ k_) ∧ k_ ≠ gb111)) k_ ∧ some k_ ≠ (u9 : Value).ownBlock) rfl rfl ?aP (fun _ hk => hk) ?aF ?aO ?aB ?aS ?aL ?_; (case aP => exact (k34_mkF _ _ (⟨t107, t129, false⟩ : S34) (Kd.V_reads' (Kd.V_mono (ok' := (fun k_ => ((fun k_ => (P0_ k_ ∨ w.heap.size ≤ k_) ∧ k_ ≠ gb111)) k_ ∧ some k_ ≠ (u9 : Value).ownBlock)) (HO109.out) (fun k_ hk => ⟨⟨hk.1, hk.2.2⟩, hk.2.1⟩))).2.1 (Kd.V_F (Kd.V_mono (ok' := (fun k_ => ((fun k_ => (P0_ k_ ∨ w.heap.size ≤ k_) ∧ k_ ≠ gb111)) k_ ∧ some k_ ≠ (u9 : Value).ownBlock)) (HO109.out) (fun k_ hk => ⟨⟨hk.1, hk.2.2⟩, hk.2.1⟩))) (Kd.V_reads' (Kd.V_mono (ok' := (fun k_ => ((fun k_ => (P0_ k_ ∨ w.heap.size ≤ k_) ∧ k_ ≠ gb111)) k_ ∧ some k_ ≠ (u9 : Value).ownBlock)) (HO131.out) (fun k_ hk => ⟨⟨hk.1, hk.2.2⟩, hk.2.1⟩))).2.1 (Kd.V_F (Kd.V_mono (ok' := (fun k_ => ((fun k_ => (P0_ k_ ∨ w.heap.size ≤ k_) ∧ k_ ≠ gb111)) k_ ∧ some k_ ≠ (u9 : Value).ownBlock)) (HO131.out) (fun k_ hk => ⟨⟨hk.1, hk.2.2⟩, hk.2.1⟩))))); (case aB => exact (belS HB.out)); (case aF => exact (fun k_ hk => ⟨(.inr (Nat.le_trans (below_size (belS HB.out)) hk)), Kd.freshB (g := gb111) (o := .cells #[.slice Ao78 t107.length co78, .slice Ao85 t129.length co85, .bool false] 34 (0, 0)) (blkN BK111.out) k_ hk⟩)); (case aO => exact (by (with_reducible repeat (first | apply Kd.N_alloc | apply Kd.N_drewN | apply Kd.N_drew)); exact HO_9.out)); (case aS => exact (below_size (belS HB.out))); (case aL => have := LMc72.out; omega); intro v133 w89 ho hb hg hat; rw [← Ny132.out] at ho; have n0_ := Aside0.mk (Kd.V_afterv (ok := (fun k_ => (P0_ k_ ∨ w.heap.size ≤ k_) ∧ k_ ≠ gb111)) (by (with_reducible repeat (first | apply Kd.V_alloc | apply Kd.V_drewN | apply Kd.V_drew)); exact Kd.V_mono HO_0.out (fun _ hk => ⟨⟨hk.1, hk.2.2⟩, hk.2.1⟩)) hg hat); have n1_ := Aside0.mk (Kd.V_afterv (ok := (fun k_ => (P0_ k_ ∨ w.heap.size ≤ k_) ∧ k_ ≠ gb111)) (by (with_reducible repeat (first | apply Kd.V_alloc | apply Kd.V_drewN | apply Kd.V_drew)); exact Kd.V_mono HL106_0.out (fun _ hk => ⟨⟨hk.1, hk.2.2⟩, hk.2.1⟩)) hg hat); have n2_ := Aside0.mk (Kd.V_afterv (ok := (fun k_ => (P0_ k_ ∨ w.heap.size ≤ k_) ∧ k_ ≠ gb111)) (by (with_reducible repeat (first | apply Kd.V_alloc | apply Kd.V_drewN | apply Kd.V_drew)); exact Kd.V_mono HL106_1.out (fun _ hk => ⟨⟨hk.1, hk.2.2⟩, hk.2.1⟩)) hg hat); have n3_ := Aside0.mk (Kd.V_afterv (ok := (fun k_ => (P0_ k_ ∨ w.heap.size ≤ k_) ∧ k_ ≠ gb111)) (by (with_reducible repeat (first | apply Kd.V_alloc | apply Kd.V_drewN | apply Kd.V_drew)); exact Kd.V_mono HL110_0.out (fun _ hk => ⟨⟨hk.1, hk.2.2⟩, hk.2.1⟩)) hg hat); have n4_ := Aside0.mk (Kd.V_afterv (ok := (fun k_ => (P0_ k_ ∨ w.heap.size ≤ k_) ∧ k_ ≠ gb111)) (by (with_reducible repeat (first | apply Kd.V_alloc | apply Kd.V_drewN | apply Kd.V_drew)); exact Kd.V_mono HL110_1.out (fun _ hk => ⟨⟨hk.1, hk.2.2⟩, hk.2.1⟩)) hg hat); have n5_ := Aside0.mk (Kd.V_afterv (ok := (fun k_ => (P0_ k_ ∨ w.heap.size ≤ k_) ∧ k_ ≠ gb111)) (by (with_reducible repeat (first | apply Kd.V_alloc | apply Kd.V_drewN | apply Kd.V_drew)); exact Kd.V_mono HO109.out (fun _ hk => ⟨⟨hk.1, hk.2.2⟩, hk.2.1⟩)) hg hat); have n6_ := Aside0.mk (blk_grown (g := gb111) (o := .cells #[.slice Ao78 t107.length co78, .slice Ao85 t129.length co85, .bool false] 34 (0, 0)) (blkN BK111.out) hg (Kd.N_away HO_9.out (fun _ hk => hk.2))); have n7_ := Aside0.mk (Kd.V_afterv (ok := (fun k_ => (P0_ k_ ∨ w.heap.size ≤ k_) ∧ k_ ≠ gb111)) (by (with_reducible repeat (first | apply Kd.V_alloc | apply Kd.V_drewN | apply Kd.V_drew)); exact Kd.V_mono HL128_0.out (fun _ hk => ⟨⟨hk.1, hk.2.2⟩, hk.2.1⟩)) hg hat); have n8_ := Aside0.mk (Kd.V_afterv (ok := (fun k_ => (P0_ k_ ∨ w.heap.size ≤ k_) ∧ k_ ≠ gb111)) (by (with_reducible repeat (first | apply Kd.V_alloc | apply Kd.V_drewN | apply Kd.V_drew)); exact Kd.V_mono HL128_1.out (fun _ hk => ⟨⟨hk.1, hk.2.2⟩, hk.2.1⟩)) hg hat); have n9_ := Aside0.mk (Kd.V_afterv (ok := (fun k_ => (P0_ k_ ∨ w.heap.size ≤ k_) ∧ k_ ≠ gb111)) (by (with_reducible repeat (first | apply Kd.V_alloc | apply Kd.V_drewN | apply Kd.V_drew)); exact Kd.V_mono HO131.out (fun _ hk => ⟨⟨hk.1, hk.2.2⟩, hk.2.1⟩)) hg hat); have n10_ := Aside0.mk (hb); have n11_ := Aside0.mk (ho); clear HO_0; clear HL106_0; clear HL106_1; clear HL110_0; clear HL110_1; clear HO109; clear BK111; clear HL128_0; clear HL128_1; clear HO131; clear HB; clear HO_9; have HO_0 := n0_; have HL106_0 := n1_; have HL106_1 := n2_; have HL110_0 := n3_; have HL110_1 := n4_; have HO109 := n5_; have BK111 := n6_; have HL128_0 := n7_; have HL128_1 := n8_; have HO131 := n9_; have HB := n10_; have HO134 := n11_; clear n0_ n1_ n2_ n3_ n4_ n5_ n6_ n7_ n8_ n9_ n10_ n11_; clear ho hb hg hat))
           go_roundg kj4
           case measure => have := HK1.out; have := HJ4.out; omega
           case rel => exact ⟨(y132), (wrap64 (x10_1 + 1)), (by first | rfl | (simp; done) | (simp [*]; done)), H', ⟨by have := HK1.out; have := HJ4.out; omega⟩, ⟨by (with_reducible repeat (first | apply Kd.V_alloc | apply Kd.V_drewN | apply Kd.V_drew)); exact Kd.V_mono HO_0.out (fun _ hk => ⟨hk.1.1, hk.2⟩)⟩, ⟨by (with_reducible repeat (first | apply Kd.N_alloc | apply Kd.N_drewN | apply Kd.N_drew)); exact Kd.N_mono HO134.out (fun _ hk => hk.1)⟩, ⟨(belS HB.out)⟩⟩
          ·rw [if_neg c72] at H
           exact absurd H (by simp)
       ·rw [if_neg c9] at H
        exact absurd H (by simp)
      ·rw [if_neg c8] at H
       exact absurd H (by simp)
     ·replace c7 := Bool.eq_false_iff.mpr c7
      subst c7
      have H1 : (some x9_1) = some r := by rw [if_neg (show ¬ (false = true) by decide)] at H; exact H
      clear H
      have H := H1
      clear H1
      obtain rfl := Option.some.inj H
      go_wp2
      go_ret
      exact ⟨_, by first | rfl | (simp [errW_none, errW_some] <;> rfl) | (simp [*, errW_none, errW_some] <;> rfl), by (with_reducible repeat (first | apply Kd.N_alloc | apply Kd.N_drewN | apply Kd.N_drew)); exact HO_9.out, (belN HB.out)⟩

end Go.Proofs.Ytpcomhliikmjkaa.PBlockTells

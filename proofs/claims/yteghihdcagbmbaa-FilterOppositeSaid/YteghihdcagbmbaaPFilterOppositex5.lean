/- The walk of the Go functions that a law reaches, told as plain functions; a program of this session has written it. No condition beyond the statement's own. -/
import Derived.Test.YteghihdcagbmbaaPFilterOppositex0
import Derived.Test.YteghihdcagbmbaaPFilterOppositex1
import Derived.Test.YteghihdcagbmbaaPFilterOppositex2
import Derived.Test.YteghihdcagbmbaaPFilterOppositex4
namespace Go.Proofs.Yteghihdcagbmbaa.PFilterOpposite
open Go.RowKit Go.Proofs.YteghihdcagbmbaaW.PrintWords Go.Proofs.YteghihdcagbmbaaW.PrintLast Go.Proofs.YteghihdcagbmbaaW.PrintMore
attribute [local go_sem] max2_int min2_int max_two min_two max_three min_three max_four min_four   -- for this text's walks alone
set_option linter.unusedVariables false
set_option linter.unusedSimpArgs false

/-! ### marigraphlaw19.FilterOpposite: function 3, by hand -/
set_option maxHeartbeats 8000000
set_option maxRecDepth 100000
/-- The point's block and the filter's, and the filter's values. -/
structure OS (gP gF : Nat) (pc fc : Array Value) (v : Value) (vs : List ByteArray) (w0 w : World) : Prop where
  p : w.heap[gP]? = some (.cells pc 26 (0, 0))
  f : w.heap[gF]? = some (.cells fc 29 (0, 0))
  r : Kd.string.R 9 w w0.heap.size (fun _ => True) v vs
  hb : Below w0.heap.size w0 w
section
variable {gP gF : Nat} {pc fc : Array Value} {v : Value} {vs : List ByteArray} {w0 w w' : World}
theorem OS.below (h : OS gP gF pc fc v vs w0 w) (hb : Below w.heap.size w w') : OS gP gF pc fc v vs w0 w' := ⟨blk_below h.p hb, blk_below h.f hb, Kd.R_below h.r hb, below_step h.hb hb⟩
theorem OS.drew (h : OS gP gF pc fc v vs w0 w) : OS gP gF pc fc v vs w0 w.drew := ⟨blk_drew h.p, blk_drew h.f, Kd.R_drew h.r, below_drew1 h.hb⟩
theorem OS.set {g j : Nat} {u : Value} {cs : Array Value} (h : OS gP gF pc fc v vs w0 w) (hP : gP ≠ g) (hF : gF ≠ g) (hg : w0.heap.size ≤ g) (hc : w.heap[g]? = some (.cells cs 29 (0, 0))) : OS gP gF pc fc v vs w0 (w.setCell ⟨g, j, none⟩ u) :=
  ⟨blk_far (p := ⟨g, j, none⟩) h.p hP u, blk_far (p := ⟨g, j, none⟩) h.f hF u, Kd.R_set h.r hc (by decide) j u, below_set h.hb hg⟩
theorem OS.set3 {g : Nat} {u0 u1 u2 x0 x1 x2 : Value} (h : OS gP gF pc fc v vs w0 w) (hP : gP ≠ g) (hF : gF ≠ g) (hg : w0.heap.size ≤ g) (hc : w.heap[g]? = some (.cells #[x0, x1, x2] 29 (0, 0))) : OS gP gF pc fc v vs w0 (((w.setCell ⟨g, 0, none⟩ u0).setCell ⟨g, 1, none⟩ u1).setCell ⟨g, 2, none⟩ u2) :=
  ((h.set hP hF hg hc).set hP hF hg (blk_put hc 0 u0 rfl)).set hP hF hg (blk_put (blk_put hc 0 u0 rfl) 1 u1 rfl)
theorem blk_far3 {g g' : Nat} {t : TypeId} {cs : Array Value} {u0 u1 u2 : Value} (h : w.heap[g]? = some (.cells cs t (0, 0))) (hne : g ≠ g') : (((w.setCell ⟨g', 0, none⟩ u0).setCell ⟨g', 1, none⟩ u1).setCell ⟨g', 2, none⟩ u2).heap[g]? = some (.cells cs t (0, 0)) :=
  blk_far (p := ⟨g', 2, none⟩) (blk_far (p := ⟨g', 1, none⟩) (blk_far (p := ⟨g', 0, none⟩) h hne u0) hne u1) hne u2
end
theorem blk_put3o {w : World} {g : Nat} {t : TypeId} {x0 x1 x2 : Value} (h : w.heap[g]? = some (.cells #[x0, x1, x2] t (0, 0))) (u0 u1 u2 : Value) : (((w.setCell ⟨g, 0, none⟩ u0).setCell ⟨g, 1, none⟩ u1).setCell ⟨g, 2, none⟩ u2).heap[g]? = some (.cells #[u0, u1, u2] t (0, 0)) := blk_put (blk_put (blk_put h 0 u0 rfl) 1 u1 rfl) 2 u2 rfl
structure GS (g6 g7 g8 gP gF : Nat) (c6 c7 c8 pc fc : Array Value) (v : Value) (vs : List ByteArray) (w0 w : World) : Prop where
  os : OS gP gF pc fc v vs w0 w
  b6 : w.heap[g6]? = some (.cells c6 29 (0, 0))
  b7 : w.heap[g7]? = some (.cells c7 29 (0, 0))
  b8 : w.heap[g8]? = some (.cells c8 29 (0, 0))
section
variable {g6 g7 g8 gP gF : Nat} {c6 c7 c8 pc fc : Array Value} {v : Value} {vs : List ByteArray} {w0 w w' : World}
theorem GS.below (h : GS g6 g7 g8 gP gF c6 c7 c8 pc fc v vs w0 w) (hb : Below w.heap.size w w') : GS g6 g7 g8 gP gF c6 c7 c8 pc fc v vs w0 w' := ⟨h.os.below hb, blk_below h.b6 hb, blk_below h.b7 hb, blk_below h.b8 hb⟩
theorem GS.drew (h : GS g6 g7 g8 gP gF c6 c7 c8 pc fc v vs w0 w) : GS g6 g7 g8 gP gF c6 c7 c8 pc fc v vs w0 w.drew := ⟨h.os.drew, blk_drew h.b6, blk_drew h.b7, blk_drew h.b8⟩
end
structure NE (g6 g7 g8 gP gF n : Nat) : Prop where
  p6 : gP ≠ g6
  p7 : gP ≠ g7
  p8 : gP ≠ g8
  f6 : gF ≠ g6
  f7 : gF ≠ g7
  f8 : gF ≠ g8
  n67 : g6 ≠ g7
  n68 : g6 ≠ g8
  n78 : g7 ≠ g8
  l6 : n ≤ g6
  l7 : n ≤ g7
  l8 : n ≤ g8
theorem blk8 {w : World} {g : Nat} {t : TypeId} {a b c d e f x y : Value} (h : w.heap[g]? = some (.cells #[a, b, c, d, e, f, x, y] t (0, 0))) : w.cell? ⟨g, 0, none⟩ = some a ∧ w.cell? ⟨g, 1, none⟩ = some b ∧ w.cell? ⟨g, 2, none⟩ = some c ∧ w.cell? ⟨g, 3, none⟩ = some d ∧ w.cell? ⟨g, 4, none⟩ = some e ∧ w.cell? ⟨g, 5, none⟩ = some f ∧ w.cell? ⟨g, 6, none⟩ = some x ∧ w.cell? ⟨g, 7, none⟩ = some y :=
  ⟨(blk_cell h 0).trans rfl, (blk_cell h 1).trans rfl, (blk_cell h 2).trans rfl, (blk_cell h 3).trans rfl, (blk_cell h 4).trans rfl, (blk_cell h 5).trans rfl, (blk_cell h 6).trans rfl, (blk_cell h 7).trans rfl⟩
theorem filterOpposite_at (k : Nat) (x0 x1 : Int) (A2 : Option Addr) (c2 : Nat) (l2 : List Int) (p0 p1 p2 p3 p4 : Int) (p5 : Bool) (p6 p7 : Int) (key : ByteArray) (kd : Int) (vs : List ByteArray) (met : ByteArray) (tags : List S44) (pt pv : Int) (a b c d : Bool) (w : World)
    (hr2 : (Kd.int .i64).C w A2 l2.length l2) (hc2 : l2.length ≤ c2) (hmade : marigraphlaw19_made.f x0 0 l2 = some (key, kd, vs)) (hof : marigraphkeep_Of.f k p0 p1 p2 p3 p4 p5 p6 p7 = some (met, tags, pt, pv))
    (ha : filter_Match.f k key kd vs tags = some a) (hb : filter_Match.f k key 2 vs tags = some b) (hc : filter_Match.f k key 3 [] tags = some c) (hd : filter_Match.f k key 4 [] tags = some d)
    (hab : (a && b) = false) (hcab : c = (a || b)) (hdc : d = !c) (hk : marigraphlaw19_known.f k = some true) :
    Calls Try.prog 3 #[.agg #[.int .i64 x0, .int .i64 x1, .slice A2 l2.length c2], .agg #[.int .i64 p0, .int .i64 p1, .int .i64 p2, .int .i64 p3, .int .i64 p4, .bool p5, .int .i64 p6, .int .i64 p7]] w fun e w' => e = .returned (.bool true) ∧ Below w.heap.size w w' := by
  have hu24 := Try.underlying24
  have hu26 := Try.underlying26
  have hu29 := Try.underlying29
  have hu33 := Try.underlying33
  replace hmade := Aside0.mk hmade
  replace hof := Aside0.mk hof
  replace ha := Aside0.mk ha
  replace hb := Aside0.mk hb
  replace hc := Aside0.mk hc
  replace hd := Aside0.mk hd
  replace hk := Aside0.mk hk
  replace hab := Aside0.mk hab
  replace hcab := Aside0.mk hcab
  replace hdc := Aside0.mk hdc
  go_enter Try.func3, Try.ntmps3
  go_wp2_with (first
    | ((with_reducible refine gate_dst (N := 2) rfl ?_); refine box_event ?hgX (N := 2) ?hdX (cs := #[.int .i64 x0, .int .i64 x1, .slice A2 l2.length c2]) (t := 24) ?hrX ?_; (case hdX => rfl); (case hgX => rfl); (case hrX => first | (go_simp; done) | (go_simp; rfl)); intro gX hg w1 y0 hb1; have gX0 : w.heap.size ≤ gX := Nat.le_of_eq hg.symm; clear hg)
    | ((with_reducible refine gate_dst (N := 3) rfl ?_); refine box_event ?hgP (N := 3) ?hdP (cs := #[.int .i64 p0, .int .i64 p1, .int .i64 p2, .int .i64 p3, .int .i64 p4, .bool p5, .int .i64 p6, .int .i64 p7]) (t := 26) ?hrP ?_; (case hdP => rfl); (case hgP => rfl); (case hrP => first | (go_simp; done) | (go_simp; rfl)); intro gP hg w2 y1 hb2; have nXP : gX ≠ gP := blk_ne1 hg y0; have nPX := nXP.symm; replace y0 := blk_below y0 hb2; have HB := below_step hb1 hb2; clear hb1 hb2 hg; obtain ⟨d0, d1, d2, f0, f1, f2⟩ := blk3 y0; have y2 := blk_put y0 1 (.int .i64 0) rfl; have y3 := blk_far (p := ⟨gX, 1, none⟩) y1 nPX (.int .i64 0); have HB3 := below_set (j := 1) (v := .int .i64 0) HB gX0; have hrs := Kd.C_below hr2 HB3; obtain ⟨e0, e1, e2, -, -, -⟩ := blk3 y2; clear y1 HB hr2 y2 y0)
    | (go_at_call 7; (with_reducible refine (marigraphlaw19_made.calls x0 0 A2 c2 l2 key kd vs _ hrs hc2 hmade.out).mono ?_); rintro e w4 ⟨v, rfl, hR, hb2⟩; obtain ⟨Av, cv, rfl⟩ := Kd.R_slice hR; have y4 := blk_below y3 hb2; have HB4 := below_step HB3 hb2; replace hR := Kd.R_lower hR (below_size HB3); clear hb2 y3 HB3 hrs d0 d1 d2 f0 f1 f2 e0 e1 e2)
    | ((with_reducible refine gate_dst (N := 5) rfl ?_); refine box_event ?hgA (N := 5) ?hdA (cs := #[.string ⟨#[]⟩, .int .i64 0, .slice none 0 0]) (t := 29) ?hrA ?_; (case hdA => rfl); (case hgA => rfl); (case hrA => first | (go_simp; done) | (go_simp; rfl)); intro gF hg w5 hbox hb5; have hOS : OS gP gF #[.int .i64 p0, .int .i64 p1, .int .i64 p2, .int .i64 p3, .int .i64 p4, .bool p5, .int .i64 p6, .int .i64 p7] #[.string ⟨#[]⟩, .int .i64 0, .slice none 0 0] (.slice Av vs.length cv) vs w w5 := ⟨blk_below y4 hb5, hbox, Kd.R_below hR hb5, below_step HB4 hb5⟩; have nPF : gP ≠ gF := blk_ne1 hg y4; have hgF : w.heap.size ≤ gF := (by rw [hg]; exact below_size HB4); obtain ⟨d0, d1, d2, f0, f1, f2⟩ := blk3 hbox; clear hg hb5 hbox y4 HB4 hR))
  clear d0 d1 d2 f0 f1 f2
  have hS0 : OS gP gF #[.int .i64 p0, .int .i64 p1, .int .i64 p2, .int .i64 p3, .int .i64 p4, .bool p5, .int .i64 p6, .int .i64 p7] #[.string key, .int .i64 kd, .slice Av vs.length cv] (.slice Av vs.length cv) vs w (((w5.setCell ⟨gF, 0, none⟩ (.string key)).setCell ⟨gF, 1, none⟩ (.int .i64 kd)).setCell ⟨gF, 2, none⟩ (.slice Av vs.length cv)) :=
    ⟨blk_far3 hOS.p nPF, blk_put3 hOS.f _ _ _, Kd.R_set (Kd.R_set (Kd.R_set hOS.r hOS.f (by decide) 0 _) (blk_put hOS.f 0 _ rfl) (by decide) 1 _) (blk_put (blk_put hOS.f 0 _ rfl) 1 _ rfl) (by decide) 2 _, below_set (below_set (below_set hOS.hb hgF) hgF) hgF⟩
  clear hOS
  generalize (((w5.setCell ⟨gF, 0, none⟩ (.string key)).setCell ⟨gF, 1, none⟩ (.int .i64 kd)).setCell ⟨gF, 2, none⟩ (.slice Av vs.length cv)) = w6 at hS0 ⊢
  have cF : ∀ w' : World, w'.heap[gF]? = some (.cells #[.string key, .int .i64 kd, .slice Av vs.length cv] 29 (0, 0)) → w'.cell? ⟨gF, 0, none⟩ = some (.string key) ∧ w'.cell? ⟨gF, 1, none⟩ = some (.int .i64 kd) ∧ w'.cell? ⟨gF, 2, none⟩ = some (.slice Av vs.length cv) := fun w' h => ⟨(blk_cell h 0).trans rfl, (blk_cell h 1).trans rfl, (blk_cell h 2).trans rfl⟩
  refine start_ (n := 9) (S := fun w' => w'.heap[gF]? = some (.cells #[.string key, .int .i64 kd, .slice Av vs.length cv] 29 (0, 0))) (ds := []) (bA 9 0) (by kernel_rfl) rfl rfl hS0.drew.f (fun hS => ?_)
  replace hS0 := hS0.drew
  generalize w6.drew = w7 at hS0 hS ⊢
  refine norm_ (by rfl) ?_
  refine tK 0 (some 17) (bA 9 1) rfl rfl hS (by rintro w' hS'; obtain ⟨q0, q1, q2⟩ := cF w' hS'; go_simp; with_reducible rfl) ?_
  refine tK 1 (some 18) (bA 9 3) rfl rfl hS (by rintro w' hS'; obtain ⟨q0, q1, q2⟩ := cF w' hS'; go_simp; with_reducible rfl) ?_
  refine tK 2 (some 19) (bA 9 7) rfl rfl hS (by rintro w' hS'; obtain ⟨q0, q1, q2⟩ := cF w' hS'; go_simp; with_reducible rfl) ?_
  refine join_ (σ := Nat × Nat × Nat) 3 (bA 9 63) (fun s_ => [(6, .pointer (some ⟨s_.1, 0, none⟩)), (7, .pointer (some ⟨s_.2.1, 0, none⟩)), (8, .pointer (some ⟨s_.2.2, 0, none⟩))]) (fun s_ w' => GS s_.1 s_.2.1 s_.2.2 gP gF #[.string ⟨#[]⟩, .int .i64 0, .slice none 0 0] #[.string ⟨#[]⟩, .int .i64 0, .slice none 0 0] #[.string ⟨#[]⟩, .int .i64 0, .slice none 0 0] #[.int .i64 p0, .int .i64 p1, .int .i64 p2, .int .i64 p3, .int .i64 p4, .bool p5, .int .i64 p6, .int .i64 p7] #[.string key, .int .i64 kd, .slice Av vs.length cv] (.slice Av vs.length cv) vs w w' ∧ NE s_.1 s_.2.1 s_.2.2 gP gF w.heap.size) ?_ ?_
  rotate_left
  · intro hJ
    refine three_ (i := 3) (j := 4) (k := 5) (Ni := some 6) (Nj := some 7) (Nk := some 8) (bA 9 15) (bA 9 23) (bA 9 39) rfl rfl rfl rfl rfl rfl (by kernel_rfl) (by decide) (by decide) (by decide) (fun K hK => ?_) (fun K hK => ?_) (fun K hK => ?_)
    · refine box_step ?hg1 (N := 6) ?hd1 (cs := #[.string ⟨#[]⟩, .int .i64 0, .slice none 0 0]) (t := 29) ?hr1 ?_; (case hd1 => rfl); (case hg1 => rfl); (case hr1 => first | (go_simp; done) | (go_simp; rfl))
      intro g3 hg wq b3 hbq
      have nP3 := blk_ne1 hg hS0.p
      have nF3 := blk_ne1 hg hS0.f
      have l3 : w.heap.size ≤ g3 := (by rw [hg]; exact below_size hS0.hb)
      replace hS0 := hS0.below hbq
      clear hg hbq
      refine hK.out _ _ hS0.f (fun hS => ?_)
      clear hK K
      refine nK (some 6) ?_
      refine two_ (i := 4) (j := 5) (Ni := some 7) (Nj := some 8) (bA 9 31) (bA 9 47) rfl rfl rfl rfl (by kernel_rfl) (by decide) (by decide) (fun K hK => ?_) (fun K hK => ?_)
      · refine box_step ?hg2 (N := 7) ?hd2 (cs := #[.string ⟨#[]⟩, .int .i64 0, .slice none 0 0]) (t := 29) ?hr2 ?_; (case hd2 => rfl); (case hg2 => rfl); (case hr2 => first | (go_simp; done) | (go_simp; rfl))
        intro g4 hg wq b4 hbq
        have nP4 := blk_ne1 hg hS0.p
        have nF4 := blk_ne1 hg hS0.f
        have l4 : w.heap.size ≤ g4 := (by rw [hg]; exact below_size hS0.hb)
        have n34 := blk_ne1 hg b3
        replace b3 := blk_below b3 hbq
        replace hS0 := hS0.below hbq
        clear hg hbq
        refine hK.out _ _ hS0.f (fun hS => ?_)
        clear hK K
        refine nK (some 7) ?_
        refine one_ (i := 5) (N := some 8) (bA 9 63) rfl rfl (by kernel_rfl) (by decide) (fun K hK => ?_)
        refine box_step ?hg3 (N := 8) ?hd3 (cs := #[.string ⟨#[]⟩, .int .i64 0, .slice none 0 0]) (t := 29) ?hr3 ?_; (case hd3 => rfl); (case hg3 => rfl); (case hr3 => first | (go_simp; done) | (go_simp; rfl))
        intro g5 hg wq b5 hbq
        have nP5 := blk_ne1 hg hS0.p
        have nF5 := blk_ne1 hg hS0.f
        have l5 : w.heap.size ≤ g5 := (by rw [hg]; exact below_size hS0.hb)
        have n35 := blk_ne1 hg b3
        replace b3 := blk_below b3 hbq
        have n45 := blk_ne1 hg b4
        replace b4 := blk_below b4 hbq
        replace hS0 := hS0.below hbq
        clear hg hbq
        refine hK.out _ _ hS0.f (fun hS => ?_)
        clear hK K
        refine nK (some 8) ?_
        exact norm_ (by first | (simp only [putAll, Act.put, List.setIfInBounds_toArray, List.set_cons_zero, List.set_cons_succ]; done) | (simp only [putAll, Act.put, List.setIfInBounds_toArray, List.set_cons_zero, List.set_cons_succ]; rfl)) (hJ (g3, g4, g5) _ ⟨⟨hS0, b3, b4, b5⟩, ⟨nP3, nP4, nP5, nF3, nF4, nF5, n34, n35, n45, l3, l4, l5⟩⟩)
      · refine box_step ?hg4 (N := 8) ?hd4 (cs := #[.string ⟨#[]⟩, .int .i64 0, .slice none 0 0]) (t := 29) ?hr4 ?_; (case hd4 => rfl); (case hg4 => rfl); (case hr4 => first | (go_simp; done) | (go_simp; rfl))
        intro g5 hg wq b5 hbq
        have nP5 := blk_ne1 hg hS0.p
        have nF5 := blk_ne1 hg hS0.f
        have l5 : w.heap.size ≤ g5 := (by rw [hg]; exact below_size hS0.hb)
        have n35 := blk_ne1 hg b3
        replace b3 := blk_below b3 hbq
        replace hS0 := hS0.below hbq
        clear hg hbq
        refine hK.out _ _ hS0.f (fun hS => ?_)
        clear hK K
        refine nK (some 8) ?_
        refine one_ (i := 4) (N := some 7) (bA 9 63) rfl rfl (by kernel_rfl) (by decide) (fun K hK => ?_)
        refine box_step ?hg5 (N := 7) ?hd5 (cs := #[.string ⟨#[]⟩, .int .i64 0, .slice none 0 0]) (t := 29) ?hr5 ?_; (case hd5 => rfl); (case hg5 => rfl); (case hr5 => first | (go_simp; done) | (go_simp; rfl))
        intro g4 hg wq b4 hbq
        have nP4 := blk_ne1 hg hS0.p
        have nF4 := blk_ne1 hg hS0.f
        have l4 : w.heap.size ≤ g4 := (by rw [hg]; exact below_size hS0.hb)
        have n34 := blk_ne1 hg b3
        replace b3 := blk_below b3 hbq
        have n54 := blk_ne1 hg b5
        replace b5 := blk_below b5 hbq
        replace hS0 := hS0.below hbq
        clear hg hbq
        refine hK.out _ _ hS0.f (fun hS => ?_)
        clear hK K
        refine nK (some 7) ?_
        exact norm_ (by first | (simp only [putAll, Act.put, List.setIfInBounds_toArray, List.set_cons_zero, List.set_cons_succ]; done) | (simp only [putAll, Act.put, List.setIfInBounds_toArray, List.set_cons_zero, List.set_cons_succ]; rfl)) (hJ (g3, g4, g5) _ ⟨⟨hS0, b3, b4, b5⟩, ⟨nP3, nP4, nP5, nF3, nF4, nF5, n34, n35, n54.symm, l3, l4, l5⟩⟩)
    · refine box_step ?hg6 (N := 7) ?hd6 (cs := #[.string ⟨#[]⟩, .int .i64 0, .slice none 0 0]) (t := 29) ?hr6 ?_; (case hd6 => rfl); (case hg6 => rfl); (case hr6 => first | (go_simp; done) | (go_simp; rfl))
      intro g4 hg wq b4 hbq
      have nP4 := blk_ne1 hg hS0.p
      have nF4 := blk_ne1 hg hS0.f
      have l4 : w.heap.size ≤ g4 := (by rw [hg]; exact below_size hS0.hb)
      replace hS0 := hS0.below hbq
      clear hg hbq
      refine hK.out _ _ hS0.f (fun hS => ?_)
      clear hK K
      refine nK (some 7) ?_
      refine two_ (i := 3) (j := 5) (Ni := some 6) (Nj := some 8) (bA 9 31) (bA 9 55) rfl rfl rfl rfl (by kernel_rfl) (by decide) (by decide) (fun K hK => ?_) (fun K hK => ?_)
      · refine box_step ?hg7 (N := 6) ?hd7 (cs := #[.string ⟨#[]⟩, .int .i64 0, .slice none 0 0]) (t := 29) ?hr7 ?_; (case hd7 => rfl); (case hg7 => rfl); (case hr7 => first | (go_simp; done) | (go_simp; rfl))
        intro g3 hg wq b3 hbq
        have nP3 := blk_ne1 hg hS0.p
        have nF3 := blk_ne1 hg hS0.f
        have l3 : w.heap.size ≤ g3 := (by rw [hg]; exact below_size hS0.hb)
        have n43 := blk_ne1 hg b4
        replace b4 := blk_below b4 hbq
        replace hS0 := hS0.below hbq
        clear hg hbq
        refine hK.out _ _ hS0.f (fun hS => ?_)
        clear hK K
        refine nK (some 6) ?_
        refine one_ (i := 5) (N := some 8) (bA 9 63) rfl rfl (by kernel_rfl) (by decide) (fun K hK => ?_)
        refine box_step ?hg8 (N := 8) ?hd8 (cs := #[.string ⟨#[]⟩, .int .i64 0, .slice none 0 0]) (t := 29) ?hr8 ?_; (case hd8 => rfl); (case hg8 => rfl); (case hr8 => first | (go_simp; done) | (go_simp; rfl))
        intro g5 hg wq b5 hbq
        have nP5 := blk_ne1 hg hS0.p
        have nF5 := blk_ne1 hg hS0.f
        have l5 : w.heap.size ≤ g5 := (by rw [hg]; exact below_size hS0.hb)
        have n45 := blk_ne1 hg b4
        replace b4 := blk_below b4 hbq
        have n35 := blk_ne1 hg b3
        replace b3 := blk_below b3 hbq
        replace hS0 := hS0.below hbq
        clear hg hbq
        refine hK.out _ _ hS0.f (fun hS => ?_)
        clear hK K
        refine nK (some 8) ?_
        exact norm_ (by first | (simp only [putAll, Act.put, List.setIfInBounds_toArray, List.set_cons_zero, List.set_cons_succ]; done) | (simp only [putAll, Act.put, List.setIfInBounds_toArray, List.set_cons_zero, List.set_cons_succ]; rfl)) (hJ (g3, g4, g5) _ ⟨⟨hS0, b3, b4, b5⟩, ⟨nP3, nP4, nP5, nF3, nF4, nF5, n43.symm, n35, n45, l3, l4, l5⟩⟩)
      · refine box_step ?hg9 (N := 8) ?hd9 (cs := #[.string ⟨#[]⟩, .int .i64 0, .slice none 0 0]) (t := 29) ?hr9 ?_; (case hd9 => rfl); (case hg9 => rfl); (case hr9 => first | (go_simp; done) | (go_simp; rfl))
        intro g5 hg wq b5 hbq
        have nP5 := blk_ne1 hg hS0.p
        have nF5 := blk_ne1 hg hS0.f
        have l5 : w.heap.size ≤ g5 := (by rw [hg]; exact below_size hS0.hb)
        have n45 := blk_ne1 hg b4
        replace b4 := blk_below b4 hbq
        replace hS0 := hS0.below hbq
        clear hg hbq
        refine hK.out _ _ hS0.f (fun hS => ?_)
        clear hK K
        refine nK (some 8) ?_
        refine one_ (i := 3) (N := some 6) (bA 9 63) rfl rfl (by kernel_rfl) (by decide) (fun K hK => ?_)
        refine box_step ?hg10 (N := 6) ?hd10 (cs := #[.string ⟨#[]⟩, .int .i64 0, .slice none 0 0]) (t := 29) ?hr10 ?_; (case hd10 => rfl); (case hg10 => rfl); (case hr10 => first | (go_simp; done) | (go_simp; rfl))
        intro g3 hg wq b3 hbq
        have nP3 := blk_ne1 hg hS0.p
        have nF3 := blk_ne1 hg hS0.f
        have l3 : w.heap.size ≤ g3 := (by rw [hg]; exact below_size hS0.hb)
        have n43 := blk_ne1 hg b4
        replace b4 := blk_below b4 hbq
        have n53 := blk_ne1 hg b5
        replace b5 := blk_below b5 hbq
        replace hS0 := hS0.below hbq
        clear hg hbq
        refine hK.out _ _ hS0.f (fun hS => ?_)
        clear hK K
        refine nK (some 6) ?_
        exact norm_ (by first | (simp only [putAll, Act.put, List.setIfInBounds_toArray, List.set_cons_zero, List.set_cons_succ]; done) | (simp only [putAll, Act.put, List.setIfInBounds_toArray, List.set_cons_zero, List.set_cons_succ]; rfl)) (hJ (g3, g4, g5) _ ⟨⟨hS0, b3, b4, b5⟩, ⟨nP3, nP4, nP5, nF3, nF4, nF5, n43.symm, n53.symm, n45, l3, l4, l5⟩⟩)
    · refine box_step ?hg11 (N := 8) ?hd11 (cs := #[.string ⟨#[]⟩, .int .i64 0, .slice none 0 0]) (t := 29) ?hr11 ?_; (case hd11 => rfl); (case hg11 => rfl); (case hr11 => first | (go_simp; done) | (go_simp; rfl))
      intro g5 hg wq b5 hbq
      have nP5 := blk_ne1 hg hS0.p
      have nF5 := blk_ne1 hg hS0.f
      have l5 : w.heap.size ≤ g5 := (by rw [hg]; exact below_size hS0.hb)
      replace hS0 := hS0.below hbq
      clear hg hbq
      refine hK.out _ _ hS0.f (fun hS => ?_)
      clear hK K
      refine nK (some 8) ?_
      refine two_ (i := 3) (j := 4) (Ni := some 6) (Nj := some 7) (bA 9 47) (bA 9 55) rfl rfl rfl rfl (by kernel_rfl) (by decide) (by decide) (fun K hK => ?_) (fun K hK => ?_)
      · refine box_step ?hg12 (N := 6) ?hd12 (cs := #[.string ⟨#[]⟩, .int .i64 0, .slice none 0 0]) (t := 29) ?hr12 ?_; (case hd12 => rfl); (case hg12 => rfl); (case hr12 => first | (go_simp; done) | (go_simp; rfl))
        intro g3 hg wq b3 hbq
        have nP3 := blk_ne1 hg hS0.p
        have nF3 := blk_ne1 hg hS0.f
        have l3 : w.heap.size ≤ g3 := (by rw [hg]; exact below_size hS0.hb)
        have n53 := blk_ne1 hg b5
        replace b5 := blk_below b5 hbq
        replace hS0 := hS0.below hbq
        clear hg hbq
        refine hK.out _ _ hS0.f (fun hS => ?_)
        clear hK K
        refine nK (some 6) ?_
        refine one_ (i := 4) (N := some 7) (bA 9 63) rfl rfl (by kernel_rfl) (by decide) (fun K hK => ?_)
        refine box_step ?hg13 (N := 7) ?hd13 (cs := #[.string ⟨#[]⟩, .int .i64 0, .slice none 0 0]) (t := 29) ?hr13 ?_; (case hd13 => rfl); (case hg13 => rfl); (case hr13 => first | (go_simp; done) | (go_simp; rfl))
        intro g4 hg wq b4 hbq
        have nP4 := blk_ne1 hg hS0.p
        have nF4 := blk_ne1 hg hS0.f
        have l4 : w.heap.size ≤ g4 := (by rw [hg]; exact below_size hS0.hb)
        have n54 := blk_ne1 hg b5
        replace b5 := blk_below b5 hbq
        have n34 := blk_ne1 hg b3
        replace b3 := blk_below b3 hbq
        replace hS0 := hS0.below hbq
        clear hg hbq
        refine hK.out _ _ hS0.f (fun hS => ?_)
        clear hK K
        refine nK (some 7) ?_
        exact norm_ (by first | (simp only [putAll, Act.put, List.setIfInBounds_toArray, List.set_cons_zero, List.set_cons_succ]; done) | (simp only [putAll, Act.put, List.setIfInBounds_toArray, List.set_cons_zero, List.set_cons_succ]; rfl)) (hJ (g3, g4, g5) _ ⟨⟨hS0, b3, b4, b5⟩, ⟨nP3, nP4, nP5, nF3, nF4, nF5, n34, n53.symm, n54.symm, l3, l4, l5⟩⟩)
      · refine box_step ?hg14 (N := 7) ?hd14 (cs := #[.string ⟨#[]⟩, .int .i64 0, .slice none 0 0]) (t := 29) ?hr14 ?_; (case hd14 => rfl); (case hg14 => rfl); (case hr14 => first | (go_simp; done) | (go_simp; rfl))
        intro g4 hg wq b4 hbq
        have nP4 := blk_ne1 hg hS0.p
        have nF4 := blk_ne1 hg hS0.f
        have l4 : w.heap.size ≤ g4 := (by rw [hg]; exact below_size hS0.hb)
        have n54 := blk_ne1 hg b5
        replace b5 := blk_below b5 hbq
        replace hS0 := hS0.below hbq
        clear hg hbq
        refine hK.out _ _ hS0.f (fun hS => ?_)
        clear hK K
        refine nK (some 7) ?_
        refine one_ (i := 3) (N := some 6) (bA 9 63) rfl rfl (by kernel_rfl) (by decide) (fun K hK => ?_)
        refine box_step ?hg15 (N := 6) ?hd15 (cs := #[.string ⟨#[]⟩, .int .i64 0, .slice none 0 0]) (t := 29) ?hr15 ?_; (case hd15 => rfl); (case hg15 => rfl); (case hr15 => first | (go_simp; done) | (go_simp; rfl))
        intro g3 hg wq b3 hbq
        have nP3 := blk_ne1 hg hS0.p
        have nF3 := blk_ne1 hg hS0.f
        have l3 : w.heap.size ≤ g3 := (by rw [hg]; exact below_size hS0.hb)
        have n53 := blk_ne1 hg b5
        replace b5 := blk_below b5 hbq
        have n43 := blk_ne1 hg b4
        replace b4 := blk_below b4 hbq
        replace hS0 := hS0.below hbq
        clear hg hbq
        refine hK.out _ _ hS0.f (fun hS => ?_)
        clear hK K
        refine nK (some 6) ?_
        exact norm_ (by first | (simp only [putAll, Act.put, List.setIfInBounds_toArray, List.set_cons_zero, List.set_cons_succ]; done) | (simp only [putAll, Act.put, List.setIfInBounds_toArray, List.set_cons_zero, List.set_cons_succ]; rfl)) (hJ (g3, g4, g5) _ ⟨⟨hS0, b3, b4, b5⟩, ⟨nP3, nP4, nP5, nF3, nF4, nF5, n43.symm, n53.symm, n54.symm, l3, l4, l5⟩⟩)
  · rintro ⟨g3, g4, g5⟩ w8 ⟨hG, hN⟩
    replace hG : GS g3 g4 g5 gP gF #[.string ⟨#[]⟩, .int .i64 0, .slice none 0 0] #[.string ⟨#[]⟩, .int .i64 0, .slice none 0 0] #[.string ⟨#[]⟩, .int .i64 0, .slice none 0 0] #[.int .i64 p0, .int .i64 p1, .int .i64 p2, .int .i64 p3, .int .i64 p4, .bool p5, .int .i64 p6, .int .i64 p7] #[.string key, .int .i64 kd, .slice Av vs.length cv] (.slice Av vs.length cv) vs w w8 := hG
    replace hN : NE g3 g4 g5 gP gF w.heap.size := hN
    clear hS hS0
    refine norm_ (by simp only [putAll, Act.put, List.setIfInBounds_toArray, List.set_cons_zero, List.set_cons_succ]; rfl) ?_
    refine one_ (i := 6) (N := none) (bA 9 127) rfl rfl (by kernel_rfl) (by decide) (fun K hK => ?_)
    obtain ⟨zc0, zc1, zc2, zf0, zf1, zf2⟩ := blk3 hG.b6
    refine skip_ (w1 := ?_) (by rfl) rfl ?_ ?_
    rotate_left
    · go_simp
      rfl
    replace hG : GS g3 g4 g5 gP gF #[.string key, .int .i64 kd, .slice Av vs.length cv] #[.string ⟨#[]⟩, .int .i64 0, .slice none 0 0] #[.string ⟨#[]⟩, .int .i64 0, .slice none 0 0] #[.int .i64 p0, .int .i64 p1, .int .i64 p2, .int .i64 p3, .int .i64 p4, .bool p5, .int .i64 p6, .int .i64 p7] #[.string key, .int .i64 kd, .slice Av vs.length cv] (.slice Av vs.length cv) vs w _ := ⟨hG.os.set3 hN.p6 hN.f6 hN.l6 hG.b6 (u0 := .string key) (u1 := .int .i64 kd) (u2 := .slice Av vs.length cv), blk_put3 hG.b6 _ _ _, blk_far3 hG.b7 hN.n67.symm, blk_far3 hG.b8 hN.n68.symm⟩
    clear zc0 zc1 zc2 zf0 zf1 zf2
    refine hK.out _ _ hG.os.f (fun _ => ?_)
    clear hK K
    generalize (((w8.setCell ⟨g3, 0, none⟩ (.string key)).setCell ⟨g3, 1, none⟩ (.int .i64 kd)).setCell ⟨g3, 2, none⟩ (.slice Av vs.length cv)) = w9 at hG ⊢
    refine one_ (i := 7) (N := none) (bA 9 255) rfl rfl (by kernel_rfl) (by decide) (fun K hK => ?_)
    obtain ⟨zc0, zc1, zc2, zf0, zf1, zf2⟩ := blk3 hG.b7
    refine skip_ (w1 := ?_) (by rfl) rfl ?_ ?_
    rotate_left
    · go_simp
      rfl
    replace hG : GS g3 g4 g5 gP gF #[.string key, .int .i64 kd, .slice Av vs.length cv] #[.string key, .int .i64 kd, .slice Av vs.length cv] #[.string ⟨#[]⟩, .int .i64 0, .slice none 0 0] #[.int .i64 p0, .int .i64 p1, .int .i64 p2, .int .i64 p3, .int .i64 p4, .bool p5, .int .i64 p6, .int .i64 p7] #[.string key, .int .i64 kd, .slice Av vs.length cv] (.slice Av vs.length cv) vs w _ := ⟨hG.os.set3 hN.p7 hN.f7 hN.l7 hG.b7 (u0 := .string key) (u1 := .int .i64 kd) (u2 := .slice Av vs.length cv), blk_far3 hG.b6 hN.n67, blk_put3 hG.b7 _ _ _, blk_far3 hG.b8 hN.n78.symm⟩
    clear zc0 zc1 zc2 zf0 zf1 zf2
    refine hK.out _ _ hG.os.f (fun _ => ?_)
    clear hK K
    generalize (((w9.setCell ⟨g4, 0, none⟩ (.string key)).setCell ⟨g4, 1, none⟩ (.int .i64 kd)).setCell ⟨g4, 2, none⟩ (.slice Av vs.length cv)) = w10 at hG ⊢
    refine one_ (i := 8) (N := none) (bA 9 511) rfl rfl (by kernel_rfl) (by decide) (fun K hK => ?_)
    obtain ⟨zc0, zc1, zc2, zf0, zf1, zf2⟩ := blk3 hG.b8
    refine skip_ (w1 := ?_) (by rfl) rfl ?_ ?_
    rotate_left
    · go_simp
      rfl
    replace hG : GS g3 g4 g5 gP gF #[.string key, .int .i64 kd, .slice Av vs.length cv] #[.string key, .int .i64 kd, .slice Av vs.length cv] #[.string key, .int .i64 kd, .slice Av vs.length cv] #[.int .i64 p0, .int .i64 p1, .int .i64 p2, .int .i64 p3, .int .i64 p4, .bool p5, .int .i64 p6, .int .i64 p7] #[.string key, .int .i64 kd, .slice Av vs.length cv] (.slice Av vs.length cv) vs w _ := ⟨hG.os.set3 hN.p8 hN.f8 hN.l8 hG.b8 (u0 := .string key) (u1 := .int .i64 kd) (u2 := .slice Av vs.length cv), blk_far3 hG.b6 hN.n68, blk_far3 hG.b7 hN.n78, blk_put3 hG.b8 _ _ _⟩
    clear zc0 zc1 zc2 zf0 zf1 zf2
    refine hK.out _ _ hG.os.f (fun _ => ?_)
    clear hK K
    generalize (((w10.setCell ⟨g5, 0, none⟩ (.string key)).setCell ⟨g5, 1, none⟩ (.int .i64 kd)).setCell ⟨g5, 2, none⟩ (.slice Av vs.length cv)) = w11 at hG ⊢
    refine done_ (by kernel_rfl) ?_
    have s1 := hG.os.set (j := 1) (u := .int .i64 2) hN.p6 hN.f6 hN.l6 hG.b6
    have b61 := blk_put hG.b6 1 (.int .i64 2) rfl
    have b71 := blk_far (p := ⟨g3, 1, none⟩) hG.b7 hN.n67.symm (.int .i64 2)
    have b81 := blk_far (p := ⟨g3, 1, none⟩) hG.b8 hN.n68.symm (.int .i64 2)
    have s2 := s1.set (j := 1) (u := .int .i64 3) hN.p7 hN.f7 hN.l7 b71
    have b62 := blk_far (p := ⟨g4, 1, none⟩) b61 hN.n67 (.int .i64 3)
    have b72 := blk_put b71 1 (.int .i64 3) rfl
    have b82 := blk_far (p := ⟨g4, 1, none⟩) b81 hN.n78.symm (.int .i64 3)
    have s3 := s2.set (j := 2) (u := .slice none 0 0) hN.p7 hN.f7 hN.l7 b72
    have b63 := blk_far (p := ⟨g4, 2, none⟩) b62 hN.n67 (.slice none 0 0)
    have b73 := blk_put b72 2 (.slice none 0 0) rfl
    have b83 := blk_far (p := ⟨g4, 2, none⟩) b82 hN.n78.symm (.slice none 0 0)
    have s4 := s3.set (j := 1) (u := .int .i64 4) hN.p8 hN.f8 hN.l8 b83
    have b64 := blk_far (p := ⟨g5, 1, none⟩) b63 hN.n68 (.int .i64 4)
    have b74 := blk_far (p := ⟨g5, 1, none⟩) b73 hN.n78 (.int .i64 4)
    have b84 := blk_put b83 1 (.int .i64 4) rfl
    have s5 := s4.set (j := 2) (u := .slice none 0 0) hN.p8 hN.f8 hN.l8 b84
    have b65 := blk_far (p := ⟨g5, 2, none⟩) b64 hN.n68 (.slice none 0 0)
    have b75 := blk_far (p := ⟨g5, 2, none⟩) b74 hN.n78 (.slice none 0 0)
    have b85 := blk_put b84 2 (.slice none 0 0) rfl
    have hG5 : Aside0 (GS g3 g4 g5 gP gF #[.string key, .int .i64 2, .slice Av vs.length cv] #[.string key, .int .i64 3, .slice none 0 0] #[.string key, .int .i64 4, .slice none 0 0] #[.int .i64 p0, .int .i64 p1, .int .i64 p2, .int .i64 p3, .int .i64 p4, .bool p5, .int .i64 p6, .int .i64 p7] #[.string key, .int .i64 kd, .slice Av vs.length cv] (.slice Av vs.length cv) vs w (((((w11.setCell ⟨g3, 1, none⟩ (.int .i64 2)).setCell ⟨g4, 1, none⟩ (.int .i64 3)).setCell ⟨g4, 2, none⟩ (.slice none 0 0)).setCell ⟨g5, 1, none⟩ (.int .i64 4)).setCell ⟨g5, 2, none⟩ (.slice none 0 0))) := ⟨⟨s5, b65, b75, b85⟩⟩
    clear s1 s2 s3 s4 s5 b61 b62 b63 b64 b65 b71 b72 b73 b74 b75 b81 b82 b83 b84 b85
    obtain ⟨r0, r1, r2, r3, r4, r5⟩ := blk3 hG.b6
    obtain ⟨i0, i1, i2, i3, i4, i5⟩ := blk3 hG.b7
    obtain ⟨j0, j1, j2, j3, j4, j5⟩ := blk3 hG.b8
    obtain ⟨u0, u1, u2, u3, u4, u5, u6, u7⟩ := blk8 hG.os.p
    obtain ⟨m1, m2, m3, m4, m5, m6, m7, m8, m9, -, -, -⟩ := hN
    have m1' := m1.symm
    have m2' := m2.symm
    have m3' := m3.symm
    have m7' := m7.symm
    have m8' := m8.symm
    have m9' := m9.symm
    have hfd : ∀ (s : ByteArray) (A : Option Addr) (n c : Nat) (x y : Int) (w : World), (Instr.field 33 (.agg #[.string s, .slice A n c, .int .i64 x, .int .i64 y]) 1).run Try.prog w = .ok (.slice A n c) w := fun _ _ _ _ _ _ _ => by kernel_rfl
    go_wp2_with (go_at_call 8; (with_reducible refine (marigraphkeep_Of.calls k p0 p1 p2 p3 p4 p5 p6 p7 met tags pt pv _ hof.out).mono ?_); rintro e w12 ⟨vt, rfl, hT, hb12⟩; obtain ⟨At, ct, rfl⟩ := Kd.R_slice hT; have hG6 := hG5.out.below hb12; clear hG hb12 r0 r1 r2 r3 r4 r5 i0 i1 i2 i3 i4 i5 j0 j1 j2 j3 j4 j5 u0 u1 u2 u3 u4 u5 u6 u7)
    have hT1 := (Kd.R_reads' hT).2.2
    have hT2 := (Kd.R_reads' hT).2.1
    clear hT hG5 m1 m2 m3 m4 m5 m6 m7 m8 m9 m1' m2' m3' m7' m8' m9'
    have cG : ∀ (w' : World) (g : Nat) (n : Int) (u : Value), w'.heap[g]? = some (.cells #[.string key, .int .i64 n, u] 29 (0, 0)) → w'.cell? ⟨g, 0, none⟩ = some (.string key) ∧ w'.cell? ⟨g, 1, none⟩ = some (.int .i64 n) ∧ w'.cell? ⟨g, 2, none⟩ = some u := fun w' g n u h => ⟨(blk_cell h 0).trans rfl, (blk_cell h 1).trans rfl, (blk_cell h 2).trans rfl⟩
    refine start_ (n := 16) (S := fun w' => GS g3 g4 g5 gP gF #[.string key, .int .i64 2, .slice Av vs.length cv] #[.string key, .int .i64 3, .slice none 0 0] #[.string key, .int .i64 4, .slice none 0 0] #[.int .i64 p0, .int .i64 p1, .int .i64 p2, .int .i64 p3, .int .i64 p4, .bool p5, .int .i64 p6, .int .i64 p7] #[.string key, .int .i64 kd, .slice Av vs.length cv] (.slice Av vs.length cv) vs w w' ∧ Kd.C k44 w' At tags.length tags) (ds := []) (bA 16 0) (by kernel_rfl) rfl rfl ⟨hG6.drew, Kd.C_drew hT1⟩ (fun hS => ?_)
    clear hG6 hT1
    generalize w12.drew = w13 at hS ⊢
    refine norm_ (by rfl) ?_
    refine tK 0 (some 28) (bA 16 1) rfl rfl hS (by rintro w' hS'; obtain ⟨q0, q1, q2⟩ := cG w' _ _ _ hS'.1.os.f; go_simp; with_reducible rfl) ?_
    refine pK 1 (some 29) (bA 16 3) ?_
    refine tK 3 (some 31) (bA 16 11) rfl rfl hS (by rintro w' hS'; obtain ⟨q0, q1, q2⟩ := cG w' _ _ _ hS'.1.b6; go_simp; with_reducible rfl) ?_
    refine pK 4 (some 32) (bA 16 27) ?_
    refine tK 6 (some 34) (bA 16 91) rfl rfl hS (by rintro w' hS'; obtain ⟨q0, q1, q2⟩ := cG w' _ _ _ hS'.1.b7; go_simp; with_reducible rfl) ?_
    refine pK 7 (some 35) (bA 16 219) ?_
    refine tK 9 (some 37) (bA 16 731) rfl rfl hS (by rintro w' hS'; obtain ⟨q0, q1, q2⟩ := cG w' _ _ _ hS'.1.b8; go_simp; with_reducible rfl) ?_
    refine pK 10 (some 38) (bA 16 1755) ?_
    refine one_ (i := 2) (N := some 30) (bA 16 1759) rfl rfl (by kernel_rfl) (by decide) (fun K hK => ?_)
    refine goes_ Try.func9 (by kernel_rfl) rfl #[.agg #[.string key, .int .i64 kd, .slice Av vs.length cv], .slice At tags.length ct] (by rfl) rfl rfl (by simp only [List.map_toArray, List.map_cons, List.map_nil]; rfl) ?_
    refine (filter_Match.calls k key kd Av cv vs At ct tags a _ (Kd.R_reads' hS.1.os.r).2.2 (Kd.R_reads' hS.1.os.r).2.1 hS.2 hT2 ha.out).mono ?_
    rintro e w16 ⟨rfl, hb9⟩
    refine ⟨_, rfl, ?_⟩
    refine hK.out _ _ ⟨hS.1.below hb9, Kd.C_below hS.2 hb9⟩ (fun hS => ?_)
    clear hK K hb9
    refine nK (some 30) ?_
    refine one_ (i := 5) (N := some 33) (bA 16 1791) rfl rfl (by kernel_rfl) (by decide) (fun K hK => ?_)
    refine goes_ Try.func9 (by kernel_rfl) rfl #[.agg #[.string key, .int .i64 2, .slice Av vs.length cv], .slice At tags.length ct] (by rfl) rfl rfl (by simp only [List.map_toArray, List.map_cons, List.map_nil]; rfl) ?_
    refine (filter_Match.calls k key 2 Av cv vs At ct tags b _ (Kd.R_reads' hS.1.os.r).2.2 (Kd.R_reads' hS.1.os.r).2.1 hS.2 hT2 hb.out).mono ?_
    rintro e w19 ⟨rfl, hb9⟩
    refine ⟨_, rfl, ?_⟩
    refine hK.out _ _ ⟨hS.1.below hb9, Kd.C_below hS.2 hb9⟩ (fun hS => ?_)
    clear hK K hb9
    refine nK (some 33) ?_
    refine one_ (i := 8) (N := some 36) (bA 16 2047) rfl rfl (by kernel_rfl) (by decide) (fun K hK => ?_)
    refine goes_ Try.func9 (by kernel_rfl) rfl #[.agg #[.string key, .int .i64 3, .slice none 0 0], .slice At tags.length ct] (by rfl) rfl rfl (by simp only [List.map_toArray, List.map_cons, List.map_nil]; rfl) ?_
    refine (filter_Match.calls k key 3 none 0 [] At ct tags c _ (Kd.C_nil Kd.string _) (Nat.le_refl _) hS.2 hT2 hc.out).mono ?_
    rintro e w22 ⟨rfl, hb9⟩
    refine ⟨_, rfl, ?_⟩
    refine hK.out _ _ ⟨hS.1.below hb9, Kd.C_below hS.2 hb9⟩ (fun hS => ?_)
    clear hK K hb9
    refine nK (some 36) ?_
    refine one_ (i := 11) (N := some 39) (bA 16 4095) rfl rfl (by kernel_rfl) (by decide) (fun K hK => ?_)
    refine goes_ Try.func9 (by kernel_rfl) rfl #[.agg #[.string key, .int .i64 4, .slice none 0 0], .slice At tags.length ct] (by rfl) rfl rfl (by simp only [List.map_toArray, List.map_cons, List.map_nil]; rfl) ?_
    refine (filter_Match.calls k key 4 none 0 [] At ct tags d _ (Kd.C_nil Kd.string _) (Nat.le_refl _) hS.2 hT2 hd.out).mono ?_
    rintro e w25 ⟨rfl, hb9⟩
    refine ⟨_, rfl, ?_⟩
    refine hK.out _ _ ⟨hS.1.below hb9, Kd.C_below hS.2 hb9⟩ (fun hS => ?_)
    clear hK K hb9
    refine nK (some 39) ?_
    refine pK 12 (some 10) (bA 16 8191) ?_
    refine pK 13 (some 11) (bA 16 16383) ?_
    refine pK 14 (some 12) (bA 16 32767) ?_
    refine pK 15 (some 13) (bA 16 65535) ?_
    refine done_ (by kernel_rfl) ?_
    have HBZ := hS.1.os.hb
    clear hS cG cF
    replace hab := hab.out
    replace hcab := hcab.out
    replace hdc := hdc.out
    subst hdc
    subst hcab
    clear ha hb hc hd hof hmade
    cases a <;> cases b
    · go_wp2_with (go_at_call 10; (with_reducible refine (marigraphlaw19_known.calls k true _ hk.out).mono ?_); rintro e w20 ⟨rfl, hb⟩)
      go_ret
      exact ⟨rfl, below_step HBZ hb⟩
    · go_wp2_with (go_at_call 10; (with_reducible refine (marigraphlaw19_known.calls k true _ hk.out).mono ?_); rintro e w20 ⟨rfl, hb⟩)
      go_ret
      exact ⟨rfl, below_step HBZ hb⟩
    · go_wp2_with (go_at_call 10; (with_reducible refine (marigraphlaw19_known.calls k true _ hk.out).mono ?_); rintro e w20 ⟨rfl, hb⟩)
      go_ret
      exact ⟨rfl, below_step HBZ hb⟩
    · cases hab
end Go.Proofs.Yteghihdcagbmbaa.PFilterOpposite

/- The walk of the Go functions that a law reaches, told as plain functions; a program of this session has written it. No condition beyond the statement's own. -/
import Derived.Test.YteghihdcagbmbaaPFilterAllsx0
import Derived.Test.YteghihdcagbmbaaPFilterAllsx1
import Derived.Test.YteghihdcagbmbaaPFilterAllsx2
import Derived.Test.YteghihdcagbmbaaPFilterAllsx4
namespace Go.Proofs.Yteghihdcagbmbaa.PFilterAlls
open Go.RowKit Go.Proofs.YteghihdcagbmbaaW.PrintWords Go.Proofs.YteghihdcagbmbaaW.PrintLast Go.Proofs.YteghihdcagbmbaaW.PrintMore
attribute [local go_sem] max2_int min2_int max_two min_two max_three min_three max_four min_four   -- for this text's walks alone
set_option linter.unusedVariables false
set_option linter.unusedSimpArgs false

/-! ### marigraphlaw19.FilterAlls: function 4, by hand -/
set_option maxHeartbeats 8000000
set_option maxRecDepth 100000
theorem blk8 {w : World} {g : Nat} {t : TypeId} {a b c d e f x y : Value} (h : w.heap[g]? = some (.cells #[a, b, c, d, e, f, x, y] t (0, 0))) : w.cell? ⟨g, 0, none⟩ = some a ∧ w.cell? ⟨g, 1, none⟩ = some b ∧ w.cell? ⟨g, 2, none⟩ = some c ∧ w.cell? ⟨g, 3, none⟩ = some d ∧ w.cell? ⟨g, 4, none⟩ = some e ∧ w.cell? ⟨g, 5, none⟩ = some f ∧ w.cell? ⟨g, 6, none⟩ = some x ∧ w.cell? ⟨g, 7, none⟩ = some y :=
  ⟨(blk_cell h 0).trans rfl, (blk_cell h 1).trans rfl, (blk_cell h 2).trans rfl, (blk_cell h 3).trans rfl, (blk_cell h 4).trans rfl, (blk_cell h 5).trans rfl, (blk_cell h 6).trans rfl, (blk_cell h 7).trans rfl⟩
def twice : List S29 → List S29 := List.foldl (fun g y => y :: y :: g) []
theorem twice_snoc (l : List S29) (y : S29) : twice (l ++ [y]) = [y, y] ++ twice l := by unfold twice; rw [List.foldl_append]; rfl
theorem twice_len (l : List S29) : (twice l).length = 2 * l.length := by
  have h : ∀ (l : List S29) (g : List S29), (List.foldl (fun g y => y :: y :: g) g l).length = g.length + 2 * l.length := by
    intro l
    induction l with
    | nil => intro g; simp
    | cons x l ih => intro g; rw [List.foldl_cons, ih]; simp; omega
  have := h l []
  simpa [twice] using this
/-- The two rows, apart from one another; the tags. -/
structure AS (vf vg : Value) (lf lg : List S29) (At : Option Addr) (ct : Nat) (tags : List S44) (w0 w : World) : Prop where
  nf : Kd.N k29 29 w w0.heap.size (fun k => True ∧ some k ≠ vg.ownBlock) vf lf
  ng : Kd.N k29 29 w w0.heap.size (fun k => True ∧ some k ≠ vf.ownBlock) vg lg
  t : Kd.R k44 44 w w0.heap.size (fun _ => True) (.slice At tags.length ct) tags
  hb : Below w0.heap.size w0 w
theorem AS.below {vf vg : Value} {lf lg : List S29} {At : Option Addr} {ct : Nat} {tags : List S44} {w0 w w' : World} (h : AS vf vg lf lg At ct tags w0 w) (hb : Below w.heap.size w w') : AS vf vg lf lg At ct tags w0 w' := ⟨Kd.N_below h.nf hb, Kd.N_below h.ng hb, Kd.R_below h.t hb, below_step h.hb hb⟩
/-- A filter, its values in a row of its own. -/
theorem fk29 {W : World} {y : S29} {A : Option Addr} {c : Nat} {base : Nat} {ok : Nat → Prop} (h : Kd.string.R 9 W base ok (.slice A y.f2.length c) y.f2) : Kd.FK k29 W (fun k => some k = (Value.slice A y.f2.length c).ownBlock) y [.string y.f0, .int .i64 y.f1, .slice A y.f2.length c] :=
  fun W' hW => k29_mk W' y (Kd.R_reads' h).2.1 (Kd.F_now (Kd.F_step (Kd.F_mono (Kd.R_F (Kd.R_tight rfl h)) (fun _ hk => hk)) (fun k hk hlt => hW k hk hlt)))
theorem fkne {W : World} {vs : List ByteArray} {v u : Value} {base base' : Nat} {ok ok' : Nat → Prop} {l : List S29} (h : Kd.string.R 9 W base ok v vs) (hn : Kd.N k29 29 W base' ok' u l) : ∀ k, some k = v.ownBlock → some k ≠ u.ownBlock := by
  intro k hk he
  obtain ⟨c1, h1⟩ := Kd.R_typed h k hk.symm
  obtain ⟨c2, h2⟩ := Kd.N_typed hn k he.symm
  rw [h1] at h2
  injection h2 with h2
  injection h2 with _ h3
  cases h3
theorem ownlt {W : World} {u : Value} {base : Nat} {ok : Nat → Prop} {l : List S29} (hn : Kd.N k29 29 W base ok u l) : ∀ k, W.heap.size ≤ k → True ∧ some k ≠ u.ownBlock := fun k hk => ⟨trivial, fun he => by have := Kd.N_lt hn k he.symm; omega⟩
theorem filterAlls_at (k : Nat) (AF : Option Addr) (cF : Nat) (lF : List S24) (p0 p1 p2 p3 p4 : Int) (p5 : Bool) (p6 p7 : Int) (met : ByteArray) (tags : List S44) (pt pv : Int) (mB : S29 → Bool) (w : World)
    (hrF : Kd.C k24 w AF lF.length lF) (hcF : lF.length ≤ cF) (hof : marigraphkeep_Of.f k p0 p1 p2 p3 p4 p5 p6 p7 = some (met, tags, pt, pv))
    (hm : ∀ x ∈ lF, filter_Match.f k (madeF x).f0 (madeF x).f1 (madeF x).f2 tags = some (mB (madeF x))) (hAf : filter_All.f k ((lF.take 5).map madeF) tags = some (((lF.take 5).map madeF).all mB)) (hAg : filter_All.f k (twice ((lF.take 5).map madeF)) tags = some (((lF.take 5).map madeF).all mB))
    (hk : marigraphlaw19_known.f k = some true) :
    Calls Try.prog 4 #[.slice AF lF.length cF, .agg #[.int .i64 p0, .int .i64 p1, .int .i64 p2, .int .i64 p3, .int .i64 p4, .bool p5, .int .i64 p6, .int .i64 p7]] w fun e w' => e = .returned (.bool true) ∧ Below w.heap.size w w' := by
  have hu24 := Try.underlying24
  have hu26 := Try.underlying26
  have hu29 := Try.underlying29
  replace hof := Aside0.mk hof
  replace hm := Aside0.mk hm
  replace hAf := Aside0.mk hAf
  replace hAg := Aside0.mk hAg
  replace hk := Aside0.mk hk
  have hfd : ∀ (s : ByteArray) (A : Option Addr) (n c : Nat) (x y : Int) (w : World), (Instr.field 33 (.agg #[.string s, .slice A n c, .int .i64 x, .int .i64 y]) 1).run Try.prog w = .ok (.slice A n c) w := fun _ _ _ _ _ _ _ => by kernel_rfl
  go_enter Try.func4, Try.ntmps4
  go_wp2_with (first
    | ((with_reducible refine gate_dst (N := 3) rfl ?_); refine box_event ?hgP (N := 3) ?hdP (cs := #[.int .i64 p0, .int .i64 p1, .int .i64 p2, .int .i64 p3, .int .i64 p4, .bool p5, .int .i64 p6, .int .i64 p7]) (t := 26) ?hrP ?_; (case hdP => rfl); (case hgP => rfl); (case hrP => first | (go_simp; done) | (go_simp; rfl)); intro gP hg w1 y1 hb1; obtain ⟨u0, u1, u2, u3, u4, u5, u6, u7⟩ := blk8 y1; clear hg y1)
    | (go_at_call 8; (with_reducible refine (marigraphkeep_Of.calls k p0 p1 p2 p3 p4 p5 p6 p7 met tags pt pv _ hof.out).mono ?_); rintro e w2 ⟨vt, rfl, hT, hb2⟩; obtain ⟨At, ct, rfl⟩ := Kd.R_slice hT; have HB := below_step hb1 hb2; have HBo := hb1; clear hb1 hb2 u0 u1 u2 u3 u4 u5 u6 u7))
  have hct := (Kd.R_reads' hT).2.1
  have hA0 : AS (.slice none 0 0) (.slice none 0 0) [] [] At ct tags w w2 := ⟨Kd.N_nil _ _ _ _ _, Kd.N_nil _ _ _ _ _, Kd.R_lower hT (below_size HBo), HB⟩
  clear hT HB HBo hfd
  go_loopg [6, 7, 8, 9] 6 (fun kq v6 v7 v8 v9 w' => ∃ j : Nat, v9 = .int .i64 (j : Int) ∧ Aside0 (5 - j < kq ∧ j ≤ 5 ∧ j ≤ lF.length) ∧ v8 = .bool (((lF.take j).map madeF).all mB) ∧ Aside0 (AS v6 v7 ((lF.take j).map madeF) (twice ((lF.take j).map madeF)) At ct tags w w'))
  case atStart => exact ⟨0, rfl, ⟨by omega⟩, rfl, ⟨hA0⟩⟩
  case round =>
    clear hA0
    obtain ⟨j, rfl, hj, rfl, hA⟩ := hrel
    replace hj := hj.out
    replace hA := hA.out
    obtain ⟨ys, hys⟩ : ∃ l, l = (lF.take j).map madeF := ⟨_, rfl⟩
    have hyl : ys.length = j := by rw [hys, List.length_map, List.length_take]; omega
    rw [← hys] at hA ⊢
    obtain ⟨b, hbq⟩ : ∃ b, b = ys.all mB := ⟨_, rfl⟩
    rw [← hbq]
    obtain ⟨gs, hgs⟩ : ∃ l, l = twice ys := ⟨_, rfl⟩
    rw [← hgs] at hA
    have hgl : gs.length = 2 * j := by rw [hgs, twice_len, hyl]
    obtain ⟨Af, cf, rfl⟩ := Kd.N_slice hA.nf
    obtain ⟨Ag, cg, rfl⟩ := Kd.N_slice hA.ng
    have hbb : (b == b) = true := by simp
    replace hys := Aside0.mk hys
    replace hgs := Aside0.mk hgs
    replace hbq := Aside0.mk hbq
    replace hyl := Aside0.mk hyl
    replace hgl := Aside0.mk hgl
    rcases (by omega : (¬ j < lF.length) ∨ (j < lF.length ∧ ¬ j < 5) ∨ (j < lF.length ∧ j < 5)) with hn | ⟨hn, h5⟩ | ⟨hn, h5⟩
    · have hd1 : decide ((j : Int) < (lF.length : Int)) = false := decide_eq_false (by omega)
      have hd3 : decide (j < lF.length) = false := decide_eq_false hn
      have htk : ys = (lF.take 5).map madeF := by rw [hys.out, List.take_of_length_le (by omega), List.take_of_length_le (by omega)]
      replace htk := Aside0.mk htk
      go_wp2_with (first
        | (go_at_call 11; (with_reducible refine (filter_All.calls k Af cf ys At ct tags b _ (Kd.N_reads' hA.nf).2.2 (Kd.N_reads' hA.nf).2.1 (Kd.R_reads' hA.t).2.2 hct (by rw [hbq.out, htk.out]; exact hAf.out)).mono ?_); rintro e w3 ⟨rfl, hb3⟩; replace hA := hA.below hb3; clear hb3)
        | (go_at_call 11; (with_reducible refine (filter_All.calls k Ag cg gs At ct tags b _ (Kd.N_reads' hA.ng).2.2 (Kd.N_reads' hA.ng).2.1 (Kd.R_reads' hA.t).2.2 hct (by rw [hbq.out, hgs.out, htk.out]; exact hAg.out)).mono ?_); rintro e w4 ⟨rfl, hb4⟩; replace hA := hA.below hb4; clear hb4)
        | (go_at_call 10; (with_reducible refine (marigraphlaw19_known.calls k true _ hk.out).mono ?_); rintro e w5 ⟨rfl, hb5⟩; have HB5 := below_step hA.hb hb5; clear hb5))
      go_ret
      exact ⟨rfl, HB5⟩
    · have hd1 : decide ((j : Int) < (lF.length : Int)) = true := decide_eq_true (by omega)
      have hd3 : decide (j < lF.length) = true := decide_eq_true hn
      have hd5 : decide ((j : Int) < 5) = false := decide_eq_false (by omega)
      have hd6 : decide (j < 5) = false := decide_eq_false h5
      have htk : ys = (lF.take 5).map madeF := by rw [hys.out, show j = 5 by omega]
      replace htk := Aside0.mk htk
      go_wp2_with (first
        | (go_at_call 11; (with_reducible refine (filter_All.calls k Af cf ys At ct tags b _ (Kd.N_reads' hA.nf).2.2 (Kd.N_reads' hA.nf).2.1 (Kd.R_reads' hA.t).2.2 hct (by rw [hbq.out, htk.out]; exact hAf.out)).mono ?_); rintro e w3 ⟨rfl, hb3⟩; replace hA := hA.below hb3; clear hb3)
        | (go_at_call 11; (with_reducible refine (filter_All.calls k Ag cg gs At ct tags b _ (Kd.N_reads' hA.ng).2.2 (Kd.N_reads' hA.ng).2.1 (Kd.R_reads' hA.t).2.2 hct (by rw [hbq.out, hgs.out, htk.out]; exact hAg.out)).mono ?_); rintro e w4 ⟨rfl, hb4⟩; replace hA := hA.below hb4; clear hb4)
        | (go_at_call 10; (with_reducible refine (marigraphlaw19_known.calls k true _ hk.out).mono ?_); rintro e w5 ⟨rfl, hb5⟩; have HB5 := below_step hA.hb hb5; clear hb5))
      go_ret
      exact ⟨rfl, HB5⟩
    · have hd1 : decide ((j : Int) < (lF.length : Int)) = true := decide_eq_true (by omega)
      have hd3 : decide (j < lF.length) = true := decide_eq_true hn
      have hd5 : decide ((j : Int) < 5) = true := decide_eq_true (by omega)
      have hd6 : decide (j < 5) = true := decide_eq_true h5
      obtain ⟨ad, A2, c2, rfl, hx0, hx1, hx2, hc2, hC2⟩ := at_T24 (Kd.C_below hrF hA.hb) (j : Int) (Int.natCast_nonneg j) (by omega)
      have hrd : rd_T24 lF (j : Int) = lF[j] := by
        unfold rd_T24
        rw [Int.toNat_natCast, List.getD_eq_getElem?_getD, List.getElem?_eq_getElem hn]
        rfl
      rw [hrd] at hx0 hx1 hx2 hc2 hC2
      rw [Int.toNat_natCast] at hx0 hx1 hx2
      have hmx := hm.out _ (List.getElem_mem hn)
      have hys1 : (lF.take (j + 1)).map madeF = ys ++ [madeF lF[j]] := by rw [List.take_succ_eq_append_getElem hn, List.map_append, ← hys.out]; rfl
      clear hrd
      have hmd : marigraphlaw19_made.f lF[j].f0 lF[j].f1 lF[j].f2 = some ((madeF lF[j]).f0, (madeF lF[j]).f1, (madeF lF[j]).f2) := rfl
      generalize lF[j] = x at hx0 hx1 hx2 hc2 hC2 hmx hys1 hmd
      generalize madeF x = y at hmx hys1 hmd
      replace hys1 := Aside0.mk hys1
      replace hmx := Aside0.mk hmx
      replace hmd := Aside0.mk hmd
      have hwn : ∀ m : Bool, Aside0 ((ys ++ [y]).all mB = (b && mB y)) := fun m => ⟨by rw [List.all_append, ← hbq.out]; simp⟩
      replace hwn := hwn true
      have hnx : Aside0 (wrap64 ((j : Int) + 1) = ((j + 1 : Nat) : Int)) := ⟨by unfold wrap64; omega⟩
      have h33 : (((j : Int) + 1) : Int) = ((j + 1 : Nat) : Int) := by omega
      replace h33 := Aside0.mk h33
      obtain ⟨ys1, hys1v⟩ : ∃ l, l = ys ++ [y] := ⟨_, rfl⟩
      obtain ⟨gs1, hgs1⟩ : ∃ l, l = [y, y] ++ gs := ⟨_, rfl⟩
      have hys1w := Aside0.mk hys1v
      have hgs1v := Aside0.mk hgs1
      clear hys1v hgs1
      cases b
      all_goals
        go_upto_region 8 with (first
          | (go_at_call 7; (with_reducible refine (marigraphlaw19_made.calls x.f0 x.f1 A2 c2 x.f2 y.f0 y.f1 y.f2 _ hC2 hc2 hmd.out).mono ?_); rintro e w3 ⟨v, rfl, hR, hb3⟩; obtain ⟨Av, cv, rfl⟩ := Kd.R_slice hR; replace hA := hA.below hb3; clear hb3 hx0 hx1 hx2)
          | ((with_reducible refine gate_dst (N := 10) rfl ?_); refine box_event ?hgXK (N := 10) ?hdXK (cs := #[.string ⟨#[]⟩, .int .i64 0, .slice none 0 0]) (t := 29) ?hrXK ?_; (case hdXK => rfl); (case hgXK => rfl); (case hrXK => first | (go_simp; done) | (go_simp; rfl)); intro gX hg w4 hbox hb4; have hle := Nat.le_of_eq hg.symm; have nXf : some gX ≠ (Value.slice Af ys.length cf).ownBlock := (fun he => by have := Kd.N_lt hA.nf _ he.symm; omega); have nXg : some gX ≠ (Value.slice Ag gs.length cg).ownBlock := (fun he => by have := Kd.N_lt hA.ng _ he.symm; omega); have hbX := below_set (j := 2) (v := .slice Av y.f2.length cv) (below_set (j := 1) (v := .int .i64 y.f1) (below_set (j := 0) (v := .string y.f0) hb4 hle) hle) hle; replace hA := hA.below hbX; replace hR := Kd.R_below hR hbX; have hX := blk_put3 hbox (.string y.f0) (.int .i64 y.f1) (.slice Av y.f2.length cv); clear hg hb4 hle hbX; obtain ⟨zc0, zc1, zc2, zf0, zf1, zf2⟩ := blk3 hbox; clear hbox))
        generalize (((w4.setCell ⟨gX, 0, none⟩ (.string y.f0)).setCell ⟨gX, 1, none⟩ (.int .i64 y.f1)).setCell ⟨gX, 2, none⟩ (.slice Av y.f2.length cv)) = w5 at hA hR hX ⊢
        clear zc0 zc1 zc2 zf0 zf1 zf2
        obtain ⟨zc0, zc1, zc2, -, -, -⟩ := blk3 hX
        go_wp2_with (first
          | ((with_reducible refine gate_builtin (b := .append) (xs := #[.tmp 29, .tmp 31]) rfl ?_); at_builtin; refine Kd.N_append k29 (w0 := w) w.heap.size rfl (.tmp 29) (.tmp 31) 39 29 (.agg #[(.string ⟨#[]⟩), (.int .i64 0), (.slice none 0 0)]) 48 rfl Try.underlying39 info29 rfl (by decide) (by omega) (.slice Af ys.length cf) ys y [.string y.f0, .int .i64 y.f1, .slice Av y.f2.length cv] (fun k => True ∧ some k ≠ (Value.slice Ag gs.length cg).ownBlock) (fun k => some k = (Value.slice Av y.f2.length cv).ownBlock) rfl rfl (fk29 hR) (fun k hk => ⟨⟨trivial, fkne hR hA.ng k hk⟩, fkne hR hA.nf k hk⟩) (ownlt hA.ng) hA.nf hA.hb (below_size hA.hb) (by rw [hyl.out]; omega) ?_; intro v1 w6 hn6 hb6 hg6 hat6; rw [← hys1w.out] at hn6; obtain ⟨A1, c1, rfl⟩ := Kd.N_slice hn6; have hA6 : AS (.slice A1 ys1.length c1) (.slice Ag gs.length cg) ys1 gs At ct tags w w6 := ⟨hn6, Kd.N_mono (Kd.N_after hA.ng hg6 hat6) (fun _ h => h), Kd.R_over' hA.t (Kd.N_typed hA.nf) (by decide) hg6, hb6⟩; replace hR := Kd.R_over' hR (Kd.N_typed hA.nf) (by decide) hg6; replace hX := blk_grown hX hg6 nXf; clear hA hn6 hb6 hg6 hat6 nXf nXg zc0 zc1 zc2; obtain ⟨zc0, zc1, zc2, -, -, -⟩ := blk3 hX)
          | ((with_reducible refine gate_dst (N := 35) rfl ?_); refine Kd.N_lit k29 (w0 := w6) w6.heap.size 29 ?hgLK (N' := 35) ?hdLK (xs := [y, y]) (inner := [.string y.f0, .int .i64 y.f1, .slice Av y.f2.length cv, .string y.f0, .int .i64 y.f1, .slice Av y.f2.length cv]) (ok := fun k => True ∧ some k ≠ (Value.slice A1 ys1.length c1).ownBlock) (okp := fun k => some k = (Value.slice Av y.f2.length cv).ownBlock) ?hrLK ?hpLK (fun k hk => ⟨trivial, fkne hR hA6.nf k hk⟩) (ownlt hA6.nf _ (Nat.le_refl _)) (Below.refl _ _) (Nat.le_refl _) (by simp) ?_; (case hdLK => rfl); (case hgLK => rfl); (case hrLK => first | (go_simp; done) | (go_simp; rfl)); (case hpLK => exact Reps.c3 (fk29 hR) (Reps.c3 (fk29 hR) (Reps.none _ _))); intro vL w8 hnL hbL hgL hatL; obtain ⟨AL, cL, rfl⟩ := Kd.N_slice hnL; have hlt6 := blk_lt hX; have nXL : some gX ≠ (Value.slice AL [y, y].length cL).ownBlock := (fun he => by have := Kd.N_base hnL _ he.symm; omega); have hA8 := hA6.below hbL; have nf8 := Kd.N_elder' hA6.nf (Kd.N_base hnL) hbL; have ng8 := Kd.N_elder' hA6.ng (Kd.N_base hnL) hbL; replace hR := Kd.R_below hR hbL; replace hX := blk_below hX hbL; replace hnL := Kd.N_lower hnL (below_size hA6.hb); clear hA6 hbL hgL hatL hlt6)
          | ((with_reducible refine gate_builtin (b := .append) (xs := #[.tmp 35, .tmp 36]) rfl ?_); at_builtin; refine Kd.N_append_rows k29 (w0 := w) w.heap.size rfl (.tmp 35) (.tmp 36) 39 29 (.agg #[(.string ⟨#[]⟩), (.int .i64 0), (.slice none 0 0)]) 48 rfl Try.underlying39 info29 rfl (by decide) (by omega) (.slice AL [y, y].length cL) [y, y] gs Ag gs.length cg (fun k => True ∧ some k ≠ (Value.slice A1 ys1.length c1).ownBlock) (fun k => (True ∧ some k ≠ (Value.slice A1 ys1.length c1).ownBlock) ∧ some k ≠ (Value.slice AL [y, y].length cL).ownBlock) rfl rfl hnL (Kd.N_F ng8) (fun _ h => h) (ownlt hA8.nf) hA8.hb (below_size hA8.hb) (by rw [hgl.out]; simp only [List.length_cons, List.length_nil]; omega) ?_; intro v9 w9 hn9 hb9 hg9 hat9; rw [← hgs1v.out] at hn9; obtain ⟨A9, c9, rfl⟩ := Kd.N_slice hn9; have hA9 : AS (.slice A1 ys1.length c1) (.slice A9 gs1.length c9) ys1 gs1 At ct tags w w9 := ⟨Kd.N_mono (Kd.N_after nf8 hg9 hat9) (fun _ h => ⟨trivial, h.2⟩), hn9, Kd.R_over' hA8.t (Kd.N_typed hnL) (by decide) hg9, hb9⟩; replace hR := Kd.R_over' hR (Kd.N_typed hnL) (by decide) hg9; replace hX := blk_grown hX hg9 nXL; clear hA8 nf8 ng8 hnL hn9 hb9 hg9 hat9 nXL zc0 zc1 zc2; obtain ⟨zc0, zc1, zc2, -, -, -⟩ := blk3 hX)
          | (go_at_call 9; (with_reducible refine (filter_Match.calls k y.f0 y.f1 Av cv y.f2 At ct tags (mB y) _ (Kd.R_reads' hR).2.2 (Kd.R_reads' hR).2.1 (Kd.R_reads' hA9.t).2.2 hct hmx.out).mono ?_); rintro e w10 ⟨rfl, hb10⟩; replace hA9 := hA9.below hb10; clear hb10 zc0 zc1 zc2 hX hR))
        go_roundg (5 - j)
        case measure => exact hj.1
        case rel =>
          refine ⟨j + 1, (by first | rfl | exact congrArg (Value.int .i64) (by omega)), ⟨by omega, by omega, by omega⟩, ?_, ⟨?_⟩⟩
          · rw [hys1.out, hwn.out]
            rfl
          · rw [hys1.out, twice_snoc, ← hgs.out, ← hgs1v.out, ← hys1w.out]
            exact hA9
end Go.Proofs.Yteghihdcagbmbaa.PFilterAlls

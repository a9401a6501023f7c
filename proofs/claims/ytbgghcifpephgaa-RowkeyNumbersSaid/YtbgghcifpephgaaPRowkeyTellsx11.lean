/- The walk of the Go functions that a law reaches, told as plain functions; a program of this session has written it. No condition beyond the statement's own. -/
import Derived.Test.YtbgghcifpephgaaPRowkeyTellsx10
namespace Go.Proofs.Ytbgghcifpephgaa.PRowkeyTells
open Go.RowKit Go.Proofs.YtbgghcifpephgaaW.PrintWords Go.Proofs.YtbgghcifpephgaaW.PrintLast Go.Proofs.YtbgghcifpephgaaW.PrintMore
attribute [local go_sem] max2_int min2_int max_two min_two max_three min_three max_four min_four   -- for this text's walks alone
set_option linter.unusedVariables false
set_option linter.unusedSimpArgs false
/-! ### marigraphlaw14.RowkeyNumbers: function 3, by hand (in the case that all is true) -/
def rnGood : List S23 := [⟨1, 5⟩, ⟨9, 1048576⟩]
def rnM (h : Nat) : Int := if h = 1 then 0 else if h = 2 then 16777215 else if h = 3 then 16777216 else 258
def rnB (h : Nat) : Int := if h = 4 then -3600 else if h = 5 then 7201 else if h = 6 then 4294967296 else if h = 7 then 4294965600 else 7200
def rnT (h : Nat) : List S23 :=
  if h = 8 then [] else if h = 9 then [⟨1, 5⟩, ⟨1, 1048576⟩] else if h = 10 then [⟨1, 0⟩, ⟨9, 1048576⟩] else if h = 11 then [⟨1, 5⟩, ⟨9, 16777216⟩]
  else if h = 12 then [⟨1, 1⟩, ⟨2, 1⟩, ⟨3, 1⟩, ⟨4, 1⟩] else if h = 13 then [⟨1, 1⟩, ⟨2, 1⟩, ⟨3, 1⟩, ⟨4, 1⟩, ⟨5, 1⟩] else rnGood
def rnP (k h : Nat) : Prop := marigraphlaw14_encodes.f k (rnM h) (rnB h) (rnT h) = some true ∧ ∃ s, rowkey_Same.f k (rnM h) (rnB h) (rnT h) 258 7200 rnGood = some s ∧ marigraphref14_Same.f k (rnM h) (rnB h) (rnT h) 258 7200 rnGood = some s
/-- Four numbers in a row read as two tags. -/
theorem C23_two {w : World} {g : Nat} {a b c d : Int} (h0 : w.cell? ⟨g, 0, none⟩ = some (.int .i64 a)) (h1 : w.cell? ⟨g, 1, none⟩ = some (.int .i64 b)) (h2 : w.cell? ⟨g, 2, none⟩ = some (.int .i64 c)) (h3 : w.cell? ⟨g, 3, none⟩ = some (.int .i64 d)) :
    Kd.C k23 w (some ⟨g, 0, none⟩) 2 [⟨a, b⟩, ⟨c, d⟩] := by
  refine ⟨rfl, by decide, fun _ => ⟨_, rfl, fun j p hj => ?_⟩⟩
  match j, hj with
  | 0, hj =>
    obtain rfl : (⟨a, b⟩ : S23) = p := by simpa using hj
    refine ⟨_, rfl, k23_mk _ _, fun i u hu => ?_⟩
    match i, hu with
    | 0, hu => obtain rfl := Option.some.inj hu; exact h0
    | 1, hu => obtain rfl := Option.some.inj hu; exact h1
    | i + 2, hu => simp at hu
  | 1, hj =>
    obtain rfl : (⟨c, d⟩ : S23) = p := by simpa using hj
    refine ⟨_, rfl, k23_mk _ _, fun i u hu => ?_⟩
    match i, hu with
    | 0, hu => obtain rfl := Option.some.inj hu; exact h2
    | 1, hu => obtain rfl := Option.some.inj hu; exact h3
    | i + 2, hu => simp at hu
  | j + 2, hj => simp at hj
theorem C23_cells {w : World} {g n : Nat} {a b : S23} {l : List S23} (h : Kd.C k23 w (some ⟨g, 0, none⟩) n (a :: b :: l)) : w.cell? ⟨g, 0, none⟩ = some (.int .i64 a.f0) ∧ w.cell? ⟨g, 1, none⟩ = some (.int .i64 a.f1) ∧ w.cell? ⟨g, 2, none⟩ = some (.int .i64 b.f0) ∧ w.cell? ⟨g, 3, none⟩ = some (.int .i64 b.f1) := by
  have hn : n = l.length + 2 := h.1.symm
  obtain ⟨ad, e, p0, p1⟩ := at_T23 h 0 (by decide) (by omega)
  cases e
  obtain ⟨ad, e, p2, p3⟩ := at_T23 h 1 (by decide) (by omega)
  cases e
  exact ⟨p0, p1, p2, p3⟩
/-- A store into a block: the other cells, and its own. -/
theorem cell_other {w : World} {g i j : Nat} {t : TypeId} {cs : Array Value} {u v : Value} (h : w.heap[g]? = some (.cells cs t (0, 0))) (hj : w.cell? ⟨g, j, none⟩ = some u) (hne : i ≠ j) : (w.setCell ⟨g, i, none⟩ v).cell? ⟨g, j, none⟩ = some u := by
  rw [blk_cell (blk_set h i v) j, Array.getElem?_setIfInBounds_ne hne, ← blk_cell h j]
  exact hj
theorem cell_same {w : World} {g i : Nat} {t : TypeId} {cs : Array Value} {u v : Value} (h : w.heap[g]? = some (.cells cs t (0, 0))) (hi : w.cell? ⟨g, i, none⟩ = some u) : (w.setCell ⟨g, i, none⟩ v).cell? ⟨g, i, none⟩ = some v := by
  have hlt : i < cs.size := by
    rw [blk_cell h i] at hi
    exact (Array.getElem?_eq_some_iff.1 hi).1
  rw [blk_cell (blk_set h i v) i, Array.getElem?_setIfInBounds_self_of_lt hlt]
set_option maxHeartbeats 8000000 in
set_option maxRecDepth 100000 in
theorem rowkeyNumbers_at (k : Nat) (x pp : List Int) (w : World)
    (hP : ∀ h, h < 14 → rnP k h) (q4 : marigraphref14_Encode.f k 258 7200 rnGood = some x) (q6 : x.length < 1000)
    (q7 : ∀ n, n ≤ x.length → marigraphlaw14_decodes.f k (x.take n) = some true ∧ marigraphlaw14_decodes.f k (x ++ x.take n) = some true)
    (q8 : rowkey_Prefix.f k (-1) 16777221 4294967303 = some pp) (q9 : (strOfNums pp).toList = [255, 0, 0, 5, 0, 0, 0, 7]) (q10 : marigraphlaw14_known.f k = some true) :
    Calls Try.prog 3 #[] w fun e w' => e = .returned (.bool true) ∧ Below w.heap.size w w' := by
  have hu26 := Try.underlying26
  have hu23 := Try.underlying23
  replace hP := Aside0.mk hP
  replace q4 := Aside0.mk q4
  replace q6 := Aside0.mk q6
  replace q7 := Aside0.mk q7
  replace q8 := Aside0.mk q8
  replace q9 := Aside0.mk q9
  replace q10 := Aside0.mk q10
  obtain ⟨gl, hgl⟩ : ∃ gl : List S23, gl = ([⟨1, 5⟩, ⟨9, 1048576⟩] : List S23) := ⟨_, rfl⟩
  replace hgl := Aside0.mk hgl
  go_enter Try.func3, Try.ntmps3
  go_upto_region 2 with (first | ((with_reducible refine gate_dst (N := 8) rfl ?_); refine Kd.R_lit k23 (w0 := w) w.heap.size 23 ?hg (N := 8) ?hd (xs := ([⟨1, 5⟩, ⟨9, 1048576⟩] : List S23)) (inner := [.int .i64 1, .int .i64 5, .int .i64 9, .int .i64 1048576]) (ok := fun _ => True) (okp := fun _ => True) ?hr ?hp (fun _ hk => hk) trivial (Below.refl _ _) (Nat.le_refl _) (by simp) ?_; (case hd => rfl); (case hg => rfl); (case hr => first | (go_simp; done) | (go_simp; rfl)); (case hp => exact (Reps.c2 (show Kd.M k23 _ _ _ (⟨1, 5⟩ : S23) [.int .i64 1, .int .i64 5] from k23_mkM _ _ _ _) (Reps.c2 (show Kd.M k23 _ _ _ (⟨9, 1048576⟩ : S23) [.int .i64 9, .int .i64 1048576] from k23_mkM _ _ _ _) (Reps.none _ _)))); intro v1 w1 ho1 hb1 hg_ hnew_; clear hg_ hnew_; rw [← hgl.out] at ho1; obtain ⟨Ag, cg, rfl⟩ := Kd.R_slice ho1))
  have hbg := blk_new w1 (Obj.cells #[Value.int .i64 258, Value.int .i64 7200, Value.slice Ag gl.length cg] 26)
  have hBg : Below w.heap.size w (w1.alloc (Obj.cells #[Value.int .i64 258, Value.int .i64 7200, Value.slice Ag gl.length cg] 26)) := below_alloc hb1 _
  have hCg := (Kd.R_reads' (Kd.R_alloc ho1 (Obj.cells #[Value.int .i64 258, Value.int .i64 7200, Value.slice Ag gl.length cg] 26))).2.2
  have hcg := (Kd.R_reads' ho1).2.1
  generalize hG : w1.heap.size = g0 at hbg ⊢
  generalize (w1.alloc (Obj.cells #[Value.int .i64 258, Value.int .i64 7200, Value.slice Ag gl.length cg] 26)) = wg at hbg hBg hCg ⊢
  clear ho1 hb1 hG
  have hgl2 : gl.length = 2 := by rw [hgl.out]; rfl
  have good : Aside0 (∀ w', Below wg.heap.size wg w' → w'.cell? ⟨g0, 0, none⟩ = some (.int .i64 258) ∧ w'.cell? ⟨g0, 1, none⟩ = some (.int .i64 7200) ∧ w'.cell? ⟨g0, 2, none⟩ = some (.slice Ag gl.length cg) ∧ Kd.C k23 w' Ag gl.length gl) := ⟨fun w' hb => have h := blk_below hbg hb; ⟨(blk_cell h 0).trans rfl, (blk_cell h 1).trans rfl, (blk_cell h 2).trans rfl, Kd.C_below hCg hb⟩⟩
  replace hgl2 := Aside0.mk hgl2
  replace hcg := Aside0.mk hcg
  replace hBg := Aside0.mk hBg
  clear hbg hCg
  go_upto_region 36 with (fail)
  go_loopg [2] 15 (fun kq v2 w' => ∃ h : Nat, v2 = .int .i64 (h : Int) ∧ Aside0 (14 - h < kq ∧ h ≤ 14) ∧ Aside0 (Below wg.heap.size wg w'))
  case atStart => exact ⟨0, rfl, ⟨by omega⟩, ⟨Below.refl _ _⟩⟩
  case round =>
    obtain ⟨h, rfl, hh, hB⟩ := hrel
    replace hh := hh.out
    by_cases hn : h < 14
    · have d1 : decide ((h : Int) < 14) = true := decide_eq_true (by omega)
      have d2 : decide (h < 14) = true := decide_eq_true hn
      obtain ⟨y0, y1, y2, -⟩ := good.out wr hB.out
      replace hh := Aside0.mk hh
      replace hn := Aside0.mk hn
      go_upto_region 6 with (fail)
      clear y0 y1 y2
      have hbr := blk_new wr (Obj.cells #[Value.int .i64 258, Value.int .i64 7200, Value.slice Ag gl.length cg] 26)
      have hB2 : Below wg.heap.size wg (wr.alloc (Obj.cells #[Value.int .i64 258, Value.int .i64 7200, Value.slice Ag gl.length cg] 26)) := below_alloc hB.out _
      have hgr : wg.heap.size ≤ wr.heap.size := below_size hB.out
      have hlr : wr.heap.size < (wr.alloc (Obj.cells #[Value.int .i64 258, Value.int .i64 7200, Value.slice Ag gl.length cg] 26)).heap.size := by simp
      generalize wr.heap.size = gr at hbr hgr hlr ⊢
      generalize (wr.alloc (Obj.cells #[Value.int .i64 258, Value.int .i64 7200, Value.slice Ag gl.length cg] 26)) = w2 at hbr hB2 hlr ⊢
      clear hB
      obtain ⟨y0, y1, y2, hC2⟩ := good.out w2 hB2
      replace hB2 := Aside0.mk hB2
      go_upto_block 2 with (first
        | ((with_reducible refine gate_dst (N := 15) rfl ?_); refine Kd.R_lit k23 (w0 := w2) w2.heap.size 23 ?hg (N := 15) ?hd (xs := ([] : List S23)) (inner := []) (ok := fun _ => True) (okp := fun _ => True) ?hr ?hp (fun _ hk => hk) trivial (Below.refl _ _) (Nat.le_refl _) (by simp) ?_; (case hd => rfl); (case hg => rfl); (case hr => first | (go_simp; done) | (go_simp; rfl)); (case hp => exact (Reps.none _ _)); intro v3 w3 ho3 hb3 hg_ hnew_; clear hg_ hnew_; clear y0 y1 y2; obtain ⟨y0, y1, y2, hC3⟩ := good.out w3 (below_step hB2.out hb3))
        | ((with_reducible refine gate_builtin (b := .append) (xs := #[.tmp 15, .tmp 17]) rfl ?_); at_builtin; refine Kd.R_append_rows k23 (w0 := w2) w2.heap.size rfl (.tmp 15) (.tmp 17) 24 23 (.agg #[(.int .i64 0), (.int .i64 0)]) 16 rfl Try.underlying24 info23 rfl (by decide) (by omega) v3 ([] : List S23) gl Ag gl.length cg (fun _ => True) (fun _ => False) rfl rfl ?aO hC3 (fun x cs h_ => by obtain rfl := k23_open h_; exact k23_mkM _ _ _ x) (fun _ h => h.elim) ?aF ?aB ?aS ?aL ?_; (case aB => exact hb3); (case aF => exact (fun _ _ => trivial)); (case aO => exact ho3); (case aS => exact below_size hb3); (case aL => rw [List.length_nil, hgl2.out]; decide); intro v4 w4 ho4 hb4 hg_ hat_; rw [List.nil_append] at ho4; obtain ⟨gt, ct, rfl, hgt, hlt, cs, hcs⟩ := Kd.R_form ho4 (by rw [hgl2.out]; decide); clear hg_ hat_; have hbr4 := blk_below hbr hb4; have zf := blk_frozen hbr4 2; have z2 := (blk_cell hbr4 2).trans rfl))
      have hne : gr ≠ gt := by have := hgt; omega
      have hbr5 := blk_put hbr4 2 (Value.slice (some ⟨gt, 0, none⟩) gl.length ct) rfl
      have hT := Kd.R_set ho4 hbr4 (by decide) 2 (Value.slice (some ⟨gt, 0, none⟩) gl.length ct)
      have hcs5 := blk_far (p := ⟨gr, 2, none⟩) hcs (fun e => hne e.symm) (Value.slice (some ⟨gt, 0, none⟩) gl.length ct)
      have hB5 := below_set (j := 2) (v := Value.slice (some ⟨gt, 0, none⟩) gl.length ct) (below_step hB2.out hb4) hgr
      have hgt5 : wg.heap.size ≤ gt := Nat.le_trans (below_size hB2.out) hgt
      have hct : Aside0 (gl.length ≤ ct) := ⟨(Kd.R_reads' ho4).2.1⟩
      generalize (w4.setCell ⟨gr, 2, none⟩ (Value.slice (some ⟨gt, 0, none⟩) gl.length ct)) = w5 at hbr5 hT hcs5 hB5 ⊢
      clear zf z2 hbr4 hcs ho4 hb4 hb3 ho3 y0 y1 y2 hC3 hC2 hbr hlt hgt hlr hB2
      obtain ⟨e0, e1, e2, e3⟩ := C23_cells (by have h_ := (Kd.R_reads' hT).2.2; rw [hgl.out] at h_; exact h_)
      have z0 := (blk_cell hbr5 0).trans rfl
      have z1 := (blk_cell hbr5 1).trans rfl
      have z2 := (blk_cell hbr5 2).trans rfl
      have f0 := blk_frozen hbr5 0
      have f1 := blk_frozen hbr5 1
      have f2 := blk_frozen hbr5 2
      have l2 : (1 < gl.length) = True := eq_true (by rw [hgl2.out]; decide)
      have l0 : (0 < gl.length) = True := eq_true (by rw [hgl2.out]; decide)
      have l3 : ((1 : Int) < (gl.length : Int)) = True := eq_true (by rw [hgl2.out]; decide)
      have l4 : ((0 : Int) < (gl.length : Int)) = True := eq_true (by rw [hgl2.out]; decide)
      clear d1 d2
      go_cut [] (fun wc => ∃ (A : Option Addr) (tags : List S23) (c : Nat), Aside0 (tags = rnT h) ∧ Aside0 (wc.heap[gr]? = some (Obj.cells #[Value.int .i64 (rnM h), Value.int .i64 (rnB h), Value.slice A tags.length c] 26)) ∧ Aside0 (Kd.C k23 wc A tags.length tags) ∧ Aside0 (tags.length ≤ c) ∧ Aside0 (Below wg.heap.size wg wc))
      case first =>
        have hn' := hn.out
        clear hh hn
        obtain rfl | rfl | rfl | rfl | rfl | rfl | rfl | rfl | rfl | rfl | rfl | rfl | rfl | rfl : h = 0 ∨ h = 1 ∨ h = 2 ∨ h = 3 ∨ h = 4 ∨ h = 5 ∨ h = 6 ∨ h = 7 ∨ h = 8 ∨ h = 9 ∨ h = 10 ∨ h = 11 ∨ h = 12 ∨ h = 13 := by omega
        · replace hbr5 := Aside0.mk hbr5
          replace hT := Aside0.mk hT
          replace hB5 := Aside0.mk hB5
          clear hcs5
          go_wp2
          go_meet
          case rel => exact ⟨_, gl, ct, ⟨hgl.out⟩, hbr5, ⟨(Kd.R_reads' hT.out).2.2⟩, hct, hB5⟩
        · have s1 := blk_put hbr5 0 (Value.int .i64 0) rfl
          have s2 := Kd.R_set hT hbr5 (by decide) 0 (Value.int .i64 0)
          have s3 := below_set (j := 0) (v := Value.int .i64 0) hB5 hgr
          clear hbr5 hT hB5 hcs5
          replace s1 := Aside0.mk s1
          replace s2 := Aside0.mk s2
          replace s3 := Aside0.mk s3
          go_wp2
          go_meet
          case rel => exact ⟨_, gl, ct, ⟨hgl.out⟩, s1, ⟨(Kd.R_reads' s2.out).2.2⟩, hct, s3⟩
        · have s1 := blk_put hbr5 0 (Value.int .i64 16777215) rfl
          have s2 := Kd.R_set hT hbr5 (by decide) 0 (Value.int .i64 16777215)
          have s3 := below_set (j := 0) (v := Value.int .i64 16777215) hB5 hgr
          clear hbr5 hT hB5 hcs5
          replace s1 := Aside0.mk s1
          replace s2 := Aside0.mk s2
          replace s3 := Aside0.mk s3
          go_wp2
          go_meet
          case rel => exact ⟨_, gl, ct, ⟨hgl.out⟩, s1, ⟨(Kd.R_reads' s2.out).2.2⟩, hct, s3⟩
        · have s1 := blk_put hbr5 0 (Value.int .i64 16777216) rfl
          have s2 := Kd.R_set hT hbr5 (by decide) 0 (Value.int .i64 16777216)
          have s3 := below_set (j := 0) (v := Value.int .i64 16777216) hB5 hgr
          clear hbr5 hT hB5 hcs5
          replace s1 := Aside0.mk s1
          replace s2 := Aside0.mk s2
          replace s3 := Aside0.mk s3
          go_wp2
          go_meet
          case rel => exact ⟨_, gl, ct, ⟨hgl.out⟩, s1, ⟨(Kd.R_reads' s2.out).2.2⟩, hct, s3⟩
        · have s1 := blk_put hbr5 1 (Value.int .i64 (-3600)) rfl
          have s2 := Kd.R_set hT hbr5 (by decide) 1 (Value.int .i64 (-3600))
          have s3 := below_set (j := 1) (v := Value.int .i64 (-3600)) hB5 hgr
          clear hbr5 hT hB5 hcs5
          replace s1 := Aside0.mk s1
          replace s2 := Aside0.mk s2
          replace s3 := Aside0.mk s3
          go_wp2
          go_meet
          case rel => exact ⟨_, gl, ct, ⟨hgl.out⟩, s1, ⟨(Kd.R_reads' s2.out).2.2⟩, hct, s3⟩
        · have s1 := blk_put hbr5 1 (Value.int .i64 7201) rfl
          have s2 := Kd.R_set hT hbr5 (by decide) 1 (Value.int .i64 7201)
          have s3 := below_set (j := 1) (v := Value.int .i64 7201) hB5 hgr
          clear hbr5 hT hB5 hcs5
          replace s1 := Aside0.mk s1
          replace s2 := Aside0.mk s2
          replace s3 := Aside0.mk s3
          go_wp2
          go_meet
          case rel => exact ⟨_, gl, ct, ⟨hgl.out⟩, s1, ⟨(Kd.R_reads' s2.out).2.2⟩, hct, s3⟩
        · have s1 := blk_put hbr5 1 (Value.int .i64 4294967296) rfl
          have s2 := Kd.R_set hT hbr5 (by decide) 1 (Value.int .i64 4294967296)
          have s3 := below_set (j := 1) (v := Value.int .i64 4294967296) hB5 hgr
          clear hbr5 hT hB5 hcs5
          replace s1 := Aside0.mk s1
          replace s2 := Aside0.mk s2
          replace s3 := Aside0.mk s3
          go_wp2
          go_meet
          case rel => exact ⟨_, gl, ct, ⟨hgl.out⟩, s1, ⟨(Kd.R_reads' s2.out).2.2⟩, hct, s3⟩
        · have s1 := blk_put hbr5 1 (Value.int .i64 4294965600) rfl
          have s2 := Kd.R_set hT hbr5 (by decide) 1 (Value.int .i64 4294965600)
          have s3 := below_set (j := 1) (v := Value.int .i64 4294965600) hB5 hgr
          clear hbr5 hT hB5 hcs5
          replace s1 := Aside0.mk s1
          replace s2 := Aside0.mk s2
          replace s3 := Aside0.mk s3
          go_wp2
          go_meet
          case rel => exact ⟨_, gl, ct, ⟨hgl.out⟩, s1, ⟨(Kd.R_reads' s2.out).2.2⟩, hct, s3⟩
        · have s1 := blk_put hbr5 2 (Value.slice none 0 0) rfl
          have s3 := below_set (j := 2) (v := Value.slice none 0 0) hB5 hgr
          clear hbr5 hT hB5 hcs5
          replace s1 := Aside0.mk s1
          replace s3 := Aside0.mk s3
          go_wp2
          go_meet
          case rel => exact ⟨none, [], 0, ⟨rfl⟩, s1, ⟨Kd.C_nil k23 _⟩, ⟨Nat.le_refl _⟩, s3⟩
        · have s1 := blk_far (p := ⟨gt, 2, none⟩) hbr5 hne (Value.int .i64 1)
          have s3 := below_set (j := 2) (v := Value.int .i64 1) hB5 hgt5
          have c0 := cell_other (i := 2) (v := Value.int .i64 1) hcs5 e0 (by decide)
          have c1 := cell_other (i := 2) (v := Value.int .i64 1) hcs5 e1 (by decide)
          have c2 := cell_same (v := Value.int .i64 1) hcs5 e2
          have c3 := cell_other (i := 2) (v := Value.int .i64 1) hcs5 e3 (by decide)
          have s2 := C23_two c0 c1 c2 c3
          have zt := blk_frozen hcs5 2
          rw [hgl2.out] at s1
          clear hbr5 hT hB5 hcs5 c0 c1 c2 c3
          replace s1 := Aside0.mk s1
          replace s2 := Aside0.mk s2
          replace s3 := Aside0.mk s3
          go_wp2
          go_meet
          case rel => exact ⟨_, [⟨1, 5⟩, ⟨1, 1048576⟩], ct, ⟨rfl⟩, s1, s2, ⟨by have := hct.out; rw [hgl2.out] at this; exact this⟩, s3⟩
        · have s1 := blk_far (p := ⟨gt, 1, none⟩) hbr5 hne (Value.int .i64 0)
          have s3 := below_set (j := 1) (v := Value.int .i64 0) hB5 hgt5
          have c0 := cell_other (i := 1) (v := Value.int .i64 0) hcs5 e0 (by decide)
          have c1 := cell_same (v := Value.int .i64 0) hcs5 e1
          have c2 := cell_other (i := 1) (v := Value.int .i64 0) hcs5 e2 (by decide)
          have c3 := cell_other (i := 1) (v := Value.int .i64 0) hcs5 e3 (by decide)
          have s2 := C23_two c0 c1 c2 c3
          have zt := blk_frozen hcs5 1
          rw [hgl2.out] at s1
          clear hbr5 hT hB5 hcs5 c0 c1 c2 c3
          replace s1 := Aside0.mk s1
          replace s2 := Aside0.mk s2
          replace s3 := Aside0.mk s3
          go_wp2
          go_meet
          case rel => exact ⟨_, [⟨1, 0⟩, ⟨9, 1048576⟩], ct, ⟨rfl⟩, s1, s2, ⟨by have := hct.out; rw [hgl2.out] at this; exact this⟩, s3⟩
        · have s1 := blk_far (p := ⟨gt, 3, none⟩) hbr5 hne (Value.int .i64 16777216)
          have s3 := below_set (j := 3) (v := Value.int .i64 16777216) hB5 hgt5
          have c0 := cell_other (i := 3) (v := Value.int .i64 16777216) hcs5 e0 (by decide)
          have c1 := cell_other (i := 3) (v := Value.int .i64 16777216) hcs5 e1 (by decide)
          have c2 := cell_other (i := 3) (v := Value.int .i64 16777216) hcs5 e2 (by decide)
          have c3 := cell_same (v := Value.int .i64 16777216) hcs5 e3
          have s2 := C23_two c0 c1 c2 c3
          have zt := blk_frozen hcs5 3
          rw [hgl2.out] at s1
          clear hbr5 hT hB5 hcs5 c0 c1 c2 c3
          replace s1 := Aside0.mk s1
          replace s2 := Aside0.mk s2
          replace s3 := Aside0.mk s3
          go_wp2
          go_meet
          case rel => exact ⟨_, [⟨1, 5⟩, ⟨9, 16777216⟩], ct, ⟨rfl⟩, s1, s2, ⟨by have := hct.out; rw [hgl2.out] at this; exact this⟩, s3⟩
        · obtain ⟨gn, hgn⟩ : ∃ gn : List S23, gn = ([⟨1, 1⟩, ⟨2, 1⟩, ⟨3, 1⟩, ⟨4, 1⟩] : List S23) := ⟨_, rfl⟩
          replace hgn := Aside0.mk hgn
          replace hB5 := Aside0.mk hB5
          replace hbr5 := Aside0.mk hbr5
          clear hT hcs5
          go_wp2_with (first | ((with_reducible refine gate_dst (N := 69) rfl ?_); refine Kd.R_lit k23 (w0 := w5) w5.heap.size 23 ?hg (N := 69) ?hd (xs := ([⟨1, 1⟩, ⟨2, 1⟩, ⟨3, 1⟩, ⟨4, 1⟩] : List S23)) (inner := [.int .i64 1, .int .i64 1, .int .i64 2, .int .i64 1, .int .i64 3, .int .i64 1, .int .i64 4, .int .i64 1]) (ok := fun _ => True) (okp := fun _ => True) ?hr ?hp (fun _ hk => hk) trivial (Below.refl _ _) (Nat.le_refl _) (by simp) ?_; (case hd => rfl); (case hg => rfl); (case hr => first | (go_simp; done) | (go_simp; rfl)); (case hp => exact (Reps.c2 (show Kd.M k23 _ _ _ (⟨1, 1⟩ : S23) [.int .i64 1, .int .i64 1] from k23_mkM _ _ _ _) (Reps.c2 (show Kd.M k23 _ _ _ (⟨2, 1⟩ : S23) [.int .i64 2, .int .i64 1] from k23_mkM _ _ _ _) (Reps.c2 (show Kd.M k23 _ _ _ (⟨3, 1⟩ : S23) [.int .i64 3, .int .i64 1] from k23_mkM _ _ _ _) (Reps.c2 (show Kd.M k23 _ _ _ (⟨4, 1⟩ : S23) [.int .i64 4, .int .i64 1] from k23_mkM _ _ _ _) (Reps.none _ _)))))); intro v6 w6 ho6 hb6 hg_ hnew_; clear hg_ hnew_; rw [← hgn.out] at ho6; obtain ⟨An, cn, rfl⟩ := Kd.R_slice ho6; have hbr6 := blk_below hbr5.out hb6; have zf6 := blk_frozen hbr6 2; have z26 := (blk_cell hbr6 2).trans rfl; have s1 := Aside0.mk (blk_put hbr6 2 (Value.slice An gn.length cn) rfl); have s2 := Aside0.mk (Kd.R_reads' (Kd.R_set ho6 hbr6 (by decide) 2 (Value.slice An gn.length cn))).2; have s3 := Aside0.mk (below_set (j := 2) (v := Value.slice An gn.length cn) (below_step hB5.out hb6) hgr); clear hbr6 ho6 hb6))
          go_meet
          case rel => exact ⟨An, gn, cn, ⟨hgn.out⟩, s1, ⟨s2.out.2⟩, ⟨s2.out.1⟩, s3⟩
        · obtain ⟨gn, hgn⟩ : ∃ gn : List S23, gn = ([⟨1, 1⟩, ⟨2, 1⟩, ⟨3, 1⟩, ⟨4, 1⟩, ⟨5, 1⟩] : List S23) := ⟨_, rfl⟩
          replace hgn := Aside0.mk hgn
          replace hB5 := Aside0.mk hB5
          replace hbr5 := Aside0.mk hbr5
          clear hT hcs5
          go_wp2_with (first | ((with_reducible refine gate_dst (N := 78) rfl ?_); refine Kd.R_lit k23 (w0 := w5) w5.heap.size 23 ?hg (N := 78) ?hd (xs := ([⟨1, 1⟩, ⟨2, 1⟩, ⟨3, 1⟩, ⟨4, 1⟩, ⟨5, 1⟩] : List S23)) (inner := [.int .i64 1, .int .i64 1, .int .i64 2, .int .i64 1, .int .i64 3, .int .i64 1, .int .i64 4, .int .i64 1, .int .i64 5, .int .i64 1]) (ok := fun _ => True) (okp := fun _ => True) ?hr ?hp (fun _ hk => hk) trivial (Below.refl _ _) (Nat.le_refl _) (by simp) ?_; (case hd => rfl); (case hg => rfl); (case hr => first | (go_simp; done) | (go_simp; rfl)); (case hp => exact (Reps.c2 (show Kd.M k23 _ _ _ (⟨1, 1⟩ : S23) [.int .i64 1, .int .i64 1] from k23_mkM _ _ _ _) (Reps.c2 (show Kd.M k23 _ _ _ (⟨2, 1⟩ : S23) [.int .i64 2, .int .i64 1] from k23_mkM _ _ _ _) (Reps.c2 (show Kd.M k23 _ _ _ (⟨3, 1⟩ : S23) [.int .i64 3, .int .i64 1] from k23_mkM _ _ _ _) (Reps.c2 (show Kd.M k23 _ _ _ (⟨4, 1⟩ : S23) [.int .i64 4, .int .i64 1] from k23_mkM _ _ _ _) (Reps.c2 (show Kd.M k23 _ _ _ (⟨5, 1⟩ : S23) [.int .i64 5, .int .i64 1] from k23_mkM _ _ _ _) (Reps.none _ _))))))); intro v6 w6 ho6 hb6 hg_ hnew_; clear hg_ hnew_; rw [← hgn.out] at ho6; obtain ⟨An, cn, rfl⟩ := Kd.R_slice ho6; have hbr6 := blk_below hbr5.out hb6; have zf6 := blk_frozen hbr6 2; have z26 := (blk_cell hbr6 2).trans rfl; have s1 := Aside0.mk (blk_put hbr6 2 (Value.slice An gn.length cn) rfl); have s2 := Aside0.mk (Kd.R_reads' (Kd.R_set ho6 hbr6 (by decide) 2 (Value.slice An gn.length cn))).2; have s3 := Aside0.mk (below_set (j := 2) (v := Value.slice An gn.length cn) (below_step hB5.out hb6) hgr); clear hbr6 ho6 hb6))
          go_meet
          case rel => exact ⟨An, gn, cn, ⟨hgn.out⟩, s1, ⟨s2.out.2⟩, ⟨s2.out.1⟩, s3⟩
      case rest =>
        obtain ⟨A, tags, c, ht, hk, hC, hc, hB⟩ := hcut
        replace hk := hk.out
        replace hC := hC.out
        replace hB := hB.out
        obtain ⟨e1, s, e2, e3⟩ := hP.out h hn.out
        rw [← ht.out] at e1 e2 e3
        rw [show rnGood = gl from hgl.out.symm] at e2 e3
        generalize rnM h = m at hk e1 e2 e3
        generalize rnB h = b at hk e1 e2 e3
        clear ht l0 l2 l3 l4 z0 z1 z2 f0 f1 f2 e0 hbr5 hT hcs5 hB5 hgt5 hne hct
        have row : Aside0 (∀ w', Below wc.heap.size wc w' → w'.cell? ⟨gr, 0, none⟩ = some (.int .i64 m) ∧ w'.cell? ⟨gr, 1, none⟩ = some (.int .i64 b) ∧ w'.cell? ⟨gr, 2, none⟩ = some (.slice A tags.length c) ∧ Kd.C k23 w' A tags.length tags) := ⟨fun w' hb => have h := blk_below hk hb; ⟨(blk_cell h 0).trans rfl, (blk_cell h 1).trans rfl, (blk_cell h 2).trans rfl, Kd.C_below hC hb⟩⟩
        clear hk hC
        cases s
        all_goals
          go_upto_region 34 with (fail)
          refine start_ (n := 12) (S := fun w' => Below wc.heap.size wc w') (ds := []) (bA 12 0) (by kernel_rfl) rfl rfl (below_drew1 (Below.refl _ _)) (fun hHeld => ?_)
          refine norm_ (by rfl) ?_
          refine tK 0 (some 80) (bA 12 1) rfl rfl hHeld (by intro w' hb; obtain ⟨s0, s1, s2, -⟩ := row.out w' hb; go_simp; with_reducible rfl) ?_
          refine one_ (i := 1) (N := (some 81)) (bA 12 3) rfl rfl (by kernel_rfl) (by decide) (fun K hK => ?_)
          refine goes_ Try.func5 (by kernel_rfl) rfl #[.agg #[.int .i64 m, .int .i64 b, .slice A tags.length c]] (by rfl) rfl rfl (by simp only [List.map_toArray, List.map_cons, List.map_nil]; rfl) ?_
          refine (marigraphlaw14_encodes.calls k m b A c tags true _ (row.out _ hHeld).2.2.2 hc.out e1).mono ?_
          rintro e w7 ⟨rfl, hb7⟩
          refine ⟨_, rfl, ?_⟩
          have hH7 := below_step hHeld hb7
          refine hK.out _ _ hH7 (fun hHeld => ?_)
          clear hK K
          refine nK (some 81) ?_
          refine pK 2 (some 82) (bA 12 7) ?_
          refine pK 3 (some 83) (bA 12 15) ?_
          refine tK 4 (some 84) (bA 12 31) rfl rfl hHeld (by intro w' hb; obtain ⟨s0, s1, s2, -⟩ := row.out w' hb; go_simp; with_reducible rfl) ?_
          refine tK 5 (some 85) (bA 12 63) rfl rfl hHeld (by intro w' hb; obtain ⟨s0, s1, s2, -⟩ := good.out w' (below_step hB hb); go_simp; with_reducible rfl) ?_
          refine tK 7 (some 87) (bA 12 191) rfl rfl hHeld (by intro w' hb; obtain ⟨s0, s1, s2, -⟩ := row.out w' hb; go_simp; with_reducible rfl) ?_
          refine tK 8 (some 88) (bA 12 447) rfl rfl hHeld (by intro w' hb; obtain ⟨s0, s1, s2, -⟩ := good.out w' (below_step hB hb); go_simp; with_reducible rfl) ?_
          refine one_ (i := 6) (N := (some 86)) (bA 12 511) rfl rfl (by kernel_rfl) (by decide) (fun K hK => ?_)
          refine goes_ Try.func6 (by kernel_rfl) rfl #[.agg #[.int .i64 m, .int .i64 b, .slice A tags.length c], .agg #[.int .i64 258, .int .i64 7200, .slice Ag gl.length cg]] (by rfl) rfl rfl (by simp only [List.map_toArray, List.map_cons, List.map_nil]; rfl) ?_
          refine (rowkey_Same.calls k m b A c tags 258 7200 Ag cg gl _ _ (row.out _ hHeld).2.2.2 hc.out (good.out _ (below_step hB hHeld)).2.2.2 hcg.out e2).mono ?_
          rintro e w8 ⟨rfl, hb8⟩
          refine ⟨_, rfl, ?_⟩
          have hH8 := below_step hHeld hb8
          refine hK.out _ _ hH8 (fun hHeld => ?_)
          clear hK K
          refine nK (some 86) ?_
          refine one_ (i := 9) (N := (some 89)) (bA 12 1023) rfl rfl (by kernel_rfl) (by decide) (fun K hK => ?_)
          refine goes_ Try.func7 (by kernel_rfl) rfl #[.agg #[.int .i64 m, .int .i64 b, .slice A tags.length c], .agg #[.int .i64 258, .int .i64 7200, .slice Ag gl.length cg]] (by rfl) rfl rfl (by simp only [List.map_toArray, List.map_cons, List.map_nil]; rfl) ?_
          refine (marigraphref14_Same.calls k m b A c tags 258 7200 Ag cg gl _ _ (row.out _ hHeld).2.2.2 hc.out (good.out _ (below_step hB hHeld)).2.2.2 hcg.out e3).mono ?_
          rintro e w9 ⟨rfl, hb9⟩
          refine ⟨_, rfl, ?_⟩
          have hH9 := below_step hHeld hb9
          refine hK.out _ _ hH9 (fun hHeld => ?_)
          clear hK K
          refine nK (some 89) ?_
          refine pK 10 (some 90) (bA 12 2047) ?_
          refine pK 11 (some 91) (bA 12 4095) ?_
          refine done_ (by kernel_rfl) ?_
          have hE := Aside0.mk (below_step hB hHeld)
          have hx : Aside0 (wrap64 ((h : Int) + 1) = ((h + 1 : Nat) : Int)) := ⟨by have := hn.out; unfold wrap64; omega⟩
          have hx2 : Aside0 ((((h : Int) + 1) : Int) = ((h + 1 : Nat) : Int)) := ⟨by omega⟩
          clear hHeld hB
          go_wp2
          go_roundg (14 - h)
          case measure => exact hh.out.1
          case rel => exact ⟨h + 1, (by first | rfl | exact congrArg (Value.int .i64) hx.out | exact congrArg (Value.int .i64) hx2.out), ⟨by have := hn.out; omega⟩, hE⟩
    · obtain rfl : h = 14 := by omega
      have d1 : decide (((14 : Nat) : Int) < 14) = false := by decide
      obtain ⟨y0, y1, y2, hCr⟩ := good.out wr hB.out
      replace q4 := q4.out
      rw [show rnGood = gl from hgl.out.symm] at q4
      replace q4 := Aside0.mk q4
      clear hh hn
      go_upto_region 37 with (go_at_call 8; refine (marigraphref14_Encode.calls k 258 7200 Ag cg gl x _ hCr hcg.out q4.out).mono ?_; rintro e w5 ⟨vx, rfl, hx, hb5⟩; obtain ⟨Ax, cx, rfl⟩ := Kd.R_slice hx)
      clear y0 y1 y2 hCr d1
      have hB5 := Aside0.mk (below_step hBg.out (below_step hB.out hb5))
      have cellx : Aside0 (∀ w', Below w5.heap.size w5 w' → Kd.C (Kd.int .u8) w' Ax x.length x) := ⟨fun w' hb => Kd.C_below (Kd.R_reads' hx).2.2 hb⟩
      have hcx : Aside0 (x.length ≤ cx) := ⟨(Kd.R_reads' hx).2.1⟩
      clear hx hb5 hB
      go_upto_region 42 with (fail)
      go_loopg [5] (x.length + 2) (fun kq v5 w' => ∃ j : Nat, v5 = .int .i64 (j : Int) ∧ Aside0 (x.length + 1 - j < kq ∧ j ≤ x.length + 1) ∧ Aside0 (Below w5.heap.size w5 w'))
      case atStart => exact ⟨0, rfl, ⟨by omega⟩, ⟨Below.refl _ _⟩⟩
      case round =>
      obtain ⟨j, rfl, hj, hB⟩ := hrel
      replace hj := hj.out
      by_cases hn : j ≤ x.length
      · have d1 : decide ((j : Int) ≤ (x.length : Int)) = true := decide_eq_true (by omega)
        have d2 : decide (j ≤ x.length) = true := decide_eq_true hn
        have hjl : Aside0 (j ≤ x.length) := ⟨hn⟩
        replace hj := Aside0.mk hj
        clear hn
        go_upto_region 40 with (fail)
        clear d1 d2
        have hlj : Aside0 ((x.take j).length = j) := ⟨List.length_take_of_le hjl.out⟩
        have hjc : Aside0 (j ≤ cx) := ⟨Nat.le_trans hjl.out hcx.out⟩
        have cellj : Aside0 (∀ w', Below w5.heap.size w5 w' → Kd.C (Kd.int .u8) w' Ax j (x.take j)) := ⟨fun w' hb => by have h := Kd.C_take (cellx.out w' hb) hjl.out; rwa [hlj.out] at h⟩
        have hcut : ∀ W : World, (Instr.slice 29 (.slice Ax x.length cx) none (some (.int .i64 (j : Int))) none).run Try.prog W = .ok (.slice Ax j cx) W := fun W => by
          obtain ⟨hc, -, -⟩ := print_take_of (P := Try.prog) (Value.int .u8) 0 29 5 .i64 Try.underlying29 (by rfl) (by rfl) Ax cx x (j : Int) (by omega) (by have := hjl.out; omega) hcx.out
          have h := hc W
          rw [Int.toNat_natCast, hlj.out] at h
          exact h
        refine start_ (n := 16) (S := fun w' => Below w5.heap.size w5 w') (ds := []) (bA 16 0) (by kernel_rfl) rfl rfl (below_drew1 hB.out) (fun hHeld => ?_)
        refine norm_ (by rfl) ?_
        refine pK 0 (some 100) (bA 16 1) ?_
        refine pK 1 (some 101) (bA 16 3) ?_
        refine pK 2 (some 102) (bA 16 7) ?_
        refine one_ (i := 3) (N := (some 103)) (bA 16 15) rfl rfl (by kernel_rfl) (by decide) (fun K hK => ?_)
        refine goes_ Try.func9 (by kernel_rfl) rfl #[.slice Ax j cx] (by rfl) rfl rfl (by simp only [List.map_toArray, List.map_cons, List.map_nil]; rfl) ?_
        refine (rkt_decodes_at k Ax cx j (x.take j) _ hlj.out (cellj.out _ hHeld) hjc.out (q7.out j hjl.out).1).mono ?_
        rintro e w6 ⟨rfl, hb6⟩
        refine ⟨_, rfl, ?_⟩
        have hH6 := below_step hHeld hb6
        refine hK.out _ _ hH6 (fun hHeld => ?_)
        clear hK K
        refine nK (some 103) ?_
        refine pK 4 (some 104) (bA 16 31) ?_
        refine pK 5 (some 105) (bA 16 63) ?_
        refine pK 7 (some 107) (bA 16 191) ?_
        refine pK 9 (some 109) (bA 16 703) ?_
        refine pK 10 (some 110) (bA 16 1727) ?_
        refine pK 11 (some 111) (bA 16 3775) ?_
        refine one_ (i := 6) (N := (some 106)) (bA 16 3839) rfl rfl (by kernel_rfl) (by decide) (fun K hK => ?_)
        refine Kd.R_lit_step (Kd.int .u8) (w0 := w5) w5.heap.size 5 (by rfl) (N := 106) rfl (xs := ([] : List Int)) (inner := []) (ok := fun _ => True) (okp := fun _ => True) ?hr ?hp (fun _ hk => hk) trivial hHeld (below_size hHeld) (by simp) ?_
        case hr => first | (go_simp; done) | (go_simp; rfl)
        case hp => exact Reps.none _ _
        intro v7 w7 ho7 hb7 hg7 _
        refine hK.out _ _ hb7 (fun hHeld => ?_)
        clear hK K
        refine nK (some 106) ?_
        refine one_ (i := 8) (N := (some 108)) (bA 16 4095) rfl rfl (by kernel_rfl) (by decide) (fun K hK => ?_)
        refine Kd.R_append_rows_step (Kd.int .u8) (w0 := w5) w5.heap.size (by rfl) (.tmp 106) (.tmp 107) 29 5 (.int .u8 0) 1 rfl Try.underlying29 info5 rfl (by decide) (by omega) v7 ([] : List Int) x Ax x.length cx (fun _ => True) (fun _ => False) rfl rfl ho7 (cellx.out _ hHeld) (fun _ _ h => h) (fun _ h => h.elim) (fun _ _ => trivial) hHeld (below_size hHeld) (by have := q6.out; simp only [List.length_nil]; omega) ?_
        intro v8 w8 ho8 hb8 hg8 _
        rw [List.nil_append] at ho8
        refine hK.out _ _ hb8 (fun hHeld => ?_)
        clear hK K
        refine nK (some 108) ?_
        refine one_ (i := 12) (N := (some 112)) (bA 16 8191) rfl rfl (by kernel_rfl) (by decide) (fun K hK => ?_)
        refine Kd.R_append_rows_step (Kd.int .u8) (w0 := w5) w5.heap.size (by rfl) (.tmp 108) (.tmp 111) 29 5 (.int .u8 0) 1 rfl Try.underlying29 info5 rfl (by decide) (by omega) v8 x (x.take j) Ax j cx (fun _ => True) (fun _ => False) rfl rfl ho8 (cellj.out _ hHeld) (fun _ _ h => h) (fun _ h => h.elim) (fun _ _ => trivial) hHeld (below_size hHeld) (by have := q6.out; have := hjl.out; omega) ?_
        intro v9 w9 ho9 hb9 hg9 _
        obtain ⟨Az, cz, rfl⟩ := Kd.R_slice ho9
        have hzC := (Kd.R_reads' ho9).2
        refine hK.out _ _ hb9 (fun hHeld => ?_)
        clear hK K
        refine nK (some 112) ?_
        refine one_ (i := 13) (N := (some 113)) (bA 16 16383) rfl rfl (by kernel_rfl) (by decide) (fun K hK => ?_)
        refine goes_ Try.func9 (by kernel_rfl) rfl #[.slice Az (x ++ x.take j).length cz] (by rfl) rfl rfl (by simp only [List.map_toArray, List.map_cons, List.map_nil]; rfl) ?_
        refine (marigraphlaw14_decodes.calls k Az cz (x ++ x.take j) true _ hzC.2 hzC.1 (q7.out j hjl.out).2).mono ?_
        rintro e w10 ⟨rfl, hb10⟩
        refine ⟨_, rfl, ?_⟩
        have hH10 := below_step hHeld hb10
        refine hK.out _ _ hH10 (fun hHeld => ?_)
        clear hK K
        refine nK (some 113) ?_
        refine pK 14 (some 114) (bA 16 32767) ?_
        refine pK 15 (some 115) (bA 16 65535) ?_
        refine done_ (by kernel_rfl) ?_
        clear hcut hzC
        have hE := Aside0.mk hHeld
        have hx : Aside0 (wrap64 ((j : Int) + 1) = ((j + 1 : Nat) : Int)) := ⟨by have := hjl.out; have := q6.out; unfold wrap64; omega⟩
        have hx2 : Aside0 ((((j : Int) + 1) : Int) = ((j + 1 : Nat) : Int)) := ⟨by omega⟩
        clear hHeld hB
        go_wp2
        go_roundg (x.length + 1 - j)
        case measure => exact hj.out.1
        case rel => exact ⟨j + 1, (by first | rfl | exact congrArg (Value.int .i64) hx.out | exact congrArg (Value.int .i64) hx2.out), ⟨by have := hjl.out; omega⟩, hE⟩
      · have d1 : decide ((j : Int) ≤ (x.length : Int)) = false := decide_eq_false (by omega)
        have d2 : decide (j ≤ x.length) = false := decide_eq_false hn
        have e9 : ((strOfNums pp).toList == [255, 0, 0, 5, 0, 0, 0, 7]) = true := by rw [q9.out]; rfl
        clear hj hn
        go_wp2_with (first
          | (go_at_call 10; (with_reducible refine (rowkey_Prefix.calls k (-1) 16777221 4294967303 pp _ q8.out).mono ?_); rintro e w8 ⟨v8, rfl, hv8, hb8⟩; obtain ⟨A8, c8, rfl⟩ := Kd.R_slice hv8; have e_ := Kd.C_string (P := Try.prog) (c := c8) Try.underlying29 Try.underlying5 Try.underlying9 (Kd.R_reads' hv8).2.2; have F8 := below_step hB.out hb8; clear hb8)
          | (go_at_call 11; (with_reducible refine (marigraphlaw14_known.calls k true _ q10.out).mono ?_); rintro e w9 ⟨rfl, hb9⟩; have F9 := below_step F8 hb9; clear hb9))
        go_ret
        exact ⟨rfl, below_step hB5.out F9⟩

end Go.Proofs.Ytbgghcifpephgaa.PRowkeyTells

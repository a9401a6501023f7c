/- The walk of the Go functions that a law reaches, told as plain functions; a program of this session has written it. No condition beyond the statement's own. -/
import Derived.Test.YtlmcnlaopolinaaPLerpTellsx0
import Derived.Test.YtlmcnlaopolinaaPLerpTellsx11
import Derived.Test.YtlmcnlaopolinaaPLerpTellsx1
import Derived.Test.YtlmcnlaopolinaaPLerpTellsx2
import Derived.Test.YtlmcnlaopolinaaPLerpTellsx7
import Derived.Test.YtlmcnlaopolinaaPLerpTellsx9
import Derived.Test.YtlmcnlaopolinaaPLerpTellsx10
namespace Go.Proofs.Ytlmcnlaopolinaa.PLerpTells
open Go.RowKit Go.Proofs.YtlmcnlaopolinaaW.PrintWords Go.Proofs.YtlmcnlaopolinaaW.PrintLast Go.Proofs.YtlmcnlaopolinaaW.PrintMore
attribute [local go_sem] max2_int min2_int max_two min_two max_three min_three max_four min_four   -- for this text's walks alone
set_option linter.unusedVariables false
set_option linter.unusedSimpArgs false

attribute [local go_sem high] eqA24
/-! ### marigraphlaw22_LerpTells: function 3, by hand -/
set_option maxHeartbeats 8000000
set_option maxRecDepth 100000
/-- A step of a region that yields in every world; one whose guard is off; one that reads what is held. -/
theorem pK {P : Program} {ops : Array Oper} {Q : Exit → Act → World → Prop} {md : Region.Mode} {S : World → Prop} {ds : List Nat} {oi : Oper} {v : Value} {fuel : Nat} {l : Array Bool} {a a' : Act} {w : World} (i : Nat) (N : Option Tmp) (l' : Array Bool) (h : wpAnyLast P md ops Q S ds fuel l' a' w)
    (hi : ops[i]? = some oi := by rfl) (hN : oi.dst = N := by rfl) (hc : anyB md ops l l' i = true := by kernel_rfl) (hQ : ∀ c a w, Q (.panic c) (a.put oi.dst v) w → Q (.panic c) a w := by exact fun _ _ _ h => h)
    (hy : Region.wanted oi (yielded ops a.tmps) = true := by rfl) (hy' : ∀ w, (execOp a.eval oi).run P w = .ok (.value v) w := by intro w'; go_simp; with_reducible rfl)
    (ha : a.put N v = a' := by simp only [Act.put, List.setIfInBounds_toArray, List.set_cons_zero, List.set_cons_succ, i64_w, i32_w]; rfl) : wpAnyLast P md ops Q S ds (fuel + 1) l a w :=
  pure_ l' hi hN hc hQ (Or.inl ⟨hy, hy'⟩) ha h
theorem uK {P : Program} {ops : Array Oper} {Q : Exit → Act → World → Prop} {md : Region.Mode} {S : World → Prop} {ds : List Nat} {oi : Oper} {fuel : Nat} {l : Array Bool} {a a' : Act} {w : World} (i : Nat) (N : Option Tmp) (l' : Array Bool) (h : wpAnyLast P md ops Q S ds fuel l' a' w)
    (hi : ops[i]? = some oi := by rfl) (hN : oi.dst = N := by rfl) (hc : anyB md ops l l' i = true := by kernel_rfl) (hQ : ∀ c a w, Q (.panic c) (a.put oi.dst undef) w → Q (.panic c) a w := by exact fun _ _ _ h => h)
    (hy : Region.wanted oi (yielded ops a.tmps) = false := by rfl)
    (ha : a.put N undef = a' := by simp only [Act.put, List.setIfInBounds_toArray, List.set_cons_zero, List.set_cons_succ, i64_w, i32_w]; rfl) : wpAnyLast P md ops Q S ds (fuel + 1) l a w :=
  pure_ l' hi hN hc hQ (Or.inr ⟨hy, rfl⟩) ha h
theorem tK {P : Program} {ops : Array Oper} {Q : Exit → Act → World → Prop} {md : Region.Mode} {S : World → Prop} {ds : List Nat} {oi : Oper} {v : Value} {fuel : Nat} {l : Array Bool} {a a' : Act} {w : World} (i : Nat) (N : Option Tmp) (l' : Array Bool) (hi : ops[i]? = some oi) (hN : oi.dst = N) (hS : S w) (hy' : ∀ w, S w → (execOp a.eval oi).run P w = .ok (.value v) w) (h : wpAnyLast P md ops Q S ds fuel l' a' w)
    (hc : takeB md ops ds l l' i = true := by kernel_rfl) (hQ : ∀ c a w, Q (.panic c) (a.put oi.dst v) w → Q (.panic c) a w := by exact fun _ _ _ h => h)
    (hy : Region.wanted oi (yielded ops a.tmps) = true := by rfl)
    (ha : a.put N v = a' := by simp only [Act.put, List.setIfInBounds_toArray, List.set_cons_zero, List.set_cons_succ, i64_w, i32_w]; rfl) : wpAnyLast P md ops Q S ds (fuel + 1) l a w :=
  take_ l' hi hN hc hQ (Or.inl ⟨hy, hy'⟩) hS ha h
theorem nK {P : Program} {ops : Array Oper} {Q : Exit → Act → World → Prop} {md : Region.Mode} {S : World → Prop} {ds : List Nat} {fuel : Nat} {l : Array Bool} {a a' : Act} {v : Value} {w : World} (N : Option Tmp) (h : wpAnyLast P md ops Q S ds fuel l a' w)
    (ha : a.put N v = a' := by simp only [Act.put, List.setIfInBounds_toArray, List.set_cons_zero, List.set_cons_succ, i64_w, i32_w]; rfl) : wpAnyLast P md ops Q S ds fuel l (a.put N v) w := norm_ ha h
theorem blk3 {w : World} {g : Nat} {t : TypeId} {x y z : Value} (h : w.heap[g]? = some (.cells #[x, y, z] t (0, 0))) : w.cell? ⟨g, 0, none⟩ = some x ∧ w.cell? ⟨g, 1, none⟩ = some y ∧ w.cell? ⟨g, 2, none⟩ = some z ∧ w.frozen? ⟨g, 0, none⟩ = false ∧ w.frozen? ⟨g, 1, none⟩ = false ∧ w.frozen? ⟨g, 2, none⟩ = false :=
  ⟨(blk_cell h 0).trans rfl, (blk_cell h 1).trans rfl, (blk_cell h 2).trans rfl, blk_frozen h 0, blk_frozen h 1, blk_frozen h 2⟩
theorem lerpTells_at (k : Nat) (A0 : Option Addr) (c0 : Nat) (l0 : List Int) (A1 : Option Addr) (c1 : Nat) (l1 : List Int) (t a0 a1 a2 b0 b1 b2 n : Int) (A5 : Option Addr) (c5 : Nat) (l5 l6 s : List S26) (w : World)
    (hr0 : Kd.C (Kd.int .i64) w A0 l0.length l0) (hc0 : l0.length ≤ c0) (hr1 : Kd.C (Kd.int .i64) w A1 l1.length l1) (hc1 : l1.length ≤ c1) (hr6 : Kd.C k26 w A5 l6.length l6) (hc6 : l6.length ≤ c5)
    (hcut : (decide (6 < l5.length) = true ∧ decide ((6 : Int) < (l5.length : Int)) = true ∧ ∀ W : World, (Instr.slice 27 (.slice A5 l5.length c5) none (some (.int .i64 6)) none).run Try.prog W = .ok (.slice A5 l6.length c5) W) ∨ (decide (6 < l5.length) = false ∧ decide ((6 : Int) < (l5.length : Int)) = false ∧ l6 = l5))
    (hS : marigraphkeep_Samples.f k l0 l1 20 = some s) (hW : marigraphbook_Within.f k t 0 500 = some n) (h1 : marigraphlaw22_at.f k s n = some true) (h2 : marigraphlaw22_at.f k s t = some true) (h3 : marigraphlaw22_at.f k l6 n = some true)
    (h4 : marigraphlaw22_between.f k (Int.tmod a0 1152921504606846976) a1 a2 (Int.tmod b0 1152921504606846976) b1 b2 (Int.tmod t 1152921504606846976) = some true) (hk : marigraphlaw22_known.f k = some true)
    (hb : 1 < s.length → ∃ q, wrap64 ((rd_T26 s 1).f0 + 1) = q ∧ 0 < q ∧ marigraphlaw22_between.f k (rd_T26 s 0).f0 (rd_T26 s 0).f1.f0 (rd_T26 s 0).f1.f1 (rd_T26 s 1).f0 (rd_T26 s 1).f1.f0 (rd_T26 s 1).f1.f1 (Int.tmod n q) = some true) :
    Calls Try.prog 3 #[.slice A0 l0.length c0, .slice A1 l1.length c1, .int .i64 t, .agg #[.int .i64 a0, .int .i64 a1, .int .i64 a2], .agg #[.int .i64 b0, .int .i64 b1, .int .i64 b2], .slice A5 l5.length c5] w fun e w' => e = .returned (.bool true) ∧ Below w.heap.size w w' := by
  have HB := Below.refl w.heap.size w
  have hu26 := Try.underlying26
  have hS := Aside0.mk hS
  have h1 := Aside0.mk h1
  have hW := Aside0.mk hW
  have h2 := Aside0.mk h2
  have h3 := Aside0.mk h3
  have h4 := Aside0.mk h4
  have hk := Aside0.mk hk
  have hb := Aside0.mk hb
  rcases hcut with ⟨hd, hd2, hcut⟩ | ⟨hd, hd2, rfl⟩
  all_goals
    go_enter Try.func3, Try.ntmps3
    go_wp2_with (first
      | (go_at_call 7; (with_reducible refine (marigraphbook_Within.calls k t 0 500 n _ hW.out).mono ?_); rintro e5 w5 ⟨rfl, ⟨nn, rfl⟩⟩)
      | (go_at_call 6; go_loud ((with_reducible refine (marigraphkeep_Samples.calls k A0 c0 l0 A1 c1 l1 20 s _ (Kd.C_below hr0 HB2) hc0 (Kd.C_below hr1 HB2) hc1 hS.out).mono ?_); rintro e4 w4 ⟨v, rfl, hR, hb4⟩; obtain ⟨As, cs, rfl⟩ := Kd.R_slice hR; have hCs := Kd.R_newB (Kd.R_newB hR x2) z2; have hcs := (Kd.R_reads' hR).2.1; have x3 := blk_below x2 hb4; have z3 := blk_below z2 hb4; have HB3 := below_step HB2 hb4; clear hb4 hR x2 z2))
      | ((with_reducible refine gate_dst (N := 9) rfl ?_); refine box_event ?hg (N := 9) ?hd (cs := #[.int .i64 a0, .int .i64 a1, .int .i64 a2]) (t := 26) ?hr ?_; (case hd => rfl); (case hg => rfl); (case hr => first | (go_simp; done) | (go_simp; rfl)); intro ga hga w2 x1 hb2; have HB1 := below_step HB hb2; have ga0 : w.heap.size ≤ ga := (by rw [hga]; exact Nat.le_refl _); clear hb2 hga)
      | ((with_reducible refine gate_dst (N := 10) rfl ?_); refine box_event ?hg2 (N := 10) ?hd2 (cs := #[.int .i64 b0, .int .i64 b1, .int .i64 b2]) (t := 26) ?hr2 ?_; (case hd2 => rfl); (case hg2 => rfl); (case hr2 => first | (go_simp; done) | (go_simp; rfl)); intro gb hgb w3 z2 hb3; have x2 := blk_below x1 hb3; have gne : ga ≠ gb := blk_ne1 hgb x1; have gb0 : w.heap.size ≤ gb := (by rw [hgb]; exact below_size HB1); have HB2 := below_step HB1 hb3; clear hb3 hgb x1 HB1))
    have x4 := blk_drewN x3 nn
    have z4 := blk_drewN z3 nn
    have HB4 := pw_below_drewN HB3 nn
    have hC4 := Kd.R_drewN hCs nn
    generalize w4.drewN nn = w5 at x4 z4 HB4 hC4 ⊢
    clear x3 z3 HB3 hCs
    by_cases hlen : 1 < s.length
    case' neg =>
      have hg1 : decide (1 < s.length) = false := decide_eq_false hlen
      have hg2 : decide ((1 : Int) < (s.length : Int)) = false := decide_eq_false (by omega)
      refine start_ (n := 20) (S := fun _ => True) (ds := []) #[false, false, false, false, false, false, false, false, false, false, false, false, false, false, false, false, false, false, false, false] (by kernel_rfl) rfl rfl trivial (fun _ => ?_)
      have x5 := blk_drew x4
      have z5 := blk_drew z4
      have HB5 := below_drew1 HB4
      have hC5 := Kd.R_drew hC4
      generalize w5.drew = w7 at x5 z5 HB5 hC5 ⊢
      clear x4 z4 HB4 hC4
      refine pK 0 (some 25) (bA 20 1) ?_
      refine pK 1 (some 26) (bA 20 3) ?_
      refine pK 2 (some 27) (bA 20 7) ?_
      refine pK 3 (some 28) (bA 20 15) ?_
      refine uK 4 (some 29) (bA 20 31) ?_
      refine uK 5 (some 30) (bA 20 63) ?_
      refine uK 6 (some 31) (bA 20 127) ?_
      refine uK 7 (some 32) (bA 20 255) ?_
      refine uK 8 (some 33) (bA 20 511) ?_
      refine uK 9 (some 34) (bA 20 1023) ?_
      refine uK 10 (some 35) (bA 20 2047) ?_
      refine uK 11 (some 36) (bA 20 4095) ?_
      refine uK 12 (some 37) (bA 20 8191) ?_
      refine uK 13 (some 38) (bA 20 16383) ?_
      refine uK 14 (some 39) (bA 20 32767) ?_
      refine uK 15 (some 40) (bA 20 65535) ?_
      refine uK 16 (some 41) (bA 20 131071) ?_
      refine uK 17 (some 42) (bA 20 262143) ?_
      refine uK 18 (some 43) (bA 20 524287) ?_
      refine pK 19 (some 44) (bA 20 1048575) ?_
      refine done_ (by kernel_rfl) ?_
    case' pos =>
      obtain ⟨q, hq, hq0, hbt⟩ := hb.out hlen
      have hg1 : decide (1 < s.length) = true := decide_eq_true hlen
      have hg2 : decide ((1 : Int) < (s.length : Int)) = true := decide_eq_true (by omega)
      have hg3 : (0 : Int) < (s.length : Int) := by omega
      have hg4 : (1 : Int) < (s.length : Int) := by omega
      have hg5 : 0 < s.length := by omega
      obtain ⟨ad, rfl, e0, e1, e2⟩ := at_T26 (Kd.R_reads' hC4).2.2 0 (by omega) hg3
      obtain ⟨ad_, had, f0, f1, f2⟩ := at_T26 (Kd.R_reads' hC4).2.2 1 (by omega) hg4
      cases had
      generalize rd_T26 s 0 = X at e0 e1 e2 hbt
      generalize rd_T26 s 1 = Y at f0 f1 f2 hbt hq
      rw [show ad.add ((0 : Int).toNat * 3) = ad from rfl] at e0 e1 e2
      rw [show ad.add ((1 : Int).toNat * 3) = ad.add 3 by rfl] at f0 f1 f2
      have hqz : ¬ q = 0 := by omega
      have hqw : IntKind.i64.wrap (Y.f0 + 1) = q := by rw [i64_w]; exact hq
      have hS4 : w5.drew.cell? ad = some (.int .i64 X.f0) ∧ w5.drew.cell? ⟨ad.block, ad.off + 1, none⟩ = some (.int .i64 X.f1.f0) ∧ w5.drew.cell? ⟨ad.block, ad.off + 2, none⟩ = some (.int .i64 X.f1.f1) ∧ w5.drew.cell? ⟨ad.block, ad.off + 3, none⟩ = some (.int .i64 Y.f0) ∧ w5.drew.cell? ⟨ad.block, ad.off + 3 + 1, none⟩ = some (.int .i64 Y.f1.f0) ∧ w5.drew.cell? ⟨ad.block, ad.off + 3 + 2, none⟩ = some (.int .i64 Y.f1.f1) := ⟨e0, e1, e2, f0, f1, f2⟩
      clear e0 e1 e2 f0 f1 f2
      refine start_ (n := 20) (S := fun w' => w'.cell? ad = some (.int .i64 X.f0) ∧ w'.cell? ⟨ad.block, ad.off + 1, none⟩ = some (.int .i64 X.f1.f0) ∧ w'.cell? ⟨ad.block, ad.off + 2, none⟩ = some (.int .i64 X.f1.f1) ∧ w'.cell? ⟨ad.block, ad.off + 3, none⟩ = some (.int .i64 Y.f0) ∧ w'.cell? ⟨ad.block, ad.off + 3 + 1, none⟩ = some (.int .i64 Y.f1.f0) ∧ w'.cell? ⟨ad.block, ad.off + 3 + 2, none⟩ = some (.int .i64 Y.f1.f1)) (ds := []) #[false, false, false, false, false, false, false, false, false, false, false, false, false, false, false, false, false, false, false, false] (by kernel_rfl) rfl rfl hS4 (fun hS5 => ?_)
      have x5' := blk_drew x4
      have z5' := blk_drew z4
      have HB5' := below_drew1 HB4
      have hC5' := Kd.R_drew hC4
      generalize w5.drew = w6 at x5' z5' HB5' hC5' hS5 ⊢
      clear x4 z4 HB4 hC4 hS4 hq
      refine pK 0 (some 25) (bA 20 1) ?_
      refine pK 1 (some 26) (bA 20 3) ?_
      refine pK 2 (some 27) (bA 20 7) ?_
      refine pK 3 (some 28) (bA 20 15) ?_
      refine pK 4 (some 29) (bA 20 31) ?_
      refine pK 5 (some 30) (bA 20 63) ?_
      refine tK 6 (some 31) (bA 20 127) rfl rfl hS5 (by rintro w' ⟨u0, u1, u2, u3, u4, u5⟩; go_simp; with_reducible rfl) ?_
      refine pK 7 (some 32) (bA 20 255) ?_
      refine pK 8 (some 33) (bA 20 511) ?_
      refine tK 9 (some 34) (bA 20 1023) rfl rfl hS5 (by rintro w' ⟨u0, u1, u2, u3, u4, u5⟩; go_simp; with_reducible rfl) ?_
      refine pK 10 (some 35) (bA 20 2047) ?_
      refine pK 11 (some 36) (bA 20 4095) ?_
      refine pK 12 (some 37) (bA 20 8191) ?_
      refine pK 13 (some 38) (bA 20 16383) ?_
      refine tK 14 (some 39) (bA 20 32767) rfl rfl hS5 (by rintro w' ⟨u0, u1, u2, u3, u4, u5⟩; go_simp; with_reducible rfl) ?_
      refine pK 15 (some 40) (bA 20 65535) ?_
      refine pK 16 (some 41) (bA 20 131071) ?_
      refine one_ (i := 17) (N := some 42) (bA 20 262143) rfl rfl (by kernel_rfl) (by decide) (fun K hK => ?_)
      refine goes_ Try.func8 (by kernel_rfl) rfl #[.agg #[.int .i64 X.f0, .int .i64 X.f1.f0, .int .i64 X.f1.f1], .agg #[.int .i64 Y.f0, .int .i64 Y.f1.f0, .int .i64 Y.f1.f1], .int .i64 (Int.tmod n q)] (by rfl) rfl rfl (by simp only [List.map_toArray, List.map_cons, List.map_nil]; rfl) ?_
      refine (marigraphlaw22_between.calls k X.f0 X.f1.f0 X.f1.f1 Y.f0 Y.f1.f0 Y.f1.f1 (Int.tmod n q) true w6 hbt).mono ?_
      rintro e7 w7 ⟨rfl, hb7⟩
      refine ⟨_, rfl, ?_⟩
      have x5 := blk_below x5' hb7
      have z5 := blk_below z5' hb7
      have HB5 := below_step HB5' hb7
      have hC5 := Kd.R_below hC5' hb7
      refine hK.out _ _ ⟨cellB hb7 hS5.1, cellB hb7 hS5.2.1, cellB hb7 hS5.2.2.1, cellB hb7 hS5.2.2.2.1, cellB hb7 hS5.2.2.2.2.1, cellB hb7 hS5.2.2.2.2.2⟩ (fun _ => ?_)
      clear hK K x5' z5' HB5' hC5' hb7 hS5 hbt hqz hqw
      refine nK (some 42) ?_
      refine pK 18 (some 43) (bA 20 524287) ?_
      refine pK 19 (some 44) (bA 20 1048575) ?_
      refine done_ (by kernel_rfl) ?_
  all_goals
    try clear hlen hg1 hg2
    go_wp2
    obtain ⟨zc0, zc1, zc2, zf0, zf1, zf2⟩ := blk3 z5
    have hS7 : w7.drew.cell? ⟨gb, 0, none⟩ = some (.int .i64 b0) := zc0
    clear zc0 zc1 zc2 zf0 zf1 zf2
    refine start_ (n := 10) (S := fun w' => w'.cell? ⟨gb, 0, none⟩ = some (.int .i64 b0)) (ds := [9]) #[false, false, false, false, false, false, false, false, false, false] (by kernel_rfl) rfl rfl hS7 (fun hS8 => ?_)
    have x6 := blk_drew x5
    have z6 := blk_drew z5
    have HB6 := below_drew1 HB5
    have hC6 := Kd.R_drew hC5
    generalize w7.drew = w8 at x6 z6 HB6 hC6 hS8 ⊢
    clear x5 z5 HB5 hC5 hS7
    refine pK 0 (some 45) (bA 10 1) ?_
    refine pK 3 (some 48) (bA 10 9) ?_
    refine tK 4 (some 49) (bA 10 25) rfl rfl hS8 (by intro w' u0; go_simp; with_reducible rfl) ?_
    refine pK 5 (some 50) (bA 10 57) ?_
    obtain ⟨xc0, xc1, xc2, xf0, xf1, xf2⟩ := blk3 x6
    refine one_ (i := 1) (N := some 46) (bA 10 59) rfl rfl (by kernel_rfl) (by decide) (fun K hK => ?_)
    refine value_ (w1 := w8) (v := .int .i64 a0) (by rfl) rfl (by go_simp) ?_
    refine hK.out _ _ hS8 (fun _ => ?_)
    clear hK K
    refine nK (some 46) ?_
    refine pK 2 (some 47) (bA 10 63) ?_
    refine pK 6 (some 51) (bA 10 127) ?_
    have x7 := blk_put x6 0 (.int .i64 (Int.tmod a0 1152921504606846976)) rfl
    have z7 := blk_far (p := ⟨ga, 0, none⟩) z6 (Ne.symm gne) (.int .i64 (Int.tmod a0 1152921504606846976))
    have HB7 := below_set (j := 0) (v := .int .i64 (Int.tmod a0 1152921504606846976)) HB6 ga0
    obtain ⟨zc0, zc1, zc2, zf0, zf1, zf2⟩ := blk3 z7
    refine one_ (i := 7) (N := none) (bA 10 255) rfl rfl (by kernel_rfl) (by decide) (fun K hK => ?_)
    refine skip_ (w1 := w8.setCell ⟨ga, 0, none⟩ (.int .i64 (Int.tmod a0 1152921504606846976))) (by rfl) rfl (by go_simp) ?_
    refine hK.out _ _ zc0 (fun _ => ?_)
    clear hK K xc0 xc1 xc2 xf0 xf1 xf2 hS8
    refine pK 8 (some 52) (bA 10 511) ?_
    refine last_ (i := 9) (N := none) (bA 10 1023) rfl rfl (by kernel_rfl) (by decide) (fun K hK => ?_)
    refine skip_ (w1 := (w8.setCell ⟨ga, 0, none⟩ (.int .i64 (Int.tmod a0 1152921504606846976))).setCell ⟨gb, 0, none⟩ (.int .i64 (Int.tmod b0 1152921504606846976))) (by rfl) rfl (by go_simp) ?_
    refine hK.out _ _ ?_
    clear hK K zc0 zc1 zc2 zf0 zf1 zf2
    have x8 := blk_far (p := ⟨gb, 0, none⟩) x7 gne (.int .i64 (Int.tmod b0 1152921504606846976))
    have z8 := blk_put z7 0 (.int .i64 (Int.tmod b0 1152921504606846976)) rfl
    have HB8 := below_set (j := 0) (v := .int .i64 (Int.tmod b0 1152921504606846976)) HB7 gb0
    have hC8 := Kd.R_far (p := ⟨gb, 0, none⟩) (Kd.R_far (p := ⟨ga, 0, none⟩) hC6 (fun _ hk => hk.1.2) (.int .i64 (Int.tmod a0 1152921504606846976))) (fun _ hk => hk.2) (.int .i64 (Int.tmod b0 1152921504606846976))
    refine done_ (by kernel_rfl) ?_
    generalize (w8.setCell ⟨ga, 0, none⟩ (.int .i64 (Int.tmod a0 1152921504606846976))).setCell ⟨gb, 0, none⟩ (.int .i64 (Int.tmod b0 1152921504606846976)) = w9 at x8 z8 HB8 hC8 ⊢
    clear x7 z7 HB7 x6 z6 HB6 hC6
    have hS9 := (Kd.R_reads' hC8).2.2
    go_wp2_with (first
      | (go_at_call 10; (with_reducible refine (marigraphlaw22_known.calls k true _ hk.out).mono ?_); rintro e14 w14 ⟨rfl, hb⟩; have HB14 := below_step HB13 hb; clear hb)
      | (go_at_call 8; (with_reducible refine (marigraphlaw22_between.calls k (Int.tmod a0 1152921504606846976) a1 a2 (Int.tmod b0 1152921504606846976) b1 b2 (Int.tmod t 1152921504606846976) true _ h4.out).mono ?_); rintro e13 w13 ⟨rfl, hb⟩; have HB13 := below_step HB12 hb; clear hb)
      | (go_at_call 9; (with_reducible refine (marigraphlaw22_at.calls k _ _ l6 n true _ (Kd.C_below hr6 HB11) hc6 h3.out).mono ?_); rintro e12 w12 ⟨rfl, hb⟩; have HB12 := below_step HB11 hb; have x12 := blk_below x11 hb; have z12 := blk_below z11 hb; obtain ⟨xc0, xc1, xc2, xf0, xf1, xf2⟩ := blk3 x12; obtain ⟨zc0, zc1, zc2, zf0, zf1, zf2⟩ := blk3 z12; clear hb)
      | (go_at_call 9; (with_reducible refine (marigraphlaw22_at.calls k _ _ s t true _ hS10 hcs h2.out).mono ?_); rintro e11 w11 ⟨rfl, hb⟩; have HB11 := below_step HB10 hb; have x11 := blk_below x10 hb; have z11 := blk_below z10 hb; clear hb)
      | (go_at_call 9; (with_reducible refine (marigraphlaw22_at.calls k _ _ s n true _ hS9 hcs h1.out).mono ?_); rintro e10 w10 ⟨rfl, hb⟩; have HB10 := below_step HB8 hb; have x10 := blk_below x8 hb; have z10 := blk_below z8 hb; have hS10 := Kd.C_below hS9 hb; clear hb))
    go_ret
    exact ⟨rfl, HB14⟩
/-- Samples out of their numbers. -/
def smps (f : Nat → Int × Int × Int) (n : Nat) : List S26 := (List.range n).map fun i => ⟨(f i).1, ⟨(f i).2.1, (f i).2.2⟩⟩
theorem smps_len (f : Nat → Int × Int × Int) (n : Nat) : (smps f n).length = n := by unfold smps; rw [List.length_map, List.length_range]
theorem smps_C {w : World} {a : Option Addr} {len cap : Nat} {f : Nat → Int × Int × Int} (hl : len ≤ cap) (hm : cap ≤ maxLen) (h : 0 < len → ∃ ad, a = some ad ∧ ∀ i, i < len → w.cell? (ad.add (i * 3)) = some (.int .i64 (f i).1) ∧ w.cell? (ad.add (i * 3 + 1)) = some (.int .i64 (f i).2.1) ∧ w.cell? (ad.add (i * 3 + 2)) = some (.int .i64 (f i).2.2)) :
    Kd.C k26 w a (smps f len).length (smps f len) := by
  refine ⟨rfl, by rw [smps_len]; unfold maxLen at hm; omega, fun hp => ?_⟩
  rw [smps_len] at hp
  obtain ⟨ad, ha, hc⟩ := h hp
  refine ⟨ad, ha, fun j p hj => ?_⟩
  have hlt : j < len := by
    have := (List.getElem?_eq_some_iff.1 hj).1
    rwa [smps_len] at this
  obtain ⟨e0, e1, e2⟩ := hc j hlt
  have hp2 : p = ⟨(f j).1, ⟨(f j).2.1, (f j).2.2⟩⟩ := by
    unfold smps at hj
    rw [List.getElem?_map, List.getElem?_range hlt] at hj
    exact (Option.some.inj hj).symm
  subst hp2
  refine ⟨[.int .i64 (f j).1, .int .i64 (f j).2.1, .int .i64 (f j).2.2], rfl, k26_mk w _, fun i u hu => ?_⟩
  match i, hu with
  | 0, hu => cases hu; exact e0
  | 1, hu => cases hu; exact e1
  | 2, hu => cases hu; exact e2
/-- THE ONE PURE STATEMENT of LerpTells. -/
def LerpTells.Pure : Prop := ∀ (l0 : List Int) (l1 : List Int) (t a0 a1 a2 b0 b1 b2 : Int) (l6 : List S26), (∀ x ∈ l0, (Lit.int .i64 x).wf = true) → (∀ x ∈ l1, (Lit.int .i64 x).wf = true) → (Lit.int .i64 t).wf = true → (Lit.int .i64 a0).wf = true → (Lit.int .i64 a1).wf = true → (Lit.int .i64 a2).wf = true → (Lit.int .i64 b0).wf = true → (Lit.int .i64 b1).wf = true → (Lit.int .i64 b2).wf = true → l6.length ≤ 6 → (∀ x ∈ l6, (Lit.int .i64 x.f0).wf = true ∧ (Lit.int .i64 x.f1.f0).wf = true ∧ (Lit.int .i64 x.f1.f1).wf = true) →
  ∃ k s n, marigraphkeep_Samples.f k l0 l1 20 = some s ∧ marigraphbook_Within.f k t 0 500 = some n ∧ marigraphlaw22_at.f k s n = some true ∧ marigraphlaw22_at.f k s t = some true ∧ marigraphlaw22_at.f k l6 n = some true ∧
    marigraphlaw22_between.f k (Int.tmod a0 1152921504606846976) a1 a2 (Int.tmod b0 1152921504606846976) b1 b2 (Int.tmod t 1152921504606846976) = some true ∧ marigraphlaw22_known.f k = some true ∧
    (1 < s.length → ∃ q, wrap64 ((rd_T26 s 1).f0 + 1) = q ∧ 0 < q ∧ marigraphlaw22_between.f k (rd_T26 s 0).f0 (rd_T26 s 0).f1.f0 (rd_T26 s 0).f1.f1 (rd_T26 s 1).f0 (rd_T26 s 1).f1.f0 (rd_T26 s 1).f1.f1 (Int.tmod n q) = some true)
theorem lerpTells_walk (P : LerpTells.Pure) (a0 : Option Addr) (len0 cap0 : Nat) (z0 : List Int) (a1 : Option Addr) (len1 cap1 : Nat) (z1 : List Int) (t x0 x1 x2 u0 u1 u2 : Int) (a4 : Option Addr) (len4 cap4 : Nat) (f : Nat → Int × Int × Int) (w : World)
    (w0 : (a0 = none ∧ len0 = 0 ∧ cap0 = 0 ∧ z0 = []) ∨ ∃ x, a0 = some x ∧ len0 ≤ cap0 ∧ cap0 ≤ maxLen ∧ z0.length = cap0 ∧ (∀ i, i < z0.length → w.cell? (x.add i) = some (.int .i64 (z0.getD i 0))) ∧ ∀ n ∈ z0, (Lit.int .i64 n).wf = true) (y0 : len0 * 8 ≤ 140737488351232)
    (w1 : (a1 = none ∧ len1 = 0 ∧ cap1 = 0 ∧ z1 = []) ∨ ∃ x, a1 = some x ∧ len1 ≤ cap1 ∧ cap1 ≤ maxLen ∧ z1.length = cap1 ∧ (∀ i, i < z1.length → w.cell? (x.add i) = some (.int .i64 (z1.getD i 0))) ∧ ∀ n ∈ z1, (Lit.int .i64 n).wf = true) (y1 : len1 * 8 ≤ 140737488351232)
    (wm : (Lit.int .i64 t).wf = true) (wx0 : (Lit.int .i64 x0).wf = true) (wx1 : (Lit.int .i64 x1).wf = true) (wx2 : (Lit.int .i64 x2).wf = true) (wu0 : (Lit.int .i64 u0).wf = true) (wu1 : (Lit.int .i64 u1).wf = true) (wu2 : (Lit.int .i64 u2).wf = true)
    (hl4 : len4 ≤ cap4) (hm4 : cap4 ≤ maxLen) (hc4 : 0 < len4 → ∃ ad, a4 = some ad ∧ ∀ i, i < len4 → w.cell? (ad.add (i * 3)) = some (.int .i64 (f i).1) ∧ w.cell? (ad.add (i * 3 + 1)) = some (.int .i64 (f i).2.1) ∧ w.cell? (ad.add (i * 3 + 2)) = some (.int .i64 (f i).2.2))
    (hw4 : ∀ i, i < len4 → (Lit.int .i64 (f i).1).wf = true ∧ (Lit.int .i64 (f i).2.1).wf = true ∧ (Lit.int .i64 (f i).2.2).wf = true) :
    Calls Try.prog 3 #[.slice a0 len0 cap0, .slice a1 len1 cap1, .int .i64 t, .agg #[.int .i64 x0, .int .i64 x1, .int .i64 x2], .agg #[.int .i64 u0, .int .i64 u1, .int .i64 u2], .slice a4 len4 cap4] w fun e w' => e = .returned (.bool true) ∧ Below w.heap.size w w' := by
  obtain ⟨l0, rfl, hr0, hm0, hw0, hc0⟩ := ReadsInt.ofRowC w0
  obtain ⟨l1, rfl, hr1, hm1, hw1, hc1⟩ := ReadsInt.ofRowC w1
  have hC := smps_C (f := f) hl4 hm4 hc4
  have hlen := smps_len f len4
  have hwf : ∀ x ∈ smps f len4, (Lit.int .i64 x.f0).wf = true ∧ (Lit.int .i64 x.f1.f0).wf = true ∧ (Lit.int .i64 x.f1.f1).wf = true := by
    intro x hx
    unfold smps at hx
    obtain ⟨i, hi, rfl⟩ := List.mem_map.1 hx
    exact hw4 i (List.mem_range.1 hi)
  generalize smps f len4 = l4 at hC hlen hwf
  subst hlen
  obtain ⟨i0, hi0, _, hsz, _⟩ := info_parts info26
  by_cases h6 : 6 < l4.length
  · have e6 : (l4.take 6).length = 6 := by rw [List.length_take]; omega
    obtain ⟨k, s, n, e1, e2, e3, e4, e5, e7, e8, e9⟩ := P l0 l1 t x0 x1 x2 u0 u1 u2 (l4.take 6) hw0 hw1 wm wx0 wx1 wx2 wu0 wu1 wu2 (by omega) (fun x hx => hwf x (List.mem_of_mem_take hx))
    have hcut := cut_to (P := Try.prog) 27 26 .i64 Try.underlying27 hi0 a4 l4.length cap4 6 (by omega) (by omega) hl4
    exact lerpTells_at k _ _ l0 _ _ l1 t x0 x1 x2 u0 u1 u2 n a4 cap4 l4 (l4.take 6) s w (Kd.C_of_reads (d := (0 : Int)) (h1 := fun _ => rfl) hr0) hc0 (Kd.C_of_reads (d := (0 : Int)) (h1 := fun _ => rfl) hr1) hc1 (Kd.C_take hC (by omega)) (by omega) (Or.inl ⟨decide_eq_true h6, decide_eq_true (by omega), by rw [e6]; exact hcut⟩) e1 e2 e3 e4 e5 e7 e8 e9
  · obtain ⟨k, s, n, e1, e2, e3, e4, e5, e7, e8, e9⟩ := P l0 l1 t x0 x1 x2 u0 u1 u2 l4 hw0 hw1 wm wx0 wx1 wx2 wu0 wu1 wu2 (by omega) hwf
    exact lerpTells_at k _ _ l0 _ _ l1 t x0 x1 x2 u0 u1 u2 n a4 cap4 l4 l4 s w (Kd.C_of_reads (d := (0 : Int)) (h1 := fun _ => rfl) hr0) hc0 (Kd.C_of_reads (d := (0 : Int)) (h1 := fun _ => rfl) hr1) hc1 hC hl4 (Or.inr ⟨decide_eq_false h6, decide_eq_false (by omega), rfl⟩) e1 e2 e3 e4 e5 e7 e8 e9
end Go.Proofs.Ytlmcnlaopolinaa.PLerpTells

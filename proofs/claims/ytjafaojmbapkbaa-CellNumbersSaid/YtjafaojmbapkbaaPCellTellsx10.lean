/- The walk of the Go functions that a law reaches, told as plain functions; a program of this session has written it. No condition beyond the statement's own. -/
import Derived.Test.YtjafaojmbapkbaaPCellTellsx0
import Derived.Test.YtjafaojmbapkbaaPCellTellsx1
import Derived.Test.YtjafaojmbapkbaaPCellTellsx2
import Derived.Test.YtjafaojmbapkbaaPCellTellsx3
import Derived.Test.YtjafaojmbapkbaaPCellTellsx4
import Derived.Test.YtjafaojmbapkbaaPCellTellsx5
import Derived.Test.YtjafaojmbapkbaaPCellTellsx6
import Derived.Test.YtjafaojmbapkbaaPCellTellsx7
import Derived.Test.YtjafaojmbapkbaaPCellTellsx8
namespace Go.Proofs.Ytjafaojmbapkbaa.PCellTells
open Go.RowKit Go.Proofs.YtjafaojmbapkbaaW.PrintWords Go.Proofs.YtjafaojmbapkbaaW.PrintLast Go.Proofs.YtjafaojmbapkbaaW.PrintMore
attribute [local go_sem] max2_int min2_int max_two min_two max_three min_three max_four min_four   -- for this text's walks alone
set_option linter.unusedVariables false
set_option linter.unusedSimpArgs false
/-- A step of a region that yields in every world; one whose guard is off; one that reads what is held. -/
theorem pK {P : Program} {ops : Array Oper} {Q : Exit → Act → World → Prop} {md : Region.Mode} {S : World → Prop} {ds : List Nat} {oi : Oper} {v : Value} {fuel : Nat} {l : Array Bool} {a a' : Act} {w : World} (i : Nat) (N : Option Tmp) (l' : Array Bool) (h : wpAnyLast P md ops Q S ds fuel l' a' w)
    (hi : ops[i]? = some oi := by rfl) (hN : oi.dst = N := by rfl) (hc : anyB md ops l l' i = true := by kernel_rfl) (hQ : ∀ c a w, Q (.panic c) (a.put oi.dst v) w → Q (.panic c) a w := by exact fun _ _ _ h => h)
    (hy : Region.wanted oi (yielded ops a.tmps) = true := by rfl) (hy' : ∀ w, (execOp a.eval oi).run P w = .ok (.value v) w := by intro w'; go_simp; with_reducible rfl)
    (ha : a.put N v = a' := by simp only [Act.put, List.setIfInBounds_toArray, List.set_cons_zero, List.set_cons_succ, i64_w, i32_w]; rfl) : wpAnyLast P md ops Q S ds (fuel + 1) l a w :=
  pure_ l' hi hN hc hQ (Or.inl ⟨hy, hy'⟩) ha h
theorem uK {P : Program} {ops : Array Oper} {Q : Exit → Act → World → Prop} {md : Region.Mode} {S : World → Prop} {ds : List Nat} {oi : Oper} {fuel : Nat} {l : Array Bool} {a a' : Act} {w : World} (i : Nat) (N : Option Tmp) (l' : Array Bool) (h : wpAnyLast P md ops Q S ds fuel l' a' w)
    (hi : ops[i]? = some oi := by rfl) (hN : oi.dst = N := by rfl) (hc : anyB md ops l l' i = true := by kernel_rfl) (hQ : ∀ c a w, Q (.panic c) (a.put oi.dst undef) w → Q (.panic c) a w := by exact fun _ _ _ h => h)
    (hy : Region.wanted oi (yielded ops a.tmps) = false := by rfl)
    (ha : a.put N undef = a' := by simp only [Act.put, List.setIfInBounds_toArray, List.set_cons_zero, List.set_cons_succ, i64_w, i32_w]; rfl) : wpAnyLast P md ops Q S ds (fuel + 1) l a w :=
  pure_ l' hi hN hc hQ (Or.inr ⟨hy, rfl⟩) ha h
theorem tK {P : Program} {ops : Array Oper} {Q : Exit → Act → World → Prop} {md : Region.Mode} {S : World → Prop} {ds : List Nat} {oi : Oper} {v : Value} {fuel : Nat} {l : Array Bool} {a a' : Act} {w : World} (i : Nat) (N : Option Tmp) (l' : Array Bool) (hi : ops[i]? = some oi) (hN : oi.dst = N) (hS : S w) (hy' : ∀ w, S w → (execOp a.eval oi).run P w = .ok (.value v) w) (h : wpAnyLast P md ops Q S ds fuel l' a' w)
    (hc : takeB md ops ds l l' i = true := by kernel_rfl) (hQ : ∀ c a w, Q (.panic c) (a.put oi.dst v) w → Q (.panic c) a w := by exact fun _ _ _ h => h)
    (hy : Region.wanted oi (yielded ops a.tmps) = true := by rfl)
    (ha : a.put N v = a' := by simp only [Act.put, List.setIfInBounds_toArray, List.set_cons_zero, List.set_cons_succ, i64_w, i32_w]; rfl) : wpAnyLast P md ops Q S ds (fuel + 1) l a w :=
  take_ l' hi hN hc hQ (Or.inl ⟨hy, hy'⟩) hS ha h
theorem nK {P : Program} {ops : Array Oper} {Q : Exit → Act → World → Prop} {md : Region.Mode} {S : World → Prop} {ds : List Nat} {fuel : Nat} {l : Array Bool} {a a' : Act} {v : Value} {w : World} (N : Option Tmp) (h : wpAnyLast P md ops Q S ds fuel l a' w)
    (ha : a.put N v = a' := by simp only [Act.put, List.setIfInBounds_toArray, List.set_cons_zero, List.set_cons_succ, i64_w, i32_w]; rfl) : wpAnyLast P md ops Q S ds fuel l (a.put N v) w := norm_ ha h
theorem blk3 {w : World} {g : Nat} {t : TypeId} {x y z : Value} (h : w.heap[g]? = some (.cells #[x, y, z] t (0, 0))) : w.cell? ⟨g, 0, none⟩ = some x ∧ w.cell? ⟨g, 1, none⟩ = some y ∧ w.cell? ⟨g, 2, none⟩ = some z ∧ w.frozen? ⟨g, 0, none⟩ = false ∧ w.frozen? ⟨g, 1, none⟩ = false ∧ w.frozen? ⟨g, 2, none⟩ = false :=
  ⟨(blk_cell h 0).trans rfl, (blk_cell h 1).trans rfl, (blk_cell h 2).trans rfl, blk_frozen h 0, blk_frozen h 1, blk_frozen h 2⟩
/-! ### marigraphlaw15.CellNumbers: function 3, by hand (in the case that all is true) -/
def cnV : List Int := [-2147483648, -2147483647, -32769, -32768, -129, -128, -1, 0, 127, 128, 32767, 32768, 2147483647, 2147483648, 1099511627776]
def cnO : List Int := [-1, 0, 1, 3599, 3600]
def cnP (i : Int) : S26 := ⟨wrap64 (i * 3), wrap64 (wrap64 (wrap64 (wrap64 (i * i) * i) * 200) - 40000)⟩
def cnL (n : Nat) : List S26 := (List.range n).map fun (i : Nat) => cnP (i : Int)
theorem cnL_len (n : Nat) : (cnL n).length = n := by unfold cnL; simp
theorem cnL_snoc (n : Nat) : cnL n ++ [cnP (n : Int)] = cnL (n + 1) := by unfold cnL; simp [List.range_succ]
theorem reps_ints {k : IntKind} {W : World} {base : Nat} {ok : Nat → Prop} : ∀ xs : List Int, Reps ((Kd.int k).M W base ok) (Kd.int k).sz xs (xs.map (Value.int k))
  | [] => Reps.none _ _
  | x :: xs => Reps.one rfl (reps_ints xs)
theorem cn_many_at (k : Nat) (A : Option Addr) (c n : Nat) (l : List S26) (w : World) (hn : l.length = n) (hr : Kd.C k26 w A n l) (hc : n ≤ c) (h : marigraphlaw15_many.f k l = some true) :
    Calls Try.prog 18 #[.slice A n c] w fun e w' => e = .returned (.bool true) ∧ Below w.heap.size w w' := by
  subst hn
  exact marigraphlaw15_many.calls k A c l true w hr hc h
theorem cn_parses_at (k : Nat) (A : Option Addr) (c n : Nat) (l : List Int) (A' : Option Addr) (c' n' : Nat) (l' : List Int) (w : World) (hn : l.length = n) (hr : Kd.C (Kd.int .u8) w A n l) (hc : n ≤ c) (hn' : l'.length = n') (hr' : Kd.C (Kd.int .u8) w A' n' l') (hc' : n' ≤ c') (h : marigraphlaw15_parses.f k l l' = some true) :
    Calls Try.prog 20 #[.slice A n c, .slice A' n' c'] w fun e w' => e = .returned (.bool true) ∧ Below w.heap.size w w' := by
  subst hn
  subst hn'
  exact marigraphlaw15_parses.calls k A c l A' c' l' true w hr hc hr' hc' h
structure CnFacts (k : Nat) (q v : List Int) : Prop where
  one : ∀ i j : Nat, i < cnV.length → j < cnO.length → marigraphlaw15_one.f k (rd cnO (j : Int)) (rd cnV (i : Int)) = some true
  width : ∀ i : Nat, i < cnV.length → ∃ r, cell_Width.f (rd cnV (i : Int)) = some r ∧ marigraphref15_Width.f k (rd cnV (i : Int)) = some r
  many : marigraphlaw15_many.f k [] = some true ∧ marigraphlaw15_many.f k ((cnL 66).take 1) = some true ∧ marigraphlaw15_many.f k ((cnL 66).take 2) = some true ∧ marigraphlaw15_many.f k ((cnL 66).take 64) = some true ∧ marigraphlaw15_many.f k ((cnL 66).take 65) = some true ∧ marigraphlaw15_many.f k [cnP 1, cnP 0] = some true ∧ marigraphlaw15_many.f k [cnP 1, cnP 1] = some true
  cell : marigraphref15_Cell.f k ((cnL 66).take 6) = some (q, v)
  ql : q.length < 1000
  vl : v.length < 1000
  cutv : ∀ n, n ≤ v.length → marigraphlaw15_parses.f k q (v.take n) = some true ∧ marigraphlaw15_parses.f k q (v ++ v.take n) = some true
  cutq : ∀ n, n ≤ q.length → marigraphlaw15_parses.f k (q.take n) v = some true ∧ marigraphlaw15_parses.f k (q.take n) [] = some true
  wide : ∀ h : Nat, h < 7 → ∃ x y, cell_Wide.f k 5 ((h : Int) - 1) = some x ∧ (if h = 2 ∨ h = 3 ∨ h = 5 then x.length = 2 ∧ marigraphref15_Wide.f k 5 ((h : Int) - 1) = some y ∧ (strOfNums x).toList = (strOfNums y).toList else x.length ≠ 2)
  none : cell_Wide.f k (-1) 1 = some [] ∧ cell_Wide.f k 3600 1 = some []
  some_ : marigraphlaw15_parses.f k [0, 17] [0, 5] = some true ∧ marigraphlaw15_parses.f k [0, 18] [0, 0, 5] = some true ∧ marigraphlaw15_parses.f k [0, 19] [128, 0, 0, 0] = some true
  known : marigraphlaw15_known.f k = some true
theorem C26_cells {w : World} {g n : Nat} {a b : S26} {l : List S26} (h : Kd.C k26 w (some ⟨g, 0, none⟩) n (a :: b :: l)) : w.cell? ⟨g, 0, none⟩ = some (.int .i64 a.f0) ∧ w.cell? ⟨g, 1, none⟩ = some (.int .i64 a.f1) ∧ w.cell? ⟨g, 2, none⟩ = some (.int .i64 b.f0) ∧ w.cell? ⟨g, 3, none⟩ = some (.int .i64 b.f1) := by
  have hn : n = l.length + 2 := h.1.symm
  obtain ⟨ad, e, p0, p1⟩ := at_T26 h 0 (by decide) (by omega)
  cases e
  obtain ⟨ad, e, p2, p3⟩ := at_T26 h 1 (by decide) (by omega)
  cases e
  exact ⟨p0, p1, p2, p3⟩
set_option maxHeartbeats 8000000 in
set_option maxRecDepth 100000 in
theorem cellNumbers_at (k : Nat) (q v : List Int) (w : World) (H : CnFacts k q v) :
    Calls Try.prog 3 #[] w fun e w' => e = .returned (.bool true) ∧ Below w.heap.size w w' := by
  have hu26 := Try.underlying26
  replace H := Aside0.mk H
  obtain ⟨cv, hcv⟩ : ∃ cv : List Int, cv = cnV := ⟨_, rfl⟩
  obtain ⟨co, hco⟩ : ∃ co : List Int, co = cnO := ⟨_, rfl⟩
  have hcl : Aside0 (cv.length = 15) := ⟨by rw [hcv]; rfl⟩
  have hol : Aside0 (co.length = 5) := ⟨by rw [hco]; rfl⟩
  replace hcv := Aside0.mk hcv
  replace hco := Aside0.mk hco
  go_enter Try.func3, Try.ntmps3
  go_upto_block 0 with (first | ((with_reducible refine gate_dst (N := 13) rfl ?_); refine Kd.R_lit (Kd.int .i64) (w0 := w) w.heap.size 2 ?hg (N := 13) ?hd (xs := ([-2147483648, -2147483647, -32769, -32768, -129, -128, -1, 0, 127, 128, 32767, 32768, 2147483647, 2147483648, 1099511627776] : List Int)) (inner := [.int .i64 (-2147483648), .int .i64 (-2147483647), .int .i64 (-32769), .int .i64 (-32768), .int .i64 (-129), .int .i64 (-128), .int .i64 (-1), .int .i64 0, .int .i64 127, .int .i64 128, .int .i64 32767, .int .i64 32768, .int .i64 2147483647, .int .i64 2147483648, .int .i64 1099511627776]) (ok := fun _ => True) (okp := fun _ => True) ?hr ?hp (fun _ hk => hk) trivial (Below.refl _ _) (Nat.le_refl _) (by simp) ?_; (case hd => rfl); (case hg => rfl); (case hr => first | (go_simp; done) | (go_simp; rfl)); (case hp => exact reps_ints _); intro v1 w1 ho1 hb1 hg_ hnew_; clear hg_ hnew_; rw [show ([-2147483648, -2147483647, -32769, -32768, -129, -128, -1, 0, 127, 128, 32767, 32768, 2147483647, 2147483648, 1099511627776] : List Int) = cv from hcv.out.symm] at ho1; obtain ⟨Av, cc, rfl⟩ := Kd.R_slice ho1))
  have hCV : Aside0 (∀ w', Below w1.heap.size w1 w' → Kd.C (Kd.int .i64) w' Av cv.length cv) := ⟨fun w' hb => Kd.C_below (Kd.R_reads' ho1).2.2 hb⟩
  have hB1 := Aside0.mk hb1
  clear ho1 hb1
  go_upto_region 13 with (fail)
  go_loopg [15] 16 (fun kq v15 w' => ∃ i : Nat, v15 = .int .i64 (i : Int) ∧ Aside0 (15 - i < kq ∧ i ≤ 15) ∧ Aside0 (Below w1.heap.size w1 w'))
  case atStart => exact ⟨0, rfl, ⟨by omega⟩, ⟨Below.refl _ _⟩⟩
  case round =>
    obtain ⟨i, rfl, hi, hB⟩ := hrel
    replace hi := hi.out
    replace hB := hB.out
    by_cases hn : i < 15
    · have d1 : decide ((i : Int) < (cv.length : Int)) = true := decide_eq_true (by rw [hcl.out]; omega)
      have d2 : decide (i < cv.length) = true := decide_eq_true (by rw [hcl.out]; omega)
      have d3 : (i < cv.length) = True := eq_true (by rw [hcl.out]; omega)
      have d4 : ((i : Int) < (cv.length : Int)) = True := eq_true (by rw [hcl.out]; omega)
      have d5 : (0 ≤ (i : Int)) = True := eq_true (by omega)
      have hin : Aside0 (i < cnV.length) := ⟨by rw [show cnV.length = 15 from rfl]; exact hn⟩
      have hnx : Aside0 (wrap64 ((i : Int) + 1) = ((i + 1 : Nat) : Int)) := ⟨by unfold wrap64; omega⟩
      have hnx2 : Aside0 ((((i : Int) + 1) : Int) = ((i + 1 : Nat) : Int)) := ⟨by omega⟩
      obtain ⟨ad, ead, hx⟩ := Kd.at_int (hCV.out wr hB) (i : Int) (Int.natCast_nonneg i) (by rw [hcl.out]; omega)
      rw [Int.toNat_natCast] at hx
      have hvi : Aside0 (rd cv (i : Int) = rd cnV (i : Int)) := ⟨by rw [hcv.out]⟩
      generalize rd cv (i : Int) = x at hx hvi
      cases ead
      replace hi := Aside0.mk hi
      replace hn := Aside0.mk hn
      go_upto_block 2 with (first | ((with_reducible refine gate_dst (N := 19) rfl ?_); refine Kd.R_lit (Kd.int .i64) (w0 := wr) wr.heap.size 3 ?hg (N := 19) ?hd (xs := ([-1, 0, 1, 3599, 3600] : List Int)) (inner := [.int .i64 (-1), .int .i64 0, .int .i64 1, .int .i64 3599, .int .i64 3600]) (ok := fun _ => True) (okp := fun _ => True) ?hr ?hp (fun _ hk => hk) trivial (Below.refl _ _) (Nat.le_refl _) (by simp) ?_; (case hd => rfl); (case hg => rfl); (case hr => first | (go_simp; done) | (go_simp; rfl)); (case hp => exact reps_ints _); intro v2 w2 ho2 hb2 hg_ hnew_; clear hg_ hnew_; rw [show ([-1, 0, 1, 3599, 3600] : List Int) = co from hco.out.symm] at ho2; obtain ⟨Ao, oc, rfl⟩ := Kd.R_slice ho2))
      clear hx d1 d2 d3 d4
      have hCO : Aside0 (∀ w', Below w2.heap.size w2 w' → Kd.C (Kd.int .i64) w' Ao co.length co) := ⟨fun w' hb => Kd.C_below (Kd.R_reads' ho2).2.2 hb⟩
      have hB2 := Aside0.mk (below_step hB hb2)
      clear ho2 hb2 hB
      go_upto_region 10 with (fail)
      go_loopg [21] 6 (fun kq v21 w' => ∃ j : Nat, v21 = .int .i64 (j : Int) ∧ Aside0 (5 - j < kq ∧ j ≤ 5) ∧ Aside0 (Below w2.heap.size w2 w'))
      case atStart => exact ⟨0, rfl, ⟨by omega⟩, ⟨Below.refl _ _⟩⟩
      case round =>
        obtain ⟨j, rfl, hj, hB⟩ := hrel
        replace hj := hj.out
        replace hB := hB.out
        --CUT1
        by_cases hm : j < 5
        · have d1 : decide ((j : Int) < (co.length : Int)) = true := decide_eq_true (by rw [hol.out]; omega)
          have d2 : decide (j < co.length) = true := decide_eq_true (by rw [hol.out]; omega)
          have d3 : (j < co.length) = True := eq_true (by rw [hol.out]; omega)
          have d4 : ((j : Int) < (co.length : Int)) = True := eq_true (by rw [hol.out]; omega)
          have d5' : (0 ≤ (j : Int)) = True := eq_true (by omega)
          have hny : Aside0 (wrap64 ((j : Int) + 1) = ((j + 1 : Nat) : Int)) := ⟨by unfold wrap64; omega⟩
          have hny2 : Aside0 ((((j : Int) + 1) : Int) = ((j + 1 : Nat) : Int)) := ⟨by omega⟩
          obtain ⟨ad, ead, hx⟩ := Kd.at_int (hCO.out wr hB) (j : Int) (Int.natCast_nonneg j) (by rw [hol.out]; omega)
          rw [Int.toNat_natCast] at hx
          have e1 : marigraphlaw15_one.f k (rd co (j : Int)) x = some true := by rw [hvi.out, hco.out]; exact H.out.one i j hin.out (by rw [show cnO.length = 5 from rfl]; exact hm)
          generalize rd co (j : Int) = y at hx e1
          cases ead
          replace e1 := Aside0.mk e1
          replace hj := Aside0.mk hj
          replace hm := Aside0.mk hm
          go_wp2_with (go_at_call 15; refine (marigraphlaw15_one.calls k y x true _ e1.out).mono ?_; rintro e w3 ⟨rfl, hb3⟩; have hE := Aside0.mk (below_step hB hb3); clear hb3)
          go_roundg (5 - j)
          case measure => exact hj.out.1
          case rel => exact ⟨j + 1, (by first | rfl | exact congrArg (Value.int .i64) hny.out | exact congrArg (Value.int .i64) hny2.out), ⟨by have := hm.out; omega⟩, hE⟩
        · have d1 : decide ((j : Int) < (co.length : Int)) = false := decide_eq_false (by rw [hol.out]; omega)
          have d2 : decide (j < co.length) = false := decide_eq_false (by rw [hol.out]; omega)
          obtain ⟨rr, w1_, w2_⟩ := H.out.width i hin.out
          rw [← hvi.out] at w1_ w2_
          replace w1_ := Aside0.mk w1_
          replace w2_ := Aside0.mk w2_
          have hE := Aside0.mk (below_step hB2.out hB)
          clear hj hm hB
          go_wp2_with (first | (go_at_call 17; (with_reducible refine (marigraphref15_Width.calls k x rr _ w2_.out).mono ?_); rintro e w4 ⟨rfl, hd4⟩; have hE2 := Aside0.mk (below_step hE1.out hd4.below); clear hd4) | (go_at_call 16; (with_reducible refine (cell_Width.calls x rr _ w1_.out).mono ?_); rintro e w3 ⟨rfl, hd3⟩; have hE1 := Aside0.mk (below_step hE.out hd3.below); clear hd3))
          go_roundg (15 - i)
          case measure => exact hi.out.1
          case rel => exact ⟨i + 1, (by first | rfl | exact congrArg (Value.int .i64) hnx.out | exact congrArg (Value.int .i64) hnx2.out), ⟨by have := hn.out; omega⟩, hE2⟩
    · have d1 : decide ((i : Int) < (cv.length : Int)) = false := decide_eq_false (by rw [hcl.out]; omega)
      have d2 : decide (i < cv.length) = false := decide_eq_false (by rw [hcl.out]; omega)
      have hB3 := Aside0.mk (below_step hB1.out hB)
      clear hi hn hB hCV hB1
      generalize wr = w3 at hB3 ⊢
      go_upto_region 18 with (fail)
      clear d1 d2
      go_loopg [5, 6] 67 (fun kq v5 v6 w' => ∃ n : Nat, v6 = .int .i64 (n : Int) ∧ Aside0 (66 - n < kq ∧ n ≤ 66) ∧ Aside0 (Kd.R k26 26 w' w3.heap.size (fun _ => True) v5 (cnL n)) ∧ Aside0 (Below w3.heap.size w3 w'))
      case atStart => exact ⟨0, rfl, ⟨by omega⟩, ⟨Kd.R_nil _ _ _ _ _⟩, ⟨Below.refl _ _⟩⟩
      case round =>
      obtain ⟨n, rfl, hn, hR, hB⟩ := hrel
      replace hn := hn.out
      obtain ⟨Ab, cb, rfl⟩ := Kd.R_slice hR.out
      by_cases hm : n < 66
      · have d1 : decide ((n : Int) < 66) = true := decide_eq_true (by omega)
        have d2 : decide (n < 66) = true := decide_eq_true hm
        have hnx : Aside0 (wrap64 ((n : Int) + 1) = ((n + 1 : Nat) : Int)) := ⟨by unfold wrap64; omega⟩
        have hnx2 : Aside0 ((((n : Int) + 1) : Int) = ((n + 1 : Nat) : Int)) := ⟨by omega⟩
        have g1 : wrap64 ((n : Int) * 3) = (cnP (n : Int)).f0 := rfl
        replace hn := Aside0.mk hn
        replace hm := Aside0.mk hm
        go_upto_region 17 with (fail)
        clear d1 d2 g1
        go_wp2_with ((with_reducible refine gate_builtin (b := .append) (xs := #[.tmp 41, .tmp 52]) rfl ?_); at_builtin; refine Kd.R_append k26 (w0 := w3) w3.heap.size rfl (.tmp 41) (.tmp 52) 28 26 (.agg #[(.int .i64 0), (.int .i64 0)]) 16 rfl Try.underlying28 info26 rfl (by decide) (by omega) (.slice Ab (cnL n).length cb) (cnL n) (cnP (n : Int)) [.int .i64 (wrap64 ((n : Int) * 3)), .int .i64 (wrap64 (wrap64 (wrap64 (wrap64 ((n : Int) * (n : Int)) * (n : Int)) * 200) - 40000))] (fun _ => True) (fun _ => False) rfl rfl ?aP (fun _ hk => hk.elim) ?aF ?aO ?aB ?aS ?aL ?_; (case aP => exact k26_mkM _ _ _ (cnP (n : Int))); (case aB => exact hB.out); (case aF => exact (fun _ _ => trivial)); (case aO => exact hR.out); (case aS => exact (below_size hB.out)); (case aL => rw [cnL_len]; have := hm.out; omega); intro v9 w9 ho hb9 hg hat; rw [cnL_snoc] at ho; have hR9 := Aside0.mk ho; have hE := Aside0.mk hb9; clear hg hat ho hb9)
        go_roundg (66 - n)
        case measure => exact hn.out.1
        case rel => exact ⟨n + 1, (by first | rfl | exact congrArg (Value.int .i64) hnx.out | exact congrArg (Value.int .i64) hnx2.out), ⟨by have := hm.out; omega⟩, hR9, hE⟩
      · obtain rfl : n = 66 := by omega
        have d1 : decide (((66 : Nat) : Int) < 66) = false := by decide
        clear hn hm
        go_upto_region 18 with (fail)
        clear d1
        --CUT2
        have hL := Eq.refl (cnL 66)
        generalize hLL : cnL 66 = L at hR ⊢
        clear hL
        have hLn : Aside0 (L.length = 66) := ⟨by rw [← hLL]; exact cnL_len 66⟩
        have hL2 : ∃ r, L = cnP 0 :: cnP 1 :: r := by rw [← hLL]; exact ⟨_, rfl⟩
        obtain ⟨gL, cL, eL, hgL, hlL, cs, hcs⟩ := Kd.R_form hR.out (by rw [hLn.out]; decide)
        simp only [Value.slice.injEq] at eL
        obtain ⟨rfl, -, rfl⟩ := eL
        obtain ⟨hm0, hm1, hm2, hm3, hm4, hm5, hm6⟩ := H.out.many
        have hcell := H.out.cell
        rw [hLL] at hm1 hm2 hm3 hm4 hcell
        replace hm0 := Aside0.mk hm0
        replace hm1 := Aside0.mk hm1
        replace hm2 := Aside0.mk hm2
        replace hm3 := Aside0.mk hm3
        replace hm4 := Aside0.mk hm4
        replace hm5 := Aside0.mk hm5
        replace hm6 := Aside0.mk hm6
        replace hcell := Aside0.mk hcell
        have hcL : Aside0 (66 ≤ cb) := ⟨by have := (Kd.R_reads' hR.out).2.1; rw [hLn.out] at this; exact this⟩
        have hCL := (Kd.R_reads' hR.out).2.2
        have hB4 := Aside0.mk (below_step hB3.out hB.out)
        generalize wr = w4 at hCL hB4 ⊢
        have cellL : ∀ w', Below w4.heap.size w4 w' → Kd.C k26 w' (some ⟨gL, 0, none⟩) L.length L := fun w' hb => Kd.C_below hCL hb
        have hLt : ∀ n, n ≤ 66 → (L.take n).length = n := fun n hn => List.length_take_of_le (by rw [hLn.out]; exact hn)
        have cellLt : ∀ w', Below w4.heap.size w4 w' → ∀ n, n ≤ 66 → Kd.C k26 w' (some ⟨gL, 0, none⟩) n (L.take n) := fun w' hb n hn => by
          have h := Kd.C_take (cellL w' hb) (m := n) (by rw [hLn.out]; exact hn)
          rwa [hLt n hn] at h
        have cellP : ∀ w', Below w4.heap.size w4 w' → w'.cell? ⟨gL, 0, none⟩ = some (.int .i64 (cnP 0).f0) ∧ w'.cell? ⟨gL, 1, none⟩ = some (.int .i64 (cnP 0).f1) ∧ w'.cell? ⟨gL, 2, none⟩ = some (.int .i64 (cnP 1).f0) ∧ w'.cell? ⟨gL, 3, none⟩ = some (.int .i64 (cnP 1).f1) := fun w' hb => by
          obtain ⟨r, hr⟩ := hL2
          have h := cellL w' hb
          rw [hr] at h
          exact C26_cells h
        obtain ⟨i26, hi26, -⟩ := Option.map_eq_some_iff.1 info26
        have hct : ∀ n : Nat, n ≤ 66 → ∀ W : World, (Instr.slice 28 (.slice (some ⟨gL, 0, none⟩) L.length cb) none (some (.int .i64 (n : Int))) none).run Try.prog W = .ok (.slice (some ⟨gL, 0, none⟩) n cb) W := fun n hn W => by
          have h := cut_to (P := Try.prog) 28 26 .i64 Try.underlying28 hi26 (some ⟨gL, 0, none⟩) L.length cb (n : Int) (by omega) (by rw [hLn.out]; omega) (by rw [hLn.out]; exact hcL.out) W
          rw [Int.toNat_natCast] at h
          exact h
        have ct1 := hct 1 (by decide)
        have ct2 := hct 2 (by decide)
        have ct3 := hct 64 (by decide)
        have ct4 := hct 65 (by decide)
        have ct6 := hct 6 (by decide)
        simp only [Int.cast_ofNat_Int] at ct1 ct2 ct3 ct4 ct6
        have gi0 : ((0 : Int) < (L.length : Int)) = True := eq_true (by rw [hLn.out]; decide)
        have gi1 : ((1 : Int) < (L.length : Int)) = True := eq_true (by rw [hLn.out]; decide)
        have gj0 : (0 < L.length) = True := eq_true (by rw [hLn.out]; decide)
        have gj1 : (1 < L.length) = True := eq_true (by rw [hLn.out]; decide)
        clear hct hB hR hlL hcs hi26 hCL hgL
        refine start_ (n := 48) (S := fun w' => Below w4.heap.size w4 w') (ds := []) (bA 48 0) (by kernel_rfl) rfl rfl (below_drew1 (Below.refl _ _)) (fun hHeld => ?_)
        refine norm_ (by rfl) ?_
        refine one_ (i := 0) (N := (some 54)) (bA 48 1) rfl rfl (by kernel_rfl) (by decide) (fun K hK => ?_)
        refine goes_ Try.func18 (by kernel_rfl) rfl #[.slice none 0 0] (by rfl) rfl rfl (by simp only [List.map_toArray, List.map_cons, List.map_nil]; rfl) ?_
        refine (cn_many_at k none 0 0 [] _ rfl (Kd.C_nil k26 _) (Nat.le_refl _) hm0.out).mono ?_
        rintro e u1 ⟨rfl, hb1⟩
        refine ⟨_, rfl, ?_⟩
        have hH1 := below_step hHeld hb1
        refine hK.out _ _ hH1 (fun hHeld => ?_)
        clear hK K
        refine nK (some 54) ?_
        refine pK 1 (some 55) (bA 48 3) ?_
        refine pK 2 (some 56) (bA 48 7) ?_
        refine pK 3 (some 57) (bA 48 15) ?_
        refine pK 4 (some 58) (bA 48 31) ?_
        refine one_ (i := 5) (N := (some 59)) (bA 48 63) rfl rfl (by kernel_rfl) (by decide) (fun K hK => ?_)
        refine goes_ Try.func18 (by kernel_rfl) rfl #[.slice (some ⟨gL, 0, none⟩) 1 cb] (by rfl) rfl rfl (by simp only [List.map_toArray, List.map_cons, List.map_nil]; rfl) ?_
        refine (cn_many_at k (some ⟨gL, 0, none⟩) cb 1 (L.take 1) _ (hLt 1 (by omega)) (cellLt _ hHeld 1 (by omega)) (by have := hcL.out; omega) hm1.out).mono ?_
        rintro e u2 ⟨rfl, hb2⟩
        refine ⟨_, rfl, ?_⟩
        have hH2 := below_step hHeld hb2
        refine hK.out _ _ hH2 (fun hHeld => ?_)
        clear hK K
        refine nK (some 59) ?_
        refine pK 6 (some 60) (bA 48 127) ?_
        refine pK 7 (some 61) (bA 48 255) ?_
        refine pK 8 (some 62) (bA 48 511) ?_
        refine pK 9 (some 63) (bA 48 1023) ?_
        refine pK 10 (some 64) (bA 48 2047) ?_
        refine one_ (i := 11) (N := (some 65)) (bA 48 4095) rfl rfl (by kernel_rfl) (by decide) (fun K hK => ?_)
        refine goes_ Try.func18 (by kernel_rfl) rfl #[.slice (some ⟨gL, 0, none⟩) 2 cb] (by rfl) rfl rfl (by simp only [List.map_toArray, List.map_cons, List.map_nil]; rfl) ?_
        refine (cn_many_at k (some ⟨gL, 0, none⟩) cb 2 (L.take 2) _ (hLt 2 (by omega)) (cellLt _ hHeld 2 (by omega)) (by have := hcL.out; omega) hm2.out).mono ?_
        rintro e u3 ⟨rfl, hb3⟩
        refine ⟨_, rfl, ?_⟩
        have hH3 := below_step hHeld hb3
        refine hK.out _ _ hH3 (fun hHeld => ?_)
        clear hK K
        refine nK (some 65) ?_
        refine pK 12 (some 66) (bA 48 8191) ?_
        refine pK 13 (some 67) (bA 48 16383) ?_
        refine pK 14 (some 68) (bA 48 32767) ?_
        refine pK 15 (some 69) (bA 48 65535) ?_
        refine pK 16 (some 70) (bA 48 131071) ?_
        refine one_ (i := 17) (N := (some 71)) (bA 48 262143) rfl rfl (by kernel_rfl) (by decide) (fun K hK => ?_)
        refine goes_ Try.func18 (by kernel_rfl) rfl #[.slice (some ⟨gL, 0, none⟩) 64 cb] (by rfl) rfl rfl (by simp only [List.map_toArray, List.map_cons, List.map_nil]; rfl) ?_
        refine (cn_many_at k (some ⟨gL, 0, none⟩) cb 64 (L.take 64) _ (hLt 64 (by omega)) (cellLt _ hHeld 64 (by omega)) (by have := hcL.out; omega) hm3.out).mono ?_
        rintro e u4 ⟨rfl, hb4⟩
        refine ⟨_, rfl, ?_⟩
        have hH4 := below_step hHeld hb4
        refine hK.out _ _ hH4 (fun hHeld => ?_)
        clear hK K
        refine nK (some 71) ?_
        refine pK 18 (some 72) (bA 48 524287) ?_
        refine pK 19 (some 73) (bA 48 1048575) ?_
        refine pK 20 (some 74) (bA 48 2097151) ?_
        refine pK 21 (some 75) (bA 48 4194303) ?_
        refine pK 22 (some 76) (bA 48 8388607) ?_
        refine one_ (i := 23) (N := (some 77)) (bA 48 16777215) rfl rfl (by kernel_rfl) (by decide) (fun K hK => ?_)
        refine goes_ Try.func18 (by kernel_rfl) rfl #[.slice (some ⟨gL, 0, none⟩) 65 cb] (by rfl) rfl rfl (by simp only [List.map_toArray, List.map_cons, List.map_nil]; rfl) ?_
        refine (cn_many_at k (some ⟨gL, 0, none⟩) cb 65 (L.take 65) _ (hLt 65 (by omega)) (cellLt _ hHeld 65 (by omega)) (by have := hcL.out; omega) hm4.out).mono ?_
        rintro e u5 ⟨rfl, hb5⟩
        refine ⟨_, rfl, ?_⟩
        have hH5 := below_step hHeld hb5
        refine hK.out _ _ hH5 (fun hHeld => ?_)
        clear hK K
        refine nK (some 77) ?_
        refine pK 24 (some 78) (bA 48 33554431) ?_
        refine pK 25 (some 79) (bA 48 67108863) ?_
        refine pK 26 (some 80) (bA 48 134217727) ?_
        refine pK 27 (some 81) (bA 48 268435455) ?_
        refine pK 28 (some 82) (bA 48 536870911) ?_
        refine tK 29 (some 83) (bA 48 1073741823) rfl rfl hHeld (by intro w' hb; obtain ⟨s0, s1, s2, s3⟩ := cellP w' hb; go_simp; with_reducible rfl) ?_
        refine pK 30 (some 84) (bA 48 2147483647) ?_
        refine pK 31 (some 85) (bA 48 4294967295) ?_
        refine tK 32 (some 86) (bA 48 8589934591) rfl rfl hHeld (by intro w' hb; obtain ⟨s0, s1, s2, s3⟩ := cellP w' hb; go_simp; with_reducible rfl) ?_
        refine one_ (i := 33) (N := (some 87)) (bA 48 17179869183) rfl rfl (by kernel_rfl) (by decide) (fun K hK => ?_)
        refine Kd.R_lit_step k26 (w0 := w4) w4.heap.size 26 (by rfl) (N := 87) rfl (xs := ([cnP 1, cnP 0] : List S26)) (inner := [.int .i64 (cnP 1).f0, .int .i64 (cnP 1).f1, .int .i64 (cnP 0).f0, .int .i64 (cnP 0).f1]) (ok := fun _ => True) (okp := fun _ => True) ?hr ?hp (fun _ hk => hk) trivial hHeld (below_size hHeld) (by simp) ?_
        case hr => first | (go_simp; done) | (go_simp; rfl)
        case hp => exact (Reps.c2 (show Kd.M k26 _ _ _ (cnP 1) [.int .i64 (cnP 1).f0, .int .i64 (cnP 1).f1] from k26_mkM _ _ _ _) (Reps.c2 (show Kd.M k26 _ _ _ (cnP 0) [.int .i64 (cnP 0).f0, .int .i64 (cnP 0).f1] from k26_mkM _ _ _ _) (Reps.none _ _)))
        intro v6 u6 ho6 hb6 hg6 _
        obtain ⟨An6, cn6, rfl⟩ := Kd.R_slice ho6
        have hC6 := (Kd.R_reads' ho6).2
        refine hK.out _ _ hb6 (fun hHeld => ?_)
        clear hK K
        refine nK (some 87) ?_
        refine one_ (i := 34) (N := (some 88)) (bA 48 34359738367) rfl rfl (by kernel_rfl) (by decide) (fun K hK => ?_)
        refine goes_ Try.func18 (by kernel_rfl) rfl #[.slice An6 ([cnP 1, cnP 0] : List S26).length cn6] (by rfl) rfl rfl (by simp only [List.map_toArray, List.map_cons, List.map_nil]; rfl) ?_
        refine (marigraphlaw15_many.calls k An6 cn6 [cnP 1, cnP 0] true _ hC6.2 hC6.1 hm5.out).mono ?_
        rintro e u7 ⟨rfl, hb7⟩
        refine ⟨_, rfl, ?_⟩
        have hH7 := below_step hHeld hb7
        refine hK.out _ _ hH7 (fun hHeld => ?_)
        clear hK K
        refine nK (some 88) ?_
        refine pK 35 (some 89) (bA 48 68719476735) ?_
        refine pK 36 (some 90) (bA 48 137438953471) ?_
        refine pK 37 (some 91) (bA 48 274877906943) ?_
        refine pK 38 (some 92) (bA 48 549755813887) ?_
        refine pK 39 (some 93) (bA 48 1099511627775) ?_
        refine tK 40 (some 94) (bA 48 2199023255551) rfl rfl hHeld (by intro w' hb; obtain ⟨s0, s1, s2, s3⟩ := cellP w' hb; go_simp; with_reducible rfl) ?_
        refine pK 41 (some 95) (bA 48 4398046511103) ?_
        refine pK 42 (some 96) (bA 48 8796093022207) ?_
        refine tK 43 (some 97) (bA 48 17592186044415) rfl rfl hHeld (by intro w' hb; obtain ⟨s0, s1, s2, s3⟩ := cellP w' hb; go_simp; with_reducible rfl) ?_
        refine one_ (i := 44) (N := (some 98)) (bA 48 35184372088831) rfl rfl (by kernel_rfl) (by decide) (fun K hK => ?_)
        refine Kd.R_lit_step k26 (w0 := w4) w4.heap.size 26 (by rfl) (N := 98) rfl (xs := ([cnP 1, cnP 1] : List S26)) (inner := [.int .i64 (cnP 1).f0, .int .i64 (cnP 1).f1, .int .i64 (cnP 1).f0, .int .i64 (cnP 1).f1]) (ok := fun _ => True) (okp := fun _ => True) ?hr ?hp (fun _ hk => hk) trivial hHeld (below_size hHeld) (by simp) ?_
        case hr => first | (go_simp; done) | (go_simp; rfl)
        case hp => exact (Reps.c2 (show Kd.M k26 _ _ _ (cnP 1) [.int .i64 (cnP 1).f0, .int .i64 (cnP 1).f1] from k26_mkM _ _ _ _) (Reps.c2 (show Kd.M k26 _ _ _ (cnP 1) [.int .i64 (cnP 1).f0, .int .i64 (cnP 1).f1] from k26_mkM _ _ _ _) (Reps.none _ _)))
        intro v8 u8 ho8 hb8 hg8 _
        obtain ⟨An8, cn8, rfl⟩ := Kd.R_slice ho8
        have hC8 := (Kd.R_reads' ho8).2
        refine hK.out _ _ hb8 (fun hHeld => ?_)
        clear hK K
        refine nK (some 98) ?_
        refine one_ (i := 45) (N := (some 99)) (bA 48 70368744177663) rfl rfl (by kernel_rfl) (by decide) (fun K hK => ?_)
        refine goes_ Try.func18 (by kernel_rfl) rfl #[.slice An8 ([cnP 1, cnP 1] : List S26).length cn8] (by rfl) rfl rfl (by simp only [List.map_toArray, List.map_cons, List.map_nil]; rfl) ?_
        refine (marigraphlaw15_many.calls k An8 cn8 [cnP 1, cnP 1] true _ hC8.2 hC8.1 hm6.out).mono ?_
        rintro e u9 ⟨rfl, hb9⟩
        refine ⟨_, rfl, ?_⟩
        have hH9 := below_step hHeld hb9
        refine hK.out _ _ hH9 (fun hHeld => ?_)
        clear hK K
        refine nK (some 99) ?_
        refine pK 46 (some 100) (bA 48 140737488355327) ?_
        refine pK 47 (some 101) (bA 48 281474976710655) ?_
        refine done_ (by kernel_rfl) ?_
        --CUT3
        clear hm0 hm1 hm2 hm3 hm4 hm5 hm6 cellP ct1 ct2 ct3 ct4 gi0 gi1 gj0 gj1 hL2
        have hl6 := hLt 6 (by decide)
        have h66 : (6 : Nat) ≤ cb := by have := hcL.out; omega
        have cell6 := cellLt _ hHeld 6 (by decide)
        go_upto_block 6 with (go_at_call 19; refine (by have h := marigraphref15_Cell.calls k (some ⟨gL, 0, none⟩) cb (L.take 6) q v _ (by rw [hl6]; exact cell6) (by rw [hl6]; exact h66) hcell.out; rw [hl6] at h; exact h : Calls Try.prog 19 #[.slice (some ⟨gL, 0, none⟩) 6 cb] _ _).mono ?_; rintro e w5 ⟨vq, vv, rfl, hq, hv, hb5⟩; obtain ⟨Aq, cq, rfl⟩ := Kd.R_slice hq; obtain ⟨Av_, cv_, rfl⟩ := Kd.R_slice hv)
        have hB5 := Aside0.mk (below_step hB4.out (below_step hHeld hb5))
        have cellq : Aside0 (∀ w', Below w5.heap.size w5 w' → Kd.C (Kd.int .u8) w' Aq q.length q) := ⟨fun w' hb => Kd.C_below (Kd.R_reads' hq).2.2 hb⟩
        have cellv : Aside0 (∀ w', Below w5.heap.size w5 w' → Kd.C (Kd.int .u8) w' Av_ v.length v) := ⟨fun w' hb => Kd.C_below (Kd.R_reads' hv).2.2 hb⟩
        have hcq : Aside0 (q.length ≤ cq) := ⟨(Kd.R_reads' hq).2.1⟩
        have hcv_ : Aside0 (v.length ≤ cv_) := ⟨(Kd.R_reads' hv).2.1⟩
        clear hq hv hb5 hHeld cell6 hl6 h66 ct6 cellL hLt cellLt hcell
        obtain ⟨i5, hi5, -⟩ := Option.map_eq_some_iff.1 info5
        have hcutv : Aside0 (∀ n : Nat, n ≤ v.length → ∀ W : World, (Instr.slice 30 (.slice Av_ v.length cv_) none (some (.int .i64 (n : Int))) none).run Try.prog W = .ok (.slice Av_ n cv_) W) := ⟨fun n hn W => by
          have h := cut_to (P := Try.prog) 30 5 .i64 Try.underlying30 hi5 Av_ v.length cv_ (n : Int) (by omega) (by omega) hcv_.out W
          rw [Int.toNat_natCast] at h
          exact h⟩
        have hcutq : Aside0 (∀ n : Nat, n ≤ q.length → ∀ W : World, (Instr.slice 30 (.slice Aq q.length cq) none (some (.int .i64 (n : Int))) none).run Try.prog W = .ok (.slice Aq n cq) W) := ⟨fun n hn W => by
          have h := cut_to (P := Try.prog) 30 5 .i64 Try.underlying30 hi5 Aq q.length cq (n : Int) (by omega) (by omega) hcq.out W
          rw [Int.toNat_natCast] at h
          exact h⟩
        clear hi5
        go_upto_region 26 with (fail)
        go_loopg [9] (v.length + 2) (fun kq v9 w' => ∃ j : Nat, v9 = .int .i64 (j : Int) ∧ Aside0 (v.length + 1 - j < kq ∧ j ≤ v.length + 1) ∧ Aside0 (Below w5.heap.size w5 w'))
        case atStart => exact ⟨0, rfl, ⟨by omega⟩, ⟨Below.refl _ _⟩⟩
        case round =>
        obtain ⟨j, rfl, hj, hB⟩ := hrel
        replace hj := hj.out
        replace hB := hB.out
        by_cases hn : j ≤ v.length
        · have d1 : decide ((j : Int) ≤ (v.length : Int)) = true := decide_eq_true (by omega)
          have d2 : decide (j ≤ v.length) = true := decide_eq_true hn
          have hjl : Aside0 (j ≤ v.length) := ⟨hn⟩
          replace hj := Aside0.mk hj
          clear hn
          go_upto_region 24 with (fail)
          clear d1 d2
          have hlj : Aside0 ((v.take j).length = j) := ⟨List.length_take_of_le hjl.out⟩
          have hjc : Aside0 (j ≤ cv_) := ⟨Nat.le_trans hjl.out hcv_.out⟩
          have cellj : Aside0 (∀ w', Below w5.heap.size w5 w' → Kd.C (Kd.int .u8) w' Av_ j (v.take j)) := ⟨fun w' hb => by have h := Kd.C_take (cellv.out w' hb) hjl.out; rwa [hlj.out] at h⟩
          have hcut := hcutv.out j hjl.out
          refine start_ (n := 18) (S := fun w' => Below w5.heap.size w5 w') (ds := []) (bA 18 0) (by kernel_rfl) rfl rfl (below_drew1 hB) (fun hHeld => ?_)
          refine norm_ (by rfl) ?_
          refine pK 0 (some 114) (bA 18 1) ?_
          refine pK 1 (some 115) (bA 18 3) ?_
          refine pK 2 (some 116) (bA 18 7) ?_
          refine pK 3 (some 117) (bA 18 15) ?_
          refine one_ (i := 4) (N := (some 118)) (bA 18 31) rfl rfl (by kernel_rfl) (by decide) (fun K hK => ?_)
          refine goes_ Try.func20 (by kernel_rfl) rfl #[.slice Aq q.length cq, .slice Av_ j cv_] (by rfl) rfl rfl (by simp only [List.map_toArray, List.map_cons, List.map_nil]; rfl) ?_
          refine (cn_parses_at k Aq cq q.length q Av_ cv_ j (v.take j) _ rfl (cellq.out _ hHeld) hcq.out hlj.out (cellj.out _ hHeld) hjc.out (H.out.cutv j hjl.out).1).mono ?_
          rintro e u6 ⟨rfl, hb6⟩
          refine ⟨_, rfl, ?_⟩
          have hH6 := below_step hHeld hb6
          refine hK.out _ _ hH6 (fun hHeld => ?_)
          clear hK K
          refine nK (some 118) ?_
          refine pK 5 (some 119) (bA 18 63) ?_
          refine pK 6 (some 120) (bA 18 127) ?_
          refine pK 7 (some 121) (bA 18 255) ?_
          refine pK 9 (some 123) (bA 18 767) ?_
          refine pK 11 (some 125) (bA 18 2815) ?_
          refine pK 12 (some 126) (bA 18 6911) ?_
          refine pK 13 (some 127) (bA 18 15103) ?_
          refine one_ (i := 8) (N := (some 122)) (bA 18 15359) rfl rfl (by kernel_rfl) (by decide) (fun K hK => ?_)
          refine Kd.R_lit_step (Kd.int .u8) (w0 := w5) w5.heap.size 5 (by rfl) (N := 122) rfl (xs := ([] : List Int)) (inner := []) (ok := fun _ => True) (okp := fun _ => True) ?hr ?hp (fun _ hk => hk) trivial hHeld (below_size hHeld) (by simp) ?_
          case hr => first | (go_simp; done) | (go_simp; rfl)
          case hp => exact Reps.none _ _
          intro v7 u7 ho7 hb7 hg7 _
          refine hK.out _ _ hb7 (fun hHeld => ?_)
          clear hK K
          refine nK (some 122) ?_
          refine one_ (i := 10) (N := (some 124)) (bA 18 16383) rfl rfl (by kernel_rfl) (by decide) (fun K hK => ?_)
          refine Kd.R_append_rows_step (Kd.int .u8) (w0 := w5) w5.heap.size (by rfl) (.tmp 122) (.tmp 123) 30 5 (.int .u8 0) 1 rfl Try.underlying30 info5 rfl (by decide) (by omega) v7 ([] : List Int) v Av_ v.length cv_ (fun _ => True) (fun _ => False) rfl rfl ho7 (cellv.out _ hHeld) (fun _ _ h => h) (fun _ h => h.elim) (fun _ _ => trivial) hHeld (below_size hHeld) (by have := H.out.vl; simp only [List.length_nil]; omega) ?_
          intro v8 u8 ho8 hb8 hg8 _
          rw [List.nil_append] at ho8
          refine hK.out _ _ hb8 (fun hHeld => ?_)
          clear hK K
          refine nK (some 124) ?_
          refine one_ (i := 14) (N := (some 128)) (bA 18 32767) rfl rfl (by kernel_rfl) (by decide) (fun K hK => ?_)
          refine Kd.R_append_rows_step (Kd.int .u8) (w0 := w5) w5.heap.size (by rfl) (.tmp 124) (.tmp 127) 30 5 (.int .u8 0) 1 rfl Try.underlying30 info5 rfl (by decide) (by omega) v8 v (v.take j) Av_ j cv_ (fun _ => True) (fun _ => False) rfl rfl ho8 (cellj.out _ hHeld) (fun _ _ h => h) (fun _ h => h.elim) (fun _ _ => trivial) hHeld (below_size hHeld) (by have := H.out.vl; have := hjl.out; omega) ?_
          intro v9 u9 ho9 hb9 hg9 _
          obtain ⟨Az, cz, rfl⟩ := Kd.R_slice ho9
          have hzC := (Kd.R_reads' ho9).2
          refine hK.out _ _ hb9 (fun hHeld => ?_)
          clear hK K
          refine nK (some 128) ?_
          refine one_ (i := 15) (N := (some 129)) (bA 18 65535) rfl rfl (by kernel_rfl) (by decide) (fun K hK => ?_)
          refine goes_ Try.func20 (by kernel_rfl) rfl #[.slice Aq q.length cq, .slice Az (v ++ v.take j).length cz] (by rfl) rfl rfl (by simp only [List.map_toArray, List.map_cons, List.map_nil]; rfl) ?_
          refine (marigraphlaw15_parses.calls k Aq cq q Az cz (v ++ v.take j) true _ (cellq.out _ hHeld) hcq.out hzC.2 hzC.1 (H.out.cutv j hjl.out).2).mono ?_
          rintro e u10 ⟨rfl, hb10⟩
          refine ⟨_, rfl, ?_⟩
          have hH10 := below_step hHeld hb10
          refine hK.out _ _ hH10 (fun hHeld => ?_)
          clear hK K
          refine nK (some 129) ?_
          refine pK 16 (some 130) (bA 18 131071) ?_
          refine pK 17 (some 131) (bA 18 262143) ?_
          refine done_ (by kernel_rfl) ?_
          clear hcut hzC
          have hE := Aside0.mk hHeld
          have hx : Aside0 (wrap64 ((j : Int) + 1) = ((j + 1 : Nat) : Int)) := ⟨by have := hjl.out; have := H.out.vl; unfold wrap64; omega⟩
          have hx2 : Aside0 ((((j : Int) + 1) : Int) = ((j + 1 : Nat) : Int)) := ⟨by omega⟩
          clear hHeld hB
          go_wp2
          go_roundg (v.length + 1 - j)
          case measure => exact hj.out.1
          case rel => exact ⟨j + 1, (by first | rfl | exact congrArg (Value.int .i64) hx.out | exact congrArg (Value.int .i64) hx2.out), ⟨by have := hjl.out; omega⟩, hE⟩
        · have d1 : decide ((j : Int) ≤ (v.length : Int)) = false := decide_eq_false (by omega)
          have d2 : decide (j ≤ v.length) = false := decide_eq_false hn
          replace hB := Aside0.mk hB
          clear hj hn
          go_upto_region 31 with (fail)
          clear d1 d2
          go_loopg [10] (q.length + 2) (fun kq v10 w' => ∃ j : Nat, v10 = .int .i64 (j : Int) ∧ Aside0 (q.length + 1 - j < kq ∧ j ≤ q.length + 1) ∧ Aside0 (Below w5.heap.size w5 w'))
          case atStart => exact ⟨0, rfl, ⟨by omega⟩, hB⟩
          case round =>
          clear hB
          obtain ⟨m, rfl, hj, hB⟩ := hrel
          replace hj := hj.out
          replace hB := hB.out
          by_cases hn : m ≤ q.length
          · have d1 : decide ((m : Int) ≤ (q.length : Int)) = true := decide_eq_true (by omega)
            have d2 : decide (m ≤ q.length) = true := decide_eq_true hn
            have hjl : Aside0 (m ≤ q.length) := ⟨hn⟩
            replace hj := Aside0.mk hj
            clear hn
            have hlj : Aside0 ((q.take m).length = m) := ⟨List.length_take_of_le hjl.out⟩
            have hjc : Aside0 (m ≤ cq) := ⟨Nat.le_trans hjl.out hcq.out⟩
            have cellj : Aside0 (∀ w', Below w5.heap.size w5 w' → Kd.C (Kd.int .u8) w' Aq m (q.take m)) := ⟨fun w' hb => by have h := Kd.C_take (cellq.out w' hb) hjl.out; rwa [hlj.out] at h⟩
            have hcut := hcutq.out m hjl.out
            have hx : Aside0 (wrap64 ((m : Int) + 1) = ((m + 1 : Nat) : Int)) := ⟨by have := hjl.out; have := H.out.ql; unfold wrap64; omega⟩
            have hx2 : Aside0 ((((m : Int) + 1) : Int) = ((m + 1 : Nat) : Int)) := ⟨by omega⟩
            replace hB := Aside0.mk hB
            go_wp2_with (first
              | (go_at_call 20; (with_reducible refine (cn_parses_at k Aq cq m (q.take m) none 0 0 [] _ hlj.out (cellj.out _ F6) hjc.out rfl (Kd.C_nil _ _) (Nat.le_refl _) (H.out.cutq m hjl.out).2).mono ?_); rintro e u7 ⟨rfl, hb7⟩; have F7 := Aside0.mk (below_step F6 hb7); clear hb7)
              | (go_at_call 20; (with_reducible refine (cn_parses_at k Aq cq m (q.take m) Av_ cv_ v.length v _ hlj.out (cellj.out _ hB.out) hjc.out rfl (cellv.out _ hB.out) hcv_.out (H.out.cutq m hjl.out).1).mono ?_); rintro e u6 ⟨rfl, hb6⟩; have F6 := below_step hB.out hb6; clear hb6))
            go_roundg (q.length + 1 - m)
            case measure => exact hj.out.1
            case rel => exact ⟨m + 1, (by first | rfl | exact congrArg (Value.int .i64) hx.out | exact congrArg (Value.int .i64) hx2.out), ⟨by have := hjl.out; omega⟩, F7⟩
          · have d1 : decide ((m : Int) ≤ (q.length : Int)) = false := decide_eq_false (by omega)
            have d2 : decide (m ≤ q.length) = false := decide_eq_false hn
            replace hB := Aside0.mk hB
            clear hj hn
            --CUT4
            go_upto_region 37 with (fail)
            clear d1 d2
            go_loopg [11] 8 (fun kq v11 w' => ∃ h : Nat, v11 = .int .i64 ((h : Int) - 1) ∧ Aside0 (7 - h < kq ∧ h ≤ 7) ∧ Aside0 (Below w5.heap.size w5 w'))
            case atStart => exact ⟨0, rfl, ⟨by omega⟩, hB⟩
            case round =>
            clear hB
            obtain ⟨h, rfl, hj, hB⟩ := hrel
            replace hB := hB.out
            have hh := hj.out.2
            obtain rfl | rfl | rfl | rfl | rfl | rfl | rfl | rfl : h = 0 ∨ h = 1 ∨ h = 2 ∨ h = 3 ∨ h = 4 ∨ h = 5 ∨ h = 6 ∨ h = 7 := by omega
            all_goals clear hh
            · obtain ⟨xw, yw, hw1_, hw2⟩ := H.out.wide 0 (by decide)
              have hw1 : cell_Wide.f k 5 (-1) = some xw := hw1_
              clear hw1_
              rw [if_neg (by decide)] at hw2
              have l1 : ((xw.length : Int) == 2) = false := by rw [beq_eq_false_iff_ne]; intro h_; exact hw2 (by omega)
              clear hw2
              replace hw1 := Aside0.mk hw1
              go_upto_region 35 with (fail)
              refine start_ (n := 18) (S := fun w' => Below w5.heap.size w5 w') (ds := []) (bA 18 0) (by kernel_rfl) rfl rfl (below_drew1 hB) (fun hHeld => ?_)
              refine norm_ (by rfl) ?_
              refine pK 0 (some 165) (bA 18 1) ?_
              refine pK 4 (some 169) (bA 18 17) ?_
              refine one_ (i := 1) (N := (some 166)) (bA 18 19) rfl rfl (by kernel_rfl) (by decide) (fun K hK => ?_)
              refine goes_ Try.func21 (by kernel_rfl) rfl #[.int .i64 5, .int .i64 (-1)] (by rfl) rfl rfl (by simp only [List.map_toArray, List.map_cons, List.map_nil]; rfl) ?_
              refine (cell_Wide.calls k 5 (-1) xw _ hw1.out).mono ?_
              rintro e u21 ⟨z21, rfl, hz21, hb21⟩
              obtain ⟨B21, c21, rfl⟩ := Kd.R_slice hz21
              have hzc21 := (Kd.R_reads' hz21).2.2
              refine ⟨_, rfl, ?_⟩
              have hH21 := below_step hHeld hb21
              refine hK.out _ _ hH21 (fun hHeld => ?_)
              clear hK K
              refine nK (some 166) ?_
              refine pK 2 (some 167) (bA 18 23) ?_
              refine pK 3 (some 168) (bA 18 31) ?_
              refine pK 5 (some 170) (bA 18 63) ?_
              refine pK 6 (some 171) (bA 18 127) ?_
              refine pK 7 (some 172) (bA 18 255) ?_
              refine pK 8 (some 173) (bA 18 511) ?_
              refine uK 9 (some 174) (bA 18 1023) ?_
              refine uK 10 (some 175) (bA 18 2047) ?_
              refine uK 11 (some 176) (bA 18 4095) ?_
              refine uK 12 (some 177) (bA 18 8191) ?_
              refine uK 13 (some 178) (bA 18 16383) ?_
              refine uK 14 (some 179) (bA 18 32767) ?_
              refine uK 15 (some 180) (bA 18 65535) ?_
              refine pK 16 (some 181) (bA 18 131071) ?_
              refine pK 17 (some 182) (bA 18 262143) ?_
              refine done_ (by kernel_rfl) ?_
              replace hHeld := Aside0.mk hHeld
              clear hB
              go_wp2
              go_roundg (7 - 0)
              case measure => exact hj.out.1
              case rel => exact ⟨1, rfl, ⟨by omega⟩, hHeld⟩
            · obtain ⟨xw, yw, hw1_, hw2⟩ := H.out.wide 1 (by decide)
              have hw1 : cell_Wide.f k 5 0 = some xw := hw1_
              clear hw1_
              rw [if_neg (by decide)] at hw2
              have l1 : ((xw.length : Int) == 2) = false := by rw [beq_eq_false_iff_ne]; intro h_; exact hw2 (by omega)
              clear hw2
              replace hw1 := Aside0.mk hw1
              go_upto_region 35 with (fail)
              refine start_ (n := 18) (S := fun w' => Below w5.heap.size w5 w') (ds := []) (bA 18 0) (by kernel_rfl) rfl rfl (below_drew1 hB) (fun hHeld => ?_)
              refine norm_ (by rfl) ?_
              refine pK 0 (some 165) (bA 18 1) ?_
              refine pK 4 (some 169) (bA 18 17) ?_
              refine one_ (i := 1) (N := (some 166)) (bA 18 19) rfl rfl (by kernel_rfl) (by decide) (fun K hK => ?_)
              refine goes_ Try.func21 (by kernel_rfl) rfl #[.int .i64 5, .int .i64 0] (by rfl) rfl rfl (by simp only [List.map_toArray, List.map_cons, List.map_nil]; rfl) ?_
              refine (cell_Wide.calls k 5 0 xw _ hw1.out).mono ?_
              rintro e u21 ⟨z21, rfl, hz21, hb21⟩
              obtain ⟨B21, c21, rfl⟩ := Kd.R_slice hz21
              have hzc21 := (Kd.R_reads' hz21).2.2
              refine ⟨_, rfl, ?_⟩
              have hH21 := below_step hHeld hb21
              refine hK.out _ _ hH21 (fun hHeld => ?_)
              clear hK K
              refine nK (some 166) ?_
              refine pK 2 (some 167) (bA 18 23) ?_
              refine pK 3 (some 168) (bA 18 31) ?_
              refine pK 5 (some 170) (bA 18 63) ?_
              refine pK 6 (some 171) (bA 18 127) ?_
              refine pK 7 (some 172) (bA 18 255) ?_
              refine pK 8 (some 173) (bA 18 511) ?_
              refine uK 9 (some 174) (bA 18 1023) ?_
              refine uK 10 (some 175) (bA 18 2047) ?_
              refine uK 11 (some 176) (bA 18 4095) ?_
              refine uK 12 (some 177) (bA 18 8191) ?_
              refine uK 13 (some 178) (bA 18 16383) ?_
              refine uK 14 (some 179) (bA 18 32767) ?_
              refine uK 15 (some 180) (bA 18 65535) ?_
              refine pK 16 (some 181) (bA 18 131071) ?_
              refine pK 17 (some 182) (bA 18 262143) ?_
              refine done_ (by kernel_rfl) ?_
              replace hHeld := Aside0.mk hHeld
              clear hB
              go_wp2
              go_roundg (7 - 1)
              case measure => exact hj.out.1
              case rel => exact ⟨2, rfl, ⟨by omega⟩, hHeld⟩
            · obtain ⟨xw, yw, hw1_, hw2⟩ := H.out.wide 2 (by decide)
              have hw1 : cell_Wide.f k 5 1 = some xw := hw1_
              clear hw1_
              rw [if_pos (by decide)] at hw2
              obtain ⟨hwl, hw2_, hwe⟩ := hw2
              have hw2 : marigraphref15_Wide.f k 5 1 = some yw := hw2_
              have l1 : ((xw.length : Int) == 2) = true := by rw [hwl]; rfl
              have l2 : ((strOfNums xw).toList == (strOfNums yw).toList) = true := by simpa using hwe
              replace hw2 := Aside0.mk hw2
              clear hwl hwe hw2_
              replace hw1 := Aside0.mk hw1
              go_upto_region 35 with (fail)
              refine start_ (n := 18) (S := fun w' => Below w5.heap.size w5 w') (ds := []) (bA 18 0) (by kernel_rfl) rfl rfl (below_drew1 hB) (fun hHeld => ?_)
              refine norm_ (by rfl) ?_
              refine pK 0 (some 165) (bA 18 1) ?_
              refine pK 4 (some 169) (bA 18 17) ?_
              refine one_ (i := 1) (N := (some 166)) (bA 18 19) rfl rfl (by kernel_rfl) (by decide) (fun K hK => ?_)
              refine goes_ Try.func21 (by kernel_rfl) rfl #[.int .i64 5, .int .i64 1] (by rfl) rfl rfl (by simp only [List.map_toArray, List.map_cons, List.map_nil]; rfl) ?_
              refine (cell_Wide.calls k 5 1 xw _ hw1.out).mono ?_
              rintro e u21 ⟨z21, rfl, hz21, hb21⟩
              obtain ⟨B21, c21, rfl⟩ := Kd.R_slice hz21
              have hzc21 := (Kd.R_reads' hz21).2.2
              refine ⟨_, rfl, ?_⟩
              have hH21 := below_step hHeld hb21
              refine hK.out _ _ hH21 (fun hHeld => ?_)
              clear hK K
              refine nK (some 166) ?_
              refine pK 2 (some 167) (bA 18 23) ?_
              refine pK 3 (some 168) (bA 18 31) ?_
              refine pK 5 (some 170) (bA 18 63) ?_
              refine pK 6 (some 171) (bA 18 127) ?_
              refine pK 7 (some 172) (bA 18 255) ?_
              refine pK 8 (some 173) (bA 18 511) ?_
              refine pK 9 (some 174) (bA 18 1023) ?_
              refine pK 12 (some 177) (bA 18 5119) ?_
              refine one_ (i := 10) (N := (some 175)) (bA 18 6143) rfl rfl (by kernel_rfl) (by decide) (fun K hK => ?_)
              refine goes_ Try.func21 (by kernel_rfl) rfl #[.int .i64 5, .int .i64 1] (by rfl) rfl rfl (by simp only [List.map_toArray, List.map_cons, List.map_nil]; rfl) ?_
              refine (cell_Wide.calls k 5 1 xw _ hw1.out).mono ?_
              rintro e u22 ⟨z22, rfl, hz22, hb22⟩
              obtain ⟨B22, c22, rfl⟩ := Kd.R_slice hz22
              have hzc22 := (Kd.R_reads' hz22).2.2
              refine ⟨_, rfl, ?_⟩
              have hH22 := below_step hHeld hb22
              refine hK.out _ _ hH22 (fun hHeld => ?_)
              clear hK K
              refine nK (some 175) ?_
              refine two_ (i := 11) (j := 13) (Ni := some 176) (Nj := some 178) (bA 18 8191) (bA 18 14335) rfl rfl rfl rfl (by kernel_rfl) (by decide) (by decide) (fun K hK => ?_) (fun K hK => ?_)
              · refine value_ (v := .string (strOfNums xw)) rfl rfl (by have e_ := Kd.C_string (P := Try.prog) (c := c22) Try.underlying30 Try.underlying5 Try.underlying9 hzc22; go_simp; with_reducible rfl) ?_
                refine hK.out _ _ hHeld (fun hHeld => ?_)
                clear hK K
                refine nK (some 176) ?_
                refine one_ (i := 13) (N := some 178) (bA 18 16383) rfl rfl (by kernel_rfl) (by decide) (fun K hK => ?_)
                refine goes_ Try.func22 (by kernel_rfl) rfl #[.int .i64 5, .int .i64 1] (by rfl) rfl rfl (by simp only [List.map_toArray, List.map_cons, List.map_nil]; rfl) ?_
                refine (marigraphref15_Wide.calls k 5 1 yw _ hw2.out).mono ?_
                rintro e u23 ⟨z23, rfl, hz23, hb23⟩
                obtain ⟨B23, c23, rfl⟩ := Kd.R_slice hz23
                have hzc23 := (Kd.R_reads' hz23).2.2
                refine ⟨_, rfl, ?_⟩
                have hH23 := below_step hHeld hb23
                refine hK.out _ _ hH23 (fun hHeld => ?_)
                clear hK K
                refine nK (some 178) ?_
                refine one_ (i := 14) (N := some 179) (bA 18 32767) rfl rfl (by kernel_rfl) (by decide) (fun K hK => ?_)
                refine value_ (v := .string (strOfNums yw)) rfl rfl (by have e_ := Kd.C_string (P := Try.prog) (c := c23) Try.underlying30 Try.underlying5 Try.underlying9 hzc23; go_simp; with_reducible rfl) ?_
                refine hK.out _ _ hHeld (fun hHeld => ?_)
                clear hK K
                refine nK (some 179) ?_
                refine pK 15 (some 180) (bA 18 65535) ?_
                refine pK 16 (some 181) (bA 18 131071) ?_
                refine pK 17 (some 182) (bA 18 262143) ?_
                refine done_ (by kernel_rfl) ?_
                replace hHeld := Aside0.mk hHeld
                clear hB
                go_wp2
                go_roundg (7 - 2)
                case measure => exact hj.out.1
                case rel => exact ⟨3, rfl, ⟨by omega⟩, hHeld⟩
              · refine goes_ Try.func22 (by kernel_rfl) rfl #[.int .i64 5, .int .i64 1] (by rfl) rfl rfl (by simp only [List.map_toArray, List.map_cons, List.map_nil]; rfl) ?_
                refine (marigraphref15_Wide.calls k 5 1 yw _ hw2.out).mono ?_
                rintro e u23 ⟨z23, rfl, hz23, hb23⟩
                obtain ⟨B23, c23, rfl⟩ := Kd.R_slice hz23
                have hzc23 := (Kd.R_reads' hz23).2.2
                refine ⟨_, rfl, ?_⟩
                have hH23 := below_step hHeld hb23
                refine hK.out _ _ hH23 (fun hHeld => ?_)
                clear hK K
                refine nK (some 178) ?_
                have hzc22' := Kd.C_below hzc22 hb23
                refine two_ (i := 11) (j := 14) (Ni := some 176) (Nj := some 179) (bA 18 16383) (bA 18 30719) rfl rfl rfl rfl (by kernel_rfl) (by decide) (by decide) (fun K hK => ?_) (fun K hK => ?_)
                · refine value_ (v := .string (strOfNums xw)) rfl rfl (by have e_ := Kd.C_string (P := Try.prog) (c := c22) Try.underlying30 Try.underlying5 Try.underlying9 hzc22'; go_simp; with_reducible rfl) ?_
                  refine hK.out _ _ hHeld (fun hHeld => ?_)
                  clear hK K
                  refine nK (some 176) ?_
                  refine one_ (i := 14) (N := some 179) (bA 18 32767) rfl rfl (by kernel_rfl) (by decide) (fun K hK => ?_)
                  refine value_ (v := .string (strOfNums yw)) rfl rfl (by have e_ := Kd.C_string (P := Try.prog) (c := c23) Try.underlying30 Try.underlying5 Try.underlying9 hzc23; go_simp; with_reducible rfl) ?_
                  refine hK.out _ _ hHeld (fun hHeld => ?_)
                  clear hK K
                  refine nK (some 179) ?_
                  refine pK 15 (some 180) (bA 18 65535) ?_
                  refine pK 16 (some 181) (bA 18 131071) ?_
                  refine pK 17 (some 182) (bA 18 262143) ?_
                  refine done_ (by kernel_rfl) ?_
                  replace hHeld := Aside0.mk hHeld
                  clear hB
                  go_wp2
                  go_roundg (7 - 2)
                  case measure => exact hj.out.1
                  case rel => exact ⟨3, rfl, ⟨by omega⟩, hHeld⟩
                · refine value_ (v := .string (strOfNums yw)) rfl rfl (by have e_ := Kd.C_string (P := Try.prog) (c := c23) Try.underlying30 Try.underlying5 Try.underlying9 hzc23; go_simp; with_reducible rfl) ?_
                  refine hK.out _ _ hHeld (fun hHeld => ?_)
                  clear hK K
                  refine nK (some 179) ?_
                  refine one_ (i := 11) (N := some 176) (bA 18 32767) rfl rfl (by kernel_rfl) (by decide) (fun K hK => ?_)
                  refine value_ (v := .string (strOfNums xw)) rfl rfl (by have e_ := Kd.C_string (P := Try.prog) (c := c22) Try.underlying30 Try.underlying5 Try.underlying9 hzc22'; go_simp; with_reducible rfl) ?_
                  refine hK.out _ _ hHeld (fun hHeld => ?_)
                  clear hK K
                  refine nK (some 176) ?_
                  refine pK 15 (some 180) (bA 18 65535) ?_
                  refine pK 16 (some 181) (bA 18 131071) ?_
                  refine pK 17 (some 182) (bA 18 262143) ?_
                  refine done_ (by kernel_rfl) ?_
                  replace hHeld := Aside0.mk hHeld
                  clear hB
                  go_wp2
                  go_roundg (7 - 2)
                  case measure => exact hj.out.1
                  case rel => exact ⟨3, rfl, ⟨by omega⟩, hHeld⟩
            · obtain ⟨xw, yw, hw1_, hw2⟩ := H.out.wide 3 (by decide)
              have hw1 : cell_Wide.f k 5 2 = some xw := hw1_
              clear hw1_
              rw [if_pos (by decide)] at hw2
              obtain ⟨hwl, hw2_, hwe⟩ := hw2
              have hw2 : marigraphref15_Wide.f k 5 2 = some yw := hw2_
              have l1 : ((xw.length : Int) == 2) = true := by rw [hwl]; rfl
              have l2 : ((strOfNums xw).toList == (strOfNums yw).toList) = true := by simpa using hwe
              replace hw2 := Aside0.mk hw2
              clear hwl hwe hw2_
              replace hw1 := Aside0.mk hw1
              go_upto_region 35 with (fail)
              refine start_ (n := 18) (S := fun w' => Below w5.heap.size w5 w') (ds := []) (bA 18 0) (by kernel_rfl) rfl rfl (below_drew1 hB) (fun hHeld => ?_)
              refine norm_ (by rfl) ?_
              refine pK 0 (some 165) (bA 18 1) ?_
              refine pK 4 (some 169) (bA 18 17) ?_
              refine one_ (i := 1) (N := (some 166)) (bA 18 19) rfl rfl (by kernel_rfl) (by decide) (fun K hK => ?_)
              refine goes_ Try.func21 (by kernel_rfl) rfl #[.int .i64 5, .int .i64 2] (by rfl) rfl rfl (by simp only [List.map_toArray, List.map_cons, List.map_nil]; rfl) ?_
              refine (cell_Wide.calls k 5 2 xw _ hw1.out).mono ?_
              rintro e u21 ⟨z21, rfl, hz21, hb21⟩
              obtain ⟨B21, c21, rfl⟩ := Kd.R_slice hz21
              have hzc21 := (Kd.R_reads' hz21).2.2
              refine ⟨_, rfl, ?_⟩
              have hH21 := below_step hHeld hb21
              refine hK.out _ _ hH21 (fun hHeld => ?_)
              clear hK K
              refine nK (some 166) ?_
              refine pK 2 (some 167) (bA 18 23) ?_
              refine pK 3 (some 168) (bA 18 31) ?_
              refine pK 5 (some 170) (bA 18 63) ?_
              refine pK 6 (some 171) (bA 18 127) ?_
              refine pK 7 (some 172) (bA 18 255) ?_
              refine pK 8 (some 173) (bA 18 511) ?_
              refine pK 9 (some 174) (bA 18 1023) ?_
              refine pK 12 (some 177) (bA 18 5119) ?_
              refine one_ (i := 10) (N := (some 175)) (bA 18 6143) rfl rfl (by kernel_rfl) (by decide) (fun K hK => ?_)
              refine goes_ Try.func21 (by kernel_rfl) rfl #[.int .i64 5, .int .i64 2] (by rfl) rfl rfl (by simp only [List.map_toArray, List.map_cons, List.map_nil]; rfl) ?_
              refine (cell_Wide.calls k 5 2 xw _ hw1.out).mono ?_
              rintro e u22 ⟨z22, rfl, hz22, hb22⟩
              obtain ⟨B22, c22, rfl⟩ := Kd.R_slice hz22
              have hzc22 := (Kd.R_reads' hz22).2.2
              refine ⟨_, rfl, ?_⟩
              have hH22 := below_step hHeld hb22
              refine hK.out _ _ hH22 (fun hHeld => ?_)
              clear hK K
              refine nK (some 175) ?_
              refine two_ (i := 11) (j := 13) (Ni := some 176) (Nj := some 178) (bA 18 8191) (bA 18 14335) rfl rfl rfl rfl (by kernel_rfl) (by decide) (by decide) (fun K hK => ?_) (fun K hK => ?_)
              · refine value_ (v := .string (strOfNums xw)) rfl rfl (by have e_ := Kd.C_string (P := Try.prog) (c := c22) Try.underlying30 Try.underlying5 Try.underlying9 hzc22; go_simp; with_reducible rfl) ?_
                refine hK.out _ _ hHeld (fun hHeld => ?_)
                clear hK K
                refine nK (some 176) ?_
                refine one_ (i := 13) (N := some 178) (bA 18 16383) rfl rfl (by kernel_rfl) (by decide) (fun K hK => ?_)
                refine goes_ Try.func22 (by kernel_rfl) rfl #[.int .i64 5, .int .i64 2] (by rfl) rfl rfl (by simp only [List.map_toArray, List.map_cons, List.map_nil]; rfl) ?_
                refine (marigraphref15_Wide.calls k 5 2 yw _ hw2.out).mono ?_
                rintro e u23 ⟨z23, rfl, hz23, hb23⟩
                obtain ⟨B23, c23, rfl⟩ := Kd.R_slice hz23
                have hzc23 := (Kd.R_reads' hz23).2.2
                refine ⟨_, rfl, ?_⟩
                have hH23 := below_step hHeld hb23
                refine hK.out _ _ hH23 (fun hHeld => ?_)
                clear hK K
                refine nK (some 178) ?_
                refine one_ (i := 14) (N := some 179) (bA 18 32767) rfl rfl (by kernel_rfl) (by decide) (fun K hK => ?_)
                refine value_ (v := .string (strOfNums yw)) rfl rfl (by have e_ := Kd.C_string (P := Try.prog) (c := c23) Try.underlying30 Try.underlying5 Try.underlying9 hzc23; go_simp; with_reducible rfl) ?_
                refine hK.out _ _ hHeld (fun hHeld => ?_)
                clear hK K
                refine nK (some 179) ?_
                refine pK 15 (some 180) (bA 18 65535) ?_
                refine pK 16 (some 181) (bA 18 131071) ?_
                refine pK 17 (some 182) (bA 18 262143) ?_
                refine done_ (by kernel_rfl) ?_
                replace hHeld := Aside0.mk hHeld
                clear hB
                go_wp2
                go_roundg (7 - 3)
                case measure => exact hj.out.1
                case rel => exact ⟨4, rfl, ⟨by omega⟩, hHeld⟩
              · refine goes_ Try.func22 (by kernel_rfl) rfl #[.int .i64 5, .int .i64 2] (by rfl) rfl rfl (by simp only [List.map_toArray, List.map_cons, List.map_nil]; rfl) ?_
                refine (marigraphref15_Wide.calls k 5 2 yw _ hw2.out).mono ?_
                rintro e u23 ⟨z23, rfl, hz23, hb23⟩
                obtain ⟨B23, c23, rfl⟩ := Kd.R_slice hz23
                have hzc23 := (Kd.R_reads' hz23).2.2
                refine ⟨_, rfl, ?_⟩
                have hH23 := below_step hHeld hb23
                refine hK.out _ _ hH23 (fun hHeld => ?_)
                clear hK K
                refine nK (some 178) ?_
                have hzc22' := Kd.C_below hzc22 hb23
                refine two_ (i := 11) (j := 14) (Ni := some 176) (Nj := some 179) (bA 18 16383) (bA 18 30719) rfl rfl rfl rfl (by kernel_rfl) (by decide) (by decide) (fun K hK => ?_) (fun K hK => ?_)
                · refine value_ (v := .string (strOfNums xw)) rfl rfl (by have e_ := Kd.C_string (P := Try.prog) (c := c22) Try.underlying30 Try.underlying5 Try.underlying9 hzc22'; go_simp; with_reducible rfl) ?_
                  refine hK.out _ _ hHeld (fun hHeld => ?_)
                  clear hK K
                  refine nK (some 176) ?_
                  refine one_ (i := 14) (N := some 179) (bA 18 32767) rfl rfl (by kernel_rfl) (by decide) (fun K hK => ?_)
                  refine value_ (v := .string (strOfNums yw)) rfl rfl (by have e_ := Kd.C_string (P := Try.prog) (c := c23) Try.underlying30 Try.underlying5 Try.underlying9 hzc23; go_simp; with_reducible rfl) ?_
                  refine hK.out _ _ hHeld (fun hHeld => ?_)
                  clear hK K
                  refine nK (some 179) ?_
                  refine pK 15 (some 180) (bA 18 65535) ?_
                  refine pK 16 (some 181) (bA 18 131071) ?_
                  refine pK 17 (some 182) (bA 18 262143) ?_
                  refine done_ (by kernel_rfl) ?_
                  replace hHeld := Aside0.mk hHeld
                  clear hB
                  go_wp2
                  go_roundg (7 - 3)
                  case measure => exact hj.out.1
                  case rel => exact ⟨4, rfl, ⟨by omega⟩, hHeld⟩
                · refine value_ (v := .string (strOfNums yw)) rfl rfl (by have e_ := Kd.C_string (P := Try.prog) (c := c23) Try.underlying30 Try.underlying5 Try.underlying9 hzc23; go_simp; with_reducible rfl) ?_
                  refine hK.out _ _ hHeld (fun hHeld => ?_)
                  clear hK K
                  refine nK (some 179) ?_
                  refine one_ (i := 11) (N := some 176) (bA 18 32767) rfl rfl (by kernel_rfl) (by decide) (fun K hK => ?_)
                  refine value_ (v := .string (strOfNums xw)) rfl rfl (by have e_ := Kd.C_string (P := Try.prog) (c := c22) Try.underlying30 Try.underlying5 Try.underlying9 hzc22'; go_simp; with_reducible rfl) ?_
                  refine hK.out _ _ hHeld (fun hHeld => ?_)
                  clear hK K
                  refine nK (some 176) ?_
                  refine pK 15 (some 180) (bA 18 65535) ?_
                  refine pK 16 (some 181) (bA 18 131071) ?_
                  refine pK 17 (some 182) (bA 18 262143) ?_
                  refine done_ (by kernel_rfl) ?_
                  replace hHeld := Aside0.mk hHeld
                  clear hB
                  go_wp2
                  go_roundg (7 - 3)
                  case measure => exact hj.out.1
                  case rel => exact ⟨4, rfl, ⟨by omega⟩, hHeld⟩
            · obtain ⟨xw, yw, hw1_, hw2⟩ := H.out.wide 4 (by decide)
              have hw1 : cell_Wide.f k 5 3 = some xw := hw1_
              clear hw1_
              rw [if_neg (by decide)] at hw2
              have l1 : ((xw.length : Int) == 2) = false := by rw [beq_eq_false_iff_ne]; intro h_; exact hw2 (by omega)
              clear hw2
              replace hw1 := Aside0.mk hw1
              go_upto_region 35 with (fail)
              refine start_ (n := 18) (S := fun w' => Below w5.heap.size w5 w') (ds := []) (bA 18 0) (by kernel_rfl) rfl rfl (below_drew1 hB) (fun hHeld => ?_)
              refine norm_ (by rfl) ?_
              refine pK 0 (some 165) (bA 18 1) ?_
              refine pK 4 (some 169) (bA 18 17) ?_
              refine one_ (i := 1) (N := (some 166)) (bA 18 19) rfl rfl (by kernel_rfl) (by decide) (fun K hK => ?_)
              refine goes_ Try.func21 (by kernel_rfl) rfl #[.int .i64 5, .int .i64 3] (by rfl) rfl rfl (by simp only [List.map_toArray, List.map_cons, List.map_nil]; rfl) ?_
              refine (cell_Wide.calls k 5 3 xw _ hw1.out).mono ?_
              rintro e u21 ⟨z21, rfl, hz21, hb21⟩
              obtain ⟨B21, c21, rfl⟩ := Kd.R_slice hz21
              have hzc21 := (Kd.R_reads' hz21).2.2
              refine ⟨_, rfl, ?_⟩
              have hH21 := below_step hHeld hb21
              refine hK.out _ _ hH21 (fun hHeld => ?_)
              clear hK K
              refine nK (some 166) ?_
              refine pK 2 (some 167) (bA 18 23) ?_
              refine pK 3 (some 168) (bA 18 31) ?_
              refine pK 5 (some 170) (bA 18 63) ?_
              refine pK 6 (some 171) (bA 18 127) ?_
              refine pK 7 (some 172) (bA 18 255) ?_
              refine pK 8 (some 173) (bA 18 511) ?_
              refine uK 9 (some 174) (bA 18 1023) ?_
              refine uK 10 (some 175) (bA 18 2047) ?_
              refine uK 11 (some 176) (bA 18 4095) ?_
              refine uK 12 (some 177) (bA 18 8191) ?_
              refine uK 13 (some 178) (bA 18 16383) ?_
              refine uK 14 (some 179) (bA 18 32767) ?_
              refine uK 15 (some 180) (bA 18 65535) ?_
              refine pK 16 (some 181) (bA 18 131071) ?_
              refine pK 17 (some 182) (bA 18 262143) ?_
              refine done_ (by kernel_rfl) ?_
              replace hHeld := Aside0.mk hHeld
              clear hB
              go_wp2
              go_roundg (7 - 4)
              case measure => exact hj.out.1
              case rel => exact ⟨5, rfl, ⟨by omega⟩, hHeld⟩
            · obtain ⟨xw, yw, hw1_, hw2⟩ := H.out.wide 5 (by decide)
              have hw1 : cell_Wide.f k 5 4 = some xw := hw1_
              clear hw1_
              rw [if_pos (by decide)] at hw2
              obtain ⟨hwl, hw2_, hwe⟩ := hw2
              have hw2 : marigraphref15_Wide.f k 5 4 = some yw := hw2_
              have l1 : ((xw.length : Int) == 2) = true := by rw [hwl]; rfl
              have l2 : ((strOfNums xw).toList == (strOfNums yw).toList) = true := by simpa using hwe
              replace hw2 := Aside0.mk hw2
              clear hwl hwe hw2_
              replace hw1 := Aside0.mk hw1
              go_upto_region 35 with (fail)
              refine start_ (n := 18) (S := fun w' => Below w5.heap.size w5 w') (ds := []) (bA 18 0) (by kernel_rfl) rfl rfl (below_drew1 hB) (fun hHeld => ?_)
              refine norm_ (by rfl) ?_
              refine pK 0 (some 165) (bA 18 1) ?_
              refine pK 4 (some 169) (bA 18 17) ?_
              refine one_ (i := 1) (N := (some 166)) (bA 18 19) rfl rfl (by kernel_rfl) (by decide) (fun K hK => ?_)
              refine goes_ Try.func21 (by kernel_rfl) rfl #[.int .i64 5, .int .i64 4] (by rfl) rfl rfl (by simp only [List.map_toArray, List.map_cons, List.map_nil]; rfl) ?_
              refine (cell_Wide.calls k 5 4 xw _ hw1.out).mono ?_
              rintro e u21 ⟨z21, rfl, hz21, hb21⟩
              obtain ⟨B21, c21, rfl⟩ := Kd.R_slice hz21
              have hzc21 := (Kd.R_reads' hz21).2.2
              refine ⟨_, rfl, ?_⟩
              have hH21 := below_step hHeld hb21
              refine hK.out _ _ hH21 (fun hHeld => ?_)
              clear hK K
              refine nK (some 166) ?_
              refine pK 2 (some 167) (bA 18 23) ?_
              refine pK 3 (some 168) (bA 18 31) ?_
              refine pK 5 (some 170) (bA 18 63) ?_
              refine pK 6 (some 171) (bA 18 127) ?_
              refine pK 7 (some 172) (bA 18 255) ?_
              refine pK 8 (some 173) (bA 18 511) ?_
              refine pK 9 (some 174) (bA 18 1023) ?_
              refine pK 12 (some 177) (bA 18 5119) ?_
              refine one_ (i := 10) (N := (some 175)) (bA 18 6143) rfl rfl (by kernel_rfl) (by decide) (fun K hK => ?_)
              refine goes_ Try.func21 (by kernel_rfl) rfl #[.int .i64 5, .int .i64 4] (by rfl) rfl rfl (by simp only [List.map_toArray, List.map_cons, List.map_nil]; rfl) ?_
              refine (cell_Wide.calls k 5 4 xw _ hw1.out).mono ?_
              rintro e u22 ⟨z22, rfl, hz22, hb22⟩
              obtain ⟨B22, c22, rfl⟩ := Kd.R_slice hz22
              have hzc22 := (Kd.R_reads' hz22).2.2
              refine ⟨_, rfl, ?_⟩
              have hH22 := below_step hHeld hb22
              refine hK.out _ _ hH22 (fun hHeld => ?_)
              clear hK K
              refine nK (some 175) ?_
              refine two_ (i := 11) (j := 13) (Ni := some 176) (Nj := some 178) (bA 18 8191) (bA 18 14335) rfl rfl rfl rfl (by kernel_rfl) (by decide) (by decide) (fun K hK => ?_) (fun K hK => ?_)
              · refine value_ (v := .string (strOfNums xw)) rfl rfl (by have e_ := Kd.C_string (P := Try.prog) (c := c22) Try.underlying30 Try.underlying5 Try.underlying9 hzc22; go_simp; with_reducible rfl) ?_
                refine hK.out _ _ hHeld (fun hHeld => ?_)
                clear hK K
                refine nK (some 176) ?_
                refine one_ (i := 13) (N := some 178) (bA 18 16383) rfl rfl (by kernel_rfl) (by decide) (fun K hK => ?_)
                refine goes_ Try.func22 (by kernel_rfl) rfl #[.int .i64 5, .int .i64 4] (by rfl) rfl rfl (by simp only [List.map_toArray, List.map_cons, List.map_nil]; rfl) ?_
                refine (marigraphref15_Wide.calls k 5 4 yw _ hw2.out).mono ?_
                rintro e u23 ⟨z23, rfl, hz23, hb23⟩
                obtain ⟨B23, c23, rfl⟩ := Kd.R_slice hz23
                have hzc23 := (Kd.R_reads' hz23).2.2
                refine ⟨_, rfl, ?_⟩
                have hH23 := below_step hHeld hb23
                refine hK.out _ _ hH23 (fun hHeld => ?_)
                clear hK K
                refine nK (some 178) ?_
                refine one_ (i := 14) (N := some 179) (bA 18 32767) rfl rfl (by kernel_rfl) (by decide) (fun K hK => ?_)
                refine value_ (v := .string (strOfNums yw)) rfl rfl (by have e_ := Kd.C_string (P := Try.prog) (c := c23) Try.underlying30 Try.underlying5 Try.underlying9 hzc23; go_simp; with_reducible rfl) ?_
                refine hK.out _ _ hHeld (fun hHeld => ?_)
                clear hK K
                refine nK (some 179) ?_
                refine pK 15 (some 180) (bA 18 65535) ?_
                refine pK 16 (some 181) (bA 18 131071) ?_
                refine pK 17 (some 182) (bA 18 262143) ?_
                refine done_ (by kernel_rfl) ?_
                replace hHeld := Aside0.mk hHeld
                clear hB
                go_wp2
                go_roundg (7 - 5)
                case measure => exact hj.out.1
                case rel => exact ⟨6, rfl, ⟨by omega⟩, hHeld⟩
              · refine goes_ Try.func22 (by kernel_rfl) rfl #[.int .i64 5, .int .i64 4] (by rfl) rfl rfl (by simp only [List.map_toArray, List.map_cons, List.map_nil]; rfl) ?_
                refine (marigraphref15_Wide.calls k 5 4 yw _ hw2.out).mono ?_
                rintro e u23 ⟨z23, rfl, hz23, hb23⟩
                obtain ⟨B23, c23, rfl⟩ := Kd.R_slice hz23
                have hzc23 := (Kd.R_reads' hz23).2.2
                refine ⟨_, rfl, ?_⟩
                have hH23 := below_step hHeld hb23
                refine hK.out _ _ hH23 (fun hHeld => ?_)
                clear hK K
                refine nK (some 178) ?_
                have hzc22' := Kd.C_below hzc22 hb23
                refine two_ (i := 11) (j := 14) (Ni := some 176) (Nj := some 179) (bA 18 16383) (bA 18 30719) rfl rfl rfl rfl (by kernel_rfl) (by decide) (by decide) (fun K hK => ?_) (fun K hK => ?_)
                · refine value_ (v := .string (strOfNums xw)) rfl rfl (by have e_ := Kd.C_string (P := Try.prog) (c := c22) Try.underlying30 Try.underlying5 Try.underlying9 hzc22'; go_simp; with_reducible rfl) ?_
                  refine hK.out _ _ hHeld (fun hHeld => ?_)
                  clear hK K
                  refine nK (some 176) ?_
                  refine one_ (i := 14) (N := some 179) (bA 18 32767) rfl rfl (by kernel_rfl) (by decide) (fun K hK => ?_)
                  refine value_ (v := .string (strOfNums yw)) rfl rfl (by have e_ := Kd.C_string (P := Try.prog) (c := c23) Try.underlying30 Try.underlying5 Try.underlying9 hzc23; go_simp; with_reducible rfl) ?_
                  refine hK.out _ _ hHeld (fun hHeld => ?_)
                  clear hK K
                  refine nK (some 179) ?_
                  refine pK 15 (some 180) (bA 18 65535) ?_
                  refine pK 16 (some 181) (bA 18 131071) ?_
                  refine pK 17 (some 182) (bA 18 262143) ?_
                  refine done_ (by kernel_rfl) ?_
                  replace hHeld := Aside0.mk hHeld
                  clear hB
                  go_wp2
                  go_roundg (7 - 5)
                  case measure => exact hj.out.1
                  case rel => exact ⟨6, rfl, ⟨by omega⟩, hHeld⟩
                · refine value_ (v := .string (strOfNums yw)) rfl rfl (by have e_ := Kd.C_string (P := Try.prog) (c := c23) Try.underlying30 Try.underlying5 Try.underlying9 hzc23; go_simp; with_reducible rfl) ?_
                  refine hK.out _ _ hHeld (fun hHeld => ?_)
                  clear hK K
                  refine nK (some 179) ?_
                  refine one_ (i := 11) (N := some 176) (bA 18 32767) rfl rfl (by kernel_rfl) (by decide) (fun K hK => ?_)
                  refine value_ (v := .string (strOfNums xw)) rfl rfl (by have e_ := Kd.C_string (P := Try.prog) (c := c22) Try.underlying30 Try.underlying5 Try.underlying9 hzc22'; go_simp; with_reducible rfl) ?_
                  refine hK.out _ _ hHeld (fun hHeld => ?_)
                  clear hK K
                  refine nK (some 176) ?_
                  refine pK 15 (some 180) (bA 18 65535) ?_
                  refine pK 16 (some 181) (bA 18 131071) ?_
                  refine pK 17 (some 182) (bA 18 262143) ?_
                  refine done_ (by kernel_rfl) ?_
                  replace hHeld := Aside0.mk hHeld
                  clear hB
                  go_wp2
                  go_roundg (7 - 5)
                  case measure => exact hj.out.1
                  case rel => exact ⟨6, rfl, ⟨by omega⟩, hHeld⟩
            · obtain ⟨xw, yw, hw1_, hw2⟩ := H.out.wide 6 (by decide)
              have hw1 : cell_Wide.f k 5 5 = some xw := hw1_
              clear hw1_
              rw [if_neg (by decide)] at hw2
              have l1 : ((xw.length : Int) == 2) = false := by rw [beq_eq_false_iff_ne]; intro h_; exact hw2 (by omega)
              clear hw2
              replace hw1 := Aside0.mk hw1
              go_upto_region 35 with (fail)
              refine start_ (n := 18) (S := fun w' => Below w5.heap.size w5 w') (ds := []) (bA 18 0) (by kernel_rfl) rfl rfl (below_drew1 hB) (fun hHeld => ?_)
              refine norm_ (by rfl) ?_
              refine pK 0 (some 165) (bA 18 1) ?_
              refine pK 4 (some 169) (bA 18 17) ?_
              refine one_ (i := 1) (N := (some 166)) (bA 18 19) rfl rfl (by kernel_rfl) (by decide) (fun K hK => ?_)
              refine goes_ Try.func21 (by kernel_rfl) rfl #[.int .i64 5, .int .i64 5] (by rfl) rfl rfl (by simp only [List.map_toArray, List.map_cons, List.map_nil]; rfl) ?_
              refine (cell_Wide.calls k 5 5 xw _ hw1.out).mono ?_
              rintro e u21 ⟨z21, rfl, hz21, hb21⟩
              obtain ⟨B21, c21, rfl⟩ := Kd.R_slice hz21
              have hzc21 := (Kd.R_reads' hz21).2.2
              refine ⟨_, rfl, ?_⟩
              have hH21 := below_step hHeld hb21
              refine hK.out _ _ hH21 (fun hHeld => ?_)
              clear hK K
              refine nK (some 166) ?_
              refine pK 2 (some 167) (bA 18 23) ?_
              refine pK 3 (some 168) (bA 18 31) ?_
              refine pK 5 (some 170) (bA 18 63) ?_
              refine pK 6 (some 171) (bA 18 127) ?_
              refine pK 7 (some 172) (bA 18 255) ?_
              refine pK 8 (some 173) (bA 18 511) ?_
              refine uK 9 (some 174) (bA 18 1023) ?_
              refine uK 10 (some 175) (bA 18 2047) ?_
              refine uK 11 (some 176) (bA 18 4095) ?_
              refine uK 12 (some 177) (bA 18 8191) ?_
              refine uK 13 (some 178) (bA 18 16383) ?_
              refine uK 14 (some 179) (bA 18 32767) ?_
              refine uK 15 (some 180) (bA 18 65535) ?_
              refine pK 16 (some 181) (bA 18 131071) ?_
              refine pK 17 (some 182) (bA 18 262143) ?_
              refine done_ (by kernel_rfl) ?_
              replace hHeld := Aside0.mk hHeld
              clear hB
              go_wp2
              go_roundg (7 - 6)
              case measure => exact hj.out.1
              case rel => exact ⟨7, rfl, ⟨by omega⟩, hHeld⟩
            · clear hj
              obtain ⟨la1, ha1⟩ : ∃ l : List Int, l = ([0, 17] : List Int) := ⟨_, rfl⟩
              replace ha1 := Aside0.mk ha1
              obtain ⟨la2, ha2⟩ : ∃ l : List Int, l = ([0, 5] : List Int) := ⟨_, rfl⟩
              replace ha2 := Aside0.mk ha2
              obtain ⟨la3, ha3⟩ : ∃ l : List Int, l = ([0, 18] : List Int) := ⟨_, rfl⟩
              replace ha3 := Aside0.mk ha3
              obtain ⟨la4, ha4⟩ : ∃ l : List Int, l = ([0, 0, 5] : List Int) := ⟨_, rfl⟩
              replace ha4 := Aside0.mk ha4
              obtain ⟨la5, ha5⟩ : ∃ l : List Int, l = ([0, 19] : List Int) := ⟨_, rfl⟩
              replace ha5 := Aside0.mk ha5
              obtain ⟨la6, ha6⟩ : ∃ l : List Int, l = ([128, 0, 0, 0] : List Int) := ⟨_, rfl⟩
              replace ha6 := Aside0.mk ha6
              obtain ⟨hs1, hs2, hs3⟩ := H.out.some_
              rw [← ha1.out, ← ha2.out] at hs1
              rw [← ha3.out, ← ha4.out] at hs2
              rw [← ha5.out, ← ha6.out] at hs3
              replace hs1 := Aside0.mk hs1
              replace hs2 := Aside0.mk hs2
              replace hs3 := Aside0.mk hs3
              have hn1 := Aside0.mk H.out.none.1
              have hn2 := Aside0.mk H.out.none.2
              have HF := Aside0.mk hB
              clear hB
              go_wp2_with (first
                | (go_at_call 23; (with_reducible refine (marigraphlaw15_known.calls k true _ H.out.known).mono ?_); rintro e u ⟨rfl, hb⟩; have HE := Aside0.mk (below_step HF.out hb); clear hb)
                | (go_at_call 21; (with_reducible refine (cell_Wide.calls k (-1) 1 [] _ hn1.out).mono ?_); rintro e u31 ⟨z31, rfl, hz, hb⟩; obtain ⟨B31, c31, rfl⟩ := Kd.R_slice hz; have HF := Aside0.mk (below_step HF.out hb); clear hb hz)
                | (go_at_call 21; (with_reducible refine (cell_Wide.calls k 3600 1 [] _ hn2.out).mono ?_); rintro e u32 ⟨z32, rfl, hz, hb⟩; obtain ⟨B32, c32, rfl⟩ := Kd.R_slice hz; have HF := Aside0.mk (below_step HF.out hb); clear hb hz)
                | ((with_reducible refine gate_dst (N := 192) rfl ?_); (try (refine gate_guard (by rfl) ?_; dsimp only)); refine Kd.R_lit (Kd.int .u8) _ 5 ?hg (N := 192) ?hd (xs := ([0, 17] : List Int)) (inner := [.int .u8 0, .int .u8 17]) (ok := fun _ => True) (okp := fun _ => True) ?hr ?hp (fun _ hk => hk) trivial (Below.refl _ _) (Nat.le_refl _) (by simp) ?_; (case hd => rfl); (case hg => rfl); (case hr => first | (go_simp; done) | (go_simp; rfl)); (case hp => exact reps_ints _); intro va1 ua1 ho hb hg_ hnew_; clear hg_ hnew_; rw [← ha1.out] at ho; obtain ⟨Aa1, ca1, rfl⟩ := Kd.R_slice ho; have Ca1 := Aside0.mk (Kd.R_reads' ho).2; have HF := Aside0.mk (below_step HF.out hb); clear hb ho)
                | ((with_reducible refine gate_dst (N := 193) rfl ?_); (try (refine gate_guard (by rfl) ?_; dsimp only)); refine Kd.R_lit (Kd.int .u8) _ 5 ?hg (N := 193) ?hd (xs := ([0, 5] : List Int)) (inner := [.int .u8 0, .int .u8 5]) (ok := fun _ => True) (okp := fun _ => True) ?hr ?hp (fun _ hk => hk) trivial (Below.refl _ _) (Nat.le_refl _) (by simp) ?_; (case hd => rfl); (case hg => rfl); (case hr => first | (go_simp; done) | (go_simp; rfl)); (case hp => exact reps_ints _); intro va2 ua2 ho hb hg_ hnew_; clear hg_ hnew_; rw [← ha2.out] at ho; obtain ⟨Aa2, ca2, rfl⟩ := Kd.R_slice ho; have Ca2 := Aside0.mk (Kd.R_reads' ho).2; have HF := Aside0.mk (below_step HF.out hb); have Ca1 := Aside0.mk (And.intro Ca1.out.1 (Kd.C_below Ca1.out.2 hb)); clear hb ho)
                | (go_at_call 20; (with_reducible refine (marigraphlaw15_parses.calls k Aa1 ca1 la1 Aa2 ca2 la2 true _ Ca1.out.2 Ca1.out.1 Ca2.out.2 Ca2.out.1 hs1.out).mono ?_); rintro e u ⟨rfl, hb⟩; have HF := Aside0.mk (below_step HF.out hb); clear hb)
                | ((with_reducible refine gate_dst (N := 197) rfl ?_); (try (refine gate_guard (by rfl) ?_; dsimp only)); refine Kd.R_lit (Kd.int .u8) _ 5 ?hg (N := 197) ?hd (xs := ([0, 18] : List Int)) (inner := [.int .u8 0, .int .u8 18]) (ok := fun _ => True) (okp := fun _ => True) ?hr ?hp (fun _ hk => hk) trivial (Below.refl _ _) (Nat.le_refl _) (by simp) ?_; (case hd => rfl); (case hg => rfl); (case hr => first | (go_simp; done) | (go_simp; rfl)); (case hp => exact reps_ints _); intro va3 ua3 ho hb hg_ hnew_; clear hg_ hnew_; rw [← ha3.out] at ho; obtain ⟨Aa3, ca3, rfl⟩ := Kd.R_slice ho; have Ca3 := Aside0.mk (Kd.R_reads' ho).2; have HF := Aside0.mk (below_step HF.out hb); clear hb ho)
                | ((with_reducible refine gate_dst (N := 198) rfl ?_); (try (refine gate_guard (by rfl) ?_; dsimp only)); refine Kd.R_lit (Kd.int .u8) _ 5 ?hg (N := 198) ?hd (xs := ([0, 0, 5] : List Int)) (inner := [.int .u8 0, .int .u8 0, .int .u8 5]) (ok := fun _ => True) (okp := fun _ => True) ?hr ?hp (fun _ hk => hk) trivial (Below.refl _ _) (Nat.le_refl _) (by simp) ?_; (case hd => rfl); (case hg => rfl); (case hr => first | (go_simp; done) | (go_simp; rfl)); (case hp => exact reps_ints _); intro va4 ua4 ho hb hg_ hnew_; clear hg_ hnew_; rw [← ha4.out] at ho; obtain ⟨Aa4, ca4, rfl⟩ := Kd.R_slice ho; have Ca4 := Aside0.mk (Kd.R_reads' ho).2; have HF := Aside0.mk (below_step HF.out hb); have Ca3 := Aside0.mk (And.intro Ca3.out.1 (Kd.C_below Ca3.out.2 hb)); clear hb ho)
                | (go_at_call 20; (with_reducible refine (marigraphlaw15_parses.calls k Aa3 ca3 la3 Aa4 ca4 la4 true _ Ca3.out.2 Ca3.out.1 Ca4.out.2 Ca4.out.1 hs2.out).mono ?_); rintro e u ⟨rfl, hb⟩; have HF := Aside0.mk (below_step HF.out hb); clear hb)
                | ((with_reducible refine gate_dst (N := 202) rfl ?_); (try (refine gate_guard (by rfl) ?_; dsimp only)); refine Kd.R_lit (Kd.int .u8) _ 5 ?hg (N := 202) ?hd (xs := ([0, 19] : List Int)) (inner := [.int .u8 0, .int .u8 19]) (ok := fun _ => True) (okp := fun _ => True) ?hr ?hp (fun _ hk => hk) trivial (Below.refl _ _) (Nat.le_refl _) (by simp) ?_; (case hd => rfl); (case hg => rfl); (case hr => first | (go_simp; done) | (go_simp; rfl)); (case hp => exact reps_ints _); intro va5 ua5 ho hb hg_ hnew_; clear hg_ hnew_; rw [← ha5.out] at ho; obtain ⟨Aa5, ca5, rfl⟩ := Kd.R_slice ho; have Ca5 := Aside0.mk (Kd.R_reads' ho).2; have HF := Aside0.mk (below_step HF.out hb); clear hb ho)
                | ((with_reducible refine gate_dst (N := 203) rfl ?_); (try (refine gate_guard (by rfl) ?_; dsimp only)); refine Kd.R_lit (Kd.int .u8) _ 5 ?hg (N := 203) ?hd (xs := ([128, 0, 0, 0] : List Int)) (inner := [.int .u8 128, .int .u8 0, .int .u8 0, .int .u8 0]) (ok := fun _ => True) (okp := fun _ => True) ?hr ?hp (fun _ hk => hk) trivial (Below.refl _ _) (Nat.le_refl _) (by simp) ?_; (case hd => rfl); (case hg => rfl); (case hr => first | (go_simp; done) | (go_simp; rfl)); (case hp => exact reps_ints _); intro va6 ua6 ho hb hg_ hnew_; clear hg_ hnew_; rw [← ha6.out] at ho; obtain ⟨Aa6, ca6, rfl⟩ := Kd.R_slice ho; have Ca6 := Aside0.mk (Kd.R_reads' ho).2; have HF := Aside0.mk (below_step HF.out hb); have Ca5 := Aside0.mk (And.intro Ca5.out.1 (Kd.C_below Ca5.out.2 hb)); clear hb ho)
                | (go_at_call 20; (with_reducible refine (marigraphlaw15_parses.calls k Aa5 ca5 la5 Aa6 ca6 la6 true _ Ca5.out.2 Ca5.out.1 Ca6.out.2 Ca6.out.1 hs3.out).mono ?_); rintro e u ⟨rfl, hb⟩; have HF := Aside0.mk (below_step HF.out hb); clear hb))
              go_ret
              exact ⟨rfl, below_step hB5.out HE.out⟩

end Go.Proofs.Ytjafaojmbapkbaa.PCellTells

/- The walk of the Go functions that a law reaches, told as plain functions; a program of this session has written it. No condition beyond the statement's own. -/
import Derived.Test.YtncieaeooiilpaaPFoldOrdersx0
import Derived.Test.YtncieaeooiilpaaPFoldOrdersx1
import Derived.Test.YtncieaeooiilpaaPFoldOrdersx2
import Derived.Test.YtncieaeooiilpaaPFoldOrdersx3
import Derived.Test.YtncieaeooiilpaaPFoldOrdersx4
import Derived.Test.YtncieaeooiilpaaPFoldOrdersx5
import Derived.Test.YtncieaeooiilpaaPFoldOrdersx6
import Derived.Test.YtncieaeooiilpaaPFoldOrdersx7
import Derived.Test.YtncieaeooiilpaaPFoldOrdersx8
namespace Go.Proofs.Ytncieaeooiilpaa.PFoldOrders
open Go.RowKit Go.Proofs.YtncieaeooiilpaaW.PrintWords Go.Proofs.YtncieaeooiilpaaW.PrintLast Go.Proofs.YtncieaeooiilpaaW.PrintMore
attribute [local go_sem] max2_int min2_int max_two min_two max_three min_three max_four min_four   -- for this text's walks alone
set_option linter.unusedVariables false
set_option linter.unusedSimpArgs false

attribute [local go_sem high] eqA23
theorem pK {P : Program} {ops : Array Oper} {Q : Exit → Act → World → Prop} {md : Region.Mode} {S : World → Prop} {ds : List Nat} {oi : Oper} {v : Value} {fuel : Nat} {l : Array Bool} {a a' : Act} {w : World} (i : Nat) (N : Option Tmp) (l' : Array Bool) (h : wpAnyLast P md ops Q S ds fuel l' a' w)
    (hi : ops[i]? = some oi := by rfl) (hN : oi.dst = N := by rfl) (hc : anyB md ops l l' i = true := by kernel_rfl) (hQ : ∀ c a w, Q (.panic c) (a.put oi.dst v) w → Q (.panic c) a w := by exact fun _ _ _ h => h)
    (hy : Region.wanted oi (yielded ops a.tmps) = true := by rfl) (hy' : ∀ w, (execOp a.eval oi).run P w = .ok (.value v) w := by intro w'; go_simp; with_reducible rfl)
    (ha : a.put N v = a' := by simp only [Act.put, List.setIfInBounds_toArray, List.set_cons_zero, List.set_cons_succ, i64_w, i32_w]; rfl) : wpAnyLast P md ops Q S ds (fuel + 1) l a w :=
  pure_ l' hi hN hc hQ (Or.inl ⟨hy, hy'⟩) ha h
theorem uK {P : Program} {ops : Array Oper} {Q : Exit → Act → World → Prop} {md : Region.Mode} {S : World → Prop} {ds : List Nat} {oi : Oper} {fuel : Nat} {l : Array Bool} {a a' : Act} {w : World} (i : Nat) (N : Option Tmp) (l' : Array Bool) (h : wpAnyLast P md ops Q S ds fuel l' a' w)
    (hi : ops[i]? = some oi := by rfl) (hN : oi.dst = N := by rfl) (hc : anyB md ops l l' i = true := by kernel_rfl) (hQ : ∀ c a w, Q (.panic c) (a.put oi.dst undef) w → Q (.panic c) a w := by exact fun _ _ _ h => h)
    (hy : Region.wanted oi (yielded ops a.tmps) = false := by rfl)
    (ha : a.put N undef = a' := by simp only [Act.put, List.setIfInBounds_toArray, List.set_cons_zero, List.set_cons_succ, i64_w, i32_w]; rfl) : wpAnyLast P md ops Q S ds (fuel + 1) l a w :=
  pure_ l' hi hN hc hQ (Or.inr ⟨hy, rfl⟩) ha h
theorem tK {P : Program} {ops : Array Oper} {Q : Exit → Act → World → Prop} {md : Region.Mode} {S : World → Prop} {ds : List Nat} {oi : Oper} {v : Value} {fuel : Nat} {l : Array Bool} {a a' : Act} {w : World} (i : Nat) (N : Option Tmp) (l' : Array Bool) (hi : ops[i]? = some oi) (hN : oi.dst = N) (hS : S w) (hy' : ∀ w, S w → (execOp a.eval oi).run P w = .ok (.value v) w) (h : wpAnyLast P md ops Q S ds fuel l' a' w)
    (hc : takeB md ops ds l l' i = true := by kernel_rfl) (hQ : ∀ c a w, Q (.panic c) (a.put oi.dst v) w → Q (.panic c) a w := by exact fun _ _ _ h => h)
    (hy : Region.wanted oi (yielded ops a.tmps) = true := by rfl)
    (ha : a.put N v = a' := by simp only [Act.put, List.setIfInBounds_toArray, List.set_cons_zero, List.set_cons_succ, i64_w, i32_w]; rfl) : wpAnyLast P md ops Q S ds (fuel + 1) l a w :=
  take_ l' hi hN hc hQ (Or.inl ⟨hy, hy'⟩) hS ha h
theorem nK {P : Program} {ops : Array Oper} {Q : Exit → Act → World → Prop} {md : Region.Mode} {S : World → Prop} {ds : List Nat} {fuel : Nat} {l : Array Bool} {a a' : Act} {v : Value} {w : World} (N : Option Tmp) (h : wpAnyLast P md ops Q S ds fuel l a' w)
    (ha : a.put N v = a' := by simp only [Act.put, List.setIfInBounds_toArray, List.set_cons_zero, List.set_cons_succ, i64_w, i32_w]; rfl) : wpAnyLast P md ops Q S ds fuel l (a.put N v) w := norm_ ha h
/-! ### marigraphlaw20_FoldOrders: function 5, by hand -/
set_option maxHeartbeats 8000000
set_option maxRecDepth 100000
theorem foldOrders_small (k : Nat) (A0 : Option Addr) (c0 : Nat) (l0 : List Int) (m : List S23) (w : World) (hr0 : Kd.C (Kd.int .i64) w A0 l0.length l0) (hc0 : l0.length ≤ c0) (hm : marigraphlaw20_rats.f k l0 6 = some m) (hs : m.length = 0) (hk : marigraphlaw20_known.f k = some true) :
    Calls Try.prog 5 #[.slice A0 l0.length c0] w fun e w' => e = .returned (.bool true) ∧ Below w.heap.size w w' := by
  have HB := Below.refl w.heap.size w
  have hm := Aside0.mk hm
  have hk := Aside0.mk hk
  have hd2 : ((m.length : Int) == 0) = true := by rw [hs]; rfl
  have hd : (m.length == 0) = true := by rw [hs]; rfl
  go_enter Try.func5, Try.ntmps5
  go_wp2_with (first
    | (go_at_call 10; (with_reducible refine (marigraphlaw20_known.calls k true _ hk.out).mono ?_); rintro e3 w3 ⟨rfl, hb⟩; have HB3 := below_step HB2 hb; clear hb)
    | (go_at_call 11; (with_reducible refine (marigraphlaw20_rats.calls k A0 c0 l0 6 m _ hr0 hc0 hm.out).mono ?_); rintro e2 w2 ⟨v, rfl, hR, hb⟩; obtain ⟨Am, cm, rfl⟩ := Kd.R_slice hR; have HB2 := below_step HB hb; clear hb hR))
  go_ret
  exact ⟨rfl, HB3⟩
theorem rev_step {m : List S23} {q : Nat} (h : q < m.length) : (m.drop (q + 1)).reverse ++ [rd_T23 m (q : Int)] = (m.drop q).reverse := by
  have hrd : rd_T23 m (q : Int) = m[q] := by
    unfold rd_T23
    rw [Int.toNat_natCast, List.getD_eq_getElem?_getD, List.getElem?_eq_getElem h]
    rfl
  rw [hrd, List.drop_eq_getElem_cons h, List.reverse_cons]
def allC (X : Nat → S23) (h : Nat) : Array Value :=
  let c : Nat → S23 := fun i => if i < h then X i else z23
  #[.int .i64 0, .int .i64 0, .int .i64 (c 1).f0, .int .i64 (c 1).f1, .int .i64 (c 2).f0, .int .i64 (c 2).f1, .int .i64 (c 3).f0, .int .i64 (c 3).f1, .int .i64 (c 4).f0, .int .i64 (c 4).f1, .int .i64 (c 5).f0, .int .i64 (c 5).f1, .int .i64 0, .int .i64 0, .int .i64 0, .int .i64 0]
theorem allC_set (X : Nat → S23) (h : Nat) (h1 : 1 ≤ h) (h2 : h ≤ 5) : ((allC X h).setIfInBounds (h * 2) (.int .i64 (X h).f0)).setIfInBounds (h * 2 + 1) (.int .i64 (X h).f1) = allC X (h + 1) := by
  have : h = 1 ∨ h = 2 ∨ h = 3 ∨ h = 4 ∨ h = 5 := by omega
  rcases this with e | e | e | e | e <;> (subst e; rfl)
theorem allC_one (X : Nat → S23) : allC X 1 = #[.int .i64 0, .int .i64 0, .int .i64 0, .int .i64 0, .int .i64 0, .int .i64 0, .int .i64 0, .int .i64 0, .int .i64 0, .int .i64 0, .int .i64 0, .int .i64 0, .int .i64 0, .int .i64 0, .int .i64 0, .int .i64 0] := rfl
theorem allC_cell (X : Nat → S23) (h i : Nat) (h1 : i < 16) : ∃ v, (allC X h)[i]? = some v := ⟨(allC X h)[i]'h1, Array.getElem?_eq_getElem h1⟩
theorem allC_cell1 (X : Nat → S23) (h : Nat) (h1 : h ≤ 5) (u : Value) : ∃ v, ((allC X h).setIfInBounds (h * 2) u)[h * 2 + 1]? = some v := ⟨_, Array.getElem?_eq_getElem (by rw [Array.size_setIfInBounds]; show h * 2 + 1 < 16; omega)⟩
structure EndS (gP gQ gS gA : Nat) (ad : Addr) (p : S23) (X : Nat → S23) (w : World) : Prop where
  p0 : w.cell? ⟨gP, 0, none⟩ = some (.int .i64 p.f0)
  p1 : w.cell? ⟨gP, 1, none⟩ = some (.int .i64 p.f1)
  q0 : w.cell? ⟨gQ, 0, none⟩ = some (.int .i64 p.f0)
  q1 : w.cell? ⟨gQ, 1, none⟩ = some (.int .i64 p.f1)
  s0 : w.cell? ⟨gS, 0, none⟩ = some (.int .i64 (X 1).f0)
  s1 : w.cell? ⟨gS, 1, none⟩ = some (.int .i64 (X 1).f1)
  m0 : w.cell? ad = some (.int .i64 p.f0)
  m1 : w.cell? ⟨ad.block, ad.off + 1, none⟩ = some (.int .i64 p.f1)
  a2 : w.cell? ⟨gA, 2, none⟩ = some (.int .i64 (X 1).f0)
  a3 : w.cell? ⟨gA, 3, none⟩ = some (.int .i64 (X 1).f1)
  a4 : w.cell? ⟨gA, 4, none⟩ = some (.int .i64 (X 2).f0)
  a5 : w.cell? ⟨gA, 5, none⟩ = some (.int .i64 (X 2).f1)
  a6 : w.cell? ⟨gA, 6, none⟩ = some (.int .i64 (X 3).f0)
  a7 : w.cell? ⟨gA, 7, none⟩ = some (.int .i64 (X 3).f1)
  a8 : w.cell? ⟨gA, 8, none⟩ = some (.int .i64 (X 4).f0)
  a9 : w.cell? ⟨gA, 9, none⟩ = some (.int .i64 (X 4).f1)
theorem EndS.drew {gP gQ gS gA : Nat} {ad : Addr} {p : S23} {X : Nat → S23} {w : World} (h : EndS gP gQ gS gA ad p X w) : EndS gP gQ gS gA ad p X w.drew := ⟨h.1, h.2, h.3, h.4, h.5, h.6, h.7, h.8, h.9, h.10, h.11, h.12, h.13, h.14, h.15, h.16⟩
theorem EndS.below {gP gQ gS gA : Nat} {ad : Addr} {p : S23} {X : Nat → S23} {w w' : World} (h : EndS gP gQ gS gA ad p X w) (hb : Below w.heap.size w w') : EndS gP gQ gS gA ad p X w' := ⟨cellB hb h.1, cellB hb h.2, cellB hb h.3, cellB hb h.4, cellB hb h.5, cellB hb h.6, cellB hb h.7, cellB hb h.8, cellB hb h.9, cellB hb h.10, cellB hb h.11, cellB hb h.12, cellB hb h.13, cellB hb h.14, cellB hb h.15, cellB hb h.16⟩
theorem foldOrders_at (k : Nat) (X : Nat → S23) (A0 : Option Addr) (c0 : Nat) (l0 : List Int) (m : List S23) (w : World) (hr0 : Kd.C (Kd.int .i64) w A0 l0.length l0) (hc0 : l0.length ≤ c0) (hm : marigraphlaw20_rats.f k l0 6 = some m) (hml : Aside0 (m.length ≤ 6)) (hs : Aside0 (1 ≤ m.length)) (hX : Aside0 (∀ h : Nat, 1 ≤ h → h ≤ 5 → fold_Do.f k (h : Int) m = some ((X h).f0, (X h).f1, 0) ∧ fold_Do.f k (h : Int) m.reverse = some ((X h).f0, (X h).f1, 0))) (hend : Aside0 (fold_Do.f k 6 m = some ((rd_T23 m 0).f0, (rd_T23 m 0).f1, 0) ∧ fold_Do.f k 7 m.reverse = some ((rd_T23 m 0).f0, (rd_T23 m 0).f1, 0) ∧ rat_Mul.f k (X 4).f0 (X 4).f1 (X 5).f0 (X 5).f1 = some ((X 1).f0, (X 1).f1, 0) ∧ True ∧ (∃ c1, marigraphref1_Cmp.f k (X 2).f0 (X 2).f1 (X 4).f0 (X 4).f1 = some c1 ∧ c1 ≤ 0) ∧ (∃ c2, marigraphref1_Cmp.f k (X 4).f0 (X 4).f1 (X 3).f0 (X 3).f1 = some c2 ∧ c2 ≤ 0))) (hk : marigraphlaw20_known.f k = some true) :
    Calls Try.prog 5 #[.slice A0 l0.length c0] w fun e w' => e = .returned (.bool true) ∧ Below w.heap.size w w' := by
  have HB := Below.refl w.heap.size w
  have hm := Aside0.mk hm
  have hk := Aside0.mk hk
  have hd2 : ((m.length : Int) == 0) = false := by rw [beq_eq_false_iff_ne]; have := hs.out; omega
  have hd : (m.length == 0) = false := by rw [beq_eq_false_iff_ne]; have := hs.out; omega
  have hsub : IntKind.i64.wrap ((m.length : Int) - 1) = (m.length : Int) - 1 := by rw [i64_w]; unfold wrap64; have := hs.out; have := hml.out; omega
  go_enter Try.func5, Try.ntmps5
  go_wp2_with (first
    | (go_at_call 11; (with_reducible refine (marigraphlaw20_rats.calls k A0 c0 l0 6 m _ hr0 hc0 hm.out).mono ?_); rintro e2 w2 ⟨v, rfl, hR, hb⟩; obtain ⟨Am, cm, rfl⟩ := Kd.R_slice hR; have HM2 := (Kd.R_reads' hR).2.2; have hcm := (Kd.R_reads' hR).2.1; have HB2 := below_step HB hb; clear hb hR))
  clear hd hd2 hsub
  go_loopg [4, 5] 8 (fun kq v4 v5 w' => ∃ j : Nat, v5 = .int .i64 ((j : Int) - 1) ∧ Aside0 (j < kq ∧ j ≤ m.length) ∧ Aside0 (Kd.R k23 23 w' w2.heap.size (fun _ => True) v4 (m.drop j).reverse) ∧ Aside0 (Below w2.heap.size w2 w'))
  case atStart => exact ⟨m.length, rfl, ⟨by have := hml.out; omega, Nat.le_refl _⟩, ⟨by rw [List.drop_length]; exact Kd.R_nil _ _ _ _ _⟩, ⟨Below.refl _ _⟩⟩
  case round =>
    obtain ⟨j, rfl, hj, hR, hb⟩ := hrel
    by_cases hz : j = 0
    · subst hz
      have hge : decide (0 ≤ (((0 : Nat) : Int) - 1)) = false := by decide
      have hge2 : decide ((0 : Int) ≤ -1) = false := by decide
      rw [List.drop_zero] at hR
      obtain ⟨Ab, cb, rfl⟩ := Kd.R_slice hR.out
      have HX3 := (Kd.R_reads' hR.out).2.2
      have hcb := (Kd.R_reads' hR.out).2.1
      have HM3 := Kd.C_below HM2 hb.out
      have HBw := below_step HB2 hb.out
      have hrl : Aside0 (m.reverse.length = m.length) := ⟨List.length_reverse⟩
      have hX := hX
      have hend := hend
      generalize m.reverse = bl at hX HX3 hcb hrl hend
      clear hj hR hb HM2 HB2
      obtain ⟨w3, rfl⟩ : ∃ z, z = wr := ⟨_, rfl⟩
      go_wp2_with (first
        | ((with_reducible refine gate_dst (N := 6) rfl ?_); refine box_event ?hgA (N := 6) ?hdA (cs := allC X 1) (t := 39) ?hrA ?_; (case hdA => rfl); (case hgA => rfl); (case hrA => first | (go_simp; done) | (go_simp; rfl)); intro gAll hg w4 GA4 HB4; have hgA := Aside0.mk (Nat.le_of_eq hg.symm); clear hg))
      go_loopg [7] 8 (fun kq v7 w' => ∃ h : Nat, v7 = .int .i64 (h : Int) ∧ Aside0 (6 - h < kq ∧ 1 ≤ h ∧ h ≤ 6) ∧ Aside0 (w'.heap[gAll]? = some (.cells (allC X h) 39 (0, 0))) ∧ Aside0 (Below w3.heap.size w3 w'))
      case atStart => exact ⟨1, rfl, ⟨by omega, by omega, by omega⟩, ⟨GA4⟩, ⟨HB4⟩⟩
      case round =>
        clear GA4 HB4
        obtain ⟨h, rfl, hh, hA, hb⟩ := hrel
        have hh := hh.out
        have GA5 := hA.out
        have HB5 := hb.out
        clear hA hb
        by_cases hz : h = 6
        · subst hz
          clear hX
          have hle : decide (((6 : Nat) : Int) ≤ 5) = false := by decide
          obtain ⟨e3, e4, e5, e6, ⟨c1, e7, h7⟩, ⟨c2, e8, h8⟩⟩ := hend.out
          have hm0 : (0 : Int) < (m.length : Int) := by have := hs.out; omega
          have hm0n : 0 < m.length := by have := hs.out; omega
          have hm0b : decide ((0 : Int) < (m.length : Int)) = true := decide_eq_true hm0
          have hm0c : decide (0 < m.length) = true := decide_eq_true hm0n
          obtain ⟨adm, hadm, hx0, hx1⟩ := at_T23 HM3 0 (by omega) hm0
          subst hadm
          have hx0 : w3.cell? adm = some (.int .i64 (rd_T23 m 0).f0) := hx0
          have hx1 : w3.cell? ⟨adm.block, adm.off + 1, none⟩ = some (.int .i64 (rd_T23 m 0).f1) := hx1
          have had : adm.add 0 = adm := rfl
          generalize rd_T23 m 0 = p at hx0 hx1 e3 e4
          have hx := Aside0.mk (And.intro hx0 hx1)
          clear hx0 hx1
          have h7b : decide (c1 ≤ 0) = true := decide_eq_true h7
          have h8b : decide (c2 ≤ 0) = true := decide_eq_true h8
          have e3 := Aside0.mk e3
          have e4 := Aside0.mk e4
          have e5 := Aside0.mk e5
          have e7 := Aside0.mk e7
          have e8 := Aside0.mk e8
          have all_cells : ∀ W : World, W.heap[gAll]? = some (.cells (allC X 6) 39 (0, 0)) → W.cell? ⟨gAll, 2, none⟩ = some (.int .i64 (X 1).f0) ∧ W.cell? ⟨gAll, 3, none⟩ = some (.int .i64 (X 1).f1) ∧ W.cell? ⟨gAll, 4, none⟩ = some (.int .i64 (X 2).f0) ∧ W.cell? ⟨gAll, 5, none⟩ = some (.int .i64 (X 2).f1) ∧ W.cell? ⟨gAll, 6, none⟩ = some (.int .i64 (X 3).f0) ∧ W.cell? ⟨gAll, 7, none⟩ = some (.int .i64 (X 3).f1) ∧ W.cell? ⟨gAll, 8, none⟩ = some (.int .i64 (X 4).f0) ∧ W.cell? ⟨gAll, 9, none⟩ = some (.int .i64 (X 4).f1) ∧ W.cell? ⟨gAll, 10, none⟩ = some (.int .i64 (X 5).f0) ∧ W.cell? ⟨gAll, 11, none⟩ = some (.int .i64 (X 5).f1) := fun _ h => ⟨(blk_cell h 2).trans rfl, (blk_cell h 3).trans rfl, (blk_cell h 4).trans rfl, (blk_cell h 5).trans rfl, (blk_cell h 6).trans rfl, (blk_cell h 7).trans rfl, (blk_cell h 8).trans rfl, (blk_cell h 9).trans rfl, (blk_cell h 10).trans rfl, (blk_cell h 11).trans rfl⟩
          generalize allC X 6 = cA at GA5 all_cells
          have all_cells := Aside0.mk all_cells
          clear hend hh h7 h8
          go_wp2_with (first
            | ((with_reducible refine gate_dst (N := 16) rfl ?_); refine box_event ?hg16 (N := 16) ?hd16 (cs := #[.int .i64 0, .int .i64 0]) (t := 23) ?hr16 ?_; (case hd16 => rfl); (case hg16 => rfl); (case hr16 => first | (go_simp; done) | (go_simp; rfl)); intro gS hg w12_ hbox hb0; have hb_ := below_set (j := 1) (v := .int .i64 (X 1).f1) (below_set (j := 0) (v := .int .i64 (X 1).f0) hb0 (Nat.le_of_eq hg.symm)) (Nat.le_of_eq hg.symm); have GgS12 := blk_put (blk_put hbox 0 (.int .i64 (X 1).f0) rfl) 1 (.int .i64 (X 1).f1) rfl; have HB12 := below_step HB11 hb_; have GA12 := blk_below GA11 hb_; obtain ⟨nc0, nc1, nf0, nf1⟩ := blk2 hbox; have GP12 := blk_below GG11 hb_; have GQ12 := blk_below GH11 hb_; obtain ⟨cP0, cP1, _, _⟩ := blk2 GP12; obtain ⟨cQ0, cQ1, _, _⟩ := blk2 GQ12; obtain ⟨cS0, cS1, _, _⟩ := blk2 GgS12; obtain ⟨s1, s2, s3, s4, s5, s6, s7, s8, s9, s10⟩ := all_cells.out _ GA12; have hy0 := cellB HB12 hx.out.1; have hy1 := cellB HB12 hx.out.2; clear hb_ hb0 hbox hg)
            | (go_at_call 14; (with_reducible refine (rat_Mul.calls k (X 4).f0 (X 4).f1 (X 5).f0 (X 5).f1 (X 1).f0 (X 1).f1 0 _ e5.out).mono ?_); rintro e9 w11_ ⟨rfl, hb⟩; have HB11 := below_step HB10 hb; have GA11 := blk_below GA10 hb; have GG11 := blk_below GgP10 hb; have GH11 := blk_below GgQ10 hb; clear hb)
            | ((with_reducible refine gate_dst (N := 14) rfl ?_); refine box_event ?hg14 (N := 14) ?hd14 (cs := #[.int .i64 0, .int .i64 0]) (t := 23) ?hr14 ?_; (case hd14 => rfl); (case hg14 => rfl); (case hr14 => first | (go_simp; done) | (go_simp; rfl)); intro gQ hg w10_ hbox hb0; have hb_ := below_set (j := 1) (v := .int .i64 p.f1) (below_set (j := 0) (v := .int .i64 p.f0) hb0 (Nat.le_of_eq hg.symm)) (Nat.le_of_eq hg.symm); have GgQ10 := blk_put (blk_put hbox 0 (.int .i64 p.f0) rfl) 1 (.int .i64 p.f1) rfl; have HB10 := below_step HB8 hb_; have GA10 := blk_below GA8 hb_; obtain ⟨nc0, nc1, nf0, nf1⟩ := blk2 hbox; have GgP10 := blk_below GG8 hb_; obtain ⟨r1, r2, r3, r4, r5, r6, r7, r8, r9, r10⟩ := all_cells.out _ GA10; clear hb_ hb0 hbox hg)
            | (go_at_call 13; (with_reducible refine (fold_Do.calls k 7 Ab cb bl p.f0 p.f1 0 _ (Kd.C_below HX3 HB7) hcb e4.out).mono ?_); rintro e9 w8_ ⟨rfl, hb⟩; have HB8 := below_step HB7 hb; have GA8 := blk_below GA7 hb; have GG8 := blk_below GgP7 hb; clear hb)
            | ((with_reducible refine gate_dst (N := 12) rfl ?_); refine box_event ?hg12 (N := 12) ?hd12 (cs := #[.int .i64 0, .int .i64 0]) (t := 23) ?hr12 ?_; (case hd12 => rfl); (case hg12 => rfl); (case hr12 => first | (go_simp; done) | (go_simp; rfl)); intro gP hg w7_ hbox hb0; have hb_ := below_set (j := 1) (v := .int .i64 p.f1) (below_set (j := 0) (v := .int .i64 p.f0) hb0 (Nat.le_of_eq hg.symm)) (Nat.le_of_eq hg.symm); have GgP7 := blk_put (blk_put hbox 0 (.int .i64 p.f0) rfl) 1 (.int .i64 p.f1) rfl; have HB7 := below_step HB6 hb_; have GA7 := blk_below GA6 hb_; obtain ⟨nc0, nc1, nf0, nf1⟩ := blk2 hbox; clear hb_ hb0 hbox hg)
            | (go_at_call 13; (with_reducible refine (fold_Do.calls k 6 (some adm) cm m p.f0 p.f1 0 _ (Kd.C_below HM3 HB5) hcm e3.out).mono ?_); rintro e9 w6_ ⟨rfl, hb⟩; have HB6 := below_step HB5 hb; have GA6 := blk_below GA5 hb; clear hb))
          have hS : EndS gP gQ gS gAll adm p X ((w12_.setCell ⟨gS, 0, none⟩ (.int .i64 (X 1).f0)).setCell ⟨gS, 1, none⟩ (.int .i64 (X 1).f1)) := ⟨cP0, cP1, cQ0, cQ1, cS0, cS1, hy0, hy1, s1, s2, s3, s4, s5, s6, s7, s8⟩
          clear cP0 cP1 cQ0 cQ1 cS0 cS1 hy0 hy1 s1 s2 s3 s4 s5 s6 s7 s8 s9 s10 nc0 nc1 nf0 nf1
          generalize ((w12_.setCell ⟨gS, 0, none⟩ (.int .i64 (X 1).f0)).setCell ⟨gS, 1, none⟩ (.int .i64 (X 1).f1)) = W12 at hS HB12 ⊢
          refine start_ (n := 48) (S := EndS gP gQ gS gAll adm p X) (ds := []) #[false, false, false, false, false, false, false, false, false, false, false, false, false, false, false, false, false, false, false, false, false, false, false, false, false, false, false, false, false, false, false, false, false, false, false, false, false, false, false, false, false, false, false, false, false, false, false, false] (by kernel_rfl) rfl rfl hS.drew (fun hS5 => ?_)
          have HB13 := below_drew1 HB12
          generalize W12.drew = w13 at HB13 hS5 ⊢
          clear hS HB12
          refine pK 0 (some 86) (bA 48 1) ?_
          refine pK 1 (some 87) (bA 48 3) ?_
          refine pK 2 (some 88) (bA 48 7) ?_
          refine pK 3 (some 89) (bA 48 15) ?_
          refine pK 4 (some 90) (bA 48 31) ?_
          refine pK 5 (some 91) (bA 48 63) ?_
          refine pK 6 (some 92) (bA 48 127) ?_
          refine pK 7 (some 93) (bA 48 255) ?_
          refine pK 8 (some 94) (bA 48 511) ?_
          refine pK 9 (some 95) (bA 48 1023) ?_
          refine pK 10 (some 96) (bA 48 2047) ?_
          refine tK 11 (some 97) (bA 48 4095) rfl rfl hS5 (by rintro w' ⟨u0, u1, u2, u3, u4, u5, u6, u7, u8, u9, u10, u11, u12, u13, u14, u15⟩; go_simp; with_reducible rfl) ?_
          refine tK 12 (some 98) (bA 48 8191) rfl rfl hS5 (by rintro w' ⟨u0, u1, u2, u3, u4, u5, u6, u7, u8, u9, u10, u11, u12, u13, u14, u15⟩; go_simp; with_reducible rfl) ?_
          refine pK 13 (some 99) (bA 48 16383) ?_
          refine pK 14 (some 100) (bA 48 32767) ?_
          refine pK 15 (some 101) (bA 48 65535) ?_
          refine tK 16 (some 102) (bA 48 131071) rfl rfl hS5 (by rintro w' ⟨u0, u1, u2, u3, u4, u5, u6, u7, u8, u9, u10, u11, u12, u13, u14, u15⟩; go_simp; with_reducible rfl) ?_
          refine pK 17 (some 103) (bA 48 262143) ?_
          refine pK 18 (some 104) (bA 48 524287) ?_
          refine tK 19 (some 105) (bA 48 1048575) rfl rfl hS5 (by rintro w' ⟨u0, u1, u2, u3, u4, u5, u6, u7, u8, u9, u10, u11, u12, u13, u14, u15⟩; go_simp; with_reducible rfl) ?_
          refine pK 20 (some 106) (bA 48 2097151) ?_
          refine pK 21 (some 107) (bA 48 4194303) ?_
          refine pK 22 (some 108) (bA 48 8388607) ?_
          refine tK 23 (some 109) (bA 48 16777215) rfl rfl hS5 (by rintro w' ⟨u0, u1, u2, u3, u4, u5, u6, u7, u8, u9, u10, u11, u12, u13, u14, u15⟩; go_simp; with_reducible rfl) ?_
          refine pK 24 (some 110) (bA 48 33554431) ?_
          refine tK 25 (some 111) (bA 48 67108863) rfl rfl hS5 (by rintro w' ⟨u0, u1, u2, u3, u4, u5, u6, u7, u8, u9, u10, u11, u12, u13, u14, u15⟩; go_simp; with_reducible rfl) ?_
          refine pK 26 (some 112) (bA 48 134217727) ?_
          refine pK 27 (some 113) (bA 48 268435455) ?_
          refine pK 28 (some 114) (bA 48 536870911) ?_
          refine pK 29 (some 115) (bA 48 1073741823) ?_
          refine tK 30 (some 116) (bA 48 2147483647) rfl rfl hS5 (by rintro w' ⟨u0, u1, u2, u3, u4, u5, u6, u7, u8, u9, u10, u11, u12, u13, u14, u15⟩; go_simp; with_reducible rfl) ?_
          refine pK 31 (some 117) (bA 48 4294967295) ?_
          refine tK 32 (some 118) (bA 48 8589934591) rfl rfl hS5 (by rintro w' ⟨u0, u1, u2, u3, u4, u5, u6, u7, u8, u9, u10, u11, u12, u13, u14, u15⟩; go_simp; with_reducible rfl) ?_
          refine one_ (i := 33) (N := some 119) (bA 48 17179869183) rfl rfl (by kernel_rfl) (by decide) (fun K hK => ?_)
          refine goes_ Try.func15 (by kernel_rfl) rfl #[.agg #[.int .i64 (X 2).f0, .int .i64 (X 2).f1], .agg #[.int .i64 (X 4).f0, .int .i64 (X 4).f1]] (by rfl) rfl rfl (by simp only [List.map_toArray, List.map_cons, List.map_nil]; rfl) ?_
          refine (marigraphref1_Cmp.calls k (X 2).f0 (X 2).f1 (X 4).f0 (X 4).f1 c1 w13 e7.out).mono ?_
          rintro e9 w14 ⟨rfl, hb⟩
          refine ⟨_, rfl, ?_⟩
          have HB14 := below_step HB13 hb
          have hS6_ := hS5.below hb
          refine hK.out _ _ hS6_ (fun hS6 => ?_)
          clear hK K HB13 hb hS5 hS6_
          refine nK (some 119) ?_
          refine pK 34 (some 120) (bA 48 34359738367) ?_
          refine pK 35 (some 121) (bA 48 68719476735) ?_
          refine pK 36 (some 122) (bA 48 137438953471) ?_
          refine pK 37 (some 123) (bA 48 274877906943) ?_
          refine tK 38 (some 124) (bA 48 549755813887) rfl rfl hS6 (by rintro w' ⟨u0, u1, u2, u3, u4, u5, u6, u7, u8, u9, u10, u11, u12, u13, u14, u15⟩; go_simp; with_reducible rfl) ?_
          refine pK 39 (some 125) (bA 48 1099511627775) ?_
          refine tK 40 (some 126) (bA 48 2199023255551) rfl rfl hS6 (by rintro w' ⟨u0, u1, u2, u3, u4, u5, u6, u7, u8, u9, u10, u11, u12, u13, u14, u15⟩; go_simp; with_reducible rfl) ?_
          refine one_ (i := 41) (N := some 127) (bA 48 4398046511103) rfl rfl (by kernel_rfl) (by decide) (fun K hK => ?_)
          refine goes_ Try.func15 (by kernel_rfl) rfl #[.agg #[.int .i64 (X 4).f0, .int .i64 (X 4).f1], .agg #[.int .i64 (X 3).f0, .int .i64 (X 3).f1]] (by rfl) rfl rfl (by simp only [List.map_toArray, List.map_cons, List.map_nil]; rfl) ?_
          refine (marigraphref1_Cmp.calls k (X 4).f0 (X 4).f1 (X 3).f0 (X 3).f1 c2 w14 e8.out).mono ?_
          rintro e9 w15 ⟨rfl, hb⟩
          refine ⟨_, rfl, ?_⟩
          have HB15 := below_step HB14 hb
          have hS7_ := hS6.below hb
          refine hK.out _ _ hS7_ (fun hS7 => ?_)
          clear hK K HB14 hb hS6 hS7_
          refine nK (some 127) ?_
          refine pK 42 (some 128) (bA 48 8796093022207) ?_
          refine pK 43 (some 129) (bA 48 17592186044415) ?_
          refine pK 44 (some 130) (bA 48 35184372088831) ?_
          refine one_ (i := 45) (N := some 131) (bA 48 70368744177663) rfl rfl (by kernel_rfl) (by decide) (fun K hK => ?_)
          refine goes_ Try.func10 (by kernel_rfl) rfl #[] (by rfl) rfl rfl (by simp only [List.map_toArray, List.map_cons, List.map_nil]) ?_
          refine (marigraphlaw20_known.calls k true w15 hk.out).mono ?_
          rintro e9 w16 ⟨rfl, hb⟩
          refine ⟨_, rfl, ?_⟩
          have HB16 := below_step HB15 hb
          have hS8_ := hS7.below hb
          refine hK.out _ _ hS8_ (fun hS8 => ?_)
          clear hK K HB15 hb hS7 hS8_
          refine nK (some 131) ?_
          refine pK 46 (some 132) (bA 48 140737488355327) ?_
          refine pK 47 (some 2) (bA 48 281474976710655) ?_
          refine done_ (by kernel_rfl) ?_
          go_wp2
          go_ret
          exact ⟨rfl, below_step HBw HB16⟩
        · have hle : decide ((h : Int) ≤ 5) = true := decide_eq_true (by omega)
          have hle2 : decide (h ≤ 5) = true := decide_eq_true (by omega)
          have hl8 : (h : Int) < 8 := by omega
          have hl8n : h < 8 := by omega
          have hl0 : 0 ≤ (h : Int) := Int.natCast_nonneg h
          have hl8b : decide ((h : Int) < 8) = true := decide_eq_true hl8
          have hl8c : decide (h < 8) = true := decide_eq_true hl8n
          obtain ⟨e1, e2⟩ := hX.out h hh.2.1 (by omega)
          have hset := Aside0.mk (allC_set X h hh.2.1 (by omega))
          obtain ⟨v0, hv0⟩ := allC_cell X h (h * 2) (by omega)
          generalize X h = x at e1 e2 hset
          obtain ⟨v1, hv1⟩ := allC_cell1 X h (by omega) (.int .i64 x.f0)
          have e1 := Aside0.mk e1
          have e2 := Aside0.mk e2
          have hv0 := Aside0.mk hv0
          have hv1 := Aside0.mk hv1
          have hlt : Aside0 (h ≤ 5 ∧ 1 ≤ h) := ⟨by omega, by omega⟩
          have hm3 : 6 - h < gk := hh.1
          clear hh hz
          go_wp2_with (first
            | ((with_reducible refine gate_dst (N := 10) rfl ?_); refine box_event ?hg10 (N := 10) ?hd10 (cs := #[.int .i64 0, .int .i64 0]) (t := 23) ?hr10 ?_; (case hd10 => rfl); (case hg10 => rfl); (case hr10 => first | (go_simp; done) | (go_simp; rfl)); intro gY hg w9_ hbox hb0; have hb_ := below_set (j := 1) (v := .int .i64 x.f1) (below_set (j := 0) (v := .int .i64 x.f0) hb0 (Nat.le_of_eq hg.symm)) (Nat.le_of_eq hg.symm); have GY9 := blk_put (blk_put hbox 0 (.int .i64 x.f0) rfl) 1 (.int .i64 x.f1) rfl; have GA9 := blk_below GA8 hb_; have GX9 := blk_below GX8 hb_; have HB9 := below_step HB8 hb_; obtain ⟨nc0, nc1, nf0, nf1⟩ := blk2 hbox; obtain ⟨cGX0, cGX1, _, _⟩ := blk2 GX9; obtain ⟨cGY0, cGY1, _, _⟩ := blk2 GY9; have cA0 := (blk_cell GA9 (h * 2)).trans hv0.out; have fA0 := blk_frozen GA9 (h * 2); have GA10 := blk_put GA9 (h * 2) (.int .i64 x.f0) rfl; have cA1 := (blk_cell GA10 (h * 2 + 1)).trans hv1.out; have fA1 := blk_frozen GA10 (h * 2 + 1); have GA11 := blk_put GA10 (h * 2 + 1) (.int .i64 x.f1) hset.out; have HB11 := below_set (j := h * 2 + 1) (v := .int .i64 x.f1) (below_set (j := h * 2) (v := .int .i64 x.f0) HB9 hgA.out) hgA.out; clear hb_ hb0 hbox hg)
            | (go_at_call 13; (with_reducible refine (fold_Do.calls k (h : Int) Ab cb bl x.f0 x.f1 0 _ (Kd.C_below HX3 HB7) hcb e2.out).mono ?_); rintro e8 w8_ ⟨rfl, hb⟩; have GA8 := blk_below GA7 hb; have GX8 := blk_below GX7 hb; have HB8 := below_step HB7 hb; clear hb)
            | ((with_reducible refine gate_dst (N := 8) rfl ?_); refine box_event ?hg8 (N := 8) ?hd8 (cs := #[.int .i64 0, .int .i64 0]) (t := 23) ?hr8 ?_; (case hd8 => rfl); (case hg8 => rfl); (case hr8 => first | (go_simp; done) | (go_simp; rfl)); intro gX hg w7_ hbox hb0; have hb_ := below_set (j := 1) (v := .int .i64 x.f1) (below_set (j := 0) (v := .int .i64 x.f0) hb0 (Nat.le_of_eq hg.symm)) (Nat.le_of_eq hg.symm); have GX7 := blk_put (blk_put hbox 0 (.int .i64 x.f0) rfl) 1 (.int .i64 x.f1) rfl; have GA7 := blk_below GA6 hb_; have HB7 := below_step HB6 hb_; obtain ⟨nc0, nc1, nf0, nf1⟩ := blk2 hbox; clear hb_ hb0 hbox hg)
            | (go_at_call 13; (with_reducible refine (fold_Do.calls k (h : Int) Am cm m x.f0 x.f1 0 _ (Kd.C_below HM3 HB5) hcm e1.out).mono ?_); rintro e6 w6_ ⟨rfl, hb⟩; have GA6 := blk_below GA5 hb; have HB6 := below_step HB5 hb; clear hb))
          go_roundg (6 - h)
          case measure => exact hm3
          case rel => exact ⟨h + 1, (congrArg (Value.int .i64) (by first | rfl | (unfold wrap64; have := hlt.out; omega))), ⟨by have := hlt.out; omega⟩, ⟨GA11⟩, ⟨HB11⟩⟩
    · have hge : decide (0 ≤ (j : Int) - 1) = true := decide_eq_true (by omega)
      obtain ⟨q, rfl⟩ : ∃ q, j = q + 1 := ⟨j - 1, by omega⟩
      have e1 : (((q + 1 : Nat) : Int) - 1) = (q : Int) := by omega
      rw [e1] at hge ⊢
      have hsub : IntKind.i64.wrap ((q : Int) - 1) = (q : Int) - 1 := by rw [i64_w]; unfold wrap64; have := hj.out; have := hml.out; omega
      obtain ⟨Ab, cb, rfl⟩ := Kd.R_slice hR.out
      obtain ⟨adm, hadm, hx0_, hx1_⟩ := at_T23 HM2 (q : Int) (by omega) (by have := hj.out; omega)
      subst hadm
      rw [Int.toNat_natCast] at hx0_ hx1_
      have hlt : decide ((q : Int) < (m.length : Int)) = true := decide_eq_true (by have := hj.out; omega)
      have hge0 : (0 ≤ (q : Int)) := by omega
      have hltn : q < m.length := by have := hj.out; omega
      have hj := Aside0.mk hj.out
      clear hz
      have hx0 := cellB hb.out hx0_
      have hx1 := cellB hb.out hx1_
      have hext : Aside0 ((m.drop (q + 1)).reverse ++ [rd_T23 m (q : Int)] = (m.drop q).reverse) := ⟨rev_step hltn⟩
      have hlen : Aside0 ((m.drop (q + 1)).reverse.length ≤ 6) := ⟨by rw [List.length_reverse, List.length_drop]; have := hml.out; omega⟩
      generalize rd_T23 m (q : Int) = X at hx0 hx1 hx0_ hx1_ hext
      generalize (m.drop (q + 1)).reverse = bl at hR hext hlen
      clear hx0_ hx1_
      go_wp2_with (first
        | ((with_reducible refine gate_builtin (b := .append) (xs := #[.tmp 31, .tmp 36]) rfl ?_); at_builtin; refine Kd.R_append k23 (w0 := w2) w2.heap.size rfl (.tmp 31) (.tmp 36) 24 23 (.agg #[(.int .i64 0), (.int .i64 0)]) 16 rfl Try.underlying24 info23 rfl (by decide) (by omega) (.slice Ab bl.length cb) bl X [.int .i64 X.f0, .int .i64 X.f1] (fun _ => True) (fun _ => False) rfl rfl ?aP (fun _ hk => hk.elim) ?aF ?aO ?aB ?aS ?aL ?_; (case aP => exact k23_mkM _ _ _ X); (case aB => exact hb.out); (case aF => exact (fun _ _ => trivial)); (case aO => exact hR.out); (case aS => exact (below_size hb.out)); (case aL => have := hlen.out; omega); intro v9 w9 ho hb9 hg hat; rw [hext.out] at ho; clear hg hat))
      go_roundg (q + 1)
      case measure => have := hj.out; omega
      case rel => exact ⟨q, (by first | rfl | (rw [hsub])), ⟨by have := hj.out; omega⟩, ⟨ho⟩, ⟨hb9⟩⟩
/-- THE ONE PURE STATEMENT of FoldOrders. -/
def FoldOrders.Pure : Prop := ∀ (l0 : List Int), (∀ x ∈ l0, (Lit.int .i64 x).wf = true) →
  ∃ k m, marigraphlaw20_rats.f k l0 6 = some m ∧ m.length ≤ 6 ∧ marigraphlaw20_known.f k = some true ∧ (m.length = 0 ∨ (1 ≤ m.length ∧ ∃ X : Nat → S23,
    (∀ h : Nat, 1 ≤ h → h ≤ 5 → fold_Do.f k (h : Int) m = some ((X h).f0, (X h).f1, 0) ∧ fold_Do.f k (h : Int) m.reverse = some ((X h).f0, (X h).f1, 0)) ∧
    (fold_Do.f k 6 m = some ((rd_T23 m 0).f0, (rd_T23 m 0).f1, 0) ∧ fold_Do.f k 7 m.reverse = some ((rd_T23 m 0).f0, (rd_T23 m 0).f1, 0) ∧ rat_Mul.f k (X 4).f0 (X 4).f1 (X 5).f0 (X 5).f1 = some ((X 1).f0, (X 1).f1, 0) ∧ True ∧ (∃ c1, marigraphref1_Cmp.f k (X 2).f0 (X 2).f1 (X 4).f0 (X 4).f1 = some c1 ∧ c1 ≤ 0) ∧ (∃ c2, marigraphref1_Cmp.f k (X 4).f0 (X 4).f1 (X 3).f0 (X 3).f1 = some c2 ∧ c2 ≤ 0))))
theorem foldOrders_walk (P : FoldOrders.Pure) (a1 : Option Addr) (len1 cap1 : Nat) (z1 : List Int) (w : World)
    (w1 : (a1 = none ∧ len1 = 0 ∧ cap1 = 0 ∧ z1 = []) ∨ ∃ x, a1 = some x ∧ len1 ≤ cap1 ∧ cap1 ≤ maxLen ∧ z1.length = cap1 ∧ (∀ i, i < z1.length → w.cell? (x.add i) = some (.int .i64 (z1.getD i 0))) ∧ ∀ n ∈ z1, (Lit.int .i64 n).wf = true) :
    Calls Try.prog 5 #[.slice a1 len1 cap1] w fun e w' => e = .returned (.bool true) ∧ Below w.heap.size w w' := by
  obtain ⟨l1, rfl, hr1, hm1, hw1, hc1⟩ := ReadsInt.ofRowC w1
  have hC := Kd.C_of_reads (d := (0 : Int)) (h1 := fun _ => rfl) hr1
  obtain ⟨k, m, e1, e2, e3, e4⟩ := P l1 hw1
  rcases e4 with hs | ⟨h2, X, hX, hend⟩
  · exact foldOrders_small k _ _ l1 m w hC hc1 e1 hs e3
  · exact foldOrders_at k X _ _ l1 m w hC hc1 e1 ⟨e2⟩ ⟨h2⟩ ⟨hX⟩ ⟨hend⟩ e3
end Go.Proofs.Ytncieaeooiilpaa.PFoldOrders

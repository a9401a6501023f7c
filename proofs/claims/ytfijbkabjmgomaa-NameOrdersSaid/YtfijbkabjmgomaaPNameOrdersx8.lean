/- The walk of the Go functions that a law reaches, told as plain functions; a program of this session has written it. No condition beyond the statement's own. -/
import Derived.Test.YtfijbkabjmgomaaPNameOrdersx0
import Derived.Test.YtfijbkabjmgomaaPNameOrdersx1
import Derived.Test.YtfijbkabjmgomaaPNameOrdersx2
import Derived.Test.YtfijbkabjmgomaaPNameOrdersx4
import Derived.Test.YtfijbkabjmgomaaPNameOrdersx6
import Derived.Test.YtfijbkabjmgomaaPNameOrdersx7
namespace Go.Proofs.Ytfijbkabjmgomaa.PNameOrders
open Go.RowKit Go.Proofs.YtfijbkabjmgomaaW.PrintWords Go.Proofs.YtfijbkabjmgomaaW.PrintLast Go.Proofs.YtfijbkabjmgomaaW.PrintMore
attribute [local go_sem] max2_int min2_int max_two min_two max_three min_three max_four min_four   -- for this text's walks alone
set_option linter.unusedVariables false
set_option linter.unusedSimpArgs false

set_option maxHeartbeats 8000000
set_option maxRecDepth 100000
/-- A step of a region that yields in every world; one whose guard is off; one that reads what is held. -/
theorem pK {P : Program} {ops : Array Oper} {Q : Exit → Act → World → Prop} {md : Region.Mode} {S : World → Prop} {ds : List Nat} {oi : Oper} {v : Value} {fuel : Nat} {l : Array Bool} {a a' : Act} {w : World} (i : Nat) (N : Option Tmp) (l' : Array Bool) (h : wpAnyLast P md ops Q S ds fuel l' a' w)
    (hi : ops[i]? = some oi := by rfl) (hN : oi.dst = N := by rfl) (hc : anyB md ops l l' i = true := by kernel_rfl) (hQ : ∀ c a w, Q (.panic c) (a.put oi.dst v) w → Q (.panic c) a w := by exact fun _ _ _ h => h)
    (hy : Region.wanted oi (yielded ops a.tmps) = true := by rfl) (hy' : ∀ w, (execOp a.eval oi).run P w = .ok (.value v) w := by intro w'; go_simp; with_reducible rfl)
    (ha : a.put N v = a' := by simp only [Act.put, List.setIfInBounds_toArray, List.set_cons_zero, List.set_cons_succ, i64_w, i32_w]; rfl) : wpAnyLast P md ops Q S ds (fuel + 1) l a w :=
  pure_ l' hi hN hc hQ (Or.inl ⟨hy, hy'⟩) ha h
theorem uK {P : Program} {ops : Array Oper} {Q : Exit → Act → World → Prop} {md : Region.Mode} {S : World → Prop} {ds : List Nat} {oi : Oper} {fuel : Nat} {l : Array Bool} {a a' : Act} {w : World} (i : Nat) (N : Option Tmp) (l' : Array Bool) (h : wpAnyLast P md ops Q S ds fuel l' a' w)
    (hi : ops[i]? = some oi := by rfl) (hN : oi.dst = N := by rfl) (hc : anyB md ops l l' i = true := by kernel_rfl) (hQ : ∀ c a w, Q (.panic c) (a.put oi.dst undef) w → Q (.panic c) a w := by exact fun _ _ _ h => h)
    (hy : Region.wanted oi (yielded ops a.tmps) = false := by rfl)
    (ha : a.put N undef = a' := by simp only [Act.put, List.setIfInBounds_toArray, List.set_cons_zero, List.set_cons_succ, i64_w, i32_w]; rfl) : wpAnyLast P md ops Q S ds (fuel + 1) l a w :=
  pure_ l' hi hN hc hQ (Or.inr ⟨hy, rfl⟩) ha h
theorem tK {P : Program} {ops : Array Oper} {Q : Exit → Act → World → Prop} {md : Region.Mode} {S : World → Prop} {ds : List Nat} {oi : Oper} {v : Value} {fuel : Nat} {l : Array Bool} {a a' : Act} {w : World} (i : Nat) (N : Option Tmp) (l' : Array Bool) (hi : ops[i]? = some oi) (hN : oi.dst = N) (hS : S w) (hy' : ∀ w, S w → (execOp a.eval oi).run P w = .ok (.value v) w) (h : wpAnyLast P md ops Q S ds fuel l' a' w)
    (hc : takeB md ops ds l l' i = true := by kernel_rfl) (hQ : ∀ c a w, Q (.panic c) (a.put oi.dst v) w → Q (.panic c) a w := by exact fun _ _ _ h => h)
    (hy : Region.wanted oi (yielded ops a.tmps) = true := by rfl)
    (ha : a.put N v = a' := by simp only [Act.put, List.setIfInBounds_toArray, List.set_cons_zero, List.set_cons_succ, i64_w, i32_w]; rfl) : wpAnyLast P md ops Q S ds (fuel + 1) l a w :=
  take_ l' hi hN hc hQ (Or.inl ⟨hy, hy'⟩) hS ha h
theorem nK {P : Program} {ops : Array Oper} {Q : Exit → Act → World → Prop} {md : Region.Mode} {S : World → Prop} {ds : List Nat} {fuel : Nat} {l : Array Bool} {a a' : Act} {v : Value} {w : World} (N : Option Tmp) (h : wpAnyLast P md ops Q S ds fuel l a' w)
    (ha : a.put N v = a' := by simp only [Act.put, List.setIfInBounds_toArray, List.set_cons_zero, List.set_cons_succ, i64_w, i32_w]; rfl) : wpAnyLast P md ops Q S ds fuel l (a.put N v) w := norm_ ha h
theorem blk3 {w : World} {g : Nat} {t : TypeId} {x y z : Value} (h : w.heap[g]? = some (.cells #[x, y, z] t (0, 0))) : w.cell? ⟨g, 0, none⟩ = some x ∧ w.cell? ⟨g, 1, none⟩ = some y ∧ w.cell? ⟨g, 2, none⟩ = some z ∧ w.frozen? ⟨g, 0, none⟩ = false ∧ w.frozen? ⟨g, 1, none⟩ = false ∧ w.frozen? ⟨g, 2, none⟩ = false :=
  ⟨(blk_cell h 0).trans rfl, (blk_cell h 1).trans rfl, (blk_cell h 2).trans rfl, blk_frozen h 0, blk_frozen h 1, blk_frozen h 2⟩

/-! ### marigraphlaw12.NameOrders: function 5, by hand -/
theorem blk8 {w : World} {g : Nat} {t : TypeId} {a b c d e f x y : Value} (h : w.heap[g]? = some (.cells #[a, b, c, d, e, f, x, y] t (0, 0))) : w.cell? ⟨g, 0, none⟩ = some a ∧ w.cell? ⟨g, 1, none⟩ = some b ∧ w.cell? ⟨g, 2, none⟩ = some c ∧ w.cell? ⟨g, 3, none⟩ = some d ∧ w.cell? ⟨g, 4, none⟩ = some e ∧ w.cell? ⟨g, 5, none⟩ = some f ∧ w.cell? ⟨g, 6, none⟩ = some x ∧ w.cell? ⟨g, 7, none⟩ = some y :=
  ⟨(blk_cell h 0).trans rfl, (blk_cell h 1).trans rfl, (blk_cell h 2).trans rfl, (blk_cell h 3).trans rfl, (blk_cell h 4).trans rfl, (blk_cell h 5).trans rfl, (blk_cell h 6).trans rfl, (blk_cell h 7).trans rfl⟩
theorem rdT_nat {l : List S25} {j : Nat} (h : j < l.length) : rd_T25 l (j : Int) = l[j] := by
  unfold rd_T25
  rw [Int.toNat_natCast, List.getD_eq_getElem?_getD, List.getElem?_eq_getElem h]
  rfl
theorem rdT34_nat {l : List S34} {j : Nat} (h : j < l.length) : rd_T34 l (j : Int) = l[j] := by
  unfold rd_T34
  rw [Int.toNat_natCast, List.getD_eq_getElem?_getD, List.getElem?_eq_getElem h]
  rfl
theorem nameOrders_at (k : Nat) (p0 p1 p2 p3 p4 : Int) (p5 : Bool) (p6 p7 : Int) (AM : Option Addr) (cM : Nat) (lM : List S34) (met : ByteArray) (tags : List S25) (pt pv : Int) (fT : S34 → S25) (a b : List S25) (er : Int) (w : World)
    (hrM : Kd.C k34 w AM lM.length lM) (hcM : lM.length ≤ cM)
    (hof : marigraphkeep_Of.f k p0 p1 p2 p3 p4 p5 p6 p7 = some (met, tags, pt, pv)) (htl : tags.length ≤ 2)
    (hF : ∀ x ∈ lM, ∃ m ts tm v, marigraphkeep_Of.f k x.f0 x.f1 x.f2 x.f3 x.f4 x.f5 x.f6 x.f7 = some (m, fT x :: ts, tm, v))
    (hT1 : name_Tags.f k (tags ++ (lM.take 3).map fT) = some (a, er)) (hT2 : name_Tags.f k (tags ++ (lM.take 3).map fT).reverse = some (b, er))
    (hSm : name_Same.f k a b = some true) (hal : a.length ≤ 5) (hri : ∀ x : Int, 1 ≤ x → x < a.length → Op.bytesLess (rd_T25 a (x - 1)).f0.toList (rd_T25 a x).f0.toList = true)
    (he : er ≠ 0 ∨ a.length = (tags ++ (lM.take 3).map fT).length) (hk : marigraphlaw12_known.f k = some true) :
    Calls Try.prog 5 #[.agg #[.int .i64 p0, .int .i64 p1, .int .i64 p2, .int .i64 p3, .int .i64 p4, .bool p5, .int .i64 p6, .int .i64 p7], .slice AM lM.length cM] w fun e w' => e = .returned (.bool true) ∧ Below w.heap.size w w' := by
  have hu25 := Try.underlying25
  have hu34 := Try.underlying34
  replace hof := Aside0.mk hof
  replace hF := Aside0.mk hF
  replace hT1 := Aside0.mk hT1
  replace hT2 := Aside0.mk hT2
  replace hSm := Aside0.mk hSm
  replace hri := Aside0.mk hri
  replace he := Aside0.mk he
  replace hk := Aside0.mk hk
  replace htl := Aside0.mk htl
  replace hal := Aside0.mk hal
  have hfd : ∀ (x y z u : Value) (w : World), (Instr.field 31 (.agg #[x, y, z, u]) 1).run Try.prog w = .ok y w := by intros; kernel_rfl
  go_enter Try.func5, Try.ntmps5
  go_wp2_with (first
    | ((with_reducible refine gate_dst (N := 2) rfl ?_); refine box_event ?hgP (N := 2) ?hdP (cs := #[.int .i64 p0, .int .i64 p1, .int .i64 p2, .int .i64 p3, .int .i64 p4, .bool p5, .int .i64 p6, .int .i64 p7]) (t := 34) ?hrP ?_; (case hdP => rfl); (case hgP => rfl); (case hrP => first | (go_simp; done) | (go_simp; rfl)); intro gP hg w1 y1 hb1; obtain ⟨u0, u1, u2, u3, u4, u5, u6, u7⟩ := blk8 y1; clear hg y1)
    | (go_at_call 11; (with_reducible refine (marigraphkeep_Of.calls k p0 p1 p2 p3 p4 p5 p6 p7 met tags pt pv _ hof.out).mono ?_); rintro e w2 ⟨vt, rfl, hT, hb2⟩; obtain ⟨At, ct, rfl⟩ := Kd.R_slice hT; have HB := below_step hb1 hb2; have HBo := hb1; clear hb1 hb2 u0 u1 u2 u3 u4 u5 u6 u7))
  have hR0 := Aside0.mk (Kd.R_lower hT (below_size HBo))
  have hB0 := Aside0.mk HB
  clear hT HB HBo
  go_loopg [5, 6] 4 (fun kq v5 v6 w' => ∃ j : Nat, v6 = .int .i64 (j : Int) ∧ Aside0 (3 - j < kq ∧ j ≤ 3 ∧ j ≤ lM.length) ∧ Aside0 (Kd.R k25 25 w' w.heap.size (fun _ => True) v5 (tags ++ (lM.take j).map fT)) ∧ Aside0 (Below w.heap.size w w'))
  case atStart => exact ⟨0, rfl, ⟨by omega⟩, ⟨by rw [List.take_zero, List.map_nil, List.append_nil]; exact hR0.out⟩, hB0⟩
  case round =>
    clear hR0 hB0
    obtain ⟨j, rfl, hj, hR, hB⟩ := hrel
    replace hj := hj.out
    replace hR := hR.out
    obtain ⟨ys, hys⟩ : ∃ l, l = tags ++ (lM.take j).map fT := ⟨_, rfl⟩
    have hyl : Aside0 (ys.length ≤ 5) := ⟨by rw [hys, List.length_append, List.length_map, List.length_take]; have := htl.out; omega⟩
    rw [← hys] at hR
    obtain ⟨Al, cl, rfl⟩ := Kd.R_slice hR
    replace hys := Aside0.mk hys
    rcases (by omega : (¬ j < lM.length) ∨ (j < lM.length ∧ ¬ j < 3) ∨ (j < lM.length ∧ j < 3)) with hn | ⟨hn, h3⟩ | ⟨hn, h3⟩
    · have hd1 : decide ((j : Int) < (lM.length : Int)) = false := decide_eq_false (by omega)
      have hd3 : decide (j < lM.length) = false := decide_eq_false hn
      have htk : ys = tags ++ (lM.take 3).map fT := by rw [hys.out, List.take_of_length_le (show lM.length ≤ j by omega), List.take_of_length_le (show lM.length ≤ 3 by omega)]
      replace htk := Aside0.mk htk
      go_wp2
      clear hd1 hd3
      generalize wr = wA at hR hB ⊢
      go_loopg [7, 8] 7 (fun kq v7 v8 w' => ∃ x : Int, v8 = .int .i64 x ∧ Aside0 (-1 ≤ x ∧ x < ys.length ∧ (x + 1).toNat < kq) ∧ Aside0 (Kd.R k25 25 w' wA.heap.size (fun _ => True) v7 (ys.drop (x + 1).toNat).reverse) ∧ Aside0 (Below wA.heap.size wA w'))
      case atStart => exact ⟨(ys.length : Int) - 1, (by first | rfl | exact congrArg (Value.int .i64) (by have := hyl.out; unfold wrap64; omega)), ⟨by have := hyl.out; omega, by omega, by have := hyl.out; omega⟩, ⟨by rw [show ((ys.length : Int) - 1 + 1).toNat = ys.length by omega, List.drop_length]; exact Kd.R_nil _ _ _ _ _⟩, ⟨Below.refl _ _⟩⟩
      case round =>
        obtain ⟨x, rfl, hx, hR7, hB7⟩ := hrel
        replace hx := hx.out
        replace hR7 := hR7.out
        obtain ⟨A7, c7, rfl⟩ := Kd.R_slice hR7
        by_cases hx0 : 0 ≤ x
        · have hd1 : decide (0 ≤ x) = true := decide_eq_true hx0
          have hp1 : (0 ≤ x) = True := eq_true hx0
          have hd2 : decide (x < (ys.length : Int)) = true := decide_eq_true hx.2.1
          have hp2 : (x < (ys.length : Int)) = True := eq_true hx.2.1
          obtain ⟨ad8, e8, g0, g1⟩ := at_T25 (Kd.R_reads' (Kd.R_below hR hB7.out)).2.2 x hx0 hx.2.1
          cases e8
          have hdr : (ys.drop x.toNat).reverse = (ys.drop (x + 1).toNat).reverse ++ [rd_T25 ys x] := by
            obtain ⟨n, rfl⟩ := Int.eq_ofNat_of_zero_le hx0
            have hn : n < ys.length := by omega
            rw [rdT_nat hn, show ((n : Int)).toNat = n by omega, show ((n : Int) + 1).toNat = n + 1 by omega, List.drop_eq_getElem_cons hn, List.reverse_cons]
          have hln : (ys.drop (x + 1).toNat).reverse.length ≤ 5 := by rw [List.length_reverse, List.length_drop]; have := hyl.out; omega
          generalize (ys.drop (x + 1).toNat).reverse = zs at hR7 hdr hln ⊢
          replace hdr := Aside0.mk hdr
          replace hln := Aside0.mk hln
          generalize rd_T25 ys x = tx at g0 g1 hdr
          go_wp2_with (first
            | ((with_reducible refine gate_builtin (b := .append) (xs := #[.tmp 47, .tmp 52]) rfl ?_); at_builtin; refine Kd.R_append k25 (w0 := wA) wA.heap.size rfl (.tmp 47) (.tmp 52) 27 25 (.agg #[(.string ⟨#[]⟩), (.string ⟨#[]⟩)]) 32 rfl Try.underlying27 info25 rfl (by decide) (by omega) (.slice A7 zs.length c7) zs tx [.string tx.f0, .string tx.f1] (fun _ => True) (fun _ => False) rfl (by first | (go_simp; done) | (go_simp; rfl)) (k25_mkM _ _ _ tx) (fun _ hk => hk.elim) (fun _ _ => trivial) ?aO ?aB ?aS ?aL ?_; (case aB => exact belN hB7.out); (case aO => exact rowN hR7); (case aS => exact below_size (belN hB7.out)); (case aL => have := hln.out; omega); intro v9 w9 ho hb hg hat; clear hg hat))
          go_roundg (x + 1).toNat
          case measure => exact hx.2.2
          case rel => exact ⟨x - 1, (by first | rfl | exact congrArg (Value.int .i64) (by have := hyl.out; unfold wrap64; omega)), ⟨by omega, by omega, by omega⟩, ⟨by rw [show (x - 1 + 1).toNat = x.toNat by omega, hdr.out]; exact rowN ho⟩, ⟨belN hb⟩⟩
        · have hd1 : decide (0 ≤ x) = false := decide_eq_false hx0
          have hx1 : x = -1 := by omega
          have hlm : (ys.drop (x + 1).toNat).reverse = ys.reverse := by rw [hx1]; rfl
          rw [hlm] at hR7 ⊢
          have hR5 := Aside0.mk (Kd.R_below hR hB7.out)
          have hBw := Aside0.mk (below_step hB.out hB7.out)
          replace hT1 : Aside0 (name_Tags.f k ys = some (a, er)) := ⟨by rw [htk.out]; exact hT1.out⟩
          replace hT2 : Aside0 (name_Tags.f k ys.reverse = some (b, er)) := ⟨by rw [htk.out]; exact hT2.out⟩
          replace he : Aside0 (er ≠ 0 ∨ a.length = ys.length) := ⟨by rw [htk.out]; exact he.out⟩
          clear hlm hx1 hx0 hx hR hB hB7
          obtain ⟨zs, hzs⟩ : ∃ l, l = ys.reverse := ⟨_, rfl⟩
          rw [← hzs] at hR7 hT2 ⊢
          clear hzs
          have hee : (er == er) = true := by simp
          have hen : (er != er) = false := by simp
          go_wp2_with (first
            | (go_at_call 13; (with_reducible refine (name_Tags.calls k Al cl ys a er _ (Kd.R_reads' hR5.out).2.2 (Kd.R_reads' hR5.out).2.1 hT1.out).mono ?_); rintro e w5 ⟨va, rfl, hRa, hb5⟩; obtain ⟨Aa, ca, rfl⟩ := Kd.R_slice hRa; replace hR7 := Kd.R_below hR7 hb5; replace hBw := Aside0.mk (below_step hBw.out hb5); clear hb5)
            | (go_at_call 13; (with_reducible refine (name_Tags.calls k A7 c7 zs b er _ (Kd.R_reads' hR7).2.2 (Kd.R_reads' hR7).2.1 hT2.out).mono ?_); rintro e w6 ⟨vb, rfl, hRb, hb6⟩; obtain ⟨Ab, cb, rfl⟩ := Kd.R_slice hRb; replace hRa := Kd.R_below hRa hb6; replace hBw := Aside0.mk (below_step hBw.out hb6); clear hb6)
            | (go_at_call 12; (with_reducible refine (name_Same.calls k Aa ca a Ab cb b true _ (Kd.R_reads' hRa).2.2 (Kd.R_reads' hRa).2.1 (Kd.R_reads' hRb).2.2 (Kd.R_reads' hRb).2.1 hSm.out).mono ?_); rintro e w7 ⟨rfl, hdr⟩; have hb7 : Below w6.heap.size w6 w7 := hdr.below; replace hRa := Kd.R_below hRa hb7; replace hBw := Aside0.mk (below_step hBw.out hb7); clear hb7 hdr))
          go_loopg [13] 7 (fun kq v13 w' => ∃ x : Int, v13 = .int .i64 x ∧ Aside0 (1 ≤ x ∧ x ≤ 6 ∧ (6 - x).toNat < kq) ∧ Aside0 (Below w7.heap.size w7 w'))
          case atStart => exact ⟨1, rfl, ⟨by omega, by omega, by omega⟩, ⟨belN (Below.refl _ _)⟩⟩
          case round =>
            obtain ⟨x, rfl, hx, hB8⟩ := hrel
            replace hx := hx.out
            by_cases hxl : x < (a.length : Int)
            · have hd1 : decide (x < (a.length : Int)) = true := decide_eq_true hxl
              have hp1 : (x < (a.length : Int)) = True := eq_true hxl
              have hp0 : (0 ≤ x) = True := eq_true (by omega)
              obtain ⟨jx, hjx⟩ : ∃ j_ : Int, wrap64 (x - 1) = j_ := ⟨_, rfl⟩
              have hjxw : (IntKind.i64.wrap (x - 1)) = jx := (i64_w _).trans hjx
              have hje : Aside0 (jx = x - 1) := ⟨by have := hjx; unfold wrap64 at this; omega⟩
              have hq0 : (0 ≤ jx) = True := eq_true (by have := hje.out; omega)
              have hq1 : (jx < (a.length : Int)) = True := eq_true (by have := hje.out; omega)
              have hRx := Kd.R_below hRa hB8.out
              obtain ⟨ad8, e8, g0, g1⟩ := at_T25 (Kd.R_reads' hRx).2.2 x (by omega) hxl
              cases e8
              obtain ⟨ad9, e9, g2, g3⟩ := at_T25 (Kd.R_reads' hRx).2.2 jx (by have := hje.out; omega) (by have := hje.out; omega)
              cases e9
              have hls : Op.bytesLess (rd_T25 a jx).f0.toList (rd_T25 a x).f0.toList = true := by rw [hje.out]; exact hri.out x hx.1 hxl
              clear hRx
              go_wp2
              repeat (go_quiet (fail); try go_wp2)
              go_roundg (6 - x).toNat
              case measure => exact hx.2.2
              case rel => exact ⟨x + 1, (by first | rfl | exact congrArg (Value.int .i64) (by have := hal.out; unfold wrap64; omega)), ⟨by omega, by have := hal.out; omega, by have := hal.out; omega⟩, ⟨belN hB8.out⟩⟩
            · have hd1 : decide (x < (a.length : Int)) = false := decide_eq_false hxl
              have hBE := Aside0.mk (below_step hBw.out hB8.out)
              clear hBw hB8 hRa hRb hR7 hR5
              rcases he.out with he2 | he2
              · have q1 : (er == 0) = false := by simpa using he2
                have q2 : (er != 0) = true := by simpa using he2
                clear he he2
                go_wp2_with (go_at_call 10; (with_reducible refine (marigraphlaw12_known.calls k true _ hk.out).mono ?_); rintro e w9 ⟨rfl, hb9⟩; have HB9 := below_step (belN hBE.out) hb9; clear hb9)
                go_ret
                exact ⟨rfl, HB9⟩
              · have q3 : ((a.length : Int) == (ys.length : Int)) = true := by rw [he2]; simp
                have q4 : (a.length == ys.length) = true := by rw [he2]; simp
                clear he
                by_cases he0 : er = 0
                · have q1 : (er == 0) = true := by simpa using he0
                  have q2 : (er != 0) = false := by simpa using he0
                  clear he0 he2
                  go_wp2_with (go_at_call 10; (with_reducible refine (marigraphlaw12_known.calls k true _ hk.out).mono ?_); rintro e w9 ⟨rfl, hb9⟩; have HB9 := below_step (belN hBE.out) hb9; clear hb9)
                  go_ret
                  exact ⟨rfl, HB9⟩
                · have q1 : (er == 0) = false := by simpa using he0
                  have q2 : (er != 0) = true := by simpa using he0
                  clear he0 he2
                  go_wp2_with (go_at_call 10; (with_reducible refine (marigraphlaw12_known.calls k true _ hk.out).mono ?_); rintro e w9 ⟨rfl, hb9⟩; have HB9 := below_step (belN hBE.out) hb9; clear hb9)
                  go_ret
                  exact ⟨rfl, HB9⟩
    · have hd1 : decide ((j : Int) < (lM.length : Int)) = true := decide_eq_true (by omega)
      have hd3 : decide (j < lM.length) = true := decide_eq_true hn
      have hd5 : decide ((j : Int) < 3) = false := decide_eq_false (by omega)
      have hd6 : decide (j < 3) = false := decide_eq_false h3
      have htk : ys = tags ++ (lM.take 3).map fT := by rw [hys.out, show j = 3 by omega]
      replace htk := Aside0.mk htk
      go_wp2
      clear hd1 hd3 hd5 hd6
      generalize wr = wA at hR hB ⊢
      go_loopg [7, 8] 7 (fun kq v7 v8 w' => ∃ x : Int, v8 = .int .i64 x ∧ Aside0 (-1 ≤ x ∧ x < ys.length ∧ (x + 1).toNat < kq) ∧ Aside0 (Kd.R k25 25 w' wA.heap.size (fun _ => True) v7 (ys.drop (x + 1).toNat).reverse) ∧ Aside0 (Below wA.heap.size wA w'))
      case atStart => exact ⟨(ys.length : Int) - 1, (by first | rfl | exact congrArg (Value.int .i64) (by have := hyl.out; unfold wrap64; omega)), ⟨by have := hyl.out; omega, by omega, by have := hyl.out; omega⟩, ⟨by rw [show ((ys.length : Int) - 1 + 1).toNat = ys.length by omega, List.drop_length]; exact Kd.R_nil _ _ _ _ _⟩, ⟨Below.refl _ _⟩⟩
      case round =>
        obtain ⟨x, rfl, hx, hR7, hB7⟩ := hrel
        replace hx := hx.out
        replace hR7 := hR7.out
        obtain ⟨A7, c7, rfl⟩ := Kd.R_slice hR7
        by_cases hx0 : 0 ≤ x
        · have hd1 : decide (0 ≤ x) = true := decide_eq_true hx0
          have hp1 : (0 ≤ x) = True := eq_true hx0
          have hd2 : decide (x < (ys.length : Int)) = true := decide_eq_true hx.2.1
          have hp2 : (x < (ys.length : Int)) = True := eq_true hx.2.1
          obtain ⟨ad8, e8, g0, g1⟩ := at_T25 (Kd.R_reads' (Kd.R_below hR hB7.out)).2.2 x hx0 hx.2.1
          cases e8
          have hdr : (ys.drop x.toNat).reverse = (ys.drop (x + 1).toNat).reverse ++ [rd_T25 ys x] := by
            obtain ⟨n, rfl⟩ := Int.eq_ofNat_of_zero_le hx0
            have hn : n < ys.length := by omega
            rw [rdT_nat hn, show ((n : Int)).toNat = n by omega, show ((n : Int) + 1).toNat = n + 1 by omega, List.drop_eq_getElem_cons hn, List.reverse_cons]
          have hln : (ys.drop (x + 1).toNat).reverse.length ≤ 5 := by rw [List.length_reverse, List.length_drop]; have := hyl.out; omega
          generalize (ys.drop (x + 1).toNat).reverse = zs at hR7 hdr hln ⊢
          replace hdr := Aside0.mk hdr
          replace hln := Aside0.mk hln
          generalize rd_T25 ys x = tx at g0 g1 hdr
          go_wp2_with (first
            | ((with_reducible refine gate_builtin (b := .append) (xs := #[.tmp 47, .tmp 52]) rfl ?_); at_builtin; refine Kd.R_append k25 (w0 := wA) wA.heap.size rfl (.tmp 47) (.tmp 52) 27 25 (.agg #[(.string ⟨#[]⟩), (.string ⟨#[]⟩)]) 32 rfl Try.underlying27 info25 rfl (by decide) (by omega) (.slice A7 zs.length c7) zs tx [.string tx.f0, .string tx.f1] (fun _ => True) (fun _ => False) rfl (by first | (go_simp; done) | (go_simp; rfl)) (k25_mkM _ _ _ tx) (fun _ hk => hk.elim) (fun _ _ => trivial) ?aO ?aB ?aS ?aL ?_; (case aB => exact belN hB7.out); (case aO => exact rowN hR7); (case aS => exact below_size (belN hB7.out)); (case aL => have := hln.out; omega); intro v9 w9 ho hb hg hat; clear hg hat))
          go_roundg (x + 1).toNat
          case measure => exact hx.2.2
          case rel => exact ⟨x - 1, (by first | rfl | exact congrArg (Value.int .i64) (by have := hyl.out; unfold wrap64; omega)), ⟨by omega, by omega, by omega⟩, ⟨by rw [show (x - 1 + 1).toNat = x.toNat by omega, hdr.out]; exact rowN ho⟩, ⟨belN hb⟩⟩
        · have hd1 : decide (0 ≤ x) = false := decide_eq_false hx0
          have hx1 : x = -1 := by omega
          have hlm : (ys.drop (x + 1).toNat).reverse = ys.reverse := by rw [hx1]; rfl
          rw [hlm] at hR7 ⊢
          have hR5 := Aside0.mk (Kd.R_below hR hB7.out)
          have hBw := Aside0.mk (below_step hB.out hB7.out)
          replace hT1 : Aside0 (name_Tags.f k ys = some (a, er)) := ⟨by rw [htk.out]; exact hT1.out⟩
          replace hT2 : Aside0 (name_Tags.f k ys.reverse = some (b, er)) := ⟨by rw [htk.out]; exact hT2.out⟩
          replace he : Aside0 (er ≠ 0 ∨ a.length = ys.length) := ⟨by rw [htk.out]; exact he.out⟩
          clear hlm hx1 hx0 hx hR hB hB7
          obtain ⟨zs, hzs⟩ : ∃ l, l = ys.reverse := ⟨_, rfl⟩
          rw [← hzs] at hR7 hT2 ⊢
          clear hzs
          have hee : (er == er) = true := by simp
          have hen : (er != er) = false := by simp
          go_wp2_with (first
            | (go_at_call 13; (with_reducible refine (name_Tags.calls k Al cl ys a er _ (Kd.R_reads' hR5.out).2.2 (Kd.R_reads' hR5.out).2.1 hT1.out).mono ?_); rintro e w5 ⟨va, rfl, hRa, hb5⟩; obtain ⟨Aa, ca, rfl⟩ := Kd.R_slice hRa; replace hR7 := Kd.R_below hR7 hb5; replace hBw := Aside0.mk (below_step hBw.out hb5); clear hb5)
            | (go_at_call 13; (with_reducible refine (name_Tags.calls k A7 c7 zs b er _ (Kd.R_reads' hR7).2.2 (Kd.R_reads' hR7).2.1 hT2.out).mono ?_); rintro e w6 ⟨vb, rfl, hRb, hb6⟩; obtain ⟨Ab, cb, rfl⟩ := Kd.R_slice hRb; replace hRa := Kd.R_below hRa hb6; replace hBw := Aside0.mk (below_step hBw.out hb6); clear hb6)
            | (go_at_call 12; (with_reducible refine (name_Same.calls k Aa ca a Ab cb b true _ (Kd.R_reads' hRa).2.2 (Kd.R_reads' hRa).2.1 (Kd.R_reads' hRb).2.2 (Kd.R_reads' hRb).2.1 hSm.out).mono ?_); rintro e w7 ⟨rfl, hdr⟩; have hb7 : Below w6.heap.size w6 w7 := hdr.below; replace hRa := Kd.R_below hRa hb7; replace hBw := Aside0.mk (below_step hBw.out hb7); clear hb7 hdr))
          go_loopg [13] 7 (fun kq v13 w' => ∃ x : Int, v13 = .int .i64 x ∧ Aside0 (1 ≤ x ∧ x ≤ 6 ∧ (6 - x).toNat < kq) ∧ Aside0 (Below w7.heap.size w7 w'))
          case atStart => exact ⟨1, rfl, ⟨by omega, by omega, by omega⟩, ⟨belN (Below.refl _ _)⟩⟩
          case round =>
            obtain ⟨x, rfl, hx, hB8⟩ := hrel
            replace hx := hx.out
            by_cases hxl : x < (a.length : Int)
            · have hd1 : decide (x < (a.length : Int)) = true := decide_eq_true hxl
              have hp1 : (x < (a.length : Int)) = True := eq_true hxl
              have hp0 : (0 ≤ x) = True := eq_true (by omega)
              obtain ⟨jx, hjx⟩ : ∃ j_ : Int, wrap64 (x - 1) = j_ := ⟨_, rfl⟩
              have hjxw : (IntKind.i64.wrap (x - 1)) = jx := (i64_w _).trans hjx
              have hje : Aside0 (jx = x - 1) := ⟨by have := hjx; unfold wrap64 at this; omega⟩
              have hq0 : (0 ≤ jx) = True := eq_true (by have := hje.out; omega)
              have hq1 : (jx < (a.length : Int)) = True := eq_true (by have := hje.out; omega)
              have hRx := Kd.R_below hRa hB8.out
              obtain ⟨ad8, e8, g0, g1⟩ := at_T25 (Kd.R_reads' hRx).2.2 x (by omega) hxl
              cases e8
              obtain ⟨ad9, e9, g2, g3⟩ := at_T25 (Kd.R_reads' hRx).2.2 jx (by have := hje.out; omega) (by have := hje.out; omega)
              cases e9
              have hls : Op.bytesLess (rd_T25 a jx).f0.toList (rd_T25 a x).f0.toList = true := by rw [hje.out]; exact hri.out x hx.1 hxl
              clear hRx
              go_wp2
              repeat (go_quiet (fail); try go_wp2)
              go_roundg (6 - x).toNat
              case measure => exact hx.2.2
              case rel => exact ⟨x + 1, (by first | rfl | exact congrArg (Value.int .i64) (by have := hal.out; unfold wrap64; omega)), ⟨by omega, by have := hal.out; omega, by have := hal.out; omega⟩, ⟨belN hB8.out⟩⟩
            · have hd1 : decide (x < (a.length : Int)) = false := decide_eq_false hxl
              have hBE := Aside0.mk (below_step hBw.out hB8.out)
              clear hBw hB8 hRa hRb hR7 hR5
              rcases he.out with he2 | he2
              · have q1 : (er == 0) = false := by simpa using he2
                have q2 : (er != 0) = true := by simpa using he2
                clear he he2
                go_wp2_with (go_at_call 10; (with_reducible refine (marigraphlaw12_known.calls k true _ hk.out).mono ?_); rintro e w9 ⟨rfl, hb9⟩; have HB9 := below_step (belN hBE.out) hb9; clear hb9)
                go_ret
                exact ⟨rfl, HB9⟩
              · have q3 : ((a.length : Int) == (ys.length : Int)) = true := by rw [he2]; simp
                have q4 : (a.length == ys.length) = true := by rw [he2]; simp
                clear he
                by_cases he0 : er = 0
                · have q1 : (er == 0) = true := by simpa using he0
                  have q2 : (er != 0) = false := by simpa using he0
                  clear he0 he2
                  go_wp2_with (go_at_call 10; (with_reducible refine (marigraphlaw12_known.calls k true _ hk.out).mono ?_); rintro e w9 ⟨rfl, hb9⟩; have HB9 := below_step (belN hBE.out) hb9; clear hb9)
                  go_ret
                  exact ⟨rfl, HB9⟩
                · have q1 : (er == 0) = false := by simpa using he0
                  have q2 : (er != 0) = true := by simpa using he0
                  clear he0 he2
                  go_wp2_with (go_at_call 10; (with_reducible refine (marigraphlaw12_known.calls k true _ hk.out).mono ?_); rintro e w9 ⟨rfl, hb9⟩; have HB9 := below_step (belN hBE.out) hb9; clear hb9)
                  go_ret
                  exact ⟨rfl, HB9⟩
    · have hd1 : decide ((j : Int) < (lM.length : Int)) = true := decide_eq_true (by omega)
      have hd3 : decide (j < lM.length) = true := decide_eq_true hn
      have hd5 : decide ((j : Int) < 3) = true := decide_eq_true (by omega)
      have hd6 : decide (j < 3) = true := decide_eq_true h3
      obtain ⟨adM, eM, h0, h1, h2, h3_, h4, h5, h6, h7⟩ := at_T34 hrM (j : Int) (Int.natCast_nonneg j) (by omega)
      cases eM
      obtain ⟨mx, tsx, tmx, vx, hofx⟩ := hF.out _ (List.getElem_mem hn)
      have hys1 : tags ++ (lM.take (j + 1)).map fT = ys ++ [fT lM[j]] := by rw [List.take_succ_eq_append_getElem hn, List.map_append, ← List.append_assoc, ← hys.out]; rfl
      rw [rdT34_nat hn] at h0 h1 h2 h3_ h4 h5 h6 h7
      rw [Int.toNat_natCast] at h0 h1 h2 h3_ h4 h5 h6 h7
      generalize lM[j] = x at h0 h1 h2 h3_ h4 h5 h6 h7 hofx hys1
      generalize fT x = tx at hofx hys1
      replace hys1 := Aside0.mk hys1
      replace hofx := Aside0.mk hofx
      have hp0 : (0 ≤ (j : Int)) = True := eq_true (Int.natCast_nonneg j)
      have hnx : Aside0 (wrap64 ((j : Int) + 1) = ((j + 1 : Nat) : Int)) := ⟨by unfold wrap64; omega⟩
      have h33 : Aside0 ((((j : Int) + 1) : Int) = ((j + 1 : Nat) : Int)) := ⟨by omega⟩
      go_wp2
      refine start_ (n := 14) (S := fun w' => Below w.heap.size w w') (ds := []) (bA 14 0) (by kernel_rfl) rfl rfl (below_drew1 hB.out) (fun hS => ?_)
      replace hR := Kd.R_drew hR
      clear hB
      generalize wr.drew = wd at hR hS ⊢
      refine norm_ (by rfl) ?_
      refine pK 1 (some 28) (bA 14 2) ?_
      refine pK 3 (some 30) (bA 14 10) ?_
      refine pK 4 (some 31) (bA 14 26) ?_
      refine pK 5 (some 32) (bA 14 58) ?_
      refine tK 6 (some 33) (bA 14 122) rfl rfl hS (by rintro w' hS'; have hS' : Below w.heap.size w w' := hS'; have q0 := cellB hS' h0; have q1 := cellB hS' h1; have q2 := cellB hS' h2; have q3 := cellB hS' h3_; have q4 := cellB hS' h4; have q5 := cellB hS' h5; have q6 := cellB hS' h6; have q7 := cellB hS' h7; go_simp; with_reducible rfl) ?_
      clear h0 h1 h2 h3_ h4 h5 h6 h7
      refine one_ (i := 0) (N := some 27) (bA 14 123) rfl rfl (by kernel_rfl) (by decide) (fun K hK => ?_)
      refine Kd.R_lit_step k25 (w0 := wd) wd.heap.size 25 (by rfl) (N := 27) rfl (xs := ([] : List S25)) (inner := []) (ok := fun _ => True) (okp := fun _ => True) ?hrL ?hpL (fun _ hk => hk) trivial (Below.refl _ _) (Nat.le_refl _) (by simp) ?_
      case hrL => first | (go_simp; done) | (go_simp; rfl)
      case hpL => exact Reps.none _ _
      intro vl wl hl hbl hq1_ hq2_
      clear hq1_ hq2_
      replace hl := Kd.R_lower hl (below_size hS)
      replace hR := Kd.R_below hR hbl
      refine hK.out _ _ (below_step hS hbl) (fun hS => ?_)
      clear hK K hbl
      refine nK (some 27) ?_
      refine one_ (i := 2) (N := some 29) (bA 14 127) rfl rfl (by kernel_rfl) (by decide) (fun K hK => ?_)
      refine Kd.R_append_rows_step k25 (w0 := w) w.heap.size (by rfl) (.tmp 27) (.tmp 28) 27 25 (.agg #[(.string ⟨#[]⟩), (.string ⟨#[]⟩)]) 32 rfl Try.underlying27 info25 rfl (by decide) (by omega) vl ([] : List S25) ys Al ys.length cl (fun _ => True) (fun _ => False) (by rfl) (by rfl) hl (Kd.R_reads' hR).2.2 (fun _ _ h => h) (fun _ h => h.elim) (fun _ _ => trivial) hS (below_size hS) (by have := hyl.out; simp only [List.length_nil]; omega) ?_
      intro v2 w2_ h2r hb2 hq1_ hq2_
      clear hq1_ hq2_ hl hR
      rw [List.nil_append] at h2r
      refine hK.out _ _ hb2 (fun hS => ?_)
      clear hK K hb2
      refine nK (some 29) ?_
      refine one_ (i := 7) (N := some 34) (bA 14 255) rfl rfl (by kernel_rfl) (by decide) (fun K hK => ?_)
      refine goes_ Try.func11 (by kernel_rfl) rfl #[.agg #[.int .i64 x.f0, .int .i64 x.f1, .int .i64 x.f2, .int .i64 x.f3, .int .i64 x.f4, .bool x.f5, .int .i64 x.f6, .int .i64 x.f7]] (by rfl) rfl rfl (by simp only [List.map_toArray, List.map_cons, List.map_nil]; rfl) ?_
      refine (marigraphkeep_Of.calls k x.f0 x.f1 x.f2 x.f3 x.f4 x.f5 x.f6 x.f7 mx (tx :: tsx) tmx vx _ hofx.out).mono ?_
      rintro e7 w7 ⟨vt, rfl, hT7, hb7⟩
      refine ⟨_, rfl, ?_⟩
      obtain ⟨A7, c7, rfl⟩ := Kd.R_slice hT7
      replace h2r := Kd.R_below h2r hb7
      obtain ⟨ad7, e7, g0, g1⟩ := at_T25 (Kd.R_reads' hT7).2.2 0 (by omega) (by simp)
      cases e7
      have hrd : rd_T25 (tx :: tsx) 0 = tx := rfl
      rw [hrd] at g0 g1
      have had : ad7.add ((0 : Int).toNat * 2) = ad7 := by simp [Addr.add]
      rw [had] at g0 g1
      clear hrd hT7 had
      refine hK.out _ _ (below_step hS hb7) (fun hS => ?_)
      clear hK K hb7
      refine nK (some 34) ?_
      refine pK 8 (some 35) (bA 14 511) ?_
      refine pK 9 (some 36) (bA 14 1023) ?_
      refine one_ (i := 10) (N := some 37) (bA 14 2047) rfl rfl (by kernel_rfl) (by decide) (fun K hK => ?_)
      refine value_ (v := .agg #[.string tx.f0, .string tx.f1]) (w1 := w7) (by rfl) rfl ?hr10 ?_
      case hr10 => first | (go_simp; done) | (go_simp; rfl)
      refine hK.out _ _ hS (fun hS => ?_)
      clear hK K
      refine nK (some 37) ?_
      refine one_ (i := 11) (N := some 38) (bA 14 4095) rfl rfl (by kernel_rfl) (by decide) (fun K hK => ?_)
      refine value_ (v := .slice (some ⟨w7.heap.size, 0, none⟩) 1 1) (w1 := w7.alloc (.cells [.string tx.f0, .string tx.f1].toArray 25)) (by rfl) rfl ?hr11 ?_
      case hr11 => first | (go_simp; done) | (go_simp; rfl)
      have hS7 := hS
      refine hK.out _ _ (below_alloc hS _) (fun hS => ?_)
      clear hK K
      refine nK (some 38) ?_
      refine one_ (i := 12) (N := some 39) (bA 14 8191) rfl rfl (by kernel_rfl) (by decide) (fun K hK => ?_)
      refine Kd.R_append_step k25 (W := w7) (w0 := w) w.heap.size (by rfl) (.tmp 29) (.tmp 38) 27 25 (.agg #[(.string ⟨#[]⟩), (.string ⟨#[]⟩)]) 32 rfl Try.underlying27 info25 rfl (by decide) (by omega) v2 ys tx [.string tx.f0, .string tx.f1] (fun _ => True) (fun _ => False) (by rfl) (by rfl) (k25_mkM _ _ _ tx) (fun _ h => h.elim) (fun _ _ => trivial) h2r hS7 (below_size hS7) (by have := hyl.out; omega) ?_
      intro v3 w12 h3r hb3 hq1_ hq2_
      clear hq1_ hq2_ h2r hS7
      refine hK.out _ _ hb3 (fun hS => ?_)
      clear hK K hb3
      refine nK (some 39) ?_
      refine pK 13 (some 5) (bA 14 16383) ?_
      refine done_ (by kernel_rfl) ?_
      go_wp2
      go_roundg (3 - j)
      case measure => exact hj.1
      case rel => exact ⟨j + 1, (by first | rfl | exact congrArg (Value.int .i64) hnx.out | exact congrArg (Value.int .i64) h33.out), ⟨by omega, by omega, by omega⟩, ⟨by rw [hys1.out]; exact h3r⟩, ⟨hS⟩⟩
end Go.Proofs.Ytfijbkabjmgomaa.PNameOrders

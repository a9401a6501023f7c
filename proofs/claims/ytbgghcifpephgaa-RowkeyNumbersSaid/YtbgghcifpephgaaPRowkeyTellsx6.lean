/- The walk of the Go functions that a law reaches, told as plain functions; a program of this session has written it. No condition beyond the statement's own. -/
import Derived.Test.YtbgghcifpephgaaPRowkeyTellsx0
import Derived.Test.YtbgghcifpephgaaPRowkeyTellsx1
import Derived.Test.YtbgghcifpephgaaPRowkeyTellsx2
import Derived.Test.YtbgghcifpephgaaPRowkeyTellsx3
import Derived.Test.YtbgghcifpephgaaPRowkeyTellsx4
import Derived.Test.YtbgghcifpephgaaPRowkeyTellsx5
namespace Go.Proofs.Ytbgghcifpephgaa.PRowkeyTells
open Go.RowKit Go.Proofs.YtbgghcifpephgaaW.PrintWords Go.Proofs.YtbgghcifpephgaaW.PrintLast Go.Proofs.YtbgghcifpephgaaW.PrintMore
attribute [local go_sem] max2_int min2_int max_two min_two max_three min_three max_four min_four   -- for this text's walks alone
set_option linter.unusedVariables false
set_option linter.unusedSimpArgs false

attribute [local go_sem high] eqA23
/-- A step of a region that yields in every world; one whose guard is off; one that reads what is held. -/
theorem pK {P : Program} {ops : Array Oper} {Q : Exit → Act → World → Prop} {md : Region.Mode} {S : World → Prop} {ds : List Nat} {oi : Oper} {v : Value} {fuel : Nat} {l : Array Bool} {a a' : Act} {w : World} (i : Nat) (N : Option Tmp) (l' : Array Bool) (h : wpAnyLast P md ops Q S ds fuel l' a' w)
    (hi : ops[i]? = some oi := by rfl) (hN : oi.dst = N := by rfl) (hc : anyB md ops l l' i = true := by kernel_rfl) (hQ : ∀ c a w, Q (.panic c) (a.put oi.dst v) w → Q (.panic c) a w := by exact fun _ _ _ h => h)
    (hy : Region.wanted oi (yielded ops a.tmps) = true := by rfl) (hy' : ∀ w, (execOp a.eval oi).run P w = .ok (.value v) w := by intro w'; go_simp; with_reducible rfl)
    (ha : a.put N v = a' := by simp only [Act.put, List.setIfInBounds_toArray, List.set_cons_zero, List.set_cons_succ, i64_w, i32_w]; rfl) : wpAnyLast P md ops Q S ds (fuel + 1) l a w :=
  pure_ l' hi hN hc hQ (Or.inl ⟨hy, hy'⟩) ha h
theorem uK {P : Program} {ops : Array Oper} {Q : Exit → Act → World → Prop} {md : Region.Mode} {S : World → Prop} {ds : List Nat} {oi : Oper} {fuel : Nat} {l : Array Bool} {a a' : Act} {w : World} (i : Nat) (N : Option Tmp) (l' : Array Bool) (h : wpAnyLast P md ops Q S ds fuel l' a' w)
    (hi : ops[i]? = some oi := by rfl) (hN : oi.dst = N := by rfl) (hc : anyB md ops l l' i = true := by kernel_rfl) (hQ : ∀ c a w, Q (.panic c) (a.put oi.dst undef) w → Q (.panic c) a w := by exact fun _ _ _ h => h)
    (hy : Region.wanted oi (yielded ops a.tmps) = false := by rfl)
    (ha : a.put N undef = a' := by simp only [Act.put, List.setIfInBounds_toArray, List.set_cons_zero, List.set_cons_succ, i64_w, i32_w]; rfl) : wpAnyLast P md ops Q S ds (fuel + 1) l a w :=
  pure_ l' hi hN hc hQ (Or.inr ⟨hy, rfl⟩) ha h
theorem tK {P : Program} {ops : Array Oper} {Q : Exit → Act → World → Prop} {md : Region.Mode} {S : World → Prop} {ds : List Nat} {oi : Oper} {v : Value} {fuel : Nat} {l : Array Bool} {a a' : Act} {w : World} (i : Nat) (N : Option Tmp) (l' : Array Bool) (hi : ops[i]? = some oi) (hN : oi.dst = N) (hS : S w) (hy' : ∀ w, S w → (execOp a.eval oi).run P w = .ok (.value v) w) (h : wpAnyLast P md ops Q S ds fuel l' a' w)
    (hc : takeB md ops ds l l' i = true := by kernel_rfl) (hQ : ∀ c a w, Q (.panic c) (a.put oi.dst v) w → Q (.panic c) a w := by exact fun _ _ _ h => h)
    (hy : Region.wanted oi (yielded ops a.tmps) = true := by rfl)
    (ha : a.put N v = a' := by simp only [Act.put, List.setIfInBounds_toArray, List.set_cons_zero, List.set_cons_succ, i64_w, i32_w]; rfl) : wpAnyLast P md ops Q S ds (fuel + 1) l a w :=
  take_ l' hi hN hc hQ (Or.inl ⟨hy, hy'⟩) hS ha h
theorem nK {P : Program} {ops : Array Oper} {Q : Exit → Act → World → Prop} {md : Region.Mode} {S : World → Prop} {ds : List Nat} {fuel : Nat} {l : Array Bool} {a a' : Act} {v : Value} {w : World} (N : Option Tmp) (h : wpAnyLast P md ops Q S ds fuel l a' w)
    (ha : a.put N v = a' := by simp only [Act.put, List.setIfInBounds_toArray, List.set_cons_zero, List.set_cons_succ, i64_w, i32_w]; rfl) : wpAnyLast P md ops Q S ds fuel l (a.put N v) w := norm_ ha h
theorem blk3 {w : World} {g : Nat} {t : TypeId} {x y z : Value} (h : w.heap[g]? = some (.cells #[x, y, z] t (0, 0))) : w.cell? ⟨g, 0, none⟩ = some x ∧ w.cell? ⟨g, 1, none⟩ = some y ∧ w.cell? ⟨g, 2, none⟩ = some z ∧ w.frozen? ⟨g, 0, none⟩ = false ∧ w.frozen? ⟨g, 1, none⟩ = false ∧ w.frozen? ⟨g, 2, none⟩ = false :=
  ⟨(blk_cell h 0).trans rfl, (blk_cell h 1).trans rfl, (blk_cell h 2).trans rfl, blk_frozen h 0, blk_frozen h 1, blk_frozen h 2⟩

/-! ### marigraphlaw14_encodes: function 5, by hand (in the case that all is true) -/
/-- What a row that may be is encoded as, held against the document's: all true, or not told. -/
def encRight (k : Nat) (m b : Int) (t : List S23) (eb : List Int × Int) (s : Int) : Option Bool :=
  (marigraphref14_Encode.f k m b t).bind fun w => (rowkey_Prefix.f k (wrap64 (rd w 0)) m b).bind fun p => (rowkey_Same.f k m b t m b t).bind fun z =>
    if eb.2 = 0 ∧ (strOfNums eb.1).toList = (strOfNums w).toList ∧ s = wrap64 (rd w 0) ∧ 8 ≤ w.length ∧ (strOfNums p).toList = (strOfNums (w.take 8)).toList ∧ z = true then some true else none
def marigraphlaw14_encodes.f (k : Nat) (m b : Int) (t : List S23) : Option Bool :=
  (rowkey_Encode.f k m b t).bind fun eb => (rowkey_Right.f k m b t).bind fun r1 => (marigraphref14_Right.f k m b t).bind fun r2 => (rowkey_Salt.f k m b t).bind fun s =>
    if r1 = true ∧ r2 = true then encRight k m b t eb s else if r1 = false ∧ r2 = false ∧ eb.2 = 1 ∧ eb.1.length = 0 ∧ s = 0 then some true else none
theorem encRight.mono (k : Nat) (m b : Int) (t : List S23) (eb : List Int × Int) (s : Int) : LeO (encRight k m b t eb s) (encRight (k + 1) m b t eb s) := by
  unfold encRight
  repeat' first
    | (with_reducible exact LeO.refl _)
    | (with_reducible exact marigraphref14_Encode.mono _ _ _ _)
    | (with_reducible exact rowkey_Prefix.mono _ _ _ _)
    | (with_reducible exact rowkey_Same.mono _ _ _ _ _ _ _)
    | (with_reducible refine LeO.bind ?_ (fun _ => ?_))
theorem marigraphlaw14_encodes.mono : ∀ m b t k, LeO (marigraphlaw14_encodes.f k m b t) (marigraphlaw14_encodes.f (k + 1) m b t) := by
  intro m b t k
  unfold marigraphlaw14_encodes.f
  repeat' first
    | (with_reducible exact LeO.refl _)
    | (with_reducible exact encRight.mono _ _ _ _ _ _)
    | (with_reducible exact rowkey_Encode.mono _ _ _ _)
    | (with_reducible exact rowkey_Right.mono _ _ _ _)
    | (with_reducible exact marigraphref14_Right.mono _ _ _ _)
    | (with_reducible exact rowkey_Salt.mono _ _ _ _)
    | (with_reducible refine LeO.ite ?_ ?_)
    | (with_reducible refine LeO.bind ?_ (fun _ => ?_))
set_option maxHeartbeats 8000000 in
set_option maxRecDepth 100000 in
theorem marigraphlaw14_encodes.calls (k : Nat) (a0_0 : Int) (a0_1 : Int) (A0_2 : Option Addr) (c0_2 : Nat) (l0_2 : List (S23)) (r : Bool) (w : World) (hr0_2 : Kd.C k23 w A0_2 l0_2.length l0_2) (hc0_2 : l0_2.length ≤ c0_2) (h : marigraphlaw14_encodes.f k a0_0 a0_1 l0_2 = some r) :
    Calls Try.prog 5 #[.agg #[.int .i64 a0_0, .int .i64 a0_1, .slice A0_2 l0_2.length c0_2]] w fun e w' => e = .returned (.bool r) ∧ Below w.heap.size w w' := by
  have hu26 := Try.underlying26
  unfold marigraphlaw14_encodes.f at h
  obtain ⟨eb, h1, h⟩ := Option.bind_eq_some_iff.1 h
  obtain ⟨q1, h2, h⟩ := Option.bind_eq_some_iff.1 h
  obtain ⟨q2, h3, h⟩ := Option.bind_eq_some_iff.1 h
  obtain ⟨s, h4, h⟩ := Option.bind_eq_some_iff.1 h
  obtain ⟨eb, er⟩ := eb
  have hb0 := blk_new w (Obj.cells #[Value.int .i64 a0_0, Value.int .i64 a0_1, Value.slice A0_2 l0_2.length c0_2] 26)
  have hB0 : Below w.heap.size w (w.alloc (Obj.cells #[Value.int .i64 a0_0, Value.int .i64 a0_1, Value.slice A0_2 l0_2.length c0_2] 26)) := below_alloc (Below.refl _ _) _
  have hC0 := Kd.C_below hr0_2 hB0
  -- every call is of the row as it is boxed, at a world that keeps it
  have row : ∀ w', Below (w.alloc (Obj.cells #[Value.int .i64 a0_0, Value.int .i64 a0_1, Value.slice A0_2 l0_2.length c0_2] 26)).heap.size (w.alloc (Obj.cells #[Value.int .i64 a0_0, Value.int .i64 a0_1, Value.slice A0_2 l0_2.length c0_2] 26)) w' → w'.cell? ⟨w.heap.size, 0, none⟩ = some (.int .i64 a0_0) ∧ w'.cell? ⟨w.heap.size, 1, none⟩ = some (.int .i64 a0_1) ∧ w'.cell? ⟨w.heap.size, 2, none⟩ = some (.slice A0_2 l0_2.length c0_2) ∧ Kd.C k23 w' A0_2 l0_2.length l0_2 ∧ Below w.heap.size w w' := fun w' hb =>
    ⟨(blk_cell (blk_below hb0 hb) 0).trans rfl, (blk_cell (blk_below hb0 hb) 1).trans rfl, (blk_cell (blk_below hb0 hb) 2).trans rfl, Kd.C_below hC0 hb, below_step hB0 hb⟩
  go_enter Try.func5, Try.ntmps5
  go_upto_region 1 with (fail)
  generalize (w.alloc (Obj.cells #[Value.int .i64 a0_0, Value.int .i64 a0_1, Value.slice A0_2 l0_2.length c0_2] 26)) = w1 at row hb0 hB0 hC0 ⊢
  obtain ⟨x0, x1, x2, hC, hB⟩ := row w1 (Below.refl _ _)
  go_upto_region 2 with (go_at_call 15; refine (rowkey_Encode.calls k a0_0 a0_1 A0_2 c0_2 l0_2 eb er w1 hC hc0_2 h1).mono ?_; rintro e w2 ⟨v3, rfl, hv3, hb2⟩)
  clear x0 x1 x2 hC hB
  refine start_ (n := 5) (S := fun w' => Below w1.heap.size w1 w') (ds := []) (bA 5 0) (by kernel_rfl) rfl rfl (below_drew1 hb2) (fun hHeld => ?_)
  have hv3d := Kd.R_drew hv3
  generalize w2.drew = W2 at hHeld hv3d ⊢
  refine norm_ (by rfl) ?_
  refine tK 0 (some 11) (bA 5 1) rfl rfl hHeld (by intro w' hb; obtain ⟨s0, s1, s2, -, -⟩ := row w' hb; go_simp; with_reducible rfl) ?_
  refine tK 2 (some 13) (bA 5 5) rfl rfl hHeld (by intro w' hb; obtain ⟨s0, s1, s2, -, -⟩ := row w' hb; go_simp; with_reducible rfl) ?_
  refine one_ (i := 1) (N := some 12) (bA 5 7) rfl rfl (by kernel_rfl) (by decide) (fun K hK => ?_)
  refine goes_ Try.func16 (by kernel_rfl) rfl #[.agg #[.int .i64 a0_0, .int .i64 a0_1, .slice A0_2 l0_2.length c0_2]] (by rfl) rfl rfl (by simp only [List.map_toArray, List.map_cons, List.map_nil]; rfl) ?_
  refine (rowkey_Right.calls k a0_0 a0_1 A0_2 c0_2 l0_2 q1 _ (row _ hHeld).2.2.2.1 hc0_2 h2).mono ?_
  rintro e w3 ⟨rfl, hb3⟩
  refine ⟨_, rfl, ?_⟩
  have hH3 := below_step hHeld hb3
  have hv3e := Kd.R_below hv3d hb3
  refine hK.out _ _ hH3 (fun _ => ?_)
  clear hK K
  refine nK (some 12) ?_
  refine one_ (i := 3) (N := some 14) (bA 5 15) rfl rfl (by kernel_rfl) (by decide) (fun K hK => ?_)
  refine goes_ Try.func17 (by kernel_rfl) rfl #[.agg #[.int .i64 a0_0, .int .i64 a0_1, .slice A0_2 l0_2.length c0_2]] (by rfl) rfl rfl (by simp only [List.map_toArray, List.map_cons, List.map_nil]; rfl) ?_
  refine (marigraphref14_Right.calls k a0_0 a0_1 A0_2 c0_2 l0_2 q2 _ (row _ hH3).2.2.2.1 hc0_2 h3).mono ?_
  rintro e w4 ⟨rfl, hb4⟩
  refine ⟨_, rfl, ?_⟩
  have hH4 := below_step hH3 hb4
  have hv4 := Kd.R_below hv3e hb4
  refine hK.out _ _ hH4 (fun _ => ?_)
  clear hK K
  refine nK (some 14) ?_
  refine pK 4 (some 15) (bA 5 31) ?_
  refine done_ (by kernel_rfl) ?_
  clear hv3 hv3d hv3e hHeld hH3 hb2 hb3 hb4
  obtain ⟨A3, c3, rfl⟩ := Kd.R_slice hv4
  have hq : q1 = q2 := by
    cases q1 <;> cases q2 <;> first | rfl | (simp at h)
  subst hq
  have hne : (!(q1 == q1)) = false := by simp
  have hRight := fun (w' : World) (hb : Below w1.heap.size w1 w') => marigraphref14_Right.calls k a0_0 a0_1 A0_2 c0_2 l0_2 q1 w' (row w' hb).2.2.2.1 hc0_2 h3
  have hSalt := fun (w' : World) (hb : Below w1.heap.size w1 w') => rowkey_Salt.calls k a0_0 a0_1 A0_2 c0_2 l0_2 s w' (row w' hb).2.2.2.1 hc0_2 h4
  clear hne
  cases q1 with
  | false =>
    rw [if_neg (fun hh => Bool.noConfusion hh.1)] at h
    by_cases hc : (false = false ∧ false = false ∧ er = 1 ∧ eb.length = 0 ∧ s = 0)
    rotate_left
    · try dsimp only at h
      rw [if_neg hc] at h; cases h
    try dsimp only at h
    rw [if_pos hc] at h
    obtain rfl := Option.some.inj h
    obtain ⟨-, -, rfl, hel, rfl⟩ := hc
    have hz : (((eb.length : Nat) : Int) == 0) = true := by rw [hel]; rfl
    obtain ⟨x0, x1, x2, -, -⟩ := row w4 hH4
    go_wp2_with (first | (go_at_call 17; refine (hRight _ hH4).mono ?_; rintro e w5 ⟨rfl, hb5⟩; have hH5 := below_step hH4 hb5; obtain ⟨y0, y1, y2, -, -⟩ := row w5 hH5) | (go_at_call 18; refine (hSalt _ hH5).mono ?_; rintro e w6 ⟨rfl, hb6⟩; have hH6 := below_step hH5 hb6))
    go_ret
    exact ⟨rfl, (row _ hH6).2.2.2.2⟩
  | true =>
    rw [if_pos ⟨rfl, rfl⟩] at h
    unfold encRight at h
    obtain ⟨wb, h5, h⟩ := Option.bind_eq_some_iff.1 h
    obtain ⟨pp, h6, h⟩ := Option.bind_eq_some_iff.1 h
    obtain ⟨z, h7, h⟩ := Option.bind_eq_some_iff.1 h
    by_cases hc : er = 0 ∧ (strOfNums eb).toList = (strOfNums wb).toList ∧ s = wrap64 (rd wb 0) ∧ 8 ≤ wb.length ∧ (strOfNums pp).toList = (strOfNums (wb.take 8)).toList ∧ z = true
    rotate_left
    · try dsimp only at h
      rw [if_neg hc] at h; cases h
    try dsimp only at h
    rw [if_pos hc] at h
    obtain rfl := Option.some.inj h
    obtain ⟨rfl, he1, he2, he3, he4, rfl⟩ := hc
    obtain ⟨x0, x1, x2, -, -⟩ := row w4 hH4
    go_upto_region 7 with (first | (go_at_call 17; refine (hRight _ hH4).mono ?_; rintro e w5 ⟨rfl, hb5⟩; have hH5 := below_step hH4 hb5; have hv5 := Kd.R_below hv4 hb5; obtain ⟨y0, y1, y2, hCy, -⟩ := row w5 hH5) | (go_at_call 8; refine (marigraphref14_Encode.calls k a0_0 a0_1 A0_2 c0_2 l0_2 wb w5 hCy hc0_2 h5).mono ?_; rintro e w6 ⟨v6, rfl, hv6, hb6⟩; have hH6 := below_step hH5 hb6; have hv7 := Kd.R_below hv5 hb6; obtain ⟨A6, c6, rfl⟩ := Kd.R_slice hv6))
    have CE0 := (Kd.R_reads' hv7).2.2
    have CW0 := (Kd.R_reads' hv6).2.2
    have CE : ∀ w', Below w6.heap.size w6 w' → Kd.C (Kd.int .u8) w' A3 eb.length eb := fun w' hb => Kd.C_below CE0 hb
    have CW : ∀ w', Below w6.heap.size w6 w' → Kd.C (Kd.int .u8) w' A6 wb.length wb := fun w' hb => Kd.C_below CW0 hb
    have hl8 : (wb.take 8).length = 8 := List.length_take_of_le he3
    have CT : ∀ w', Below w6.heap.size w6 w' → Kd.C (Kd.int .u8) w' A6 8 (wb.take 8) := fun w' hb => by have h := Kd.C_take (CW w' hb) he3; rwa [hl8] at h
    obtain ⟨ad6, hA6, -⟩ := Kd.at_int CW0 0 (Int.le_refl 0) (by omega)
    cases hA6
    have cb0 : ∀ w', Below w6.heap.size w6 w' → w'.cell? ad6 = some (.int .u8 (rd wb 0)) := fun w' hb => by
      obtain ⟨ad', he', hx'⟩ := Kd.at_int (CW w' hb) 0 (Int.le_refl 0) (by omega)
      cases he'
      exact hx'
    obtain ⟨hcut, -, -⟩ := print_take_of (P := Try.prog) (Value.int .u8) 0 29 5 .i64 Try.underlying29 (by rfl) (by rfl) (some ad6) c6 wb 8 (by omega) (by omega) (Kd.R_reads' hv6).2.1
    have hcut8 : ∀ W : World, (Instr.slice 29 (.slice (some ad6) wb.length c6) none (some (.int .i64 8)) none).run Try.prog W = .ok (.slice (some ad6) 8 c6) W := fun W => by have h := hcut W; rw [show ((8 : Int).toNat) = 8 from rfl, hl8] at h; exact h
    clear hcut
    have p0 : ((0 : Int) < (wb.length : Int)) = True := eq_true (by omega)
    have p1 : (0 < wb.length) = True := eq_true (by omega)
    have hSame := fun (w' : World) (hb : Below w1.heap.size w1 w') => rowkey_Same.calls k a0_0 a0_1 A0_2 c0_2 l0_2 a0_0 a0_1 A0_2 c0_2 l0_2 true w' (row w' hb).2.2.2.1 hc0_2 (row w' hb).2.2.2.1 hc0_2 h7
    have hee : ((strOfNums eb).toList == (strOfNums wb).toList) = true := by simpa using he1
    have hep : ((strOfNums pp).toList == (strOfNums (wb.take 8)).toList) = true := by simpa using he4
    clear x0 x1 x2 y0 y1 y2
    obtain ⟨z0, z1, z2, hCz, -⟩ := row w6 hH6
    refine start_ (n := 40) (S := fun w' => Below w6.heap.size w6 w') (ds := []) (bA 40 0) (by kernel_rfl) rfl rfl (below_drew1 (Below.refl _ _)) (fun hHeld => ?_)
    refine norm_ (by rfl) ?_
    refine pK 0 (some 33) (bA 40 1) ?_
    refine pK 1 (some 34) (bA 40 3) ?_
    refine pK 2 (some 35) (bA 40 7) ?_
    refine pK 3 (some 36) (bA 40 15) ?_
    refine tK 4 (some 37) (bA 40 31) rfl rfl hHeld (by intro w' hb; have e_ := Kd.C_string (P := Try.prog) (c := c3) Try.underlying29 Try.underlying5 Try.underlying9 (CE w' hb); go_simp; with_reducible rfl) ?_
    refine pK 5 (some 38) (bA 40 63) ?_
    refine tK 6 (some 39) (bA 40 127) rfl rfl hHeld (by intro w' hb; have e_ := Kd.C_string (P := Try.prog) (c := c6) Try.underlying29 Try.underlying5 Try.underlying9 (CW w' hb); go_simp; with_reducible rfl) ?_
    refine pK 7 (some 40) (bA 40 255) ?_
    refine pK 8 (some 41) (bA 40 511) ?_
    refine pK 9 (some 42) (bA 40 1023) ?_
    refine tK 10 (some 43) (bA 40 2047) rfl rfl hHeld (by intro w' hb; obtain ⟨s0, s1, s2, -, -⟩ := row w' (below_step hH6 hb); go_simp; with_reducible rfl) ?_
    refine pK 12 (some 45) (bA 40 6143) ?_
    refine pK 13 (some 46) (bA 40 14335) ?_
    refine tK 14 (some 47) (bA 40 30719) rfl rfl hHeld (by intro w' hb; have e_ := cb0 w' hb; go_simp; with_reducible rfl) ?_
    refine pK 15 (some 48) (bA 40 63487) ?_
    refine one_ (i := 11) (N := (some 44)) (bA 40 65535) rfl rfl (by kernel_rfl) (by decide) (fun K hK => ?_)
    refine goes_ Try.func18 (by kernel_rfl) rfl #[.agg #[.int .i64 a0_0, .int .i64 a0_1, .slice A0_2 l0_2.length c0_2]] (by rfl) rfl rfl (by simp only [List.map_toArray, List.map_cons, List.map_nil]; rfl) ?_
    refine (hSalt _ (below_step hH6 hHeld)).mono ?_
    rintro e w7 ⟨rfl, hb7⟩
    refine ⟨_, rfl, ?_⟩
    have hH7 := below_step hHeld hb7
    refine hK.out _ _ hH7 (fun hHeld => ?_)
    clear hK K
    refine nK (some 44) ?_
    refine pK 16 (some 49) (bA 40 131071) ?_
    refine pK 17 (some 50) (bA 40 262143) ?_
    refine pK 18 (some 51) (bA 40 524287) ?_
    refine pK 19 (some 52) (bA 40 1048575) ?_
    refine pK 20 (some 53) (bA 40 2097151) ?_
    refine tK 21 (some 54) (bA 40 4194303) rfl rfl hHeld (by intro w' hb; have e_ := cb0 w' hb; go_simp; with_reducible rfl) ?_
    refine pK 22 (some 55) (bA 40 8388607) ?_
    refine pK 23 (some 56) (bA 40 16777215) ?_
    refine tK 24 (some 57) (bA 40 33554431) rfl rfl hHeld (by intro w' hb; obtain ⟨s0, s1, s2, -, -⟩ := row w' (below_step hH6 hb); go_simp; with_reducible rfl) ?_
    refine pK 25 (some 58) (bA 40 67108863) ?_
    refine tK 26 (some 59) (bA 40 134217727) rfl rfl hHeld (by intro w' hb; obtain ⟨s0, s1, s2, -, -⟩ := row w' (below_step hH6 hb); go_simp; with_reducible rfl) ?_
    refine pK 29 (some 62) (bA 40 671088639) ?_
    refine pK 30 (some 63) (bA 40 1744830463) ?_
    refine tK 31 (some 64) (bA 40 3892314111) rfl rfl hHeld (by intro w' hb; have e_ := Kd.C_string (P := Try.prog) (c := c6) Try.underlying29 Try.underlying5 Try.underlying9 (CT w' hb); go_simp; with_reducible rfl) ?_
    refine one_ (i := 27) (N := (some 60)) (bA 40 4026531839) rfl rfl (by kernel_rfl) (by decide) (fun K hK => ?_)
    refine goes_ Try.func10 (by kernel_rfl) rfl #[.int .i64 (wrap64 (rd wb 0)), .int .i64 a0_0, .int .i64 a0_1] (by rfl) rfl rfl (by simp only [List.map_toArray, List.map_cons, List.map_nil]; rfl) ?_
    refine (rowkey_Prefix.calls k (wrap64 (rd wb 0)) a0_0 a0_1 pp _ h6).mono ?_
    rintro e w8 ⟨v8, rfl, hv8, hb8⟩
    refine ⟨_, rfl, ?_⟩
    obtain ⟨A8, c8, rfl⟩ := Kd.R_slice hv8
    have hH8 := below_step hHeld hb8
    have CP := (Kd.R_reads' hv8).2.2
    refine hK.out _ _ hH8 (fun hHeld => ?_)
    clear hK K
    refine nK (some 60) ?_
    refine one_ (i := 28) (N := (some 61)) (bA 40 4294967295) rfl rfl (by kernel_rfl) (by decide) (fun K hK => ?_)
    refine value_ (w1 := w8) (v := .string (strOfNums pp)) rfl rfl (by have e_ := Kd.C_string (P := Try.prog) (c := c8) Try.underlying29 Try.underlying5 Try.underlying9 CP; go_simp) ?_
    refine hK.out _ _ hHeld (fun hHeld => ?_)
    clear hK K
    refine nK (some 61) ?_
    refine pK 32 (some 65) (bA 40 8589934591) ?_
    refine pK 33 (some 66) (bA 40 17179869183) ?_
    refine pK 34 (some 67) (bA 40 34359738367) ?_
    refine tK 35 (some 68) (bA 40 68719476735) rfl rfl hHeld (by intro w' hb; obtain ⟨s0, s1, s2, -, -⟩ := row w' (below_step hH6 hb); go_simp; with_reducible rfl) ?_
    refine tK 36 (some 69) (bA 40 137438953471) rfl rfl hHeld (by intro w' hb; obtain ⟨s0, s1, s2, -, -⟩ := row w' (below_step hH6 hb); go_simp; with_reducible rfl) ?_
    refine one_ (i := 37) (N := (some 70)) (bA 40 274877906943) rfl rfl (by kernel_rfl) (by decide) (fun K hK => ?_)
    refine goes_ Try.func6 (by kernel_rfl) rfl #[.agg #[.int .i64 a0_0, .int .i64 a0_1, .slice A0_2 l0_2.length c0_2], .agg #[.int .i64 a0_0, .int .i64 a0_1, .slice A0_2 l0_2.length c0_2]] (by rfl) rfl rfl (by simp only [List.map_toArray, List.map_cons, List.map_nil]; rfl) ?_
    refine (hSame _ (below_step hH6 hHeld)).mono ?_
    rintro e w9 ⟨rfl, hd9⟩
    refine ⟨_, rfl, ?_⟩
    have hH9 := below_step hHeld hd9
    refine hK.out _ _ hH9 (fun hHeld => ?_)
    clear hK K
    refine nK (some 70) ?_
    refine pK 38 (some 71) (bA 40 549755813887) ?_
    refine pK 39 (some 2) (bA 40 1099511627775) ?_
    refine done_ (by kernel_rfl) ?_
    go_wp2
    go_ret
    exact ⟨rfl, (row _ (below_step hH6 hHeld)).2.2.2.2⟩

/-! ### marigraphref14_Same: function 7 -/
mutual
def marigraphref14_Same.j0 : Nat → Bool → Int → Int → List (S23) → Int → Int → List (S23) → Option (Bool)
 | 0, _, _, _, _, _, _, _ => none
 | k + 1, x26, x205000, x205001, x205002, x206000, x206001, x206002 => if x26 = true then (some false) else (marigraphref14_Same.l0 k 0 x205000 x205001 x205002 x206000 x206001 x206002)
def marigraphref14_Same.l0 : Nat → Int → Int → Int → List (S23) → Int → Int → List (S23) → Option (Bool)
 | 0, _, _, _, _, _, _, _ => none
 | k + 1, x5, x205000, x205001, x205002, x206000, x206001, x206002 => if x5 < (x205002.length : Int) then (if 0 ≤ x5 then (if x5 < (x206002.length : Int) then (if (!(((rd_T23 x205002 x5).f0) == ((rd_T23 x206002 x5).f0)) || (!(((rd_T23 x205002 x5).f1) == ((rd_T23 x206002 x5).f1)))) = true then (some false) else (marigraphref14_Same.l0 k (wrap64 (x5 + 1)) x205000 x205001 x205002 x206000 x206001 x206002)) else (none)) else (none)) else (some true)
end
def marigraphref14_Same.f (k : Nat) (a0_0 : Int) (a0_1 : Int) (l0_2 : List (S23)) (a1_0 : Int) (a1_1 : Int) (l1_2 : List (S23)) : Option (Bool) := if a0_0 = a1_0 then (if a0_1 = a1_1 then (marigraphref14_Same.j0 k ((l0_2.length : Int) != (l1_2.length : Int)) a0_0 a0_1 l0_2 a1_0 a1_1 l1_2) else (marigraphref14_Same.j0 k true a0_0 a0_1 l0_2 a1_0 a1_1 l1_2)) else (marigraphref14_Same.j0 k true a0_0 a0_1 l0_2 a1_0 a1_1 l1_2)
theorem marigraphref14_Same.mono_l : ∀ k, (∀ y0 y1 y2 y3 y4 y5 y6, LeO (marigraphref14_Same.j0 k y0 y1 y2 y3 y4 y5 y6) (marigraphref14_Same.j0 (k + 1) y0 y1 y2 y3 y4 y5 y6)) ∧ (∀ y0 y1 y2 y3 y4 y5 y6, LeO (marigraphref14_Same.l0 k y0 y1 y2 y3 y4 y5 y6) (marigraphref14_Same.l0 (k + 1) y0 y1 y2 y3 y4 y5 y6))
 | 0 => ⟨fun _ _ _ _ _ _ _ r h => by simp [marigraphref14_Same.j0] at h, fun _ _ _ _ _ _ _ r h => by simp [marigraphref14_Same.l0] at h⟩
 | k + 1 => by
  obtain ⟨ih0, ih1⟩ := marigraphref14_Same.mono_l k
  refine ⟨?_, ?_⟩
  ·intro y0 y1 y2 y3 y4 y5 y6
   unfold marigraphref14_Same.j0
   repeat' first
   | (with_reducible exact ih0 _ _ _ _ _ _ _)
   | (with_reducible exact ih1 _ _ _ _ _ _ _)
   | (with_reducible exact LeO.refl _)
   | (with_reducible exact LeO.none _)
   | (with_reducible refine LeO.ite ?_ ?_)
   | (with_reducible refine LeO.bind ?_ (fun _ => ?_))
   | exact ih0 _ _ _ _ _ _ _
   | exact ih1 _ _ _ _ _ _ _
   | exact LeO.none _
   | refine LeO.ite ?_ ?_
   | refine LeO.bind ?_ (fun _ => ?_)
  ·intro y0 y1 y2 y3 y4 y5 y6
   unfold marigraphref14_Same.l0
   repeat' first
   | (with_reducible exact ih0 _ _ _ _ _ _ _)
   | (with_reducible exact ih1 _ _ _ _ _ _ _)
   | (with_reducible exact LeO.refl _)
   | (with_reducible exact LeO.none _)
   | (with_reducible refine LeO.ite ?_ ?_)
   | (with_reducible refine LeO.bind ?_ (fun _ => ?_))
   | exact ih0 _ _ _ _ _ _ _
   | exact ih1 _ _ _ _ _ _ _
   | exact LeO.none _
   | refine LeO.ite ?_ ?_
   | refine LeO.bind ?_ (fun _ => ?_)
theorem marigraphref14_Same.mono : ∀ a0 a1 a2 a3 a4 a5 k, LeO (marigraphref14_Same.f k a0 a1 a2 a3 a4 a5) (marigraphref14_Same.f (k + 1) a0 a1 a2 a3 a4 a5) := by
 intro a0 a1 a2 a3 a4 a5 k
 obtain ⟨ih0, ih1⟩ := marigraphref14_Same.mono_l k
 unfold marigraphref14_Same.f
 repeat' first
   | (with_reducible exact ih0 _ _ _ _ _ _ _)
   | (with_reducible exact ih1 _ _ _ _ _ _ _)
   | (with_reducible exact LeO.refl _)
   | (with_reducible exact LeO.none _)
   | (with_reducible refine LeO.ite ?_ ?_)
   | (with_reducible refine LeO.bind ?_ (fun _ => ?_))
   | exact ih0 _ _ _ _ _ _ _
   | exact ih1 _ _ _ _ _ _ _
   | exact LeO.none _
   | refine LeO.ite ?_ ?_
   | refine LeO.bind ?_ (fun _ => ?_)
set_option maxHeartbeats 8000000 in
set_option maxRecDepth 100000 in
theorem marigraphref14_Same.calls (k : Nat) (a0_0 : Int) (a0_1 : Int) (A0_2 : Option Addr) (c0_2 : Nat) (l0_2 : List (S23)) (a1_0 : Int) (a1_1 : Int) (A1_2 : Option Addr) (c1_2 : Nat) (l1_2 : List (S23)) (r : Bool) (w : World) (hr0_2 : Kd.C k23 w A0_2 l0_2.length l0_2) (hc0_2 : l0_2.length ≤ c0_2) (hr1_2 : Kd.C k23 w A1_2 l1_2.length l1_2) (hc1_2 : l1_2.length ≤ c1_2) (h : marigraphref14_Same.f k a0_0 a0_1 l0_2 a1_0 a1_1 l1_2 = some r) :
  Calls Try.prog 7 #[.agg #[.int .i64 a0_0, .int .i64 a0_1, .slice A0_2 l0_2.length c0_2], .agg #[.int .i64 a1_0, .int .i64 a1_1, .slice A1_2 l1_2.length c1_2]] w fun e w' => e = .returned (.bool r) ∧ Below w.heap.size w w' := by
 have hu26 := Try.underlying26
 have hu23 := Try.underlying23
 have HR0_2 := Aside0.mk hr0_2
 have HC0_2 := Aside0.mk hc0_2
 clear hr0_2 hc0_2
 have HR1_2 := Aside0.mk hr1_2
 have HC1_2 := Aside0.mk hc1_2
 clear hr1_2 hc1_2
 have HB := Aside0.mk (Below.refl w.heap.size w)
 have H : (if a0_0 = a1_0 then (if a0_1 = a1_1 then (marigraphref14_Same.j0 k ((l0_2.length : Int) != (l1_2.length : Int)) a0_0 a0_1 l0_2 a1_0 a1_1 l1_2) else (marigraphref14_Same.j0 k true a0_0 a0_1 l0_2 a1_0 a1_1 l1_2)) else (marigraphref14_Same.j0 k true a0_0 a0_1 l0_2 a1_0 a1_1 l1_2)) = some r := h
 clear h
 have HC3 := Aside0.mk H
 clear H
 go_enter Try.func7, Try.ntmps7
 go_upto_region 1 with (first | ((with_reducible refine gate_dst (N := 2) rfl ?_); (try (refine gate_guard (by rfl) ?_; dsimp only)); refine box_event ?hg (N := 2) ?hd (cs := #[.int .i64 a0_0, .int .i64 a0_1, .slice A0_2 l0_2.length c0_2]) (t := 26) ?hr ?_; (case hd => rfl); (case hg => rfl); (case hr => first | (go_simp; done) | (go_simp; rfl)); intro gb204 hg w4 hbox hb; have n0_ := Aside0.mk (below_step (belN HB.out) hb); have n1_ := Aside0.mk (hbox); have n2_ := Aside0.mk (szB hg HB.out); have n3_ := Aside0.mk (szB hg HB.out); clear HB; have HB := n0_; have BK204 := n1_; have GW204 := n2_; have GE204 := n3_; clear n0_ n1_ n2_ n3_; clear hb hbox hg) | ((with_reducible refine gate_dst (N := 3) rfl ?_); (try (refine gate_guard (by rfl) ?_; dsimp only)); refine box_event ?hg (N := 3) ?hd (cs := #[.int .i64 a1_0, .int .i64 a1_1, .slice A1_2 l1_2.length c1_2]) (t := 26) ?hr ?_; (case hd => rfl); (case hg => rfl); (case hr => first | (go_simp; done) | (go_simp; rfl)); intro gb205 hg w5 hbox hb; have n0_ := Aside0.mk (bkB BK204.out hb); have n1_ := Aside0.mk (below_step (belS HB.out) hb); have n2_ := Aside0.mk (hbox); have n3_ := Aside0.mk (szB hg HB.out); have n4_ := Aside0.mk (szB hg HB.out); have n5_ := Aside0.mk ((bk1 hg BK204.out)); have n6_ := Aside0.mk ((bk2 hg BK204.out)); clear BK204; clear HB; have BK204 := n0_; have HB := n1_; have BK205 := n2_; have GW205 := n3_; have GE205 := n4_; have NB204_205 := n5_; have NB205_204 := n6_; clear n0_ n1_ n2_ n3_ n4_ n5_ n6_; clear hb hbox hg))
 repeat (go_quiet (first | ((with_reducible refine gate_dst (N := 2) rfl ?_); (try (refine gate_guard (by rfl) ?_; dsimp only)); refine box_event ?hg (N := 2) ?hd (cs := #[.int .i64 a0_0, .int .i64 a0_1, .slice A0_2 l0_2.length c0_2]) (t := 26) ?hr ?_; (case hd => rfl); (case hg => rfl); (case hr => first | (go_simp; done) | (go_simp; rfl)); intro gb204 hg w4 hbox hb; have n0_ := Aside0.mk (below_step (belN HB.out) hb); have n1_ := Aside0.mk (hbox); have n2_ := Aside0.mk (szB hg HB.out); have n3_ := Aside0.mk (szB hg HB.out); clear HB; have HB := n0_; have BK204 := n1_; have GW204 := n2_; have GE204 := n3_; clear n0_ n1_ n2_ n3_; clear hb hbox hg) | ((with_reducible refine gate_dst (N := 3) rfl ?_); (try (refine gate_guard (by rfl) ?_; dsimp only)); refine box_event ?hg (N := 3) ?hd (cs := #[.int .i64 a1_0, .int .i64 a1_1, .slice A1_2 l1_2.length c1_2]) (t := 26) ?hr ?_; (case hd => rfl); (case hg => rfl); (case hr => first | (go_simp; done) | (go_simp; rfl)); intro gb205 hg w5 hbox hb; have n0_ := Aside0.mk (bkB BK204.out hb); have n1_ := Aside0.mk (below_step (belS HB.out) hb); have n2_ := Aside0.mk (hbox); have n3_ := Aside0.mk (szB hg HB.out); have n4_ := Aside0.mk (szB hg HB.out); have n5_ := Aside0.mk ((bk1 hg BK204.out)); have n6_ := Aside0.mk ((bk2 hg BK204.out)); clear BK204; clear HB; have BK204 := n0_; have HB := n1_; have BK205 := n2_; have GW205 := n3_; have GE205 := n4_; have NB204_205 := n5_; have NB205_204 := n6_; clear n0_ n1_ n2_ n3_ n4_ n5_ n6_; clear hb hbox hg)); go_upto_region 1 with (first | ((with_reducible refine gate_dst (N := 2) rfl ?_); (try (refine gate_guard (by rfl) ?_; dsimp only)); refine box_event ?hg (N := 2) ?hd (cs := #[.int .i64 a0_0, .int .i64 a0_1, .slice A0_2 l0_2.length c0_2]) (t := 26) ?hr ?_; (case hd => rfl); (case hg => rfl); (case hr => first | (go_simp; done) | (go_simp; rfl)); intro gb204 hg w4 hbox hb; have n0_ := Aside0.mk (below_step (belN HB.out) hb); have n1_ := Aside0.mk (hbox); have n2_ := Aside0.mk (szB hg HB.out); have n3_ := Aside0.mk (szB hg HB.out); clear HB; have HB := n0_; have BK204 := n1_; have GW204 := n2_; have GE204 := n3_; clear n0_ n1_ n2_ n3_; clear hb hbox hg) | ((with_reducible refine gate_dst (N := 3) rfl ?_); (try (refine gate_guard (by rfl) ?_; dsimp only)); refine box_event ?hg (N := 3) ?hd (cs := #[.int .i64 a1_0, .int .i64 a1_1, .slice A1_2 l1_2.length c1_2]) (t := 26) ?hr ?_; (case hd => rfl); (case hg => rfl); (case hr => first | (go_simp; done) | (go_simp; rfl)); intro gb205 hg w5 hbox hb; have n0_ := Aside0.mk (bkB BK204.out hb); have n1_ := Aside0.mk (below_step (belS HB.out) hb); have n2_ := Aside0.mk (hbox); have n3_ := Aside0.mk (szB hg HB.out); have n4_ := Aside0.mk (szB hg HB.out); have n5_ := Aside0.mk ((bk1 hg BK204.out)); have n6_ := Aside0.mk ((bk2 hg BK204.out)); clear BK204; clear HB; have BK204 := n0_; have HB := n1_; have BK205 := n2_; have GW205 := n3_; have GE205 := n4_; have NB204_205 := n5_; have NB205_204 := n6_; clear n0_ n1_ n2_ n3_ n4_ n5_ n6_; clear hb hbox hg)))
 (try simp only [Act.put, List.setIfInBounds_toArray, List.set_cons_zero, List.set_cons_succ])
 go_cut [26] (fun v26 wc => ∃ (kq : Nat) (x26_2 : Bool), v26 = .bool x26_2 ∧ Aside0 (marigraphref14_Same.j0 kq x26_2 a0_0 a0_1 l0_2 a1_0 a1_1 l1_2 = some r) ∧ Aside0 (kq ≤ k) ∧ Aside0 (wc.heap[gb204]? = some (.cells #[.int .i64 a0_0, .int .i64 a0_1, (.slice A0_2 l0_2.length c0_2)] 26 (0, 0))) ∧ Aside0 (wc.heap[gb205]? = some (.cells #[.int .i64 a1_0, .int .i64 a1_1, (.slice A1_2 l1_2.length c1_2)] 26 (0, 0))) ∧ Aside0 (Below w.heap.size w wc))
 case first =>
  have H := HC3.out
  clear HC3
  by_cases c6 : a0_0 = a1_0
  ·rw [if_pos c6] at H
   have c6b0 : (a0_0 == a1_0) = true := beq_iff_eq.mpr c6
   have c6b1 : (a0_0 != a1_0) = false := bne_eq_false_iff_eq.mpr c6
   clear c6
   (first | rw [c6b0] | rw [c6b1] | (simp only [i64_w, i32_w]; rw [c6b0]) | skip)
   by_cases c7 : a0_1 = a1_1
   ·rw [if_pos c7] at H
    have c7b0 : (a0_1 == a1_1) = true := beq_iff_eq.mpr c7
    have c7b1 : (a0_1 != a1_1) = false := bne_eq_false_iff_eq.mpr c7
    clear c7
    have H' := Aside0.mk H
    clear H
    have hnb8 := NB204_205.out
    have hnc8 := NB205_204.out
    have hcz9_0 : w5.cell? ⟨gb204, 0, none⟩ = some (.int .i64 a0_0) := (blk_cell BK204.out 0).trans rfl
    have hcz9_1 : w5.cell? ⟨gb204, 1, none⟩ = some (.int .i64 a0_1) := (blk_cell BK204.out 1).trans rfl
    have hcz9_2 : w5.cell? ⟨gb204, 2, none⟩ = some (.slice A0_2 l0_2.length c0_2) := (blk_cell BK204.out 2).trans rfl
    have hfz9_0 := blk_frozen BK204.out 0
    have hfz9_1 := blk_frozen BK204.out 1
    have hfz9_2 := blk_frozen BK204.out 2
    have hcz10_0 : w5.cell? ⟨gb205, 0, none⟩ = some (.int .i64 a1_0) := (blk_cell BK205.out 0).trans rfl
    have hcz10_1 : w5.cell? ⟨gb205, 1, none⟩ = some (.int .i64 a1_1) := (blk_cell BK205.out 1).trans rfl
    have hcz10_2 : w5.cell? ⟨gb205, 2, none⟩ = some (.slice A1_2 l1_2.length c1_2) := (blk_cell BK205.out 2).trans rfl
    have hfz10_0 := blk_frozen BK205.out 0
    have hfz10_1 := blk_frozen BK205.out 1
    have hfz10_2 := blk_frozen BK205.out 2
    go_wp2
    repeat (go_quiet (fail); try go_wp2)
    go_meet
    case rel => exact ⟨_, (((l0_2.length : Int) != (l1_2.length : Int))), (by first | rfl | (simp; done) | (simp [*]; done)), H', ⟨by first | omega | exact Nat.le_refl _⟩, ⟨blkN BK204.out⟩, ⟨blkN BK205.out⟩, ⟨(belS HB.out)⟩⟩
   ·rw [if_neg c7] at H
    have c7b0 : (a0_1 == a1_1) = false := beq_eq_false_iff_ne.mpr c7
    have c7b1 : (a0_1 != a1_1) = true := bne_iff_ne.mpr c7
    have H' := Aside0.mk H
    clear H
    have hnb11 := NB204_205.out
    have hnc11 := NB205_204.out
    have hcz12_0 : w5.cell? ⟨gb204, 0, none⟩ = some (.int .i64 a0_0) := (blk_cell BK204.out 0).trans rfl
    have hcz12_1 : w5.cell? ⟨gb204, 1, none⟩ = some (.int .i64 a0_1) := (blk_cell BK204.out 1).trans rfl
    have hcz12_2 : w5.cell? ⟨gb204, 2, none⟩ = some (.slice A0_2 l0_2.length c0_2) := (blk_cell BK204.out 2).trans rfl
    have hfz12_0 := blk_frozen BK204.out 0
    have hfz12_1 := blk_frozen BK204.out 1
    have hfz12_2 := blk_frozen BK204.out 2
    have hcz13_0 : w5.cell? ⟨gb205, 0, none⟩ = some (.int .i64 a1_0) := (blk_cell BK205.out 0).trans rfl
    have hcz13_1 : w5.cell? ⟨gb205, 1, none⟩ = some (.int .i64 a1_1) := (blk_cell BK205.out 1).trans rfl
    have hcz13_2 : w5.cell? ⟨gb205, 2, none⟩ = some (.slice A1_2 l1_2.length c1_2) := (blk_cell BK205.out 2).trans rfl
    have hfz13_0 := blk_frozen BK205.out 0
    have hfz13_1 := blk_frozen BK205.out 1
    have hfz13_2 := blk_frozen BK205.out 2
    go_wp2
    repeat (go_quiet (fail); try go_wp2)
    go_meet
    case rel => exact ⟨_, (true), (by first | rfl | (simp; done) | (simp [*]; done)), H', ⟨by first | omega | exact Nat.le_refl _⟩, ⟨blkN BK204.out⟩, ⟨blkN BK205.out⟩, ⟨(belS HB.out)⟩⟩
  ·rw [if_neg c6] at H
   have c6b0 : (a0_0 == a1_0) = false := beq_eq_false_iff_ne.mpr c6
   have c6b1 : (a0_0 != a1_0) = true := bne_iff_ne.mpr c6
   (first | rw [c6b0] | rw [c6b1] | (simp only [i64_w, i32_w]; rw [c6b0]) | skip)
   have H' := Aside0.mk H
   clear H
   have hnb14 := NB204_205.out
   have hnc14 := NB205_204.out
   have hcz15_0 : w5.cell? ⟨gb204, 0, none⟩ = some (.int .i64 a0_0) := (blk_cell BK204.out 0).trans rfl
   have hcz15_1 : w5.cell? ⟨gb204, 1, none⟩ = some (.int .i64 a0_1) := (blk_cell BK204.out 1).trans rfl
   have hcz15_2 : w5.cell? ⟨gb204, 2, none⟩ = some (.slice A0_2 l0_2.length c0_2) := (blk_cell BK204.out 2).trans rfl
   have hfz15_0 := blk_frozen BK204.out 0
   have hfz15_1 := blk_frozen BK204.out 1
   have hfz15_2 := blk_frozen BK204.out 2
   have hcz16_0 : w5.cell? ⟨gb205, 0, none⟩ = some (.int .i64 a1_0) := (blk_cell BK205.out 0).trans rfl
   have hcz16_1 : w5.cell? ⟨gb205, 1, none⟩ = some (.int .i64 a1_1) := (blk_cell BK205.out 1).trans rfl
   have hcz16_2 : w5.cell? ⟨gb205, 2, none⟩ = some (.slice A1_2 l1_2.length c1_2) := (blk_cell BK205.out 2).trans rfl
   have hfz16_0 := blk_frozen BK205.out 0
   have hfz16_1 := blk_frozen BK205.out 1
   have hfz16_2 := blk_frozen BK205.out 2
   go_wp2
   repeat (go_quiet (fail); try go_wp2)
   go_meet
   case rel => exact ⟨_, (true), (by first | rfl | (simp; done) | (simp [*]; done)), H', ⟨by first | omega | exact Nat.le_refl _⟩, ⟨blkN BK204.out⟩, ⟨blkN BK205.out⟩, ⟨(belS HB.out)⟩⟩
 case rest =>
  clear HC3
  try clear c1
  try clear p2
  try clear c6
  try clear c6b0
  try clear c6b1
  try clear c7
  try clear c7b0
  try clear c7b1
  try clear c8
  try clear c11
  try clear c14
  try clear hcz10_0
  try clear hcz10_1
  try clear hcz10_2
  try clear hcz12_0
  try clear hcz12_1
  try clear hcz12_2
  try clear hcz13_0
  try clear hcz13_1
  try clear hcz13_2
  try clear hcz15_0
  try clear hcz15_1
  try clear hcz15_2
  try clear hcz16_0
  try clear hcz16_1
  try clear hcz16_2
  try clear hcz9_0
  try clear hcz9_1
  try clear hcz9_2
  try clear hfz10_0
  try clear hfz10_1
  try clear hfz10_2
  try clear hfz12_0
  try clear hfz12_1
  try clear hfz12_2
  try clear hfz13_0
  try clear hfz13_1
  try clear hfz13_2
  try clear hfz15_0
  try clear hfz15_1
  try clear hfz15_2
  try clear hfz16_0
  try clear hfz16_1
  try clear hfz16_2
  try clear hfz9_0
  try clear hfz9_1
  try clear hfz9_2
  obtain ⟨kq, x26_2, rfl, HA, HJ2, BK204, BK205, HB⟩ := hcut
  cases kq with
  | zero => exact absurd HA.out (by simp [marigraphref14_Same.j0])
  | succ kj2 =>
   have H := HA.out
   clear HA
   simp only [marigraphref14_Same.j0] at H
   by_cases c17 : x26_2 = true
   ·subst c17
    have H1 : (some false) = some r := by rw [if_pos rfl] at H; exact H
    clear H
    have H := H1
    clear H1
    obtain rfl := Option.some.inj H
    go_wp2
    repeat (go_quiet (fail); try go_wp2)
    go_ret
    exact ⟨by first | rfl | (simp [errW_none, errW_some] <;> rfl) | (simp [*, errW_none, errW_some] <;> rfl), (belS HB.out)⟩
   ·replace c17 := Bool.eq_false_iff.mpr c17
    subst c17
    have H1 : (marigraphref14_Same.l0 kj2 0 a0_0 a0_1 l0_2 a1_0 a1_1 l1_2) = some r := by rw [if_neg (show ¬ (false = true) by decide)] at H; exact H
    clear H
    have H := H1
    clear H1
    have H' := Aside0.mk H
    clear H
    go_wp2
    repeat (go_quiet (fail); try go_wp2)
    go_loopg [5] kj2 (fun kq v5 w' => ∃ (x5_2 : Int), v5 = .int .i64 x5_2 ∧ Aside0 (marigraphref14_Same.l0 kq x5_2 a0_0 a0_1 l0_2 a1_0 a1_1 l1_2 = some r) ∧ Aside0 (kq ≤ kj2) ∧ Aside0 (w'.heap[gb204]? = some (.cells #[.int .i64 a0_0, .int .i64 a0_1, (.slice A0_2 l0_2.length c0_2)] 26 (0, 0))) ∧ Aside0 (w'.heap[gb205]? = some (.cells #[.int .i64 a1_0, .int .i64 a1_1, (.slice A1_2 l1_2.length c1_2)] 26 (0, 0))) ∧ Aside0 (Below w.heap.size w w'))
    case atStart => exact ⟨(0), (by first | rfl | (simp; done) | (simp [*]; done)), H', ⟨Nat.le_refl _⟩, ⟨blkN BK204.out⟩, ⟨blkN BK205.out⟩, ⟨(belS HB.out)⟩⟩
    case round =>
     clear H'
     try clear c1
     try clear p2
     try clear c6
     try clear c6b0
     try clear c6b1
     try clear c7
     try clear c7b0
     try clear c7b1
     try clear c8
     try clear c11
     try clear c14
     try clear c17
     try clear hcz10_0
     try clear hcz10_1
     try clear hcz10_2
     try clear hcz12_0
     try clear hcz12_1
     try clear hcz12_2
     try clear hcz13_0
     try clear hcz13_1
     try clear hcz13_2
     try clear hcz15_0
     try clear hcz15_1
     try clear hcz15_2
     try clear hcz16_0
     try clear hcz16_1
     try clear hcz16_2
     try clear hcz9_0
     try clear hcz9_1
     try clear hcz9_2
     try clear hfz10_0
     try clear hfz10_1
     try clear hfz10_2
     try clear hfz12_0
     try clear hfz12_1
     try clear hfz12_2
     try clear hfz13_0
     try clear hfz13_1
     try clear hfz13_2
     try clear hfz15_0
     try clear hfz15_1
     try clear hfz15_2
     try clear hfz16_0
     try clear hfz16_1
     try clear hfz16_2
     try clear hfz9_0
     try clear hfz9_1
     try clear hfz9_2
     try clear p2
     obtain ⟨x5_2, rfl, HA, HK2, BK204, BK205, HB⟩ := hrel
     cases gk with
     | zero => exact absurd HA.out (by simp [marigraphref14_Same.l0])
     | succ k2 =>
      have H := HA.out
      clear HA
      simp only [marigraphref14_Same.l0] at H
      by_cases c18 : x5_2 < (l0_2.length : Int)
      ·rw [if_pos c18] at H
       have c18b0 : decide (x5_2 < (l0_2.length : Int)) = true := decide_eq_true c18
       clear c18
       by_cases c19 : 0 ≤ x5_2
       ·rw [if_pos c19] at H
        have c19b0 : decide (0 ≤ x5_2) = true := decide_eq_true c19
        clear c19
        by_cases c20 : x5_2 < (l1_2.length : Int)
        ·rw [if_pos c20] at H
         have c20b0 : decide (x5_2 < (l1_2.length : Int)) = true := decide_eq_true c20
         clear c20
         by_cases c21 : (!(((rd_T23 l0_2 x5_2).f0) == ((rd_T23 l1_2 x5_2).f0)) || (!(((rd_T23 l0_2 x5_2).f1) == ((rd_T23 l1_2 x5_2).f1)))) = true
         ·rw [if_pos c21] at H
          have c21b0 : (!(((rd_T23 l0_2 x5_2).f0) == ((rd_T23 l1_2 x5_2).f0)) || (!(((rd_T23 l0_2 x5_2).f1) == ((rd_T23 l1_2 x5_2).f1)))) = true := c21
          clear c21
          obtain rfl := Option.some.inj H
          have hnb22 := NB204_205.out
          have hnc22 := NB205_204.out
          have hcz23_0 : wr.cell? ⟨gb204, 0, none⟩ = some (.int .i64 a0_0) := (blk_cell BK204.out 0).trans rfl
          have hcz23_1 : wr.cell? ⟨gb204, 1, none⟩ = some (.int .i64 a0_1) := (blk_cell BK204.out 1).trans rfl
          have hcz23_2 : wr.cell? ⟨gb204, 2, none⟩ = some (.slice A0_2 l0_2.length c0_2) := (blk_cell BK204.out 2).trans rfl
          have hfz23_0 := blk_frozen BK204.out 0
          have hfz23_1 := blk_frozen BK204.out 1
          have hfz23_2 := blk_frozen BK204.out 2
          have p206 : 0 ≤ (x5_2 : Int) := of_decide_eq_true (by first | (with_reducible assumption) | assumption)
          have q206 : x5_2 < (l0_2.length : Int) := of_decide_eq_true (by first | (with_reducible assumption) | assumption)
          obtain ⟨ad206, e206, hx206_0, hx206_1⟩ := at_T23 HR0_2.out x5_2 p206 q206
          cases e206
          (try replace hx206_0 := cellB HB.out hx206_0)
          (try replace hx206_1 := cellB HB.out hx206_1)
          replace p206 := eq_true p206
          replace q206 := eq_true q206
          have hcz24_0 : wr.cell? ⟨gb205, 0, none⟩ = some (.int .i64 a1_0) := (blk_cell BK205.out 0).trans rfl
          have hcz24_1 : wr.cell? ⟨gb205, 1, none⟩ = some (.int .i64 a1_1) := (blk_cell BK205.out 1).trans rfl
          have hcz24_2 : wr.cell? ⟨gb205, 2, none⟩ = some (.slice A1_2 l1_2.length c1_2) := (blk_cell BK205.out 2).trans rfl
          have hfz24_0 := blk_frozen BK205.out 0
          have hfz24_1 := blk_frozen BK205.out 1
          have hfz24_2 := blk_frozen BK205.out 2
          have p207 : 0 ≤ (x5_2 : Int) := of_decide_eq_true (by first | (with_reducible assumption) | assumption)
          have q207 : x5_2 < (l1_2.length : Int) := of_decide_eq_true (by first | (with_reducible assumption) | assumption)
          obtain ⟨ad207, e207, hx207_0, hx207_1⟩ := at_T23 HR1_2.out x5_2 p207 q207
          cases e207
          (try replace hx207_0 := cellB HB.out hx207_0)
          (try replace hx207_1 := cellB HB.out hx207_1)
          replace p207 := eq_true p207
          replace q207 := eq_true q207
          go_wp2
          repeat (go_quiet (fail); try go_wp2)
          go_ret
          exact ⟨by first | rfl | (simp [errW_none, errW_some] <;> rfl) | (simp [*, errW_none, errW_some] <;> rfl), (belS HB.out)⟩
         ·rw [if_neg c21] at H
          have c21b0 : (!(((rd_T23 l0_2 x5_2).f0) == ((rd_T23 l1_2 x5_2).f0)) || (!(((rd_T23 l0_2 x5_2).f1) == ((rd_T23 l1_2 x5_2).f1)))) = false := by simpa using c21
          clear c21
          have H' := Aside0.mk H
          clear H
          have hnb25 := NB204_205.out
          have hnc25 := NB205_204.out
          have hcz26_0 : wr.cell? ⟨gb204, 0, none⟩ = some (.int .i64 a0_0) := (blk_cell BK204.out 0).trans rfl
          have hcz26_1 : wr.cell? ⟨gb204, 1, none⟩ = some (.int .i64 a0_1) := (blk_cell BK204.out 1).trans rfl
          have hcz26_2 : wr.cell? ⟨gb204, 2, none⟩ = some (.slice A0_2 l0_2.length c0_2) := (blk_cell BK204.out 2).trans rfl
          have hfz26_0 := blk_frozen BK204.out 0
          have hfz26_1 := blk_frozen BK204.out 1
          have hfz26_2 := blk_frozen BK204.out 2
          have p206 : 0 ≤ (x5_2 : Int) := of_decide_eq_true (by first | (with_reducible assumption) | assumption)
          have q206 : x5_2 < (l0_2.length : Int) := of_decide_eq_true (by first | (with_reducible assumption) | assumption)
          obtain ⟨ad206, e206, hx206_0, hx206_1⟩ := at_T23 HR0_2.out x5_2 p206 q206
          cases e206
          (try replace hx206_0 := cellB HB.out hx206_0)
          (try replace hx206_1 := cellB HB.out hx206_1)
          replace p206 := eq_true p206
          replace q206 := eq_true q206
          have hcz27_0 : wr.cell? ⟨gb205, 0, none⟩ = some (.int .i64 a1_0) := (blk_cell BK205.out 0).trans rfl
          have hcz27_1 : wr.cell? ⟨gb205, 1, none⟩ = some (.int .i64 a1_1) := (blk_cell BK205.out 1).trans rfl
          have hcz27_2 : wr.cell? ⟨gb205, 2, none⟩ = some (.slice A1_2 l1_2.length c1_2) := (blk_cell BK205.out 2).trans rfl
          have hfz27_0 := blk_frozen BK205.out 0
          have hfz27_1 := blk_frozen BK205.out 1
          have hfz27_2 := blk_frozen BK205.out 2
          have p207 : 0 ≤ (x5_2 : Int) := of_decide_eq_true (by first | (with_reducible assumption) | assumption)
          have q207 : x5_2 < (l1_2.length : Int) := of_decide_eq_true (by first | (with_reducible assumption) | assumption)
          obtain ⟨ad207, e207, hx207_0, hx207_1⟩ := at_T23 HR1_2.out x5_2 p207 q207
          cases e207
          (try replace hx207_0 := cellB HB.out hx207_0)
          (try replace hx207_1 := cellB HB.out hx207_1)
          replace p207 := eq_true p207
          replace q207 := eq_true q207
          go_wp2
          repeat (go_quiet (fail); try go_wp2)
          go_roundg k2
          case measure => have := HJ2.out; have := HK2.out; omega
          case rel => exact ⟨(wrap64 (x5_2 + 1)), (by first | rfl | (simp; done) | (simp [*]; done)), H', ⟨by have := HJ2.out; have := HK2.out; omega⟩, ⟨blkN BK204.out⟩, ⟨blkN BK205.out⟩, ⟨(belS HB.out)⟩⟩
        ·rw [if_neg c20] at H
         exact absurd H (by simp)
       ·rw [if_neg c19] at H
        exact absurd H (by simp)
      ·rw [if_neg c18] at H
       have c18b0 : decide (x5_2 < (l0_2.length : Int)) = false := decide_eq_false c18
       clear c18
       obtain rfl := Option.some.inj H
       have hnb28 := NB204_205.out
       have hnc28 := NB205_204.out
       have hcz29_0 : wr.cell? ⟨gb204, 0, none⟩ = some (.int .i64 a0_0) := (blk_cell BK204.out 0).trans rfl
       have hcz29_1 : wr.cell? ⟨gb204, 1, none⟩ = some (.int .i64 a0_1) := (blk_cell BK204.out 1).trans rfl
       have hcz29_2 : wr.cell? ⟨gb204, 2, none⟩ = some (.slice A0_2 l0_2.length c0_2) := (blk_cell BK204.out 2).trans rfl
       have hfz29_0 := blk_frozen BK204.out 0
       have hfz29_1 := blk_frozen BK204.out 1
       have hfz29_2 := blk_frozen BK204.out 2
       go_wp2
       repeat (go_quiet (fail); try go_wp2)
       go_ret
       exact ⟨by first | rfl | (simp [errW_none, errW_some] <;> rfl) | (simp [*, errW_none, errW_some] <;> rfl), (belS HB.out)⟩

-- NOT PRINTED: function 30 (rowkey_read_1)

/-! ### octet_Get: function 33 -/
def getI : Int → List Int → Int
  | a, [] => a
  | a, c :: cs => getI (Go.bits .or .u64 (IntKind.u64.wrap (a * 256)) (IntKind.u64.wrap c)) cs
theorem getI_snoc (a : Int) (l : List Int) (c : Int) : getI a (l ++ [c]) = Go.bits .or .u64 (IntKind.u64.wrap (getI a l * 256)) (IntKind.u64.wrap c) := by
  induction l generalizing a with
  | nil => rfl
  | cons x xs ih => exact ih _
theorem intOf_int (k : IntKind) (q : Int) : intOf (Value.int k q) = q := rfl
theorem getI_less (n j : Nat) (h : wrap64 ((j : Int) + 1) = ((j + 1 : Nat) : Int)) (hlt : j < n) :
    n - (intOf (Value.int IntKind.i64 (wrap64 ((j : Int) + 1)))).toNat < n - (intOf (Value.int IntKind.i64 (j : Int))).toNat := by
  rw [intOf_int, intOf_int, h, Int.toNat_natCast, Int.toNat_natCast]
  exact Nat.sub_lt_sub_left hlt (Nat.lt_succ_self j)
def octet_Get.f (l0 : List Int) (a1 : Int) : Option (Int × Bool) := if a1 < 0 then (some (0, false)) else (if a1 > 8 then (some (0, false)) else (if a1 > (l0.length : Int) then (some (0, false)) else (some (getI 0 (l0.take a1.toNat), true))))
set_option maxHeartbeats 8000000 in
set_option maxRecDepth 100000 in
theorem octet_Get.small (A0 : Option Addr) (c0 : Nat) (l0 : List Int) (a1 : Int) (w : World) (c1b : decide (a1 < 0) = true) :
    Calls Try.prog 33 #[.slice A0 l0.length c0, .int .i64 a1] w fun e w' => e = .returned (.tuple #[.int .u64 0, .bool false]) ∧ Drawn0 w w' := by
  go_enter Try.func33, Try.ntmps33
  go_wp2
  repeat (go_quiet (fail); try go_wp2)
  go_ret2
  exact ⟨rfl, by repeat (first | exact Drawn0.refl _ | apply Drawn0.step)⟩
set_option maxHeartbeats 8000000 in
set_option maxRecDepth 100000 in
theorem octet_Get.great (A0 : Option Addr) (c0 : Nat) (l0 : List Int) (a1 : Int) (w : World) (c1b : decide (a1 < 0) = false) (c2b : decide (8 < a1) = true) :
    Calls Try.prog 33 #[.slice A0 l0.length c0, .int .i64 a1] w fun e w' => e = .returned (.tuple #[.int .u64 0, .bool false]) ∧ Drawn0 w w' := by
  go_enter Try.func33, Try.ntmps33
  go_wp2
  repeat (go_quiet (fail); try go_wp2)
  go_ret2
  exact ⟨rfl, by repeat (first | exact Drawn0.refl _ | apply Drawn0.step)⟩
set_option maxHeartbeats 8000000 in
set_option maxRecDepth 100000 in
theorem octet_Get.short (A0 : Option Addr) (c0 : Nat) (l0 : List Int) (a1 : Int) (w : World) (c1b : decide (a1 < 0) = false) (c2b : decide (8 < a1) = false) (c3b : decide ((l0.length : Int) < a1) = true) :
    Calls Try.prog 33 #[.slice A0 l0.length c0, .int .i64 a1] w fun e w' => e = .returned (.tuple #[.int .u64 0, .bool false]) ∧ Drawn0 w w' := by
  go_enter Try.func33, Try.ntmps33
  go_wp2
  repeat (go_quiet (fail); try go_wp2)
  go_ret2
  exact ⟨rfl, by repeat (first | exact Drawn0.refl _ | apply Drawn0.step)⟩
set_option maxHeartbeats 8000000 in
set_option maxRecDepth 100000 in
theorem octet_Get.there (A0 : Option Addr) (c0 : Nat) (l0 : List Int) (n : Nat) (w : World) (HR0 : Aside0 (Kd.C (Kd.int .u8) w A0 l0.length l0)) (HC0 : Aside0 (l0.length ≤ c0)) (HN : Aside0 (n ≤ l0.length)) (hnc : Aside0 (n ≤ 8)) :
    Calls Try.prog 33 #[.slice A0 l0.length c0, .int .i64 (n : Int)] w fun e w' => e = .returned (.tuple #[.int .u64 (getI 0 (l0.take n)), .bool true]) ∧ Drawn0 w w' := by
  have hnl := HN.out
  have hn8 := hnc.out
  have c1b : decide ((n : Int) < 0) = false := decide_eq_false (by omega)
  have c2b : decide (8 < (n : Int)) = false := decide_eq_false (by omega)
  have c3b : decide ((l0.length : Int) < (n : Int)) = false := decide_eq_false (by omega)
  have c4b : decide (l0.length < n) = false := decide_eq_false (by omega)
  have c5b : decide (8 < n) = false := decide_eq_false (by omega)
  obtain ⟨i0, hi0, _, hsz, _⟩ := info_parts info5
  have hcut := cut_to (P := Try.prog) 29 5 .i64 Try.underlying29 hi0 A0 l0.length c0 (n : Int) (by omega) (by omega) HC0.out
  rw [Int.toNat_natCast] at hcut
  clear hi0 hsz hnl hn8
  go_enter Try.func33, Try.ntmps33
  go_wp2
  repeat (go_quiet (fail); try go_wp2)
  go_loop [6, 25] (fun v6 v25 => ∃ j : Nat, j ≤ n ∧ v6 = .int .u64 (getI 0 (l0.take j)) ∧ v25 = .int .i64 (j : Int)) (fun _ v25 => n - (intOf v25).toNat)
  case atStart => exact ⟨0, Nat.zero_le _, by simp [getI], rfl⟩
  case round =>
    obtain ⟨j, hj, rfl, rfl⟩ := hrel
    by_cases hlt : j < n
    · have hln := HN.out
      have hn8 := hnc.out
      have d1 : decide (j < n) = true := decide_eq_true hlt
      have d2 : decide ((j : Int) < (n : Int)) = true := decide_eq_true (by omega)
      obtain ⟨ad, he, hx⟩ := Kd.at_int HR0.out (j : Int) (by omega) (by omega)
      have hsn := getI_snoc 0 (l0.take j) (rd l0 (j : Int))
      have hts : l0.take (j + 1) = l0.take j ++ [rd l0 (j : Int)] := by
        rw [List.take_succ_eq_append_getElem (by omega)]
        simp [rd, List.getD_eq_getElem?_getD, List.getElem?_eq_getElem (show j < l0.length by omega)]
      rw [← hts] at hsn
      have HS := Aside0.mk hsn
      cases he
      have p1 : (0 ≤ (j : Int)) = True := eq_true (by omega)
      have p2 : ((j : Int) < (n : Int)) = True := eq_true (by omega)
      have p3 : (j < n) = True := eq_true hlt
      rw [Int.toNat_natCast] at hx
      have HW := Aside0.mk (show wrap64 ((j : Int) + 1) = ((j + 1 : Nat) : Int) from by unfold wrap64; omega)
      clear hsn hts hln hj hn8 hlt
      go_wp2
      repeat (go_quiet (fail); try go_wp2)
      go_round
      case rel => exact ⟨j + 1, by have := of_eq_true p3; omega, congrArg (Value.int .u64) HS.out.symm, congrArg (Value.int .i64) HW.out⟩
      case measure => exact getI_less n j HW.out (of_eq_true p3)
    · have d1 : decide (j < n) = false := decide_eq_false hlt
      have d2 : decide ((j : Int) < (n : Int)) = false := decide_eq_false (by omega)
      have hjn : j = n := by omega
      subst hjn
      clear hlt hj
      go_wp2
      repeat (go_quiet (fail); try go_wp2)
      go_ret2
      exact ⟨rfl, by repeat (first | exact Drawn0.refl _ | apply Drawn0.step)⟩
theorem octet_Get.calls (A0 : Option Addr) (c0 : Nat) (l0 : List Int) (a1 : Int) (r1 : Int) (r2 : Bool) (w : World) (hr0 : Kd.C (Kd.int .u8) w A0 l0.length l0) (hc0 : l0.length ≤ c0) (h : octet_Get.f l0 a1 = some (r1, r2)) :
    Calls Try.prog 33 #[.slice A0 l0.length c0, .int .i64 a1] w fun e w' => e = .returned (.tuple #[.int .u64 r1, .bool r2]) ∧ Drawn0 w w' := by
  unfold octet_Get.f at h
  by_cases c1 : a1 < 0
  · rw [if_pos c1] at h
    cases h
    exact octet_Get.small A0 c0 l0 a1 w (decide_eq_true c1)
  rw [if_neg c1] at h
  by_cases c2 : a1 > 8
  · rw [if_pos c2] at h
    cases h
    exact octet_Get.great A0 c0 l0 a1 w (decide_eq_false c1) (decide_eq_true c2)
  rw [if_neg c2] at h
  by_cases c3 : a1 > (l0.length : Int)
  · rw [if_pos c3] at h
    cases h
    exact octet_Get.short A0 c0 l0 a1 w (decide_eq_false c1) (decide_eq_false c2) (decide_eq_true c3)
  rw [if_neg c3] at h
  obtain ⟨n, rfl⟩ := Int.eq_ofNat_of_zero_le (show 0 ≤ a1 by omega)
  rw [Int.toNat_natCast] at h
  cases h
  exact octet_Get.there A0 c0 l0 n w ⟨hr0⟩ ⟨hc0⟩ ⟨by omega⟩ ⟨by omega⟩

-- NOT PRINTED: function 31 (rowkey_reader_number)

end Go.Proofs.Ytbgghcifpephgaa.PRowkeyTells

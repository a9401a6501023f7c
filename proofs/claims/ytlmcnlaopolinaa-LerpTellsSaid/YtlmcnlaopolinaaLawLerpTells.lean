/- LerpTells: values between samples are what the document says, for any samples and times. No condition beyond the statement's own. -/
import Derived.Test.YtlmcnlaopolinaaRows
import Derived.Test.YtlmcnlaopolinaaPLerpTellsx12
import Derived.Test.YtlmcnlaopolinaaPureLerpTells
import Derived.WalkKit
import Derived.ProofKit
import Derived.OpenShut
import Derived.ShutString
import Derived.ChangeOld
import Derived.Below
import Derived.SizedLaws
import Derived.Deep.Slices
import Derived.Test.YtlmcnlaopolinaaWSized
namespace Go.Proofs.Ytlmcnlaopolinaa.lerpTells
open Go.ChangeShapes Go.WideShapes Go.ChangeAt Go.RowKit
open Go.ChangeMaps (open_string shut_string)
set_option linter.unusedVariables false
/-- A slice of structs of a number and a pair of numbers, opened: its elements by their index. -/
theorem open_smps {H : Type} {enc : TypeId × Value → H} {P : Program} {w : World} {held : Bool} {t e : TypeId} {f0 f1 g0 g1 : Field} {a : Option Addr} {len cap : Nat} {d : DataW H} {ps : List MemPlace} (ht : P.underlying t = some (.slice e)) (he : P.underlying e = some (.struct #[f0, f1])) (h0 : P.underlying f0.type = some (.int .i64)) (h1 : P.underlying f1.type = some (.struct #[g0, g1])) (k0 : P.underlying g0.type = some (.int .i64)) (k1 : P.underlying g1.type = some (.int .i64))
    (ce : P.cellsOf e = 3) (c0 : P.cellsOf f0.type = 1) (c1 : P.cellsOf f1.type = 2) (q0 : P.cellsOf g0.type = 1) (q1 : P.cellsOf g1.type = 1) (o0 : f0.offset = 0) (o1 : f1.offset = 1) (r0 : g0.offset = 0) (r1 : g1.offset = 1) (hd : DataW.Trod enc P w 0 (fun _ => true) held t (.slice a len cap) d ps) :
    len ≤ cap ∧ cap ≤ maxLen ∧ ∃ f : Nat → Int × Int × Int, (0 < len → ∃ ad, a = some ad ∧ ∀ i, i < len → w.cell? (ad.add (i * 3)) = some (.int .i64 (f i).1) ∧ w.cell? (ad.add (i * 3 + 1)) = some (.int .i64 (f i).2.1) ∧ w.cell? (ad.add (i * 3 + 2)) = some (.int .i64 (f i).2.2)) ∧ ∀ i, i < len → (Lit.int .i64 (f i).1).wf = true ∧ (Lit.int .i64 (f i).2.1).wf = true ∧ (Lit.int .i64 (f i).2.2).wf = true := by
  obtain ⟨fuel, hf⟩ := hd
  rcases Go.Deep.open_slice ht hf with ⟨hcs, _⟩ | ⟨ad, len', cap', m, n, D, Pl, hcs, _, hl, hm, hmm, _, hx⟩
  · simp [Value.cells] at hcs
    obtain ⟨rfl, rfl, rfl⟩ := hcs
    exact ⟨Nat.le_refl _, by unfold maxLen; decide, fun _ => (0, 0, 0), fun h => by omega, fun i h => by omega⟩
  · simp [Value.cells] at hcs
    obtain ⟨rfl, rfl, rfl⟩ := hcs
    simp only [if_true] at hmm
    have one : ∀ i, i < m → ∃ z : Int × Int × Int, (w.cell? (ad.add (i * 3)) = some (.int .i64 z.1) ∧ w.cell? (ad.add (i * 3 + 1)) = some (.int .i64 z.2.1) ∧ w.cell? (ad.add (i * 3 + 2)) = some (.int .i64 z.2.2)) ∧ (Lit.int .i64 z.1).wf = true ∧ (Lit.int .i64 z.2.1).wf = true ∧ (Lit.int .i64 z.2.2).wf = true := by
      intro i hi
      obtain ⟨cs, hc, hr⟩ := hx i hi
      obtain ⟨_, hlen, hget⟩ := World.cells?_some hc
      rw [ce] at hlen hget hc
      obtain ⟨y0, y1, n1, _, _, t0, t1⟩ := trod_struct2 he hr
      match cs, hlen with
      | [u0, u1, u2], _ =>
        rw [o0, c0] at t0
        rw [o1, c1] at t1
        simp only [List.drop_zero, List.take_succ_cons, List.take_zero, List.drop_succ_cons] at t0 t1
        obtain ⟨a0, e0, _, w0⟩ := DataW.trod_int h0 t0
        obtain ⟨z0, z1, n2, _, _, s0, s1⟩ := trod_struct2 h1 t1
        rw [r0, q0] at s0
        rw [r1, q1] at s1
        simp only [List.drop_zero, List.take_succ_cons, List.take_zero, List.drop_succ_cons] at s0 s1
        obtain ⟨a1, e1, _, w1⟩ := DataW.trod_int k0 s0
        obtain ⟨a2, e2, _, w2⟩ := DataW.trod_int k1 s1
        simp only [List.cons.injEq, and_true] at e0 e1 e2
        subst e0
        subst e1
        subst e2
        have g0 := hget 0 (by omega)
        have g1 := hget 1 (by omega)
        have g2 := hget 2 (by omega)
        rw [Go.Deep.add_add] at g0 g1 g2
        exact ⟨(a0, a1, a2), ⟨g0, g1, g2⟩, w0, w1, w2⟩
    obtain ⟨f, hfun⟩ := Go.Deep.choose_lt (α := Int × Int × Int) one
    exact ⟨hl, hm, f, fun _ => ⟨ad, rfl, fun i hi => (hfun i (by omega)).1⟩, fun i hi => (hfun i (by omega)).2⟩
/-- A struct of a number and a pair of numbers, opened and shut. -/
theorem open_smp1 {H : Type} {enc : TypeId × Value → H} {P : Program} {w : World} {base : Nat} {spare : Nat → Bool} {held : Bool} {r : Reach} {b0 : Nat} {t : TypeId} {f0 f1 g0 g1 : Field} {v : Value} {d : DataW H} {ps : List MemPlace} (ht : P.underlying t = some (.struct #[f0, f1])) (h0 : P.underlying f0.type = some (.int .i64)) (h1 : P.underlying f1.type = some (.struct #[g0, g1])) (k0 : P.underlying g0.type = some (.int .i64)) (k1 : P.underlying g1.type = some (.int .i64))
    (ct : P.cellsOf t = 3) (c0 : P.cellsOf f0.type = 1) (c1 : P.cellsOf f1.type = 2) (q0 : P.cellsOf g0.type = 1) (q1 : P.cellsOf g1.type = 1) (o0 : f0.offset = 0) (o1 : f1.offset = 1) (r0 : g0.offset = 0) (r1 : g1.offset = 1) (hval : Value.okWide P w r b0 t v) (hd : DataW.Trod enc P w base spare held t v d ps) :
    ∃ a b c, v = .agg #[.int .i64 a, .int .i64 b, .int .i64 c] ∧ d = .agg [.lit (.int .i64 a), .agg [.lit (.int .i64 b), .lit (.int .i64 c)]] ∧ ps = [] ∧ (Lit.int .i64 a).wf = true ∧ (Lit.int .i64 b).wf = true ∧ (Lit.int .i64 c).wf = true := by
  obtain ⟨cs, rfl, hs⟩ := okWide_struct ht hval
  obtain ⟨fuel, hf⟩ := hd
  obtain ⟨y0, y1, n, hx, hl, t0, t1⟩ := trod_struct2 ht hf
  rw [ct] at hs
  obtain ⟨l⟩ := cs
  obtain ⟨x, y, z, rfl⟩ : ∃ x y z, l = [x, y, z] := by
    match l, hs with
    | [x, y, z], _ => exact ⟨x, y, z, rfl⟩
  simp only [Value.cells, o0, o1, c0, c1, List.drop_zero, List.take_succ_cons, List.take_zero, List.drop_succ_cons] at t0 t1
  obtain ⟨a, e0, e1, wa⟩ := DataW.trod_int h0 t0
  obtain ⟨z0, z1, n2, hy, _, s0, s1⟩ := trod_struct2 h1 t1
  rw [r0, q0] at s0
  rw [r1, q1] at s1
  simp only [List.drop_zero, List.take_succ_cons, List.take_zero, List.drop_succ_cons] at s0 s1
  obtain ⟨b, e2, e3, wb⟩ := DataW.trod_int k0 s0
  obtain ⟨c, e4, e5, wc⟩ := DataW.trod_int k1 s1
  simp only [List.cons.injEq, and_true] at e0 e2 e4
  subst e0
  subst e2
  subst e4
  subst e1
  subst e3
  subst e5
  subst hy
  simp only [Prod.mk.injEq, List.append_nil] at hx
  exact ⟨a, b, c, rfl, hx.1, hx.2, wa, wb, wc⟩
theorem shut_smp1 {H : Type} {enc : TypeId × Value → H} {P : Program} {w : World} {base : Nat} {spare : Nat → Bool} {held : Bool} {t : TypeId} {f0 f1 g0 g1 : Field} {a b c : Int} (ht : P.underlying t = some (.struct #[f0, f1])) (h0 : P.underlying f0.type = some (.int .i64)) (h1 : P.underlying f1.type = some (.struct #[g0, g1])) (k0 : P.underlying g0.type = some (.int .i64)) (k1 : P.underlying g1.type = some (.int .i64))
    (ct : P.cellsOf t = 3) (c0 : P.cellsOf f0.type = 1) (c1 : P.cellsOf f1.type = 2) (q0 : P.cellsOf g0.type = 1) (q1 : P.cellsOf g1.type = 1) (o0 : f0.offset = 0) (o1 : f1.offset = 1) (r0 : g0.offset = 0) (r1 : g1.offset = 1) (wa : (Lit.int .i64 a).wf = true) (wb : (Lit.int .i64 b).wf = true) (wc : (Lit.int .i64 c).wf = true) :
    DataW.Trod enc P w base spare held t (.agg #[.int .i64 a, .int .i64 b, .int .i64 c]) (.agg [.lit (.int .i64 a), .agg [.lit (.int .i64 b), .lit (.int .i64 c)]]) [] := by
  refine ⟨3, ?_⟩
  have inner := trod_struct2_mk (enc := enc) (P := P) (w := w) (base := base) (spare := spare) (held := held) (n := 1) (cs := [.int .i64 b, .int .i64 c]) (y0 := (.lit (.int .i64 b), [])) (y1 := (.lit (.int .i64 c), [])) h1 (by rw [c1]; rfl) (by rw [r0, q0]; exact trod_int_mk 0 k0 wb) (by rw [r1, q1]; exact trod_int_mk 0 k1 wc)
  have := trod_struct2_mk (enc := enc) (P := P) (w := w) (base := base) (spare := spare) (held := held) (n := 2) (cs := [.int .i64 a, .int .i64 b, .int .i64 c]) (y0 := (.lit (.int .i64 a), [])) (y1 := (.agg [.lit (.int .i64 b), .lit (.int .i64 c)], [])) ht (by rw [ct]; rfl) (by rw [o0, c0]; exact trod_int_mk 1 h0 wa) (by rw [o1, c1]; simpa using inner)
  simpa [Value.cells] using this
theorem own : ownKnob Try.prog.godebug = none := by kernel_rfl
theorem laidOut : laidOutB Try.prog = true := by kernel_rfl
def IsRow (k : IntKind) (w : World) (a : Option Addr) (len cap : Nat) (zs : List Int) : Prop :=
  (a = none ∧ len = 0 ∧ cap = 0 ∧ zs = []) ∨
  ∃ x, a = some x ∧ len ≤ cap ∧ cap ≤ maxLen ∧ zs.length = cap ∧ (∀ i, i < zs.length → w.cell? (x.add i) = some (.int k (zs.getD i 0))) ∧ ∀ n ∈ zs, (Lit.int k n).wf = true
set_option maxRecDepth 100000 in
theorem lifted (os : Os) (started : os.Started) (H : Type) (enc : TypeId × Value → H) :
    ReturnsInHanded {} Try.checked os 3 .any (Rows.lerpTellsSpec.pre6 enc Try.prog Try.f3 Rows.lerpTellsRow.domain false) (Rows.lerpTellsSpec.post enc Try.prog Try.f3 false true false false) := by
  refine returnsInHanded_of_change_sized (C := Try.checked) own started (by kernel_rfl) Try.func3
    (ChangeSpec.witness6 (enc := enc) (C := Try.checked) false ⟨#[], #[.slice none 0 0, .slice none 0 0, .int .i64 0, .agg #[.int .i64 0, .int .i64 0, .int .i64 0], .agg #[.int .i64 0, .int .i64 0, .int .i64 0], .slice none 0 0], []⟩ 8 (by kernel_rfl) (by kernel_rfl) (by kernel_rfl) (by kernel_rfl)) ?_
  intro W base args ds gs before hval0 hW hcnd hsz0 _
  have hsz : (DataW.weightsEach Try.prog (Try.f3.params.toList ++ Rows.lerpTellsSpec.plain.varTypes Try.prog) (ds ++ gs)).all (· ≤ reachBytes) = true := hsz0
  have hval : ∀ (j : Nat) t v, Try.f3.params[j]? = some t → args[j]? = some v → Value.okWide Try.prog W .any base t v := hval0
  have hW' := hW
  obtain ⟨p, q, hA0, hV, rfl, hfz, hnd⟩ := hW
  have hA : DataW.TrodAll enc Try.prog W 0 (fun _ => true) true Try.f3.params.toList args.toList ds p := hA0
  rw [Try.params3] at hA hval hsz
  obtain ⟨v0, vs0, d0, ds0, p0, q0, hargs, rfl, rfl, h0, r0⟩ := trodAll_cons hA
  obtain ⟨v1, vs1, d1, ds1, p1, q1, rfl, rfl, rfl, h1, r1⟩ := trodAll_cons r0
  obtain ⟨v2, vs2, d2, ds2, p2, q2, rfl, rfl, rfl, h2, r2⟩ := trodAll_cons r1
  obtain ⟨v3, vs3, d3, ds3, p3, q3, rfl, rfl, rfl, h3, r3⟩ := trodAll_cons r2
  obtain ⟨v4, vs4, d4, ds4, p4, q4, rfl, rfl, rfl, h4, r4⟩ := trodAll_cons r3
  obtain ⟨v5, vs5, d5, ds5, p5, q5, rfl, rfl, rfl, h5, r5⟩ := trodAll_cons r4
  obtain ⟨rfl, rfl, rfl⟩ := trodAll_nil r5
  obtain rfl : args = #[v0, v1, v2, v3, v4, v5] := by cases args; simp_all
  obtain ⟨rfl, rfl⟩ := trodVars_none hV
  obtain ⟨a0, len0, cap0, rfl⟩ := okWide_slice Try.underlying22 (hval 0 22 v0 rfl rfl)
  have k0 := h0
  have lt0 : ∀ x ∈ p0, x.block < W.heap.size := by obtain ⟨m, hm⟩ := k0; exact DataW.trod_lt m _ _ _ hm
  obtain ⟨z0, w0⟩ : ∃ zs, IsRow .i64 W a0 len0 cap0 zs := by
    obtain ⟨fuel, hf⟩ := h0
    rcases open_ints Try.underlying22 Try.underlying3 (by kernel_rfl) hf with ⟨hcs, _⟩ | ⟨x, l, c, zs, hcs, _, hl, hm, hz, _, hcell, hwz⟩
    · simp [Value.cells] at hcs
      obtain ⟨rfl, rfl, rfl⟩ := hcs
      exact ⟨[], .inl ⟨rfl, rfl, rfl, rfl⟩⟩
    · simp [Value.cells] at hcs
      obtain ⟨rfl, rfl, rfl⟩ := hcs
      exact ⟨zs, .inr ⟨_, rfl, hl, hm, by simpa using hz, hcell, hwz⟩⟩
  have y0 : len0 * 8 ≤ 140737488351232 := Go.Proofs.YtlmcnlaopolinaaW.PrintWords.sized_ints hsz (j := 0) (t := 22) rfl rfl Try.underlying22 Try.underlying3 (by kernel_rfl) (by kernel_rfl) h0
  obtain ⟨a1, len1, cap1, rfl⟩ := okWide_slice Try.underlying22 (hval 1 22 v1 rfl rfl)
  have k1 := h1
  have lt1 : ∀ x ∈ p1, x.block < W.heap.size := by obtain ⟨m, hm⟩ := k1; exact DataW.trod_lt m _ _ _ hm
  obtain ⟨z1, w1⟩ : ∃ zs, IsRow .i64 W a1 len1 cap1 zs := by
    obtain ⟨fuel, hf⟩ := h1
    rcases open_ints Try.underlying22 Try.underlying3 (by kernel_rfl) hf with ⟨hcs, _⟩ | ⟨x, l, c, zs, hcs, _, hl, hm, hz, _, hcell, hwz⟩
    · simp [Value.cells] at hcs
      obtain ⟨rfl, rfl, rfl⟩ := hcs
      exact ⟨[], .inl ⟨rfl, rfl, rfl, rfl⟩⟩
    · simp [Value.cells] at hcs
      obtain ⟨rfl, rfl, rfl⟩ := hcs
      exact ⟨zs, .inr ⟨_, rfl, hl, hm, by simpa using hz, hcell, hwz⟩⟩
  have y1 : len1 * 8 ≤ 140737488351232 := Go.Proofs.YtlmcnlaopolinaaW.PrintWords.sized_ints hsz (j := 1) (t := 22) rfl rfl Try.underlying22 Try.underlying3 (by kernel_rfl) (by kernel_rfl) h1
  obtain ⟨a2, rfl, rfl, rfl, w2⟩ := open_int Try.underlying2 (hval 2 2 v2 rfl rfl) h2
  obtain ⟨x0, x1, x2, rfl, rfl, rfl, wx0, wx1, wx2⟩ := open_smp1 Try.underlying26 Try.underlying2 Try.underlying24 Try.underlying2 Try.underlying2 (by kernel_rfl) (by kernel_rfl) (by kernel_rfl) (by kernel_rfl) (by kernel_rfl) rfl rfl rfl rfl (hval 3 26 v3 rfl rfl) h3
  obtain ⟨u0, u1, u2, rfl, rfl, rfl, wu0, wu1, wu2⟩ := open_smp1 Try.underlying26 Try.underlying2 Try.underlying24 Try.underlying2 Try.underlying2 (by kernel_rfl) (by kernel_rfl) (by kernel_rfl) (by kernel_rfl) (by kernel_rfl) rfl rfl rfl rfl (hval 4 26 v4 rfl rfl) h4
  obtain ⟨a5, len5, cap5, rfl⟩ := okWide_slice Try.underlying27 (hval 5 27 v5 rfl rfl)
  have k5 := h5
  have lt5 : ∀ x ∈ p5, x.block < W.heap.size := by obtain ⟨m, hm⟩ := k5; exact DataW.trod_lt m _ _ _ hm
  obtain ⟨lc5, cm5, f5, fc5, fw5⟩ := open_smps Try.underlying27 Try.underlying26 Try.underlying2 Try.underlying24 Try.underlying2 Try.underlying2 (by kernel_rfl) (by kernel_rfl) (by kernel_rfl) (by kernel_rfl) (by kernel_rfl) rfl rfl rfl rfl h5
  clear hA0 hval0 hsz0 hsz
  refine (PLerpTells.lerpTells_walk Pure.LerpTells a0 len0 cap0 z0 a1 len1 cap1 z1 a2 x0 x1 x2 u0 u1 u2 a5 len5 cap5 f5 W w0 y0 w1 y1 w2 wx0 wx1 wx2 wu0 wu1 wu2 lc5 cm5 fc5 fw5).mono fun e W' ⟨he, bel⟩ => ?_
  subst he
  exact ⟨_, rfl, _, _, _, [], _, [], hW', trodAll_mk1 (shut_bool Try.underlying4 _), (trodAll_cons_mk (Below.trod laidOut (by kernel_rfl) (of_decide_eq_true (by kernel_rfl)) k0 bel lt0) (trodAll_cons_mk (Below.trod laidOut (by kernel_rfl) (of_decide_eq_true (by kernel_rfl)) k1 bel lt1) (trodAll_cons_mk (shut_int Try.underlying2 w2) (trodAll_cons_mk (shut_smp1 Try.underlying26 Try.underlying2 Try.underlying24 Try.underlying2 Try.underlying2 (by kernel_rfl) (by kernel_rfl) (by kernel_rfl) (by kernel_rfl) (by kernel_rfl) rfl rfl rfl rfl wx0 wx1 wx2) (trodAll_cons_mk (shut_smp1 Try.underlying26 Try.underlying2 Try.underlying24 Try.underlying2 Try.underlying2 (by kernel_rfl) (by kernel_rfl) (by kernel_rfl) (by kernel_rfl) (by kernel_rfl) rfl rfl rfl rfl wu0 wu1 wu2) (trodAll_cons_mk (Below.trod laidOut (by kernel_rfl) (of_decide_eq_true (by kernel_rfl)) k5 bel lt5) trodAll_mk0)))))), rfl, bel.frame _, fun h => by cases h⟩
theorem over : Rows.lerpTellsRow.holds Try.pinned (OpenSpec.ofChange Rows.lerpTellsSpec) :=
  OpenClaim.holds_of_wide 3 Try.f3 rfl rfl rfl rfl rfl rfl rfl ⟨rfl, rfl, rfl, rfl, rfl⟩ rfl rfl rfl rfl rfl (by kernel_rfl) Try.func3 (by kernel_rfl)
    (of_decide_eq_true (by kernel_rfl)) (by unfold Func.isWrapper; first | (rw [if_pos (by decide +kernel)]; kernel_rfl) | (rw [if_neg (by decide +kernel)]; exact ⟨rfl, rfl⟩))
    (fun os started H enc _ => lifted os started H enc)
theorem proved : Rows.LerpTellsSaid := over
#print axioms proved
end Go.Proofs.Ytlmcnlaopolinaa.lerpTells
namespace Go.Proofs.Ytlmcnlaopolinaa
/-- The row, under a short name, for the claim. -/
theorem lerpTells_holds : Rows.LerpTellsSaid := lerpTells.proved
end Go.Proofs.Ytlmcnlaopolinaa

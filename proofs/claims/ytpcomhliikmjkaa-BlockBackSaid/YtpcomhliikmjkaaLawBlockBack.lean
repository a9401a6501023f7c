/- BlockBack: what was built is read, each of its entries is found, and what is sought between is the next; for any entries. No condition beyond the statement's own. -/
import Derived.Test.YtpcomhliikmjkaaRows
import Derived.Test.YtpcomhliikmjkaaPBlockTellsx12
import Derived.Test.YtpcomhliikmjkaaPureBlockBack
import Derived.WalkKit
import Derived.ProofKit
import Derived.OpenShut
import Derived.ShutString
import Derived.ChangeOld
import Derived.Below
import Derived.SizedLaws
import Derived.Deep.Slices
import Derived.Test.YtpcomhliikmjkaaWSized
import Derived.Test.YtpcomhliikmjkaaWWords
namespace Go.Proofs.Ytpcomhliikmjkaa.blockBack
open Go.ChangeShapes Go.WideShapes Go.ChangeAt Go.RowKit Go.Proofs.YtpcomhliikmjkaaW.PrintWords
open Go.ChangeMaps (open_string shut_string)
set_option linter.unusedVariables false
/-! ### What a row's argument is, for any kind (ints, bools, texts, slices, structs): told once -/
/-- The data of type t read as the kind d, with wf: each number of its kind, nothing longer than a reading may be. -/
def Opens (P : Program) (t : TypeId) {α : Type} (d : Kd α) (wf : α → Prop) : Prop :=
  ∀ (H : Type) (enc : TypeId × Value → H) (w : World) (fuel : Nat) (cs : List Value) (x : DataW H × List MemPlace), DataW.trod enc P w 0 (fun _ => true) true fuel t cs = some x → (∀ n ∈ x.1.weights P t, n ≤ reachBytes) → ∃ y : α, d.K w y cs ∧ wf y
theorem opens_int {P : Program} {t : TypeId} {k : IntKind} (ht : P.underlying t = some (.int k)) : Opens P t (Kd.int k) (fun n => (Lit.int k n).wf = true) := by
  intro H enc w fuel cs x h _
  obtain ⟨n, rfl, _, hw⟩ := DataW.trod_int ht h
  exact ⟨n, rfl, hw⟩
theorem opens_bool {P : Program} {t : TypeId} (ht : P.underlying t = some .bool) : Opens P t Kd.bool (fun _ => True) := by
  intro H enc w fuel cs x h _
  obtain ⟨n, rfl, _⟩ := DataW.trod_bool ht h
  exact ⟨n, rfl, trivial⟩
theorem opens_string {P : Program} {t : TypeId} (ht : P.underlying t = some .string) : Opens P t Kd.string (fun s => s.size ≤ 140737488351232) := by
  intro H enc w fuel cs x h hs
  obtain ⟨s, rfl, rfl, _⟩ := DataW.trod_string ht h
  refine ⟨s, rfl, ?_⟩
  have := hs s.data.toList.length (by simp [DataW.weights])
  simpa [reachBytes] using this
theorem weightsAll_mem {H : Type} {P : Program} {e : TypeId} {d : DataW H} : ∀ {l : List (DataW H)}, d ∈ l → ∀ n ∈ d.weights P e, n ∈ DataW.weightsAll P e l
  | x :: l, h, n, hn => by
    simp only [DataW.weightsAll, List.mem_append]
    rcases List.mem_cons.1 h with rfl | h
    · exact .inl hn
    · exact .inr (weightsAll_mem h n hn)
theorem list_of {α : Type} {p : Nat → α → Prop} : ∀ n : Nat, (∀ i, i < n → ∃ x, p i x) → ∃ l : List α, l.length = n ∧ ∀ (i : Nat) (x : α), l[i]? = some x → p i x
  | 0, _ => ⟨[], rfl, fun i x h => by simp at h⟩
  | n + 1, h => by
    obtain ⟨l, hl, hp⟩ := list_of n (fun i hi => h i (by omega))
    obtain ⟨x, hx⟩ := h n (by omega)
    refine ⟨l ++ [x], by simp [hl], fun i y hy => ?_⟩
    rcases Nat.lt_or_ge i n with hi | hi
    · rw [List.getElem?_append_left (by omega)] at hy
      exact hp i y hy
    · rw [List.getElem?_append_right (by omega)] at hy
      have : i = n := by
        rcases Nat.lt_or_ge (i - l.length) 1 with h1 | h1
        · omega
        · rw [List.getElem?_eq_none (by simpa using h1)] at hy; cases hy
      subst this
      rw [hl, Nat.sub_self] at hy
      obtain rfl : x = y := by simpa using hy
      exact hx
theorem opens_slice {P : Program} {t e : TypeId} {α : Type} {d : Kd α} {wf : α → Prop} {bts : Nat} (ht : P.underlying t = some (.slice e)) (hc : P.cellsOf e = d.sz) (hb : P.bytesOf e = bts) (ho : Opens P e d wf) : Opens P t (Kd.slice e d) (fun xs => xs.length * bts ≤ 140737488351232 ∧ ∀ x ∈ xs, wf x) := by
  intro H enc w fuel cs x h hs
  rcases Go.Deep.open_slice ht h with ⟨rfl, _⟩ | ⟨ad, len, cap, m, n, D, Pl, rfl, _, hl, hm, hmm, rfl, hx⟩
  · exact ⟨[], ⟨none, 0, rfl, Nat.le_refl _, Kd.C_nil d w⟩, by simp, by simp⟩
  simp only [if_true] at hmm
  subst hmm
  have hw0 : (len + (m - len)) * P.bytesOf e ≤ reachBytes := hs _ (by simp [DataW.weights, ht])
  have hwD : ∀ i, i < len → ∀ n ∈ (D i).weights P e, n ≤ reachBytes := by
    intro i hi n hn
    refine hs n ?_
    simp only [DataW.weights, ht, List.mem_cons, List.mem_append]
    refine .inr (.inl (weightsAll_mem (d := D i) ?_ n hn))
    exact List.mem_map.2 ⟨i, List.mem_range.2 hi, rfl⟩
  have one : ∀ i, i < len → ∃ z : α × List Value, z.2.length = d.sz ∧ d.K w z.1 z.2 ∧ wf z.1 ∧ ∀ j u, z.2[j]? = some u → w.cell? (ad.add (i * d.sz + j)) = some u := by
    intro i hi
    obtain ⟨cs', hc', hr⟩ := hx i (by omega)
    obtain ⟨_, hlen, hget⟩ := World.cells?_some hc'
    obtain ⟨y, hK, hwf⟩ := ho H enc w n cs' _ hr (hwD i hi)
    refine ⟨(y, cs'), by rw [← hc]; exact hlen, hK, hwf, fun j u hu => ?_⟩
    have hj : j < cs'.length := by
      rcases Nat.lt_or_ge j cs'.length with h | h
      · exact h
      · rw [List.getElem?_eq_none h] at hu; cases hu
    have := hget j (by omega)
    rw [Go.Deep.add_add, hc] at this
    rw [this]
    exact hu
  obtain ⟨l, hlen, hf⟩ := list_of len one
  refine ⟨l.map (·.1), ?_, ?_, ?_⟩
  · refine ⟨some ad, m, by simp [hlen], by simpa [hlen] using hl, by simp, by simp [maxLen] at hm; simp; omega, fun _ => ⟨ad, rfl, fun j p hj => ?_⟩⟩
    rw [List.getElem?_map, Option.map_eq_some_iff] at hj
    obtain ⟨z, hz, rfl⟩ := hj
    obtain ⟨h1, h2, _, h4⟩ := hf j z hz
    exact ⟨z.2, h1, h2, fun i u hu => h4 i u hu⟩
  · rw [hb] at hw0
    rw [List.length_map, hlen]
    exact Nat.le_trans (Nat.mul_le_mul_right _ (Nat.le_add_right _ _)) hw0
  · intro y hy
    obtain ⟨z, hz, rfl⟩ := List.mem_map.1 hy
    obtain ⟨i, hi⟩ := List.mem_iff_getElem?.1 hz
    exact (hf i z hi).2.2.1
theorem opens_iso {P : Program} {t : TypeId} {α β : Type} {d : Kd α} {wf : α → Prop} {f : β → α} {g : α → β} (hfg : ∀ a, f (g a) = a) (ho : Opens P t d wf) : Opens P t (Kd.iso d f) (fun b => wf (f b)) := by
  intro H enc w fuel cs x h hs
  obtain ⟨y, hK, hw⟩ := ho H enc w fuel cs x h hs
  exact ⟨g y, by show d.K w (f (g y)) cs; rw [hfg]; exact hK, by show wf (f (g y)); rw [hfg]; exact hw⟩
/-- Fields one behind the other, from a place on. -/
def OpensF (P : Program) (fs : List Field) (off : Nat) {α : Type} (d : Kd α) (wf : α → Prop) : Prop :=
  ∀ (H : Type) (enc : TypeId × Value → H) (w : World) (n : Nat) (cs : List Value) (xs : List (DataW H)), cs.length = d.sz → (∀ (i : Nat) (f : Field), fs[i]? = some f → ∃ y, xs[i]? = some y ∧ ∃ ps, DataW.trod enc P w 0 (fun _ => true) true n f.type ((cs.drop (f.offset - off)).take (P.cellsOf f.type)) = some (y, ps)) → (∀ n ∈ DataW.weightsEach P (fs.map (·.type)) xs, n ≤ reachBytes) → ∃ y : α, d.K w y cs ∧ wf y
theorem opensF_one {P : Program} {f : Field} {off : Nat} {α : Type} {d : Kd α} {wf : α → Prop} (ho : f.offset = off) (hc : P.cellsOf f.type = d.sz) (h : Opens P f.type d wf) : OpensF P [f] off d wf := by
  intro H enc w n cs xs hl hx hs
  obtain ⟨y, hy, ps, ht⟩ := hx 0 f rfl
  rw [ho, Nat.sub_self, List.drop_zero, hc, ← hl, List.take_length] at ht
  refine h H enc w n cs _ ht fun m hm => hs m ?_
  exact DataW.weights_mem_each (j := 0) (t := f.type) rfl hy m hm
theorem opensF_cons {P : Program} {f : Field} {fs : List Field} {off off' : Nat} {α β : Type} {d : Kd α} {d' : Kd β} {wf : α → Prop} {wf' : β → Prop} (ho : f.offset = off) (hc : P.cellsOf f.type = d.sz) (ho' : off' = off + d.sz) (hge : fs.all (fun g => decide (off' ≤ g.offset)) = true) (h : Opens P f.type d wf) (h' : OpensF P fs off' d' wf') : OpensF P (f :: fs) off (Kd.pair d d') (fun x => wf x.1 ∧ wf' x.2) := by
  intro H enc w n cs xs hl hx hs
  have hl : cs.length = d.sz + d'.sz := hl
  obtain ⟨y, hy, ps, ht⟩ := hx 0 f rfl
  rw [ho, Nat.sub_self, List.drop_zero, hc] at ht
  obtain ⟨x0, xs', rfl⟩ : ∃ x0 xs', xs = x0 :: xs' := by
    cases xs with
    | nil => simp at hy
    | cons a b => exact ⟨a, b, rfl⟩
  obtain rfl : x0 = y := by simpa using hy
  obtain ⟨a, hKa, hwa⟩ := h H enc w n _ _ ht fun m hm => hs m (DataW.weights_mem_each (j := 0) (t := f.type) rfl rfl m hm)
  obtain ⟨b, hKb, hwb⟩ := h' H enc w n (cs.drop d.sz) xs' (by rw [List.length_drop, hl]; omega) (fun i g hg => by
    obtain ⟨y, hy, ps, ht⟩ := hx (i + 1) g hg
    refine ⟨y, hy, ps, ?_⟩
    have hgo : off' ≤ g.offset := of_decide_eq_true (List.all_eq_true.1 hge g (List.mem_of_getElem? hg))
    rw [List.drop_drop, show d.sz + (g.offset - off') = g.offset - off by omega]
    exact ht) (fun m hm => hs m (by simp only [List.map_cons, DataW.weightsEach, List.mem_append]; exact .inr hm))
  exact ⟨(a, b), ⟨cs.take d.sz, cs.drop d.sz, (List.take_append_drop _ _).symm, hKa, hKb⟩, hwa, hwb⟩
theorem opens_struct {P : Program} {t : TypeId} {fs : List Field} {α : Type} {d : Kd α} {wf : α → Prop} (ht : P.underlying t = some (.struct fs.toArray)) (hc : P.cellsOf t = d.sz) (h : OpensF P fs 0 d wf) : Opens P t d wf := by
  intro H enc w fuel cs x hx hs
  obtain ⟨xs, n, rfl, rfl, hl, hlen, hf⟩ := DataW.trod_struct ht hx
  refine h H enc w n cs (xs.map (·.1)) (by rw [hl, hc]) (fun i f hif => ?_) (fun m hm => hs m (by simpa [DataW.weights, ht] using hm))
  have hi := hf i f (by simpa using hif)
  have hil : i < fs.length := by
    rcases Nat.lt_or_ge i fs.length with h | h
    · exact h
    · rw [List.getElem?_eq_none h] at hif; cases hif
  have hxl : i < xs.length := by rw [hlen]; simpa using hil
  rw [List.getElem?_eq_getElem hxl] at hi
  exact ⟨xs[i].1, by simp [hxl], xs[i].2, by rw [Nat.sub_zero]; exact hi⟩
theorem own : ownKnob Try.prog.godebug = none := by kernel_rfl
theorem laidOut : laidOutB Try.prog = true := by kernel_rfl
theorem op0 : Opens Try.prog 22 (Kd.slice 34 PBlockTells.k34) (fun xs => xs.length * 56 ≤ 140737488351232 ∧ ∀ x ∈ xs, (fun x : PBlockTells.S34 => (fun x => (fun xs => xs.length * 1 ≤ 140737488351232 ∧ ∀ x ∈ xs, (fun n => (Lit.int .u8 n).wf = true) x) x.1 ∧ (fun x => (fun xs => xs.length * 1 ≤ 140737488351232 ∧ ∀ x ∈ xs, (fun n => (Lit.int .u8 n).wf = true) x) x.1 ∧ (fun _ => True) x.2) x.2) (x.f0, x.f1, x.f2)) x) := (opens_slice (bts := 56) Try.underlying22 (by kernel_rfl) (by kernel_rfl) (opens_iso (f := fun x : PBlockTells.S34 => (x.f0, x.f1, x.f2)) (g := fun a => ⟨a.1, a.2.1, a.2.2⟩) (fun _ => rfl) (opens_struct Try.underlying34 (by kernel_rfl) (opensF_cons rfl (by kernel_rfl) rfl rfl (opens_slice (bts := 1) Try.underlying26 (by kernel_rfl) (by kernel_rfl) (opens_int Try.underlying5)) (opensF_cons rfl (by kernel_rfl) rfl rfl (opens_slice (bts := 1) Try.underlying26 (by kernel_rfl) (by kernel_rfl) (opens_int Try.underlying5)) (opensF_one rfl (by kernel_rfl) (opens_bool Try.underlying4)))))))
set_option maxRecDepth 100000 in
theorem lifted (os : Os) (started : os.Started) (H : Type) (enc : TypeId × Value → H) :
    ReturnsInHanded {} Try.checked os 3 .any (Rows.blockBackSpec.pre6 enc Try.prog Try.f3 Rows.blockBackRow.domain false) (Rows.blockBackSpec.post enc Try.prog Try.f3 false true false false) := by
  refine returnsInHanded_of_change_sized (C := Try.checked) own started (by kernel_rfl) Try.func3
    (ChangeSpec.witness6 (enc := enc) (C := Try.checked) false ⟨#[], #[.slice none 0 0], []⟩ 8 (by kernel_rfl) (by kernel_rfl) (by kernel_rfl) (by kernel_rfl)) ?_
  intro W base args ds gs before hval0 hW hcnd hsz0 _
  have hsz : (DataW.weightsEach Try.prog (Try.f3.params.toList ++ Rows.blockBackSpec.plain.varTypes Try.prog) (ds ++ gs)).all (· ≤ reachBytes) = true := hsz0
  have hval : ∀ (j : Nat) t v, Try.f3.params[j]? = some t → args[j]? = some v → Value.okWide Try.prog W .any base t v := hval0
  have hW' := hW
  obtain ⟨p, q, hA0, hV, rfl, hfz, hnd⟩ := hW
  have hA : DataW.TrodAll enc Try.prog W 0 (fun _ => true) true Try.f3.params.toList args.toList ds p := hA0
  rw [Try.params3] at hA hval hsz
  obtain ⟨v0, vs0, d0, ds0, p0, q0, hargs, rfl, rfl, h0, r0⟩ := trodAll_cons hA
  obtain ⟨rfl, rfl, rfl⟩ := trodAll_nil r0
  obtain rfl : args = #[v0] := by cases args; simp_all
  obtain ⟨rfl, rfl⟩ := trodVars_none hV
  have k0 := h0
  have lt0 : ∀ x ∈ p0, x.block < W.heap.size := by obtain ⟨m, hm⟩ := k0; exact DataW.trod_lt m _ _ _ hm
  obtain ⟨a0, len0, cap0, rfl⟩ := okWide_slice Try.underlying22 (hval 0 22 v0 rfl rfl)
  obtain ⟨fuel0, g0⟩ := h0
  obtain ⟨x0, ⟨A0, c0, e0, l0, C0⟩, f0⟩ := op0 H enc W fuel0 _ _ g0 (fun n hn => by have := List.all_eq_true.1 hsz n (DataW.weights_mem_each (j := 0) rfl rfl n hn); simpa using this)
  obtain ⟨rfl, rfl, rfl⟩ : a0 = A0 ∧ len0 = x0.length ∧ cap0 = c0 := by simpa [Value.cells] using e0
  clear e0
  clear hA0 hval0 hsz0 hsz
  have bw : ∀ {l : List Int}, (∀ x ∈ l, (Lit.int .u8 x).wf = true) → Pure.Byt l := fun h x hx => by
    have this := h x hx
    simp only [Lit.wf, Bool.and_eq_true, decide_eq_true_eq] at this
    have h1 : IntKind.u8.min = 0 := by decide
    have h2 : IntKind.u8.max = 255 := by decide
    omega
  obtain ⟨k, e_, m_, b_, q1, q2, q3, q4⟩ := Pure.BlockBack x0 (fun x hx => ⟨bw (f0.2 x hx).1.2, bw (f0.2 x hx).2.1.2⟩)
  refine (PBlockTells.BlockBack_calls k (fun _ => True) a0 cap0 x0 e_ m_ b_ W (Kd.V_mk l0 (Kd.F_mono (Kd.C_F PBlockTells.k34_heap C0) (fun _ _ => trivial))) q1 q2 q3 q4).mono fun e W' ⟨he, bel⟩ => ?_
  subst he
  exact ⟨_, rfl, _, _, _, [], _, [], hW', trodAll_mk1 (shut_bool Try.underlying4 _), (trodAll_cons_mk (Below.trod laidOut (by kernel_rfl) (of_decide_eq_true (by kernel_rfl)) k0 bel lt0) trodAll_mk0), rfl, bel.frame _, fun h => by cases h⟩
theorem over : Rows.blockBackRow.holds Try.pinned (OpenSpec.ofChange Rows.blockBackSpec) :=
  OpenClaim.holds_of_wide 3 Try.f3 rfl rfl rfl rfl rfl rfl rfl ⟨rfl, rfl, rfl, rfl, rfl⟩ rfl rfl rfl rfl rfl (by kernel_rfl) Try.func3 (by kernel_rfl)
    (of_decide_eq_true (by kernel_rfl)) (by unfold Func.isWrapper; first | (rw [if_pos (by decide +kernel)]; kernel_rfl) | (rw [if_neg (by decide +kernel)]; exact ⟨rfl, rfl⟩))
    (fun os started H enc _ => lifted os started H enc)
theorem proved : Rows.BlockBackSaid := over
#print axioms proved
end Go.Proofs.Ytpcomhliikmjkaa.blockBack
namespace Go.Proofs.Ytpcomhliikmjkaa
/-- The row, under a short name, for the claim. -/
theorem blockBack_holds : Rows.BlockBackSaid := blockBack.proved
end Go.Proofs.Ytpcomhliikmjkaa

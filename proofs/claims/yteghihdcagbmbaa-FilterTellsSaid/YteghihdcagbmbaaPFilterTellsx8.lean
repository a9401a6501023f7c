/- The walk of the Go functions that a law reaches, told as plain functions; a program of this session has written it. No condition beyond the statement's own. -/
import Derived.Test.YteghihdcagbmbaaPFilterTellsx0
import Derived.Test.YteghihdcagbmbaaPFilterTellsx1
import Derived.Test.YteghihdcagbmbaaPFilterTellsx2
import Derived.Test.YteghihdcagbmbaaPFilterTellsx4
import Derived.Test.YteghihdcagbmbaaPFilterTellsx6
import Derived.Test.YteghihdcagbmbaaPFilterTellsx7
namespace Go.Proofs.Yteghihdcagbmbaa.PFilterTells
open Go.RowKit Go.Proofs.YteghihdcagbmbaaW.PrintWords Go.Proofs.YteghihdcagbmbaaW.PrintLast Go.Proofs.YteghihdcagbmbaaW.PrintMore
attribute [local go_sem] max2_int min2_int max_two min_two max_three min_three max_four min_four   -- for this text's walks alone
set_option linter.unusedVariables false
set_option linter.unusedSimpArgs false

/-! ### an append whose elder slice is used again -/
set_option maxHeartbeats 8000000
set_option maxRecDepth 100000
theorem run_keeps {P : Program} (w : World) (base : Nat) (t ty e : TypeId) (i : TypeInfo) (z : Value) (size bytes : Nat) (ht : P.underlying t = some (.slice e)) (hi : P.info? e = some i) (hz : i.zero = some z)
    (hsize : i.size = size) (hby : i.bytes = bytes) (hzs : z.cells.size = size) (hsz : 0 < size)
    (v : Value) (n : Nat) (xs : List Value) (hown : w.ownsRow base e size v n xs)
    (a : Addr) (m c : Nat) (news : List Value) (hl : news.length = m * size) (hnews : ∀ j u, news[j]? = some u → w.cell? (a.add j) = some u) (h1 : ∀ u ∈ news, u.oneCell' = true)
    (h63 : n + m ≤ maxLen) (hbytes : (n + m) * bytes ≤ 140737488355328) (hm0 : 0 < m) :
    ∃ v' w', (Builtin.append_ #[t, t] ty #[v, .slice (some a) m c]).run P w = .ok v' w' ∧ w'.ownsRow base e size v n xs := by
  subst hsize
  subst hby
  have hsmall : n + m ≤ 9223372036854775807 := by simp only [maxLen] at h63; omega
  rcases hown.2 with ⟨rfl, rfl⟩ | ⟨g, cap, cur, rfl, hbg, hg, hnc, hcm, hcs, htake⟩
  · have hx : xs = [] := List.eq_nil_of_length_eq_zero (by simpa using hown.1)
    subst hx
    have hr := run_append_nil (P := P) w t ty e i z ht hi hz a m c news hl hnews (by omega) (by omega) (by have hb := hbytes; simp only [Nat.zero_add] at hb; omega)
    exact ⟨_, _, hr, World.ownsRow_nil _ base e i.size⟩
  · by_cases hroom : n + m ≤ cap
    · have hfit : n * i.size + news.length ≤ cur.size := by rw [hl, hcs, ← Nat.add_mul]; exact Nat.mul_le_mul_right _ hroom
      have hr := run_append_room (P := P) w t ty e i ht hi g n cap cur hg a m c news hl hnews h1 hroom hfit
      refine ⟨_, _, hr, hown.1, .inr ⟨g, cap, _, rfl, hbg, setRow_heap w g cur _ e _ hg, hnc, hcm, ?_, ?_⟩⟩
      · simp only [List.size_toArray, List.length_append, List.length_take, List.length_drop, Array.length_toList]
        omega
      · rw [htake, List.append_assoc, ← hown.1]
        exact List.take_left
    · have holds : ∀ j u, xs[j]? = some u → w.cell? ((⟨g, 0, none⟩ : Addr).add j) = some u := hown.cells (g := g) rfl
      have hr := run_append_grow (P := P) w t ty e i z ht hi hz ⟨g, 0, none⟩ n cap xs hown.1 holds a m c news hl hnews (by omega) (by omega) (growslice_fits (by omega) hbytes)
      refine ⟨_, _, hr, hown.1, .inr ⟨g, cap, cur, rfl, hbg, ?_, hnc, hcm, hcs, htake⟩⟩
      exact (heap_alloc_old w.drew _ (blk_lt hg)).trans hg
theorem addr0 (g i : Nat) : (⟨g, 0, none⟩ : Addr).add i = ⟨g, i, none⟩ := by
  cases i with
  | zero => rfl
  | succ i => simp [Addr.add]
theorem C_one {W : World} {g : Nat} {y : S29} {c0 c1 c2 : Value} (hb : W.heap[g]? = some (.cells #[c0, c1, c2] 29 (0, 0))) (hK : k29.K W y [c0, c1, c2]) : Kd.C k29 W (some ⟨g, 0, none⟩) 1 [y] := by
  refine ⟨rfl, by decide, fun _ => ⟨_, rfl, fun j p hj => ?_⟩⟩
  match j, hj with
  | 0, hj =>
    obtain rfl : y = p := by simpa using hj
    refine ⟨[c0, c1, c2], rfl, hK, fun i u hu => ?_⟩
    have := blk_cell hb i
    rw [show (⟨g, 0, none⟩ : Addr).add (0 * k29.sz + i) = ⟨g, i, none⟩ from by rw [Nat.zero_mul, Nat.zero_add]; exact addr0 g i]
    rw [this]
    simpa using hu
theorem N_keep {W w1 : World} {base : Nat} {ok : Nat → Prop} {v : Value} {xs : List S29} (h : Kd.N k29 29 W base ok v xs) (hg : W.grownBy w1 v.ownBlock) (hk : ∀ n cs, W.ownsRow base 29 3 v n cs → w1.ownsRow base 29 3 v n cs) : Kd.N k29 29 w1 base ok v xs := by
  obtain ⟨h0, rows, hl, ⟨hr0, inner, hown, hreps⟩, hf⟩ := h
  exact ⟨h0, rows, hl, ⟨hr0, inner, hk _ _ hown, hreps⟩, fun j x c hx hc => Kd.FK_grown (hf j x c hx hc) hg (fun _ hk => hk.2)⟩
/-- append(v, y), y laid in a block of its own before: the elder row stays known. -/
theorem append_keep_step {P : Program} {ops : Array Oper} {o : Oper} {a : Act} {Kc : Act → World → Prop} {Q : Exit → Act → World → Prop} {w0 W : World} (base : Nat) (hw : Region.wanted o (yielded ops a.tmps) = true) (s x : Operand) (t : TypeId) (z : Value) (bytes : Nat)
    (ho : o.op = .call { callee := .builtin .append, args := #[s, x], argTypes := #[t, t] })
    (ht : P.underlying t = some (.slice 29)) (hinfo : (P.info? 29).map (fun i => (i.zero, i.size, i.bytes)) = some (some z, 3, bytes)) (hz : z.cells.size = 3) (hb0 : 0 < bytes)
    (v : Value) (xs : List S29) (y : S29) (g : Nat) (c0 c1 c2 : Value) (ok okp : Nat → Prop) (hs : a.eval s = v) (hx : a.eval x = .slice (some ⟨g, 0, none⟩) 1 1)
    (HO : Kd.N k29 29 W base ok v xs) (hg : W.heap[g]? = some (.cells #[c0, c1, c2] 29 (0, 0))) (hone : ∀ u ∈ [c0, c1, c2], u.oneCell' = true) (hp : Kd.FK k29 W okp y [c0, c1, c2]) (hokp : ∀ k, (okp k ∨ k = g) → ok k ∧ some k ≠ v.ownBlock) (hfresh : ∀ k, W.heap.size ≤ k → ok k)
    (HB : Below base w0 W) (hbase : base ≤ W.heap.size) (hl : (xs.length + 1) * bytes ≤ 140737488355328)
    (h : ∀ v1 w1, Kd.N k29 29 w1 base ok v1 (xs ++ [y]) → Kd.N k29 29 w1 base ok v xs → Below base w0 w1 → W.grownBy w1 v.ownBlock → (v1.ownBlock = v.ownBlock ∨ ∃ b, v1.ownBlock = some b ∧ W.heap.size ≤ b) → Kc (a.put o.dst v1) w1) :
    if Region.wanted o (yielded ops a.tmps) = true then Oper.wp P o a W Kc Q else Kc (a.put o.dst undef) W := by
  have hF : Kd.F k29 W (fun k => okp k ∨ k = g) (some ⟨g, 0, none⟩) 1 [y] := fun W' hW => C_one ((hW g (.inr rfl) (blk_lt hg)).trans hg) (hp W' (fun k hk hlt => hW k (.inl hk) hlt))
  have h1 := Kd.N_append_rows_step (Kc := fun a1 w1 => ∃ v1, a1 = a.put o.dst v1 ∧ Kd.N k29 29 w1 base ok v1 (xs ++ [y]) ∧ Below base w0 w1 ∧ W.grownBy w1 v.ownBlock ∧ (v1.ownBlock = v.ownBlock ∨ ∃ b, v1.ownBlock = some b ∧ W.heap.size ≤ b)) (Q := Q) (P := P) k29 (w0 := w0) base hw s x t 29 z bytes ho ht hinfo hz (by decide) hb0 v xs [y] (some ⟨g, 0, none⟩) 1 1 ok _ hs hx HO hF hokp hfresh HB hbase hl (fun v1 w1 a1 a2 a3 a4 => ⟨v1, rfl, a1, a2, a3, a4⟩)
  obtain ⟨i0, hi, hzz⟩ := Option.map_eq_some_iff.1 hinfo
  simp only [Prod.mk.injEq] at hzz
  obtain ⟨hz0, hz1, hz2⟩ := hzz
  have hlen : xs.length + 1 ≤ 140737488355328 := Nat.le_trans (Nat.le_mul_of_pos_right _ hb0) hl
  have hkeep : ∀ n cs, W.ownsRow base 29 3 v n cs → n = xs.length → ∃ v' w', (Builtin.append_ #[t, t] o.type #[v, .slice (some ⟨g, 0, none⟩) 1 1]).run P W = .ok v' w' ∧ w'.ownsRow base 29 3 v n cs := by
    intro n cs hown hn
    refine run_keeps W base t o.type 29 i0 z 3 bytes ht hi hz0 hz1 hz2 hz (by decide) v n cs hown ⟨g, 0, none⟩ 1 1 [c0, c1, c2] rfl (fun j u hu => ?_) hone (by simp only [maxLen]; omega) (by rw [hn]; exact hl) (by decide)
    rw [addr0, blk_cell hg j]
    simpa using hu
  have hnl : ∀ n cs, W.ownsRow base 29 3 v n cs → n = xs.length := by
    intro n cs hown
    obtain ⟨A, c, hv, -⟩ := Kd.N_reads HO
    rcases hown.2 with ⟨hv2, hn⟩ | ⟨g', cap, cur, hv2, -⟩
    · rw [hv] at hv2
      injection hv2 with _ hv3 _
      omega
    · rw [hv] at hv2
      injection hv2 with _ hv3 _
      exact hv3.symm
  obtain ⟨h0, rows, hrl, ⟨hr0, inner, hown, hreps⟩, hf⟩ := id HO
  obtain ⟨v', w', hrun, -⟩ := hkeep _ _ hown (hnl _ _ hown)
  have hall : ∀ n cs, W.ownsRow base 29 3 v n cs → w'.ownsRow base 29 3 v n cs := by
    intro n cs ho2
    obtain ⟨v2, w2, hrun2, hk2⟩ := hkeep n cs ho2 (hnl _ _ ho2)
    rw [hrun] at hrun2
    injection hrun2 with _ hw2
    rw [hw2]
    exact hk2
  rw [if_pos hw] at h1 ⊢
  unfold Oper.wp execOp at h1 ⊢
  simp only [ho, resolve, invoke, builtin, Sem.run_bind, Sem.run_pure, Result.andThen_ok, List.map_toArray, List.map_cons, List.map_nil, hs, hx, hrun] at h1 ⊢
  obtain ⟨v1, hv1, a1, a2, a3, a4⟩ := h1
  have : Kc (a.put o.dst v1) w' := h v1 w' a1 (N_keep HO a3 hall) a2 a3 a4
  rw [← hv1] at this
  exact this

/-! ### marigraphlaw19.FilterTells: function 6, by hand -/
theorem blk8 {w : World} {g : Nat} {t : TypeId} {a b c d e f x y : Value} (h : w.heap[g]? = some (.cells #[a, b, c, d, e, f, x, y] t (0, 0))) : w.cell? ⟨g, 0, none⟩ = some a ∧ w.cell? ⟨g, 1, none⟩ = some b ∧ w.cell? ⟨g, 2, none⟩ = some c ∧ w.cell? ⟨g, 3, none⟩ = some d ∧ w.cell? ⟨g, 4, none⟩ = some e ∧ w.cell? ⟨g, 5, none⟩ = some f ∧ w.cell? ⟨g, 6, none⟩ = some x ∧ w.cell? ⟨g, 7, none⟩ = some y :=
  ⟨(blk_cell h 0).trans rfl, (blk_cell h 1).trans rfl, (blk_cell h 2).trans rfl, (blk_cell h 3).trans rfl, (blk_cell h 4).trans rfl, (blk_cell h 5).trans rfl, (blk_cell h 6).trans rfl, (blk_cell h 7).trans rfl⟩
theorem fk29 {W : World} {y : S29} {A : Option Addr} {c : Nat} {base : Nat} {ok : Nat → Prop} (h : Kd.string.R 9 W base ok (.slice A y.f2.length c) y.f2) : Kd.FK k29 W (fun k => some k = (Value.slice A y.f2.length c).ownBlock) y [.string y.f0, .int .i64 y.f1, .slice A y.f2.length c] :=
  fun W' hW => k29_mk W' y (Kd.R_reads' h).2.1 (Kd.F_now (Kd.F_step (Kd.F_mono (Kd.R_F (Kd.R_tight rfl h)) (fun _ hk => hk)) (fun k hk hlt => hW k hk hlt)))
theorem fkC {W : World} {y : S29} {A : Option Addr} {c : Nat} {w0 : World} (h : Kd.string.C w0 A y.f2.length y.f2) (hc : y.f2.length ≤ c) (hb : Below w0.heap.size w0 W) : Kd.FK k29 W (fun k => k < w0.heap.size) y [.string y.f0, .int .i64 y.f1, .slice A y.f2.length c] :=
  fun W' hW => k29_mk W' y hc (Kd.F_now (Kd.F_step (Kd.F_step (Kd.C_F Kd.heap_string h) (fun k hk hlt => hb.block k hlt)) (fun k hk hlt => hW k hk hlt)))
theorem fkne {W : World} {vs : List ByteArray} {v u : Value} {base base' : Nat} {ok ok' : Nat → Prop} {l : List S29} (h : Kd.string.R 9 W base ok v vs) (hn : Kd.N k29 29 W base' ok' u l) : ∀ k, some k = v.ownBlock → some k ≠ u.ownBlock := by
  intro k hk he
  obtain ⟨c1, h1⟩ := Kd.R_typed h k hk.symm
  obtain ⟨c2, h2⟩ := Kd.N_typed hn k he.symm
  rw [h1] at h2
  injection h2 with h2
  injection h2 with _ h3
  cases h3
/-- The blocks of the filter and the point that came in, the tags that are made, the row of filters: B: where the heap ended ahead of it. -/
structure TS (g4 B : Nat) (r0 : ByteArray) (r1 : Int) (A4 : Option Addr) (n4 c4 : Nat) (vl : Value) (ys : List S29) (At : Option Addr) (ct : Nat) (mine : List S44) (w0 w : World) : Prop where
  f : w.heap[g4]? = some (.cells #[.string r0, .int .i64 r1, .slice A4 n4 c4] 29 (0, 0))
  l : Kd.N k29 29 w B (fun _ => True) vl ys
  t : Kd.R k44 44 w w0.heap.size (fun _ => True) (.slice At mine.length ct) mine
  hb : Below w0.heap.size w0 w
  gB : g4 < B
  wB : w0.heap.size ≤ B
  sz : B ≤ w.heap.size
section
variable {g4 B : Nat} {r0 : ByteArray} {r1 : Int} {A4 : Option Addr} {n4 c4 : Nat} {vl : Value} {ys : List S29} {At : Option Addr} {ct : Nat} {mine : List S44} {w0 w w' : World}
theorem TS.below (h : TS g4 B r0 r1 A4 n4 c4 vl ys At ct mine w0 w) (hb : Below w.heap.size w w') : TS g4 B r0 r1 A4 n4 c4 vl ys At ct mine w0 w' := ⟨blk_below h.f hb, Kd.N_below h.l hb, Kd.R_below h.t hb, below_step h.hb hb, h.gB, h.wB, Nat.le_trans h.sz hb.size⟩
theorem TS.drew (h : TS g4 B r0 r1 A4 n4 c4 vl ys At ct mine w0 w) : TS g4 B r0 r1 A4 n4 c4 vl ys At ct mine w0 w.drew := ⟨blk_drew h.f, Kd.N_drew h.l, Kd.R_drew h.t, below_drew1 h.hb, h.gB, h.wB, h.sz⟩
theorem TS.c (h : TS g4 B r0 r1 A4 n4 c4 vl ys At ct mine w0 w) : w.cell? ⟨g4, 0, none⟩ = some (.string r0) ∧ w.cell? ⟨g4, 1, none⟩ = some (.int .i64 r1) ∧ w.cell? ⟨g4, 2, none⟩ = some (.slice A4 n4 c4) := ⟨(blk_cell h.f 0).trans rfl, (blk_cell h.f 1).trans rfl, (blk_cell h.f 2).trans rfl⟩
/-- Behind an append to the row of filters. -/
theorem TS.grown {v1 : Value} {ys1 : List S29} (h : TS g4 B r0 r1 A4 n4 c4 vl ys At ct mine w0 w) (hg : w.grownBy w' vl.ownBlock) (hl : Kd.N k29 29 w' B (fun _ => True) v1 ys1) (hb : Below w0.heap.size w0 w') : TS g4 B r0 r1 A4 n4 c4 v1 ys1 At ct mine w0 w' :=
  ⟨blk_grown h.f hg (fun he => by have := Kd.N_base h.l _ he.symm; have := h.gB; omega), hl, Kd.R_over' h.t (Kd.N_typed h.l) (by decide) hg, hb, h.gB, h.wB, Nat.le_trans h.sz hg.size⟩
end
/-- The N rows' laws ask 'Below B': below where the heap ended ahead of the row nothing turns. -/
theorem below_grown {w0 W w1 : World} {row : Option Nat} (h : Below w0.heap.size w0 W) (hg : W.grownBy w1 row) (hr : ∀ k, row = some k → w0.heap.size ≤ k) : Below w0.heap.size w0 w1 := h.grown hg h.size (fun k hk => hr k hk)
theorem sizeB {g4 B : Nat} {r0 : ByteArray} {r1 : Int} {A4 : Option Addr} {n4 c4 : Nat} {vl : Value} {ys : List S29} {At : Option Addr} {ct : Nat} {mine : List S44} {w0 w : World} (h : TS g4 B r0 r1 A4 n4 c4 vl ys At ct mine w0 w) : B ≤ w.heap.size := h.sz
theorem lit3_step {P : Program} {ops : Array Oper} {o : Oper} {a : Act} {Kc : Act → World → Prop} {Q : Exit → Act → World → Prop} {W : World} {c0 c1 c2 : Value} {t : TypeId} (hw : Region.wanted o (yielded ops a.tmps) = true) (hrun : (execOp a.eval o).run P W = .ok (.value (.slice (some ⟨W.heap.size, 0, none⟩) 1 1)) (W.alloc (.cells #[c0, c1, c2] t)))
    (h : ∀ g, g = W.heap.size → ∀ w1, w1.heap[g]? = some (.cells #[c0, c1, c2] t (0, 0)) → Below W.heap.size W w1 → Kc (a.put o.dst (.slice (some ⟨g, 0, none⟩) 1 1)) w1) : if Region.wanted o (yielded ops a.tmps) = true then Oper.wp P o a W Kc Q else Kc (a.put o.dst undef) W :=
  event_step hw hrun (h _ rfl _ (blk_new W _) (below_alloc (Below.refl _ _) _))
theorem oldne {g4 B : Nat} {r0 : ByteArray} {r1 : Int} {A4 : Option Addr} {n4 c4 : Nat} {vl : Value} {ys : List S29} {At : Option Addr} {ct : Nat} {mine : List S44} {w0 w : World} (h : TS g4 B r0 r1 A4 n4 c4 vl ys At ct mine w0 w) {g : Nat} (hg : some g ≠ vl.ownBlock) {k : Nat} (hk : k < w0.heap.size ∨ k = g) : some k ≠ vl.ownBlock := by
  rcases hk with hk | rfl
  · intro he
    have := Kd.N_base h.l _ he.symm
    have := h.wB
    omega
  · exact hg
theorem all_snoc {k : Nat} {ys : List S29} {y : S29} {mine : List S44} {b : Bool} {A At : Option Addr} {c ct B : Nat} {W : World} (h : filter_All.f k (ys ++ [y]) mine = some b) (hn : Kd.N k29 29 W B (fun _ => True) (.slice A (ys.length + 1) c) (ys ++ [y])) (ht : Kd.C k44 W At mine.length mine) (hct : mine.length ≤ ct) : Calls Try.prog 11 #[.slice A (ys.length + 1) c, .slice At mine.length ct] W fun e w' => e = .returned (.bool b) ∧ Below W.heap.size W w' := by
  have h2 := filter_All.calls k A c (ys ++ [y]) At ct mine b W (Kd.N_reads' hn).2.2 (by have := (Kd.N_reads' hn).2.1; simpa using this) ht hct h
  rwa [show (ys ++ [y]).length = ys.length + 1 by simp] at h2
theorem refall_snoc {k : Nat} {ys : List S29} {y : S29} {mine : List S44} {b : Bool} {A At : Option Addr} {c ct B : Nat} {W : World} (h : marigraphref19_All.f k (ys ++ [y]) mine = some b) (hn : Kd.N k29 29 W B (fun _ => True) (.slice A (ys.length + 1) c) (ys ++ [y])) (ht : Kd.C k44 W At mine.length mine) (hct : mine.length ≤ ct) : Calls Try.prog 13 #[.slice A (ys.length + 1) c, .slice At mine.length ct] W fun e w' => e = .returned (.bool b) ∧ Below W.heap.size W w' := by
  have h2 := marigraphref19_All.calls k A c (ys ++ [y]) At ct mine b W (Kd.N_reads' hn).2.2 (by have := (Kd.N_reads' hn).2.1; simpa using this) ht hct h
  rwa [show (ys ++ [y]).length = ys.length + 1 by simp] at h2
theorem filterTells_at (k : Nat) (r0 : ByteArray) (r1 : Int) (A0 : Option Addr) (c0 : Nat) (vs vs1 : List ByteArray) (AF : Option Addr) (cF : Nat) (lF : List S24) (p0 p1 p2 p3 p4 : Int) (p5 : Bool) (p6 p7 : Int) (A3 : Option Addr) (c3 : Nat) (tg tg1 : List S44) (met : ByteArray) (mine : List S44) (pt pv : Int) (ys : List S29) (b1 b2 : Bool) (w : World)
    (hr0 : Kd.string.C w A0 vs.length vs) (hc0 : vs.length ≤ c0) (hrF : Kd.C k24 w AF lF.length lF) (hcF : lF.length ≤ cF) (hr3 : Kd.C k44 w A3 tg.length tg) (hc3 : tg.length ≤ c3)
    (hvs : vs1 = vs.take 10) (htg : tg1 = tg.take 6) (hys : ys = (lF.take 6).map madeF) (hof : marigraphkeep_Of.f k p0 p1 p2 p3 p4 p5 p6 p7 = some (met, mine, pt, pv))
    (hs1 : ∀ x ∈ lF, marigraphlaw19_same.f k (madeF x).f0 (madeF x).f1 (madeF x).f2 mine = some true) (hs2 : ∀ x ∈ lF, marigraphlaw19_same.f k (madeF x).f0 (madeF x).f1 (madeF x).f2 tg1 = some true)
    (ht1 : marigraphlaw19_same.f k r0 r1 vs1 mine = some true) (ht2 : marigraphlaw19_same.f k r0 r1 vs1 tg1 = some true)
    (ha1 : filter_All.f k ys mine = some b1) (hb1 : marigraphref19_All.f k ys mine = some b1) (ha2 : filter_All.f k (ys ++ [⟨r0, r1, vs1⟩]) mine = some b2) (hb2 : marigraphref19_All.f k (ys ++ [⟨r0, r1, vs1⟩]) mine = some b2)
    (hk : marigraphlaw19_known.f k = some true) :
    Calls Try.prog 6 #[.agg #[.string r0, .int .i64 r1, .slice A0 vs.length c0], .slice AF lF.length cF, .agg #[.int .i64 p0, .int .i64 p1, .int .i64 p2, .int .i64 p3, .int .i64 p4, .bool p5, .int .i64 p6, .int .i64 p7], .slice A3 tg.length c3] w fun e w' => e = .returned (.bool true) ∧ Below w.heap.size w w' := by
  have hu24 := Try.underlying24
  have hu26 := Try.underlying26
  have hu29 := Try.underlying29
  replace hvs := Aside0.mk hvs
  replace htg := Aside0.mk htg
  replace hys := Aside0.mk hys
  replace hof := Aside0.mk hof
  replace hs1 := Aside0.mk hs1
  replace hs2 := Aside0.mk hs2
  replace ht1 := Aside0.mk ht1
  replace ht2 := Aside0.mk ht2
  replace ha1 := Aside0.mk ha1
  replace ha2 := Aside0.mk ha2
  replace hb1 := Aside0.mk hb1
  replace hb2 := Aside0.mk hb2
  replace hk := Aside0.mk hk
  have hfd : ∀ (s : ByteArray) (A : Option Addr) (n c : Nat) (x y : Int) (w : World), (Instr.field 33 (.agg #[.string s, .slice A n c, .int .i64 x, .int .i64 y]) 1).run Try.prog w = .ok (.slice A n c) w := fun _ _ _ _ _ _ _ => by kernel_rfl
  obtain ⟨i9, hi9, _, hsz9, _⟩ := info_parts info9
  obtain ⟨i44, hi44, _, hsz44, _⟩ := info_parts info44
  replace hsz9 := Aside0.mk hsz9
  replace hsz44 := Aside0.mk hsz44
  go_enter Try.func6, Try.ntmps6
  go_upto_if 16 with (first
    | ((with_reducible refine gate_dst (N := 4) rfl ?_); refine box_event ?hgX (N := 4) ?hdX (cs := #[.string r0, .int .i64 r1, .slice A0 vs.length c0]) (t := 29) ?hrX ?_; (case hdX => rfl); (case hgX => rfl); (case hrX => first | (go_simp; done) | (go_simp; rfl)); intro g4 hg w1 y0 hb1; have g40 : w.heap.size ≤ g4 := Nat.le_of_eq hg.symm; clear hg)
    | ((with_reducible refine gate_dst (N := 6) rfl ?_); refine box_event ?hgP (N := 6) ?hdP (cs := #[.int .i64 p0, .int .i64 p1, .int .i64 p2, .int .i64 p3, .int .i64 p4, .bool p5, .int .i64 p6, .int .i64 p7]) (t := 26) ?hrP ?_; (case hdP => rfl); (case hgP => rfl); (case hrP => first | (go_simp; done) | (go_simp; rfl)); intro g6 hg w2 y1 hb2; have n46 : g4 ≠ g6 := blk_ne1 hg y0; replace y0 := blk_below y0 hb2; have HB := below_step hb1 hb2; clear hb1 hb2 hg; obtain ⟨d0, d1, d2, f0, f1, f2⟩ := blk3 y0))
  go_cut [] (fun wc => ∃ (A4 : Option Addr) (c4 : Nat), Aside0 (wc.heap[g4]? = some (.cells #[.string r0, .int .i64 r1, .slice A4 vs1.length c4] 29 (0, 0))) ∧ Aside0 (Kd.string.C w A4 vs1.length vs1) ∧ Aside0 (vs1.length ≤ c4) ∧ Aside0 (wc.heap[g6]? = some (.cells #[.int .i64 p0, .int .i64 p1, .int .i64 p2, .int .i64 p3, .int .i64 p4, .bool p5, .int .i64 p6, .int .i64 p7] 26 (0, 0))) ∧ Aside0 (Below w.heap.size w wc))
  case first =>
    by_cases h10 : 10 < vs.length
    · have hd1 : decide ((10 : Int) < (vs.length : Int)) = true := decide_eq_true (by omega)
      have hd2 : decide (10 < vs.length) = true := decide_eq_true h10
      have hcut := cut_to (P := Try.prog) 27 9 .i64 Try.underlying27 hi9 A0 vs.length c0 10 (by omega) (by omega) hc0
      have hC := Kd.C_take (m := 10) hr0 (by omega)
      have hl10 : (vs.take 10).length = 10 := by rw [List.length_take]; omega
      rw [hl10] at hC
      replace hl10 := Aside0.mk hl10
      go_wp2
      go_meet
      case rel => exact ⟨A0, c0, ⟨by rw [hvs.out, hl10.out]; exact blk_put y0 2 _ rfl⟩, ⟨by rw [hvs.out, hl10.out]; exact hC⟩, ⟨by rw [hvs.out, hl10.out]; omega⟩, ⟨blk_far (p := ⟨g4, 2, none⟩) y1 n46.symm _⟩, ⟨below_set HB g40⟩⟩
    · have hd1 : decide ((10 : Int) < (vs.length : Int)) = false := decide_eq_false (by omega)
      have hd2 : decide (10 < vs.length) = false := decide_eq_false h10
      have hv : vs1 = vs := by rw [hvs.out, List.take_of_length_le (by omega)]
      replace hv := Aside0.mk hv
      go_wp2
      go_meet
      case rel => exact ⟨A0, c0, ⟨by rw [hv.out]; exact y0⟩, ⟨by rw [hv.out]; exact hr0⟩, ⟨by rw [hv.out]; exact hc0⟩, ⟨y1⟩, ⟨HB⟩⟩
  case rest =>
    clear y0 y1 HB n46
    obtain ⟨A4, c4, y0, hC4, hc4, y1, HB⟩ := hcut
    replace y0 := y0.out
    replace y1 := y1.out
    replace HB := HB.out
    clear d0 d1 d2 f0 f1 f2
    go_upto_if 23 with (fail)
    go_cut [3] (fun v3 wc => ∃ (A5 : Option Addr) (c5 : Nat), v3 = .slice A5 tg1.length c5 ∧ Aside0 (Kd.C k44 w A5 tg1.length tg1) ∧ Aside0 (tg1.length ≤ c5) ∧ Aside0 (wc.heap[g4]? = some (.cells #[.string r0, .int .i64 r1, .slice A4 vs1.length c4] 29 (0, 0))) ∧ Aside0 (wc.heap[g6]? = some (.cells #[.int .i64 p0, .int .i64 p1, .int .i64 p2, .int .i64 p3, .int .i64 p4, .bool p5, .int .i64 p6, .int .i64 p7] 26 (0, 0))) ∧ Aside0 (Below w.heap.size w wc))
    case first =>
      by_cases h6 : 6 < tg.length
      · have hd1 : decide ((6 : Int) < (tg.length : Int)) = true := decide_eq_true (by omega)
        have hd2 : decide (6 < tg.length) = true := decide_eq_true h6
        have hcut := cut_to (P := Try.prog) 31 44 .i64 Try.underlying31 hi44 A3 tg.length c3 6 (by omega) (by omega) hc3
        have hC := Kd.C_take (m := 6) hr3 (by omega)
        have hl6 : (tg.take 6).length = 6 := by rw [List.length_take]; omega
        rw [hl6] at hC
        replace hl6 := Aside0.mk hl6
        go_wp2
        go_meet
        case rel => exact ⟨A3, c3, by rw [htg.out, hl6.out], ⟨by rw [htg.out, hl6.out]; exact hC⟩, ⟨by rw [htg.out, hl6.out]; omega⟩, ⟨y0⟩, ⟨y1⟩, ⟨HB⟩⟩
      · have hd1 : decide ((6 : Int) < (tg.length : Int)) = false := decide_eq_false (by omega)
        have hd2 : decide (6 < tg.length) = false := decide_eq_false h6
        have hv : tg1 = tg := by rw [htg.out, List.take_of_length_le (by omega)]
        replace hv := Aside0.mk hv
        go_wp2
        go_meet
        case rel => exact ⟨A3, c3, by rw [hv.out], ⟨by rw [hv.out]; exact hr3⟩, ⟨by rw [hv.out]; exact hc3⟩, ⟨y0⟩, ⟨y1⟩, ⟨HB⟩⟩
    case rest =>
      clear y0 y1 HB
      obtain ⟨A5, c5, rfl, hC5, hc5, y0, y1, HB⟩ := hcut
      replace y0 := y0.out
      replace y1 := y1.out
      replace HB := HB.out
      obtain ⟨u0, u1, u2, u3, u4, u5, u6, u7⟩ := blk8 y1
      go_wp2_with (go_at_call 8; (with_reducible refine (marigraphkeep_Of.calls k p0 p1 p2 p3 p4 p5 p6 p7 met mine pt pv _ hof.out).mono ?_); rintro e w3 ⟨vt, rfl, hT, hb3⟩; obtain ⟨At, ct, rfl⟩ := Kd.R_slice hT; have hTS : TS g4 w3.heap.size r0 r1 A4 vs1.length c4 (.slice none 0 0) [] At ct mine w w3 := ⟨blk_below y0 hb3, Kd.N_nil _ _ _ _ _, Kd.R_lower hT (below_size HB), below_step HB hb3, Nat.lt_of_lt_of_le (blk_lt y0) (below_size hb3), below_size (below_step HB hb3), Nat.le_refl _⟩; have hct := (Kd.R_reads' hT).2.1; clear hT hb3 y0 y1 HB u0 u1 u2 u3 u4 u5 u6 u7)
      clear hfd
      generalize w3.heap.size = B at hTS
      go_loopg [10, 11] 7 (fun kq v10 v11 w' => ∃ j : Nat, v11 = .int .i64 (j : Int) ∧ Aside0 (6 - j < kq ∧ j ≤ 6 ∧ j ≤ lF.length) ∧ Aside0 (TS g4 B r0 r1 A4 vs1.length c4 v10 ((lF.take j).map madeF) At ct mine w w'))
      case atStart => exact ⟨0, rfl, ⟨by omega⟩, ⟨hTS⟩⟩
      case round =>
        clear hTS
        obtain ⟨j, rfl, hj, hA⟩ := hrel
        replace hj := hj.out
        replace hA := hA.out
        obtain ⟨yj, hyj⟩ : ∃ l, l = (lF.take j).map madeF := ⟨_, rfl⟩
        have hyl : yj.length = j := by rw [hyj, List.length_map, List.length_take]; omega
        rw [← hyj] at hA
        obtain ⟨Al, cl, rfl⟩ := Kd.N_slice hA.l
        replace hyj := Aside0.mk hyj
        replace hyl := Aside0.mk hyl
        rcases (by omega : (¬ j < lF.length) ∨ (j < lF.length ∧ ¬ j < 6) ∨ (j < lF.length ∧ j < 6)) with hn | ⟨hn, h6⟩ | ⟨hn, h6⟩
        rotate_right
        · have hd1 : decide ((j : Int) < (lF.length : Int)) = true := decide_eq_true (by omega)
          have hd3 : decide (j < lF.length) = true := decide_eq_true hn
          have hd5 : decide ((j : Int) < 6) = true := decide_eq_true (by omega)
          have hd6 : decide (j < 6) = true := decide_eq_true h6
          obtain ⟨ad, A2, c2, rfl, hx0, hx1, hx2, hc2, hC2⟩ := at_T24 (Kd.C_below hrF hA.hb) (j : Int) (Int.natCast_nonneg j) (by omega)
          have hrd : rd_T24 lF (j : Int) = lF[j] := by
            unfold rd_T24
            rw [Int.toNat_natCast, List.getD_eq_getElem?_getD, List.getElem?_eq_getElem hn]
            rfl
          rw [hrd] at hx0 hx1 hx2 hc2 hC2
          rw [Int.toNat_natCast] at hx0 hx1 hx2
          have hmx1 := hs1.out _ (List.getElem_mem hn)
          have hmx2 := hs2.out _ (List.getElem_mem hn)
          have hys1 : (lF.take (j + 1)).map madeF = yj ++ [madeF lF[j]] := by rw [List.take_succ_eq_append_getElem hn, List.map_append, ← hyj.out]; rfl
          clear hrd
          have hmd : marigraphlaw19_made.f lF[j].f0 lF[j].f1 lF[j].f2 = some ((madeF lF[j]).f0, (madeF lF[j]).f1, (madeF lF[j]).f2) := rfl
          generalize lF[j] = x at hx0 hx1 hx2 hc2 hC2 hmx1 hmx2 hys1 hmd
          generalize madeF x = y at hmx1 hmx2 hys1 hmd
          replace hys1 := Aside0.mk hys1
          replace hmx1 := Aside0.mk hmx1
          replace hmx2 := Aside0.mk hmx2
          replace hmd := Aside0.mk hmd
          go_upto_region 11 with (first
            | (go_at_call 7; (with_reducible refine (marigraphlaw19_made.calls x.f0 x.f1 A2 c2 x.f2 y.f0 y.f1 y.f2 _ hC2 hc2 hmd.out).mono ?_); rintro e w4 ⟨v, rfl, hR, hb4⟩; obtain ⟨Av, cv, rfl⟩ := Kd.R_slice hR; replace hA := hA.below hb4; clear hb4 hx0 hx1 hx2)
            | ((with_reducible refine gate_dst (N := 12) rfl ?_); refine box_event ?hgXK (N := 12) ?hdXK (cs := #[.string ⟨#[]⟩, .int .i64 0, .slice none 0 0]) (t := 29) ?hrXK ?_; (case hdXK => rfl); (case hgXK => rfl); (case hrXK => first | (go_simp; done) | (go_simp; rfl)); intro gX hg w5 hbox hb5; have hle := Nat.le_of_eq hg.symm; have nXl : some gX ≠ (Value.slice Al yj.length cl).ownBlock := (fun he => by have := Kd.N_lt hA.l _ he.symm; omega); have hbX := below_set (j := 2) (v := .slice Av y.f2.length cv) (below_set (j := 1) (v := .int .i64 y.f1) (below_set (j := 0) (v := .string y.f0) hb5 hle) hle) hle; replace hA := hA.below hbX; replace hR := Kd.R_below hR hbX; have hX := blk_put3 hbox (.string y.f0) (.int .i64 y.f1) (.slice Av y.f2.length cv); clear hg hb5 hle hbX; obtain ⟨zc0, zc1, zc2, zf0, zf1, zf2⟩ := blk3 hbox; clear hbox))
          generalize (((w5.setCell ⟨gX, 0, none⟩ (.string y.f0)).setCell ⟨gX, 1, none⟩ (.int .i64 y.f1)).setCell ⟨gX, 2, none⟩ (.slice Av y.f2.length cv)) = w6 at hA hR hX ⊢
          clear zc0 zc1 zc2 zf0 zf1 zf2
          obtain ⟨zc0, zc1, zc2, -, -, -⟩ := blk3 hX
          go_wp2_with (first
            | (go_at_call 12; (with_reducible refine (marigraphlaw19_same.calls k y.f0 y.f1 Av cv y.f2 At ct mine true _ (Kd.R_reads' hR).2.2 (Kd.R_reads' hR).2.1 (Kd.R_reads' hA.t).2.2 hct hmx1.out).mono ?_); rintro e w7 ⟨rfl, hb7⟩; replace hA := hA.below hb7; replace hR := Kd.R_below hR hb7; replace hX := blk_below hX hb7; clear hb7 zc0 zc1 zc2; obtain ⟨zc0, zc1, zc2, -, -, -⟩ := blk3 hX)
            | (go_at_call 12; (with_reducible refine (marigraphlaw19_same.calls k y.f0 y.f1 Av cv y.f2 A5 c5 tg1 true _ (Kd.R_reads' hR).2.2 (Kd.R_reads' hR).2.1 (Kd.C_below hC5.out hA.hb) hc5.out hmx2.out).mono ?_); rintro e w8 ⟨rfl, hb8⟩; replace hA := hA.below hb8; replace hR := Kd.R_below hR hb8; replace hX := blk_below hX hb8; clear hb8 zc0 zc1 zc2; obtain ⟨zc0, zc1, zc2, -, -, -⟩ := blk3 hX)
            | ((with_reducible refine gate_builtin (b := .append) (xs := #[.tmp 54, .tmp 56]) rfl ?_); at_builtin; refine Kd.N_append k29 (w0 := _) B rfl (.tmp 54) (.tmp 56) 39 29 (.agg #[(.string ⟨#[]⟩), (.int .i64 0), (.slice none 0 0)]) 48 rfl Try.underlying39 info29 rfl (by decide) (by omega) (.slice Al yj.length cl) yj y [.string y.f0, .int .i64 y.f1, .slice Av y.f2.length cv] (fun _ => True) (fun k => some k = (Value.slice Av y.f2.length cv).ownBlock) rfl rfl (fk29 hR) (fun k hk => ⟨trivial, fkne hR hA.l k hk⟩) (fun _ _ => trivial) hA.l (Below.refl _ _) (sizeB hA) (by rw [hyl.out]; omega) ?_; intro v1 w9 hn9 hb9 hg9 hat9; rw [← hys1.out] at hn9; replace hA := hA.grown hg9 hn9 (below_grown hA.hb hg9 (fun k hk => Nat.le_trans hA.wB (Kd.N_base hA.l k hk))); clear hn9 hb9 hg9 hat9 hX hR zc0 zc1 zc2))
          go_roundg (6 - j)
          case measure => exact hj.1
          case rel => exact ⟨j + 1, (by first | rfl | exact congrArg (Value.int .i64) (by omega)), ⟨by omega, by omega, by omega⟩, ⟨hA⟩⟩
        · have hd1 : decide ((j : Int) < (lF.length : Int)) = false := decide_eq_false (by omega)
          have hd3 : decide (j < lF.length) = false := decide_eq_false hn
          have htk : yj = ys := by rw [hyj.out, hys.out, List.take_of_length_le (by omega), List.take_of_length_le (by omega)]
          subst htk
          go_wp2
          clear hd1 hd3
          have e1 : (b1 == b1) = true := by simp
          have e2 : (b2 == b2) = true := by simp
          refine start_ (n := 36) (S := fun w' => TS g4 B r0 r1 A4 vs1.length c4 (.slice Al yj.length cl) yj At ct mine w w') (ds := []) (bA 36 0) (by kernel_rfl) rfl rfl hA.drew (fun hS => ?_)
          clear hA
          generalize wr.drew = wd at hS ⊢
          refine norm_ (by rfl) ?_
          refine tK 0 (some 58) (bA 36 1) rfl rfl hS (by rintro w' hS'; obtain ⟨q0, q1, q2⟩ := hS'.c; go_simp; with_reducible rfl) ?_
          refine pK 1 (some 59) (bA 36 3) ?_
          refine one_ (i := 2) (N := some 60) (bA 36 7) rfl rfl (by kernel_rfl) (by decide) (fun K hK => ?_)
          refine goes_ Try.func12 (by kernel_rfl) rfl #[.agg #[.string r0, .int .i64 r1, .slice A4 vs1.length c4], .slice At mine.length ct] (by rfl) rfl rfl (by simp only [List.map_toArray, List.map_cons, List.map_nil]; rfl) ?_
          refine ((marigraphlaw19_same.calls k r0 r1 A4 c4 vs1 At ct mine true _ (Kd.C_below hC4.out hS.hb) hc4.out (Kd.R_reads' hS.t).2.2 hct ht1.out)).mono ?_
          rintro e wq2 ⟨rfl, hbq⟩
          refine ⟨_, rfl, ?_⟩
          refine hK.out _ _ (hS.below hbq) (fun hS => ?_)
          clear hK K hbq
          refine nK (some 60) ?_
          refine pK 3 (some 61) (bA 36 15) ?_
          refine tK 4 (some 62) (bA 36 31) rfl rfl hS (by rintro w' hS'; obtain ⟨q0, q1, q2⟩ := hS'.c; go_simp; with_reducible rfl) ?_
          refine pK 5 (some 63) (bA 36 63) ?_
          refine one_ (i := 6) (N := some 64) (bA 36 127) rfl rfl (by kernel_rfl) (by decide) (fun K hK => ?_)
          refine goes_ Try.func12 (by kernel_rfl) rfl #[.agg #[.string r0, .int .i64 r1, .slice A4 vs1.length c4], .slice A5 tg1.length c5] (by rfl) rfl rfl (by simp only [List.map_toArray, List.map_cons, List.map_nil]; rfl) ?_
          refine ((marigraphlaw19_same.calls k r0 r1 A4 c4 vs1 A5 c5 tg1 true _ (Kd.C_below hC4.out hS.hb) hc4.out (Kd.C_below hC5.out hS.hb) hc5.out ht2.out)).mono ?_
          rintro e wq6 ⟨rfl, hbq⟩
          refine ⟨_, rfl, ?_⟩
          refine hK.out _ _ (hS.below hbq) (fun hS => ?_)
          clear hK K hbq
          refine nK (some 64) ?_
          refine pK 7 (some 65) (bA 36 255) ?_
          refine pK 8 (some 66) (bA 36 511) ?_
          refine pK 9 (some 67) (bA 36 1023) ?_
          refine pK 10 (some 68) (bA 36 2047) ?_
          refine pK 12 (some 70) (bA 36 6143) ?_
          refine pK 13 (some 71) (bA 36 14335) ?_
          refine one_ (i := 11) (N := some 69) (bA 36 16383) rfl rfl (by kernel_rfl) (by decide) (fun K hK => ?_)
          refine goes_ Try.func11 (by kernel_rfl) rfl #[.slice Al yj.length cl, .slice At mine.length ct] (by rfl) rfl rfl (by simp only [List.map_toArray, List.map_cons, List.map_nil]; rfl) ?_
          refine ((filter_All.calls k _ cl yj At ct mine b1 _ (Kd.N_reads' hS.l).2.2 (Kd.N_reads' hS.l).2.1 (Kd.R_reads' hS.t).2.2 hct ha1.out)).mono ?_
          rintro e wq11 ⟨rfl, hbq⟩
          refine ⟨_, rfl, ?_⟩
          refine hK.out _ _ (hS.below hbq) (fun hS => ?_)
          clear hK K hbq
          refine nK (some 69) ?_
          refine one_ (i := 14) (N := some 72) (bA 36 32767) rfl rfl (by kernel_rfl) (by decide) (fun K hK => ?_)
          refine goes_ Try.func13 (by kernel_rfl) rfl #[.slice Al yj.length cl, .slice At mine.length ct] (by rfl) rfl rfl (by simp only [List.map_toArray, List.map_cons, List.map_nil]; rfl) ?_
          refine ((marigraphref19_All.calls k _ cl yj At ct mine b1 _ (Kd.N_reads' hS.l).2.2 (Kd.N_reads' hS.l).2.1 (Kd.R_reads' hS.t).2.2 hct hb1.out)).mono ?_
          rintro e wq14 ⟨rfl, hbq⟩
          refine ⟨_, rfl, ?_⟩
          refine hK.out _ _ (hS.below hbq) (fun hS => ?_)
          clear hK K hbq
          refine nK (some 72) ?_
          refine pK 15 (some 73) (bA 36 65535) ?_
          refine pK 16 (some 74) (bA 36 131071) ?_
          refine pK 17 (some 75) (bA 36 262143) ?_
          refine pK 18 (some 76) (bA 36 524287) ?_
          refine tK 19 (some 77) (bA 36 1048575) rfl rfl hS (by rintro w' hS'; obtain ⟨q0, q1, q2⟩ := hS'.c; go_simp; with_reducible rfl) ?_
          refine pK 22 (some 80) (bA 36 5242879) ?_
          refine pK 24 (some 82) (bA 36 22020095) ?_
          refine tK 25 (some 83) (bA 36 55574527) rfl rfl hS (by rintro w' hS'; obtain ⟨q0, q1, q2⟩ := hS'.c; go_simp; with_reducible rfl) ?_
          refine pK 28 (some 86) (bA 36 324009983) ?_
          refine join_ (σ := Option Addr × Nat × Nat × Nat) 8 (bA 36 402653183) (fun s_ => [(78, .slice (some ⟨s_.2.2.1, 0, none⟩) 1 1), (79, .slice s_.1 (yj.length + 1) s_.2.1), (81, .bool b2), (84, .slice (some ⟨s_.2.2.2, 0, none⟩) 1 1)]) (fun s_ w' => TS g4 B r0 r1 A4 vs1.length c4 (.slice Al yj.length cl) yj At ct mine w w' ∧ w'.heap[s_.2.2.2]? = some (.cells #[.string r0, .int .i64 r1, .slice A4 vs1.length c4] 29 (0, 0)) ∧ some s_.2.2.2 ≠ (Value.slice Al yj.length cl).ownBlock) ?_ ?_
          rotate_left
          · intro hJ
            refine two_ (i := 20) (j := 26) (Ni := some 78) (Nj := some 84) (bA 36 325058559) (bA 36 391118847) rfl rfl rfl rfl (by kernel_rfl) (by decide) (by decide) (fun K hK => ?_) (fun K hK => ?_)
            · refine lit3_step (c0 := .string r0) (c1 := .int .i64 r1) (c2 := .slice A4 vs1.length c4) (t := 29) (by rfl) (by first | (go_simp; done) | (go_simp; rfl)) ?_
              intro gA hg wq1 bA hbq
              have nA : some gA ≠ (Value.slice Al yj.length cl).ownBlock := fun he => by have := Kd.N_lt hS.l _ he.symm; omega
              clear hg
              have bA_ := bA
              clear bA
              refine hK.out _ _ (hS.below hbq) (fun hS => ?_)
              clear hK K hbq
              refine nK (some 78) ?_
              refine two_ (i := 21) (j := 26) (Ni := some 79) (Nj := some 84) (bA 36 327155711) (bA 36 392167423) rfl rfl rfl rfl (by kernel_rfl) (by decide) (by decide) (fun K hK => ?_) (fun K hK => ?_)
              · refine append_keep_step (w0 := _) (P := Try.prog) B (by rfl) (.tmp 76) (.tmp 78) 39 (.agg #[(.string ⟨#[]⟩), (.int .i64 0), (.slice none 0 0)]) 48 rfl Try.underlying39 info29 rfl (by omega) (.slice Al yj.length cl) yj (⟨r0, r1, vs1⟩ : S29) gA (.string r0) (.int .i64 r1) (.slice A4 vs1.length c4) (fun _ => True) (fun k => k < w.heap.size) rfl rfl hS.l bA_ (by intro u hu; simp only [List.mem_cons, List.not_mem_nil, or_false] at hu; rcases hu with rfl | rfl | rfl <;> rfl) (fkC (y := (⟨r0, r1, vs1⟩ : S29)) hC4.out hc4.out hS.hb) (fun k hk => ⟨trivial, oldne hS nA hk⟩) (fun _ _ => trivial) (Below.refl _ _) (sizeB hS) (by rw [hyl.out]; omega) ?_
                intro v1 wq21 hn1 hnl hb1_ hg1 hat1
                obtain ⟨A1, c1, rfl⟩ := Kd.N_slice hn1
                replace hS := hS.grown hg1 hnl (below_grown hS.hb hg1 (fun k hk => Nat.le_trans hS.wB (Kd.N_base hS.l k hk)))
                rw [show (yj ++ [(⟨r0, r1, vs1⟩ : S29)]).length = yj.length + 1 by simp] at hn1 ⊢
                refine hK.out _ _ hS (fun hS => ?_)
                clear hK K hnl hb1_ hg1 hat1 bA_
                refine nK (some 79) ?_
                refine two_ (i := 23) (j := 26) (Ni := some 81) (Nj := some 84) (bA 36 335544319) (bA 36 394264575) rfl rfl rfl rfl (by kernel_rfl) (by decide) (by decide) (fun K hK => ?_) (fun K hK => ?_)
                · refine goes_ Try.func11 (by kernel_rfl) rfl #[.slice A1 (yj.length + 1) c1, .slice At mine.length ct] (by rfl) rfl rfl (by simp only [List.map_toArray, List.map_cons, List.map_nil]; rfl) ?_
                  refine (all_snoc ha2.out hn1 (Kd.R_reads' hS.t).2.2 hct).mono ?_
                  rintro e wq23 ⟨rfl, hbq⟩
                  refine ⟨_, rfl, ?_⟩
                  clear hn1
                  refine hK.out _ _ (hS.below hbq) (fun hS => ?_)
                  clear hK K hbq
                  refine nK (some 81) ?_
                  refine one_ (i := 26) (N := some 84) (bA 36 402653183) rfl rfl (by kernel_rfl) (by decide) (fun K hK => ?_)
                  refine lit3_step (c0 := .string r0) (c1 := .int .i64 r1) (c2 := .slice A4 vs1.length c4) (t := 29) (by rfl) (by first | (go_simp; done) | (go_simp; rfl)) ?_
                  intro gB hg wq2 bB hbq
                  have nB : some gB ≠ (Value.slice Al yj.length cl).ownBlock := fun he => by have := Kd.N_lt hS.l _ he.symm; omega
                  clear hg
                  refine hK.out _ _ (hS.below hbq) (fun hS => ?_)
                  clear hK K hbq
                  refine nK (some 84) ?_
                  exact norm_ (by first | (simp only [putAll, Act.put, List.setIfInBounds_toArray, List.set_cons_zero, List.set_cons_succ]; done) | (simp only [putAll, Act.put, List.setIfInBounds_toArray, List.set_cons_zero, List.set_cons_succ]; rfl)) (hJ (A1, c1, gA, gB) _ ⟨hS, bB, nB⟩)
                · refine lit3_step (c0 := .string r0) (c1 := .int .i64 r1) (c2 := .slice A4 vs1.length c4) (t := 29) (by rfl) (by first | (go_simp; done) | (go_simp; rfl)) ?_
                  intro gB hg wq3 bB hbq
                  have nB : some gB ≠ (Value.slice Al yj.length cl).ownBlock := fun he => by have := Kd.N_lt hS.l _ he.symm; omega
                  clear hg
                  replace hn1 := Kd.N_below hn1 hbq
                  refine hK.out _ _ (hS.below hbq) (fun hS => ?_)
                  clear hK K hbq
                  refine nK (some 84) ?_
                  refine one_ (i := 23) (N := some 81) (bA 36 402653183) rfl rfl (by kernel_rfl) (by decide) (fun K hK => ?_)
                  refine goes_ Try.func11 (by kernel_rfl) rfl #[.slice A1 (yj.length + 1) c1, .slice At mine.length ct] (by rfl) rfl rfl (by simp only [List.map_toArray, List.map_cons, List.map_nil]; rfl) ?_
                  refine (all_snoc ha2.out hn1 (Kd.R_reads' hS.t).2.2 hct).mono ?_
                  rintro e wq23 ⟨rfl, hbq⟩
                  refine ⟨_, rfl, ?_⟩
                  replace bB := blk_below bB hbq
                  clear hn1
                  refine hK.out _ _ (hS.below hbq) (fun hS => ?_)
                  clear hK K hbq
                  refine nK (some 81) ?_
                  exact norm_ (by first | (simp only [putAll, Act.put, List.setIfInBounds_toArray, List.set_cons_zero, List.set_cons_succ]; done) | (simp only [putAll, Act.put, List.setIfInBounds_toArray, List.set_cons_zero, List.set_cons_succ]; rfl)) (hJ (A1, c1, gA, gB) _ ⟨hS, bB, nB⟩)
              · refine lit3_step (c0 := .string r0) (c1 := .int .i64 r1) (c2 := .slice A4 vs1.length c4) (t := 29) (by rfl) (by first | (go_simp; done) | (go_simp; rfl)) ?_
                intro gB hg wq4 bB hbq
                have nB : some gB ≠ (Value.slice Al yj.length cl).ownBlock := fun he => by have := Kd.N_lt hS.l _ he.symm; omega
                clear hg
                replace bA_ := blk_below bA_ hbq
                refine hK.out _ _ (hS.below hbq) (fun hS => ?_)
                clear hK K hbq
                refine nK (some 84) ?_
                refine one_ (i := 21) (N := some 79) (bA 36 394264575) rfl rfl (by kernel_rfl) (by decide) (fun K hK => ?_)
                refine append_keep_step (w0 := _) (P := Try.prog) B (by rfl) (.tmp 76) (.tmp 78) 39 (.agg #[(.string ⟨#[]⟩), (.int .i64 0), (.slice none 0 0)]) 48 rfl Try.underlying39 info29 rfl (by omega) (.slice Al yj.length cl) yj (⟨r0, r1, vs1⟩ : S29) gA (.string r0) (.int .i64 r1) (.slice A4 vs1.length c4) (fun _ => True) (fun k => k < w.heap.size) rfl rfl hS.l bA_ (by intro u hu; simp only [List.mem_cons, List.not_mem_nil, or_false] at hu; rcases hu with rfl | rfl | rfl <;> rfl) (fkC (y := (⟨r0, r1, vs1⟩ : S29)) hC4.out hc4.out hS.hb) (fun k hk => ⟨trivial, oldne hS nA hk⟩) (fun _ _ => trivial) (Below.refl _ _) (sizeB hS) (by rw [hyl.out]; omega) ?_
                intro v1 wq21 hn1 hnl hb1_ hg1 hat1
                obtain ⟨A1, c1, rfl⟩ := Kd.N_slice hn1
                replace hS := hS.grown hg1 hnl (below_grown hS.hb hg1 (fun k hk => Nat.le_trans hS.wB (Kd.N_base hS.l k hk)))
                replace bB := blk_grown bB hg1 nB
                rw [show (yj ++ [(⟨r0, r1, vs1⟩ : S29)]).length = yj.length + 1 by simp] at hn1 ⊢
                refine hK.out _ _ hS (fun hS => ?_)
                clear hK K hnl hb1_ hg1 hat1 bA_
                refine nK (some 79) ?_
                refine one_ (i := 23) (N := some 81) (bA 36 402653183) rfl rfl (by kernel_rfl) (by decide) (fun K hK => ?_)
                refine goes_ Try.func11 (by kernel_rfl) rfl #[.slice A1 (yj.length + 1) c1, .slice At mine.length ct] (by rfl) rfl rfl (by simp only [List.map_toArray, List.map_cons, List.map_nil]; rfl) ?_
                refine (all_snoc ha2.out hn1 (Kd.R_reads' hS.t).2.2 hct).mono ?_
                rintro e wq23 ⟨rfl, hbq⟩
                refine ⟨_, rfl, ?_⟩
                replace bB := blk_below bB hbq
                clear hn1
                refine hK.out _ _ (hS.below hbq) (fun hS => ?_)
                clear hK K hbq
                refine nK (some 81) ?_
                exact norm_ (by first | (simp only [putAll, Act.put, List.setIfInBounds_toArray, List.set_cons_zero, List.set_cons_succ]; done) | (simp only [putAll, Act.put, List.setIfInBounds_toArray, List.set_cons_zero, List.set_cons_succ]; rfl)) (hJ (A1, c1, gA, gB) _ ⟨hS, bB, nB⟩)
            · refine lit3_step (c0 := .string r0) (c1 := .int .i64 r1) (c2 := .slice A4 vs1.length c4) (t := 29) (by rfl) (by first | (go_simp; done) | (go_simp; rfl)) ?_
              intro gB hg wq5 bB hbq
              have nB : some gB ≠ (Value.slice Al yj.length cl).ownBlock := fun he => by have := Kd.N_lt hS.l _ he.symm; omega
              clear hg
              refine hK.out _ _ (hS.below hbq) (fun hS => ?_)
              clear hK K hbq
              refine nK (some 84) ?_
              refine one_ (i := 20) (N := some 78) (bA 36 392167423) rfl rfl (by kernel_rfl) (by decide) (fun K hK => ?_)
              refine lit3_step (c0 := .string r0) (c1 := .int .i64 r1) (c2 := .slice A4 vs1.length c4) (t := 29) (by rfl) (by first | (go_simp; done) | (go_simp; rfl)) ?_
              intro gA hg wq6 bA hbq
              have nA : some gA ≠ (Value.slice Al yj.length cl).ownBlock := fun he => by have := Kd.N_lt hS.l _ he.symm; omega
              clear hg
              replace bB := blk_below bB hbq
              have bA_ := bA
              clear bA
              refine hK.out _ _ (hS.below hbq) (fun hS => ?_)
              clear hK K hbq
              refine nK (some 78) ?_
              refine one_ (i := 21) (N := some 79) (bA 36 394264575) rfl rfl (by kernel_rfl) (by decide) (fun K hK => ?_)
              refine append_keep_step (w0 := _) (P := Try.prog) B (by rfl) (.tmp 76) (.tmp 78) 39 (.agg #[(.string ⟨#[]⟩), (.int .i64 0), (.slice none 0 0)]) 48 rfl Try.underlying39 info29 rfl (by omega) (.slice Al yj.length cl) yj (⟨r0, r1, vs1⟩ : S29) gA (.string r0) (.int .i64 r1) (.slice A4 vs1.length c4) (fun _ => True) (fun k => k < w.heap.size) rfl rfl hS.l bA_ (by intro u hu; simp only [List.mem_cons, List.not_mem_nil, or_false] at hu; rcases hu with rfl | rfl | rfl <;> rfl) (fkC (y := (⟨r0, r1, vs1⟩ : S29)) hC4.out hc4.out hS.hb) (fun k hk => ⟨trivial, oldne hS nA hk⟩) (fun _ _ => trivial) (Below.refl _ _) (sizeB hS) (by rw [hyl.out]; omega) ?_
              intro v1 wq21 hn1 hnl hb1_ hg1 hat1
              obtain ⟨A1, c1, rfl⟩ := Kd.N_slice hn1
              replace hS := hS.grown hg1 hnl (below_grown hS.hb hg1 (fun k hk => Nat.le_trans hS.wB (Kd.N_base hS.l k hk)))
              replace bB := blk_grown bB hg1 nB
              rw [show (yj ++ [(⟨r0, r1, vs1⟩ : S29)]).length = yj.length + 1 by simp] at hn1 ⊢
              refine hK.out _ _ hS (fun hS => ?_)
              clear hK K hnl hb1_ hg1 hat1 bA_
              refine nK (some 79) ?_
              refine one_ (i := 23) (N := some 81) (bA 36 402653183) rfl rfl (by kernel_rfl) (by decide) (fun K hK => ?_)
              refine goes_ Try.func11 (by kernel_rfl) rfl #[.slice A1 (yj.length + 1) c1, .slice At mine.length ct] (by rfl) rfl rfl (by simp only [List.map_toArray, List.map_cons, List.map_nil]; rfl) ?_
              refine (all_snoc ha2.out hn1 (Kd.R_reads' hS.t).2.2 hct).mono ?_
              rintro e wq23 ⟨rfl, hbq⟩
              refine ⟨_, rfl, ?_⟩
              replace bB := blk_below bB hbq
              clear hn1
              refine hK.out _ _ (hS.below hbq) (fun hS => ?_)
              clear hK K hbq
              refine nK (some 81) ?_
              exact norm_ (by first | (simp only [putAll, Act.put, List.setIfInBounds_toArray, List.set_cons_zero, List.set_cons_succ]; done) | (simp only [putAll, Act.put, List.setIfInBounds_toArray, List.set_cons_zero, List.set_cons_succ]; rfl)) (hJ (A1, c1, gA, gB) _ ⟨hS, bB, nB⟩)
          · rintro ⟨A1, c1, gA, gB⟩ wj ⟨hS, bB, nB⟩
            replace hS : TS g4 B r0 r1 A4 vs1.length c4 (.slice Al yj.length cl) yj At ct mine w wj := hS
            replace bB : wj.heap[gB]? = some (.cells #[.string r0, .int .i64 r1, .slice A4 vs1.length c4] 29 (0, 0)) := bB
            replace nB : some gB ≠ (Value.slice Al yj.length cl).ownBlock := nB
            refine norm_ (by first | (simp only [putAll, Act.put, List.setIfInBounds_toArray, List.set_cons_zero, List.set_cons_succ]; done) | (simp only [putAll, Act.put, List.setIfInBounds_toArray, List.set_cons_zero, List.set_cons_succ]; rfl)) ?_
            refine one_ (i := 27) (N := some 85) (bA 36 536870911) rfl rfl (by kernel_rfl) (by decide) (fun K hK => ?_)
            refine append_keep_step (w0 := _) (P := Try.prog) B (by rfl) (.tmp 82) (.tmp 84) 39 (.agg #[(.string ⟨#[]⟩), (.int .i64 0), (.slice none 0 0)]) 48 rfl Try.underlying39 info29 rfl (by omega) (.slice Al yj.length cl) yj (⟨r0, r1, vs1⟩ : S29) gB (.string r0) (.int .i64 r1) (.slice A4 vs1.length c4) (fun _ => True) (fun k => k < w.heap.size) rfl rfl hS.l bB (by intro u hu; simp only [List.mem_cons, List.not_mem_nil, or_false] at hu; rcases hu with rfl | rfl | rfl <;> rfl) (fkC (y := (⟨r0, r1, vs1⟩ : S29)) hC4.out hc4.out hS.hb) (fun k hk => ⟨trivial, oldne hS nB hk⟩) (fun _ _ => trivial) (Below.refl _ _) (sizeB hS) (by rw [hyl.out]; omega) ?_
            intro v2 wq27 hn2 hnl hb1_ hg1 hat1
            obtain ⟨A7, c7, rfl⟩ := Kd.N_slice hn2
            replace hS := hS.grown hg1 hnl (below_grown hS.hb hg1 (fun k hk => Nat.le_trans hS.wB (Kd.N_base hS.l k hk)))
            rw [show (yj ++ [(⟨r0, r1, vs1⟩ : S29)]).length = yj.length + 1 by simp] at hn2 ⊢
            refine hK.out _ _ hS (fun hS => ?_)
            clear hK K hnl hb1_ hg1 hat1 bB
            refine nK (some 85) ?_
            refine one_ (i := 29) (N := some 87) (bA 36 1073741823) rfl rfl (by kernel_rfl) (by decide) (fun K hK => ?_)
            refine goes_ Try.func13 (by kernel_rfl) rfl #[.slice A7 (yj.length + 1) c7, .slice At mine.length ct] (by rfl) rfl rfl (by simp only [List.map_toArray, List.map_cons, List.map_nil]; rfl) ?_
            refine (refall_snoc hb2.out hn2 (Kd.R_reads' hS.t).2.2 hct).mono ?_
            rintro e wq29 ⟨rfl, hbq⟩
            refine ⟨_, rfl, ?_⟩
            clear hn2
            refine hK.out _ _ (hS.below hbq) (fun hS => ?_)
            clear hK K hbq
            refine nK (some 87) ?_
            refine pK 30 (some 88) (bA 36 2147483647) ?_
            refine pK 31 (some 89) (bA 36 4294967295) ?_
            refine pK 32 (some 90) (bA 36 8589934591) ?_
            refine one_ (i := 33) (N := some 91) (bA 36 17179869183) rfl rfl (by kernel_rfl) (by decide) (fun K hK => ?_)
            refine goes_ Try.func10 (by kernel_rfl) rfl #[] (by rfl) rfl rfl argN ?_
            refine (marigraphlaw19_known.calls k true _ hk.out).mono ?_
            rintro e wq33 ⟨rfl, hbq⟩
            refine ⟨_, rfl, ?_⟩
            refine hK.out _ _ (hS.below hbq) (fun hS => ?_)
            clear hK K hbq
            refine nK (some 91) ?_
            refine pK 34 (some 92) (bA 36 34359738367) ?_
            refine pK 35 (some 8) (bA 36 68719476735) ?_
            refine done_ (by kernel_rfl) ?_
            go_wp2
            go_ret
            exact ⟨rfl, hS.hb⟩
        · have hd1 : decide ((j : Int) < (lF.length : Int)) = true := decide_eq_true (by omega)
          have hd3 : decide (j < lF.length) = true := decide_eq_true hn
          have hd5 : decide ((j : Int) < 6) = false := decide_eq_false (by omega)
          have hd6 : decide (j < 6) = false := decide_eq_false h6
          have htk : yj = ys := by rw [hyj.out, hys.out, show j = 6 by omega]
          subst htk
          go_wp2
          clear hd1 hd3 hd5 hd6
          have e1 : (b1 == b1) = true := by simp
          have e2 : (b2 == b2) = true := by simp
          refine start_ (n := 36) (S := fun w' => TS g4 B r0 r1 A4 vs1.length c4 (.slice Al yj.length cl) yj At ct mine w w') (ds := []) (bA 36 0) (by kernel_rfl) rfl rfl hA.drew (fun hS => ?_)
          clear hA
          generalize wr.drew = wd at hS ⊢
          refine norm_ (by rfl) ?_
          refine tK 0 (some 58) (bA 36 1) rfl rfl hS (by rintro w' hS'; obtain ⟨q0, q1, q2⟩ := hS'.c; go_simp; with_reducible rfl) ?_
          refine pK 1 (some 59) (bA 36 3) ?_
          refine one_ (i := 2) (N := some 60) (bA 36 7) rfl rfl (by kernel_rfl) (by decide) (fun K hK => ?_)
          refine goes_ Try.func12 (by kernel_rfl) rfl #[.agg #[.string r0, .int .i64 r1, .slice A4 vs1.length c4], .slice At mine.length ct] (by rfl) rfl rfl (by simp only [List.map_toArray, List.map_cons, List.map_nil]; rfl) ?_
          refine ((marigraphlaw19_same.calls k r0 r1 A4 c4 vs1 At ct mine true _ (Kd.C_below hC4.out hS.hb) hc4.out (Kd.R_reads' hS.t).2.2 hct ht1.out)).mono ?_
          rintro e wq2 ⟨rfl, hbq⟩
          refine ⟨_, rfl, ?_⟩
          refine hK.out _ _ (hS.below hbq) (fun hS => ?_)
          clear hK K hbq
          refine nK (some 60) ?_
          refine pK 3 (some 61) (bA 36 15) ?_
          refine tK 4 (some 62) (bA 36 31) rfl rfl hS (by rintro w' hS'; obtain ⟨q0, q1, q2⟩ := hS'.c; go_simp; with_reducible rfl) ?_
          refine pK 5 (some 63) (bA 36 63) ?_
          refine one_ (i := 6) (N := some 64) (bA 36 127) rfl rfl (by kernel_rfl) (by decide) (fun K hK => ?_)
          refine goes_ Try.func12 (by kernel_rfl) rfl #[.agg #[.string r0, .int .i64 r1, .slice A4 vs1.length c4], .slice A5 tg1.length c5] (by rfl) rfl rfl (by simp only [List.map_toArray, List.map_cons, List.map_nil]; rfl) ?_
          refine ((marigraphlaw19_same.calls k r0 r1 A4 c4 vs1 A5 c5 tg1 true _ (Kd.C_below hC4.out hS.hb) hc4.out (Kd.C_below hC5.out hS.hb) hc5.out ht2.out)).mono ?_
          rintro e wq6 ⟨rfl, hbq⟩
          refine ⟨_, rfl, ?_⟩
          refine hK.out _ _ (hS.below hbq) (fun hS => ?_)
          clear hK K hbq
          refine nK (some 64) ?_
          refine pK 7 (some 65) (bA 36 255) ?_
          refine pK 8 (some 66) (bA 36 511) ?_
          refine pK 9 (some 67) (bA 36 1023) ?_
          refine pK 10 (some 68) (bA 36 2047) ?_
          refine pK 12 (some 70) (bA 36 6143) ?_
          refine pK 13 (some 71) (bA 36 14335) ?_
          refine one_ (i := 11) (N := some 69) (bA 36 16383) rfl rfl (by kernel_rfl) (by decide) (fun K hK => ?_)
          refine goes_ Try.func11 (by kernel_rfl) rfl #[.slice Al yj.length cl, .slice At mine.length ct] (by rfl) rfl rfl (by simp only [List.map_toArray, List.map_cons, List.map_nil]; rfl) ?_
          refine ((filter_All.calls k _ cl yj At ct mine b1 _ (Kd.N_reads' hS.l).2.2 (Kd.N_reads' hS.l).2.1 (Kd.R_reads' hS.t).2.2 hct ha1.out)).mono ?_
          rintro e wq11 ⟨rfl, hbq⟩
          refine ⟨_, rfl, ?_⟩
          refine hK.out _ _ (hS.below hbq) (fun hS => ?_)
          clear hK K hbq
          refine nK (some 69) ?_
          refine one_ (i := 14) (N := some 72) (bA 36 32767) rfl rfl (by kernel_rfl) (by decide) (fun K hK => ?_)
          refine goes_ Try.func13 (by kernel_rfl) rfl #[.slice Al yj.length cl, .slice At mine.length ct] (by rfl) rfl rfl (by simp only [List.map_toArray, List.map_cons, List.map_nil]; rfl) ?_
          refine ((marigraphref19_All.calls k _ cl yj At ct mine b1 _ (Kd.N_reads' hS.l).2.2 (Kd.N_reads' hS.l).2.1 (Kd.R_reads' hS.t).2.2 hct hb1.out)).mono ?_
          rintro e wq14 ⟨rfl, hbq⟩
          refine ⟨_, rfl, ?_⟩
          refine hK.out _ _ (hS.below hbq) (fun hS => ?_)
          clear hK K hbq
          refine nK (some 72) ?_
          refine pK 15 (some 73) (bA 36 65535) ?_
          refine pK 16 (some 74) (bA 36 131071) ?_
          refine pK 17 (some 75) (bA 36 262143) ?_
          refine pK 18 (some 76) (bA 36 524287) ?_
          refine tK 19 (some 77) (bA 36 1048575) rfl rfl hS (by rintro w' hS'; obtain ⟨q0, q1, q2⟩ := hS'.c; go_simp; with_reducible rfl) ?_
          refine pK 22 (some 80) (bA 36 5242879) ?_
          refine pK 24 (some 82) (bA 36 22020095) ?_
          refine tK 25 (some 83) (bA 36 55574527) rfl rfl hS (by rintro w' hS'; obtain ⟨q0, q1, q2⟩ := hS'.c; go_simp; with_reducible rfl) ?_
          refine pK 28 (some 86) (bA 36 324009983) ?_
          refine join_ (σ := Option Addr × Nat × Nat × Nat) 8 (bA 36 402653183) (fun s_ => [(78, .slice (some ⟨s_.2.2.1, 0, none⟩) 1 1), (79, .slice s_.1 (yj.length + 1) s_.2.1), (81, .bool b2), (84, .slice (some ⟨s_.2.2.2, 0, none⟩) 1 1)]) (fun s_ w' => TS g4 B r0 r1 A4 vs1.length c4 (.slice Al yj.length cl) yj At ct mine w w' ∧ w'.heap[s_.2.2.2]? = some (.cells #[.string r0, .int .i64 r1, .slice A4 vs1.length c4] 29 (0, 0)) ∧ some s_.2.2.2 ≠ (Value.slice Al yj.length cl).ownBlock) ?_ ?_
          rotate_left
          · intro hJ
            refine two_ (i := 20) (j := 26) (Ni := some 78) (Nj := some 84) (bA 36 325058559) (bA 36 391118847) rfl rfl rfl rfl (by kernel_rfl) (by decide) (by decide) (fun K hK => ?_) (fun K hK => ?_)
            · refine lit3_step (c0 := .string r0) (c1 := .int .i64 r1) (c2 := .slice A4 vs1.length c4) (t := 29) (by rfl) (by first | (go_simp; done) | (go_simp; rfl)) ?_
              intro gA hg wq1 bA hbq
              have nA : some gA ≠ (Value.slice Al yj.length cl).ownBlock := fun he => by have := Kd.N_lt hS.l _ he.symm; omega
              clear hg
              have bA_ := bA
              clear bA
              refine hK.out _ _ (hS.below hbq) (fun hS => ?_)
              clear hK K hbq
              refine nK (some 78) ?_
              refine two_ (i := 21) (j := 26) (Ni := some 79) (Nj := some 84) (bA 36 327155711) (bA 36 392167423) rfl rfl rfl rfl (by kernel_rfl) (by decide) (by decide) (fun K hK => ?_) (fun K hK => ?_)
              · refine append_keep_step (w0 := _) (P := Try.prog) B (by rfl) (.tmp 76) (.tmp 78) 39 (.agg #[(.string ⟨#[]⟩), (.int .i64 0), (.slice none 0 0)]) 48 rfl Try.underlying39 info29 rfl (by omega) (.slice Al yj.length cl) yj (⟨r0, r1, vs1⟩ : S29) gA (.string r0) (.int .i64 r1) (.slice A4 vs1.length c4) (fun _ => True) (fun k => k < w.heap.size) rfl rfl hS.l bA_ (by intro u hu; simp only [List.mem_cons, List.not_mem_nil, or_false] at hu; rcases hu with rfl | rfl | rfl <;> rfl) (fkC (y := (⟨r0, r1, vs1⟩ : S29)) hC4.out hc4.out hS.hb) (fun k hk => ⟨trivial, oldne hS nA hk⟩) (fun _ _ => trivial) (Below.refl _ _) (sizeB hS) (by rw [hyl.out]; omega) ?_
                intro v1 wq21 hn1 hnl hb1_ hg1 hat1
                obtain ⟨A1, c1, rfl⟩ := Kd.N_slice hn1
                replace hS := hS.grown hg1 hnl (below_grown hS.hb hg1 (fun k hk => Nat.le_trans hS.wB (Kd.N_base hS.l k hk)))
                rw [show (yj ++ [(⟨r0, r1, vs1⟩ : S29)]).length = yj.length + 1 by simp] at hn1 ⊢
                refine hK.out _ _ hS (fun hS => ?_)
                clear hK K hnl hb1_ hg1 hat1 bA_
                refine nK (some 79) ?_
                refine two_ (i := 23) (j := 26) (Ni := some 81) (Nj := some 84) (bA 36 335544319) (bA 36 394264575) rfl rfl rfl rfl (by kernel_rfl) (by decide) (by decide) (fun K hK => ?_) (fun K hK => ?_)
                · refine goes_ Try.func11 (by kernel_rfl) rfl #[.slice A1 (yj.length + 1) c1, .slice At mine.length ct] (by rfl) rfl rfl (by simp only [List.map_toArray, List.map_cons, List.map_nil]; rfl) ?_
                  refine (all_snoc ha2.out hn1 (Kd.R_reads' hS.t).2.2 hct).mono ?_
                  rintro e wq23 ⟨rfl, hbq⟩
                  refine ⟨_, rfl, ?_⟩
                  clear hn1
                  refine hK.out _ _ (hS.below hbq) (fun hS => ?_)
                  clear hK K hbq
                  refine nK (some 81) ?_
                  refine one_ (i := 26) (N := some 84) (bA 36 402653183) rfl rfl (by kernel_rfl) (by decide) (fun K hK => ?_)
                  refine lit3_step (c0 := .string r0) (c1 := .int .i64 r1) (c2 := .slice A4 vs1.length c4) (t := 29) (by rfl) (by first | (go_simp; done) | (go_simp; rfl)) ?_
                  intro gB hg wq2 bB hbq
                  have nB : some gB ≠ (Value.slice Al yj.length cl).ownBlock := fun he => by have := Kd.N_lt hS.l _ he.symm; omega
                  clear hg
                  refine hK.out _ _ (hS.below hbq) (fun hS => ?_)
                  clear hK K hbq
                  refine nK (some 84) ?_
                  exact norm_ (by first | (simp only [putAll, Act.put, List.setIfInBounds_toArray, List.set_cons_zero, List.set_cons_succ]; done) | (simp only [putAll, Act.put, List.setIfInBounds_toArray, List.set_cons_zero, List.set_cons_succ]; rfl)) (hJ (A1, c1, gA, gB) _ ⟨hS, bB, nB⟩)
                · refine lit3_step (c0 := .string r0) (c1 := .int .i64 r1) (c2 := .slice A4 vs1.length c4) (t := 29) (by rfl) (by first | (go_simp; done) | (go_simp; rfl)) ?_
                  intro gB hg wq3 bB hbq
                  have nB : some gB ≠ (Value.slice Al yj.length cl).ownBlock := fun he => by have := Kd.N_lt hS.l _ he.symm; omega
                  clear hg
                  replace hn1 := Kd.N_below hn1 hbq
                  refine hK.out _ _ (hS.below hbq) (fun hS => ?_)
                  clear hK K hbq
                  refine nK (some 84) ?_
                  refine one_ (i := 23) (N := some 81) (bA 36 402653183) rfl rfl (by kernel_rfl) (by decide) (fun K hK => ?_)
                  refine goes_ Try.func11 (by kernel_rfl) rfl #[.slice A1 (yj.length + 1) c1, .slice At mine.length ct] (by rfl) rfl rfl (by simp only [List.map_toArray, List.map_cons, List.map_nil]; rfl) ?_
                  refine (all_snoc ha2.out hn1 (Kd.R_reads' hS.t).2.2 hct).mono ?_
                  rintro e wq23 ⟨rfl, hbq⟩
                  refine ⟨_, rfl, ?_⟩
                  replace bB := blk_below bB hbq
                  clear hn1
                  refine hK.out _ _ (hS.below hbq) (fun hS => ?_)
                  clear hK K hbq
                  refine nK (some 81) ?_
                  exact norm_ (by first | (simp only [putAll, Act.put, List.setIfInBounds_toArray, List.set_cons_zero, List.set_cons_succ]; done) | (simp only [putAll, Act.put, List.setIfInBounds_toArray, List.set_cons_zero, List.set_cons_succ]; rfl)) (hJ (A1, c1, gA, gB) _ ⟨hS, bB, nB⟩)
              · refine lit3_step (c0 := .string r0) (c1 := .int .i64 r1) (c2 := .slice A4 vs1.length c4) (t := 29) (by rfl) (by first | (go_simp; done) | (go_simp; rfl)) ?_
                intro gB hg wq4 bB hbq
                have nB : some gB ≠ (Value.slice Al yj.length cl).ownBlock := fun he => by have := Kd.N_lt hS.l _ he.symm; omega
                clear hg
                replace bA_ := blk_below bA_ hbq
                refine hK.out _ _ (hS.below hbq) (fun hS => ?_)
                clear hK K hbq
                refine nK (some 84) ?_
                refine one_ (i := 21) (N := some 79) (bA 36 394264575) rfl rfl (by kernel_rfl) (by decide) (fun K hK => ?_)
                refine append_keep_step (w0 := _) (P := Try.prog) B (by rfl) (.tmp 76) (.tmp 78) 39 (.agg #[(.string ⟨#[]⟩), (.int .i64 0), (.slice none 0 0)]) 48 rfl Try.underlying39 info29 rfl (by omega) (.slice Al yj.length cl) yj (⟨r0, r1, vs1⟩ : S29) gA (.string r0) (.int .i64 r1) (.slice A4 vs1.length c4) (fun _ => True) (fun k => k < w.heap.size) rfl rfl hS.l bA_ (by intro u hu; simp only [List.mem_cons, List.not_mem_nil, or_false] at hu; rcases hu with rfl | rfl | rfl <;> rfl) (fkC (y := (⟨r0, r1, vs1⟩ : S29)) hC4.out hc4.out hS.hb) (fun k hk => ⟨trivial, oldne hS nA hk⟩) (fun _ _ => trivial) (Below.refl _ _) (sizeB hS) (by rw [hyl.out]; omega) ?_
                intro v1 wq21 hn1 hnl hb1_ hg1 hat1
                obtain ⟨A1, c1, rfl⟩ := Kd.N_slice hn1
                replace hS := hS.grown hg1 hnl (below_grown hS.hb hg1 (fun k hk => Nat.le_trans hS.wB (Kd.N_base hS.l k hk)))
                replace bB := blk_grown bB hg1 nB
                rw [show (yj ++ [(⟨r0, r1, vs1⟩ : S29)]).length = yj.length + 1 by simp] at hn1 ⊢
                refine hK.out _ _ hS (fun hS => ?_)
                clear hK K hnl hb1_ hg1 hat1 bA_
                refine nK (some 79) ?_
                refine one_ (i := 23) (N := some 81) (bA 36 402653183) rfl rfl (by kernel_rfl) (by decide) (fun K hK => ?_)
                refine goes_ Try.func11 (by kernel_rfl) rfl #[.slice A1 (yj.length + 1) c1, .slice At mine.length ct] (by rfl) rfl rfl (by simp only [List.map_toArray, List.map_cons, List.map_nil]; rfl) ?_
                refine (all_snoc ha2.out hn1 (Kd.R_reads' hS.t).2.2 hct).mono ?_
                rintro e wq23 ⟨rfl, hbq⟩
                refine ⟨_, rfl, ?_⟩
                replace bB := blk_below bB hbq
                clear hn1
                refine hK.out _ _ (hS.below hbq) (fun hS => ?_)
                clear hK K hbq
                refine nK (some 81) ?_
                exact norm_ (by first | (simp only [putAll, Act.put, List.setIfInBounds_toArray, List.set_cons_zero, List.set_cons_succ]; done) | (simp only [putAll, Act.put, List.setIfInBounds_toArray, List.set_cons_zero, List.set_cons_succ]; rfl)) (hJ (A1, c1, gA, gB) _ ⟨hS, bB, nB⟩)
            · refine lit3_step (c0 := .string r0) (c1 := .int .i64 r1) (c2 := .slice A4 vs1.length c4) (t := 29) (by rfl) (by first | (go_simp; done) | (go_simp; rfl)) ?_
              intro gB hg wq5 bB hbq
              have nB : some gB ≠ (Value.slice Al yj.length cl).ownBlock := fun he => by have := Kd.N_lt hS.l _ he.symm; omega
              clear hg
              refine hK.out _ _ (hS.below hbq) (fun hS => ?_)
              clear hK K hbq
              refine nK (some 84) ?_
              refine one_ (i := 20) (N := some 78) (bA 36 392167423) rfl rfl (by kernel_rfl) (by decide) (fun K hK => ?_)
              refine lit3_step (c0 := .string r0) (c1 := .int .i64 r1) (c2 := .slice A4 vs1.length c4) (t := 29) (by rfl) (by first | (go_simp; done) | (go_simp; rfl)) ?_
              intro gA hg wq6 bA hbq
              have nA : some gA ≠ (Value.slice Al yj.length cl).ownBlock := fun he => by have := Kd.N_lt hS.l _ he.symm; omega
              clear hg
              replace bB := blk_below bB hbq
              have bA_ := bA
              clear bA
              refine hK.out _ _ (hS.below hbq) (fun hS => ?_)
              clear hK K hbq
              refine nK (some 78) ?_
              refine one_ (i := 21) (N := some 79) (bA 36 394264575) rfl rfl (by kernel_rfl) (by decide) (fun K hK => ?_)
              refine append_keep_step (w0 := _) (P := Try.prog) B (by rfl) (.tmp 76) (.tmp 78) 39 (.agg #[(.string ⟨#[]⟩), (.int .i64 0), (.slice none 0 0)]) 48 rfl Try.underlying39 info29 rfl (by omega) (.slice Al yj.length cl) yj (⟨r0, r1, vs1⟩ : S29) gA (.string r0) (.int .i64 r1) (.slice A4 vs1.length c4) (fun _ => True) (fun k => k < w.heap.size) rfl rfl hS.l bA_ (by intro u hu; simp only [List.mem_cons, List.not_mem_nil, or_false] at hu; rcases hu with rfl | rfl | rfl <;> rfl) (fkC (y := (⟨r0, r1, vs1⟩ : S29)) hC4.out hc4.out hS.hb) (fun k hk => ⟨trivial, oldne hS nA hk⟩) (fun _ _ => trivial) (Below.refl _ _) (sizeB hS) (by rw [hyl.out]; omega) ?_
              intro v1 wq21 hn1 hnl hb1_ hg1 hat1
              obtain ⟨A1, c1, rfl⟩ := Kd.N_slice hn1
              replace hS := hS.grown hg1 hnl (below_grown hS.hb hg1 (fun k hk => Nat.le_trans hS.wB (Kd.N_base hS.l k hk)))
              replace bB := blk_grown bB hg1 nB
              rw [show (yj ++ [(⟨r0, r1, vs1⟩ : S29)]).length = yj.length + 1 by simp] at hn1 ⊢
              refine hK.out _ _ hS (fun hS => ?_)
              clear hK K hnl hb1_ hg1 hat1 bA_
              refine nK (some 79) ?_
              refine one_ (i := 23) (N := some 81) (bA 36 402653183) rfl rfl (by kernel_rfl) (by decide) (fun K hK => ?_)
              refine goes_ Try.func11 (by kernel_rfl) rfl #[.slice A1 (yj.length + 1) c1, .slice At mine.length ct] (by rfl) rfl rfl (by simp only [List.map_toArray, List.map_cons, List.map_nil]; rfl) ?_
              refine (all_snoc ha2.out hn1 (Kd.R_reads' hS.t).2.2 hct).mono ?_
              rintro e wq23 ⟨rfl, hbq⟩
              refine ⟨_, rfl, ?_⟩
              replace bB := blk_below bB hbq
              clear hn1
              refine hK.out _ _ (hS.below hbq) (fun hS => ?_)
              clear hK K hbq
              refine nK (some 81) ?_
              exact norm_ (by first | (simp only [putAll, Act.put, List.setIfInBounds_toArray, List.set_cons_zero, List.set_cons_succ]; done) | (simp only [putAll, Act.put, List.setIfInBounds_toArray, List.set_cons_zero, List.set_cons_succ]; rfl)) (hJ (A1, c1, gA, gB) _ ⟨hS, bB, nB⟩)
          · rintro ⟨A1, c1, gA, gB⟩ wj ⟨hS, bB, nB⟩
            replace hS : TS g4 B r0 r1 A4 vs1.length c4 (.slice Al yj.length cl) yj At ct mine w wj := hS
            replace bB : wj.heap[gB]? = some (.cells #[.string r0, .int .i64 r1, .slice A4 vs1.length c4] 29 (0, 0)) := bB
            replace nB : some gB ≠ (Value.slice Al yj.length cl).ownBlock := nB
            refine norm_ (by first | (simp only [putAll, Act.put, List.setIfInBounds_toArray, List.set_cons_zero, List.set_cons_succ]; done) | (simp only [putAll, Act.put, List.setIfInBounds_toArray, List.set_cons_zero, List.set_cons_succ]; rfl)) ?_
            refine one_ (i := 27) (N := some 85) (bA 36 536870911) rfl rfl (by kernel_rfl) (by decide) (fun K hK => ?_)
            refine append_keep_step (w0 := _) (P := Try.prog) B (by rfl) (.tmp 82) (.tmp 84) 39 (.agg #[(.string ⟨#[]⟩), (.int .i64 0), (.slice none 0 0)]) 48 rfl Try.underlying39 info29 rfl (by omega) (.slice Al yj.length cl) yj (⟨r0, r1, vs1⟩ : S29) gB (.string r0) (.int .i64 r1) (.slice A4 vs1.length c4) (fun _ => True) (fun k => k < w.heap.size) rfl rfl hS.l bB (by intro u hu; simp only [List.mem_cons, List.not_mem_nil, or_false] at hu; rcases hu with rfl | rfl | rfl <;> rfl) (fkC (y := (⟨r0, r1, vs1⟩ : S29)) hC4.out hc4.out hS.hb) (fun k hk => ⟨trivial, oldne hS nB hk⟩) (fun _ _ => trivial) (Below.refl _ _) (sizeB hS) (by rw [hyl.out]; omega) ?_
            intro v2 wq27 hn2 hnl hb1_ hg1 hat1
            obtain ⟨A7, c7, rfl⟩ := Kd.N_slice hn2
            replace hS := hS.grown hg1 hnl (below_grown hS.hb hg1 (fun k hk => Nat.le_trans hS.wB (Kd.N_base hS.l k hk)))
            rw [show (yj ++ [(⟨r0, r1, vs1⟩ : S29)]).length = yj.length + 1 by simp] at hn2 ⊢
            refine hK.out _ _ hS (fun hS => ?_)
            clear hK K hnl hb1_ hg1 hat1 bB
            refine nK (some 85) ?_
            refine one_ (i := 29) (N := some 87) (bA 36 1073741823) rfl rfl (by kernel_rfl) (by decide) (fun K hK => ?_)
            refine goes_ Try.func13 (by kernel_rfl) rfl #[.slice A7 (yj.length + 1) c7, .slice At mine.length ct] (by rfl) rfl rfl (by simp only [List.map_toArray, List.map_cons, List.map_nil]; rfl) ?_
            refine (refall_snoc hb2.out hn2 (Kd.R_reads' hS.t).2.2 hct).mono ?_
            rintro e wq29 ⟨rfl, hbq⟩
            refine ⟨_, rfl, ?_⟩
            clear hn2
            refine hK.out _ _ (hS.below hbq) (fun hS => ?_)
            clear hK K hbq
            refine nK (some 87) ?_
            refine pK 30 (some 88) (bA 36 2147483647) ?_
            refine pK 31 (some 89) (bA 36 4294967295) ?_
            refine pK 32 (some 90) (bA 36 8589934591) ?_
            refine one_ (i := 33) (N := some 91) (bA 36 17179869183) rfl rfl (by kernel_rfl) (by decide) (fun K hK => ?_)
            refine goes_ Try.func10 (by kernel_rfl) rfl #[] (by rfl) rfl rfl argN ?_
            refine (marigraphlaw19_known.calls k true _ hk.out).mono ?_
            rintro e wq33 ⟨rfl, hbq⟩
            refine ⟨_, rfl, ?_⟩
            refine hK.out _ _ (hS.below hbq) (fun hS => ?_)
            clear hK K hbq
            refine nK (some 91) ?_
            refine pK 34 (some 92) (bA 36 34359738367) ?_
            refine pK 35 (some 8) (bA 36 68719476735) ?_
            refine done_ (by kernel_rfl) ?_
            go_wp2
            go_ret
            exact ⟨rfl, hS.hb⟩
end Go.Proofs.Yteghihdcagbmbaa.PFilterTells

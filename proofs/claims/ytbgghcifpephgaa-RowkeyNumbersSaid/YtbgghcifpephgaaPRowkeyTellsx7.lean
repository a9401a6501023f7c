/- The walk of the Go functions that a law reaches, told as plain functions; a program of this session has written it. No condition beyond the statement's own. -/
import Derived.Test.YtbgghcifpephgaaPRowkeyTellsx0
import Derived.Test.YtbgghcifpephgaaPRowkeyTellsx2
import Derived.Test.YtbgghcifpephgaaPRowkeyTellsx3
import Derived.Test.YtbgghcifpephgaaPRowkeyTellsx6
namespace Go.Proofs.Ytbgghcifpephgaa.PRowkeyTells
open Go.RowKit Go.Proofs.YtbgghcifpephgaaW.PrintWords Go.Proofs.YtbgghcifpephgaaW.PrintLast Go.Proofs.YtbgghcifpephgaaW.PrintMore
attribute [local go_sem] max2_int min2_int max_two min_two max_three min_three max_four min_four   -- for this text's walks alone
set_option linter.unusedVariables false
set_option linter.unusedSimpArgs false

/-! ### rowkey_read: function 27, by hand (a reader, tags, a deferred recover) -/
/-! ### rowkey.read, by hand: a reader (number) and a loop, with a way out that gives none -/
/-- What the reader has left, in a world that keeps what came in. -/
structure Rd (w0 w : World) (g : Nat) (q : List Int) : Prop where
  at_ : ∃ A c, w.heap[g]? = some (.cells #[.slice A q.length c] 60 (0, 0)) ∧ Kd.C (Kd.int .u8) w0 A q.length q ∧ q.length ≤ c
  below : Below w0.heap.size w0 w
  own : w0.heap.size ≤ g
theorem Rd.alloc {w0 w : World} {g : Nat} {q : List Int} (h : Rd w0 w g q) (o : Obj) : Rd w0 (w.alloc o) g q := by
  obtain ⟨⟨A, c, hb, hC, hc⟩, HB, hg⟩ := h
  exact ⟨⟨A, c, blk_alloc hb o, hC, hc⟩, below_alloc HB o, hg⟩
theorem Rd.drew {w0 w : World} {g : Nat} {q : List Int} (h : Rd w0 w g q) : Rd w0 w.drew g q := by
  obtain ⟨⟨A, c, hb, hC, hc⟩, HB, hg⟩ := h
  exact ⟨⟨A, c, blk_drew hb, hC, hc⟩, below_drew1 HB, hg⟩
theorem Rd.drewN {w0 w : World} {g : Nat} {q : List Int} (h : Rd w0 w g q) (n : Nat) : Rd w0 (w.drewN n) g q := by
  obtain ⟨⟨A, c, hb, hC, hc⟩, HB, hg⟩ := h
  exact ⟨⟨A, c, blk_drewN hb n, hC, hc⟩, pw_below_drewN HB n, hg⟩
theorem Rd.far {w0 w : World} {g g' j : Nat} {q : List Int} (h : Rd w0 w g q) (hne : g ≠ g') (hg' : w0.heap.size ≤ g') (v : Value) : Rd w0 (w.setCell ⟨g', j, none⟩ v) g q := by
  obtain ⟨⟨A, c, hb, hC, hc⟩, HB, hg⟩ := h
  exact ⟨⟨A, c, blk_far (p := ⟨g', j, none⟩) hb hne v, hC, hc⟩, below_set HB hg', hg⟩
theorem Rd.grown {w0 w w1 : World} {g : Nat} {row : Option Nat} {q : List Int} (h : Rd w0 w g q) (hg1 : w.grownBy w1 row) (hne : some g ≠ row) (hB : Below w0.heap.size w0 w1) : Rd w0 w1 g q := by
  obtain ⟨⟨A, c, hb, hC, hc⟩, HB, hg⟩ := h
  exact ⟨⟨A, c, blk_grown hb hg1 hne, hC, hc⟩, hB, hg⟩
/-- A panic of the reader. -/
def lacks : List PanicEntry := [{ v := .iface 39 (.int .i64 12), recovered := false }]
/-- A number's value, as the reader tells it. -/
def num (s : Nat) (q : List Int) : Int := wrap64 (getI 0 (q.take s))
set_option maxHeartbeats 8000000 in
set_option maxRecDepth 100000 in
theorem number_ok {w0 w : World} {g s : Nat} {q : List Int} (h : Rd w0 w g q) (N : Int) (hN : N = (s : Int)) (hs1 : 1 ≤ s) (hs8 : s ≤ 8) (hn : s ≤ q.length) :
    Calls Try.prog 31 #[.pointer (some ⟨g, 0, none⟩), .int .i64 N] w fun e w' => e = .returned (.int .i64 (num s q)) ∧ KeepBut w w' g none ∧ Rd w0 w' g (q.drop s) := by
  subst hN
  have hget : octet_Get.f q (s : Int) = some (getI 0 (q.take s), true) := by
    unfold octet_Get.f
    rw [if_neg (by omega), if_neg (by omega), if_neg (by omega), Int.toNat_natCast]
  obtain ⟨⟨A, c, hb, hC, hc⟩, HB, hg⟩ := h
  have hu60 := Try.underlying60
  obtain ⟨i0, hi0, _, hsz0, _⟩ := info_parts info5
  obtain ⟨A2, hcut2, hR2, hc2⟩ := print_drop_of (P := Try.prog) (Value.int .u8) 0 29 5 .i64 Try.underlying29 hi0 hsz0 A c q (s : Int) (by omega) (by omega) hc
  rw [Int.toNat_natCast] at hcut2 hR2 hc2
  have hC2 : Kd.C (Kd.int .u8) w0 A2 (q.drop s).length (q.drop s) := Kd.C_of_reads (hR2 _ (Kd.reads_of_C (d := (0 : Int)) hC))
  have hce : w.cell? ⟨g, 0, none⟩ = some (.slice A q.length c) := (blk_cell hb 0).trans rfl
  have hf := blk_frozen hb 0
  have hCw := Kd.C_below hC HB
  clear hR2
  unfold num
  generalize q.drop s = r at *
  generalize getI 0 (q.take s) = t at *
  go_enter Try.func31, Try.ntmps31
  go_wp2_with (go_at_call 33; refine (octet_Get.calls A c q (s : Int) _ _ _ hCw hc hget).mono ?_; rintro e w2 ⟨rfl, n, rfl⟩)
  go_ret
  exact ⟨rfl, (KeepBut.of_below (pw_below_drewN (Below.refl _ _) n) g none).set_ 0 _, ⟨⟨A2, c - s, blk_put (blk_drewN hb n) 0 _ rfl, hC2, hc2⟩, below_set (pw_below_drewN HB n) hg, hg⟩⟩
set_option maxHeartbeats 8000000 in
set_option maxRecDepth 100000 in
theorem number_short {w0 w : World} {g s : Nat} {q : List Int} (h : Rd w0 w g q) (N : Int) (hN : N = (s : Int)) (hs8 : s ≤ 8) (hn : q.length < s) :
    Calls Try.prog 31 #[.pointer (some ⟨g, 0, none⟩), .int .i64 N] w fun e w' => e = .panicked lacks ∧ KeepBut w w' g none ∧ Rd w0 w' g q := by
  subst hN
  have hget : octet_Get.f q (s : Int) = some (0, false) := by
    unfold octet_Get.f
    rw [if_neg (by omega), if_neg (by omega), if_pos (by omega)]
  have h' := h
  obtain ⟨⟨A, c, hb, hC, hc⟩, HB, hg⟩ := h
  have hu60 := Try.underlying60
  have hce : w.cell? ⟨g, 0, none⟩ = some (.slice A q.length c) := (blk_cell hb 0).trans rfl
  have hCw := Kd.C_below hC HB
  have hpan : ∀ (w : World), (Instr.panic (.iface 39 (.int .i64 12))).run Try.prog w = .halt (.panic (.iface 39 (.int .i64 12))) w := fun _ => rfl
  go_enter Try.func31, Try.ntmps31
  go_wp2_with (go_at_call 33; refine (octet_Get.calls A c q (s : Int) _ _ _ hCw hc hget).mono ?_; rintro e w2 ⟨rfl, n, rfl⟩)
  exact ⟨rfl, rfl, KeepBut.of_below (pw_below_drewN (Below.refl _ _) n) g none, h'.drewN n⟩
/-- The three results' blocks. -/
structure Res (w w' : World) (r0 r1 r2 l o : Value) : Prop where
  row : w'.heap[w.heap.size]? = some (.cells #[r0, r1, r2] 26 (0, 0))
  left : w'.heap[w.heap.size + 1]? = some (.cells #[l] 3 (0, 0))
  ok : w'.heap[w.heap.size + 2]? = some (.cells #[o] 4 (0, 0))
def three (n : Nat) : Array Value := #[.pointer (some ⟨n, 0, none⟩), .pointer (some ⟨n + 1, 0, none⟩), .pointer (some ⟨n + 2, 0, none⟩)]
def emptied3 (w' : World) (n : Nat) : World := ((((w'.setCell ⟨n, 0, none⟩ (.int .i64 0)).setCell ⟨n, 1, none⟩ (.int .i64 0)).setCell ⟨n, 2, none⟩ (.slice none 0 0)).setCell ⟨n + 1, 0, none⟩ (.int .i64 0)).setCell ⟨n + 2, 0, none⟩ (.bool false)
set_option maxHeartbeats 8000000 in
set_option maxRecDepth 100000 in
theorem catch_panics {w w' : World} {r0 r1 r2 l o : Value} (h : Res w w' r0 r1 r2 l o) (u : TypeId) (pv : Value) (older : List PanicEntry) :
    CallsD Try.prog 30 (three w.heap.size) (.panicking ({ v := .iface u pv, recovered := false } :: older)) w' fun e u' w'' =>
      e = .returned (.tuple #[]) ∧ u' = .panicking ({ v := .iface u pv, recovered := true } :: older) ∧ w'' = emptied3 w' w.heap.size := by
  have hu26 := Try.underlying26
  have c0 : w'.cell? ⟨w.heap.size, 0, none⟩ = some r0 := (blk_cell h.row 0).trans rfl
  have c1 : w'.cell? ⟨w.heap.size, 1, none⟩ = some r1 := (blk_cell h.row 1).trans rfl
  have c2 : w'.cell? ⟨w.heap.size, 2, none⟩ = some r2 := (blk_cell h.row 2).trans rfl
  have c3 : w'.cell? ⟨w.heap.size + 1, 0, none⟩ = some l := (blk_cell h.left 0).trans rfl
  have c4 : w'.cell? ⟨w.heap.size + 2, 0, none⟩ = some o := (blk_cell h.ok 0).trans rfl
  have z0 := blk_frozen h.row 0
  have z1 := blk_frozen h.row 1
  have z2 := blk_frozen h.row 2
  have z3 := blk_frozen h.left 0
  have z4 := blk_frozen h.ok 0
  unfold emptied3 three
  refine callsD_of_wpS Try.func30 rfl fun c₀ cs hu => ?_
  apply wpS_seq
  apply wpS_region
  simp [wpOpsS, go_sem, recoverD, hu, Try.ntmps30, Exit.thenS]
  refine wpS_cond (t := true) (by simp [Act.eval, Array.replicate]) ?_
  simp only [if_true]
  apply wpS_region
  simp [wpOpsS, go_sem, hu26, c0, c1, c2, c3, c4, z0, z1, z2, z3, z4, bodyPostS, results, Try.results30]
set_option maxHeartbeats 8000000 in
set_option maxRecDepth 100000 in
theorem catch_idle (n : Nat) (w : World) :
    CallsD Try.prog 30 (three n) .returning w fun e u' w' => e = .returned (.tuple #[]) ∧ u' = .returning ∧ w' = w := by
  unfold three
  refine callsD_of_wpS Try.func30 rfl fun c₀ cs hu => ?_
  apply wpS_seq
  apply wpS_region
  simp [wpOpsS, go_sem, recoverD, hu, Try.ntmps30, Exit.thenS]
  refine wpS_cond (t := false) (by simp [Act.eval, Array.replicate]) ?_
  simp only [Bool.false_eq_true, if_false]
  refine wpS_of_wp (wp_skip ?_)
  cases c₀
  simp_all [bodyPostS, results, Try.results30]
theorem emptied_res {w w' : World} {r0 r1 r2 l o : Value} (h : Res w w' r0 r1 r2 l o) : Res w (emptied3 w' w.heap.size) (.int .i64 0) (.int .i64 0) (.slice none 0 0) (.int .i64 0) (.bool false) := by
  obtain ⟨h0, h1, h2⟩ := h
  have a1 := blk_put h0 0 (.int .i64 0) rfl
  have a2 := blk_put a1 1 (.int .i64 0) rfl
  have a3 := blk_put a2 2 (.slice none 0 0) rfl
  have n1 : w.heap.size ≠ w.heap.size + 1 := by omega
  have n2 : w.heap.size ≠ w.heap.size + 2 := by omega
  have n3 : w.heap.size + 1 ≠ w.heap.size := by omega
  have n4 : w.heap.size + 1 ≠ w.heap.size + 2 := by omega
  have n5 : w.heap.size + 2 ≠ w.heap.size := by omega
  have n6 : w.heap.size + 2 ≠ w.heap.size + 1 := by omega
  have b1 := blk_far (p := ⟨w.heap.size, 2, none⟩) (blk_far (p := ⟨w.heap.size, 1, none⟩) (blk_far (p := ⟨w.heap.size, 0, none⟩) h1 n3 (.int .i64 0)) n3 (.int .i64 0)) n3 (.slice none 0 0)
  have c1 := blk_far (p := ⟨w.heap.size, 2, none⟩) (blk_far (p := ⟨w.heap.size, 1, none⟩) (blk_far (p := ⟨w.heap.size, 0, none⟩) h2 n5 (.int .i64 0)) n5 (.int .i64 0)) n5 (.slice none 0 0)
  exact ⟨blk_far (p := ⟨w.heap.size + 2, 0, none⟩) (blk_far (p := ⟨w.heap.size + 1, 0, none⟩) a3 n1 (.int .i64 0)) n2 (.bool false), blk_far (p := ⟨w.heap.size + 2, 0, none⟩) (blk_put b1 0 (.int .i64 0) rfl) n4 (.bool false), blk_put (blk_far (p := ⟨w.heap.size + 1, 0, none⟩) c1 n6 (.int .i64 0)) 0 (.bool false) rfl⟩
theorem emptied_below {w w' : World} (h : Below w.heap.size w w') : Below w.heap.size w (emptied3 w' w.heap.size) :=
  below_set (below_set (below_set (below_set (below_set h (Nat.le_refl _)) (Nat.le_refl _)) (Nat.le_refl _)) (Nat.le_succ _)) (by omega)
def three_t (tmps : Array Value) (n : Nat) : Prop := tmps[2]? = some (.pointer (some ⟨n, 0, none⟩)) ∧ tmps[3]? = some (.pointer (some ⟨n + 1, 0, none⟩)) ∧ tmps[4]? = some (.pointer (some ⟨n + 2, 0, none⟩))
theorem res_read {w w' : World} {r0 r1 r2 l o : Value} {tmps : Array Value} (h : Res w w' r0 r1 r2 l o) (h0 : r0.oneCell' = true) (h1 : r1.oneCell' = true) (h2 : r2.oneCell' = true) (hl : l.oneCell' = true) (ho : o.oneCell' = true) (ht : three_t tmps w.heap.size) :
    (results Try.f27 tmps).run Try.prog w' = .ok (.tuple #[.agg #[r0, r1, r2], l, o]) w' := by
  have hu26 := Try.underlying26
  have c0 : w'.cell? ⟨w.heap.size, 0, none⟩ = some r0 := (blk_cell h.row 0).trans rfl
  have c1 : w'.cell? ⟨w.heap.size, 1, none⟩ = some r1 := (blk_cell h.row 1).trans rfl
  have c2 : w'.cell? ⟨w.heap.size, 2, none⟩ = some r2 := (blk_cell h.row 2).trans rfl
  have c3 : w'.cell? ⟨w.heap.size + 1, 0, none⟩ = some l := (blk_cell h.left 0).trans rfl
  have c4 : w'.cell? ⟨w.heap.size + 2, 0, none⟩ = some o := (blk_cell h.ok 0).trans rfl
  obtain ⟨t2, t3, t4⟩ := ht
  simp [results, Try.results27, go_sem, t2, t3, t4, hu26, c0, c1, c2, c3, c4]
set_option maxHeartbeats 8000000 in
set_option maxRecDepth 100000 in
theorem door_ret {R : Ending → World → Prop} {w w' : World} {r0 r1 r2 l o : Value} {tmps : Array Value} (h : Res w w' r0 r1 r2 l o) (h0 : r0.oneCell' = true) (h1 : r1.oneCell' = true) (h2 : r2.oneCell' = true) (hl : l.oneCell' = true) (ho : o.oneCell' = true) (ht : three_t tmps w.heap.size) (hR : R (.returned (.tuple #[.agg #[r0, r1, r2], l, o])) w') :
    bodyPostD Try.prog Try.f27 R Exit.ret { tmps := tmps, defers := [{ target := Target.fn (Fn.func 30) (three w.heap.size), args := #[] }] } w' := by
  have hres := res_read h h0 h1 h2 hl ho ht
  refine leaves_cons (f := 30) (args := three w.heap.size) (by simp [three]) (by simp [go_sem, three]) ?_
  refine (catch_idle w.heap.size w').mono ?_
  rintro e u' w'' ⟨rfl, rfl, rfl⟩
  exact ⟨_, hres, hR⟩
set_option maxHeartbeats 8000000 in
set_option maxRecDepth 100000 in
theorem door_panic {R : Ending → World → Prop} {w w' : World} {r0 r1 r2 l o : Value} {tmps : Array Value} (h : Res w w' r0 r1 r2 l o) (ht : three_t tmps w.heap.size) (hR : R (.returned (.tuple #[.agg #[.int .i64 0, .int .i64 0, .slice none 0 0], .int .i64 0, .bool false])) (emptied3 w' w.heap.size)) :
    bodyPostD Try.prog Try.f27 R (Exit.panic lacks) { tmps := tmps, defers := [{ target := Target.fn (Fn.func 30) (three w.heap.size), args := #[] }] } w' := by
  have hres := res_read (emptied_res h) rfl rfl rfl rfl rfl ht
  refine leaves_cons (f := 30) (args := three w.heap.size) (by simp [three]) (by simp [go_sem, three]) ?_
  refine (catch_panics h 39 _ []).mono ?_
  rintro e u' w'' ⟨rfl, rfl, rfl⟩
  exact ⟨_, hres, hR⟩
theorem leaves_res {P : Program} {fn : Func} {t t' : Array Value} {R : Ending → World → Prop} (ht : results fn t = results fn t') : ∀ (ds : List Deferred) (u : FrameMode) (w : World), Leaves P fn t R ds u w → Leaves P fn t' R ds u w := by
  intro ds
  induction ds with
  | nil =>
    intro u w h
    cases u with
    | run => exact h
    | returning => obtain ⟨v, hv, hR⟩ := h; exact ⟨v, ht ▸ hv, hR⟩
    | panicking c => exact h
  | cons d ds ih =>
    intro u w h
    obtain ⟨hu, fv, cap, f, args, h1, h2, h3⟩ := h
    refine ⟨hu, fv, cap, f, args, h1, h2, ?_⟩
    refine h3.mono ?_
    intro e u' w' hh
    cases e with
    | returned v => exact ih _ _ hh
    | panicked c => exact ih _ _ hh
    | outgrown => exact hh
theorem put_res (t : Array Value) (n : Nat) (v : Value) (h : 5 ≤ n) : results Try.f27 (t.setIfInBounds n v) = results Try.f27 t := by
  have a : n ≠ 2 := by omega
  have b : n ≠ 3 := by omega
  have c : n ≠ 4 := by omega
  simp [results, Try.results27, go_sem, Array.getElem?_setIfInBounds, a, b, c]
theorem panic_put {Q : Exit → Act → World → Prop} {R : Ending → World → Prop} {n : Nat} (h5 : 5 ≤ n) (v : Value) (c : List PanicEntry) (a : Act) (w : World)
    (h : Q (.panic c) (a.put (some n) v) w) (hq : ∀ a, Q (.panic c) a w = Leaves Try.prog Try.f27 a.tmps R a.defers (.panicking c) w := by intro a; rfl) : Q (.panic c) a w := by
  rw [hq] at h ⊢
  exact leaves_res (put_res a.tmps n v h5) _ _ _ h
/-- A step of a region that yields in every world; one whose guard is off; one that reads what is held. -/
theorem pP {P : Program} {ops : Array Oper} {Q : Exit → Act → World → Prop} {md : Region.Mode} {S : World → Prop} {ds : List Nat} {oi : Oper} {v : Value} {fuel : Nat} {l : Array Bool} {a a' : Act} {w : World} (i : Nat) (N : Option Tmp) (l' : Array Bool) (h : wpAnyLast P md ops Q S ds fuel l' a' w)
    (hi : ops[i]? = some oi := by rfl) (hN : oi.dst = N := by rfl) (hc : anyB md ops l l' i = true := by kernel_rfl) (hQ : ∀ c a w, Q (.panic c) (a.put oi.dst v) w → Q (.panic c) a w := by exact fun c a w h => panic_put (by decide) _ c a w h)
    (hy : Region.wanted oi (yielded ops a.tmps) = true := by rfl) (hy' : ∀ w, (execOp a.eval oi).run P w = .ok (.value v) w := by intro w'; go_simp; with_reducible rfl)
    (ha : a.put N v = a' := by simp only [Act.put, List.setIfInBounds_toArray, List.set_cons_zero, List.set_cons_succ, i64_w, i32_w]; rfl) : wpAnyLast P md ops Q S ds (fuel + 1) l a w :=
  pure_ l' hi hN hc hQ (Or.inl ⟨hy, hy'⟩) ha h
theorem uP {P : Program} {ops : Array Oper} {Q : Exit → Act → World → Prop} {md : Region.Mode} {S : World → Prop} {ds : List Nat} {oi : Oper} {fuel : Nat} {l : Array Bool} {a a' : Act} {w : World} (i : Nat) (N : Option Tmp) (l' : Array Bool) (h : wpAnyLast P md ops Q S ds fuel l' a' w)
    (hi : ops[i]? = some oi := by rfl) (hN : oi.dst = N := by rfl) (hc : anyB md ops l l' i = true := by kernel_rfl) (hQ : ∀ c a w, Q (.panic c) (a.put oi.dst undef) w → Q (.panic c) a w := by exact fun c a w h => panic_put (by decide) _ c a w h)
    (hy : Region.wanted oi (yielded ops a.tmps) = false := by rfl)
    (ha : a.put N undef = a' := by simp only [Act.put, List.setIfInBounds_toArray, List.set_cons_zero, List.set_cons_succ, i64_w, i32_w]; rfl) : wpAnyLast P md ops Q S ds (fuel + 1) l a w :=
  pure_ l' hi hN hc hQ (Or.inr ⟨hy, rfl⟩) ha h
theorem tP {P : Program} {ops : Array Oper} {Q : Exit → Act → World → Prop} {md : Region.Mode} {S : World → Prop} {ds : List Nat} {oi : Oper} {v : Value} {fuel : Nat} {l : Array Bool} {a a' : Act} {w : World} (i : Nat) (N : Option Tmp) (l' : Array Bool) (hi : ops[i]? = some oi) (hN : oi.dst = N) (hS : S w) (hy' : ∀ w, S w → (execOp a.eval oi).run P w = .ok (.value v) w) (h : wpAnyLast P md ops Q S ds fuel l' a' w)
    (hc : takeB md ops ds l l' i = true := by kernel_rfl) (hQ : ∀ c a w, Q (.panic c) (a.put oi.dst v) w → Q (.panic c) a w := by exact fun c a w h => panic_put (by decide) _ c a w h)
    (hy : Region.wanted oi (yielded ops a.tmps) = true := by rfl)
    (ha : a.put N v = a' := by simp only [Act.put, List.setIfInBounds_toArray, List.set_cons_zero, List.set_cons_succ, i64_w, i32_w]; rfl) : wpAnyLast P md ops Q S ds (fuel + 1) l a w :=
  take_ l' hi hN hc hQ (Or.inl ⟨hy, hy'⟩) hS ha h
theorem nP {P : Program} {ops : Array Oper} {Q : Exit → Act → World → Prop} {md : Region.Mode} {S : World → Prop} {ds : List Nat} {fuel : Nat} {l : Array Bool} {a a' : Act} {v : Value} {w : World} (N : Option Tmp) (h : wpAnyLast P md ops Q S ds fuel l a' w)
    (ha : a.put N v = a' := by simp only [Act.put, List.setIfInBounds_toArray, List.set_cons_zero, List.set_cons_succ, i64_w, i32_w]; rfl) : wpAnyLast P md ops Q S ds fuel l (a.put N v) w := norm_ ha h
theorem goesP_ {P : Program} {Q : Exit → Act → World → Prop} {ops : Array Oper} {oi : Oper} {N : Option Tmp} {a : Act} {w : World} {K : Act → World → Prop} {f : FuncId} {fn : Func} {xs : Array Operand} {ts : Array TypeId} (hf : P.funcs[f]? = some fn) (hname : (fn.name == "runtime.NumGoroutine") = false) (hb : fn.body.isSome = true) (args : Array Value)
    (hw : Region.wanted oi (yielded ops a.tmps) = true) (hN : oi.dst = N) (hop : oi.op = .call { callee := .value (.func f), args := xs, argTypes := ts }) (hargs : xs.map a.eval = args)
    (h : Calls P f args w fun e w' => ∃ c, e = .panicked c ∧ Q (.panic c) a w') : if Region.wanted oi (yielded ops a.tmps) = true then Oper.wp P oi a w K Q else K (a.put N undef) w := by
  rw [if_pos hw]
  have he := enters_ hf hname hb args w
  have hrun : (execOp a.eval oi).run P w = .ok (.enter f args) w := by
    unfold execOp
    simp [hop, resolve, Deferred.ofValue, invoke, Act.eval, hargs, he]
  unfold Oper.wp
  rw [hrun, Oper.upon_enter]
  refine h.mono fun e w'' hh => ?_
  obtain ⟨c, rfl, hk⟩ := hh
  exact hk
/-- How it stands: the results' blocks, the tags so far, the reader. -/
structure RK (w w' : World) (q : List Int) (m b : Int) (v : Value) (tags : List S23) : Prop where
  res : Res w w' (.int .i64 m) (.int .i64 b) v (.int .i64 0) (.bool false)
  own : Kd.R k23 23 w' w.heap.size (fun _ => True) v tags
  rd : Rd w w' (w.heap.size + 3) q
theorem Res.keep {w w' w'' : World} {r0 r1 r2 l o : Value} (h : Res w w' r0 r1 r2 l o) (hk : KeepBut w' w'' (w.heap.size + 3) none) : Res w w'' r0 r1 r2 l o :=
  ⟨hk.blk h.row (by omega) (by simp), hk.blk h.left (by omega) (by simp), hk.blk h.ok (by omega) (by simp)⟩
theorem RK.call {w w' w'' : World} {q q' : List Int} {m b : Int} {v : Value} {tags : List S23} (h : RK w w' q m b v tags) (hk : KeepBut w' w'' (w.heap.size + 3) none) (hr : Rd w w'' (w.heap.size + 3) q') : RK w w'' q' m b v tags := by
  obtain ⟨⟨A, c, hb, -, -⟩, -, -⟩ := h.rd
  exact ⟨h.res.keep hk, Kd.R_mono (Kd.R_keep (Kd.R_types h.own hb (by decide)) hk (fun _ hk' => hk'.2)) (fun _ _ => trivial), hr⟩
theorem RK.drew {w w' : World} {q : List Int} {m b : Int} {v : Value} {tags : List S23} (h : RK w w' q m b v tags) : RK w w'.drew q m b v tags := ⟨⟨blk_drew h.res.row, blk_drew h.res.left, blk_drew h.res.ok⟩, Kd.R_drew h.own, h.rd.drew⟩
theorem rk_info23 : (Try.prog.info? 23).map (fun i => (i.zero, i.size, i.bytes)) = some (some (.agg #[.int .i64 0, .int .i64 0]), 2, 16) := by kernel_rfl
/-- The tags, one by one; none: bytes lack. -/
def rkTags : Nat → List Int → List S23 → Option (List S23 × List Int)
  | 0, q, acc => some (acc, q)
  | n + 1, q, acc => if q.length < 3 then none else if (q.drop 3).length < 3 then none else rkTags n ((q.drop 3).drop 3) (acc ++ [⟨num 3 q, num 3 (q.drop 3)⟩])
def rkBad : Int × Int × List S23 × Int × Bool := (0, 0, [], 0, false)
def rkRead (l : List Int) : Int × Int × List S23 × Int × Bool :=
  if l.length < 1 then rkBad else
  if (l.drop 1).length < 3 then rkBad else
  if ((l.drop 1).drop 3).length < 4 then rkBad else
  if (((l.drop 1).drop 3).drop 4).length < 1 then rkBad else
  match rkTags (num 1 (((l.drop 1).drop 3).drop 4)).toNat ((((l.drop 1).drop 3).drop 4).drop 1) [] with
  | none => rkBad
  | some (t, q) => (num 3 (l.drop 1), num 4 ((l.drop 1).drop 3), t, (q.length : Int), true)
def rowkey_read.f (l0 : List Int) : Option (Int × Int × List S23 × Int × Bool) := if l0.length < 35184372088832 then some (rkRead l0) else none
/-- What read tells. -/
def Told (w : World) (r : Int × Int × List S23 × Int × Bool) (e : Ending) (w' : World) : Prop :=
  ∃ v2_ : Value, e = .returned (.tuple #[.agg #[.int .i64 r.1, .int .i64 r.2.1, v2_], .int .i64 r.2.2.2.1, .bool r.2.2.2.2]) ∧ Kd.R k23 23 w' w.heap.size (fun _ => True) v2_ r.2.2.1 ∧ Below w.heap.size w w'
theorem out_panic {w w'' : World} {r0 r1 r2 l o : Value} {tmps : Array Value} (h : Res w w'' r0 r1 r2 l o) (hB : Below w.heap.size w w'') (ht : three_t tmps w.heap.size) :
    bodyPostD Try.prog Try.f27 (Told w rkBad) (Exit.panic lacks) { tmps := tmps, defers := [{ target := Target.fn (Fn.func 30) (three w.heap.size), args := #[] }] } w'' :=
  door_panic h ht ⟨_, rfl, Kd.R_nil _ _ _ _ _, emptied_below hB⟩
theorem num_in (s : Nat) (q : List Int) : num s q ≤ 9223372036854775807 := by unfold num wrap64; omega
set_option maxHeartbeats 8000000 in
set_option maxRecDepth 100000 in
theorem rowkey_read.walk (A0 : Option Addr) (c0 : Nat) (l0 : List Int) (w : World) (hr0 : Kd.C (Kd.int .u8) w A0 l0.length l0) (hc0 : l0.length ≤ c0) (hq : l0.length < 35184372088832) :
    Calls Try.prog 27 #[.slice A0 l0.length c0] w (Told w (rkRead l0)) := by
  have hmf : ∀ (fn : Fn) (first cap : Array Value) (w : World), (Instr.makeFunc fn first cap).run Try.prog w = .ok (.func fn first cap) w := fun _ _ _ _ => rfl
  have hu60 := Try.underlying60
  have hu26 := Try.underlying26
  obtain ⟨r, hr⟩ : ∃ r, r = rkRead l0 := ⟨_, rfl⟩
  rw [← hr]
  unfold rkRead at hr
  have hK0 : RK w ((((w.alloc (Obj.cells #[Value.int .i64 0, Value.int .i64 0, Value.slice none 0 0] 26)).alloc (Obj.cells #[Value.int .i64 0] 3)).alloc (Obj.cells #[Value.bool false] 4)).alloc (Obj.cells #[Value.slice A0 l0.length c0] 60)) l0 0 0 (.slice none 0 0) [] := by
    have a0 := blk_new w (Obj.cells #[Value.int .i64 0, Value.int .i64 0, Value.slice none 0 0] 26)
    have z1 : (w.alloc (Obj.cells #[Value.int .i64 0, Value.int .i64 0, Value.slice none 0 0] 26)).heap.size = w.heap.size + 1 := Array.size_push _
    have B1 : Below w.heap.size w (w.alloc (Obj.cells #[Value.int .i64 0, Value.int .i64 0, Value.slice none 0 0] 26)) := below_alloc (Below.refl _ _) _
    generalize (w.alloc (Obj.cells #[Value.int .i64 0, Value.int .i64 0, Value.slice none 0 0] 26)) = W1 at *
    have a1 := blk_alloc a0 (Obj.cells #[Value.int .i64 0] 3)
    have b1 := blk_new W1 (Obj.cells #[Value.int .i64 0] 3)
    rw [z1] at b1
    have z2 : (W1.alloc (Obj.cells #[Value.int .i64 0] 3)).heap.size = W1.heap.size + 1 := Array.size_push _
    rw [z1] at z2
    have B2 := below_alloc B1 (Obj.cells #[Value.int .i64 0] 3)
    generalize (W1.alloc (Obj.cells #[Value.int .i64 0] 3)) = W2 at *
    have a2 := blk_alloc a1 (Obj.cells #[Value.bool false] 4)
    have b2 := blk_alloc b1 (Obj.cells #[Value.bool false] 4)
    have c2 := blk_new W2 (Obj.cells #[Value.bool false] 4)
    rw [z2] at c2
    have z3 : (W2.alloc (Obj.cells #[Value.bool false] 4)).heap.size = W2.heap.size + 1 := Array.size_push _
    rw [z2] at z3
    have B3 := below_alloc B2 (Obj.cells #[Value.bool false] 4)
    generalize (W2.alloc (Obj.cells #[Value.bool false] 4)) = W3 at *
    have d3 := blk_new W3 (Obj.cells #[Value.slice A0 l0.length c0] 60)
    rw [z3] at d3
    exact ⟨⟨blk_alloc a2 _, blk_alloc b2 _, blk_alloc c2 _⟩, Kd.R_nil _ _ _ _ _, ⟨⟨A0, c0, d3, hr0, hc0⟩, below_alloc B3 _, by omega⟩⟩
  go_enter_defers Try.func27, Try.ntmps27
  go_upto_region 3 with (fail)
  have e2 : w.heap.size + 1 + 1 = w.heap.size + 2 := rfl
  have e3 : w.heap.size + 2 + 1 = w.heap.size + 3 := rfl
  rw [e2, e3]
  clear e2 e3
  generalize ((((w.alloc (Obj.cells #[Value.int .i64 0, Value.int .i64 0, Value.slice none 0 0] 26)).alloc (Obj.cells #[Value.int .i64 0] 3)).alloc (Obj.cells #[Value.bool false] 4)).alloc (Obj.cells #[Value.slice A0 l0.length c0] 60)) = w1 at hK0 ⊢
  clear hr0 hc0
  by_cases c1 : l0.length < 1
  · rw [if_pos c1] at hr
    subst hr
    go_wp2_with (go_at_call 31; refine (number_short hK0.rd 1 rfl (by decide) c1).mono ?_; rintro e w2 ⟨rfl, hk2, hr2⟩)
    exact out_panic (hK0.res.keep hk2) hr2.below ⟨rfl, rfl, rfl⟩
  rw [if_neg c1] at hr
  have hN1 := number_ok hK0.rd 1 rfl (by decide) (by decide) (show 1 ≤ l0.length by omega)
  have hq1 : (l0.drop 1).length < l0.length := by rw [List.length_drop]; omega
  generalize l0.drop 1 = q1 at *
  go_upto_region 4 with (go_at_call 31; refine hN1.mono ?_; rintro e w2 ⟨rfl, hk2, hr2⟩)
  have hK2 := hK0.call hk2 hr2
  clear hK0 hk2 hr2 hN1
  by_cases c2 : q1.length < 3
  · rw [if_pos c2] at hr
    subst hr
    go_wp2_with (go_at_call 31; refine (number_short hK2.rd 3 rfl (by decide) c2).mono ?_; rintro e w3 ⟨rfl, hk3, hr3⟩)
    exact out_panic (hK2.res.keep hk3) hr3.below ⟨rfl, rfl, rfl⟩
  rw [if_neg c2] at hr
  have hN2 := number_ok hK2.rd 3 rfl (by decide) (by decide) (show 3 ≤ q1.length by omega)
  have hq2 : (q1.drop 3).length < l0.length := by rw [List.length_drop]; omega
  generalize num 3 q1 = m at *
  generalize q1.drop 3 = q2 at *
  by_cases c3 : q2.length < 4
  · rw [if_pos c3] at hr
    subst hr
    go_wp2_with (first | (go_at_call 31; refine hN2.mono ?_; rintro e w3 ⟨rfl, hk3, hr3⟩; have hK3 := hK2.call hk3 hr3; clear hN2) | (go_at_call 31; refine (number_short hK3.rd 4 rfl (by decide) c3).mono ?_; rintro e w4 ⟨rfl, hk4, hr4⟩))
    exact out_panic (hK3.res.keep hk4) hr4.below ⟨rfl, rfl, rfl⟩
  rw [if_neg c3] at hr
  have hN3 := fun (w3 : World) (h3 : RK w w3 q2 0 0 (.slice none 0 0) []) => number_ok h3.rd 4 rfl (by decide) (by decide) (show 4 ≤ q2.length by omega)
  have hq3 : (q2.drop 4).length < l0.length := by rw [List.length_drop]; omega
  generalize num 4 q2 = b at *
  generalize q2.drop 4 = q3 at *
  go_upto_region 5 with (first | (go_at_call 31; refine hN2.mono ?_; rintro e w3 ⟨rfl, hk3, hr3⟩; have hK3 := hK2.call hk3 hr3; clear hN2) | (go_at_call 31; refine (hN3 _ hK3).mono ?_; rintro e w4 ⟨rfl, hk4, hr4⟩; have hK4 := hK3.call hk4 hr4; have x0 : w4.cell? ⟨w.heap.size, 0, none⟩ = some (.int .i64 0) := (blk_cell hK4.res.row 0).trans rfl; have x1 : w4.cell? ⟨w.heap.size, 1, none⟩ = some (.int .i64 0) := (blk_cell hK4.res.row 1).trans rfl; have y0 := blk_frozen hK4.res.row 0; have y1 := blk_frozen hK4.res.row 1))
  have hK5 : RK w ((w4.setCell ⟨w.heap.size, 0, none⟩ (.int .i64 m)).setCell ⟨w.heap.size, 1, none⟩ (.int .i64 b)) q3 m b (.slice none 0 0) [] := by
    have n3 : w.heap.size + 1 ≠ w.heap.size := by omega
    have n5 : w.heap.size + 2 ≠ w.heap.size := by omega
    have n7 : w.heap.size + 3 ≠ w.heap.size := by omega
    exact ⟨⟨blk_put (blk_put hK4.res.row 0 _ rfl) 1 _ rfl, blk_far (p := ⟨w.heap.size, 1, none⟩) (blk_far (p := ⟨w.heap.size, 0, none⟩) hK4.res.left n3 _) n3 _, blk_far (p := ⟨w.heap.size, 1, none⟩) (blk_far (p := ⟨w.heap.size, 0, none⟩) hK4.res.ok n5 _) n5 _⟩, Kd.R_nil _ _ _ _ _, (hK4.rd.far n7 (Nat.le_refl _) _).far n7 (Nat.le_refl _) _⟩
  clear hK2 hK3 hK4 hk3 hr3 hk4 hr4 hN3 x0 x1 y0 y1
  generalize ((w4.setCell ⟨w.heap.size, 0, none⟩ (.int .i64 m)).setCell ⟨w.heap.size, 1, none⟩ (.int .i64 b)) = w5 at hK5 ⊢
  by_cases c4 : q3.length < 1
  · rw [if_pos c4] at hr
    subst hr
    go_wp2_with (go_at_call 31; refine (number_short hK5.rd 1 rfl (by decide) c4).mono ?_; rintro e w6 ⟨rfl, hk6, hr6⟩)
    exact out_panic (hK5.res.keep hk6) hr6.below ⟨rfl, rfl, rfl⟩
  rw [if_neg c4] at hr
  have hN4 := number_ok hK5.rd 1 rfl (by decide) (by decide) (show 1 ≤ q3.length by omega)
  have hn := num_in 1 q3
  have hq4 : (q3.drop 1).length < l0.length := by rw [List.length_drop]; omega
  generalize num 1 q3 = n at *
  generalize q3.drop 1 = q4 at *
  go_wp2_with (go_at_call 31; refine hN4.mono ?_; rintro e w6 ⟨rfl, hk6, hr6⟩; have hK6 := hK5.call hk6 hr6)
  clear hN4 hK5 hk6 hr6 c1 c2 c3 c4 hq1 hq2 hq3
  obtain ⟨rt, hrt⟩ : ∃ z, z = rkTags n.toNat q4 [] := ⟨_, rfl⟩
  rw [← hrt] at hr
  go_loopg [6] (n.toNat + 1) (fun kq v6 w' => ∃ (N : Int) (q : List Int) (v : Value) (acc : List S23), v6 = .int .i64 N ∧ Aside0 (N.toNat < kq ∧ N ≤ 9223372036854775807 ∧ 6 * acc.length + q.length ≤ l0.length) ∧ Aside0 (rt = rkTags N.toNat q acc) ∧ Aside0 (RK w w' q m b v acc))
  case atStart => exact ⟨n, q4, _, [], rfl, ⟨Nat.lt_succ_self _, hn, by simp only [List.length_nil]; omega⟩, ⟨hrt⟩, ⟨hK6⟩⟩
  case round =>
    clear hK6 hrt hn hq4
    obtain ⟨N, q, v, acc, rfl, hlt, hrt, hK⟩ := hrel
    have hrt := hrt.out
    have hK := hK.out
    obtain ⟨Ao, co, rfl, hco, hRo⟩ := Kd.R_reads hK.own
    by_cases hN_ : ¬ N > 0
    · have hN0 : N.toNat = 0 := by omega
      rw [hN0, rkTags] at hrt
      subst hrt
      dsimp only at hr
      subst hr
      obtain ⟨⟨A, c, hb, hC, hc⟩, HB, hg⟩ := hK.rd
      have x0 : wr.cell? ⟨w.heap.size, 0, none⟩ = some (.int .i64 m) := (blk_cell hK.res.row 0).trans rfl
      have x1 : wr.cell? ⟨w.heap.size, 1, none⟩ = some (.int .i64 b) := (blk_cell hK.res.row 1).trans rfl
      have x2 : wr.cell? ⟨w.heap.size, 2, none⟩ = some (.slice Ao acc.length co) := (blk_cell hK.res.row 2).trans rfl
      have x3 : wr.cell? ⟨w.heap.size + 1, 0, none⟩ = some (.int .i64 0) := (blk_cell hK.res.left 0).trans rfl
      have x4 : wr.cell? ⟨w.heap.size + 2, 0, none⟩ = some (.bool false) := (blk_cell hK.res.ok 0).trans rfl
      have x5 : wr.cell? ⟨w.heap.size + 3, 0, none⟩ = some (.slice A q.length c) := (blk_cell hb 0).trans rfl
      have y0 := blk_frozen hK.res.row 0
      have y1 := blk_frozen hK.res.row 1
      have y2 := blk_frozen hK.res.row 2
      have y3 := blk_frozen hK.res.left 0
      have y4 := blk_frozen hK.res.ok 0
      go_upto_region 9 with (fail)
      refine start_ (n := 9) (S := fun w' => (w'.cell? ⟨w.heap.size, 0, none⟩ = some (.int .i64 m) ∧ w'.cell? ⟨w.heap.size, 1, none⟩ = some (.int .i64 b) ∧ w'.cell? ⟨w.heap.size, 2, none⟩ = some (.slice Ao acc.length co)) ∧ w'.cell? ⟨w.heap.size + 3, 0, none⟩ = some (.slice A q.length c)) (ds := []) (bA 9 0) (by kernel_rfl) rfl rfl ⟨⟨x0, x1, x2⟩, x5⟩ (fun hHeld => ?_)
      refine norm_ (by rfl) ?_
      refine tP 0 (some 35) (bA 9 1) rfl rfl hHeld (by rintro w' ⟨⟨s0, s1, s2⟩, s3⟩; go_simp; with_reducible rfl) ?_
      refine pP 1 (some 36) (bA 9 3) ?_
      refine pP 2 (some 37) (bA 9 7) ?_
      refine pP 3 (some 38) (bA 9 15) ?_
      refine tP 4 (some 39) (bA 9 31) rfl rfl hHeld (by rintro w' ⟨⟨s0, s1, s2⟩, s3⟩; go_simp; with_reducible rfl) ?_
      refine pP 5 (some 40) (bA 9 63) ?_
      have hD := hK.drew
      generalize wr.drew = W0 at hHeld hD ⊢
      have n1 : w.heap.size ≠ w.heap.size + 1 := by omega
      have n2 : w.heap.size ≠ w.heap.size + 2 := by omega
      have n3 : w.heap.size + 1 ≠ w.heap.size := by omega
      have n4 : w.heap.size + 1 ≠ w.heap.size + 2 := by omega
      have n5 : w.heap.size + 2 ≠ w.heap.size := by omega
      have n6 : w.heap.size + 2 ≠ w.heap.size + 1 := by omega
      have n7 : w.heap.size + 3 ≠ w.heap.size := by omega
      have n8 : w.heap.size + 3 ≠ w.heap.size + 1 := by omega
      have n9 : w.heap.size + 3 ≠ w.heap.size + 2 := by omega
      have z0 := blk_frozen hD.res.row 0
      have z1 := blk_frozen hD.res.row 1
      have z2 := blk_frozen hD.res.row 2
      have z3 := blk_frozen hD.res.left 0
      have z4 := blk_frozen hD.res.ok 0
      obtain ⟨⟨h0, h1, h2⟩, h3⟩ := hHeld
      have h4 : W0.cell? ⟨w.heap.size + 1, 0, none⟩ = some (.int .i64 0) := (blk_cell hD.res.left 0).trans rfl
      have h5 : W0.cell? ⟨w.heap.size + 2, 0, none⟩ = some (.bool false) := (blk_cell hD.res.ok 0).trans rfl
      clear x0 x1 x2 x3 x4 x5 y0 y1 y2 y3 y4 hb
      obtain ⟨⟨A', c', hb, -, -⟩, -, -⟩ := hD.rd
      have hb' := (blk_cell hb 0).symm.trans h3
      have b1 := blk_put (blk_put (blk_put hD.res.row 0 (.int .i64 m) rfl) 1 (.int .i64 b) rfl) 2 (.slice Ao acc.length co) rfl
      have l1 := blk_far (p := ⟨w.heap.size, 2, none⟩) (blk_far (p := ⟨w.heap.size, 1, none⟩) (blk_far (p := ⟨w.heap.size, 0, none⟩) hD.res.left n3 (.int .i64 m)) n3 (.int .i64 b)) n3 (.slice Ao acc.length co)
      have o1 := blk_far (p := ⟨w.heap.size, 2, none⟩) (blk_far (p := ⟨w.heap.size, 1, none⟩) (blk_far (p := ⟨w.heap.size, 0, none⟩) hD.res.ok n5 (.int .i64 m)) n5 (.int .i64 b)) n5 (.slice Ao acc.length co)
      have r1 := blk_far (p := ⟨w.heap.size, 2, none⟩) (blk_far (p := ⟨w.heap.size, 1, none⟩) (blk_far (p := ⟨w.heap.size, 0, none⟩) hb n7 (.int .i64 m)) n7 (.int .i64 b)) n7 (.slice Ao acc.length co)
      have R1 := Kd.R_set (Kd.R_set (Kd.R_set hD.own hD.res.row (by decide) 0 (.int .i64 m)) (blk_put hD.res.row 0 (.int .i64 m) rfl) (by decide) 1 (.int .i64 b)) (blk_put (blk_put hD.res.row 0 (.int .i64 m) rfl) 1 (.int .i64 b) rfl) (by decide) 2 (.slice Ao acc.length co)
      have B1 := below_set (j := 2) (v := .slice Ao acc.length co) (below_set (j := 1) (v := .int .i64 b) (below_set (j := 0) (v := .int .i64 m) hD.rd.below (Nat.le_refl _)) (Nat.le_refl _)) (Nat.le_refl _)
      refine one_ (i := 6) (N := none) (bA 9 127) rfl rfl (by kernel_rfl) (by decide) (fun K hK' => ?_)
      refine skip_ (w1 := ?_) (by rfl) rfl ?_ ?_
      rotate_left
      · go_simp
        rfl
      refine hK'.out _ _ ⟨⟨(blk_cell b1 0).trans rfl, (blk_cell b1 1).trans rfl, (blk_cell b1 2).trans rfl⟩, (blk_cell r1 0).trans hb'⟩ (fun _ => ?_)
      clear hK' K
      generalize (((W0.setCell ⟨w.heap.size, 0, none⟩ (.int .i64 m)).setCell ⟨w.heap.size, 1, none⟩ (.int .i64 b)).setCell ⟨w.heap.size, 2, none⟩ (.slice Ao acc.length co)) = W1 at b1 l1 o1 r1 R1 B1 ⊢
      have t4 : W1.cell? ⟨w.heap.size + 1, 0, none⟩ = some (.int .i64 0) := (blk_cell l1 0).trans rfl
      have t5 := blk_frozen l1 0
      refine one_ (i := 7) (N := none) (bA 9 255) rfl rfl (by kernel_rfl) (by decide) (fun K hK' => ?_)
      refine skip_ (w1 := ?_) (by rfl) rfl ?_ ?_
      rotate_left
      · go_simp
        rfl
      have b2 := blk_far (p := ⟨w.heap.size + 1, 0, none⟩) b1 n1 (.int .i64 (q.length : Int))
      have l2 := blk_put l1 0 (.int .i64 (q.length : Int)) rfl
      have o2 := blk_far (p := ⟨w.heap.size + 1, 0, none⟩) o1 n6 (.int .i64 (q.length : Int))
      have r2 := blk_far (p := ⟨w.heap.size + 1, 0, none⟩) r1 n8 (.int .i64 (q.length : Int))
      have R2 := Kd.R_set R1 l1 (by decide) 0 (.int .i64 (q.length : Int))
      have B2 := below_set (j := 0) (v := .int .i64 (q.length : Int)) B1 (Nat.le_succ w.heap.size)
      refine hK'.out _ _ ⟨⟨(blk_cell b2 0).trans rfl, (blk_cell b2 1).trans rfl, (blk_cell b2 2).trans rfl⟩, (blk_cell r2 0).trans hb'⟩ (fun _ => ?_)
      clear hK' K
      generalize (W1.setCell ⟨w.heap.size + 1, 0, none⟩ (.int .i64 (q.length : Int))) = W2 at b2 l2 o2 r2 R2 B2 ⊢
      have t6 : W2.cell? ⟨w.heap.size + 2, 0, none⟩ = some (.bool false) := (blk_cell o2 0).trans rfl
      have t7 := blk_frozen o2 0
      refine one_ (i := 8) (N := none) (bA 9 511) rfl rfl (by kernel_rfl) (by decide) (fun K hK' => ?_)
      refine skip_ (w1 := ?_) (by rfl) rfl ?_ ?_
      rotate_left
      · go_simp
        rfl
      have b3 := blk_far (p := ⟨w.heap.size + 2, 0, none⟩) b2 n2 (.bool true)
      have l3 := blk_far (p := ⟨w.heap.size + 2, 0, none⟩) l2 n4 (.bool true)
      have o3 := blk_put o2 0 (.bool true) rfl
      have r3 := blk_far (p := ⟨w.heap.size + 2, 0, none⟩) r2 n9 (.bool true)
      have R3 := Kd.R_set R2 o2 (by decide) 0 (.bool true)
      have B3 := below_set (j := 0) (v := .bool true) B2 (show w.heap.size ≤ w.heap.size + 2 by omega)
      refine hK'.out _ _ ⟨⟨(blk_cell b3 0).trans rfl, (blk_cell b3 1).trans rfl, (blk_cell b3 2).trans rfl⟩, (blk_cell r3 0).trans hb'⟩ (fun _ => ?_)
      clear hK' K
      refine done_ (by kernel_rfl) ?_
      go_wp2
      exact door_ret ⟨b3, l3, o3⟩ rfl rfl rfl rfl rfl ⟨rfl, rfl, rfl⟩ ⟨_, rfl, R3, B3⟩
    · have hN : N > 0 := by omega
      obtain ⟨k, hk⟩ : ∃ k, N.toNat = k + 1 := ⟨N.toNat - 1, by omega⟩
      rw [hk, rkTags] at hrt
      have hlq := hlt.out.2.2
      have x2 : wr.cell? ⟨w.heap.size, 2, none⟩ = some (.slice Ao acc.length co) := (blk_cell hK.res.row 2).trans rfl
      have hD := hK.drew
      go_upto_region 8 with (fail)
      refine start_ (n := 11) (S := fun w' => w'.cell? ⟨w.heap.size, 2, none⟩ = some (.slice Ao acc.length co)) (ds := [10]) (bA 11 0) (by kernel_rfl) rfl rfl x2 (fun hHeld => ?_)
      clear hK hRo x2
      generalize wr.drew = W0 at hHeld hD ⊢
      refine norm_ (by rfl) ?_
      refine pP 0 (some 25) (bA 11 1) ?_
      refine tP 1 (some 26) (bA 11 3) rfl rfl hHeld (by rintro w' s0; go_simp; with_reducible rfl) ?_
      refine pP 2 (some 27) (bA 11 7) ?_
      refine pP 4 (some 29) (bA 11 23) ?_
      refine one_ (i := 3) (N := some 28) (bA 11 31) rfl rfl (by kernel_rfl) (by decide) (fun K hK => ?_)
      by_cases d1 : q.length < 3
      · rw [if_pos d1] at hrt
        subst hrt
        dsimp only at hr
        subst hr
        refine goesP_ Try.func31 (by kernel_rfl) rfl #[.pointer (some ⟨w.heap.size + 3, 0, none⟩), .int .i64 3] (by rfl) rfl rfl (by simp only [List.map_toArray, List.map_cons, List.map_nil]; rfl) ?_
        refine (number_short hD.rd 3 rfl (by decide) d1).mono ?_
        rintro e w3 ⟨rfl, hk3, hr3⟩
        refine ⟨_, rfl, ?_⟩
        exact out_panic (hD.res.keep hk3) hr3.below ⟨rfl, rfl, rfl⟩
      rw [if_neg d1] at hrt
      refine goes_ Try.func31 (by kernel_rfl) rfl #[.pointer (some ⟨w.heap.size + 3, 0, none⟩), .int .i64 3] (by rfl) rfl rfl (by simp only [List.map_toArray, List.map_cons, List.map_nil]; rfl) ?_
      refine (number_ok hD.rd 3 rfl (by decide) (by decide) (show 3 ≤ q.length by omega)).mono ?_
      rintro e w3 ⟨rfl, hk3, hr3⟩
      refine ⟨_, rfl, ?_⟩
      have h3 := hD.call hk3 hr3
      have hq3 : 6 * acc.length + (q.drop 3).length + 3 ≤ l0.length := by rw [List.length_drop]; omega
      clear hr3 hk3 hD hlq d1
      generalize num 3 q = t1 at *
      generalize q.drop 3 = p1 at *
      refine hK.out _ _ ((blk_cell h3.res.row 2).trans rfl) (fun hHeld => ?_)
      clear hK K
      refine nP (some 28) ?_
      refine one_ (i := 5) (N := some 30) (bA 11 63) rfl rfl (by kernel_rfl) (by decide) (fun K hK => ?_)
      by_cases d2 : p1.length < 3
      · rw [if_pos d2] at hrt
        subst hrt
        dsimp only at hr
        subst hr
        refine goesP_ Try.func31 (by kernel_rfl) rfl #[.pointer (some ⟨w.heap.size + 3, 0, none⟩), .int .i64 3] (by rfl) rfl rfl (by simp only [List.map_toArray, List.map_cons, List.map_nil]; rfl) ?_
        refine (number_short h3.rd 3 rfl (by decide) d2).mono ?_
        rintro e w4 ⟨rfl, hk4, hr4⟩
        refine ⟨_, rfl, ?_⟩
        exact out_panic (h3.res.keep hk4) hr4.below ⟨rfl, rfl, rfl⟩
      rw [if_neg d2] at hrt
      refine goes_ Try.func31 (by kernel_rfl) rfl #[.pointer (some ⟨w.heap.size + 3, 0, none⟩), .int .i64 3] (by rfl) rfl rfl (by simp only [List.map_toArray, List.map_cons, List.map_nil]; rfl) ?_
      refine (number_ok h3.rd 3 rfl (by decide) (by decide) (show 3 ≤ p1.length by omega)).mono ?_
      rintro e w4 ⟨rfl, hk4, hr4⟩
      refine ⟨_, rfl, ?_⟩
      have h4 := h3.call hk4 hr4
      have hq4 : 6 * (acc.length + 1) + (p1.drop 3).length ≤ l0.length := by rw [List.length_drop]; omega
      clear hr4 hk4 h3 hq3 d2
      generalize num 3 p1 = t2 at *
      generalize p1.drop 3 = p2 at *
      refine hK.out _ _ ((blk_cell h4.res.row 2).trans rfl) (fun hHeld => ?_)
      clear hK K
      refine nP (some 30) ?_
      refine pP 6 (some 31) (bA 11 127) ?_
      refine one_ (i := 7) (N := some 32) (bA 11 255) rfl rfl (by kernel_rfl) (by decide) (fun K hK => ?_)
      refine value_ (w1 := w4.alloc (.cells #[.int .i64 t1, .int .i64 t2] 23)) (v := .slice (some ⟨w4.heap.size, 0, none⟩) 1 1) (by rfl) rfl ?rm7 ?_
      case rm7 => go_simp
      refine hK.out _ _ ((blk_cell (blk_alloc h4.res.row _) 2).trans rfl) (fun hHeld => ?_)
      clear hK K
      refine nP (some 32) ?_
      refine one_ (i := 8) (N := some 33) (bA 11 511) rfl rfl (by kernel_rfl) (by decide) (fun K hK => ?_)
      refine Kd.R_append_step k23 (w0 := w) w.heap.size (by rfl) (.tmp 26) (.tmp 32) 24 23 (.agg #[.int .i64 0, .int .i64 0]) 16 rfl Try.underlying24 rk_info23 rfl (by decide) (by omega) (.slice Ao acc.length co) acc (⟨t1, t2⟩ : S23) [.int .i64 t1, .int .i64 t2] (fun _ => True) (fun _ => False) rfl rfl (k23_mkM _ _ _ _) (fun _ hk => hk.elim) (fun _ _ => trivial) h4.own h4.rd.below h4.rd.below.size (by omega) ?_
      intro v1 w5 ho hb hg4 _
      obtain ⟨⟨A3, c3, hb3, -, -⟩, -, -⟩ := h4.rd
      have ne0 := Kd.R_ne h4.own h4.res.row (by decide)
      have ne1 := Kd.R_ne h4.own h4.res.left (by decide)
      have ne2 := Kd.R_ne h4.own h4.res.ok (by decide)
      have ne3 := Kd.R_ne h4.own hb3 (by decide)
      have g0 := blk_grown h4.res.row hg4 ne0
      have g1 := blk_grown h4.res.left hg4 ne1
      have g2 := blk_grown h4.res.ok hg4 ne2
      have g3 := h4.rd.grown hg4 ne3 hb
      obtain ⟨Ao2, co2, ev1, -, -⟩ := Kd.R_reads ho
      subst ev1
      refine hK.out _ _ ((blk_cell g0 2).trans rfl) (fun hHeld => ?_)
      clear hK K
      refine nP (some 33) ?_
      refine pP 9 (some 34) (bA 11 1023) ?_
      have f2 := blk_frozen g0 2
      refine last_ (i := 10) (N := none) (bA 11 2047) rfl rfl (by kernel_rfl) (by decide) (fun K hK => ?_)
      refine skip_ (w1 := w5.setCell ⟨w.heap.size, 2, none⟩ (.slice Ao2 (acc ++ [(⟨t1, t2⟩ : S23)]).length co2)) (by rfl) rfl ?rn11 ?_
      case rn11 => go_simp
      refine hK.out _ _ ?_
      clear hK K
      refine done_ (by kernel_rfl) ?_
      have hKn : RK w (w5.setCell ⟨w.heap.size, 2, none⟩ (.slice Ao2 (acc ++ [(⟨t1, t2⟩ : S23)]).length co2)) p2 m b (.slice Ao2 (acc ++ [(⟨t1, t2⟩ : S23)]).length co2) (acc ++ [⟨t1, t2⟩]) :=
        ⟨⟨blk_put g0 2 _ rfl, blk_far (p := ⟨w.heap.size, 2, none⟩) g1 (show w.heap.size + 1 ≠ w.heap.size by omega) _, blk_far (p := ⟨w.heap.size, 2, none⟩) g2 (show w.heap.size + 2 ≠ w.heap.size by omega) _⟩, Kd.R_set ho g0 (by decide) 2 _, g3.far (by omega) (Nat.le_refl _) _⟩
      have hw : wrap64 (N - 1) = N - 1 := by have := hlt.out.2.1; unfold wrap64; omega
      clear ho hb hg4 g0 g1 g2 g3 f2 h4 hHeld hb3 ne0 ne1 ne2 ne3
      generalize (w5.setCell ⟨w.heap.size, 2, none⟩ (.slice Ao2 (acc ++ [(⟨t1, t2⟩ : S23)]).length co2)) = w6 at hKn ⊢
      go_wp2
      go_roundg (k + 1)
      case measure => have := hlt.out.1; omega
      case rel => exact ⟨N - 1, p2, _, _, by first | rfl | rw [hw], ⟨by omega, by have := hlt.out.2.1; omega, by rw [List.length_append, List.length_singleton]; exact hq4⟩, ⟨by rw [show (N - 1).toNat = k by omega]; exact hrt⟩, ⟨hKn⟩⟩
theorem rowkey_read.calls (A0 : Option Addr) (c0 : Nat) (l0 : List Int) (r1 : Int) (r2 : Int) (r3 : List S23) (r4 : Int) (r5 : Bool) (w : World) (hr0 : Kd.C (Kd.int .u8) w A0 l0.length l0) (hc0 : l0.length ≤ c0) (h : rowkey_read.f l0 = some (r1, r2, r3, r4, r5)) :
    Calls Try.prog 27 #[.slice A0 l0.length c0] w fun e w' => ∃ v2_ : Value, e = .returned (.tuple #[.agg #[.int .i64 r1, .int .i64 r2, v2_], .int .i64 r4, .bool r5]) ∧ Kd.R k23 23 w' w.heap.size (fun _ => True) v2_ r3 ∧ Below w.heap.size w w' := by
  unfold rowkey_read.f at h
  by_cases hq : l0.length < 35184372088832
  · rw [if_pos hq] at h
    have hW := rowkey_read.walk A0 c0 l0 w hr0 hc0 hq
    rw [Option.some.inj h] at hW
    exact hW
  · rw [if_neg hq] at h; cases h

/-! ### rowkey_Decode: function 21 -/
def rowkey_Decode.f (k : Nat) (l0 : List Int) : Option (Int × Int × (List (S23)) × Int × Int) := (rowkey_read.f l0).bind fun bt211 => (if bt211.2.2.2.2 = true then ((rowkey_Right.f k bt211.1 bt211.2.1 bt211.2.2.1).bind fun t219 => (if t219 = true then (some (bt211.1, bt211.2.1, bt211.2.2.1, wrap64 ((l0.length : Int) - bt211.2.2.2.1), 0)) else (some (0, 0, ([] : List (S23)), 0, 12)))) else (some (0, 0, ([] : List (S23)), 0, 12)))
theorem rowkey_Decode.mono : ∀ a0 k, LeO (rowkey_Decode.f k a0) (rowkey_Decode.f (k + 1) a0) := by
 intro a0 k
 unfold rowkey_Decode.f
 repeat' first
   | (with_reducible exact rowkey_Right.mono _ _ _ _)
   | (with_reducible exact LeO.refl _)
   | (with_reducible exact LeO.none _)
   | (with_reducible refine LeO.ite ?_ ?_)
   | (with_reducible refine LeO.bind ?_ (fun _ => ?_))
   | exact rowkey_Right.mono _ _ _ _
   | exact LeO.none _
   | refine LeO.ite ?_ ?_
   | refine LeO.bind ?_ (fun _ => ?_)
set_option maxHeartbeats 8000000 in
set_option maxRecDepth 100000 in
theorem rowkey_Decode.calls (k : Nat) (A0 : Option Addr) (c0 : Nat) (l0 : List Int) (r1 : Int) (r2 : Int) (r3 : List (S23)) (r4 : Int) (r5 : Int) (w : World) (hr0 : Kd.C (Kd.int .u8) w A0 l0.length l0) (hc0 : l0.length ≤ c0) (h : rowkey_Decode.f k l0 = some (r1, r2, r3, r4, r5)) :
  Calls Try.prog 21 #[.slice A0 l0.length c0] w fun e w' => ∃ v2_ : Value, e = .returned (.tuple #[.agg #[.int .i64 r1, .int .i64 r2, v2_], .int .i64 r4, .int .i64 r5]) ∧ Kd.R k23 23 w' w.heap.size (fun _ => True) v2_ r3 ∧ Below w.heap.size w w' := by
 have hu26 := Try.underlying26
 have HR0 := Aside0.mk hr0
 have HC0 := Aside0.mk hc0
 clear hr0 hc0
 have HB := Aside0.mk (Below.refl w.heap.size w)
 have H : ((rowkey_read.f l0).bind fun bt211 => (if bt211.2.2.2.2 = true then ((rowkey_Right.f k bt211.1 bt211.2.1 bt211.2.2.1).bind fun t219 => (if t219 = true then (some (bt211.1, bt211.2.1, bt211.2.2.1, wrap64 ((l0.length : Int) - bt211.2.2.2.1), 0)) else (some (0, 0, ([] : List (S23)), 0, 12)))) else (some (0, 0, ([] : List (S23)), 0, 12)))) = some (r1, r2, r3, r4, r5) := h
 clear h
 replace H := Option.bind_eq_some_iff.mp H
 obtain ⟨⟨t211, t212, t213, t216, t217⟩, A20, H⟩ := H
 replace H : (if t217 = true then ((rowkey_Right.f k t211 t212 t213).bind fun t219 => (if t219 = true then (some (t211, t212, t213, wrap64 ((l0.length : Int) - t216), 0)) else (some (0, 0, ([] : List (S23)), 0, 12)))) else (some (0, 0, ([] : List (S23)), 0, 12))) = some (r1, r2, r3, r4, r5) := H
 have A2 := Aside0.mk A20
 clear A20
 by_cases c3 : t217 = true
 ·subst c3
  have H1 : ((rowkey_Right.f k t211 t212 t213).bind fun t219 => (if t219 = true then (some (t211, t212, t213, wrap64 ((l0.length : Int) - t216), 0)) else (some (0, 0, ([] : List (S23)), 0, 12)))) = some (r1, r2, r3, r4, r5) := by rw [if_pos rfl] at H; exact H
  clear H
  have H := H1
  clear H1
  replace H := Option.bind_eq_some_iff.mp H
  obtain ⟨t219, A40, H⟩ := H
  replace H : (if t219 = true then (some (t211, t212, t213, wrap64 ((l0.length : Int) - t216), 0)) else (some (0, 0, ([] : List (S23)), 0, 12))) = some (r1, r2, r3, r4, r5) := H
  have A4 := Aside0.mk A40
  clear A40
  by_cases c5 : t219 = true
  ·subst c5
   have H1 : (some (t211, t212, t213, wrap64 ((l0.length : Int) - t216), 0)) = some (r1, r2, r3, r4, r5) := by rw [if_pos rfl] at H; exact H
   clear H
   have H := H1
   clear H1
   simp only [Option.some.injEq, Prod.mk.injEq] at H
   obtain ⟨rfl, rfl, rfl, rfl, rfl⟩ := H
   go_enter Try.func21, Try.ntmps21
   go_wp2_with (first | ((with_reducible refine gate_dst (N := 2) rfl ?_); refine box_event ?hg (N := 2) ?hd (cs := #[.int .i64 0, .int .i64 0, .slice none 0 0]) (t := 26) ?hr ?_; (case hd => rfl); (case hg => rfl); (case hr => first | (go_simp; done) | (go_simp; rfl)); intro gb210 hg w6 hbox hb; have n0_ := Aside0.mk (below_step (belN HB.out) hb); have n1_ := Aside0.mk (hbox); have n2_ := Aside0.mk (szB hg HB.out); have n3_ := Aside0.mk (szB hg HB.out); clear HB; have HB := n0_; have BK210 := n1_; have GW210 := n2_; have GE210 := n3_; clear n0_ n1_ n2_ n3_; clear hb hbox hg) | ((with_reducible refine gate_callee (f := 27) rfl ?_); refine goesL_ (some 10) rfl rfl Try.func27 (by kernel_rfl) rfl #[.slice A0 l0.length c0] rfl argN ?_; (with_reducible refine (rowkey_read.calls _ _ l0 t211 t212 t213 t216 true _ ?side1 ?side2 A2.out).mono ?_); (case side1 => repeat (first | exact (Kd.C_below HR0.out HB.out) | (with_reducible refine Kd.C_alloc ?_ _) | (with_reducible refine Kd.C_drewN ?_ _) | (with_reducible refine Kd.C_drew ?_))); (case side2 => exact HC0.out); rintro e w7 ⟨v214, rfl, ho0, hb⟩; refine ⟨_, rfl, ?_⟩; have n0_ := Aside0.mk (Kd.R_lower ho0 (below_size (belS HB.out))); have n1_ := Aside0.mk (bkB BK210.out hb); have n2_ := Aside0.mk (below_step (belS HB.out) hb); clear BK210; clear HB; have HO215 := n0_; have BK210 := n1_; have HB := n2_; clear n0_ n1_ n2_; (try clear hb); (try clear hk); (try clear ho0)) | ((with_reducible refine gate_dst (N := 5) rfl ?_); refine box_event ?hg (N := 5) ?hd (cs := #[.int .i64 0, .int .i64 0, .slice none 0 0]) (t := 26) ?hr ?_; (case hd => rfl); (case hg => rfl); (case hr => first | (go_simp; done) | (go_simp; rfl)); intro gb218 hg w8 hbox hb; have n0_ := Aside0.mk (Kd.R_below (rowN HO215.out) hb); have n1_ := Aside0.mk (bkB BK210.out hb); have n2_ := Aside0.mk (below_step (belS HB.out) hb); have n3_ := Aside0.mk (hbox); have n4_ := Aside0.mk (szB hg HB.out); have n5_ := Aside0.mk (szB hg HB.out); have n6_ := Aside0.mk ((bk1 hg BK210.out)); have n7_ := Aside0.mk ((bk2 hg BK210.out)); clear HO215; clear BK210; clear HB; have HO215 := n0_; have BK210 := n1_; have HB := n2_; have BK218 := n3_; have GW218 := n4_; have GE218 := n5_; have NB210_218 := n6_; have NB218_210 := n7_; clear n0_ n1_ n2_ n3_ n4_ n5_ n6_ n7_; clear hb hbox hg; have hnb9 := NB218_210.out; have hnc9 := NB210_218.out; have hcz10_0 : w8.cell? ⟨gb218, 0, none⟩ = some (.int .i64 0) := (blk_cell BK218.out 0).trans rfl; have hcz10_1 : w8.cell? ⟨gb218, 1, none⟩ = some (.int .i64 0) := (blk_cell BK218.out 1).trans rfl; have hcz10_2 : w8.cell? ⟨gb218, 2, none⟩ = some (.slice none 0 0) := (blk_cell BK218.out 2).trans rfl; have hfz10_0 := blk_frozen BK218.out 0; have hfz10_1 := blk_frozen BK218.out 1; have hfz10_2 := blk_frozen BK218.out 2; obtain ⟨Ao11, co11, eo11⟩ := Kd.R_slice HO215.out; subst eo11) | (go_at_call 16; (with_reducible refine (rowkey_Right.calls k t211 t212 _ _ t213 true _ ?side1 ?side2 A4.out).mono ?_); (case side1 => refine (Kd.R_reads' (e := 23) (base := w.heap.size) (ok := fun k_ => True) (n := t213.length) (c := co11) ?_).2.2; exact (by (with_reducible repeat (first | apply Kd.R_alloc | apply Kd.R_drewN | apply Kd.R_drew)); exact (Kd.R_mono (Kd.R_far (p := ⟨gb218, 2, none⟩) (Kd.R_far (p := ⟨gb218, 1, none⟩) (Kd.R_far (p := ⟨gb218, 0, none⟩) (Kd.R_types HO215.out BK218.out (by decide)) (fun _ hk => hk.2) (.int .i64 t211)) (fun _ hk => hk.2) (.int .i64 t212)) (fun _ hk => hk.2) (.slice Ao11 t213.length co11)) (fun _ h_ => h_.1)))); (case side2 => exact (Kd.R_reads' HO215.out).2.1); rintro e w12 ⟨rfl, hb⟩; have n0_ := Aside0.mk (Kd.R_below (by (with_reducible repeat (first | apply Kd.R_alloc | apply Kd.R_drewN | apply Kd.R_drew)); exact (Kd.R_mono (Kd.R_far (p := ⟨gb218, 2, none⟩) (Kd.R_far (p := ⟨gb218, 1, none⟩) (Kd.R_far (p := ⟨gb218, 0, none⟩) (Kd.R_types HO215.out BK218.out (by decide)) (fun _ hk => hk.2) (.int .i64 t211)) (fun _ hk => hk.2) (.int .i64 t212)) (fun _ hk => hk.2) (.slice Ao11 t213.length co11)) (fun _ h_ => h_.1))) hb); have n1_ := Aside0.mk (bkBF BK210.out hb); have n2_ := Aside0.mk (blk_below (g := gb218) (o := .cells #[.int .i64 t211, .int .i64 t212, .slice Ao11 t213.length co11] 26 (0, 0)) (by (with_reducible repeat (first | refine blk_drewN ?_ _ | refine blk_drew ?_ | refine blk_alloc ?_ _)); refine blk_put (cs := #[.int .i64 t211, .int .i64 t212, .slice none 0 0]) ?_ 2 _ rfl; (with_reducible repeat (first | refine blk_drewN ?_ _ | refine blk_drew ?_ | refine blk_alloc ?_ _)); refine blk_put (cs := #[.int .i64 t211, .int .i64 0, .slice none 0 0]) ?_ 1 _ rfl; (with_reducible repeat (first | refine blk_drewN ?_ _ | refine blk_drew ?_ | refine blk_alloc ?_ _)); refine blk_put (cs := #[.int .i64 0, .int .i64 0, .slice none 0 0]) ?_ 0 _ rfl; (with_reducible repeat (first | refine blk_drewN ?_ _ | refine blk_drew ?_ | refine blk_alloc ?_ _)); exact BK218.out) hb); have n3_ := Aside0.mk (below_step (belS HB.out) hb); clear HO215; clear BK210; clear BK218; clear HB; have HO215 := n0_; have BK210 := n1_; have BK218 := n2_; have HB := n3_; clear n0_ n1_ n2_ n3_; (try clear hb); (try clear hk); have hcz13_0 : w12.cell? ⟨gb218, 0, none⟩ = some (.int .i64 t211) := (blk_cell BK218.out 0).trans rfl; have hcz13_1 : w12.cell? ⟨gb218, 1, none⟩ = some (.int .i64 t212) := (blk_cell BK218.out 1).trans rfl; have hcz13_2 : w12.cell? ⟨gb218, 2, none⟩ = some (.slice Ao11 t213.length co11) := (blk_cell BK218.out 2).trans rfl; have hfz13_0 := blk_frozen BK218.out 0; have hfz13_1 := blk_frozen BK218.out 1; have hfz13_2 := blk_frozen BK218.out 2; have hcz14_0 : w12.cell? ⟨gb210, 0, none⟩ = some (.int .i64 0) := (blk_cell BK210.out 0).trans rfl; have hcz14_1 : w12.cell? ⟨gb210, 1, none⟩ = some (.int .i64 0) := (blk_cell BK210.out 1).trans rfl; have hcz14_2 : w12.cell? ⟨gb210, 2, none⟩ = some (.slice none 0 0) := (blk_cell BK210.out 2).trans rfl; have hfz14_0 := blk_frozen BK210.out 0; have hfz14_1 := blk_frozen BK210.out 1; have hfz14_2 := blk_frozen BK210.out 2))
   refine bodyPost_ret (results_ctt rfl _ _ gb210 26 #[.int .i64 t211, .int .i64 t212, .slice Ao11 t213.length co11] (0, 0) _ rfl (by (with_reducible repeat (first | refine blk_drewN ?_ _ | refine blk_drew ?_ | refine blk_alloc ?_ _)); refine blk_put (cs := #[.int .i64 t211, .int .i64 t212, .slice none 0 0]) ?_ 2 _ rfl; (with_reducible repeat (first | refine blk_drewN ?_ _ | refine blk_drew ?_ | refine blk_alloc ?_ _)); refine blk_put (cs := #[.int .i64 t211, .int .i64 0, .slice none 0 0]) ?_ 1 _ rfl; (with_reducible repeat (first | refine blk_drewN ?_ _ | refine blk_drew ?_ | refine blk_alloc ?_ _)); refine blk_put (cs := #[.int .i64 0, .int .i64 0, .slice none 0 0]) ?_ 0 _ rfl; (with_reducible repeat (first | refine blk_drewN ?_ _ | refine blk_drew ?_ | refine blk_alloc ?_ _)); exact BK210.out) Try.underlying26 rfl (by kernel_rfl)) rfl ?_
   exact ⟨_, by first | rfl | (simp [errW_none, errW_some] <;> rfl) | (simp [*, errW_none, errW_some] <;> rfl), by (with_reducible repeat (first | apply Kd.R_alloc | apply Kd.R_drewN | apply Kd.R_drew)); exact Kd.R_mono (Kd.R_far (p := ⟨gb210, 2, none⟩) (Kd.R_far (p := ⟨gb210, 1, none⟩) (Kd.R_far (p := ⟨gb210, 0, none⟩) (Kd.R_types HO215.out BK210.out (by decide)) (fun _ hk => hk.2) (.int .i64 t211)) (fun _ hk => hk.2) (.int .i64 t212)) (fun _ hk => hk.2) (.slice Ao11 t213.length co11)) (fun _ hk => trivial), (belS HB.out)⟩
  ·replace c5 := Bool.eq_false_iff.mpr c5
   subst c5
   have H1 : (some (0, 0, ([] : List (S23)), 0, 12)) = some (r1, r2, r3, r4, r5) := by rw [if_neg (show ¬ (false = true) by decide)] at H; exact H
   clear H
   have H := H1
   clear H1
   simp only [Option.some.injEq, Prod.mk.injEq] at H
   obtain ⟨rfl, rfl, rfl, rfl, rfl⟩ := H
   go_enter Try.func21, Try.ntmps21
   go_wp2_with (first | ((with_reducible refine gate_dst (N := 2) rfl ?_); refine box_event ?hg (N := 2) ?hd (cs := #[.int .i64 0, .int .i64 0, .slice none 0 0]) (t := 26) ?hr ?_; (case hd => rfl); (case hg => rfl); (case hr => first | (go_simp; done) | (go_simp; rfl)); intro gb210 hg w15 hbox hb; have n0_ := Aside0.mk (below_step (belN HB.out) hb); have n1_ := Aside0.mk (hbox); have n2_ := Aside0.mk (szB hg HB.out); have n3_ := Aside0.mk (szB hg HB.out); clear HB; have HB := n0_; have BK210 := n1_; have GW210 := n2_; have GE210 := n3_; clear n0_ n1_ n2_ n3_; clear hb hbox hg) | ((with_reducible refine gate_callee (f := 27) rfl ?_); refine goesL_ (some 10) rfl rfl Try.func27 (by kernel_rfl) rfl #[.slice A0 l0.length c0] rfl argN ?_; (with_reducible refine (rowkey_read.calls _ _ l0 t211 t212 t213 t216 true _ ?side1 ?side2 A2.out).mono ?_); (case side1 => repeat (first | exact (Kd.C_below HR0.out HB.out) | (with_reducible refine Kd.C_alloc ?_ _) | (with_reducible refine Kd.C_drewN ?_ _) | (with_reducible refine Kd.C_drew ?_))); (case side2 => exact HC0.out); rintro e w16 ⟨v214, rfl, ho0, hb⟩; refine ⟨_, rfl, ?_⟩; have n0_ := Aside0.mk (Kd.R_lower ho0 (below_size (belS HB.out))); have n1_ := Aside0.mk (bkB BK210.out hb); have n2_ := Aside0.mk (below_step (belS HB.out) hb); clear BK210; clear HB; have HO215 := n0_; have BK210 := n1_; have HB := n2_; clear n0_ n1_ n2_; (try clear hb); (try clear hk); (try clear ho0)) | ((with_reducible refine gate_dst (N := 5) rfl ?_); refine box_event ?hg (N := 5) ?hd (cs := #[.int .i64 0, .int .i64 0, .slice none 0 0]) (t := 26) ?hr ?_; (case hd => rfl); (case hg => rfl); (case hr => first | (go_simp; done) | (go_simp; rfl)); intro gb218 hg w17 hbox hb; have n0_ := Aside0.mk (Kd.R_below (rowN HO215.out) hb); have n1_ := Aside0.mk (bkB BK210.out hb); have n2_ := Aside0.mk (below_step (belS HB.out) hb); have n3_ := Aside0.mk (hbox); have n4_ := Aside0.mk (szB hg HB.out); have n5_ := Aside0.mk (szB hg HB.out); have n6_ := Aside0.mk ((bk1 hg BK210.out)); have n7_ := Aside0.mk ((bk2 hg BK210.out)); clear HO215; clear BK210; clear HB; have HO215 := n0_; have BK210 := n1_; have HB := n2_; have BK218 := n3_; have GW218 := n4_; have GE218 := n5_; have NB210_218 := n6_; have NB218_210 := n7_; clear n0_ n1_ n2_ n3_ n4_ n5_ n6_ n7_; clear hb hbox hg; have hnb18 := NB218_210.out; have hnc18 := NB210_218.out; have hcz19_0 : w17.cell? ⟨gb218, 0, none⟩ = some (.int .i64 0) := (blk_cell BK218.out 0).trans rfl; have hcz19_1 : w17.cell? ⟨gb218, 1, none⟩ = some (.int .i64 0) := (blk_cell BK218.out 1).trans rfl; have hcz19_2 : w17.cell? ⟨gb218, 2, none⟩ = some (.slice none 0 0) := (blk_cell BK218.out 2).trans rfl; have hfz19_0 := blk_frozen BK218.out 0; have hfz19_1 := blk_frozen BK218.out 1; have hfz19_2 := blk_frozen BK218.out 2; obtain ⟨Ao20, co20, eo20⟩ := Kd.R_slice HO215.out; subst eo20) | (go_at_call 16; (with_reducible refine (rowkey_Right.calls k t211 t212 _ _ t213 false _ ?side1 ?side2 A4.out).mono ?_); (case side1 => refine (Kd.R_reads' (e := 23) (base := w.heap.size) (ok := fun k_ => True) (n := t213.length) (c := co20) ?_).2.2; exact (by (with_reducible repeat (first | apply Kd.R_alloc | apply Kd.R_drewN | apply Kd.R_drew)); exact (Kd.R_mono (Kd.R_far (p := ⟨gb218, 2, none⟩) (Kd.R_far (p := ⟨gb218, 1, none⟩) (Kd.R_far (p := ⟨gb218, 0, none⟩) (Kd.R_types HO215.out BK218.out (by decide)) (fun _ hk => hk.2) (.int .i64 t211)) (fun _ hk => hk.2) (.int .i64 t212)) (fun _ hk => hk.2) (.slice Ao20 t213.length co20)) (fun _ h_ => h_.1)))); (case side2 => exact (Kd.R_reads' HO215.out).2.1); rintro e w21 ⟨rfl, hb⟩; have n0_ := Aside0.mk (Kd.R_below (by (with_reducible repeat (first | apply Kd.R_alloc | apply Kd.R_drewN | apply Kd.R_drew)); exact (Kd.R_mono (Kd.R_far (p := ⟨gb218, 2, none⟩) (Kd.R_far (p := ⟨gb218, 1, none⟩) (Kd.R_far (p := ⟨gb218, 0, none⟩) (Kd.R_types HO215.out BK218.out (by decide)) (fun _ hk => hk.2) (.int .i64 t211)) (fun _ hk => hk.2) (.int .i64 t212)) (fun _ hk => hk.2) (.slice Ao20 t213.length co20)) (fun _ h_ => h_.1))) hb); have n1_ := Aside0.mk (bkBF BK210.out hb); have n2_ := Aside0.mk (blk_below (g := gb218) (o := .cells #[.int .i64 t211, .int .i64 t212, .slice Ao20 t213.length co20] 26 (0, 0)) (by (with_reducible repeat (first | refine blk_drewN ?_ _ | refine blk_drew ?_ | refine blk_alloc ?_ _)); refine blk_put (cs := #[.int .i64 t211, .int .i64 t212, .slice none 0 0]) ?_ 2 _ rfl; (with_reducible repeat (first | refine blk_drewN ?_ _ | refine blk_drew ?_ | refine blk_alloc ?_ _)); refine blk_put (cs := #[.int .i64 t211, .int .i64 0, .slice none 0 0]) ?_ 1 _ rfl; (with_reducible repeat (first | refine blk_drewN ?_ _ | refine blk_drew ?_ | refine blk_alloc ?_ _)); refine blk_put (cs := #[.int .i64 0, .int .i64 0, .slice none 0 0]) ?_ 0 _ rfl; (with_reducible repeat (first | refine blk_drewN ?_ _ | refine blk_drew ?_ | refine blk_alloc ?_ _)); exact BK218.out) hb); have n3_ := Aside0.mk (below_step (belS HB.out) hb); clear HO215; clear BK210; clear BK218; clear HB; have HO215 := n0_; have BK210 := n1_; have BK218 := n2_; have HB := n3_; clear n0_ n1_ n2_ n3_; (try clear hb); (try clear hk); have hcz22_0 : w21.cell? ⟨gb210, 0, none⟩ = some (.int .i64 0) := (blk_cell BK210.out 0).trans rfl; have hcz22_1 : w21.cell? ⟨gb210, 1, none⟩ = some (.int .i64 0) := (blk_cell BK210.out 1).trans rfl; have hcz22_2 : w21.cell? ⟨gb210, 2, none⟩ = some (.slice none 0 0) := (blk_cell BK210.out 2).trans rfl; have hfz22_0 := blk_frozen BK210.out 0; have hfz22_1 := blk_frozen BK210.out 1; have hfz22_2 := blk_frozen BK210.out 2))
   refine bodyPost_ret (results_ctt rfl _ _ gb210 26 #[.int .i64 0, .int .i64 0, .slice none 0 0] (0, 0) _ rfl (by (with_reducible repeat (first | refine blk_drewN ?_ _ | refine blk_drew ?_ | refine blk_alloc ?_ _)); refine blk_put (cs := #[.int .i64 0, .int .i64 0, .slice none 0 0]) ?_ 2 _ rfl; (with_reducible repeat (first | refine blk_drewN ?_ _ | refine blk_drew ?_ | refine blk_alloc ?_ _)); refine blk_put (cs := #[.int .i64 0, .int .i64 0, .slice none 0 0]) ?_ 1 _ rfl; (with_reducible repeat (first | refine blk_drewN ?_ _ | refine blk_drew ?_ | refine blk_alloc ?_ _)); refine blk_put (cs := #[.int .i64 0, .int .i64 0, .slice none 0 0]) ?_ 0 _ rfl; (with_reducible repeat (first | refine blk_drewN ?_ _ | refine blk_drew ?_ | refine blk_alloc ?_ _)); exact BK210.out) Try.underlying26 rfl (by kernel_rfl)) rfl ?_
   exact ⟨_, by first | rfl | (simp [errW_none, errW_some] <;> rfl) | (simp [*, errW_none, errW_some] <;> rfl), by first | exact Kd.R_nil _ _ _ _ _ | exact Kd.N_nil _ _ _ _ _ | exact Kd.V_nil _ _ _ _ _ | exact Kd.Q_nil _ _ _ _ _ | exact Kd.S_nil _ _ _ _ _, (belS HB.out)⟩
 ·replace c3 := Bool.eq_false_iff.mpr c3
  subst c3
  have H1 : (some (0, 0, ([] : List (S23)), 0, 12)) = some (r1, r2, r3, r4, r5) := by rw [if_neg (show ¬ (false = true) by decide)] at H; exact H
  clear H
  have H := H1
  clear H1
  simp only [Option.some.injEq, Prod.mk.injEq] at H
  obtain ⟨rfl, rfl, rfl, rfl, rfl⟩ := H
  go_enter Try.func21, Try.ntmps21
  go_wp2_with (first | ((with_reducible refine gate_dst (N := 2) rfl ?_); refine box_event ?hg (N := 2) ?hd (cs := #[.int .i64 0, .int .i64 0, .slice none 0 0]) (t := 26) ?hr ?_; (case hd => rfl); (case hg => rfl); (case hr => first | (go_simp; done) | (go_simp; rfl)); intro gb210 hg w23 hbox hb; have n0_ := Aside0.mk (below_step (belN HB.out) hb); have n1_ := Aside0.mk (hbox); have n2_ := Aside0.mk (szB hg HB.out); have n3_ := Aside0.mk (szB hg HB.out); clear HB; have HB := n0_; have BK210 := n1_; have GW210 := n2_; have GE210 := n3_; clear n0_ n1_ n2_ n3_; clear hb hbox hg) | ((with_reducible refine gate_callee (f := 27) rfl ?_); refine goesL_ (some 10) rfl rfl Try.func27 (by kernel_rfl) rfl #[.slice A0 l0.length c0] rfl argN ?_; (with_reducible refine (rowkey_read.calls _ _ l0 t211 t212 t213 t216 false _ ?side1 ?side2 A2.out).mono ?_); (case side1 => repeat (first | exact (Kd.C_below HR0.out HB.out) | (with_reducible refine Kd.C_alloc ?_ _) | (with_reducible refine Kd.C_drewN ?_ _) | (with_reducible refine Kd.C_drew ?_))); (case side2 => exact HC0.out); rintro e w24 ⟨v214, rfl, ho0, hb⟩; refine ⟨_, rfl, ?_⟩; have n0_ := Aside0.mk (Kd.R_lower ho0 (below_size (belS HB.out))); have n1_ := Aside0.mk (bkB BK210.out hb); have n2_ := Aside0.mk (below_step (belS HB.out) hb); clear BK210; clear HB; have HO215 := n0_; have BK210 := n1_; have HB := n2_; clear n0_ n1_ n2_; (try clear hb); (try clear hk); (try clear ho0)) | ((with_reducible refine gate_dst (N := 5) rfl ?_); refine box_event ?hg (N := 5) ?hd (cs := #[.int .i64 0, .int .i64 0, .slice none 0 0]) (t := 26) ?hr ?_; (case hd => rfl); (case hg => rfl); (case hr => first | (go_simp; done) | (go_simp; rfl)); intro gb218 hg w25 hbox hb; have n0_ := Aside0.mk (Kd.R_below (rowN HO215.out) hb); have n1_ := Aside0.mk (bkB BK210.out hb); have n2_ := Aside0.mk (below_step (belS HB.out) hb); have n3_ := Aside0.mk (hbox); have n4_ := Aside0.mk (szB hg HB.out); have n5_ := Aside0.mk (szB hg HB.out); have n6_ := Aside0.mk ((bk1 hg BK210.out)); have n7_ := Aside0.mk ((bk2 hg BK210.out)); clear HO215; clear BK210; clear HB; have HO215 := n0_; have BK210 := n1_; have HB := n2_; have BK218 := n3_; have GW218 := n4_; have GE218 := n5_; have NB210_218 := n6_; have NB218_210 := n7_; clear n0_ n1_ n2_ n3_ n4_ n5_ n6_ n7_; clear hb hbox hg; have hnb26 := NB218_210.out; have hnc26 := NB210_218.out; have hcz27_0 : w25.cell? ⟨gb218, 0, none⟩ = some (.int .i64 0) := (blk_cell BK218.out 0).trans rfl; have hcz27_1 : w25.cell? ⟨gb218, 1, none⟩ = some (.int .i64 0) := (blk_cell BK218.out 1).trans rfl; have hcz27_2 : w25.cell? ⟨gb218, 2, none⟩ = some (.slice none 0 0) := (blk_cell BK218.out 2).trans rfl; have hfz27_0 := blk_frozen BK218.out 0; have hfz27_1 := blk_frozen BK218.out 1; have hfz27_2 := blk_frozen BK218.out 2; obtain ⟨Ao28, co28, eo28⟩ := Kd.R_slice HO215.out; subst eo28; have hcz29_0 : w25.cell? ⟨gb210, 0, none⟩ = some (.int .i64 0) := (blk_cell BK210.out 0).trans rfl; have hcz29_1 : w25.cell? ⟨gb210, 1, none⟩ = some (.int .i64 0) := (blk_cell BK210.out 1).trans rfl; have hcz29_2 : w25.cell? ⟨gb210, 2, none⟩ = some (.slice none 0 0) := (blk_cell BK210.out 2).trans rfl; have hfz29_0 := blk_frozen BK210.out 0; have hfz29_1 := blk_frozen BK210.out 1; have hfz29_2 := blk_frozen BK210.out 2))
  refine bodyPost_ret (results_ctt rfl _ _ gb210 26 #[.int .i64 0, .int .i64 0, .slice none 0 0] (0, 0) _ rfl (by (with_reducible repeat (first | refine blk_drewN ?_ _ | refine blk_drew ?_ | refine blk_alloc ?_ _)); refine blk_put (cs := #[.int .i64 0, .int .i64 0, .slice none 0 0]) ?_ 2 _ rfl; (with_reducible repeat (first | refine blk_drewN ?_ _ | refine blk_drew ?_ | refine blk_alloc ?_ _)); refine blk_put (cs := #[.int .i64 0, .int .i64 0, .slice none 0 0]) ?_ 1 _ rfl; (with_reducible repeat (first | refine blk_drewN ?_ _ | refine blk_drew ?_ | refine blk_alloc ?_ _)); refine blk_put (cs := #[.int .i64 0, .int .i64 0, .slice none 0 0]) ?_ 0 _ rfl; (with_reducible repeat (first | refine blk_drewN ?_ _ | refine blk_drew ?_ | refine blk_alloc ?_ _)); refine blk_far ?_ NB210_218.out _; (with_reducible repeat (first | refine blk_drewN ?_ _ | refine blk_drew ?_ | refine blk_alloc ?_ _)); refine blk_far ?_ NB210_218.out _; (with_reducible repeat (first | refine blk_drewN ?_ _ | refine blk_drew ?_ | refine blk_alloc ?_ _)); refine blk_far ?_ NB210_218.out _; (with_reducible repeat (first | refine blk_drewN ?_ _ | refine blk_drew ?_ | refine blk_alloc ?_ _)); exact BK210.out) Try.underlying26 rfl (by kernel_rfl)) rfl ?_
  exact ⟨_, by first | rfl | (simp [errW_none, errW_some] <;> rfl) | (simp [*, errW_none, errW_some] <;> rfl), by first | exact Kd.R_nil _ _ _ _ _ | exact Kd.N_nil _ _ _ _ _ | exact Kd.V_nil _ _ _ _ _ | exact Kd.Q_nil _ _ _ _ _ | exact Kd.S_nil _ _ _ _ _, (belS HB.out)⟩

/-! ### marigraphref2_Get: function 32 -/
mutual
def marigraphref2_Get.j0 : Nat → List Int → Int → Bool → Option (Int × Bool)
 | 0, _, _, _ => none
 | k + 1, x0, x1, x19 => if x19 = true then (some (0, false)) else (marigraphref2_Get.l0 k x0 x1 0 0)
def marigraphref2_Get.l0 : Nat → List Int → Int → Int → Int → Option (Int × Bool)
 | 0, _, _, _, _ => none
 | k + 1, x0, x1, x6, x7 => if x7 < x1 then (if 0 ≤ x7 then (if x7 < (x0.length : Int) then (marigraphref2_Get.l0 k x0 x1 (Go.bits .or .u64 (IntKind.u64.wrap (x6 * 256)) (IntKind.u64.wrap (rd x0 x7))) (wrap64 (x7 + 1))) else (none)) else (none)) else (some (x6, true))
end
def marigraphref2_Get.f (k : Nat) (l0 : List Int) (a1 : Int) : Option (Int × Bool) := if a1 < 0 then (marigraphref2_Get.j0 k l0 a1 true) else (if a1 > 8 then (marigraphref2_Get.j0 k l0 a1 true) else (marigraphref2_Get.j0 k l0 a1 (decide ((l0.length : Int) < a1))))
theorem marigraphref2_Get.mono_l : ∀ k, (∀ y0 y1 y2, LeO (marigraphref2_Get.j0 k y0 y1 y2) (marigraphref2_Get.j0 (k + 1) y0 y1 y2)) ∧ (∀ y0 y1 y2 y3, LeO (marigraphref2_Get.l0 k y0 y1 y2 y3) (marigraphref2_Get.l0 (k + 1) y0 y1 y2 y3))
 | 0 => ⟨fun _ _ _ r h => by simp [marigraphref2_Get.j0] at h, fun _ _ _ _ r h => by simp [marigraphref2_Get.l0] at h⟩
 | k + 1 => by
  obtain ⟨ih0, ih1⟩ := marigraphref2_Get.mono_l k
  refine ⟨?_, ?_⟩
  ·intro y0 y1 y2
   unfold marigraphref2_Get.j0
   repeat' first
   | (with_reducible exact ih0 _ _ _)
   | (with_reducible exact ih1 _ _ _ _)
   | (with_reducible exact LeO.refl _)
   | (with_reducible exact LeO.none _)
   | (with_reducible refine LeO.ite ?_ ?_)
   | (with_reducible refine LeO.bind ?_ (fun _ => ?_))
   | exact ih0 _ _ _
   | exact ih1 _ _ _ _
   | exact LeO.none _
   | refine LeO.ite ?_ ?_
   | refine LeO.bind ?_ (fun _ => ?_)
  ·intro y0 y1 y2 y3
   unfold marigraphref2_Get.l0
   repeat' first
   | (with_reducible exact ih0 _ _ _)
   | (with_reducible exact ih1 _ _ _ _)
   | (with_reducible exact LeO.refl _)
   | (with_reducible exact LeO.none _)
   | (with_reducible refine LeO.ite ?_ ?_)
   | (with_reducible refine LeO.bind ?_ (fun _ => ?_))
   | exact ih0 _ _ _
   | exact ih1 _ _ _ _
   | exact LeO.none _
   | refine LeO.ite ?_ ?_
   | refine LeO.bind ?_ (fun _ => ?_)
theorem marigraphref2_Get.mono : ∀ a0 a1 k, LeO (marigraphref2_Get.f k a0 a1) (marigraphref2_Get.f (k + 1) a0 a1) := by
 intro a0 a1 k
 obtain ⟨ih0, ih1⟩ := marigraphref2_Get.mono_l k
 unfold marigraphref2_Get.f
 repeat' first
   | (with_reducible exact ih0 _ _ _)
   | (with_reducible exact ih1 _ _ _ _)
   | (with_reducible exact LeO.refl _)
   | (with_reducible exact LeO.none _)
   | (with_reducible refine LeO.ite ?_ ?_)
   | (with_reducible refine LeO.bind ?_ (fun _ => ?_))
   | exact ih0 _ _ _
   | exact ih1 _ _ _ _
   | exact LeO.none _
   | refine LeO.ite ?_ ?_
   | refine LeO.bind ?_ (fun _ => ?_)
set_option maxHeartbeats 8000000 in
set_option maxRecDepth 100000 in
theorem marigraphref2_Get.calls (k : Nat) (A0 : Option Addr) (c0 : Nat) (l0 : List Int) (a1 : Int) (r1 : Int) (r2 : Bool) (w : World) (hr0 : Kd.C (Kd.int .u8) w A0 l0.length l0) (hc0 : l0.length ≤ c0) (h : marigraphref2_Get.f k l0 a1 = some (r1, r2)) :
  Calls Try.prog 32 #[.slice A0 l0.length c0, .int .i64 a1] w fun e w' => e = .returned (.tuple #[.int .u64 r1, .bool r2]) ∧ Drawn0 w w' := by
 have HR0 := Aside0.mk hr0
 have HC0 := Aside0.mk hc0
 clear hr0 hc0
 have H : (if a1 < 0 then (marigraphref2_Get.j0 k l0 a1 true) else (if a1 > 8 then (marigraphref2_Get.j0 k l0 a1 true) else (marigraphref2_Get.j0 k l0 a1 (decide ((l0.length : Int) < a1))))) = some (r1, r2) := h
 clear h
 have HC3 := Aside0.mk H
 clear H
 go_enter Try.func32, Try.ntmps32
 go_upto_region 1 with (fail)
 go_cut [19] (fun v19 wc => ∃ (kq : Nat) (x19_2 : Bool), v19 = .bool x19_2 ∧ Aside0 (marigraphref2_Get.j0 kq l0 a1 x19_2 = some (r1, r2)) ∧ Aside0 (kq ≤ k) ∧ Drawn0 w wc)
 case first =>
  have H := HC3.out
  clear HC3
  by_cases c4 : a1 < 0
  ·rw [if_pos c4] at H
   have c4b0 : decide (a1 < 0) = true := decide_eq_true c4
   clear c4
   (first | rw [c4b0] | rw [c4b1] | (simp only [i64_w, i32_w]; rw [c4b0]) | skip)
   have H' := Aside0.mk H
   clear H
   go_wp2
   go_meet
   case rel => exact ⟨_, (true), (by first | rfl | (simp; done) | (simp [*]; done)), H', ⟨by first | omega | exact Nat.le_refl _⟩, by repeat (first | exact Drawn0.refl _ | apply Drawn0.step)⟩
  ·rw [if_neg c4] at H
   have c4b0 : decide (a1 < 0) = false := decide_eq_false c4
   clear c4
   (first | rw [c4b0] | rw [c4b1] | (simp only [i64_w, i32_w]; rw [c4b0]) | skip)
   by_cases c5 : a1 > 8
   ·rw [if_pos c5] at H
    have c5b0 : decide (8 < a1) = true := decide_eq_true c5
    clear c5
    have H' := Aside0.mk H
    clear H
    go_wp2
    go_meet
    case rel => exact ⟨_, (true), (by first | rfl | (simp; done) | (simp [*]; done)), H', ⟨by first | omega | exact Nat.le_refl _⟩, by repeat (first | exact Drawn0.refl _ | apply Drawn0.step)⟩
   ·rw [if_neg c5] at H
    have c5b0 : decide (8 < a1) = false := decide_eq_false c5
    clear c5
    have H' := Aside0.mk H
    clear H
    go_wp2
    go_meet
    case rel => exact ⟨_, (decide ((l0.length : Int) < a1)), (by first | rfl | (simp; done) | (simp [*]; done)), H', ⟨by first | omega | exact Nat.le_refl _⟩, by repeat (first | exact Drawn0.refl _ | apply Drawn0.step)⟩
 case rest =>
  clear HC3
  try clear p2
  try clear c3
  try clear c4
  try clear c4b0
  try clear c5
  try clear c5b0
  obtain ⟨kq, x19_2, rfl, HA, HJ2, ⟨mc2, rfl⟩⟩ := hcut
  cases kq with
  | zero => exact absurd HA.out (by simp [marigraphref2_Get.j0])
  | succ kj2 =>
   have H := HA.out
   clear HA
   simp only [marigraphref2_Get.j0] at H
   by_cases c6 : x19_2 = true
   ·subst c6
    have H1 : (some (0, false)) = some (r1, r2) := by rw [if_pos rfl] at H; exact H
    clear H
    have H := H1
    clear H1
    simp only [Option.some.injEq, Prod.mk.injEq] at H
    obtain ⟨rfl, rfl⟩ := H
    go_wp2
    go_ret2
    exact ⟨by first | rfl | (simp; done) | (simp [*]; done), by repeat (first | exact Drawn0.refl _ | apply Drawn0.step)⟩
   ·replace c6 := Bool.eq_false_iff.mpr c6
    subst c6
    have H1 : (marigraphref2_Get.l0 kj2 l0 a1 0 0) = some (r1, r2) := by rw [if_neg (show ¬ (false = true) by decide)] at H; exact H
    clear H
    have H := H1
    clear H1
    have H' := Aside0.mk H
    clear H
    go_wp2
    go_loopg [6, 7] kj2 (fun kq v6 v7 w' => ∃ (x6_2 : Int) (x7_2 : Int), v6 = .int .u64 x6_2 ∧ v7 = .int .i64 x7_2 ∧ Aside0 (marigraphref2_Get.l0 kq l0 a1 x6_2 x7_2 = some (r1, r2)) ∧ Aside0 (kq ≤ kj2) ∧ Drawn0 w w')
    case atStart => exact ⟨(0), (0), (by first | rfl | (simp; done) | (simp [*]; done)), (by first | rfl | (simp; done) | (simp [*]; done)), H', ⟨Nat.le_refl _⟩, by repeat (first | exact Drawn0.refl _ | apply Drawn0.step)⟩
    case round =>
     clear H'
     try clear c2
     try clear p2
     try clear c3
     try clear c4
     try clear c4b0
     try clear c5
     try clear c5b0
     try clear c6
     try clear p2
     obtain ⟨x6_2, x7_2, rfl, rfl, HA, HK2, ⟨m2, rfl⟩⟩ := hrel
     cases gk with
     | zero => exact absurd HA.out (by simp [marigraphref2_Get.l0])
     | succ k2 =>
      have H := HA.out
      clear HA
      simp only [marigraphref2_Get.l0] at H
      by_cases c7 : x7_2 < a1
      ·rw [if_pos c7] at H
       have c7b0 : decide (x7_2 < a1) = true := decide_eq_true c7
       clear c7
       by_cases c8 : 0 ≤ x7_2
       ·rw [if_pos c8] at H
        have c8b0 : decide (0 ≤ x7_2) = true := decide_eq_true c8
        clear c8
        by_cases c9 : x7_2 < (l0.length : Int)
        ·rw [if_pos c9] at H
         have c9b0 : decide (x7_2 < (l0.length : Int)) = true := decide_eq_true c9
         clear c9
         have H' := Aside0.mk H
         clear H
         have p220 : 0 ≤ (x7_2 : Int) := of_decide_eq_true (by first | (with_reducible assumption) | assumption)
         have q220 : x7_2 < (l0.length : Int) := of_decide_eq_true (by first | (with_reducible assumption) | assumption)
         obtain ⟨ad220, e220, hx220_0⟩ := Kd.at_int HR0.out x7_2 p220 q220
         cases e220
         replace p220 := eq_true p220
         replace q220 := eq_true q220
         go_wp2
         go_roundg k2
         case measure => have := HJ2.out; have := HK2.out; omega
         case rel => exact ⟨(Go.bits .or .u64 (IntKind.u64.wrap (x6_2 * 256)) (IntKind.u64.wrap (rd l0 x7_2))), (wrap64 (x7_2 + 1)), (by first | rfl | (simp; done) | (simp [*]; done)), (by first | rfl | (simp; done) | (simp [*]; done)), H', ⟨by have := HJ2.out; have := HK2.out; omega⟩, by repeat (first | exact Drawn0.refl _ | apply Drawn0.step)⟩
        ·rw [if_neg c9] at H
         exact absurd H (by simp)
       ·rw [if_neg c8] at H
        exact absurd H (by simp)
      ·rw [if_neg c7] at H
       have c7b0 : decide (x7_2 < a1) = false := decide_eq_false c7
       clear c7
       simp only [Option.some.injEq, Prod.mk.injEq] at H
       obtain ⟨rfl, rfl⟩ := H
       go_wp2
       go_ret2
       exact ⟨by first | rfl | (simp; done) | (simp [*]; done), by repeat (first | exact Drawn0.refl _ | apply Drawn0.step)⟩

-- NOT PRINTED: function 28 (marigraphref4_Reader_Num)

end Go.Proofs.Ytbgghcifpephgaa.PRowkeyTells

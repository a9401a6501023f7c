/- The walk of the Go functions that a law reaches, told as plain functions; a program of this session has written it. No condition beyond the statement's own. -/
import Derived.Test.YtbgghcifpephgaaPRowkeyTellsx0
import Derived.Test.YtbgghcifpephgaaPRowkeyTellsx2
import Derived.Test.YtbgghcifpephgaaPRowkeyTellsx4
import Derived.Test.YtbgghcifpephgaaPRowkeyTellsx5
import Derived.Test.YtbgghcifpephgaaPRowkeyTellsx6
import Derived.Test.YtbgghcifpephgaaPRowkeyTellsx7
namespace Go.Proofs.Ytbgghcifpephgaa.PRowkeyTells
open Go.RowKit Go.Proofs.YtbgghcifpephgaaW.PrintWords Go.Proofs.YtbgghcifpephgaaW.PrintLast Go.Proofs.YtbgghcifpephgaaW.PrintMore
attribute [local go_sem] max2_int min2_int max_two min_two max_three min_three max_four min_four   -- for this text's walks alone
set_option linter.unusedVariables false
set_option linter.unusedSimpArgs false

/-! ### marigraphref14_Decode: function 22, by hand (a reader that notes when bytes lack) -/
theorem rg_nxt {n : Nat} (h : n < 1000000) : wrap64 ((n : Int) + 1) = ((n + 1 : Nat) : Int) := by unfold wrap64; omega
theorem rg_loop (l : List Int) (s : Nat) (hl : s ≤ l.length) (h8 : s ≤ 8) : ∀ (d j : Nat), d + j = s → Ev (fun k => marigraphref2_Get.l0 k l (s : Int) (getI 0 (l.take j)) (j : Int)) (getI 0 (l.take s), true) := by
  intro d
  induction d with
  | zero =>
    intro j hj
    obtain rfl : j = s := by omega
    refine Ev.step (f := fun _ => some (getI 0 (l.take j), true)) (fun k => ?_) (Ev.now _)
    simp only [marigraphref2_Get.l0]
    rw [if_neg (by omega)]
  | succ d ih =>
    intro j hj
    have hlt : j < l.length := by omega
    have e : getI 0 (l.take (j + 1)) = Go.bits .or .u64 (IntKind.u64.wrap (getI 0 (l.take j) * 256)) (IntKind.u64.wrap (rd l (j : Int))) := by
      rw [List.take_add_one, List.getElem?_eq_getElem hlt, Option.toList_some, getI_snoc]
      unfold rd
      rw [Int.toNat_natCast, List.getD_eq_getElem?_getD, List.getElem?_eq_getElem hlt]
      rfl
    have hi := ih (j + 1) (by omega)
    rw [e] at hi
    refine Ev.step (fun k => ?_) hi
    simp only [marigraphref2_Get.l0]
    rw [if_pos (by omega), if_pos (by omega), if_pos (by omega), rg_nxt (by omega)]
theorem rg_tells (l : List Int) (s : Nat) (h8 : s ≤ 8) (hl : s ≤ l.length) : Ev (fun k => marigraphref2_Get.f k l (s : Int)) (getI 0 (l.take s), true) := by
  unfold marigraphref2_Get.f
  simp only [if_neg (show ¬ (s : Int) < 0 by omega), if_neg (show ¬ (s : Int) > 8 by omega), decide_eq_false (show ¬ (l.length : Int) < (s : Int) by omega)]
  refine Ev.step (fun k => ?_) (rg_loop l s hl h8 s 0 rfl)
  simp only [marigraphref2_Get.j0]
  rw [if_neg (by decide)]
  rfl
theorem rg_not (l : List Int) (s : Nat) (h : 8 < s ∨ l.length < s) : Ev (fun k => marigraphref2_Get.f k l (s : Int)) (0, false) := by
  have hj : Ev (fun k => marigraphref2_Get.j0 k l (s : Int) true) (0, false) := by
    refine Ev.step (f := fun _ => some (0, false)) (fun k => ?_) (Ev.now _)
    simp only [marigraphref2_Get.j0, if_true]
  unfold marigraphref2_Get.f
  simp only [if_neg (show ¬ (s : Int) < 0 by omega)]
  by_cases h8 : (s : Int) > 8
  · simp only [if_pos h8]
    exact hj
  · simp only [if_neg h8, decide_eq_true (show (l.length : Int) < (s : Int) by omega)]
    exact hj

/-- The reader: what it has left, whether bytes lacked. -/
structure Rr (w0 w : World) (g : Nat) (p : List Int × Bool) : Prop where
  at_ : ∃ A c, w.heap[g]? = some (.cells #[.slice A p.1.length c, .bool p.2] 55 (0, 0)) ∧ Kd.C (Kd.int .u8) w0 A p.1.length p.1 ∧ p.1.length ≤ c
  below : Below w0.heap.size w0 w
  own : w0.heap.size ≤ g
theorem Rr.alloc {w0 w : World} {g : Nat} {q : List Int × Bool} (h : Rr w0 w g q) (o : Obj) : Rr w0 (w.alloc o) g q := by
  obtain ⟨⟨A, c, hb, hC, hc⟩, HB, hg⟩ := h
  exact ⟨⟨A, c, blk_alloc hb o, hC, hc⟩, below_alloc HB o, hg⟩
theorem Rr.drew {w0 w : World} {g : Nat} {q : List Int × Bool} (h : Rr w0 w g q) : Rr w0 w.drew g q := by
  obtain ⟨⟨A, c, hb, hC, hc⟩, HB, hg⟩ := h
  exact ⟨⟨A, c, blk_drew hb, hC, hc⟩, below_drew1 HB, hg⟩
theorem Rr.drewN {w0 w : World} {g : Nat} {q : List Int × Bool} (h : Rr w0 w g q) (n : Nat) : Rr w0 (w.drewN n) g q := by
  obtain ⟨⟨A, c, hb, hC, hc⟩, HB, hg⟩ := h
  exact ⟨⟨A, c, blk_drewN hb n, hC, hc⟩, pw_below_drewN HB n, hg⟩
theorem Rr.far {w0 w : World} {g g' j : Nat} {q : List Int × Bool} (h : Rr w0 w g q) (hne : g ≠ g') (hg' : w0.heap.size ≤ g') (v : Value) : Rr w0 (w.setCell ⟨g', j, none⟩ v) g q := by
  obtain ⟨⟨A, c, hb, hC, hc⟩, HB, hg⟩ := h
  exact ⟨⟨A, c, blk_far (p := ⟨g', j, none⟩) hb hne v, hC, hc⟩, below_set HB hg', hg⟩
theorem Rr.grown {w0 w w1 : World} {g : Nat} {row : Option Nat} {q : List Int × Bool} (h : Rr w0 w g q) (hg1 : w.grownBy w1 row) (hne : some g ≠ row) (hB : Below w0.heap.size w0 w1) : Rr w0 w1 g q := by
  obtain ⟨⟨A, c, hb, hC, hc⟩, HB, hg⟩ := h
  exact ⟨⟨A, c, blk_grown hb hg1 hne, hC, hc⟩, hB, hg⟩
/-- What Num tells, and leaves. -/
def rNum (s : Nat) (p : List Int × Bool) : Int × (List Int × Bool) := if p.1.length < s then (0, ([], true)) else (wrap64 (getI 0 (p.1.take s)), (p.1.drop s, p.2))
set_option maxHeartbeats 8000000 in
set_option maxRecDepth 100000 in
theorem Num_calls {w0 w : World} {g s : Nat} {p : List Int × Bool} (h : Rr w0 w g p) (N : Int) (hN : N = (s : Int)) (hs8 : s ≤ 8) :
    Calls Try.prog 28 #[.pointer (some ⟨g, 0, none⟩), .int .i64 N] w fun e w' => e = .returned (.int .i64 (rNum s p).1) ∧ KeepBut w w' g none ∧ Rr w0 w' g (rNum s p).2 := by
  obtain ⟨q, bad⟩ := p
  subst hN
  obtain ⟨⟨A, c, hb, hC, hc⟩, HB, hg⟩ := h
  have hu55 := Try.underlying55
  have hlt := blk_lt hb
  dsimp only at hb hC hc
  have hce0 : w.cell? ⟨g, 0, none⟩ = some (.slice A q.length c) := (blk_cell hb 0).trans rfl
  have hce1 : w.cell? ⟨g, 1, none⟩ = some (.bool bad) := (blk_cell hb 1).trans rfl
  have hf0 := blk_frozen hb 0
  have hf1 := blk_frozen hb 1
  have hCw := Kd.C_below hC HB
  unfold rNum
  dsimp only
  by_cases hq : q.length < s
  · rw [if_pos hq]
    obtain ⟨K, hK⟩ := rg_not q s (.inr hq)
    have hget := hK K (Nat.le_refl _)
    go_enter Try.func28, Try.ntmps28
    go_wp2_with (go_at_call 32; refine (marigraphref2_Get.calls K A c q (s : Int) _ _ _ hCw hc hget).mono ?_; rintro e w1 ⟨rfl, n, rfl⟩)
    go_ret
    refine ⟨rfl, ((keep_drewN (KeepBut.refl _ _ _) n).set_ 1 _).set_ 0 _, ⟨none, 0, (blk_put (blk_put (blk_drewN hb n) 1 (.bool true) rfl) 0 (.slice none 0 0) rfl).trans rfl, Kd.C_nil _ _, Nat.le_refl _⟩, below_set (below_set (pw_below_drewN HB n) hg) hg, hg⟩
  · rw [if_neg hq]
    obtain ⟨K, hK⟩ := rg_tells q s hs8 (by omega)
    have hget := hK K (Nat.le_refl _)
    obtain ⟨i0, hi0, _, hsz0, _⟩ := info_parts info5
    obtain ⟨A2, hcut2, hR2, hc2⟩ := print_drop_of (P := Try.prog) (Value.int .u8) 0 29 5 .i64 Try.underlying29 hi0 hsz0 A c q (s : Int) (by omega) (by omega) hc
    rw [Int.toNat_natCast] at hcut2 hR2 hc2
    have hC2 : Kd.C (Kd.int .u8) w0 A2 (q.drop s).length (q.drop s) := Kd.C_of_reads (hR2 _ (Kd.reads_of_C (d := (0 : Int)) hC))
    clear hR2 hK
    generalize getI 0 (q.take s) = x at *
    generalize q.drop s = r at *
    go_enter Try.func28, Try.ntmps28
    go_wp2_with (go_at_call 32; refine (marigraphref2_Get.calls K A c q (s : Int) _ _ _ hCw hc hget).mono ?_; rintro e w1 ⟨rfl, n, rfl⟩)
    go_ret
    exact ⟨rfl, (keep_drewN (KeepBut.refl _ _ _) n).set_ 0 _, ⟨A2, c - s, (blk_put (blk_drewN hb n) 0 _ rfl).trans rfl, hC2, hc2⟩, below_set (pw_below_drewN HB n) hg, hg⟩
/-- How it stands: the result's block, the row's own, the reader. -/
structure DS (w w' : World) (e6 : Nat) (p : List Int × Bool) (m b : Int) (v : Value) (tags : List S23) : Prop where
  res : w'.heap[w.heap.size]? = some (.cells #[.int .i64 0, .int .i64 0, .slice none 0 0] 26 (0, 0))
  loc : w'.heap[e6]? = some (.cells #[.int .i64 m, .int .i64 b, v] 26 (0, 0))
  gt : w.heap.size + 1 < e6
  own : Kd.R k23 23 w' w.heap.size (fun _ => True) v tags
  rd : Rr w w' (w.heap.size + 1) p
theorem DS.call {w w' w'' : World} {e6 : Nat} {p p' : List Int × Bool} {m b : Int} {v : Value} {tags : List S23} (h : DS w w' e6 p m b v tags) (hk : KeepBut w' w'' (w.heap.size + 1) none) (hr : Rr w w'' (w.heap.size + 1) p') : DS w w'' e6 p' m b v tags := by
  obtain ⟨⟨A, c, hb, -, -⟩, -, -⟩ := h.rd
  exact ⟨hk.blk h.res (by omega) (by simp), hk.blk h.loc (by have := h.gt; omega) (by simp), h.gt, Kd.R_mono (Kd.R_keep (Kd.R_types h.own hb (by decide)) hk (fun _ hk' => hk'.2)) (fun _ _ => trivial), hr⟩
theorem DS.drew {w w' : World} {e6 : Nat} {p : List Int × Bool} {m b : Int} {v : Value} {tags : List S23} (h : DS w w' e6 p m b v tags) : DS w w'.drew e6 p m b v tags := ⟨blk_drew h.res, blk_drew h.loc, h.gt, Kd.R_drew h.own, h.rd.drew⟩
/-- The tags, one by one. -/
def rfTags : Nat → List Int × Bool → List S23 → List S23 × (List Int × Bool)
  | 0, p, acc => (acc, p)
  | n + 1, p, acc => rfTags n (rNum 3 (rNum 3 p).2).2 (acc ++ [⟨(rNum 3 p).1, (rNum 3 (rNum 3 p).2).1⟩])
def rfBad : Int × Int × List S23 × Int × Bool := (0, 0, [], 0, false)
def marigraphref14_Decode.f (k : Nat) (l0 : List Int) : Option (Int × Int × List S23 × Int × Bool) :=
  if (rNum 1 (rNum 4 (rNum 3 (rNum 1 (l0, false)).2).2).2).1 > 4 then some rfBad else
  if 0 ≤ (rNum 1 (rNum 4 (rNum 3 (rNum 1 (l0, false)).2).2).2).1 then
  if (rfTags (rNum 1 (rNum 4 (rNum 3 (rNum 1 (l0, false)).2).2).2).1.toNat (rNum 1 (rNum 4 (rNum 3 (rNum 1 (l0, false)).2).2).2).2 []).2.2 = true then some rfBad else
  (marigraphref14_Right.f k (rNum 3 (rNum 1 (l0, false)).2).1 (rNum 4 (rNum 3 (rNum 1 (l0, false)).2).2).1 (rfTags (rNum 1 (rNum 4 (rNum 3 (rNum 1 (l0, false)).2).2).2).1.toNat (rNum 1 (rNum 4 (rNum 3 (rNum 1 (l0, false)).2).2).2).2 []).1).bind fun t =>
    if t = true then some ((rNum 3 (rNum 1 (l0, false)).2).1, (rNum 4 (rNum 3 (rNum 1 (l0, false)).2).2).1, (rfTags (rNum 1 (rNum 4 (rNum 3 (rNum 1 (l0, false)).2).2).2).1.toNat (rNum 1 (rNum 4 (rNum 3 (rNum 1 (l0, false)).2).2).2).2 []).1, 9 + 6 * (rNum 1 (rNum 4 (rNum 3 (rNum 1 (l0, false)).2).2).2).1, true) else some rfBad
  else none
theorem marigraphref14_Decode.mono : ∀ a0 k, LeO (marigraphref14_Decode.f k a0) (marigraphref14_Decode.f (k + 1) a0) := by
  intro a0 k
  unfold marigraphref14_Decode.f
  repeat' first
    | (with_reducible exact LeO.refl _)
    | (with_reducible exact LeO.none _)
    | (with_reducible exact marigraphref14_Right.mono _ _ _ _)
    | (with_reducible refine LeO.ite ?_ ?_)
    | (with_reducible refine LeO.bind ?_ (fun _ => ?_))
set_option maxHeartbeats 8000000 in
set_option maxRecDepth 100000 in
theorem marigraphref14_Decode.calls (k : Nat) (A0 : Option Addr) (c0 : Nat) (l0 : List Int) (r1 : Int) (r2 : Int) (r3 : List S23) (r4 : Int) (r5 : Bool) (w : World) (hr0 : Kd.C (Kd.int .u8) w A0 l0.length l0) (hc0 : l0.length ≤ c0) (h : marigraphref14_Decode.f k l0 = some (r1, r2, r3, r4, r5)) :
    Calls Try.prog 22 #[.slice A0 l0.length c0] w fun e w' => ∃ v2_ : Value, e = .returned (.tuple #[.agg #[.int .i64 r1, .int .i64 r2, v2_], .int .i64 r4, .bool r5]) ∧ Kd.R k23 23 w' w.heap.size (fun _ => True) v2_ r3 ∧ Below w.heap.size w w' := by
  have hu55 := Try.underlying55
  have hu26 := Try.underlying26
  unfold marigraphref14_Decode.f at h
  have hR0 : Rr w ((w.alloc (Obj.cells #[Value.int .i64 0, Value.int .i64 0, Value.slice none 0 0] 26)).alloc (Obj.cells #[Value.slice A0 l0.length c0, Value.bool false] 55)) (w.heap.size + 1) (l0, false) := by
    have z1 : (w.alloc (Obj.cells #[Value.int .i64 0, Value.int .i64 0, Value.slice none 0 0] 26)).heap.size = w.heap.size + 1 := Array.size_push _
    have b1 := blk_new (w.alloc (Obj.cells #[Value.int .i64 0, Value.int .i64 0, Value.slice none 0 0] 26)) (Obj.cells #[Value.slice A0 l0.length c0, Value.bool false] 55)
    rw [z1] at b1
    exact ⟨⟨A0, c0, b1, hr0, hc0⟩, below_alloc (below_alloc (Below.refl _ _) _) _, by omega⟩
  have hb0 := blk_alloc (blk_new w (Obj.cells #[Value.int .i64 0, Value.int .i64 0, Value.slice none 0 0] 26)) (Obj.cells #[Value.slice A0 l0.length c0, Value.bool false] 55)
  go_enter Try.func22, Try.ntmps22
  go_upto_region 2 with (fail)
  generalize ((w.alloc (Obj.cells #[Value.int .i64 0, Value.int .i64 0, Value.slice none 0 0] 26)).alloc (Obj.cells #[Value.slice A0 l0.length c0, Value.bool false] 55)) = w1 at hR0 hb0 ⊢
  have hN1 := Num_calls hR0 1 (s := 1) rfl (by decide)
  generalize rNum 1 (l0, false) = p1 at *
  obtain ⟨_, p1⟩ := p1
  dsimp only at h hN1
  go_upto_region 3 with (go_at_call 28; refine hN1.mono ?_; rintro e w2 ⟨rfl, hk2, hr2⟩)
  have hb2 := hk2.blk hb0 (by omega) (by simp)
  clear hb0 hR0 hN1 hk2 hr0 hc0
  have hN2 := Num_calls hr2 3 (s := 3) rfl (by decide)
  generalize rNum 3 p1 = pm at *
  obtain ⟨m, p2⟩ := pm
  dsimp only at h hN2
  have hN3 := fun (w3 : World) (h3 : Rr w w3 (w.heap.size + 1) p2) => Num_calls h3 4 (s := 4) rfl (by decide)
  generalize rNum 4 p2 = pb at *
  obtain ⟨b, p3⟩ := pb
  dsimp only at h hN3
  go_upto_region 4 with (first | (go_at_call 28; refine hN2.mono ?_; rintro e w3 ⟨rfl, hk3, hr3⟩; clear hN2) | (go_at_call 28; refine (hN3 _ hr3).mono ?_; rintro e w4 ⟨rfl, hk4, hr4⟩))
  have hb4 := hk4.blk (hk3.blk hb2 (by omega) (by simp)) (by omega) (by simp)
  have hlt4 : w.heap.size + 1 < w4.heap.size := by obtain ⟨⟨A, c, hb, -, -⟩, -, -⟩ := hr4; exact blk_lt hb
  have hD5 : DS w (w4.alloc (Obj.cells #[Value.int .i64 m, Value.int .i64 b, Value.slice none 0 0] 26)) w4.heap.size p3 m b (.slice none 0 0) [] := ⟨blk_alloc hb4 _, blk_new _ _, hlt4, Kd.R_nil _ _ _ _ _, hr4.alloc _⟩
  clear hb2 hb4 hr2 hk3 hr3 hk4 hr4 hN3 hlt4
  generalize (w4.alloc (Obj.cells #[Value.int .i64 m, Value.int .i64 b, Value.slice none 0 0] 26)) = w5 at hD5 ⊢
  generalize w4.heap.size = e6 at hD5 ⊢
  have hN4 := Num_calls hD5.rd 1 (s := 1) rfl (by decide)
  generalize rNum 1 p3 = pn at *
  obtain ⟨n, p4⟩ := pn
  dsimp only at h hN4
  by_cases c1 : n > 4
  · rw [if_pos c1] at h
    obtain ⟨rfl, rfl, rfl, rfl, rfl⟩ : r1 = 0 ∧ r2 = 0 ∧ r3 = [] ∧ r4 = 0 ∧ r5 = false := by
      have e := Option.some.inj h
      unfold rfBad at e
      injection e with e1 e
      injection e with e2 e
      injection e with e3 e
      injection e with e4 e5
      exact ⟨e1.symm, e2.symm, e3.symm, e4.symm, e5.symm⟩
    go_upto_region 6 with (go_at_call 28; refine hN4.mono ?_; rintro e w6 ⟨rfl, hk6, hr6⟩)
    have hD6 := hD5.call hk6 hr6
    have x0 : w6.cell? ⟨w.heap.size, 0, none⟩ = some (.int .i64 0) := (blk_cell hD6.res 0).trans rfl
    have x1 : w6.cell? ⟨w.heap.size, 1, none⟩ = some (.int .i64 0) := (blk_cell hD6.res 1).trans rfl
    have x2 : w6.cell? ⟨w.heap.size, 2, none⟩ = some (.slice none 0 0) := (blk_cell hD6.res 2).trans rfl
    have y0 := blk_frozen hD6.res 0
    have y1 := blk_frozen hD6.res 1
    have y2 := blk_frozen hD6.res 2
    go_wp2
    have b3 := blk_put (blk_put (blk_put hD6.res 0 (.int .i64 0) rfl) 1 (.int .i64 0) rfl) 2 (.slice none 0 0) rfl
    refine bodyPost_ret (results_list (rs := [.cell 2 26, .tmp 3, .tmp 4]) rfl (by simp) (.cell w.heap.size 26 _ (0, 0) _ rfl b3 hu26 rfl (by kernel_rfl) (.tmp (.tmp .nil)))) rfl ⟨.slice none 0 0, rfl, Kd.R_nil _ _ _ _ _, below_set (below_set (below_set hD6.rd.below (Nat.le_refl _)) (Nat.le_refl _)) (Nat.le_refl _)⟩
  rw [if_neg c1] at h
  by_cases c2 : 0 ≤ n
  rotate_left
  · rw [if_neg c2] at h; cases h
  rw [if_pos c2] at h
  obtain ⟨rt, hrt⟩ : ∃ z, z = rfTags n.toNat p4 [] := ⟨_, rfl⟩
  rw [← hrt] at h
  have hn4 : n ≤ 4 := by omega
  have hdn : decide (n > 4) = false := decide_eq_false c1
  go_wp2_with (go_at_call 28; refine hN4.mono ?_; rintro e w6 ⟨rfl, hk6, hr6⟩; have hD6 := hD5.call hk6 hr6)
  clear hN4 hD5 hk6 hr6
  go_loopg [8] (n.toNat + 1) (fun kq v8 w' => ∃ (i : Int) (p : List Int × Bool) (v : Value) (acc : List S23), v8 = .int .i64 i ∧ Aside0 (0 ≤ i ∧ i ≤ n ∧ n.toNat + 1 ≤ kq + i.toNat ∧ acc.length ≤ i.toNat) ∧ Aside0 (rt = rfTags (n - i).toNat p acc) ∧ Aside0 (DS w w' e6 p m b v acc))
  case atStart => exact ⟨0, p4, _, [], rfl, ⟨by omega, by omega, by omega, Nat.zero_le _⟩, ⟨by rw [Int.sub_zero]; exact hrt⟩, ⟨hD6⟩⟩
  case round =>
    clear hD6 hrt
    obtain ⟨i, p, v, acc, rfl, hi, hrt, hD⟩ := hrel
    have hrt := hrt.out
    have hD := hD.out
    obtain ⟨Ao, co, rfl, hco, hRo⟩ := Kd.R_reads hD.own
    by_cases hin : i < n
    rotate_left
    · have hd : decide (i < n) = false := decide_eq_false hin
      rw [show (n - i).toNat = 0 by have := hi.out; omega, rfTags] at hrt
      subst hrt
      dsimp only at h
      obtain ⟨⟨A, c, hb, hC, hc⟩, HB, hg⟩ := hD.rd
      have x0 : wr.cell? ⟨e6, 0, none⟩ = some (.int .i64 m) := (blk_cell hD.loc 0).trans rfl
      have x1 : wr.cell? ⟨e6, 1, none⟩ = some (.int .i64 b) := (blk_cell hD.loc 1).trans rfl
      have x2 : wr.cell? ⟨e6, 2, none⟩ = some (.slice Ao acc.length co) := (blk_cell hD.loc 2).trans rfl
      have x3 : wr.cell? ⟨w.heap.size + 1, 1, none⟩ = some (.bool p.2) := (blk_cell hb 1).trans rfl
      have bad : ∀ (w9 : World), wr.heap.size ≤ w9.heap.size → Below wr.heap.size wr w9 → some rfBad = some (r1, r2, r3, r4, r5) → ∀ (tmps : Array Value), tmps.getD 2 undef = .pointer (some ⟨w.heap.size, 0, none⟩) → tmps.getD 3 undef = .int .i64 0 → tmps.getD 4 undef = .bool false →
          bodyPost Try.prog Try.f22 (fun e w' => ∃ v2_ : Value, e = .returned (.tuple #[.agg #[.int .i64 r1, .int .i64 r2, v2_], .int .i64 r4, .bool r5]) ∧ Kd.R k23 23 w' w.heap.size (fun _ => True) v2_ r3 ∧ Below w.heap.size w w') .ret { tmps := tmps, defers := [] } (((w9.setCell ⟨w.heap.size, 0, none⟩ (.int .i64 0)).setCell ⟨w.heap.size, 1, none⟩ (.int .i64 0)).setCell ⟨w.heap.size, 2, none⟩ (.slice none 0 0)) := by
        intro w9 _ hbel he tmps t2 t3 t4
        have e := Option.some.inj he
        unfold rfBad at e
        injection e with e1 e
        injection e with e2 e
        injection e with e3 e
        injection e with e4 e5
        subst e1 e2 e3 e4 e5
        have b3 := blk_put (blk_put (blk_put (blk_below hD.res hbel) 0 (.int .i64 0) rfl) 1 (.int .i64 0) rfl) 2 (.slice none 0 0) rfl
        refine bodyPost_ret (results_list (rs := [.cell 2 26, .tmp 3, .tmp 4]) rfl (by simp) (.cell w.heap.size 26 _ (0, 0) _ t2 b3 hu26 rfl (by kernel_rfl) (.tmp (.tmp .nil)))) rfl ⟨.slice none 0 0, ?_, Kd.R_nil _ _ _ _ _, below_set (below_set (below_set (below_step HB hbel) (Nat.le_refl _)) (Nat.le_refl _)) (Nat.le_refl _)⟩
        rw [t3, t4]
        rfl
      have z0 : ∀ w9, Below wr.heap.size wr w9 → w9.cell? ⟨w.heap.size, 0, none⟩ = some (.int .i64 0) ∧ w9.cell? ⟨w.heap.size, 1, none⟩ = some (.int .i64 0) ∧ w9.cell? ⟨w.heap.size, 2, none⟩ = some (.slice none 0 0) ∧ w9.frozen? ⟨w.heap.size, 0, none⟩ = false ∧ w9.frozen? ⟨w.heap.size, 1, none⟩ = false ∧ w9.frozen? ⟨w.heap.size, 2, none⟩ = false := fun w9 hb9 =>
        ⟨(blk_cell (blk_below hD.res hb9) 0).trans rfl, (blk_cell (blk_below hD.res hb9) 1).trans rfl, (blk_cell (blk_below hD.res hb9) 2).trans rfl, blk_frozen (blk_below hD.res hb9) 0, blk_frozen (blk_below hD.res hb9) 1, blk_frozen (blk_below hD.res hb9) 2⟩
      obtain ⟨q, lacked⟩ := p
      dsimp only at h x3
      cases lacked with
      | true =>
        rw [if_pos rfl] at h
        obtain ⟨u0, u1, u2, y0, y1, y2⟩ := z0 wr (Below.refl _ _)
        clear z0
        go_wp2
        exact bad wr (Nat.le_refl _) (Below.refl _ _) h _ rfl rfl rfl
      | false =>
        rw [if_neg (fun e => Bool.noConfusion e)] at h
        obtain ⟨t, ht, h⟩ := Option.bind_eq_some_iff.1 h
        have hRight := marigraphref14_Right.calls k m b Ao co acc t wr hRo hco ht
        cases t with
        | false =>
          rw [if_neg (fun e => Bool.noConfusion e)] at h
          go_upto_region 12 with (go_at_call 17; refine hRight.mono ?_; rintro e w9 ⟨rfl, hb9⟩)
          obtain ⟨u0, u1, u2, y0, y1, y2⟩ := z0 w9 hb9
          clear z0
          go_wp2
          exact bad w9 hb9.size hb9 h _ rfl rfl rfl
        | true =>
          rw [if_pos rfl] at h
          have e := Option.some.inj h
          injection e with e1 e
          injection e with e2 e
          injection e with e3 e
          injection e with e4 e5
          subst e1 e2 e3 e4 e5
          have hw6 : wrap64 (6 * n) = 6 * n := by unfold wrap64; omega
          have hw9 : wrap64 (9 + 6 * n) = 9 + 6 * n := by unfold wrap64; omega
          go_upto_region 13 with (go_at_call 17; refine hRight.mono ?_; rintro e w9 ⟨rfl, hb9⟩)
          obtain ⟨u0, u1, u2, y0, y1, y2⟩ := z0 w9 hb9
          clear z0
          have x0' : w9.cell? ⟨e6, 0, none⟩ = some (.int .i64 m) := (blk_cell (blk_below hD.loc hb9) 0).trans rfl
          have x1' : w9.cell? ⟨e6, 1, none⟩ = some (.int .i64 b) := (blk_cell (blk_below hD.loc hb9) 1).trans rfl
          have x2' : w9.cell? ⟨e6, 2, none⟩ = some (.slice Ao acc.length co) := (blk_cell (blk_below hD.loc hb9) 2).trans rfl
          have R9 := Kd.R_below hD.own hb9
          have B9 := below_step HB hb9
          have r9 := blk_below hD.res hb9
          clear bad x0 x1 x2 x3 hRight
          go_wp2
          have b1 := blk_put r9 0 (.int .i64 m) rfl
          have b2 := blk_put b1 1 (.int .i64 b) rfl
          have b3 := blk_put b2 2 (.slice Ao acc.length co) rfl
          refine bodyPost_ret (results_list (rs := [.cell 2 26, .tmp 3, .tmp 4]) rfl (by simp) (.cell w.heap.size 26 _ (0, 0) _ rfl b3 hu26 rfl (by kernel_rfl) (.tmp (.tmp .nil)))) rfl ⟨.slice Ao acc.length co, ?_, Kd.R_set (Kd.R_set (Kd.R_set R9 r9 (by decide) 0 _) b1 (by decide) 1 _) b2 (by decide) 2 _, below_set (below_set (below_set B9 (Nat.le_refl _)) (Nat.le_refl _)) (Nat.le_refl _)⟩
          first | rfl | (rw [hw6, hw9]; rfl) | (simp only [hw6, hw9]; rfl)
    · have hd : decide (i < n) = true := decide_eq_true hin
      obtain ⟨k', hk'⟩ : ∃ k', (n - i).toNat = k' + 1 := ⟨(n - i).toNat - 1, by have := hi.out; omega⟩
      rw [hk', rfTags] at hrt
      have x2 : wr.cell? ⟨e6, 2, none⟩ = some (.slice Ao acc.length co) := (blk_cell hD.loc 2).trans rfl
      have hW := hD.drew
      go_upto_region 10 with (fail)
      refine start_ (n := 11) (S := fun w' => w'.cell? ⟨e6, 2, none⟩ = some (.slice Ao acc.length co)) (ds := [10]) (bA 11 0) (by kernel_rfl) rfl rfl x2 (fun hHeld => ?_)
      clear hD hRo x2
      generalize wr.drew = W0 at hHeld hW ⊢
      refine norm_ (by rfl) ?_
      refine pK 0 (some 29) (bA 11 1) ?_
      refine tK 1 (some 30) (bA 11 3) rfl rfl hHeld (by rintro w' s0; go_simp; with_reducible rfl) ?_
      refine pK 2 (some 31) (bA 11 7) ?_
      refine pK 4 (some 33) (bA 11 23) ?_
      refine one_ (i := 3) (N := some 32) (bA 11 31) rfl rfl (by kernel_rfl) (by decide) (fun K hK => ?_)
      have hM1 := Num_calls hW.rd 3 (s := 3) rfl (by decide)
      generalize rNum 3 p = g1 at *
      obtain ⟨t1, p1'⟩ := g1
      dsimp only at hrt hM1
      refine goes_ Try.func28 (by kernel_rfl) rfl #[.pointer (some ⟨w.heap.size + 1, 0, none⟩), .int .i64 3] (by rfl) rfl rfl (by simp only [List.map_toArray, List.map_cons, List.map_nil]; rfl) ?_
      refine hM1.mono ?_
      rintro e w3 ⟨rfl, hk3, hr3⟩
      refine ⟨_, rfl, ?_⟩
      have h3 := hW.call hk3 hr3
      clear hr3 hk3 hW hM1
      refine hK.out _ _ ((blk_cell h3.loc 2).trans rfl) (fun hHeld => ?_)
      clear hK K
      refine nK (some 32) ?_
      refine one_ (i := 5) (N := some 34) (bA 11 63) rfl rfl (by kernel_rfl) (by decide) (fun K hK => ?_)
      have hM2 := Num_calls h3.rd 3 (s := 3) rfl (by decide)
      generalize rNum 3 p1' = g2 at *
      obtain ⟨t2, p2'⟩ := g2
      dsimp only at hrt hM2
      refine goes_ Try.func28 (by kernel_rfl) rfl #[.pointer (some ⟨w.heap.size + 1, 0, none⟩), .int .i64 3] (by rfl) rfl rfl (by simp only [List.map_toArray, List.map_cons, List.map_nil]; rfl) ?_
      refine hM2.mono ?_
      rintro e w4 ⟨rfl, hk4, hr4⟩
      refine ⟨_, rfl, ?_⟩
      have h4 := h3.call hk4 hr4
      clear hr4 hk4 h3 hM2
      refine hK.out _ _ ((blk_cell h4.loc 2).trans rfl) (fun hHeld => ?_)
      clear hK K
      refine nK (some 34) ?_
      refine pK 6 (some 35) (bA 11 127) ?_
      refine one_ (i := 7) (N := some 36) (bA 11 255) rfl rfl (by kernel_rfl) (by decide) (fun K hK => ?_)
      refine value_ (w1 := w4.alloc (.cells #[.int .i64 t1, .int .i64 t2] 23)) (v := .slice (some ⟨w4.heap.size, 0, none⟩) 1 1) (by rfl) rfl ?rm7 ?_
      case rm7 => go_simp
      refine hK.out _ _ ((blk_cell (blk_alloc h4.loc _) 2).trans rfl) (fun hHeld => ?_)
      clear hK K
      refine nK (some 36) ?_
      refine one_ (i := 8) (N := some 37) (bA 11 511) rfl rfl (by kernel_rfl) (by decide) (fun K hK => ?_)
      refine Kd.R_append_step k23 (w0 := w) w.heap.size (by rfl) (.tmp 30) (.tmp 36) 24 23 (.agg #[.int .i64 0, .int .i64 0]) 16 rfl Try.underlying24 info23 rfl (by decide) (by omega) (.slice Ao acc.length co) acc (⟨t1, t2⟩ : S23) [.int .i64 t1, .int .i64 t2] (fun _ => True) (fun _ => False) rfl rfl (k23_mkM _ _ _ _) (fun _ hk => hk.elim) (fun _ _ => trivial) h4.own h4.rd.below h4.rd.below.size (by have := hi.out; omega) ?_
      intro v1 w5' ho hb hg4 _
      obtain ⟨⟨A3, c3, hb3, -, -⟩, -, -⟩ := h4.rd
      have ne0 := Kd.R_ne h4.own h4.res (by decide)
      have ne1 := Kd.R_ne h4.own h4.loc (by decide)
      have ne3 := Kd.R_ne h4.own hb3 (by decide)
      have g0 := blk_grown h4.res hg4 ne0
      have g1 := blk_grown h4.loc hg4 ne1
      have g3 := h4.rd.grown hg4 ne3 hb
      have hgt := h4.gt
      obtain ⟨Ao2, co2, ev1, -, -⟩ := Kd.R_reads ho
      subst ev1
      refine hK.out _ _ ((blk_cell g1 2).trans rfl) (fun hHeld => ?_)
      clear hK K
      refine nK (some 37) ?_
      refine pK 9 (some 38) (bA 11 1023) ?_
      have f2 := blk_frozen g1 2
      refine last_ (i := 10) (N := none) (bA 11 2047) rfl rfl (by kernel_rfl) (by decide) (fun K hK => ?_)
      refine skip_ (w1 := w5'.setCell ⟨e6, 2, none⟩ (.slice Ao2 (acc ++ [(⟨t1, t2⟩ : S23)]).length co2)) (by rfl) rfl ?rn11 ?_
      case rn11 => go_simp
      refine hK.out _ _ ?_
      clear hK K
      refine done_ (by kernel_rfl) ?_
      have hDn : DS w (w5'.setCell ⟨e6, 2, none⟩ (.slice Ao2 (acc ++ [(⟨t1, t2⟩ : S23)]).length co2)) e6 p2' m b (.slice Ao2 (acc ++ [(⟨t1, t2⟩ : S23)]).length co2) (acc ++ [⟨t1, t2⟩]) :=
        ⟨blk_far (p := ⟨e6, 2, none⟩) g0 (show w.heap.size ≠ e6 by omega) _, blk_put g1 2 _ rfl, hgt, Kd.R_set ho g1 (by decide) 2 _, g3.far (by omega) (by omega) _⟩
      have hw : wrap64 (i + 1) = i + 1 := by have := hi.out; unfold wrap64; omega
      clear ho hb hg4 g0 g1 g3 f2 h4 hHeld hb3 ne0 ne1 ne3
      generalize (w5'.setCell ⟨e6, 2, none⟩ (.slice Ao2 (acc ++ [(⟨t1, t2⟩ : S23)]).length co2)) = w7 at hDn ⊢
      go_wp2
      go_roundg (gk - 1)
      case measure => have := hi.out; omega
      case rel => exact ⟨i + 1, p2', _, _, by first | rfl | rw [hw], ⟨by have := hi.out; omega, by omega, by have := hi.out; omega, by have := hi.out; rw [List.length_append, List.length_singleton]; omega⟩, ⟨by rw [show (n - (i + 1)).toNat = k' by omega]; exact hrt⟩, ⟨hDn⟩⟩

/-! ### marigraphlaw14_decodes: function 9 -/
def marigraphlaw14_decodes.f (k : Nat) (l0 : List Int) : Option (Bool) := (rowkey_Decode.f k l0).bind fun bt223 => ((marigraphref14_Decode.f k l0).bind fun bt231 => (if ((bt223.2.2.2.2 == 0) == bt231.2.2.2.2) = true then (if bt231.2.2.2.2 = true then (if bt223.2.2.2.1 = bt231.2.2.2.1 then ((marigraphref14_Same.f k bt223.1 bt223.2.1 bt223.2.2.1 bt231.1 bt231.2.1 bt231.2.2.1).bind fun t239 => (some t239)) else (some false)) else (if bt223.2.2.2.2 = 12 then (if bt223.2.2.2.1 = bt231.2.2.2.1 then ((marigraphref14_Same.f k bt223.1 bt223.2.1 bt223.2.2.1 bt231.1 bt231.2.1 bt231.2.2.1).bind fun t240 => (some t240)) else (some false)) else (some false))) else (some false)))
theorem marigraphlaw14_decodes.mono : ∀ a0 k, LeO (marigraphlaw14_decodes.f k a0) (marigraphlaw14_decodes.f (k + 1) a0) := by
 intro a0 k
 unfold marigraphlaw14_decodes.f
 repeat' first
   | (with_reducible exact marigraphref14_Decode.mono _ _)
   | (with_reducible exact marigraphref14_Same.mono _ _ _ _ _ _ _)
   | (with_reducible exact rowkey_Decode.mono _ _)
   | (with_reducible exact LeO.refl _)
   | (with_reducible exact LeO.none _)
   | (with_reducible refine LeO.ite ?_ ?_)
   | (with_reducible refine LeO.bind ?_ (fun _ => ?_))
   | exact marigraphref14_Decode.mono _ _
   | exact marigraphref14_Same.mono _ _ _ _ _ _ _
   | exact rowkey_Decode.mono _ _
   | exact LeO.none _
   | refine LeO.ite ?_ ?_
   | refine LeO.bind ?_ (fun _ => ?_)
set_option maxHeartbeats 8000000 in
set_option maxRecDepth 100000 in
theorem marigraphlaw14_decodes.calls (k : Nat) (A0 : Option Addr) (c0 : Nat) (l0 : List Int) (r : Bool) (w : World) (hr0 : Kd.C (Kd.int .u8) w A0 l0.length l0) (hc0 : l0.length ≤ c0) (h : marigraphlaw14_decodes.f k l0 = some r) :
  Calls Try.prog 9 #[.slice A0 l0.length c0] w fun e w' => e = .returned (.bool r) ∧ Below w.heap.size w w' := by
 have hu26 := Try.underlying26
 have HR0 := Aside0.mk hr0
 have HC0 := Aside0.mk hc0
 clear hr0 hc0
 have HB := Aside0.mk (Below.refl w.heap.size w)
 have H : ((rowkey_Decode.f k l0).bind fun bt223 => ((marigraphref14_Decode.f k l0).bind fun bt231 => (if ((bt223.2.2.2.2 == 0) == bt231.2.2.2.2) = true then (if bt231.2.2.2.2 = true then (if bt223.2.2.2.1 = bt231.2.2.2.1 then ((marigraphref14_Same.f k bt223.1 bt223.2.1 bt223.2.2.1 bt231.1 bt231.2.1 bt231.2.2.1).bind fun t239 => (some t239)) else (some false)) else (if bt223.2.2.2.2 = 12 then (if bt223.2.2.2.1 = bt231.2.2.2.1 then ((marigraphref14_Same.f k bt223.1 bt223.2.1 bt223.2.2.1 bt231.1 bt231.2.1 bt231.2.2.1).bind fun t240 => (some t240)) else (some false)) else (some false))) else (some false)))) = some r := h
 clear h
 replace H := Option.bind_eq_some_iff.mp H
 obtain ⟨⟨t223, t224, t225, t228, t229⟩, A20, H⟩ := H
 replace H : ((marigraphref14_Decode.f k l0).bind fun bt231 => (if ((t229 == 0) == bt231.2.2.2.2) = true then (if bt231.2.2.2.2 = true then (if t228 = bt231.2.2.2.1 then ((marigraphref14_Same.f k t223 t224 t225 bt231.1 bt231.2.1 bt231.2.2.1).bind fun t239 => (some t239)) else (some false)) else (if t229 = 12 then (if t228 = bt231.2.2.2.1 then ((marigraphref14_Same.f k t223 t224 t225 bt231.1 bt231.2.1 bt231.2.2.1).bind fun t240 => (some t240)) else (some false)) else (some false))) else (some false))) = some r := H
 have A2 := Aside0.mk A20
 clear A20
 replace H := Option.bind_eq_some_iff.mp H
 obtain ⟨⟨t231, t232, t233, t236, t237⟩, A30, H⟩ := H
 replace H : (if ((t229 == 0) == t237) = true then (if t237 = true then (if t228 = t236 then ((marigraphref14_Same.f k t223 t224 t225 t231 t232 t233).bind fun t239 => (some t239)) else (some false)) else (if t229 = 12 then (if t228 = t236 then ((marigraphref14_Same.f k t223 t224 t225 t231 t232 t233).bind fun t240 => (some t240)) else (some false)) else (some false))) else (some false)) = some r := H
 have A3 := Aside0.mk A30
 clear A30
 by_cases c4 : ((t229 == 0) == t237) = true
 ·rw [if_pos c4] at H
  have c4b0 : ((t229 == 0) == t237) = true := c4
  (try (have c4b1 : decide ((t229 == 0) = t237) = true := by simpa using c4))
  (try (have c4b2 : ((t229 == 0) == t237) = true := by simpa using c4))
  clear c4
  by_cases c5 : t237 = true
  ·subst c5
   have H1 : (if t228 = t236 then ((marigraphref14_Same.f k t223 t224 t225 t231 t232 t233).bind fun t239 => (some t239)) else (some false)) = some r := by rw [if_pos rfl] at H; exact H
   clear H
   have H := H1
   clear H1
   by_cases c6 : t228 = t236
   ·rw [if_pos c6] at H
    have c6b0 : (t228 == t236) = true := beq_iff_eq.mpr c6
    have c6b1 : (t228 != t236) = false := bne_eq_false_iff_eq.mpr c6
    clear c6
    replace H := Option.bind_eq_some_iff.mp H
    obtain ⟨t239, A70, H⟩ := H
    replace H : (some t239) = some r := H
    have A7 := Aside0.mk A70
    clear A70
    obtain rfl := Option.some.inj H
    go_enter Try.func9, Try.ntmps9
    go_wp2_with (first | ((with_reducible refine gate_callee (f := 21) rfl ?_); refine goesL_ (some 11) rfl rfl Try.func21 (by kernel_rfl) rfl #[.slice A0 l0.length c0] rfl argN ?_; (with_reducible refine (rowkey_Decode.calls k _ _ l0 t223 t224 t225 t228 t229 _ ?side1 ?side2 A2.out).mono ?_); (case side1 => repeat (first | exact HR0.out | (with_reducible refine Kd.C_alloc ?_ _) | (with_reducible refine Kd.C_drewN ?_ _) | (with_reducible refine Kd.C_drew ?_))); (case side2 => exact HC0.out); rintro e w8 ⟨v226, rfl, ho0, hb⟩; refine ⟨_, rfl, ?_⟩; have n0_ := Aside0.mk (Kd.R_lower ho0 (below_size (belN HB.out))); have n1_ := Aside0.mk (below_step (belN HB.out) hb); clear HB; have HO227 := n0_; have HB := n1_; clear n0_ n1_; (try clear hb); (try clear hk); (try clear ho0)) | ((with_reducible refine gate_dst (N := 3) rfl ?_); refine box_event ?hg (N := 3) ?hd (cs := #[.int .i64 0, .int .i64 0, .slice none 0 0]) (t := 26) ?hr ?_; (case hd => rfl); (case hg => rfl); (case hr => first | (go_simp; done) | (go_simp; rfl)); intro gb230 hg w9 hbox hb; have n0_ := Aside0.mk (Kd.R_below (rowN HO227.out) hb); have n1_ := Aside0.mk (below_step (belN HB.out) hb); have n2_ := Aside0.mk (hbox); have n3_ := Aside0.mk (szB hg HB.out); have n4_ := Aside0.mk (szB hg HB.out); clear HO227; clear HB; have HO227 := n0_; have HB := n1_; have BK230 := n2_; have GW230 := n3_; have GE230 := n4_; clear n0_ n1_ n2_ n3_ n4_; clear hb hbox hg; have hcz10_0 : w9.cell? ⟨gb230, 0, none⟩ = some (.int .i64 0) := (blk_cell BK230.out 0).trans rfl; have hcz10_1 : w9.cell? ⟨gb230, 1, none⟩ = some (.int .i64 0) := (blk_cell BK230.out 1).trans rfl; have hcz10_2 : w9.cell? ⟨gb230, 2, none⟩ = some (.slice none 0 0) := (blk_cell BK230.out 2).trans rfl; have hfz10_0 := blk_frozen BK230.out 0; have hfz10_1 := blk_frozen BK230.out 1; have hfz10_2 := blk_frozen BK230.out 2; obtain ⟨Ao11, co11, eo11⟩ := Kd.R_slice HO227.out; subst eo11) | ((with_reducible refine gate_callee (f := 22) rfl ?_); refine goesL_ (some 17) rfl rfl Try.func22 (by kernel_rfl) rfl #[.slice A0 l0.length c0] rfl argN ?_; (with_reducible refine (marigraphref14_Decode.calls k _ _ l0 t231 t232 t233 t236 true _ ?side1 ?side2 A3.out).mono ?_); (case side1 => exact Kd.C_below HR0.out (belS HB.out)); (case side2 => exact HC0.out); rintro e w12 ⟨v234, rfl, ho0, hb⟩; refine ⟨_, rfl, ?_⟩; have n0_ := Aside0.mk (Kd.R_elder' (by (with_reducible repeat (first | apply Kd.R_alloc | apply Kd.R_drewN | apply Kd.R_drew)); exact (Kd.R_mono (Kd.R_far (p := ⟨gb230, 2, none⟩) (Kd.R_far (p := ⟨gb230, 1, none⟩) (Kd.R_far (p := ⟨gb230, 0, none⟩) (Kd.R_types HO227.out BK230.out (by decide)) (fun _ hk => hk.2) (.int .i64 t223)) (fun _ hk => hk.2) (.int .i64 t224)) (fun _ hk => hk.2) (.slice Ao11 t225.length co11)) (fun _ h_ => h_.1))) (Kd.R_base ho0) hb); have n1_ := Aside0.mk (Kd.R_lower (Kd.R_new' ho0 (Kd.R_lt (by (with_reducible repeat (first | apply Kd.R_alloc | apply Kd.R_drewN | apply Kd.R_drew)); exact (Kd.R_mono (Kd.R_far (p := ⟨gb230, 2, none⟩) (Kd.R_far (p := ⟨gb230, 1, none⟩) (Kd.R_far (p := ⟨gb230, 0, none⟩) (Kd.R_types HO227.out BK230.out (by decide)) (fun _ hk => hk.2) (.int .i64 t223)) (fun _ hk => hk.2) (.int .i64 t224)) (fun _ hk => hk.2) (.slice Ao11 t225.length co11)) (fun _ h_ => h_.1))))) (below_size (belS HB.out))); have n2_ := Aside0.mk (blk_below (g := gb230) (o := .cells #[.int .i64 t223, .int .i64 t224, .slice Ao11 t225.length co11] 26 (0, 0)) (by (with_reducible repeat (first | refine blk_drewN ?_ _ | refine blk_drew ?_ | refine blk_alloc ?_ _)); refine blk_put (cs := #[.int .i64 t223, .int .i64 t224, .slice none 0 0]) ?_ 2 _ rfl; (with_reducible repeat (first | refine blk_drewN ?_ _ | refine blk_drew ?_ | refine blk_alloc ?_ _)); refine blk_put (cs := #[.int .i64 t223, .int .i64 0, .slice none 0 0]) ?_ 1 _ rfl; (with_reducible repeat (first | refine blk_drewN ?_ _ | refine blk_drew ?_ | refine blk_alloc ?_ _)); refine blk_put (cs := #[.int .i64 0, .int .i64 0, .slice none 0 0]) ?_ 0 _ rfl; (with_reducible repeat (first | refine blk_drewN ?_ _ | refine blk_drew ?_ | refine blk_alloc ?_ _)); exact BK230.out) hb); have n3_ := Aside0.mk (below_step (belS HB.out) hb); clear HO227; clear BK230; clear HB; have HO227 := n0_; have HO235 := n1_; have BK230 := n2_; have HB := n3_; clear n0_ n1_ n2_ n3_; (try clear hb); (try clear hk); (try clear ho0)) | ((with_reducible refine gate_dst (N := 6) rfl ?_); refine box_event ?hg (N := 6) ?hd (cs := #[.int .i64 0, .int .i64 0, .slice none 0 0]) (t := 26) ?hr ?_; (case hd => rfl); (case hg => rfl); (case hr => first | (go_simp; done) | (go_simp; rfl)); intro gb238 hg w13 hbox hb; have n0_ := Aside0.mk (Kd.R_below (rowN HO227.out) hb); have n1_ := Aside0.mk (Kd.R_below (rowN HO235.out) hb); have n2_ := Aside0.mk (bkB BK230.out hb); have n3_ := Aside0.mk (below_step (belS HB.out) hb); have n4_ := Aside0.mk (hbox); have n5_ := Aside0.mk (szB hg HB.out); have n6_ := Aside0.mk (szB hg HB.out); have n7_ := Aside0.mk ((bk1 hg BK230.out)); have n8_ := Aside0.mk ((bk2 hg BK230.out)); clear HO227; clear HO235; clear BK230; clear HB; have HO227 := n0_; have HO235 := n1_; have BK230 := n2_; have HB := n3_; have BK238 := n4_; have GW238 := n5_; have GE238 := n6_; have NB230_238 := n7_; have NB238_230 := n8_; clear n0_ n1_ n2_ n3_ n4_ n5_ n6_ n7_ n8_; clear hb hbox hg; have hnb14 := NB238_230.out; have hnc14 := NB230_238.out; have hcz15_0 : w13.cell? ⟨gb238, 0, none⟩ = some (.int .i64 0) := (blk_cell BK238.out 0).trans rfl; have hcz15_1 : w13.cell? ⟨gb238, 1, none⟩ = some (.int .i64 0) := (blk_cell BK238.out 1).trans rfl; have hcz15_2 : w13.cell? ⟨gb238, 2, none⟩ = some (.slice none 0 0) := (blk_cell BK238.out 2).trans rfl; have hfz15_0 := blk_frozen BK238.out 0; have hfz15_1 := blk_frozen BK238.out 1; have hfz15_2 := blk_frozen BK238.out 2; obtain ⟨Ao16, co16, eo16⟩ := Kd.R_slice HO235.out; subst eo16; have hcz17_0 : w13.cell? ⟨gb230, 0, none⟩ = some (.int .i64 t223) := (blk_cell BK230.out 0).trans rfl; have hcz17_1 : w13.cell? ⟨gb230, 1, none⟩ = some (.int .i64 t224) := (blk_cell BK230.out 1).trans rfl; have hcz17_2 : w13.cell? ⟨gb230, 2, none⟩ = some (.slice Ao11 t225.length co11) := (blk_cell BK230.out 2).trans rfl; have hfz17_0 := blk_frozen BK230.out 0; have hfz17_1 := blk_frozen BK230.out 1; have hfz17_2 := blk_frozen BK230.out 2) | (go_at_call 7; (with_reducible refine (marigraphref14_Same.calls k t223 t224 _ _ t225 t231 t232 _ _ t233 t239 _ ?side1 ?side2 ?side3 ?side4 A7.out).mono ?_); (case side1 => refine (Kd.R_reads' (e := 23) (base := w.heap.size) (ok := fun k_ => (True ∧ some k_ ≠ (.slice Ao16 t233.length co16 : Value).ownBlock)) (n := t225.length) (c := co11) ?_).2.2; exact (by (with_reducible repeat (first | apply Kd.R_alloc | apply Kd.R_drewN | apply Kd.R_drew)); exact (Kd.R_mono (Kd.R_far (p := ⟨gb238, 2, none⟩) (Kd.R_far (p := ⟨gb238, 1, none⟩) (Kd.R_far (p := ⟨gb238, 0, none⟩) (Kd.R_types HO227.out BK238.out (by decide)) (fun _ hk => hk.2) (.int .i64 t231)) (fun _ hk => hk.2) (.int .i64 t232)) (fun _ hk => hk.2) (.slice Ao16 t233.length co16)) (fun _ h_ => h_.1)))); (case side2 => exact (Kd.R_reads' HO227.out).2.1); (case side3 => refine (Kd.R_reads' (e := 23) (base := w.heap.size) (ok := fun k_ => (True ∧ some k_ ≠ (.slice Ao11 t225.length co11 : Value).ownBlock)) (n := t233.length) (c := co16) ?_).2.2; exact (by (with_reducible repeat (first | apply Kd.R_alloc | apply Kd.R_drewN | apply Kd.R_drew)); exact (Kd.R_mono (Kd.R_far (p := ⟨gb238, 2, none⟩) (Kd.R_far (p := ⟨gb238, 1, none⟩) (Kd.R_far (p := ⟨gb238, 0, none⟩) (Kd.R_types HO235.out BK238.out (by decide)) (fun _ hk => hk.2) (.int .i64 t231)) (fun _ hk => hk.2) (.int .i64 t232)) (fun _ hk => hk.2) (.slice Ao16 t233.length co16)) (fun _ h_ => h_.1)))); (case side4 => exact (Kd.R_reads' HO235.out).2.1); rintro e w18 ⟨rfl, hb⟩; have n0_ := Aside0.mk (Kd.R_below (by (with_reducible repeat (first | apply Kd.R_alloc | apply Kd.R_drewN | apply Kd.R_drew)); exact (Kd.R_mono (Kd.R_far (p := ⟨gb238, 2, none⟩) (Kd.R_far (p := ⟨gb238, 1, none⟩) (Kd.R_far (p := ⟨gb238, 0, none⟩) (Kd.R_types HO227.out BK238.out (by decide)) (fun _ hk => hk.2) (.int .i64 t231)) (fun _ hk => hk.2) (.int .i64 t232)) (fun _ hk => hk.2) (.slice Ao16 t233.length co16)) (fun _ h_ => h_.1))) hb); have n1_ := Aside0.mk (Kd.R_below (by (with_reducible repeat (first | apply Kd.R_alloc | apply Kd.R_drewN | apply Kd.R_drew)); exact (Kd.R_mono (Kd.R_far (p := ⟨gb238, 2, none⟩) (Kd.R_far (p := ⟨gb238, 1, none⟩) (Kd.R_far (p := ⟨gb238, 0, none⟩) (Kd.R_types HO235.out BK238.out (by decide)) (fun _ hk => hk.2) (.int .i64 t231)) (fun _ hk => hk.2) (.int .i64 t232)) (fun _ hk => hk.2) (.slice Ao16 t233.length co16)) (fun _ h_ => h_.1))) hb); have n2_ := Aside0.mk (bkBF BK230.out hb); have n3_ := Aside0.mk (blk_below (g := gb238) (o := .cells #[.int .i64 t231, .int .i64 t232, .slice Ao16 t233.length co16] 26 (0, 0)) (by (with_reducible repeat (first | refine blk_drewN ?_ _ | refine blk_drew ?_ | refine blk_alloc ?_ _)); refine blk_put (cs := #[.int .i64 t231, .int .i64 t232, .slice none 0 0]) ?_ 2 _ rfl; (with_reducible repeat (first | refine blk_drewN ?_ _ | refine blk_drew ?_ | refine blk_alloc ?_ _)); refine blk_put (cs := #[.int .i64 t231, .int .i64 0, .slice none 0 0]) ?_ 1 _ rfl; (with_reducible repeat (first | refine blk_drewN ?_ _ | refine blk_drew ?_ | refine blk_alloc ?_ _)); refine blk_put (cs := #[.int .i64 0, .int .i64 0, .slice none 0 0]) ?_ 0 _ rfl; (with_reducible repeat (first | refine blk_drewN ?_ _ | refine blk_drew ?_ | refine blk_alloc ?_ _)); exact BK238.out) hb); have n4_ := Aside0.mk (below_step (belS HB.out) hb); clear HO227; clear HO235; clear BK230; clear BK238; clear HB; have HO227 := n0_; have HO235 := n1_; have BK230 := n2_; have BK238 := n3_; have HB := n4_; clear n0_ n1_ n2_ n3_ n4_; (try clear hb); (try clear hk)))
    go_ret
    exact ⟨by first | rfl | (simp [errW_none, errW_some] <;> rfl) | (simp [*, errW_none, errW_some] <;> rfl), (belS HB.out)⟩
   ·rw [if_neg c6] at H
    have c6b0 : (t228 == t236) = false := beq_eq_false_iff_ne.mpr c6
    have c6b1 : (t228 != t236) = true := bne_iff_ne.mpr c6
    obtain rfl := Option.some.inj H
    go_enter Try.func9, Try.ntmps9
    go_wp2_with (first | ((with_reducible refine gate_callee (f := 21) rfl ?_); refine goesL_ (some 11) rfl rfl Try.func21 (by kernel_rfl) rfl #[.slice A0 l0.length c0] rfl argN ?_; (with_reducible refine (rowkey_Decode.calls k _ _ l0 t223 t224 t225 t228 t229 _ ?side1 ?side2 A2.out).mono ?_); (case side1 => repeat (first | exact HR0.out | (with_reducible refine Kd.C_alloc ?_ _) | (with_reducible refine Kd.C_drewN ?_ _) | (with_reducible refine Kd.C_drew ?_))); (case side2 => exact HC0.out); rintro e w19 ⟨v226, rfl, ho0, hb⟩; refine ⟨_, rfl, ?_⟩; have n0_ := Aside0.mk (Kd.R_lower ho0 (below_size (belN HB.out))); have n1_ := Aside0.mk (below_step (belN HB.out) hb); clear HB; have HO227 := n0_; have HB := n1_; clear n0_ n1_; (try clear hb); (try clear hk); (try clear ho0)) | ((with_reducible refine gate_dst (N := 3) rfl ?_); refine box_event ?hg (N := 3) ?hd (cs := #[.int .i64 0, .int .i64 0, .slice none 0 0]) (t := 26) ?hr ?_; (case hd => rfl); (case hg => rfl); (case hr => first | (go_simp; done) | (go_simp; rfl)); intro gb230 hg w20 hbox hb; have n0_ := Aside0.mk (Kd.R_below (rowN HO227.out) hb); have n1_ := Aside0.mk (below_step (belN HB.out) hb); have n2_ := Aside0.mk (hbox); have n3_ := Aside0.mk (szB hg HB.out); have n4_ := Aside0.mk (szB hg HB.out); clear HO227; clear HB; have HO227 := n0_; have HB := n1_; have BK230 := n2_; have GW230 := n3_; have GE230 := n4_; clear n0_ n1_ n2_ n3_ n4_; clear hb hbox hg; have hcz21_0 : w20.cell? ⟨gb230, 0, none⟩ = some (.int .i64 0) := (blk_cell BK230.out 0).trans rfl; have hcz21_1 : w20.cell? ⟨gb230, 1, none⟩ = some (.int .i64 0) := (blk_cell BK230.out 1).trans rfl; have hcz21_2 : w20.cell? ⟨gb230, 2, none⟩ = some (.slice none 0 0) := (blk_cell BK230.out 2).trans rfl; have hfz21_0 := blk_frozen BK230.out 0; have hfz21_1 := blk_frozen BK230.out 1; have hfz21_2 := blk_frozen BK230.out 2; obtain ⟨Ao22, co22, eo22⟩ := Kd.R_slice HO227.out; subst eo22) | ((with_reducible refine gate_callee (f := 22) rfl ?_); refine goesL_ (some 17) rfl rfl Try.func22 (by kernel_rfl) rfl #[.slice A0 l0.length c0] rfl argN ?_; (with_reducible refine (marigraphref14_Decode.calls k _ _ l0 t231 t232 t233 t236 true _ ?side1 ?side2 A3.out).mono ?_); (case side1 => exact Kd.C_below HR0.out (belS HB.out)); (case side2 => exact HC0.out); rintro e w23 ⟨v234, rfl, ho0, hb⟩; refine ⟨_, rfl, ?_⟩; have n0_ := Aside0.mk (Kd.R_elder' (by (with_reducible repeat (first | apply Kd.R_alloc | apply Kd.R_drewN | apply Kd.R_drew)); exact (Kd.R_mono (Kd.R_far (p := ⟨gb230, 2, none⟩) (Kd.R_far (p := ⟨gb230, 1, none⟩) (Kd.R_far (p := ⟨gb230, 0, none⟩) (Kd.R_types HO227.out BK230.out (by decide)) (fun _ hk => hk.2) (.int .i64 t223)) (fun _ hk => hk.2) (.int .i64 t224)) (fun _ hk => hk.2) (.slice Ao22 t225.length co22)) (fun _ h_ => h_.1))) (Kd.R_base ho0) hb); have n1_ := Aside0.mk (Kd.R_lower (Kd.R_new' ho0 (Kd.R_lt (by (with_reducible repeat (first | apply Kd.R_alloc | apply Kd.R_drewN | apply Kd.R_drew)); exact (Kd.R_mono (Kd.R_far (p := ⟨gb230, 2, none⟩) (Kd.R_far (p := ⟨gb230, 1, none⟩) (Kd.R_far (p := ⟨gb230, 0, none⟩) (Kd.R_types HO227.out BK230.out (by decide)) (fun _ hk => hk.2) (.int .i64 t223)) (fun _ hk => hk.2) (.int .i64 t224)) (fun _ hk => hk.2) (.slice Ao22 t225.length co22)) (fun _ h_ => h_.1))))) (below_size (belS HB.out))); have n2_ := Aside0.mk (blk_below (g := gb230) (o := .cells #[.int .i64 t223, .int .i64 t224, .slice Ao22 t225.length co22] 26 (0, 0)) (by (with_reducible repeat (first | refine blk_drewN ?_ _ | refine blk_drew ?_ | refine blk_alloc ?_ _)); refine blk_put (cs := #[.int .i64 t223, .int .i64 t224, .slice none 0 0]) ?_ 2 _ rfl; (with_reducible repeat (first | refine blk_drewN ?_ _ | refine blk_drew ?_ | refine blk_alloc ?_ _)); refine blk_put (cs := #[.int .i64 t223, .int .i64 0, .slice none 0 0]) ?_ 1 _ rfl; (with_reducible repeat (first | refine blk_drewN ?_ _ | refine blk_drew ?_ | refine blk_alloc ?_ _)); refine blk_put (cs := #[.int .i64 0, .int .i64 0, .slice none 0 0]) ?_ 0 _ rfl; (with_reducible repeat (first | refine blk_drewN ?_ _ | refine blk_drew ?_ | refine blk_alloc ?_ _)); exact BK230.out) hb); have n3_ := Aside0.mk (below_step (belS HB.out) hb); clear HO227; clear BK230; clear HB; have HO227 := n0_; have HO235 := n1_; have BK230 := n2_; have HB := n3_; clear n0_ n1_ n2_ n3_; (try clear hb); (try clear hk); (try clear ho0)) | ((with_reducible refine gate_dst (N := 6) rfl ?_); refine box_event ?hg (N := 6) ?hd (cs := #[.int .i64 0, .int .i64 0, .slice none 0 0]) (t := 26) ?hr ?_; (case hd => rfl); (case hg => rfl); (case hr => first | (go_simp; done) | (go_simp; rfl)); intro gb238 hg w24 hbox hb; have n0_ := Aside0.mk (Kd.R_below (rowN HO227.out) hb); have n1_ := Aside0.mk (Kd.R_below (rowN HO235.out) hb); have n2_ := Aside0.mk (bkB BK230.out hb); have n3_ := Aside0.mk (below_step (belS HB.out) hb); have n4_ := Aside0.mk (hbox); have n5_ := Aside0.mk (szB hg HB.out); have n6_ := Aside0.mk (szB hg HB.out); have n7_ := Aside0.mk ((bk1 hg BK230.out)); have n8_ := Aside0.mk ((bk2 hg BK230.out)); clear HO227; clear HO235; clear BK230; clear HB; have HO227 := n0_; have HO235 := n1_; have BK230 := n2_; have HB := n3_; have BK238 := n4_; have GW238 := n5_; have GE238 := n6_; have NB230_238 := n7_; have NB238_230 := n8_; clear n0_ n1_ n2_ n3_ n4_ n5_ n6_ n7_ n8_; clear hb hbox hg; have hnb25 := NB238_230.out; have hnc25 := NB230_238.out; have hcz26_0 : w24.cell? ⟨gb238, 0, none⟩ = some (.int .i64 0) := (blk_cell BK238.out 0).trans rfl; have hcz26_1 : w24.cell? ⟨gb238, 1, none⟩ = some (.int .i64 0) := (blk_cell BK238.out 1).trans rfl; have hcz26_2 : w24.cell? ⟨gb238, 2, none⟩ = some (.slice none 0 0) := (blk_cell BK238.out 2).trans rfl; have hfz26_0 := blk_frozen BK238.out 0; have hfz26_1 := blk_frozen BK238.out 1; have hfz26_2 := blk_frozen BK238.out 2; obtain ⟨Ao27, co27, eo27⟩ := Kd.R_slice HO235.out; subst eo27))
    go_ret
    exact ⟨by first | rfl | (simp [errW_none, errW_some] <;> rfl) | (simp [*, errW_none, errW_some] <;> rfl), (belS HB.out)⟩
  ·replace c5 := Bool.eq_false_iff.mpr c5
   subst c5
   have H1 : (if t229 = 12 then (if t228 = t236 then ((marigraphref14_Same.f k t223 t224 t225 t231 t232 t233).bind fun t240 => (some t240)) else (some false)) else (some false)) = some r := by rw [if_neg (show ¬ (false = true) by decide)] at H; exact H
   clear H
   have H := H1
   clear H1
   by_cases c28 : t229 = 12
   ·rw [if_pos c28] at H
    have c28b0 : (t229 == 12) = true := beq_iff_eq.mpr c28
    have c28b1 : (t229 != 12) = false := bne_eq_false_iff_eq.mpr c28
    clear c28
    by_cases c29 : t228 = t236
    ·rw [if_pos c29] at H
     have c29b0 : (t228 == t236) = true := beq_iff_eq.mpr c29
     have c29b1 : (t228 != t236) = false := bne_eq_false_iff_eq.mpr c29
     clear c29
     replace H := Option.bind_eq_some_iff.mp H
     obtain ⟨t240, A300, H⟩ := H
     replace H : (some t240) = some r := H
     have A30 := Aside0.mk A300
     clear A300
     obtain rfl := Option.some.inj H
     go_enter Try.func9, Try.ntmps9
     go_wp2_with (first | ((with_reducible refine gate_callee (f := 21) rfl ?_); refine goesL_ (some 11) rfl rfl Try.func21 (by kernel_rfl) rfl #[.slice A0 l0.length c0] rfl argN ?_; (with_reducible refine (rowkey_Decode.calls k _ _ l0 t223 t224 t225 t228 t229 _ ?side1 ?side2 A2.out).mono ?_); (case side1 => repeat (first | exact HR0.out | (with_reducible refine Kd.C_alloc ?_ _) | (with_reducible refine Kd.C_drewN ?_ _) | (with_reducible refine Kd.C_drew ?_))); (case side2 => exact HC0.out); rintro e w31 ⟨v226, rfl, ho0, hb⟩; refine ⟨_, rfl, ?_⟩; have n0_ := Aside0.mk (Kd.R_lower ho0 (below_size (belN HB.out))); have n1_ := Aside0.mk (below_step (belN HB.out) hb); clear HB; have HO227 := n0_; have HB := n1_; clear n0_ n1_; (try clear hb); (try clear hk); (try clear ho0)) | ((with_reducible refine gate_dst (N := 3) rfl ?_); refine box_event ?hg (N := 3) ?hd (cs := #[.int .i64 0, .int .i64 0, .slice none 0 0]) (t := 26) ?hr ?_; (case hd => rfl); (case hg => rfl); (case hr => first | (go_simp; done) | (go_simp; rfl)); intro gb230 hg w32 hbox hb; have n0_ := Aside0.mk (Kd.R_below (rowN HO227.out) hb); have n1_ := Aside0.mk (below_step (belN HB.out) hb); have n2_ := Aside0.mk (hbox); have n3_ := Aside0.mk (szB hg HB.out); have n4_ := Aside0.mk (szB hg HB.out); clear HO227; clear HB; have HO227 := n0_; have HB := n1_; have BK230 := n2_; have GW230 := n3_; have GE230 := n4_; clear n0_ n1_ n2_ n3_ n4_; clear hb hbox hg; have hcz33_0 : w32.cell? ⟨gb230, 0, none⟩ = some (.int .i64 0) := (blk_cell BK230.out 0).trans rfl; have hcz33_1 : w32.cell? ⟨gb230, 1, none⟩ = some (.int .i64 0) := (blk_cell BK230.out 1).trans rfl; have hcz33_2 : w32.cell? ⟨gb230, 2, none⟩ = some (.slice none 0 0) := (blk_cell BK230.out 2).trans rfl; have hfz33_0 := blk_frozen BK230.out 0; have hfz33_1 := blk_frozen BK230.out 1; have hfz33_2 := blk_frozen BK230.out 2; obtain ⟨Ao34, co34, eo34⟩ := Kd.R_slice HO227.out; subst eo34) | ((with_reducible refine gate_callee (f := 22) rfl ?_); refine goesL_ (some 17) rfl rfl Try.func22 (by kernel_rfl) rfl #[.slice A0 l0.length c0] rfl argN ?_; (with_reducible refine (marigraphref14_Decode.calls k _ _ l0 t231 t232 t233 t236 false _ ?side1 ?side2 A3.out).mono ?_); (case side1 => exact Kd.C_below HR0.out (belS HB.out)); (case side2 => exact HC0.out); rintro e w35 ⟨v234, rfl, ho0, hb⟩; refine ⟨_, rfl, ?_⟩; have n0_ := Aside0.mk (Kd.R_elder' (by (with_reducible repeat (first | apply Kd.R_alloc | apply Kd.R_drewN | apply Kd.R_drew)); exact (Kd.R_mono (Kd.R_far (p := ⟨gb230, 2, none⟩) (Kd.R_far (p := ⟨gb230, 1, none⟩) (Kd.R_far (p := ⟨gb230, 0, none⟩) (Kd.R_types HO227.out BK230.out (by decide)) (fun _ hk => hk.2) (.int .i64 t223)) (fun _ hk => hk.2) (.int .i64 t224)) (fun _ hk => hk.2) (.slice Ao34 t225.length co34)) (fun _ h_ => h_.1))) (Kd.R_base ho0) hb); have n1_ := Aside0.mk (Kd.R_lower (Kd.R_new' ho0 (Kd.R_lt (by (with_reducible repeat (first | apply Kd.R_alloc | apply Kd.R_drewN | apply Kd.R_drew)); exact (Kd.R_mono (Kd.R_far (p := ⟨gb230, 2, none⟩) (Kd.R_far (p := ⟨gb230, 1, none⟩) (Kd.R_far (p := ⟨gb230, 0, none⟩) (Kd.R_types HO227.out BK230.out (by decide)) (fun _ hk => hk.2) (.int .i64 t223)) (fun _ hk => hk.2) (.int .i64 t224)) (fun _ hk => hk.2) (.slice Ao34 t225.length co34)) (fun _ h_ => h_.1))))) (below_size (belS HB.out))); have n2_ := Aside0.mk (blk_below (g := gb230) (o := .cells #[.int .i64 t223, .int .i64 t224, .slice Ao34 t225.length co34] 26 (0, 0)) (by (with_reducible repeat (first | refine blk_drewN ?_ _ | refine blk_drew ?_ | refine blk_alloc ?_ _)); refine blk_put (cs := #[.int .i64 t223, .int .i64 t224, .slice none 0 0]) ?_ 2 _ rfl; (with_reducible repeat (first | refine blk_drewN ?_ _ | refine blk_drew ?_ | refine blk_alloc ?_ _)); refine blk_put (cs := #[.int .i64 t223, .int .i64 0, .slice none 0 0]) ?_ 1 _ rfl; (with_reducible repeat (first | refine blk_drewN ?_ _ | refine blk_drew ?_ | refine blk_alloc ?_ _)); refine blk_put (cs := #[.int .i64 0, .int .i64 0, .slice none 0 0]) ?_ 0 _ rfl; (with_reducible repeat (first | refine blk_drewN ?_ _ | refine blk_drew ?_ | refine blk_alloc ?_ _)); exact BK230.out) hb); have n3_ := Aside0.mk (below_step (belS HB.out) hb); clear HO227; clear BK230; clear HB; have HO227 := n0_; have HO235 := n1_; have BK230 := n2_; have HB := n3_; clear n0_ n1_ n2_ n3_; (try clear hb); (try clear hk); (try clear ho0)) | ((with_reducible refine gate_dst (N := 6) rfl ?_); refine box_event ?hg (N := 6) ?hd (cs := #[.int .i64 0, .int .i64 0, .slice none 0 0]) (t := 26) ?hr ?_; (case hd => rfl); (case hg => rfl); (case hr => first | (go_simp; done) | (go_simp; rfl)); intro gb238 hg w36 hbox hb; have n0_ := Aside0.mk (Kd.R_below (rowN HO227.out) hb); have n1_ := Aside0.mk (Kd.R_below (rowN HO235.out) hb); have n2_ := Aside0.mk (bkB BK230.out hb); have n3_ := Aside0.mk (below_step (belS HB.out) hb); have n4_ := Aside0.mk (hbox); have n5_ := Aside0.mk (szB hg HB.out); have n6_ := Aside0.mk (szB hg HB.out); have n7_ := Aside0.mk ((bk1 hg BK230.out)); have n8_ := Aside0.mk ((bk2 hg BK230.out)); clear HO227; clear HO235; clear BK230; clear HB; have HO227 := n0_; have HO235 := n1_; have BK230 := n2_; have HB := n3_; have BK238 := n4_; have GW238 := n5_; have GE238 := n6_; have NB230_238 := n7_; have NB238_230 := n8_; clear n0_ n1_ n2_ n3_ n4_ n5_ n6_ n7_ n8_; clear hb hbox hg; have hnb37 := NB238_230.out; have hnc37 := NB230_238.out; have hcz38_0 : w36.cell? ⟨gb238, 0, none⟩ = some (.int .i64 0) := (blk_cell BK238.out 0).trans rfl; have hcz38_1 : w36.cell? ⟨gb238, 1, none⟩ = some (.int .i64 0) := (blk_cell BK238.out 1).trans rfl; have hcz38_2 : w36.cell? ⟨gb238, 2, none⟩ = some (.slice none 0 0) := (blk_cell BK238.out 2).trans rfl; have hfz38_0 := blk_frozen BK238.out 0; have hfz38_1 := blk_frozen BK238.out 1; have hfz38_2 := blk_frozen BK238.out 2; obtain ⟨Ao39, co39, eo39⟩ := Kd.R_slice HO235.out; subst eo39; have hcz40_0 : w36.cell? ⟨gb230, 0, none⟩ = some (.int .i64 t223) := (blk_cell BK230.out 0).trans rfl; have hcz40_1 : w36.cell? ⟨gb230, 1, none⟩ = some (.int .i64 t224) := (blk_cell BK230.out 1).trans rfl; have hcz40_2 : w36.cell? ⟨gb230, 2, none⟩ = some (.slice Ao34 t225.length co34) := (blk_cell BK230.out 2).trans rfl; have hfz40_0 := blk_frozen BK230.out 0; have hfz40_1 := blk_frozen BK230.out 1; have hfz40_2 := blk_frozen BK230.out 2) | (go_at_call 7; (with_reducible refine (marigraphref14_Same.calls k t223 t224 _ _ t225 t231 t232 _ _ t233 t240 _ ?side1 ?side2 ?side3 ?side4 A30.out).mono ?_); (case side1 => refine (Kd.R_reads' (e := 23) (base := w.heap.size) (ok := fun k_ => (True ∧ some k_ ≠ (.slice Ao39 t233.length co39 : Value).ownBlock)) (n := t225.length) (c := co34) ?_).2.2; exact (by (with_reducible repeat (first | apply Kd.R_alloc | apply Kd.R_drewN | apply Kd.R_drew)); exact (Kd.R_mono (Kd.R_far (p := ⟨gb238, 2, none⟩) (Kd.R_far (p := ⟨gb238, 1, none⟩) (Kd.R_far (p := ⟨gb238, 0, none⟩) (Kd.R_types HO227.out BK238.out (by decide)) (fun _ hk => hk.2) (.int .i64 t231)) (fun _ hk => hk.2) (.int .i64 t232)) (fun _ hk => hk.2) (.slice Ao39 t233.length co39)) (fun _ h_ => h_.1)))); (case side2 => exact (Kd.R_reads' HO227.out).2.1); (case side3 => refine (Kd.R_reads' (e := 23) (base := w.heap.size) (ok := fun k_ => (True ∧ some k_ ≠ (.slice Ao34 t225.length co34 : Value).ownBlock)) (n := t233.length) (c := co39) ?_).2.2; exact (by (with_reducible repeat (first | apply Kd.R_alloc | apply Kd.R_drewN | apply Kd.R_drew)); exact (Kd.R_mono (Kd.R_far (p := ⟨gb238, 2, none⟩) (Kd.R_far (p := ⟨gb238, 1, none⟩) (Kd.R_far (p := ⟨gb238, 0, none⟩) (Kd.R_types HO235.out BK238.out (by decide)) (fun _ hk => hk.2) (.int .i64 t231)) (fun _ hk => hk.2) (.int .i64 t232)) (fun _ hk => hk.2) (.slice Ao39 t233.length co39)) (fun _ h_ => h_.1)))); (case side4 => exact (Kd.R_reads' HO235.out).2.1); rintro e w41 ⟨rfl, hb⟩; have n0_ := Aside0.mk (Kd.R_below (by (with_reducible repeat (first | apply Kd.R_alloc | apply Kd.R_drewN | apply Kd.R_drew)); exact (Kd.R_mono (Kd.R_far (p := ⟨gb238, 2, none⟩) (Kd.R_far (p := ⟨gb238, 1, none⟩) (Kd.R_far (p := ⟨gb238, 0, none⟩) (Kd.R_types HO227.out BK238.out (by decide)) (fun _ hk => hk.2) (.int .i64 t231)) (fun _ hk => hk.2) (.int .i64 t232)) (fun _ hk => hk.2) (.slice Ao39 t233.length co39)) (fun _ h_ => h_.1))) hb); have n1_ := Aside0.mk (Kd.R_below (by (with_reducible repeat (first | apply Kd.R_alloc | apply Kd.R_drewN | apply Kd.R_drew)); exact (Kd.R_mono (Kd.R_far (p := ⟨gb238, 2, none⟩) (Kd.R_far (p := ⟨gb238, 1, none⟩) (Kd.R_far (p := ⟨gb238, 0, none⟩) (Kd.R_types HO235.out BK238.out (by decide)) (fun _ hk => hk.2) (.int .i64 t231)) (fun _ hk => hk.2) (.int .i64 t232)) (fun _ hk => hk.2) (.slice Ao39 t233.length co39)) (fun _ h_ => h_.1))) hb); have n2_ := Aside0.mk (bkBF BK230.out hb); have n3_ := Aside0.mk (blk_below (g := gb238) (o := .cells #[.int .i64 t231, .int .i64 t232, .slice Ao39 t233.length co39] 26 (0, 0)) (by (with_reducible repeat (first | refine blk_drewN ?_ _ | refine blk_drew ?_ | refine blk_alloc ?_ _)); refine blk_put (cs := #[.int .i64 t231, .int .i64 t232, .slice none 0 0]) ?_ 2 _ rfl; (with_reducible repeat (first | refine blk_drewN ?_ _ | refine blk_drew ?_ | refine blk_alloc ?_ _)); refine blk_put (cs := #[.int .i64 t231, .int .i64 0, .slice none 0 0]) ?_ 1 _ rfl; (with_reducible repeat (first | refine blk_drewN ?_ _ | refine blk_drew ?_ | refine blk_alloc ?_ _)); refine blk_put (cs := #[.int .i64 0, .int .i64 0, .slice none 0 0]) ?_ 0 _ rfl; (with_reducible repeat (first | refine blk_drewN ?_ _ | refine blk_drew ?_ | refine blk_alloc ?_ _)); exact BK238.out) hb); have n4_ := Aside0.mk (below_step (belS HB.out) hb); clear HO227; clear HO235; clear BK230; clear BK238; clear HB; have HO227 := n0_; have HO235 := n1_; have BK230 := n2_; have BK238 := n3_; have HB := n4_; clear n0_ n1_ n2_ n3_ n4_; (try clear hb); (try clear hk)))
     go_ret
     exact ⟨by first | rfl | (simp [errW_none, errW_some] <;> rfl) | (simp [*, errW_none, errW_some] <;> rfl), (belS HB.out)⟩
    ·rw [if_neg c29] at H
     have c29b0 : (t228 == t236) = false := beq_eq_false_iff_ne.mpr c29
     have c29b1 : (t228 != t236) = true := bne_iff_ne.mpr c29
     obtain rfl := Option.some.inj H
     go_enter Try.func9, Try.ntmps9
     go_wp2_with (first | ((with_reducible refine gate_callee (f := 21) rfl ?_); refine goesL_ (some 11) rfl rfl Try.func21 (by kernel_rfl) rfl #[.slice A0 l0.length c0] rfl argN ?_; (with_reducible refine (rowkey_Decode.calls k _ _ l0 t223 t224 t225 t228 t229 _ ?side1 ?side2 A2.out).mono ?_); (case side1 => repeat (first | exact HR0.out | (with_reducible refine Kd.C_alloc ?_ _) | (with_reducible refine Kd.C_drewN ?_ _) | (with_reducible refine Kd.C_drew ?_))); (case side2 => exact HC0.out); rintro e w42 ⟨v226, rfl, ho0, hb⟩; refine ⟨_, rfl, ?_⟩; have n0_ := Aside0.mk (Kd.R_lower ho0 (below_size (belN HB.out))); have n1_ := Aside0.mk (below_step (belN HB.out) hb); clear HB; have HO227 := n0_; have HB := n1_; clear n0_ n1_; (try clear hb); (try clear hk); (try clear ho0)) | ((with_reducible refine gate_dst (N := 3) rfl ?_); refine box_event ?hg (N := 3) ?hd (cs := #[.int .i64 0, .int .i64 0, .slice none 0 0]) (t := 26) ?hr ?_; (case hd => rfl); (case hg => rfl); (case hr => first | (go_simp; done) | (go_simp; rfl)); intro gb230 hg w43 hbox hb; have n0_ := Aside0.mk (Kd.R_below (rowN HO227.out) hb); have n1_ := Aside0.mk (below_step (belN HB.out) hb); have n2_ := Aside0.mk (hbox); have n3_ := Aside0.mk (szB hg HB.out); have n4_ := Aside0.mk (szB hg HB.out); clear HO227; clear HB; have HO227 := n0_; have HB := n1_; have BK230 := n2_; have GW230 := n3_; have GE230 := n4_; clear n0_ n1_ n2_ n3_ n4_; clear hb hbox hg; have hcz44_0 : w43.cell? ⟨gb230, 0, none⟩ = some (.int .i64 0) := (blk_cell BK230.out 0).trans rfl; have hcz44_1 : w43.cell? ⟨gb230, 1, none⟩ = some (.int .i64 0) := (blk_cell BK230.out 1).trans rfl; have hcz44_2 : w43.cell? ⟨gb230, 2, none⟩ = some (.slice none 0 0) := (blk_cell BK230.out 2).trans rfl; have hfz44_0 := blk_frozen BK230.out 0; have hfz44_1 := blk_frozen BK230.out 1; have hfz44_2 := blk_frozen BK230.out 2; obtain ⟨Ao45, co45, eo45⟩ := Kd.R_slice HO227.out; subst eo45) | ((with_reducible refine gate_callee (f := 22) rfl ?_); refine goesL_ (some 17) rfl rfl Try.func22 (by kernel_rfl) rfl #[.slice A0 l0.length c0] rfl argN ?_; (with_reducible refine (marigraphref14_Decode.calls k _ _ l0 t231 t232 t233 t236 false _ ?side1 ?side2 A3.out).mono ?_); (case side1 => exact Kd.C_below HR0.out (belS HB.out)); (case side2 => exact HC0.out); rintro e w46 ⟨v234, rfl, ho0, hb⟩; refine ⟨_, rfl, ?_⟩; have n0_ := Aside0.mk (Kd.R_elder' (by (with_reducible repeat (first | apply Kd.R_alloc | apply Kd.R_drewN | apply Kd.R_drew)); exact (Kd.R_mono (Kd.R_far (p := ⟨gb230, 2, none⟩) (Kd.R_far (p := ⟨gb230, 1, none⟩) (Kd.R_far (p := ⟨gb230, 0, none⟩) (Kd.R_types HO227.out BK230.out (by decide)) (fun _ hk => hk.2) (.int .i64 t223)) (fun _ hk => hk.2) (.int .i64 t224)) (fun _ hk => hk.2) (.slice Ao45 t225.length co45)) (fun _ h_ => h_.1))) (Kd.R_base ho0) hb); have n1_ := Aside0.mk (Kd.R_lower (Kd.R_new' ho0 (Kd.R_lt (by (with_reducible repeat (first | apply Kd.R_alloc | apply Kd.R_drewN | apply Kd.R_drew)); exact (Kd.R_mono (Kd.R_far (p := ⟨gb230, 2, none⟩) (Kd.R_far (p := ⟨gb230, 1, none⟩) (Kd.R_far (p := ⟨gb230, 0, none⟩) (Kd.R_types HO227.out BK230.out (by decide)) (fun _ hk => hk.2) (.int .i64 t223)) (fun _ hk => hk.2) (.int .i64 t224)) (fun _ hk => hk.2) (.slice Ao45 t225.length co45)) (fun _ h_ => h_.1))))) (below_size (belS HB.out))); have n2_ := Aside0.mk (blk_below (g := gb230) (o := .cells #[.int .i64 t223, .int .i64 t224, .slice Ao45 t225.length co45] 26 (0, 0)) (by (with_reducible repeat (first | refine blk_drewN ?_ _ | refine blk_drew ?_ | refine blk_alloc ?_ _)); refine blk_put (cs := #[.int .i64 t223, .int .i64 t224, .slice none 0 0]) ?_ 2 _ rfl; (with_reducible repeat (first | refine blk_drewN ?_ _ | refine blk_drew ?_ | refine blk_alloc ?_ _)); refine blk_put (cs := #[.int .i64 t223, .int .i64 0, .slice none 0 0]) ?_ 1 _ rfl; (with_reducible repeat (first | refine blk_drewN ?_ _ | refine blk_drew ?_ | refine blk_alloc ?_ _)); refine blk_put (cs := #[.int .i64 0, .int .i64 0, .slice none 0 0]) ?_ 0 _ rfl; (with_reducible repeat (first | refine blk_drewN ?_ _ | refine blk_drew ?_ | refine blk_alloc ?_ _)); exact BK230.out) hb); have n3_ := Aside0.mk (below_step (belS HB.out) hb); clear HO227; clear BK230; clear HB; have HO227 := n0_; have HO235 := n1_; have BK230 := n2_; have HB := n3_; clear n0_ n1_ n2_ n3_; (try clear hb); (try clear hk); (try clear ho0)) | ((with_reducible refine gate_dst (N := 6) rfl ?_); refine box_event ?hg (N := 6) ?hd (cs := #[.int .i64 0, .int .i64 0, .slice none 0 0]) (t := 26) ?hr ?_; (case hd => rfl); (case hg => rfl); (case hr => first | (go_simp; done) | (go_simp; rfl)); intro gb238 hg w47 hbox hb; have n0_ := Aside0.mk (Kd.R_below (rowN HO227.out) hb); have n1_ := Aside0.mk (Kd.R_below (rowN HO235.out) hb); have n2_ := Aside0.mk (bkB BK230.out hb); have n3_ := Aside0.mk (below_step (belS HB.out) hb); have n4_ := Aside0.mk (hbox); have n5_ := Aside0.mk (szB hg HB.out); have n6_ := Aside0.mk (szB hg HB.out); have n7_ := Aside0.mk ((bk1 hg BK230.out)); have n8_ := Aside0.mk ((bk2 hg BK230.out)); clear HO227; clear HO235; clear BK230; clear HB; have HO227 := n0_; have HO235 := n1_; have BK230 := n2_; have HB := n3_; have BK238 := n4_; have GW238 := n5_; have GE238 := n6_; have NB230_238 := n7_; have NB238_230 := n8_; clear n0_ n1_ n2_ n3_ n4_ n5_ n6_ n7_ n8_; clear hb hbox hg; have hnb48 := NB238_230.out; have hnc48 := NB230_238.out; have hcz49_0 : w47.cell? ⟨gb238, 0, none⟩ = some (.int .i64 0) := (blk_cell BK238.out 0).trans rfl; have hcz49_1 : w47.cell? ⟨gb238, 1, none⟩ = some (.int .i64 0) := (blk_cell BK238.out 1).trans rfl; have hcz49_2 : w47.cell? ⟨gb238, 2, none⟩ = some (.slice none 0 0) := (blk_cell BK238.out 2).trans rfl; have hfz49_0 := blk_frozen BK238.out 0; have hfz49_1 := blk_frozen BK238.out 1; have hfz49_2 := blk_frozen BK238.out 2; obtain ⟨Ao50, co50, eo50⟩ := Kd.R_slice HO235.out; subst eo50))
     go_ret
     exact ⟨by first | rfl | (simp [errW_none, errW_some] <;> rfl) | (simp [*, errW_none, errW_some] <;> rfl), (belS HB.out)⟩
   ·rw [if_neg c28] at H
    have c28b0 : (t229 == 12) = false := beq_eq_false_iff_ne.mpr c28
    have c28b1 : (t229 != 12) = true := bne_iff_ne.mpr c28
    obtain rfl := Option.some.inj H
    go_enter Try.func9, Try.ntmps9
    go_wp2_with (first | ((with_reducible refine gate_callee (f := 21) rfl ?_); refine goesL_ (some 11) rfl rfl Try.func21 (by kernel_rfl) rfl #[.slice A0 l0.length c0] rfl argN ?_; (with_reducible refine (rowkey_Decode.calls k _ _ l0 t223 t224 t225 t228 t229 _ ?side1 ?side2 A2.out).mono ?_); (case side1 => repeat (first | exact HR0.out | (with_reducible refine Kd.C_alloc ?_ _) | (with_reducible refine Kd.C_drewN ?_ _) | (with_reducible refine Kd.C_drew ?_))); (case side2 => exact HC0.out); rintro e w51 ⟨v226, rfl, ho0, hb⟩; refine ⟨_, rfl, ?_⟩; have n0_ := Aside0.mk (Kd.R_lower ho0 (below_size (belN HB.out))); have n1_ := Aside0.mk (below_step (belN HB.out) hb); clear HB; have HO227 := n0_; have HB := n1_; clear n0_ n1_; (try clear hb); (try clear hk); (try clear ho0)) | ((with_reducible refine gate_dst (N := 3) rfl ?_); refine box_event ?hg (N := 3) ?hd (cs := #[.int .i64 0, .int .i64 0, .slice none 0 0]) (t := 26) ?hr ?_; (case hd => rfl); (case hg => rfl); (case hr => first | (go_simp; done) | (go_simp; rfl)); intro gb230 hg w52 hbox hb; have n0_ := Aside0.mk (Kd.R_below (rowN HO227.out) hb); have n1_ := Aside0.mk (below_step (belN HB.out) hb); have n2_ := Aside0.mk (hbox); have n3_ := Aside0.mk (szB hg HB.out); have n4_ := Aside0.mk (szB hg HB.out); clear HO227; clear HB; have HO227 := n0_; have HB := n1_; have BK230 := n2_; have GW230 := n3_; have GE230 := n4_; clear n0_ n1_ n2_ n3_ n4_; clear hb hbox hg; have hcz53_0 : w52.cell? ⟨gb230, 0, none⟩ = some (.int .i64 0) := (blk_cell BK230.out 0).trans rfl; have hcz53_1 : w52.cell? ⟨gb230, 1, none⟩ = some (.int .i64 0) := (blk_cell BK230.out 1).trans rfl; have hcz53_2 : w52.cell? ⟨gb230, 2, none⟩ = some (.slice none 0 0) := (blk_cell BK230.out 2).trans rfl; have hfz53_0 := blk_frozen BK230.out 0; have hfz53_1 := blk_frozen BK230.out 1; have hfz53_2 := blk_frozen BK230.out 2; obtain ⟨Ao54, co54, eo54⟩ := Kd.R_slice HO227.out; subst eo54) | ((with_reducible refine gate_callee (f := 22) rfl ?_); refine goesL_ (some 17) rfl rfl Try.func22 (by kernel_rfl) rfl #[.slice A0 l0.length c0] rfl argN ?_; (with_reducible refine (marigraphref14_Decode.calls k _ _ l0 t231 t232 t233 t236 false _ ?side1 ?side2 A3.out).mono ?_); (case side1 => exact Kd.C_below HR0.out (belS HB.out)); (case side2 => exact HC0.out); rintro e w55 ⟨v234, rfl, ho0, hb⟩; refine ⟨_, rfl, ?_⟩; have n0_ := Aside0.mk (Kd.R_elder' (by (with_reducible repeat (first | apply Kd.R_alloc | apply Kd.R_drewN | apply Kd.R_drew)); exact (Kd.R_mono (Kd.R_far (p := ⟨gb230, 2, none⟩) (Kd.R_far (p := ⟨gb230, 1, none⟩) (Kd.R_far (p := ⟨gb230, 0, none⟩) (Kd.R_types HO227.out BK230.out (by decide)) (fun _ hk => hk.2) (.int .i64 t223)) (fun _ hk => hk.2) (.int .i64 t224)) (fun _ hk => hk.2) (.slice Ao54 t225.length co54)) (fun _ h_ => h_.1))) (Kd.R_base ho0) hb); have n1_ := Aside0.mk (Kd.R_lower (Kd.R_new' ho0 (Kd.R_lt (by (with_reducible repeat (first | apply Kd.R_alloc | apply Kd.R_drewN | apply Kd.R_drew)); exact (Kd.R_mono (Kd.R_far (p := ⟨gb230, 2, none⟩) (Kd.R_far (p := ⟨gb230, 1, none⟩) (Kd.R_far (p := ⟨gb230, 0, none⟩) (Kd.R_types HO227.out BK230.out (by decide)) (fun _ hk => hk.2) (.int .i64 t223)) (fun _ hk => hk.2) (.int .i64 t224)) (fun _ hk => hk.2) (.slice Ao54 t225.length co54)) (fun _ h_ => h_.1))))) (below_size (belS HB.out))); have n2_ := Aside0.mk (blk_below (g := gb230) (o := .cells #[.int .i64 t223, .int .i64 t224, .slice Ao54 t225.length co54] 26 (0, 0)) (by (with_reducible repeat (first | refine blk_drewN ?_ _ | refine blk_drew ?_ | refine blk_alloc ?_ _)); refine blk_put (cs := #[.int .i64 t223, .int .i64 t224, .slice none 0 0]) ?_ 2 _ rfl; (with_reducible repeat (first | refine blk_drewN ?_ _ | refine blk_drew ?_ | refine blk_alloc ?_ _)); refine blk_put (cs := #[.int .i64 t223, .int .i64 0, .slice none 0 0]) ?_ 1 _ rfl; (with_reducible repeat (first | refine blk_drewN ?_ _ | refine blk_drew ?_ | refine blk_alloc ?_ _)); refine blk_put (cs := #[.int .i64 0, .int .i64 0, .slice none 0 0]) ?_ 0 _ rfl; (with_reducible repeat (first | refine blk_drewN ?_ _ | refine blk_drew ?_ | refine blk_alloc ?_ _)); exact BK230.out) hb); have n3_ := Aside0.mk (below_step (belS HB.out) hb); clear HO227; clear BK230; clear HB; have HO227 := n0_; have HO235 := n1_; have BK230 := n2_; have HB := n3_; clear n0_ n1_ n2_ n3_; (try clear hb); (try clear hk); (try clear ho0)) | ((with_reducible refine gate_dst (N := 6) rfl ?_); refine box_event ?hg (N := 6) ?hd (cs := #[.int .i64 0, .int .i64 0, .slice none 0 0]) (t := 26) ?hr ?_; (case hd => rfl); (case hg => rfl); (case hr => first | (go_simp; done) | (go_simp; rfl)); intro gb238 hg w56 hbox hb; have n0_ := Aside0.mk (Kd.R_below (rowN HO227.out) hb); have n1_ := Aside0.mk (Kd.R_below (rowN HO235.out) hb); have n2_ := Aside0.mk (bkB BK230.out hb); have n3_ := Aside0.mk (below_step (belS HB.out) hb); have n4_ := Aside0.mk (hbox); have n5_ := Aside0.mk (szB hg HB.out); have n6_ := Aside0.mk (szB hg HB.out); have n7_ := Aside0.mk ((bk1 hg BK230.out)); have n8_ := Aside0.mk ((bk2 hg BK230.out)); clear HO227; clear HO235; clear BK230; clear HB; have HO227 := n0_; have HO235 := n1_; have BK230 := n2_; have HB := n3_; have BK238 := n4_; have GW238 := n5_; have GE238 := n6_; have NB230_238 := n7_; have NB238_230 := n8_; clear n0_ n1_ n2_ n3_ n4_ n5_ n6_ n7_ n8_; clear hb hbox hg; have hnb57 := NB238_230.out; have hnc57 := NB230_238.out; have hcz58_0 : w56.cell? ⟨gb238, 0, none⟩ = some (.int .i64 0) := (blk_cell BK238.out 0).trans rfl; have hcz58_1 : w56.cell? ⟨gb238, 1, none⟩ = some (.int .i64 0) := (blk_cell BK238.out 1).trans rfl; have hcz58_2 : w56.cell? ⟨gb238, 2, none⟩ = some (.slice none 0 0) := (blk_cell BK238.out 2).trans rfl; have hfz58_0 := blk_frozen BK238.out 0; have hfz58_1 := blk_frozen BK238.out 1; have hfz58_2 := blk_frozen BK238.out 2; obtain ⟨Ao59, co59, eo59⟩ := Kd.R_slice HO235.out; subst eo59))
    go_ret
    exact ⟨by first | rfl | (simp [errW_none, errW_some] <;> rfl) | (simp [*, errW_none, errW_some] <;> rfl), (belS HB.out)⟩
 ·rw [if_neg c4] at H
  have c4b0 : ((t229 == 0) == t237) = false := by simpa using c4
  (try (have c4b1 : decide ((t229 == 0) = t237) = false := by simpa using c4))
  (try (have c4b2 : ((t229 == 0) == t237) = false := by simpa using c4))
  (try (have c4b3 : ¬ ((t229 == 0) = t237) := by simpa using c4))
  clear c4
  obtain rfl := Option.some.inj H
  go_enter Try.func9, Try.ntmps9
  go_wp2_with (first | ((with_reducible refine gate_callee (f := 21) rfl ?_); refine goesL_ (some 11) rfl rfl Try.func21 (by kernel_rfl) rfl #[.slice A0 l0.length c0] rfl argN ?_; (with_reducible refine (rowkey_Decode.calls k _ _ l0 t223 t224 t225 t228 t229 _ ?side1 ?side2 A2.out).mono ?_); (case side1 => repeat (first | exact HR0.out | (with_reducible refine Kd.C_alloc ?_ _) | (with_reducible refine Kd.C_drewN ?_ _) | (with_reducible refine Kd.C_drew ?_))); (case side2 => exact HC0.out); rintro e w60 ⟨v226, rfl, ho0, hb⟩; refine ⟨_, rfl, ?_⟩; have n0_ := Aside0.mk (Kd.R_lower ho0 (below_size (belN HB.out))); have n1_ := Aside0.mk (below_step (belN HB.out) hb); clear HB; have HO227 := n0_; have HB := n1_; clear n0_ n1_; (try clear hb); (try clear hk); (try clear ho0)) | ((with_reducible refine gate_dst (N := 3) rfl ?_); refine box_event ?hg (N := 3) ?hd (cs := #[.int .i64 0, .int .i64 0, .slice none 0 0]) (t := 26) ?hr ?_; (case hd => rfl); (case hg => rfl); (case hr => first | (go_simp; done) | (go_simp; rfl)); intro gb230 hg w61 hbox hb; have n0_ := Aside0.mk (Kd.R_below (rowN HO227.out) hb); have n1_ := Aside0.mk (below_step (belN HB.out) hb); have n2_ := Aside0.mk (hbox); have n3_ := Aside0.mk (szB hg HB.out); have n4_ := Aside0.mk (szB hg HB.out); clear HO227; clear HB; have HO227 := n0_; have HB := n1_; have BK230 := n2_; have GW230 := n3_; have GE230 := n4_; clear n0_ n1_ n2_ n3_ n4_; clear hb hbox hg; have hcz62_0 : w61.cell? ⟨gb230, 0, none⟩ = some (.int .i64 0) := (blk_cell BK230.out 0).trans rfl; have hcz62_1 : w61.cell? ⟨gb230, 1, none⟩ = some (.int .i64 0) := (blk_cell BK230.out 1).trans rfl; have hcz62_2 : w61.cell? ⟨gb230, 2, none⟩ = some (.slice none 0 0) := (blk_cell BK230.out 2).trans rfl; have hfz62_0 := blk_frozen BK230.out 0; have hfz62_1 := blk_frozen BK230.out 1; have hfz62_2 := blk_frozen BK230.out 2; obtain ⟨Ao63, co63, eo63⟩ := Kd.R_slice HO227.out; subst eo63) | ((with_reducible refine gate_callee (f := 22) rfl ?_); refine goesL_ (some 17) rfl rfl Try.func22 (by kernel_rfl) rfl #[.slice A0 l0.length c0] rfl argN ?_; (with_reducible refine (marigraphref14_Decode.calls k _ _ l0 t231 t232 t233 t236 t237 _ ?side1 ?side2 A3.out).mono ?_); (case side1 => exact Kd.C_below HR0.out (belS HB.out)); (case side2 => exact HC0.out); rintro e w64 ⟨v234, rfl, ho0, hb⟩; refine ⟨_, rfl, ?_⟩; have n0_ := Aside0.mk (Kd.R_elder' (by (with_reducible repeat (first | apply Kd.R_alloc | apply Kd.R_drewN | apply Kd.R_drew)); exact (Kd.R_mono (Kd.R_far (p := ⟨gb230, 2, none⟩) (Kd.R_far (p := ⟨gb230, 1, none⟩) (Kd.R_far (p := ⟨gb230, 0, none⟩) (Kd.R_types HO227.out BK230.out (by decide)) (fun _ hk => hk.2) (.int .i64 t223)) (fun _ hk => hk.2) (.int .i64 t224)) (fun _ hk => hk.2) (.slice Ao63 t225.length co63)) (fun _ h_ => h_.1))) (Kd.R_base ho0) hb); have n1_ := Aside0.mk (Kd.R_lower (Kd.R_new' ho0 (Kd.R_lt (by (with_reducible repeat (first | apply Kd.R_alloc | apply Kd.R_drewN | apply Kd.R_drew)); exact (Kd.R_mono (Kd.R_far (p := ⟨gb230, 2, none⟩) (Kd.R_far (p := ⟨gb230, 1, none⟩) (Kd.R_far (p := ⟨gb230, 0, none⟩) (Kd.R_types HO227.out BK230.out (by decide)) (fun _ hk => hk.2) (.int .i64 t223)) (fun _ hk => hk.2) (.int .i64 t224)) (fun _ hk => hk.2) (.slice Ao63 t225.length co63)) (fun _ h_ => h_.1))))) (below_size (belS HB.out))); have n2_ := Aside0.mk (blk_below (g := gb230) (o := .cells #[.int .i64 t223, .int .i64 t224, .slice Ao63 t225.length co63] 26 (0, 0)) (by (with_reducible repeat (first | refine blk_drewN ?_ _ | refine blk_drew ?_ | refine blk_alloc ?_ _)); refine blk_put (cs := #[.int .i64 t223, .int .i64 t224, .slice none 0 0]) ?_ 2 _ rfl; (with_reducible repeat (first | refine blk_drewN ?_ _ | refine blk_drew ?_ | refine blk_alloc ?_ _)); refine blk_put (cs := #[.int .i64 t223, .int .i64 0, .slice none 0 0]) ?_ 1 _ rfl; (with_reducible repeat (first | refine blk_drewN ?_ _ | refine blk_drew ?_ | refine blk_alloc ?_ _)); refine blk_put (cs := #[.int .i64 0, .int .i64 0, .slice none 0 0]) ?_ 0 _ rfl; (with_reducible repeat (first | refine blk_drewN ?_ _ | refine blk_drew ?_ | refine blk_alloc ?_ _)); exact BK230.out) hb); have n3_ := Aside0.mk (below_step (belS HB.out) hb); clear HO227; clear BK230; clear HB; have HO227 := n0_; have HO235 := n1_; have BK230 := n2_; have HB := n3_; clear n0_ n1_ n2_ n3_; (try clear hb); (try clear hk); (try clear ho0)) | ((with_reducible refine gate_dst (N := 6) rfl ?_); refine box_event ?hg (N := 6) ?hd (cs := #[.int .i64 0, .int .i64 0, .slice none 0 0]) (t := 26) ?hr ?_; (case hd => rfl); (case hg => rfl); (case hr => first | (go_simp; done) | (go_simp; rfl)); intro gb238 hg w65 hbox hb; have n0_ := Aside0.mk (Kd.R_below (rowN HO227.out) hb); have n1_ := Aside0.mk (Kd.R_below (rowN HO235.out) hb); have n2_ := Aside0.mk (bkB BK230.out hb); have n3_ := Aside0.mk (below_step (belS HB.out) hb); have n4_ := Aside0.mk (hbox); have n5_ := Aside0.mk (szB hg HB.out); have n6_ := Aside0.mk (szB hg HB.out); have n7_ := Aside0.mk ((bk1 hg BK230.out)); have n8_ := Aside0.mk ((bk2 hg BK230.out)); clear HO227; clear HO235; clear BK230; clear HB; have HO227 := n0_; have HO235 := n1_; have BK230 := n2_; have HB := n3_; have BK238 := n4_; have GW238 := n5_; have GE238 := n6_; have NB230_238 := n7_; have NB238_230 := n8_; clear n0_ n1_ n2_ n3_ n4_ n5_ n6_ n7_ n8_; clear hb hbox hg; have hnb66 := NB238_230.out; have hnc66 := NB230_238.out; have hcz67_0 : w65.cell? ⟨gb238, 0, none⟩ = some (.int .i64 0) := (blk_cell BK238.out 0).trans rfl; have hcz67_1 : w65.cell? ⟨gb238, 1, none⟩ = some (.int .i64 0) := (blk_cell BK238.out 1).trans rfl; have hcz67_2 : w65.cell? ⟨gb238, 2, none⟩ = some (.slice none 0 0) := (blk_cell BK238.out 2).trans rfl; have hfz67_0 := blk_frozen BK238.out 0; have hfz67_1 := blk_frozen BK238.out 1; have hfz67_2 := blk_frozen BK238.out 2; obtain ⟨Ao68, co68, eo68⟩ := Kd.R_slice HO235.out; subst eo68))
  go_ret
  exact ⟨by first | rfl | (simp [errW_none, errW_some] <;> rfl) | (simp [*, errW_none, errW_some] <;> rfl), (belS HB.out)⟩

/-! ### marigraphlaw14_known: function 11 -/
def marigraphlaw14_known.f (k : Nat)  : Option (Bool) := (rowkey_Encode.f k 1 3600 (([(⟨1, 2⟩ : S23)] : List (S23)))).bind fun bt244 => ((rowkey_Encode.f k 1 5 (([(⟨1, 2⟩ : S23)] : List (S23)))).bind fun bt251 => ((rowkey_Decode.f k ([] : List Int)).bind fun bt255 => (if bt244.2 = 0 then (if (bt244.1.length : Int) = 15 then (if bt251.2 = 1 then (if bt255.2.2.2.1 = 0 then (some (bt255.2.2.2.2 == 12)) else (some false)) else (some false)) else (some false)) else (some false))))
theorem marigraphlaw14_known.mono : ∀ k, LeO (marigraphlaw14_known.f k ) (marigraphlaw14_known.f (k + 1) ) := by
 intro  k
 unfold marigraphlaw14_known.f
 repeat' first
   | (with_reducible exact rowkey_Decode.mono _ _)
   | (with_reducible exact rowkey_Encode.mono _ _ _ _)
   | (with_reducible exact LeO.refl _)
   | (with_reducible exact LeO.none _)
   | (with_reducible refine LeO.ite ?_ ?_)
   | (with_reducible refine LeO.bind ?_ (fun _ => ?_))
   | exact rowkey_Decode.mono _ _
   | exact rowkey_Encode.mono _ _ _ _
   | exact LeO.none _
   | refine LeO.ite ?_ ?_
   | refine LeO.bind ?_ (fun _ => ?_)
set_option maxHeartbeats 8000000 in
set_option maxRecDepth 100000 in
theorem marigraphlaw14_known.calls (k : Nat)  (r : Bool) (w : World) (h : marigraphlaw14_known.f k  = some r) :
  Calls Try.prog 11 #[] w fun e w' => e = .returned (.bool r) ∧ Below w.heap.size w w' := by
 have hu23 := Try.underlying23
 have hu26 := Try.underlying26
 have HB := Aside0.mk (Below.refl w.heap.size w)
 have H : ((rowkey_Encode.f k 1 3600 (([(⟨1, 2⟩ : S23)] : List (S23)))).bind fun bt244 => ((rowkey_Encode.f k 1 5 (([(⟨1, 2⟩ : S23)] : List (S23)))).bind fun bt251 => ((rowkey_Decode.f k ([] : List Int)).bind fun bt255 => (if bt244.2 = 0 then (if (bt244.1.length : Int) = 15 then (if bt251.2 = 1 then (if bt255.2.2.2.1 = 0 then (some (bt255.2.2.2.2 == 12)) else (some false)) else (some false)) else (some false)) else (some false))))) = some r := h
 clear h
 obtain ⟨y241, hy241⟩ : ∃ y_ : List (S23), y_ = (([(⟨1, 2⟩ : S23)] : List (S23))) := ⟨_, rfl⟩
 replace H : ((rowkey_Encode.f k 1 3600 y241).bind fun bt244 => ((rowkey_Encode.f k 1 5 (([(⟨1, 2⟩ : S23)] : List (S23)))).bind fun bt251 => ((rowkey_Decode.f k ([] : List Int)).bind fun bt255 => (if bt244.2 = 0 then (if (bt244.1.length : Int) = 15 then (if bt251.2 = 1 then (if bt255.2.2.2.1 = 0 then (some (bt255.2.2.2.2 == 12)) else (some false)) else (some false)) else (some false)) else (some false))))) = some r := by first | (rw [hy241]; with_reducible exact H) | (have H2_ := (Option.bind_some _ _).symm.trans H; rw [hy241]; with_reducible exact H2_) | (have H2_ := (Option.bind_some _ _).symm.trans H; with_reducible exact H2_) | with_reducible exact H | (rw [hy241]; exact H) | exact H
 have Ny241 := Aside0.mk hy241
 clear hy241
 replace H := Option.bind_eq_some_iff.mp H
 obtain ⟨⟨t244, t247⟩, A10, H⟩ := H
 replace H : ((rowkey_Encode.f k 1 5 (([(⟨1, 2⟩ : S23)] : List (S23)))).bind fun bt251 => ((rowkey_Decode.f k ([] : List Int)).bind fun bt255 => (if t247 = 0 then (if (t244.length : Int) = 15 then (if bt251.2 = 1 then (if bt255.2.2.2.1 = 0 then (some (bt255.2.2.2.2 == 12)) else (some false)) else (some false)) else (some false)) else (some false)))) = some r := H
 have A1 := Aside0.mk A10
 clear A10
 obtain ⟨y248, hy248⟩ : ∃ y_ : List (S23), y_ = (([(⟨1, 2⟩ : S23)] : List (S23))) := ⟨_, rfl⟩
 replace H : ((rowkey_Encode.f k 1 5 y248).bind fun bt251 => ((rowkey_Decode.f k ([] : List Int)).bind fun bt255 => (if t247 = 0 then (if (t244.length : Int) = 15 then (if bt251.2 = 1 then (if bt255.2.2.2.1 = 0 then (some (bt255.2.2.2.2 == 12)) else (some false)) else (some false)) else (some false)) else (some false)))) = some r := by first | (rw [hy248]; with_reducible exact H) | (have H2_ := (Option.bind_some _ _).symm.trans H; rw [hy248]; with_reducible exact H2_) | (have H2_ := (Option.bind_some _ _).symm.trans H; with_reducible exact H2_) | with_reducible exact H | (rw [hy248]; exact H) | exact H
 have Ny248 := Aside0.mk hy248
 clear hy248
 replace H := Option.bind_eq_some_iff.mp H
 obtain ⟨⟨t251, t254⟩, A20, H⟩ := H
 replace H : ((rowkey_Decode.f k ([] : List Int)).bind fun bt255 => (if t247 = 0 then (if (t244.length : Int) = 15 then (if t254 = 1 then (if bt255.2.2.2.1 = 0 then (some (bt255.2.2.2.2 == 12)) else (some false)) else (some false)) else (some false)) else (some false))) = some r := H
 have A2 := Aside0.mk A20
 clear A20
 replace H := Option.bind_eq_some_iff.mp H
 obtain ⟨⟨t255, t256, t257, t260, t261⟩, A30, H⟩ := H
 replace H : (if t247 = 0 then (if (t244.length : Int) = 15 then (if t254 = 1 then (if t260 = 0 then (some (t261 == 12)) else (some false)) else (some false)) else (some false)) else (some false)) = some r := H
 have A3 := Aside0.mk A30
 clear A30
 by_cases c4 : t247 = 0
 ·rw [if_pos c4] at H
  have c4b0 : (t247 == 0) = true := beq_iff_eq.mpr c4
  have c4b1 : (t247 != 0) = false := bne_eq_false_iff_eq.mpr c4
  clear c4
  by_cases c5 : (t244.length : Int) = 15
  ·rw [if_pos c5] at H
   have c5b0 : ((t244.length : Int) == 15) = true := beq_iff_eq.mpr c5
   have c5b1 : ((t244.length : Int) != 15) = false := bne_eq_false_iff_eq.mpr c5
   clear c5
   by_cases c6 : t254 = 1
   ·rw [if_pos c6] at H
    have c6b0 : (t254 == 1) = true := beq_iff_eq.mpr c6
    have c6b1 : (t254 != 1) = false := bne_eq_false_iff_eq.mpr c6
    clear c6
    by_cases c7 : t260 = 0
    ·rw [if_pos c7] at H
     have c7b0 : (t260 == 0) = true := beq_iff_eq.mpr c7
     have c7b1 : (t260 != 0) = false := bne_eq_false_iff_eq.mpr c7
     clear c7
     obtain rfl := Option.some.inj H
     go_enter Try.func11, Try.ntmps11
     go_wp2_with (first | ((with_reducible refine gate_dst (N := 10) rfl ?_); (try (refine gate_guard (by rfl) ?_; dsimp only)); refine Kd.R_lit k23 _ 23 ?hg (N := 10) ?hd (xs := ([(⟨1, 2⟩ : S23)] : List (S23))) (inner := [.int .i64 1, .int .i64 2]) (ok := fun _ => True) (okp := fun _ => True) ?hr ?hp (fun _ hk => hk) trivial (Below.refl _ _) (Nat.le_refl _) (by simp) ?_; (case hd => rfl); (case hg => rfl); (case hr => first | (go_simp; done) | (go_simp; rfl)); (case hp => exact (Reps.c2 (show Kd.M k23 _ _ _ (⟨1, 2⟩ : S23) [.int .i64 1, .int .i64 2] from (k23_mkM _ _ _ (⟨1, 2⟩ : S23) )) (Reps.none _ _))); intro v242 w8 ho9 hb hg_ hnew_; clear hg_ hnew_; (first | rw [← Ny241.out] at ho9 | (simp only [Int.reduceToNat] at ho9; rw [← Ny241.out] at ho9)); have n0_ := Aside0.mk (Kd.R_lower ho9 (below_size (belN HB.out))); have n1_ := Aside0.mk (below_step (belN HB.out) hb); clear HB; have HO243 := n0_; have HB := n1_; clear n0_ n1_; clear hb ho9; obtain ⟨Ao10, co10, eo10⟩ := Kd.R_slice HO243.out; subst eo10) | ((with_reducible refine gate_callee (f := 15) rfl ?_); refine goesL_ (some 12) rfl rfl Try.func15 (by kernel_rfl) rfl #[.agg #[.int .i64 1, .int .i64 3600, .slice Ao10 y241.length co10]] rfl argN ?_; (with_reducible refine (rowkey_Encode.calls k 1 3600 _ _ y241 t244 t247 _ ?side1 ?side2 A1.out).mono ?_); (case side1 => repeat (first | exact (Kd.R_reads' HO243.out).2.2 | (with_reducible refine Kd.C_alloc ?_ _) | (with_reducible refine Kd.C_drewN ?_ _) | (with_reducible refine Kd.C_drew ?_))); (case side2 => exact (Kd.R_reads' HO243.out).2.1); rintro e w11 ⟨v245, rfl, ho0, hb⟩; refine ⟨_, rfl, ?_⟩; have n0_ := Aside0.mk (Kd.R_below (rowN HO243.out) hb); have n1_ := Aside0.mk (Kd.R_lower ho0 (below_size (belN HB.out))); have n2_ := Aside0.mk (below_step (belN HB.out) hb); clear HO243; clear HB; have HO243 := n0_; have HO246 := n1_; have HB := n2_; clear n0_ n1_ n2_; (try clear hb); (try clear hk); (try clear ho0)) | ((with_reducible refine gate_dst (N := 17) rfl ?_); (try (refine gate_guard (by rfl) ?_; dsimp only)); refine Kd.R_lit k23 _ 23 ?hg (N := 17) ?hd (xs := ([(⟨1, 2⟩ : S23)] : List (S23))) (inner := [.int .i64 1, .int .i64 2]) (ok := fun _ => True) (okp := fun _ => True) ?hr ?hp (fun _ hk => hk) trivial (Below.refl _ _) (Nat.le_refl _) (by simp) ?_; (case hd => rfl); (case hg => rfl); (case hr => first | (go_simp; done) | (go_simp; rfl)); (case hp => exact (Reps.c2 (show Kd.M k23 _ _ _ (⟨1, 2⟩ : S23) [.int .i64 1, .int .i64 2] from (k23_mkM _ _ _ (⟨1, 2⟩ : S23) )) (Reps.none _ _))); intro v249 w12 ho13 hb hg_ hnew_; clear hg_ hnew_; (first | rw [← Ny248.out] at ho13 | (simp only [Int.reduceToNat] at ho13; rw [← Ny248.out] at ho13)); have n0_ := Aside0.mk (Kd.R_elder' (rowN HO243.out) (Kd.R_base ho13) hb); have n1_ := Aside0.mk (Kd.R_below (rowN HO246.out) hb); have n2_ := Aside0.mk (Kd.R_lower (Kd.R_new' ho13 (Kd.R_lt (rowN HO243.out))) (below_size (belN HB.out))); have n3_ := Aside0.mk (below_step (belN HB.out) hb); clear HO243; clear HO246; clear HB; have HO243 := n0_; have HO246 := n1_; have HO250 := n2_; have HB := n3_; clear n0_ n1_ n2_ n3_; clear hb ho13; obtain ⟨Ao14, co14, eo14⟩ := Kd.R_slice HO250.out; subst eo14) | ((with_reducible refine gate_callee (f := 15) rfl ?_); refine goesL_ (some 19) rfl rfl Try.func15 (by kernel_rfl) rfl #[.agg #[.int .i64 1, .int .i64 5, .slice Ao14 y248.length co14]] rfl argN ?_; (with_reducible refine (rowkey_Encode.calls k 1 5 _ _ y248 t251 t254 _ ?side1 ?side2 A2.out).mono ?_); (case side1 => repeat (first | exact (Kd.R_reads' HO250.out).2.2 | (with_reducible refine Kd.C_alloc ?_ _) | (with_reducible refine Kd.C_drewN ?_ _) | (with_reducible refine Kd.C_drew ?_))); (case side2 => exact (Kd.R_reads' HO250.out).2.1); rintro e w15 ⟨v252, rfl, ho0, hb⟩; refine ⟨_, rfl, ?_⟩; have n0_ := Aside0.mk (Kd.R_below (rowN HO243.out) hb); have n1_ := Aside0.mk (Kd.R_elder' (rowN HO246.out) (Kd.R_base ho0) hb); have n2_ := Aside0.mk (Kd.R_below (rowN HO250.out) hb); have n3_ := Aside0.mk (Kd.R_lower (Kd.R_new' ho0 (Kd.R_lt (rowN HO246.out))) (below_size (belN HB.out))); have n4_ := Aside0.mk (below_step (belN HB.out) hb); clear HO243; clear HO246; clear HO250; clear HB; have HO243 := n0_; have HO246 := n1_; have HO250 := n2_; have HO253 := n3_; have HB := n4_; clear n0_ n1_ n2_ n3_ n4_; (try clear hb); (try clear hk); (try clear ho0)) | ((with_reducible refine gate_callee (f := 21) rfl ?_); refine goesL_ (some 23) rfl rfl Try.func21 (by kernel_rfl) rfl #[.slice none 0 0] rfl argN ?_; (refine (rowkey_Decode.calls k _ _ ([] : List Int) t255 t256 t257 t260 t261 _ ?side1 ?side2 A3.out).mono ?_); (case side1 => exact Kd.C_nil _ _); (case side2 => exact Nat.le_refl _); rintro e w16 ⟨v258, rfl, ho0, hb⟩; refine ⟨_, rfl, ?_⟩; have n0_ := Aside0.mk (Kd.R_elder' (rowN HO243.out) (Kd.R_base ho0) hb); have n1_ := Aside0.mk (Kd.R_below (rowN HO246.out) hb); have n2_ := Aside0.mk (Kd.R_elder' (rowN HO250.out) (Kd.R_base ho0) hb); have n3_ := Aside0.mk (Kd.R_below (rowN HO253.out) hb); have n4_ := Aside0.mk (Kd.R_lower (Kd.R_new' (Kd.R_new' ho0 (Kd.R_lt (rowN HO243.out))) (Kd.R_lt (rowN HO250.out))) (below_size (belN HB.out))); have n5_ := Aside0.mk (below_step (belN HB.out) hb); clear HO243; clear HO246; clear HO250; clear HO253; clear HB; have HO243 := n0_; have HO246 := n1_; have HO250 := n2_; have HO253 := n3_; have HO259 := n4_; have HB := n5_; clear n0_ n1_ n2_ n3_ n4_ n5_; (try clear hb); (try clear hk); (try clear ho0)) | ((with_reducible refine gate_dst (N := 5) rfl ?_); (try (refine gate_guard (by rfl) ?_; dsimp only)); refine box_event ?hg (N := 5) ?hd (cs := #[.int .i64 0, .int .i64 0, .slice none 0 0]) (t := 26) ?hr ?_; (case hd => rfl); (case hg => rfl); (case hr => first | (go_simp; done) | (go_simp; rfl)); intro gb262 hg w17 hbox hb; have n0_ := Aside0.mk (Kd.R_below (rowN HO243.out) hb); have n1_ := Aside0.mk (Kd.R_below (rowN HO246.out) hb); have n2_ := Aside0.mk (Kd.R_below (rowN HO250.out) hb); have n3_ := Aside0.mk (Kd.R_below (rowN HO253.out) hb); have n4_ := Aside0.mk (Kd.R_below (rowN HO259.out) hb); have n5_ := Aside0.mk (below_step (belN HB.out) hb); have n6_ := Aside0.mk (hbox); have n7_ := Aside0.mk (szB hg HB.out); have n8_ := Aside0.mk (szB hg HB.out); clear HO243; clear HO246; clear HO250; clear HO253; clear HO259; clear HB; have HO243 := n0_; have HO246 := n1_; have HO250 := n2_; have HO253 := n3_; have HO259 := n4_; have HB := n5_; have BK262 := n6_; have GW262 := n7_; have GE262 := n8_; clear n0_ n1_ n2_ n3_ n4_ n5_ n6_ n7_ n8_; clear hb hbox hg; have hcz18_0 : w17.cell? ⟨gb262, 0, none⟩ = some (.int .i64 0) := (blk_cell BK262.out 0).trans rfl; have hcz18_1 : w17.cell? ⟨gb262, 1, none⟩ = some (.int .i64 0) := (blk_cell BK262.out 1).trans rfl; have hcz18_2 : w17.cell? ⟨gb262, 2, none⟩ = some (.slice none 0 0) := (blk_cell BK262.out 2).trans rfl; have hfz18_0 := blk_frozen BK262.out 0; have hfz18_1 := blk_frozen BK262.out 1; have hfz18_2 := blk_frozen BK262.out 2; obtain ⟨Ao19, co19, eo19⟩ := Kd.R_slice HO259.out; subst eo19; obtain ⟨Ao20, co20, eo20⟩ := Kd.R_slice HO246.out; subst eo20))
     go_ret
     exact ⟨by first | rfl | (simp [errW_none, errW_some] <;> rfl) | (simp [*, errW_none, errW_some] <;> rfl), (belS HB.out)⟩
    ·rw [if_neg c7] at H
     have c7b0 : (t260 == 0) = false := beq_eq_false_iff_ne.mpr c7
     have c7b1 : (t260 != 0) = true := bne_iff_ne.mpr c7
     obtain rfl := Option.some.inj H
     go_enter Try.func11, Try.ntmps11
     go_wp2_with (first | ((with_reducible refine gate_dst (N := 10) rfl ?_); (try (refine gate_guard (by rfl) ?_; dsimp only)); refine Kd.R_lit k23 _ 23 ?hg (N := 10) ?hd (xs := ([(⟨1, 2⟩ : S23)] : List (S23))) (inner := [.int .i64 1, .int .i64 2]) (ok := fun _ => True) (okp := fun _ => True) ?hr ?hp (fun _ hk => hk) trivial (Below.refl _ _) (Nat.le_refl _) (by simp) ?_; (case hd => rfl); (case hg => rfl); (case hr => first | (go_simp; done) | (go_simp; rfl)); (case hp => exact (Reps.c2 (show Kd.M k23 _ _ _ (⟨1, 2⟩ : S23) [.int .i64 1, .int .i64 2] from (k23_mkM _ _ _ (⟨1, 2⟩ : S23) )) (Reps.none _ _))); intro v242 w21 ho22 hb hg_ hnew_; clear hg_ hnew_; (first | rw [← Ny241.out] at ho22 | (simp only [Int.reduceToNat] at ho22; rw [← Ny241.out] at ho22)); have n0_ := Aside0.mk (Kd.R_lower ho22 (below_size (belN HB.out))); have n1_ := Aside0.mk (below_step (belN HB.out) hb); clear HB; have HO243 := n0_; have HB := n1_; clear n0_ n1_; clear hb ho22; obtain ⟨Ao23, co23, eo23⟩ := Kd.R_slice HO243.out; subst eo23) | ((with_reducible refine gate_callee (f := 15) rfl ?_); refine goesL_ (some 12) rfl rfl Try.func15 (by kernel_rfl) rfl #[.agg #[.int .i64 1, .int .i64 3600, .slice Ao23 y241.length co23]] rfl argN ?_; (with_reducible refine (rowkey_Encode.calls k 1 3600 _ _ y241 t244 t247 _ ?side1 ?side2 A1.out).mono ?_); (case side1 => repeat (first | exact (Kd.R_reads' HO243.out).2.2 | (with_reducible refine Kd.C_alloc ?_ _) | (with_reducible refine Kd.C_drewN ?_ _) | (with_reducible refine Kd.C_drew ?_))); (case side2 => exact (Kd.R_reads' HO243.out).2.1); rintro e w24 ⟨v245, rfl, ho0, hb⟩; refine ⟨_, rfl, ?_⟩; have n0_ := Aside0.mk (Kd.R_below (rowN HO243.out) hb); have n1_ := Aside0.mk (Kd.R_lower ho0 (below_size (belN HB.out))); have n2_ := Aside0.mk (below_step (belN HB.out) hb); clear HO243; clear HB; have HO243 := n0_; have HO246 := n1_; have HB := n2_; clear n0_ n1_ n2_; (try clear hb); (try clear hk); (try clear ho0)) | ((with_reducible refine gate_dst (N := 17) rfl ?_); (try (refine gate_guard (by rfl) ?_; dsimp only)); refine Kd.R_lit k23 _ 23 ?hg (N := 17) ?hd (xs := ([(⟨1, 2⟩ : S23)] : List (S23))) (inner := [.int .i64 1, .int .i64 2]) (ok := fun _ => True) (okp := fun _ => True) ?hr ?hp (fun _ hk => hk) trivial (Below.refl _ _) (Nat.le_refl _) (by simp) ?_; (case hd => rfl); (case hg => rfl); (case hr => first | (go_simp; done) | (go_simp; rfl)); (case hp => exact (Reps.c2 (show Kd.M k23 _ _ _ (⟨1, 2⟩ : S23) [.int .i64 1, .int .i64 2] from (k23_mkM _ _ _ (⟨1, 2⟩ : S23) )) (Reps.none _ _))); intro v249 w25 ho26 hb hg_ hnew_; clear hg_ hnew_; (first | rw [← Ny248.out] at ho26 | (simp only [Int.reduceToNat] at ho26; rw [← Ny248.out] at ho26)); have n0_ := Aside0.mk (Kd.R_elder' (rowN HO243.out) (Kd.R_base ho26) hb); have n1_ := Aside0.mk (Kd.R_below (rowN HO246.out) hb); have n2_ := Aside0.mk (Kd.R_lower (Kd.R_new' ho26 (Kd.R_lt (rowN HO243.out))) (below_size (belN HB.out))); have n3_ := Aside0.mk (below_step (belN HB.out) hb); clear HO243; clear HO246; clear HB; have HO243 := n0_; have HO246 := n1_; have HO250 := n2_; have HB := n3_; clear n0_ n1_ n2_ n3_; clear hb ho26; obtain ⟨Ao27, co27, eo27⟩ := Kd.R_slice HO250.out; subst eo27) | ((with_reducible refine gate_callee (f := 15) rfl ?_); refine goesL_ (some 19) rfl rfl Try.func15 (by kernel_rfl) rfl #[.agg #[.int .i64 1, .int .i64 5, .slice Ao27 y248.length co27]] rfl argN ?_; (with_reducible refine (rowkey_Encode.calls k 1 5 _ _ y248 t251 t254 _ ?side1 ?side2 A2.out).mono ?_); (case side1 => repeat (first | exact (Kd.R_reads' HO250.out).2.2 | (with_reducible refine Kd.C_alloc ?_ _) | (with_reducible refine Kd.C_drewN ?_ _) | (with_reducible refine Kd.C_drew ?_))); (case side2 => exact (Kd.R_reads' HO250.out).2.1); rintro e w28 ⟨v252, rfl, ho0, hb⟩; refine ⟨_, rfl, ?_⟩; have n0_ := Aside0.mk (Kd.R_below (rowN HO243.out) hb); have n1_ := Aside0.mk (Kd.R_elder' (rowN HO246.out) (Kd.R_base ho0) hb); have n2_ := Aside0.mk (Kd.R_below (rowN HO250.out) hb); have n3_ := Aside0.mk (Kd.R_lower (Kd.R_new' ho0 (Kd.R_lt (rowN HO246.out))) (below_size (belN HB.out))); have n4_ := Aside0.mk (below_step (belN HB.out) hb); clear HO243; clear HO246; clear HO250; clear HB; have HO243 := n0_; have HO246 := n1_; have HO250 := n2_; have HO253 := n3_; have HB := n4_; clear n0_ n1_ n2_ n3_ n4_; (try clear hb); (try clear hk); (try clear ho0)) | ((with_reducible refine gate_callee (f := 21) rfl ?_); refine goesL_ (some 23) rfl rfl Try.func21 (by kernel_rfl) rfl #[.slice none 0 0] rfl argN ?_; (refine (rowkey_Decode.calls k _ _ ([] : List Int) t255 t256 t257 t260 t261 _ ?side1 ?side2 A3.out).mono ?_); (case side1 => exact Kd.C_nil _ _); (case side2 => exact Nat.le_refl _); rintro e w29 ⟨v258, rfl, ho0, hb⟩; refine ⟨_, rfl, ?_⟩; have n0_ := Aside0.mk (Kd.R_elder' (rowN HO243.out) (Kd.R_base ho0) hb); have n1_ := Aside0.mk (Kd.R_below (rowN HO246.out) hb); have n2_ := Aside0.mk (Kd.R_elder' (rowN HO250.out) (Kd.R_base ho0) hb); have n3_ := Aside0.mk (Kd.R_below (rowN HO253.out) hb); have n4_ := Aside0.mk (Kd.R_lower (Kd.R_new' (Kd.R_new' ho0 (Kd.R_lt (rowN HO243.out))) (Kd.R_lt (rowN HO250.out))) (below_size (belN HB.out))); have n5_ := Aside0.mk (below_step (belN HB.out) hb); clear HO243; clear HO246; clear HO250; clear HO253; clear HB; have HO243 := n0_; have HO246 := n1_; have HO250 := n2_; have HO253 := n3_; have HO259 := n4_; have HB := n5_; clear n0_ n1_ n2_ n3_ n4_ n5_; (try clear hb); (try clear hk); (try clear ho0)) | ((with_reducible refine gate_dst (N := 5) rfl ?_); (try (refine gate_guard (by rfl) ?_; dsimp only)); refine box_event ?hg (N := 5) ?hd (cs := #[.int .i64 0, .int .i64 0, .slice none 0 0]) (t := 26) ?hr ?_; (case hd => rfl); (case hg => rfl); (case hr => first | (go_simp; done) | (go_simp; rfl)); intro gb262 hg w30 hbox hb; have n0_ := Aside0.mk (Kd.R_below (rowN HO243.out) hb); have n1_ := Aside0.mk (Kd.R_below (rowN HO246.out) hb); have n2_ := Aside0.mk (Kd.R_below (rowN HO250.out) hb); have n3_ := Aside0.mk (Kd.R_below (rowN HO253.out) hb); have n4_ := Aside0.mk (Kd.R_below (rowN HO259.out) hb); have n5_ := Aside0.mk (below_step (belN HB.out) hb); have n6_ := Aside0.mk (hbox); have n7_ := Aside0.mk (szB hg HB.out); have n8_ := Aside0.mk (szB hg HB.out); clear HO243; clear HO246; clear HO250; clear HO253; clear HO259; clear HB; have HO243 := n0_; have HO246 := n1_; have HO250 := n2_; have HO253 := n3_; have HO259 := n4_; have HB := n5_; have BK262 := n6_; have GW262 := n7_; have GE262 := n8_; clear n0_ n1_ n2_ n3_ n4_ n5_ n6_ n7_ n8_; clear hb hbox hg; have hcz31_0 : w30.cell? ⟨gb262, 0, none⟩ = some (.int .i64 0) := (blk_cell BK262.out 0).trans rfl; have hcz31_1 : w30.cell? ⟨gb262, 1, none⟩ = some (.int .i64 0) := (blk_cell BK262.out 1).trans rfl; have hcz31_2 : w30.cell? ⟨gb262, 2, none⟩ = some (.slice none 0 0) := (blk_cell BK262.out 2).trans rfl; have hfz31_0 := blk_frozen BK262.out 0; have hfz31_1 := blk_frozen BK262.out 1; have hfz31_2 := blk_frozen BK262.out 2; obtain ⟨Ao32, co32, eo32⟩ := Kd.R_slice HO259.out; subst eo32; obtain ⟨Ao33, co33, eo33⟩ := Kd.R_slice HO246.out; subst eo33))
     go_ret
     exact ⟨by first | rfl | (simp [errW_none, errW_some] <;> rfl) | (simp [*, errW_none, errW_some] <;> rfl), (belS HB.out)⟩
   ·rw [if_neg c6] at H
    have c6b0 : (t254 == 1) = false := beq_eq_false_iff_ne.mpr c6
    have c6b1 : (t254 != 1) = true := bne_iff_ne.mpr c6
    obtain rfl := Option.some.inj H
    go_enter Try.func11, Try.ntmps11
    go_wp2_with (first | ((with_reducible refine gate_dst (N := 10) rfl ?_); (try (refine gate_guard (by rfl) ?_; dsimp only)); refine Kd.R_lit k23 _ 23 ?hg (N := 10) ?hd (xs := ([(⟨1, 2⟩ : S23)] : List (S23))) (inner := [.int .i64 1, .int .i64 2]) (ok := fun _ => True) (okp := fun _ => True) ?hr ?hp (fun _ hk => hk) trivial (Below.refl _ _) (Nat.le_refl _) (by simp) ?_; (case hd => rfl); (case hg => rfl); (case hr => first | (go_simp; done) | (go_simp; rfl)); (case hp => exact (Reps.c2 (show Kd.M k23 _ _ _ (⟨1, 2⟩ : S23) [.int .i64 1, .int .i64 2] from (k23_mkM _ _ _ (⟨1, 2⟩ : S23) )) (Reps.none _ _))); intro v242 w34 ho35 hb hg_ hnew_; clear hg_ hnew_; (first | rw [← Ny241.out] at ho35 | (simp only [Int.reduceToNat] at ho35; rw [← Ny241.out] at ho35)); have n0_ := Aside0.mk (Kd.R_lower ho35 (below_size (belN HB.out))); have n1_ := Aside0.mk (below_step (belN HB.out) hb); clear HB; have HO243 := n0_; have HB := n1_; clear n0_ n1_; clear hb ho35; obtain ⟨Ao36, co36, eo36⟩ := Kd.R_slice HO243.out; subst eo36) | ((with_reducible refine gate_callee (f := 15) rfl ?_); refine goesL_ (some 12) rfl rfl Try.func15 (by kernel_rfl) rfl #[.agg #[.int .i64 1, .int .i64 3600, .slice Ao36 y241.length co36]] rfl argN ?_; (with_reducible refine (rowkey_Encode.calls k 1 3600 _ _ y241 t244 t247 _ ?side1 ?side2 A1.out).mono ?_); (case side1 => repeat (first | exact (Kd.R_reads' HO243.out).2.2 | (with_reducible refine Kd.C_alloc ?_ _) | (with_reducible refine Kd.C_drewN ?_ _) | (with_reducible refine Kd.C_drew ?_))); (case side2 => exact (Kd.R_reads' HO243.out).2.1); rintro e w37 ⟨v245, rfl, ho0, hb⟩; refine ⟨_, rfl, ?_⟩; have n0_ := Aside0.mk (Kd.R_below (rowN HO243.out) hb); have n1_ := Aside0.mk (Kd.R_lower ho0 (below_size (belN HB.out))); have n2_ := Aside0.mk (below_step (belN HB.out) hb); clear HO243; clear HB; have HO243 := n0_; have HO246 := n1_; have HB := n2_; clear n0_ n1_ n2_; (try clear hb); (try clear hk); (try clear ho0)) | ((with_reducible refine gate_dst (N := 17) rfl ?_); (try (refine gate_guard (by rfl) ?_; dsimp only)); refine Kd.R_lit k23 _ 23 ?hg (N := 17) ?hd (xs := ([(⟨1, 2⟩ : S23)] : List (S23))) (inner := [.int .i64 1, .int .i64 2]) (ok := fun _ => True) (okp := fun _ => True) ?hr ?hp (fun _ hk => hk) trivial (Below.refl _ _) (Nat.le_refl _) (by simp) ?_; (case hd => rfl); (case hg => rfl); (case hr => first | (go_simp; done) | (go_simp; rfl)); (case hp => exact (Reps.c2 (show Kd.M k23 _ _ _ (⟨1, 2⟩ : S23) [.int .i64 1, .int .i64 2] from (k23_mkM _ _ _ (⟨1, 2⟩ : S23) )) (Reps.none _ _))); intro v249 w38 ho39 hb hg_ hnew_; clear hg_ hnew_; (first | rw [← Ny248.out] at ho39 | (simp only [Int.reduceToNat] at ho39; rw [← Ny248.out] at ho39)); have n0_ := Aside0.mk (Kd.R_elder' (rowN HO243.out) (Kd.R_base ho39) hb); have n1_ := Aside0.mk (Kd.R_below (rowN HO246.out) hb); have n2_ := Aside0.mk (Kd.R_lower (Kd.R_new' ho39 (Kd.R_lt (rowN HO243.out))) (below_size (belN HB.out))); have n3_ := Aside0.mk (below_step (belN HB.out) hb); clear HO243; clear HO246; clear HB; have HO243 := n0_; have HO246 := n1_; have HO250 := n2_; have HB := n3_; clear n0_ n1_ n2_ n3_; clear hb ho39; obtain ⟨Ao40, co40, eo40⟩ := Kd.R_slice HO250.out; subst eo40) | ((with_reducible refine gate_callee (f := 15) rfl ?_); refine goesL_ (some 19) rfl rfl Try.func15 (by kernel_rfl) rfl #[.agg #[.int .i64 1, .int .i64 5, .slice Ao40 y248.length co40]] rfl argN ?_; (with_reducible refine (rowkey_Encode.calls k 1 5 _ _ y248 t251 t254 _ ?side1 ?side2 A2.out).mono ?_); (case side1 => repeat (first | exact (Kd.R_reads' HO250.out).2.2 | (with_reducible refine Kd.C_alloc ?_ _) | (with_reducible refine Kd.C_drewN ?_ _) | (with_reducible refine Kd.C_drew ?_))); (case side2 => exact (Kd.R_reads' HO250.out).2.1); rintro e w41 ⟨v252, rfl, ho0, hb⟩; refine ⟨_, rfl, ?_⟩; have n0_ := Aside0.mk (Kd.R_below (rowN HO243.out) hb); have n1_ := Aside0.mk (Kd.R_elder' (rowN HO246.out) (Kd.R_base ho0) hb); have n2_ := Aside0.mk (Kd.R_below (rowN HO250.out) hb); have n3_ := Aside0.mk (Kd.R_lower (Kd.R_new' ho0 (Kd.R_lt (rowN HO246.out))) (below_size (belN HB.out))); have n4_ := Aside0.mk (below_step (belN HB.out) hb); clear HO243; clear HO246; clear HO250; clear HB; have HO243 := n0_; have HO246 := n1_; have HO250 := n2_; have HO253 := n3_; have HB := n4_; clear n0_ n1_ n2_ n3_ n4_; (try clear hb); (try clear hk); (try clear ho0)) | ((with_reducible refine gate_callee (f := 21) rfl ?_); refine goesL_ (some 23) rfl rfl Try.func21 (by kernel_rfl) rfl #[.slice none 0 0] rfl argN ?_; (refine (rowkey_Decode.calls k _ _ ([] : List Int) t255 t256 t257 t260 t261 _ ?side1 ?side2 A3.out).mono ?_); (case side1 => exact Kd.C_nil _ _); (case side2 => exact Nat.le_refl _); rintro e w42 ⟨v258, rfl, ho0, hb⟩; refine ⟨_, rfl, ?_⟩; have n0_ := Aside0.mk (Kd.R_elder' (rowN HO243.out) (Kd.R_base ho0) hb); have n1_ := Aside0.mk (Kd.R_below (rowN HO246.out) hb); have n2_ := Aside0.mk (Kd.R_elder' (rowN HO250.out) (Kd.R_base ho0) hb); have n3_ := Aside0.mk (Kd.R_below (rowN HO253.out) hb); have n4_ := Aside0.mk (Kd.R_lower (Kd.R_new' (Kd.R_new' ho0 (Kd.R_lt (rowN HO243.out))) (Kd.R_lt (rowN HO250.out))) (below_size (belN HB.out))); have n5_ := Aside0.mk (below_step (belN HB.out) hb); clear HO243; clear HO246; clear HO250; clear HO253; clear HB; have HO243 := n0_; have HO246 := n1_; have HO250 := n2_; have HO253 := n3_; have HO259 := n4_; have HB := n5_; clear n0_ n1_ n2_ n3_ n4_ n5_; (try clear hb); (try clear hk); (try clear ho0)) | ((with_reducible refine gate_dst (N := 5) rfl ?_); (try (refine gate_guard (by rfl) ?_; dsimp only)); refine box_event ?hg (N := 5) ?hd (cs := #[.int .i64 0, .int .i64 0, .slice none 0 0]) (t := 26) ?hr ?_; (case hd => rfl); (case hg => rfl); (case hr => first | (go_simp; done) | (go_simp; rfl)); intro gb262 hg w43 hbox hb; have n0_ := Aside0.mk (Kd.R_below (rowN HO243.out) hb); have n1_ := Aside0.mk (Kd.R_below (rowN HO246.out) hb); have n2_ := Aside0.mk (Kd.R_below (rowN HO250.out) hb); have n3_ := Aside0.mk (Kd.R_below (rowN HO253.out) hb); have n4_ := Aside0.mk (Kd.R_below (rowN HO259.out) hb); have n5_ := Aside0.mk (below_step (belN HB.out) hb); have n6_ := Aside0.mk (hbox); have n7_ := Aside0.mk (szB hg HB.out); have n8_ := Aside0.mk (szB hg HB.out); clear HO243; clear HO246; clear HO250; clear HO253; clear HO259; clear HB; have HO243 := n0_; have HO246 := n1_; have HO250 := n2_; have HO253 := n3_; have HO259 := n4_; have HB := n5_; have BK262 := n6_; have GW262 := n7_; have GE262 := n8_; clear n0_ n1_ n2_ n3_ n4_ n5_ n6_ n7_ n8_; clear hb hbox hg; have hcz44_0 : w43.cell? ⟨gb262, 0, none⟩ = some (.int .i64 0) := (blk_cell BK262.out 0).trans rfl; have hcz44_1 : w43.cell? ⟨gb262, 1, none⟩ = some (.int .i64 0) := (blk_cell BK262.out 1).trans rfl; have hcz44_2 : w43.cell? ⟨gb262, 2, none⟩ = some (.slice none 0 0) := (blk_cell BK262.out 2).trans rfl; have hfz44_0 := blk_frozen BK262.out 0; have hfz44_1 := blk_frozen BK262.out 1; have hfz44_2 := blk_frozen BK262.out 2; obtain ⟨Ao45, co45, eo45⟩ := Kd.R_slice HO259.out; subst eo45; obtain ⟨Ao46, co46, eo46⟩ := Kd.R_slice HO246.out; subst eo46))
    go_ret
    exact ⟨by first | rfl | (simp [errW_none, errW_some] <;> rfl) | (simp [*, errW_none, errW_some] <;> rfl), (belS HB.out)⟩
  ·rw [if_neg c5] at H
   have c5b0 : ((t244.length : Int) == 15) = false := beq_eq_false_iff_ne.mpr c5
   have c5b1 : ((t244.length : Int) != 15) = true := bne_iff_ne.mpr c5
   obtain rfl := Option.some.inj H
   go_enter Try.func11, Try.ntmps11
   go_wp2_with (first | ((with_reducible refine gate_dst (N := 10) rfl ?_); (try (refine gate_guard (by rfl) ?_; dsimp only)); refine Kd.R_lit k23 _ 23 ?hg (N := 10) ?hd (xs := ([(⟨1, 2⟩ : S23)] : List (S23))) (inner := [.int .i64 1, .int .i64 2]) (ok := fun _ => True) (okp := fun _ => True) ?hr ?hp (fun _ hk => hk) trivial (Below.refl _ _) (Nat.le_refl _) (by simp) ?_; (case hd => rfl); (case hg => rfl); (case hr => first | (go_simp; done) | (go_simp; rfl)); (case hp => exact (Reps.c2 (show Kd.M k23 _ _ _ (⟨1, 2⟩ : S23) [.int .i64 1, .int .i64 2] from (k23_mkM _ _ _ (⟨1, 2⟩ : S23) )) (Reps.none _ _))); intro v242 w47 ho48 hb hg_ hnew_; clear hg_ hnew_; (first | rw [← Ny241.out] at ho48 | (simp only [Int.reduceToNat] at ho48; rw [← Ny241.out] at ho48)); have n0_ := Aside0.mk (Kd.R_lower ho48 (below_size (belN HB.out))); have n1_ := Aside0.mk (below_step (belN HB.out) hb); clear HB; have HO243 := n0_; have HB := n1_; clear n0_ n1_; clear hb ho48; obtain ⟨Ao49, co49, eo49⟩ := Kd.R_slice HO243.out; subst eo49) | ((with_reducible refine gate_callee (f := 15) rfl ?_); refine goesL_ (some 12) rfl rfl Try.func15 (by kernel_rfl) rfl #[.agg #[.int .i64 1, .int .i64 3600, .slice Ao49 y241.length co49]] rfl argN ?_; (with_reducible refine (rowkey_Encode.calls k 1 3600 _ _ y241 t244 t247 _ ?side1 ?side2 A1.out).mono ?_); (case side1 => repeat (first | exact (Kd.R_reads' HO243.out).2.2 | (with_reducible refine Kd.C_alloc ?_ _) | (with_reducible refine Kd.C_drewN ?_ _) | (with_reducible refine Kd.C_drew ?_))); (case side2 => exact (Kd.R_reads' HO243.out).2.1); rintro e w50 ⟨v245, rfl, ho0, hb⟩; refine ⟨_, rfl, ?_⟩; have n0_ := Aside0.mk (Kd.R_below (rowN HO243.out) hb); have n1_ := Aside0.mk (Kd.R_lower ho0 (below_size (belN HB.out))); have n2_ := Aside0.mk (below_step (belN HB.out) hb); clear HO243; clear HB; have HO243 := n0_; have HO246 := n1_; have HB := n2_; clear n0_ n1_ n2_; (try clear hb); (try clear hk); (try clear ho0)) | ((with_reducible refine gate_dst (N := 17) rfl ?_); (try (refine gate_guard (by rfl) ?_; dsimp only)); refine Kd.R_lit k23 _ 23 ?hg (N := 17) ?hd (xs := ([(⟨1, 2⟩ : S23)] : List (S23))) (inner := [.int .i64 1, .int .i64 2]) (ok := fun _ => True) (okp := fun _ => True) ?hr ?hp (fun _ hk => hk) trivial (Below.refl _ _) (Nat.le_refl _) (by simp) ?_; (case hd => rfl); (case hg => rfl); (case hr => first | (go_simp; done) | (go_simp; rfl)); (case hp => exact (Reps.c2 (show Kd.M k23 _ _ _ (⟨1, 2⟩ : S23) [.int .i64 1, .int .i64 2] from (k23_mkM _ _ _ (⟨1, 2⟩ : S23) )) (Reps.none _ _))); intro v249 w51 ho52 hb hg_ hnew_; clear hg_ hnew_; (first | rw [← Ny248.out] at ho52 | (simp only [Int.reduceToNat] at ho52; rw [← Ny248.out] at ho52)); have n0_ := Aside0.mk (Kd.R_elder' (rowN HO243.out) (Kd.R_base ho52) hb); have n1_ := Aside0.mk (Kd.R_below (rowN HO246.out) hb); have n2_ := Aside0.mk (Kd.R_lower (Kd.R_new' ho52 (Kd.R_lt (rowN HO243.out))) (below_size (belN HB.out))); have n3_ := Aside0.mk (below_step (belN HB.out) hb); clear HO243; clear HO246; clear HB; have HO243 := n0_; have HO246 := n1_; have HO250 := n2_; have HB := n3_; clear n0_ n1_ n2_ n3_; clear hb ho52; obtain ⟨Ao53, co53, eo53⟩ := Kd.R_slice HO250.out; subst eo53) | ((with_reducible refine gate_callee (f := 15) rfl ?_); refine goesL_ (some 19) rfl rfl Try.func15 (by kernel_rfl) rfl #[.agg #[.int .i64 1, .int .i64 5, .slice Ao53 y248.length co53]] rfl argN ?_; (with_reducible refine (rowkey_Encode.calls k 1 5 _ _ y248 t251 t254 _ ?side1 ?side2 A2.out).mono ?_); (case side1 => repeat (first | exact (Kd.R_reads' HO250.out).2.2 | (with_reducible refine Kd.C_alloc ?_ _) | (with_reducible refine Kd.C_drewN ?_ _) | (with_reducible refine Kd.C_drew ?_))); (case side2 => exact (Kd.R_reads' HO250.out).2.1); rintro e w54 ⟨v252, rfl, ho0, hb⟩; refine ⟨_, rfl, ?_⟩; have n0_ := Aside0.mk (Kd.R_below (rowN HO243.out) hb); have n1_ := Aside0.mk (Kd.R_elder' (rowN HO246.out) (Kd.R_base ho0) hb); have n2_ := Aside0.mk (Kd.R_below (rowN HO250.out) hb); have n3_ := Aside0.mk (Kd.R_lower (Kd.R_new' ho0 (Kd.R_lt (rowN HO246.out))) (below_size (belN HB.out))); have n4_ := Aside0.mk (below_step (belN HB.out) hb); clear HO243; clear HO246; clear HO250; clear HB; have HO243 := n0_; have HO246 := n1_; have HO250 := n2_; have HO253 := n3_; have HB := n4_; clear n0_ n1_ n2_ n3_ n4_; (try clear hb); (try clear hk); (try clear ho0)) | ((with_reducible refine gate_callee (f := 21) rfl ?_); refine goesL_ (some 23) rfl rfl Try.func21 (by kernel_rfl) rfl #[.slice none 0 0] rfl argN ?_; (refine (rowkey_Decode.calls k _ _ ([] : List Int) t255 t256 t257 t260 t261 _ ?side1 ?side2 A3.out).mono ?_); (case side1 => exact Kd.C_nil _ _); (case side2 => exact Nat.le_refl _); rintro e w55 ⟨v258, rfl, ho0, hb⟩; refine ⟨_, rfl, ?_⟩; have n0_ := Aside0.mk (Kd.R_elder' (rowN HO243.out) (Kd.R_base ho0) hb); have n1_ := Aside0.mk (Kd.R_below (rowN HO246.out) hb); have n2_ := Aside0.mk (Kd.R_elder' (rowN HO250.out) (Kd.R_base ho0) hb); have n3_ := Aside0.mk (Kd.R_below (rowN HO253.out) hb); have n4_ := Aside0.mk (Kd.R_lower (Kd.R_new' (Kd.R_new' ho0 (Kd.R_lt (rowN HO243.out))) (Kd.R_lt (rowN HO250.out))) (below_size (belN HB.out))); have n5_ := Aside0.mk (below_step (belN HB.out) hb); clear HO243; clear HO246; clear HO250; clear HO253; clear HB; have HO243 := n0_; have HO246 := n1_; have HO250 := n2_; have HO253 := n3_; have HO259 := n4_; have HB := n5_; clear n0_ n1_ n2_ n3_ n4_ n5_; (try clear hb); (try clear hk); (try clear ho0)) | ((with_reducible refine gate_dst (N := 5) rfl ?_); (try (refine gate_guard (by rfl) ?_; dsimp only)); refine box_event ?hg (N := 5) ?hd (cs := #[.int .i64 0, .int .i64 0, .slice none 0 0]) (t := 26) ?hr ?_; (case hd => rfl); (case hg => rfl); (case hr => first | (go_simp; done) | (go_simp; rfl)); intro gb262 hg w56 hbox hb; have n0_ := Aside0.mk (Kd.R_below (rowN HO243.out) hb); have n1_ := Aside0.mk (Kd.R_below (rowN HO246.out) hb); have n2_ := Aside0.mk (Kd.R_below (rowN HO250.out) hb); have n3_ := Aside0.mk (Kd.R_below (rowN HO253.out) hb); have n4_ := Aside0.mk (Kd.R_below (rowN HO259.out) hb); have n5_ := Aside0.mk (below_step (belN HB.out) hb); have n6_ := Aside0.mk (hbox); have n7_ := Aside0.mk (szB hg HB.out); have n8_ := Aside0.mk (szB hg HB.out); clear HO243; clear HO246; clear HO250; clear HO253; clear HO259; clear HB; have HO243 := n0_; have HO246 := n1_; have HO250 := n2_; have HO253 := n3_; have HO259 := n4_; have HB := n5_; have BK262 := n6_; have GW262 := n7_; have GE262 := n8_; clear n0_ n1_ n2_ n3_ n4_ n5_ n6_ n7_ n8_; clear hb hbox hg; have hcz57_0 : w56.cell? ⟨gb262, 0, none⟩ = some (.int .i64 0) := (blk_cell BK262.out 0).trans rfl; have hcz57_1 : w56.cell? ⟨gb262, 1, none⟩ = some (.int .i64 0) := (blk_cell BK262.out 1).trans rfl; have hcz57_2 : w56.cell? ⟨gb262, 2, none⟩ = some (.slice none 0 0) := (blk_cell BK262.out 2).trans rfl; have hfz57_0 := blk_frozen BK262.out 0; have hfz57_1 := blk_frozen BK262.out 1; have hfz57_2 := blk_frozen BK262.out 2; obtain ⟨Ao58, co58, eo58⟩ := Kd.R_slice HO259.out; subst eo58; obtain ⟨Ao59, co59, eo59⟩ := Kd.R_slice HO246.out; subst eo59))
   go_ret
   exact ⟨by first | rfl | (simp [errW_none, errW_some] <;> rfl) | (simp [*, errW_none, errW_some] <;> rfl), (belS HB.out)⟩
 ·rw [if_neg c4] at H
  have c4b0 : (t247 == 0) = false := beq_eq_false_iff_ne.mpr c4
  have c4b1 : (t247 != 0) = true := bne_iff_ne.mpr c4
  obtain rfl := Option.some.inj H
  go_enter Try.func11, Try.ntmps11
  go_wp2_with (first | ((with_reducible refine gate_dst (N := 10) rfl ?_); (try (refine gate_guard (by rfl) ?_; dsimp only)); refine Kd.R_lit k23 _ 23 ?hg (N := 10) ?hd (xs := ([(⟨1, 2⟩ : S23)] : List (S23))) (inner := [.int .i64 1, .int .i64 2]) (ok := fun _ => True) (okp := fun _ => True) ?hr ?hp (fun _ hk => hk) trivial (Below.refl _ _) (Nat.le_refl _) (by simp) ?_; (case hd => rfl); (case hg => rfl); (case hr => first | (go_simp; done) | (go_simp; rfl)); (case hp => exact (Reps.c2 (show Kd.M k23 _ _ _ (⟨1, 2⟩ : S23) [.int .i64 1, .int .i64 2] from (k23_mkM _ _ _ (⟨1, 2⟩ : S23) )) (Reps.none _ _))); intro v242 w60 ho61 hb hg_ hnew_; clear hg_ hnew_; (first | rw [← Ny241.out] at ho61 | (simp only [Int.reduceToNat] at ho61; rw [← Ny241.out] at ho61)); have n0_ := Aside0.mk (Kd.R_lower ho61 (below_size (belN HB.out))); have n1_ := Aside0.mk (below_step (belN HB.out) hb); clear HB; have HO243 := n0_; have HB := n1_; clear n0_ n1_; clear hb ho61; obtain ⟨Ao62, co62, eo62⟩ := Kd.R_slice HO243.out; subst eo62) | ((with_reducible refine gate_callee (f := 15) rfl ?_); refine goesL_ (some 12) rfl rfl Try.func15 (by kernel_rfl) rfl #[.agg #[.int .i64 1, .int .i64 3600, .slice Ao62 y241.length co62]] rfl argN ?_; (with_reducible refine (rowkey_Encode.calls k 1 3600 _ _ y241 t244 t247 _ ?side1 ?side2 A1.out).mono ?_); (case side1 => repeat (first | exact (Kd.R_reads' HO243.out).2.2 | (with_reducible refine Kd.C_alloc ?_ _) | (with_reducible refine Kd.C_drewN ?_ _) | (with_reducible refine Kd.C_drew ?_))); (case side2 => exact (Kd.R_reads' HO243.out).2.1); rintro e w63 ⟨v245, rfl, ho0, hb⟩; refine ⟨_, rfl, ?_⟩; have n0_ := Aside0.mk (Kd.R_below (rowN HO243.out) hb); have n1_ := Aside0.mk (Kd.R_lower ho0 (below_size (belN HB.out))); have n2_ := Aside0.mk (below_step (belN HB.out) hb); clear HO243; clear HB; have HO243 := n0_; have HO246 := n1_; have HB := n2_; clear n0_ n1_ n2_; (try clear hb); (try clear hk); (try clear ho0)) | ((with_reducible refine gate_dst (N := 17) rfl ?_); (try (refine gate_guard (by rfl) ?_; dsimp only)); refine Kd.R_lit k23 _ 23 ?hg (N := 17) ?hd (xs := ([(⟨1, 2⟩ : S23)] : List (S23))) (inner := [.int .i64 1, .int .i64 2]) (ok := fun _ => True) (okp := fun _ => True) ?hr ?hp (fun _ hk => hk) trivial (Below.refl _ _) (Nat.le_refl _) (by simp) ?_; (case hd => rfl); (case hg => rfl); (case hr => first | (go_simp; done) | (go_simp; rfl)); (case hp => exact (Reps.c2 (show Kd.M k23 _ _ _ (⟨1, 2⟩ : S23) [.int .i64 1, .int .i64 2] from (k23_mkM _ _ _ (⟨1, 2⟩ : S23) )) (Reps.none _ _))); intro v249 w64 ho65 hb hg_ hnew_; clear hg_ hnew_; (first | rw [← Ny248.out] at ho65 | (simp only [Int.reduceToNat] at ho65; rw [← Ny248.out] at ho65)); have n0_ := Aside0.mk (Kd.R_elder' (rowN HO243.out) (Kd.R_base ho65) hb); have n1_ := Aside0.mk (Kd.R_below (rowN HO246.out) hb); have n2_ := Aside0.mk (Kd.R_lower (Kd.R_new' ho65 (Kd.R_lt (rowN HO243.out))) (below_size (belN HB.out))); have n3_ := Aside0.mk (below_step (belN HB.out) hb); clear HO243; clear HO246; clear HB; have HO243 := n0_; have HO246 := n1_; have HO250 := n2_; have HB := n3_; clear n0_ n1_ n2_ n3_; clear hb ho65; obtain ⟨Ao66, co66, eo66⟩ := Kd.R_slice HO250.out; subst eo66) | ((with_reducible refine gate_callee (f := 15) rfl ?_); refine goesL_ (some 19) rfl rfl Try.func15 (by kernel_rfl) rfl #[.agg #[.int .i64 1, .int .i64 5, .slice Ao66 y248.length co66]] rfl argN ?_; (with_reducible refine (rowkey_Encode.calls k 1 5 _ _ y248 t251 t254 _ ?side1 ?side2 A2.out).mono ?_); (case side1 => repeat (first | exact (Kd.R_reads' HO250.out).2.2 | (with_reducible refine Kd.C_alloc ?_ _) | (with_reducible refine Kd.C_drewN ?_ _) | (with_reducible refine Kd.C_drew ?_))); (case side2 => exact (Kd.R_reads' HO250.out).2.1); rintro e w67 ⟨v252, rfl, ho0, hb⟩; refine ⟨_, rfl, ?_⟩; have n0_ := Aside0.mk (Kd.R_below (rowN HO243.out) hb); have n1_ := Aside0.mk (Kd.R_elder' (rowN HO246.out) (Kd.R_base ho0) hb); have n2_ := Aside0.mk (Kd.R_below (rowN HO250.out) hb); have n3_ := Aside0.mk (Kd.R_lower (Kd.R_new' ho0 (Kd.R_lt (rowN HO246.out))) (below_size (belN HB.out))); have n4_ := Aside0.mk (below_step (belN HB.out) hb); clear HO243; clear HO246; clear HO250; clear HB; have HO243 := n0_; have HO246 := n1_; have HO250 := n2_; have HO253 := n3_; have HB := n4_; clear n0_ n1_ n2_ n3_ n4_; (try clear hb); (try clear hk); (try clear ho0)) | ((with_reducible refine gate_callee (f := 21) rfl ?_); refine goesL_ (some 23) rfl rfl Try.func21 (by kernel_rfl) rfl #[.slice none 0 0] rfl argN ?_; (refine (rowkey_Decode.calls k _ _ ([] : List Int) t255 t256 t257 t260 t261 _ ?side1 ?side2 A3.out).mono ?_); (case side1 => exact Kd.C_nil _ _); (case side2 => exact Nat.le_refl _); rintro e w68 ⟨v258, rfl, ho0, hb⟩; refine ⟨_, rfl, ?_⟩; have n0_ := Aside0.mk (Kd.R_elder' (rowN HO243.out) (Kd.R_base ho0) hb); have n1_ := Aside0.mk (Kd.R_below (rowN HO246.out) hb); have n2_ := Aside0.mk (Kd.R_elder' (rowN HO250.out) (Kd.R_base ho0) hb); have n3_ := Aside0.mk (Kd.R_below (rowN HO253.out) hb); have n4_ := Aside0.mk (Kd.R_lower (Kd.R_new' (Kd.R_new' ho0 (Kd.R_lt (rowN HO243.out))) (Kd.R_lt (rowN HO250.out))) (below_size (belN HB.out))); have n5_ := Aside0.mk (below_step (belN HB.out) hb); clear HO243; clear HO246; clear HO250; clear HO253; clear HB; have HO243 := n0_; have HO246 := n1_; have HO250 := n2_; have HO253 := n3_; have HO259 := n4_; have HB := n5_; clear n0_ n1_ n2_ n3_ n4_ n5_; (try clear hb); (try clear hk); (try clear ho0)) | ((with_reducible refine gate_dst (N := 5) rfl ?_); (try (refine gate_guard (by rfl) ?_; dsimp only)); refine box_event ?hg (N := 5) ?hd (cs := #[.int .i64 0, .int .i64 0, .slice none 0 0]) (t := 26) ?hr ?_; (case hd => rfl); (case hg => rfl); (case hr => first | (go_simp; done) | (go_simp; rfl)); intro gb262 hg w69 hbox hb; have n0_ := Aside0.mk (Kd.R_below (rowN HO243.out) hb); have n1_ := Aside0.mk (Kd.R_below (rowN HO246.out) hb); have n2_ := Aside0.mk (Kd.R_below (rowN HO250.out) hb); have n3_ := Aside0.mk (Kd.R_below (rowN HO253.out) hb); have n4_ := Aside0.mk (Kd.R_below (rowN HO259.out) hb); have n5_ := Aside0.mk (below_step (belN HB.out) hb); have n6_ := Aside0.mk (hbox); have n7_ := Aside0.mk (szB hg HB.out); have n8_ := Aside0.mk (szB hg HB.out); clear HO243; clear HO246; clear HO250; clear HO253; clear HO259; clear HB; have HO243 := n0_; have HO246 := n1_; have HO250 := n2_; have HO253 := n3_; have HO259 := n4_; have HB := n5_; have BK262 := n6_; have GW262 := n7_; have GE262 := n8_; clear n0_ n1_ n2_ n3_ n4_ n5_ n6_ n7_ n8_; clear hb hbox hg; have hcz70_0 : w69.cell? ⟨gb262, 0, none⟩ = some (.int .i64 0) := (blk_cell BK262.out 0).trans rfl; have hcz70_1 : w69.cell? ⟨gb262, 1, none⟩ = some (.int .i64 0) := (blk_cell BK262.out 1).trans rfl; have hcz70_2 : w69.cell? ⟨gb262, 2, none⟩ = some (.slice none 0 0) := (blk_cell BK262.out 2).trans rfl; have hfz70_0 := blk_frozen BK262.out 0; have hfz70_1 := blk_frozen BK262.out 1; have hfz70_2 := blk_frozen BK262.out 2; obtain ⟨Ao71, co71, eo71⟩ := Kd.R_slice HO259.out; subst eo71))
  go_ret
  exact ⟨by first | rfl | (simp [errW_none, errW_some] <;> rfl) | (simp [*, errW_none, errW_some] <;> rfl), (belS HB.out)⟩

/-! ### marigraphbook_Within: function 13 -/
def marigraphbook_Within.j0 : Nat → Int → Int → Int → Bool → Option (Int)
 | 0, _, _, _, _ => none
 | k + 1, x0, x1, x2, x14 => if x14 = true then (some x0) else (if (wrap64 ((wrap64 (x2 - x1)) + 1)) = 0 then (none) else (if (Int.tmod x0 (wrap64 ((wrap64 (x2 - x1)) + 1))) < 0 then (some (wrap64 (x1 + (wrap64 ((wrap64 ((wrap64 ((Int.tmod x0 (wrap64 ((wrap64 (x2 - x1)) + 1))) + x2)) - x1)) + 1))))) else (some (wrap64 (x1 + (Int.tmod x0 (wrap64 ((wrap64 (x2 - x1)) + 1))))))))
def marigraphbook_Within.f (k : Nat) (a0 : Int) (a1 : Int) (a2 : Int) : Option (Int) := if a0 ≥ a1 then (marigraphbook_Within.j0 k a0 a1 a2 (decide (a0 ≤ a2))) else (marigraphbook_Within.j0 k a0 a1 a2 false)
theorem marigraphbook_Within.mono_l : ∀ k, (∀ y0 y1 y2 y3, LeO (marigraphbook_Within.j0 k y0 y1 y2 y3) (marigraphbook_Within.j0 (k + 1) y0 y1 y2 y3))
 | 0 => fun _ _ _ _ r h => by simp [marigraphbook_Within.j0] at h
 | k + 1 => by
  have ih0 := marigraphbook_Within.mono_l k
  ·intro y0 y1 y2 y3
   unfold marigraphbook_Within.j0
   repeat' first
   | (with_reducible exact ih0 _ _ _ _)
   | (with_reducible exact LeO.refl _)
   | (with_reducible exact LeO.none _)
   | (with_reducible refine LeO.ite ?_ ?_)
   | (with_reducible refine LeO.bind ?_ (fun _ => ?_))
   | exact ih0 _ _ _ _
   | exact LeO.none _
   | refine LeO.ite ?_ ?_
   | refine LeO.bind ?_ (fun _ => ?_)
theorem marigraphbook_Within.mono : ∀ a0 a1 a2 k, LeO (marigraphbook_Within.f k a0 a1 a2) (marigraphbook_Within.f (k + 1) a0 a1 a2) := by
 intro a0 a1 a2 k
 have ih0 := marigraphbook_Within.mono_l k
 unfold marigraphbook_Within.f
 repeat' first
   | (with_reducible exact ih0 _ _ _ _)
   | (with_reducible exact LeO.refl _)
   | (with_reducible exact LeO.none _)
   | (with_reducible refine LeO.ite ?_ ?_)
   | (with_reducible refine LeO.bind ?_ (fun _ => ?_))
   | exact ih0 _ _ _ _
   | exact LeO.none _
   | refine LeO.ite ?_ ?_
   | refine LeO.bind ?_ (fun _ => ?_)
set_option maxHeartbeats 8000000 in
set_option maxRecDepth 100000 in
theorem marigraphbook_Within.calls (k : Nat) (a0 : Int) (a1 : Int) (a2 : Int) (r : Int) (w : World) (h : marigraphbook_Within.f k a0 a1 a2 = some r) :
  Calls Try.prog 13 #[.int .i64 a0, .int .i64 a1, .int .i64 a2] w fun e w' => e = .returned (.int .i64 r) ∧ Drawn0 w w' := by
 have H : (if a0 ≥ a1 then (marigraphbook_Within.j0 k a0 a1 a2 (decide (a0 ≤ a2))) else (marigraphbook_Within.j0 k a0 a1 a2 false)) = some r := h
 clear h
 have HC4 := Aside0.mk H
 clear H
 go_enter Try.func13, Try.ntmps13
 go_upto_region 1 with (fail)
 go_cut [14] (fun v14 wc => ∃ (kq : Nat) (x14_3 : Bool), v14 = .bool x14_3 ∧ Aside0 (marigraphbook_Within.j0 kq a0 a1 a2 x14_3 = some r) ∧ Aside0 (kq ≤ k) ∧ Drawn0 w wc)
 case first =>
  have H := HC4.out
  clear HC4
  by_cases c5 : a0 ≥ a1
  ·rw [if_pos c5] at H
   have c5b0 : decide (a1 ≤ a0) = true := decide_eq_true c5
   clear c5
   (first | rw [c5b0] | rw [c5b1] | (simp only [i64_w, i32_w]; rw [c5b0]) | skip)
   have H' := Aside0.mk H
   clear H
   go_wp2
   go_meet
   case rel => exact ⟨_, (decide (a0 ≤ a2)), (by first | rfl | (simp; done) | (simp [*]; done)), H', ⟨by first | omega | exact Nat.le_refl _⟩, by repeat (first | exact Drawn0.refl _ | apply Drawn0.step)⟩
  ·rw [if_neg c5] at H
   have c5b0 : decide (a1 ≤ a0) = false := decide_eq_false c5
   clear c5
   (first | rw [c5b0] | rw [c5b1] | (simp only [i64_w, i32_w]; rw [c5b0]) | skip)
   have H' := Aside0.mk H
   clear H
   go_wp2
   go_meet
   case rel => exact ⟨_, (false), (by first | rfl | (simp; done) | (simp [*]; done)), H', ⟨by first | omega | exact Nat.le_refl _⟩, by repeat (first | exact Drawn0.refl _ | apply Drawn0.step)⟩
 case rest =>
  clear HC4
  try clear c1
  try clear p2
  try clear c5
  try clear c5b0
  obtain ⟨kq, x14_3, rfl, HA, HJ3, ⟨mc3, rfl⟩⟩ := hcut
  cases kq with
  | zero => exact absurd HA.out (by simp [marigraphbook_Within.j0])
  | succ kj3 =>
   have H := HA.out
   clear HA
   simp only [marigraphbook_Within.j0] at H
   by_cases c6 : x14_3 = true
   ·subst c6
    have H1 : (some a0) = some r := by rw [if_pos rfl] at H; exact H
    clear H
    have H := H1
    clear H1
    obtain rfl := Option.some.inj H
    go_wp2
    go_ret
    exact ⟨by first | rfl | (simp; done) | (simp [*]; done), by repeat (first | exact Drawn0.refl _ | apply Drawn0.step)⟩
   ·replace c6 := Bool.eq_false_iff.mpr c6
    subst c6
    have H1 : (if (wrap64 ((wrap64 (a2 - a1)) + 1)) = 0 then (none) else (if (Int.tmod a0 (wrap64 ((wrap64 (a2 - a1)) + 1))) < 0 then (some (wrap64 (a1 + (wrap64 ((wrap64 ((wrap64 ((Int.tmod a0 (wrap64 ((wrap64 (a2 - a1)) + 1))) + a2)) - a1)) + 1))))) else (some (wrap64 (a1 + (Int.tmod a0 (wrap64 ((wrap64 (a2 - a1)) + 1)))))))) = some r := by rw [if_neg (show ¬ (false = true) by decide)] at H; exact H
    clear H
    have H := H1
    clear H1
    by_cases c7 : (wrap64 ((wrap64 (a2 - a1)) + 1)) = 0
    ·rw [if_pos c7] at H
     exact absurd H (by simp)
    ·rw [if_neg c7] at H
     have c7b0 : ((wrap64 ((wrap64 (a2 - a1)) + 1)) == 0) = false := beq_eq_false_iff_ne.mpr c7
     have c7b1 : ((wrap64 ((wrap64 (a2 - a1)) + 1)) != 0) = true := bne_iff_ne.mpr c7
     by_cases c8 : (Int.tmod a0 (wrap64 ((wrap64 (a2 - a1)) + 1))) < 0
     ·rw [if_pos c8] at H
      have c8b0 : decide ((Int.tmod a0 (wrap64 ((wrap64 (a2 - a1)) + 1))) < 0) = true := decide_eq_true c8
      clear c8
      obtain rfl := Option.some.inj H
      go_wp2
      go_ret
      exact ⟨by first | rfl | (simp; done) | (simp [*]; done), by repeat (first | exact Drawn0.refl _ | apply Drawn0.step)⟩
     ·rw [if_neg c8] at H
      have c8b0 : decide ((Int.tmod a0 (wrap64 ((wrap64 (a2 - a1)) + 1))) < 0) = false := decide_eq_false c8
      clear c8
      obtain rfl := Option.some.inj H
      go_wp2
      go_ret
      exact ⟨by first | rfl | (simp; done) | (simp [*]; done), by repeat (first | exact Drawn0.refl _ | apply Drawn0.step)⟩

end Go.Proofs.Ytbgghcifpephgaa.PRowkeyTells

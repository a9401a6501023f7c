/- The walk of the Go functions that a law reaches, told as plain functions; a program of this session has written it. No condition beyond the statement's own. -/
import Derived.Test.YtmimfnangdabmaaPFrameNumbersx0
import Derived.Test.YtmimfnangdabmaaPFrameNumbersx1
import Derived.Test.YtmimfnangdabmaaPFrameNumbersx2
import Derived.Test.YtmimfnangdabmaaPFrameNumbersx6
import Derived.Test.YtmimfnangdabmaaPFrameNumbersx7
namespace Go.Proofs.Ytmimfnangdabmaa.PFrameNumbers
open Go.RowKit Go.Proofs.YtmimfnangdabmaaW.PrintWords Go.Proofs.YtmimfnangdabmaaW.PrintLast Go.Proofs.YtmimfnangdabmaaW.PrintMore
attribute [local go_sem] max2_int min2_int max_two min_two max_three min_three max_four min_four   -- for this text's walks alone
set_option linter.unusedVariables false
set_option linter.unusedSimpArgs false

/-! ### marigraphref4.Entries, by hand: a reader that notes when bytes lack (Num, Some), and a loop -/
theorem rg_nxt {n : Nat} (h : n < 1000000) : wrap64 ((n : Int) + 1) = ((n + 1 : Nat) : Int) := by unfold wrap64; omega
theorem rg_loop (l : List Int) (s : Nat) (hl : s ≤ l.length) (h8 : s ≤ 8) : ∀ (d j : Nat), d + j = s → Ev (fun k => marigraphref2_Get.l0 k l (s : Int) (getI 0 (l.take j)) (j : Int)) (getI 0 (l.take s), true) := by
  intro d
  induction d with
  | zero =>
    intro j hj
    obtain rfl : j = s := by omega
    refine Ev.step (f := fun _ => some (getI 0 (l.take j), true)) (fun k => ?_) (Ev.now _)
    simp only [marigraphref2_Get.l0]
    rw [if_neg (by omega)]
  | succ d ih =>
    intro j hj
    have hlt : j < l.length := by omega
    have e : getI 0 (l.take (j + 1)) = Go.bits .or .u64 (IntKind.u64.wrap (getI 0 (l.take j) * 256)) (IntKind.u64.wrap (rd l (j : Int))) := by
      rw [List.take_add_one, List.getElem?_eq_getElem hlt, Option.toList_some, getI_snoc]
      unfold rd
      rw [Int.toNat_natCast, List.getD_eq_getElem?_getD, List.getElem?_eq_getElem hlt]
      rfl
    have hi := ih (j + 1) (by omega)
    rw [e] at hi
    refine Ev.step (fun k => ?_) hi
    simp only [marigraphref2_Get.l0]
    rw [if_pos (by omega), if_pos (by omega), if_pos (by omega), rg_nxt (by omega)]
theorem rg_tells (l : List Int) (s : Nat) (h8 : s ≤ 8) (hl : s ≤ l.length) : Ev (fun k => marigraphref2_Get.f k l (s : Int)) (getI 0 (l.take s), true) := by
  unfold marigraphref2_Get.f
  simp only [if_neg (show ¬ (s : Int) < 0 by omega), if_neg (show ¬ (s : Int) > 8 by omega), decide_eq_false (show ¬ (l.length : Int) < (s : Int) by omega)]
  refine Ev.step (fun k => ?_) (rg_loop l s hl h8 s 0 rfl)
  simp only [marigraphref2_Get.j0]
  rw [if_neg (by decide)]
  rfl
theorem rg_not (l : List Int) (s : Nat) (h : 8 < s ∨ l.length < s) : Ev (fun k => marigraphref2_Get.f k l (s : Int)) (0, false) := by
  have hj : Ev (fun k => marigraphref2_Get.j0 k l (s : Int) true) (0, false) := by
    refine Ev.step (f := fun _ => some (0, false)) (fun k => ?_) (Ev.now _)
    simp only [marigraphref2_Get.j0, if_true]
  unfold marigraphref2_Get.f
  simp only [if_neg (show ¬ (s : Int) < 0 by omega)]
  by_cases h8 : (s : Int) > 8
  · simp only [if_pos h8]
    exact hj
  · simp only [if_neg h8, decide_eq_true (show (l.length : Int) < (s : Int) by omega)]
    exact hj

/-- The reader: what it has left, whether bytes lacked. -/
structure Rr (w0 w : World) (g : Nat) (p : List Int × Bool) : Prop where
  at_ : ∃ A c, w.heap[g]? = some (.cells #[.slice A p.1.length c, .bool p.2] 91 (0, 0)) ∧ Kd.C (Kd.int .u8) w0 A p.1.length p.1 ∧ p.1.length ≤ c
  below : Below w0.heap.size w0 w
  own : w0.heap.size ≤ g
theorem Rr.alloc {w0 w : World} {g : Nat} {q : List Int × Bool} (h : Rr w0 w g q) (o : Obj) : Rr w0 (w.alloc o) g q := by
  obtain ⟨⟨A, c, hb, hC, hc⟩, HB, hg⟩ := h
  exact ⟨⟨A, c, blk_alloc hb o, hC, hc⟩, below_alloc HB o, hg⟩
theorem Rr.drew {w0 w : World} {g : Nat} {q : List Int × Bool} (h : Rr w0 w g q) : Rr w0 w.drew g q := by
  obtain ⟨⟨A, c, hb, hC, hc⟩, HB, hg⟩ := h
  exact ⟨⟨A, c, blk_drew hb, hC, hc⟩, below_drew1 HB, hg⟩
theorem Rr.drewN {w0 w : World} {g : Nat} {q : List Int × Bool} (h : Rr w0 w g q) (n : Nat) : Rr w0 (w.drewN n) g q := by
  obtain ⟨⟨A, c, hb, hC, hc⟩, HB, hg⟩ := h
  exact ⟨⟨A, c, blk_drewN hb n, hC, hc⟩, pw_below_drewN HB n, hg⟩
theorem Rr.far {w0 w : World} {g g' j : Nat} {q : List Int × Bool} (h : Rr w0 w g q) (hne : g ≠ g') (hg' : w0.heap.size ≤ g') (v : Value) : Rr w0 (w.setCell ⟨g', j, none⟩ v) g q := by
  obtain ⟨⟨A, c, hb, hC, hc⟩, HB, hg⟩ := h
  exact ⟨⟨A, c, blk_far (p := ⟨g', j, none⟩) hb hne v, hC, hc⟩, below_set HB hg', hg⟩
theorem Rr.grown {w0 w w1 : World} {g : Nat} {row : Option Nat} {q : List Int × Bool} (h : Rr w0 w g q) (hg1 : w.grownBy w1 row) (hne : some g ≠ row) (hB : Below w0.heap.size w0 w1) : Rr w0 w1 g q := by
  obtain ⟨⟨A, c, hb, hC, hc⟩, HB, hg⟩ := h
  exact ⟨⟨A, c, blk_grown hb hg1 hne, hC, hc⟩, hB, hg⟩
/-- What Num tells, and leaves. -/
def rNum (s : Nat) (p : List Int × Bool) : Int × (List Int × Bool) := if p.1.length < s then (0, ([], true)) else (wrap64 (getI 0 (p.1.take s)), (p.1.drop s, p.2))
/-- What Some tells, and leaves. -/
def rSome (n : Nat) (p : List Int × Bool) : List Int × (List Int × Bool) := if p.2 = true ∨ p.1.length < n then ([], ([], true)) else (p.1.take n, (p.1.drop n, p.2))
set_option maxHeartbeats 8000000 in
set_option maxRecDepth 100000 in
theorem Num_calls {w0 w : World} {g s : Nat} {p : List Int × Bool} (h : Rr w0 w g p) (N : Int) (hN : N = (s : Int)) (hs8 : s ≤ 8) :
    Calls Try.prog 61 #[.pointer (some ⟨g, 0, none⟩), .int .i64 N] w fun e w' => e = .returned (.int .i64 (rNum s p).1) ∧ KeepBut w w' g none ∧ Rr w0 w' g (rNum s p).2 := by
  obtain ⟨q, bad⟩ := p
  subst hN
  obtain ⟨⟨A, c, hb, hC, hc⟩, HB, hg⟩ := h
  have hu91 := Try.underlying91
  have hlt := blk_lt hb
  dsimp only at hb hC hc
  have hce0 : w.cell? ⟨g, 0, none⟩ = some (.slice A q.length c) := (blk_cell hb 0).trans rfl
  have hce1 : w.cell? ⟨g, 1, none⟩ = some (.bool bad) := (blk_cell hb 1).trans rfl
  have hf0 := blk_frozen hb 0
  have hf1 := blk_frozen hb 1
  have hCw := Kd.C_below hC HB
  unfold rNum
  dsimp only
  by_cases hq : q.length < s
  · rw [if_pos hq]
    obtain ⟨K, hK⟩ := rg_not q s (.inr hq)
    have hget := hK K (Nat.le_refl _)
    go_enter Try.func61, Try.ntmps61
    go_wp2_with (go_at_call 58; refine (marigraphref2_Get.calls K A c q (s : Int) _ _ _ hCw hc hget).mono ?_; rintro e w1 ⟨rfl, n, rfl⟩)
    go_ret
    refine ⟨rfl, ((keep_drewN (KeepBut.refl _ _ _) n).set_ 1 _).set_ 0 _, ⟨none, 0, (blk_put (blk_put (blk_drewN hb n) 1 (.bool true) rfl) 0 (.slice none 0 0) rfl).trans rfl, Kd.C_nil _ _, Nat.le_refl _⟩, below_set (below_set (pw_below_drewN HB n) hg) hg, hg⟩
  · rw [if_neg hq]
    obtain ⟨K, hK⟩ := rg_tells q s hs8 (by omega)
    have hget := hK K (Nat.le_refl _)
    obtain ⟨i0, hi0, _, hsz0, _⟩ := info_parts info5
    obtain ⟨A2, hcut2, hR2, hc2⟩ := print_drop_of (P := Try.prog) (Value.int .u8) 0 23 5 .i64 Try.underlying23 hi0 hsz0 A c q (s : Int) (by omega) (by omega) hc
    rw [Int.toNat_natCast] at hcut2 hR2 hc2
    have hC2 : Kd.C (Kd.int .u8) w0 A2 (q.drop s).length (q.drop s) := Kd.C_of_reads (hR2 _ (Kd.reads_of_C (d := (0 : Int)) hC))
    clear hR2 hK
    generalize getI 0 (q.take s) = x at *
    generalize q.drop s = r at *
    go_enter Try.func61, Try.ntmps61
    go_wp2_with (go_at_call 58; refine (marigraphref2_Get.calls K A c q (s : Int) _ _ _ hCw hc hget).mono ?_; rintro e w1 ⟨rfl, n, rfl⟩)
    go_ret
    exact ⟨rfl, (keep_drewN (KeepBut.refl _ _ _) n).set_ 0 _, ⟨A2, c - s, (blk_put (blk_drewN hb n) 0 _ rfl).trans rfl, hC2, hc2⟩, below_set (pw_below_drewN HB n) hg, hg⟩
set_option maxHeartbeats 8000000 in
set_option maxRecDepth 100000 in
theorem Some_calls {w0 w : World} {g : Nat} {p : List Int × Bool} (h : Rr w0 w g p) (N : Int) (h0 : 0 ≤ N) (hl : p.1.length < 140737488355328) :
    Calls Try.prog 62 #[.pointer (some ⟨g, 0, none⟩), .int .i64 N] w fun e w' => ∃ v, e = .returned v ∧ Kd.R (Kd.int .u8) 5 w' w.heap.size (fun _ => True) v (rSome N.toNat p).1 ∧ KeepBut w w' g none ∧ Rr w0 w' g (rSome N.toNat p).2 := by
  obtain ⟨n, rfl⟩ := Int.eq_ofNat_of_zero_le h0
  obtain ⟨q, bad⟩ := p
  obtain ⟨⟨A, c, hb, hC, hc⟩, HB, hg⟩ := h
  have hu91 := Try.underlying91
  have hlt := blk_lt hb
  dsimp only at hb hC hc hl
  rw [Int.toNat_natCast]
  have hce0 : w.cell? ⟨g, 0, none⟩ = some (.slice A q.length c) := (blk_cell hb 0).trans rfl
  have hce1 : w.cell? ⟨g, 1, none⟩ = some (.bool bad) := (blk_cell hb 1).trans rfl
  have hf0 := blk_frozen hb 0
  have hf1 := blk_frozen hb 1
  have hCw := Kd.C_below hC HB
  unfold rSome
  dsimp only
  by_cases hx : bad = true ∨ q.length < n
  · rw [if_pos hx]
    have hout : Rr w0 ((w.setCell ⟨g, 1, none⟩ (.bool true)).setCell ⟨g, 0, none⟩ (.slice none 0 0)) g ([], true) := ⟨⟨none, 0, (blk_put (blk_put hb 1 (.bool true) rfl) 0 (.slice none 0 0) rfl).trans rfl, Kd.C_nil _ _, Nat.le_refl _⟩, below_set (below_set HB hg) hg, hg⟩
    have hkeep : KeepBut w ((w.setCell ⟨g, 1, none⟩ (.bool true)).setCell ⟨g, 0, none⟩ (.slice none 0 0)) g none := ((KeepBut.refl _ _ _).set_ 1 _).set_ 0 _
    cases bad with
    | true =>
      go_enter Try.func62, Try.ntmps62
      go_wp2
      go_ret
      exact ⟨_, rfl, Kd.R_nil _ _ _ _ _, hkeep, hout⟩
    | false =>
      have hd : decide (q.length < n) = true := decide_eq_true (hx.resolve_left (by decide))
      go_enter Try.func62, Try.ntmps62
      go_wp2
      go_ret
      exact ⟨_, rfl, Kd.R_nil _ _ _ _ _, hkeep, hout⟩
  · rw [if_neg hx]
    have hbf : bad = false := by cases bad with
      | true => exact absurd (Or.inl rfl) hx
      | false => rfl
    subst hbf
    have hn : n ≤ q.length := by
      have : ¬ q.length < n := fun h => hx (.inr h)
      omega
    have hd : decide (q.length < n) = false := decide_eq_false (by omega)
    obtain ⟨i0, hi0, _, hsz0, _⟩ := info_parts info5
    obtain ⟨hcut1, hR1, hc1⟩ := print_take_of (P := Try.prog) (Value.int .u8) 0 23 5 .i64 Try.underlying23 hi0 hsz0 A c q (n : Int) (by omega) (by omega) hc
    obtain ⟨A2, hcut2, hR2, hc2⟩ := print_drop_of (P := Try.prog) (Value.int .u8) 0 23 5 .i64 Try.underlying23 hi0 hsz0 A c q (n : Int) (by omega) (by omega) hc
    rw [Int.toNat_natCast] at hcut1 hR1 hc1 hcut2 hR2 hc2
    have hC1 : Kd.C (Kd.int .u8) w0 A (q.take n).length (q.take n) := Kd.C_of_reads (hR1 _ (Kd.reads_of_C (d := (0 : Int)) hC))
    have hC2 : Kd.C (Kd.int .u8) w0 A2 (q.drop n).length (q.drop n) := Kd.C_of_reads (hR2 _ (Kd.reads_of_C (d := (0 : Int)) hC))
    have htl : (q.take n).length < 140737488355328 := by rw [List.length_take]; omega
    clear hR1 hR2 hx hn
    generalize q.take n = t at *
    generalize q.drop n = r at *
    have hC1w := Kd.C_below hC1 HB
    go_enter Try.func62, Try.ntmps62
    go_upto_region 5 with (first | ((with_reducible refine gate_dst (N := 25) rfl ?_); refine Kd.R_lit (Kd.int .u8) _ 5 ?hg (N := 25) ?hd (xs := ([] : List Int)) (inner := []) (ok := fun _ => True) (okp := fun _ => True) ?hr ?hp (fun _ hk => hk) trivial (Below.refl _ _) (Nat.le_refl _) (by simp) ?_; (case hd => rfl); (case hg => rfl); (case hr => first | (go_simp; done) | (go_simp; rfl)); (case hp => exact (Reps.none _ _)); intro v7 w7 ho8 hb7 hg_ hnew_; clear hg_ hnew_; have hb7b := blk_below hb hb7; have hce7 : w7.cell? ⟨g, 0, none⟩ = some (.slice A q.length c) := (blk_cell hb7b 0).trans rfl; have hf7 := blk_frozen hb7b 0) | ((with_reducible refine gate_builtin (b := .append) (xs := #[.tmp 25, .tmp 31]) rfl ?_); at_builtin; refine Kd.R_append_rows (Kd.int .u8) (w0 := w) w.heap.size rfl (.tmp 25) (.tmp 31) 23 5 (.int .u8 0) 1 rfl Try.underlying23 info5 rfl (by decide) (by omega) v7 ([] : List Int) t _ _ _ (fun _ => True) (fun _ => False) rfl rfl ?aO ?aR (fun _ _ h => h) (fun _ h => h.elim) ?aF ?aB ?aS ?aL ?_; (case aR => exact Kd.C_below hC1w hb7); (case aB => exact hb7); (case aF => exact (fun _ _ => trivial)); (case aO => exact ho8); (case aS => exact below_size hb7); (case aL => simp only [List.length_nil]; omega); intro v8 w8 ho9 hb8 hg8 hat8; rw [List.nil_append] at ho9; have hb8b := blk_below hb hb8; have hce8 : w8.cell? ⟨g, 0, none⟩ = some (.slice A q.length c) := (blk_cell hb8b 0).trans rfl; have hf8 := blk_frozen hb8b 0))
    go_wp2
    go_ret
    refine ⟨_, rfl, ?_, (KeepBut.of_below hb8 g none).set_ 0 _, ⟨A2, c - n, (blk_put hb8b 0 _ rfl).trans rfl, hC2, hc2⟩, below_set (below_step HB hb8) hg, hg⟩
    refine Kd.R_far (p := ⟨g, 0, none⟩) (Kd.R_mono (Kd.R_bound ho9) (ok' := fun k => k ≠ g) (fun k hk => ?_)) (fun _ hk => hk) _ |> fun z => Kd.R_mono z (fun _ _ => trivial)
    have := hk.2.1
    omega
/-- The entries, one by one. -/
def refL : Nat → (List Int × Bool) → List S49 → Option (List S49 × Bool)
  | 0, p, acc => some (if p.2 = true ∨ 0 < p.1.length then ([], false) else (acc, true))
  | n + 1, p, acc => if p.2 = true then some ([], false) else
    if acc.length < 2513169434915 then
    if 0 ≤ (rNum 1 (rNum 1 p).2).1 then
    if (rNum 1 p).1 > 1 ∨ (rSome (rNum 1 (rNum 1 p).2).1.toNat (rNum 1 (rNum 1 p).2).2).1.length = 0 then some ([], false) else
    if (rNum 1 p).1 = 1 then
      if (rNum 2 (rSome (rNum 1 (rNum 1 p).2).1.toNat (rNum 1 (rNum 1 p).2).2).2).1 > 4095 then some ([], false) else
      if 0 ≤ (rNum 2 (rSome (rNum 1 (rNum 1 p).2).1.toNat (rNum 1 (rNum 1 p).2).2).2).1 then
      refL n (rSome (rNum 2 (rSome (rNum 1 (rNum 1 p).2).1.toNat (rNum 1 (rNum 1 p).2).2).2).1.toNat (rNum 2 (rSome (rNum 1 (rNum 1 p).2).1.toNat (rNum 1 (rNum 1 p).2).2).2).2).2
        (acc ++ [⟨(rSome (rNum 1 (rNum 1 p).2).1.toNat (rNum 1 (rNum 1 p).2).2).1, (rSome (rNum 2 (rSome (rNum 1 (rNum 1 p).2).1.toNat (rNum 1 (rNum 1 p).2).2).2).1.toNat (rNum 2 (rSome (rNum 1 (rNum 1 p).2).1.toNat (rNum 1 (rNum 1 p).2).2).2).2).1, (rNum 1 p).1 == 0⟩]) else none
    else refL n (rSome (rNum 1 (rNum 1 p).2).1.toNat (rNum 1 (rNum 1 p).2).2).2 (acc ++ [⟨(rSome (rNum 1 (rNum 1 p).2).1.toNat (rNum 1 (rNum 1 p).2).2).1, [], (rNum 1 p).1 == 0⟩])
    else none
    else none
/-- Too many, as the first two bytes say? -/
def refMany (l : List Int) : Bool := decide (2 ≤ l.length) && decide (8191 < wrap64 (wrap64 (wrap64 (rd l 0) * 256) + wrap64 (rd l 1)))
def marigraphref4_Entries.f (l0 : List Int) : Option (List S49 × Bool) :=
  if l0.length < 140737488355328 then (if refMany l0 = true then some ([], false) else refL (rNum 2 (l0, false)).1.toNat (rNum 2 (l0, false)).2 []) else none
structure RE (w w' : World) (p : List Int × Bool) (v0 : Value) (acc : List S49) : Prop where
  rd : Rr w w' w.heap.size p
  own : Kd.S k49 49 w' w.heap.size (fun k => k ≠ w.heap.size) v0 acc
theorem RE.call {w w' w'' : World} {p p' : List Int × Bool} {v0 : Value} {acc : List S49} (h : RE w w' p v0 acc) (hk : KeepBut w' w'' w.heap.size none) (hr : Rr w w'' w.heap.size p') : RE w w'' p' v0 acc :=
  ⟨hr, Kd.S_keep h.own hk (fun _ hk' => hk')⟩
structure RX (w w' : World) (N e2 : Nat) (p : List Int × Bool) (v0 : Value) (acc : List S49) (vk vv : Value) (x : S49) : Prop where
  rd : Rr w w' w.heap.size p
  own : Kd.S k49 49 w' w.heap.size (fun k => k ≠ w.heap.size ∧ k < N) v0 acc
  loc : w'.heap[e2]? = some (.cells #[vk, vv, .bool x.f2] 49 (0, 0))
  lo : w.heap.size < N
  hi : N ≤ e2
  r0 : Kd.R (Kd.int .u8) 5 w' N (fun _ => True) vk x.f0
  r1 : Kd.R (Kd.int .u8) 5 w' N (fun _ => True) vv x.f1
theorem rowr_kept {W W' : World} {B g : Nat} {v : Value} {xs : List Int} (h : Kd.R (Kd.int .u8) 5 W B (fun _ => True) v xs) (hk : KeepBut W W' g none) (hg : g < B) : Kd.R (Kd.int .u8) 5 W' B (fun _ => True) v xs :=
  Kd.R_mono (Kd.R_keep (Kd.R_bound h) hk (fun k hk' => by have := hk'.2.1; omega)) (fun _ _ => trivial)
theorem RX.call {w w' w'' : World} {N e2 : Nat} {p p' : List Int × Bool} {v0 vk vv : Value} {acc : List S49} {x : S49} (h : RX w w' N e2 p v0 acc vk vv x) (hk : KeepBut w' w'' w.heap.size none) (hr : Rr w w'' w.heap.size p') : RX w w'' N e2 p' v0 acc vk vv x :=
  ⟨hr, Kd.S_keep h.own hk (fun _ hk' => hk'.1), hk.blk h.loc (by have := h.lo; have := h.hi; omega) (by simp), h.lo, h.hi, rowr_kept h.r0 hk h.lo, rowr_kept h.r1 hk h.lo⟩
theorem RX.val {w w' : World} {N e2 : Nat} {p : List Int × Bool} {v0 vk vv v : Value} {acc : List S49} {x : S49} {k : List Int} (h : RX w w' N e2 p v0 acc vk vv x) (hv : Kd.R (Kd.int .u8) 5 w' N (fun _ => True) v k) : RX w (w'.setCell ⟨e2, 1, none⟩ v) N e2 p v0 acc vk v ⟨x.f0, k, x.f2⟩ := by
  obtain ⟨h1, h2, h3, h4, h5, h7, h8⟩ := h
  exact ⟨h1.far (by omega) (by omega) _, Kd.S_far (p := ⟨e2, 1, none⟩) h2 (fun k hk => by have := hk.2; show k ≠ e2; omega) _, blk_put h3 1 _ rfl, h4, h5, Kd.R_set h7 h3 (by decide) 1 _, Kd.R_set hv h3 (by decide) 1 _⟩
theorem RX.big {w w' : World} {N e2 : Nat} {p : List Int × Bool} {v0 vk vv : Value} {acc : List S49} {x : S49} (h : RX w w' N e2 p v0 acc vk vv x) : N ≤ w'.heap.size := by
  have := blk_lt h.loc
  have := h.hi
  omega
theorem RX.made {w w' : World} {N e2 : Nat} {p : List Int × Bool} {v0 vk vv : Value} {acc : List S49} {x : S49} (h : RX w w' N e2 p v0 acc vk vv x) : k49.M w' w.heap.size (fun k => N ≤ k) x [vk, vv, .bool x.f2] :=
  k49_mkM _ _ _ x (Kd.R_mono (Kd.R_lower (Kd.R_bound h.r0) (Nat.le_of_lt h.lo)) (fun k hk => hk.2.1)) (Kd.R_mono (Kd.R_lower (Kd.R_bound h.r1) (Nat.le_of_lt h.lo)) (fun k hk => hk.2.1))
theorem RX.apart {w w' : World} {N e2 : Nat} {p : List Int × Bool} {v0 vk vv : Value} {acc : List S49} {x : S49} (h : RX w w' N e2 p v0 acc vk vv x) : ∀ k, N ≤ k → k ≠ w.heap.size ∧ some k ≠ v0.ownBlock := fun k hk =>
  ⟨by have := h.lo; omega, fun he => by have := ((Kd.S_R h.own).1 k he.symm).2; omega⟩
theorem RX.fresh {w w' : World} {N e2 : Nat} {p : List Int × Bool} {v0 vk vv : Value} {acc : List S49} {x : S49} (h : RX w w' N e2 p v0 acc vk vv x) : ∀ k, w'.heap.size ≤ k → k ≠ w.heap.size := fun k hk => by
  have := h.big
  have := h.lo
  omega
theorem RX.row {w w' : World} {N e2 : Nat} {p : List Int × Bool} {v0 vk vv : Value} {acc : List S49} {x : S49} (h : RX w w' N e2 p v0 acc vk vv x) : Kd.S k49 49 w' w.heap.size (fun k => k ≠ w.heap.size ∧ ¬ N ≤ k) v0 acc := Kd.S_mono h.own (fun _ hk => ⟨hk.1, by have := hk.2; omega⟩)
theorem RX.after {w w' w'' : World} {N e2 : Nat} {p : List Int × Bool} {v0 vk vv v1 : Value} {acc : List S49} {x : S49} (h : RX w w' N e2 p v0 acc vk vv x) (ho : Kd.S k49 49 w'' w.heap.size (fun k => k ≠ w.heap.size) v1 (acc ++ [x])) (hb : Below w.heap.size w w'') (hg : w'.grownBy w'' v0.ownBlock) : RE w w'' p v1 (acc ++ [x]) :=
  ⟨h.rd.grown hg (fun he => ((Kd.S_R h.own).1 _ he.symm).1 rfl) hb, ho⟩
/-- What Entries tells. -/
def RTold (w : World) (r : List S49 × Bool) (e : Ending) (w' : World) : Prop :=
  ∃ v0_ : Value, e = .returned (.tuple #[v0_, .bool r.2]) ∧ Kd.S k49 49 w' w.heap.size (fun _ => True) v0_ r.1 ∧ Below w.heap.size w w'
theorem rNum_less {s : Nat} {p : List Int × Bool} (h : p.1.length < 140737488355328) : (rNum s p).2.1.length < 140737488355328 := by
  unfold rNum
  split
  · exact Nat.zero_lt_succ _
  · simp only [List.length_drop]; omega
theorem rSome_less {s : Nat} {p : List Int × Bool} (h : p.1.length < 140737488355328) : (rSome s p).2.1.length < 140737488355328 := by
  unfold rSome
  split
  · exact Nat.zero_lt_succ _
  · simp only [List.length_drop]; omega
theorem rNum_in (s : Nat) (p : List Int × Bool) : (rNum s p).1 ≤ 9223372036854775807 := by
  unfold rNum
  split
  · decide
  · unfold wrap64; omega
set_option maxHeartbeats 8000000 in
set_option maxRecDepth 100000 in
theorem marigraphref4_Entries.callsT (A0 : Option Addr) (c0 : Nat) (l0 : List Int) (r : List S49 × Bool) (w : World) (hr0 : Kd.C (Kd.int .u8) w A0 l0.length l0) (hc0 : l0.length ≤ c0) (h : marigraphref4_Entries.f l0 = some r) :
    Calls Try.prog 56 #[.slice A0 l0.length c0] w (RTold w r) := by
  have hu91 := Try.underlying91
  have hu49 := Try.underlying49
  unfold marigraphref4_Entries.f at h
  by_cases hq : l0.length < 140737488355328
  rotate_left
  · rw [if_neg hq] at h; cases h
  rw [if_pos hq] at h
  have hRE0 : RE w (w.alloc (Obj.cells #[Value.slice A0 l0.length c0, Value.bool false] 91)) (l0, false) (.slice none 0 0) [] :=
    ⟨⟨⟨A0, c0, blk_new w _, hr0, hc0⟩, below_alloc (Below.refl _ _) _, Nat.le_refl _⟩, Kd.S_nil _ _ _ _ _⟩
  have hCa := Kd.C_below hr0 hRE0.rd.below
  have hmany : Aside0 (2 ≤ l0.length → ∃ ad, A0 = some ad ∧ (w.alloc (Obj.cells #[Value.slice A0 l0.length c0, Value.bool false] 91)).cell? ad = some (.int .u8 (rd l0 0)) ∧ (w.alloc (Obj.cells #[Value.slice A0 l0.length c0, Value.bool false] 91)).cell? ⟨ad.block, ad.off + 1, none⟩ = some (.int .u8 (rd l0 1))) := ⟨fun h2 => by
    obtain ⟨ad, he, h0⟩ := Kd.at_int hCa 0 (by omega) (by omega)
    obtain ⟨ad', he', h1⟩ := Kd.at_int hCa 1 (by omega) (by omega)
    rw [he] at he'
    injection he' with he'
    subst he'
    exact ⟨ad, he, by simpa [Addr.add] using h0, by simpa [Addr.add] using h1⟩⟩
  go_enter Try.func56, Try.ntmps56
  go_upto_region 3 with (fail)
  generalize (w.alloc (Obj.cells #[Value.slice A0 l0.length c0, Value.bool false] 91)) = w1 at hRE0 hmany ⊢
  clear hCa
  by_cases hm : refMany l0 = true
  · rw [if_pos hm] at h
    obtain rfl := Option.some.inj h
    unfold refMany at hm
    simp only [Bool.and_eq_true, decide_eq_true_eq] at hm
    obtain ⟨ad, rfl, h0, h1⟩ := hmany.out hm.1
    have hd1 : decide ((2 : Int) ≤ (l0.length : Int)) = true := decide_eq_true (by omega)
    have hp0 : ((0 : Int) < (l0.length : Int)) = True := eq_true (by omega)
    have hp1 : ((1 : Int) < (l0.length : Int)) = True := eq_true (by omega)
    have hp2 : (0 < l0.length) = True := eq_true (by omega)
    have hp3 : (1 < l0.length) = True := eq_true (by omega)
    have hd2 : decide (8191 < IntKind.i64.wrap (IntKind.i64.wrap (IntKind.i64.wrap (rd l0 0) * 256) + IntKind.i64.wrap (rd l0 1))) = true := decide_eq_true (by simp only [i64_w]; exact hm.2)
    go_quiet (fail)
    go_wp2
    go_ret2
    exact ⟨_, rfl, Kd.S_nil _ _ _ _ _, pw_below_drewN hRE0.rd.below _⟩
  rw [if_neg hm] at h
  go_cut [28] (fun v28 wc => v28 = .bool false ∧ Aside0 (RE w wc (l0, false) (.slice none 0 0) []))
  case first =>
    by_cases h2 : 2 ≤ l0.length
    · have hm2 : ¬ 8191 < wrap64 (wrap64 (wrap64 (rd l0 0) * 256) + wrap64 (rd l0 1)) := fun h3 => hm (by unfold refMany; rw [decide_eq_true h2, decide_eq_true h3]; rfl)
      obtain ⟨ad, rfl, h0, h1⟩ := hmany.out h2
      have hd1 : decide ((2 : Int) ≤ (l0.length : Int)) = true := decide_eq_true (by omega)
      have hp0 : ((0 : Int) < (l0.length : Int)) = True := eq_true (by omega)
      have hp1 : ((1 : Int) < (l0.length : Int)) = True := eq_true (by omega)
      have hp2 : (0 < l0.length) = True := eq_true (by omega)
      have hp3 : (1 < l0.length) = True := eq_true (by omega)
      have hd2 : decide (8191 < IntKind.i64.wrap (IntKind.i64.wrap (IntKind.i64.wrap (rd l0 0) * 256) + IntKind.i64.wrap (rd l0 1))) = false := decide_eq_false (by simp only [i64_w]; exact hm2)
      replace hm2 := Aside0.mk hm2
      go_quiet (fail)
      go_wp2
      go_meet
      case rel => exact ⟨by first | rfl | rw [decide_eq_false (show ¬ _ by have := hm2.out; omega)], ⟨hRE0.rd.drewN _, Kd.S_drewN hRE0.own _⟩⟩
    · have hd1 : decide ((2 : Int) ≤ (l0.length : Int)) = false := decide_eq_false (by omega)
      go_quiet (fail)
      go_wp2
      go_meet
      case rel => exact ⟨rfl, ⟨hRE0.rd.drewN _, Kd.S_drewN hRE0.own _⟩⟩
  case rest =>
    clear hRE0 hmany hr0 hc0 hm
    obtain ⟨rfl, hRE1⟩ := hcut
    replace hRE1 := hRE1.out
    have hN := Num_calls hRE1.rd 2 rfl (by decide)
    have hin := rNum_in 2 (l0, false)
    have hl1 := rNum_less (s := 2) (p := (l0, false)) hq
    generalize rNum 2 (l0, false) = a0 at *
    go_wp2_with (go_at_call 61; refine hN.mono ?_; rintro e w2 ⟨rfl, hk2, hr2⟩; have hRE2 := hRE1.call hk2 hr2)
    clear hN hRE1 hk2 hr2
    go_loopg [5, 6] (a0.1.toNat + 1) (fun kq v5 v6 w' => ∃ (N : Int) (p : List Int × Bool) (acc : List S49), v6 = .int .i64 N ∧ Aside0 (N.toNat < kq ∧ N ≤ 9223372036854775807 ∧ p.1.length < 140737488355328) ∧ Aside0 (refL N.toNat p acc = some r) ∧ Aside0 (RE w w' p v5 acc))
    case atStart => exact ⟨a0.1, a0.2, [], rfl, ⟨Nat.lt_succ_self _, hin, hl1⟩, ⟨h⟩, ⟨hRE2⟩⟩
    case round =>
      clear hRE2 h hin hl1
      obtain ⟨N, p, acc, rfl, hlt, hr, hrs⟩ := hrel
      have hr := hr.out
      have hrs := hrs.out
      obtain ⟨Ao, co, rfl, hco, hRo⟩ := Kd.S_reads hrs.own
      obtain ⟨q, bad⟩ := p
      obtain ⟨⟨A, c, hb, hC, hc⟩, HB, -⟩ := hrs.rd
      dsimp only at hb hC hc
      have hce0 : wr.cell? ⟨w.heap.size, 0, none⟩ = some (.slice A q.length c) := (blk_cell hb 0).trans rfl
      have hce1 : wr.cell? ⟨w.heap.size, 1, none⟩ = some (.bool bad) := (blk_cell hb 1).trans rfl
      by_cases hN_ : ¬ N > 0
      · have hN0 : N.toNat = 0 := by omega
        rw [hN0] at hr
        simp only [refL, Option.some.injEq] at hr
        cases bad with
        | true =>
          rw [if_pos (.inl rfl)] at hr
          subst hr
          go_wp2
          go_ret2
          exact ⟨_, rfl, Kd.S_nil _ _ _ _ _, HB⟩
        | false =>
          by_cases hq0 : 0 < q.length
          · rw [if_pos (.inr hq0)] at hr
            subst hr
            have hd : decide (0 < q.length) = true := decide_eq_true hq0
            go_wp2
            go_ret2
            exact ⟨_, rfl, Kd.S_nil _ _ _ _ _, HB⟩
          · rw [if_neg (fun h => h.elim (by decide) hq0)] at hr
            subst hr
            have hd : decide (0 < q.length) = false := decide_eq_false hq0
            go_wp2
            go_ret2
            exact ⟨_, rfl, Kd.S_mono hrs.own (fun _ _ => trivial), HB⟩
      · have hN : N > 0 := by omega
        obtain ⟨k, hk⟩ : ∃ k, N.toNat = k + 1 := ⟨N.toNat - 1, by omega⟩
        rw [hk, refL] at hr
        cases bad with
        | true =>
          rw [if_pos rfl] at hr
          obtain rfl := Option.some.inj hr
          go_wp2
          go_ret2
          exact ⟨_, rfl, Kd.S_nil _ _ _ _ _, HB⟩
        | false =>
        rw [if_neg (fun h => Bool.noConfusion h)] at hr
        by_cases ha : acc.length < 2513169434915
        rotate_left
        · rw [if_neg ha] at hr; cases hr
        rw [if_pos ha] at hr
        have hlp := hlt.out.2.2
        have hA := Num_calls (s := 1) hrs.rd 1 rfl (by decide)
        have hla := rNum_less (s := 1) hlp
        clear hb hC hc hRo
        generalize rNum 1 (q, false) = a at *
        have hBn := fun (w3 : World) (h3 : Rr w w3 w.heap.size a.2) => Num_calls (s := 1) h3 1 rfl (by decide)
        have hlb := rNum_less (s := 1) hla
        generalize rNum 1 a.2 = b at *
        by_cases hb0 : 0 ≤ b.1
        rotate_left
        · rw [if_neg hb0] at hr; cases hr
        rw [if_pos hb0] at hr
        have hCs := fun (w3 : World) (h3 : Rr w w3 w.heap.size b.2) => Some_calls h3 b.1 hb0 hlb
        have hlc := rSome_less (s := b.1.toNat) hlb
        generalize rSome b.1.toNat b.2 = c at *
        have hbk : w.heap.size < wr.heap.size := by obtain ⟨⟨A, c, hb, -, -⟩, -, -⟩ := hrs.rd; exact blk_lt hb
        go_upto_region 10 with (first | (go_at_call 62; refine (hCs _ hr5).mono ?_; rintro e w6 ⟨v6, rfl, hv6, hk6, hr6⟩; obtain ⟨A6, c6, rfl⟩ := Kd.R_slice hv6) | (go_at_call 61; refine (hBn _ hr4).mono ?_; rintro e w5 ⟨rfl, hk5, hr5⟩) | (go_at_call 61; refine hA.mono ?_; rintro e w4 ⟨rfl, hk4, hr4⟩))
        have hX : RX w (w6.alloc (Obj.cells #[Value.slice A6 c.1.length c6, Value.slice none 0 0, Value.bool (a.1 == 0)] 49)) wr.heap.size w6.heap.size c.2 (.slice Ao acc.length co) acc (.slice A6 c.1.length c6) (.slice none 0 0) ⟨c.1, [], a.1 == 0⟩ := by
          have hk := keep_size (hk4.trans hk5 (.inl rfl))
          refine ⟨hr6.alloc _, ?_, blk_new _ _, hbk, Nat.le_trans hk hk6.1, Kd.R_alloc (Kd.R_lower hv6 hk) _, Kd.R_nil _ _ _ _ _⟩
          exact Kd.S_alloc (Kd.S_keep (Kd.S_keep (Kd.S_keep (Kd.S_mono (Kd.S_bound hrs.own) (fun k hk => ⟨hk.1, hk.2.2.1⟩)) hk4 (fun _ hk => hk.1)) hk5 (fun _ hk => hk.1)) hk6 (fun _ hk => hk.1)) _
        clear hk4 hk5 hk6 hr4 hr5 hr6 hv6 hA hBn hCs hce0 hce1 hrs hlp hla hlb
        generalize (w6.alloc (Obj.cells #[Value.slice A6 c.1.length c6, Value.slice none 0 0, Value.bool (a.1 == 0)] 49)) = w7 at hX ⊢
        generalize w6.heap.size = e2 at hX ⊢
        have hx0 : w7.cell? ⟨e2, 0, none⟩ = some (.slice A6 c.1.length c6) := (blk_cell hX.loc 0).trans rfl
        have HB7 := hX.rd.below
        by_cases ha1 : a.1 > 1
        · rw [if_pos (.inl ha1)] at hr
          obtain rfl := Option.some.inj hr
          have hd : decide (1 < a.1) = true := decide_eq_true ha1
          go_wp2
          go_ret2
          exact ⟨_, rfl, Kd.S_nil _ _ _ _ _, HB7⟩
        have hd : decide (1 < a.1) = false := decide_eq_false ha1
        by_cases hc1 : c.1.length = 0
        · rw [if_pos (.inr hc1)] at hr
          obtain rfl := Option.some.inj hr
          have hd2 : decide ((c.1.length : Int) = 0) = true := decide_eq_true (by omega)
          have hd3 : ((c.1.length : Int) == 0) = true := by rw [hc1]; rfl
          go_wp2
          go_ret2
          exact ⟨_, rfl, Kd.S_nil _ _ _ _ _, HB7⟩
        rw [if_neg (fun h => h.elim ha1 hc1)] at hr
        have hd3 : ((c.1.length : Int) == 0) = false := beq_eq_false_iff_ne.2 (by omega)
        have hw : wrap64 (N - 1) = N - 1 := by have := hlt.out.2.1; unfold wrap64; omega
        by_cases ha2 : a.1 = 1
        · rw [if_pos ha2] at hr
          have hd4 : (a.1 == 1) = true := beq_iff_eq.2 ha2
          have hz : (a.1 == 0) = false := by rw [ha2]; rfl
          rw [hz] at hX hr
          clear ha2
          have hD := Num_calls (s := 2) hX.rd 2 rfl (by decide)
          have hld := rNum_less (s := 2) hlc
          generalize rNum 2 c.2 = d at *
          by_cases hd1 : d.1 > 4095
          · rw [if_pos hd1] at hr
            obtain rfl := Option.some.inj hr
            have hd5 : decide (4095 < d.1) = true := decide_eq_true hd1
            go_wp2_with (go_at_call 61; refine hD.mono ?_; rintro e w8 ⟨rfl, hk8, hr8⟩)
            go_ret2
            exact ⟨_, rfl, Kd.S_nil _ _ _ _ _, hr8.below⟩
          rw [if_neg hd1] at hr
          have hd5 : decide (4095 < d.1) = false := decide_eq_false hd1
          by_cases hd0 : 0 ≤ d.1
          rotate_left
          · rw [if_neg hd0] at hr; cases hr
          rw [if_pos hd0] at hr
          have hEs := fun (w3 : World) (h3 : Rr w w3 w.heap.size d.2) => Some_calls h3 d.1 hd0 hld
          have hle := rSome_less (s := d.1.toNat) hld
          generalize rSome d.1.toNat d.2 = f at *
          go_upto_region 17 with (first | (go_at_call 62; refine (hEs _ hr8).mono ?_; rintro e w9 ⟨v9, rfl, hv9, hk9, hr9⟩; obtain ⟨A9, c9, rfl⟩ := Kd.R_slice hv9; have hX9 := (hX.call hk8 hr8).call hk9 hr9; have hf9 := blk_frozen hX9.loc 1; have hce9 : w9.cell? ⟨e2, 1, none⟩ = _ := (blk_cell hX9.loc 1).trans rfl) | (go_at_call 61; refine hD.mono ?_; rintro e w8 ⟨rfl, hk8, hr8⟩))
          have hX10 := hX9.val (Kd.R_lower hv9 (by have h1 := hk8.1; have h2 := hX.big; omega))
          clear hX hX9 hk8 hk9 hr8 hr9 hv9 hD hEs hx0 HB7 hf9 hce9
          generalize (w9.setCell ⟨e2, 1, none⟩ (Value.slice A9 f.1.length c9)) = w10 at hX10 ⊢
          have hx0 : w10.cell? ⟨e2, 0, none⟩ = some (.slice A6 c.1.length c6) := (blk_cell hX10.loc 0).trans rfl
          have hx1 : w10.cell? ⟨e2, 1, none⟩ = some (.slice A9 f.1.length c9) := (blk_cell hX10.loc 1).trans rfl
          have hx2 : w10.cell? ⟨e2, 2, none⟩ = some (.bool false) := (blk_cell hX10.loc 2).trans rfl
          go_wp2_with (first | ((with_reducible refine gate_builtin (b := .append) (xs := #[.tmp 69, .tmp 71]) rfl ?_); at_builtin; refine Kd.S_append k49 (w0 := w) w.heap.size rfl (.tmp 69) (.tmp 71) 37 49 (.agg #[(.slice none 0 0), (.slice none 0 0), (.bool false)]) 56 rfl Try.underlying37 info49 rfl (by decide) (by omega) (.slice Ao acc.length co) acc (⟨c.1, f.1, false⟩ : S49) [.slice A6 c.1.length c6, .slice A9 f.1.length c9, .bool false] (fun k => k ≠ w.heap.size) (fun k => wr.heap.size ≤ k) rfl rfl ?aP ?aK ?aF ?aO ?aB ?aS ?aL ?_; (case aP => exact hX10.made); (case aK => exact hX10.apart); (case aF => exact hX10.fresh); (case aO => exact hX10.row); (case aB => exact hX10.rd.below); (case aS => exact hX10.rd.below.size); (case aL => omega); intro v9 w9 ho hb9 hg9 hat9; have hRE9 := hX10.after ho hb9 hg9))
          go_roundg (k + 1)
          case measure => have := hlt.out.1; omega
          case rel => exact ⟨N - 1, _, _, by first | rfl | rw [hw], ⟨by omega, by have := hlt.out.2.1; omega, hle⟩, ⟨by rw [show (N - 1).toNat = k by omega]; exact hr⟩, ⟨hRE9⟩⟩
        · rw [if_neg ha2] at hr
          have hd4 : (a.1 == 1) = false := beq_eq_false_iff_ne.2 ha2
          have hx1 : w7.cell? ⟨e2, 1, none⟩ = some (.slice none 0 0) := (blk_cell hX.loc 1).trans rfl
          have hx2 : w7.cell? ⟨e2, 2, none⟩ = some (.bool (a.1 == 0)) := (blk_cell hX.loc 2).trans rfl
          go_wp2_with (first | ((with_reducible refine gate_builtin (b := .append) (xs := #[.tmp 69, .tmp 71]) rfl ?_); at_builtin; refine Kd.S_append k49 (w0 := w) w.heap.size rfl (.tmp 69) (.tmp 71) 37 49 (.agg #[(.slice none 0 0), (.slice none 0 0), (.bool false)]) 56 rfl Try.underlying37 info49 rfl (by decide) (by omega) (.slice Ao acc.length co) acc (⟨c.1, [], a.1 == 0⟩ : S49) [.slice A6 c.1.length c6, .slice none 0 0, .bool (a.1 == 0)] (fun k => k ≠ w.heap.size) (fun k => wr.heap.size ≤ k) rfl rfl ?aP ?aK ?aF ?aO ?aB ?aS ?aL ?_; (case aP => exact hX.made); (case aK => exact hX.apart); (case aF => exact hX.fresh); (case aO => exact hX.row); (case aB => exact hX.rd.below); (case aS => exact hX.rd.below.size); (case aL => omega); intro v9 w9 ho hb9 hg9 hat9; have hRE9 := hX.after ho hb9 hg9))
          go_roundg (k + 1)
          case measure => have := hlt.out.1; omega
          case rel => exact ⟨N - 1, _, _, by first | rfl | rw [hw], ⟨by omega, by have := hlt.out.2.1; omega, hlc⟩, ⟨by rw [show (N - 1).toNat = k by omega]; exact hr⟩, ⟨hRE9⟩⟩
theorem marigraphref4_Entries.calls (A0 : Option Addr) (c0 : Nat) (l0 : List Int) (r1 : List S49) (r2 : Bool) (w : World) (hr0 : Kd.C (Kd.int .u8) w A0 l0.length l0) (hc0 : l0.length ≤ c0) (h : marigraphref4_Entries.f l0 = some (r1, r2)) :
    Calls Try.prog 56 #[.slice A0 l0.length c0] w fun e w' => ∃ v0_ : Value, e = .returned (.tuple #[v0_, .bool r2]) ∧ Kd.S k49 49 w' w.heap.size (fun _ => True) v0_ r1 ∧ Below w.heap.size w w' :=
  marigraphref4_Entries.callsT A0 c0 l0 (r1, r2) w hr0 hc0 h

/-! ### marigraphlaw4_entries: function 36 -/
def marigraphlaw4_entries.f (k : Nat) (l0 : List Int) : Option (Bool) := (frame_Entries.f k l0).bind fun bt286 => ((marigraphref4_Entries.f l0).bind fun bt290 => (if ((bt286.2 == 0) == bt290.2) = true then (if bt290.2 = true then ((marigraphref8_Same.f k bt286.1 bt290.1).bind fun t294 => (some t294)) else (if bt286.2 = 12 then ((marigraphref8_Same.f k bt286.1 bt290.1).bind fun t295 => (some t295)) else (some false))) else (some false)))
theorem marigraphlaw4_entries.mono : ∀ a0 k, LeO (marigraphlaw4_entries.f k a0) (marigraphlaw4_entries.f (k + 1) a0) := by
 intro a0 k
 unfold marigraphlaw4_entries.f
 repeat' first
   | (with_reducible exact frame_Entries.mono _ _)
   | (with_reducible exact marigraphref8_Same.mono _ _ _)
   | (with_reducible exact LeO.refl _)
   | (with_reducible exact LeO.none _)
   | (with_reducible refine LeO.ite ?_ ?_)
   | (with_reducible refine LeO.bind ?_ (fun _ => ?_))
   | exact frame_Entries.mono _ _
   | exact marigraphref8_Same.mono _ _ _
   | exact LeO.none _
   | refine LeO.ite ?_ ?_
   | refine LeO.bind ?_ (fun _ => ?_)
set_option maxHeartbeats 8000000 in
set_option maxRecDepth 100000 in
theorem marigraphlaw4_entries.calls (k : Nat) (A0 : Option Addr) (c0 : Nat) (l0 : List Int) (r : Bool) (w : World) (hr0 : Kd.C (Kd.int .u8) w A0 l0.length l0) (hc0 : l0.length ≤ c0) (h : marigraphlaw4_entries.f k l0 = some r) :
  Calls Try.prog 36 #[.slice A0 l0.length c0] w fun e w' => e = .returned (.bool r) ∧ Below w.heap.size w w' := by
 have HR0 := Aside0.mk hr0
 have HC0 := Aside0.mk hc0
 clear hr0 hc0
 have HB := Aside0.mk (Below.refl w.heap.size w)
 have H : ((frame_Entries.f k l0).bind fun bt286 => ((marigraphref4_Entries.f l0).bind fun bt290 => (if ((bt286.2 == 0) == bt290.2) = true then (if bt290.2 = true then ((marigraphref8_Same.f k bt286.1 bt290.1).bind fun t294 => (some t294)) else (if bt286.2 = 12 then ((marigraphref8_Same.f k bt286.1 bt290.1).bind fun t295 => (some t295)) else (some false))) else (some false)))) = some r := h
 clear h
 replace H := Option.bind_eq_some_iff.mp H
 obtain ⟨⟨t286, t287⟩, A20, H⟩ := H
 replace H : ((marigraphref4_Entries.f l0).bind fun bt290 => (if ((t287 == 0) == bt290.2) = true then (if bt290.2 = true then ((marigraphref8_Same.f k t286 bt290.1).bind fun t294 => (some t294)) else (if t287 = 12 then ((marigraphref8_Same.f k t286 bt290.1).bind fun t295 => (some t295)) else (some false))) else (some false))) = some r := H
 have A2 := Aside0.mk A20
 clear A20
 replace H := Option.bind_eq_some_iff.mp H
 obtain ⟨⟨t290, t291⟩, A30, H⟩ := H
 replace H : (if ((t287 == 0) == t291) = true then (if t291 = true then ((marigraphref8_Same.f k t286 t290).bind fun t294 => (some t294)) else (if t287 = 12 then ((marigraphref8_Same.f k t286 t290).bind fun t295 => (some t295)) else (some false))) else (some false)) = some r := H
 have A3 := Aside0.mk A30
 clear A30
 by_cases c4 : ((t287 == 0) == t291) = true
 ·rw [if_pos c4] at H
  have c4b0 : ((t287 == 0) == t291) = true := c4
  (try (have c4b1 : decide ((t287 == 0) = t291) = true := by simpa using c4))
  (try (have c4b2 : ((t287 == 0) == t291) = true := by simpa using c4))
  clear c4
  by_cases c5 : t291 = true
  ·subst c5
   have H1 : ((marigraphref8_Same.f k t286 t290).bind fun t294 => (some t294)) = some r := by rw [if_pos rfl] at H; exact H
   clear H
   have H := H1
   clear H1
   replace H := Option.bind_eq_some_iff.mp H
   obtain ⟨t294, A60, H⟩ := H
   replace H : (some t294) = some r := H
   have A6 := Aside0.mk A60
   clear A60
   obtain rfl := Option.some.inj H
   go_enter Try.func36, Try.ntmps36
   go_wp2_with (first | ((with_reducible refine gate_callee (f := 38) rfl ?_); refine goesL_ (some 9) rfl rfl Try.func38 (by kernel_rfl) rfl #[.slice A0 l0.length c0] rfl argN ?_; (with_reducible refine (frame_Entries.calls k _ _ l0 t286 t287 _ ?side1 ?side2 A2.out).mono ?_); (case side1 => repeat (first | exact HR0.out | (with_reducible refine Kd.C_alloc ?_ _) | (with_reducible refine Kd.C_drewN ?_ _) | (with_reducible refine Kd.C_drew ?_))); (case side2 => exact HC0.out); rintro e w7 ⟨v288, rfl, ho0, hb⟩; refine ⟨_, rfl, ?_⟩; have n0_ := Aside0.mk (Kd.S_lower ho0 (below_size (belN HB.out))); have n1_ := Aside0.mk (below_step (belN HB.out) hb); clear HB; have HO289 := n0_; have HB := n1_; clear n0_ n1_; (try clear hb); (try clear ho0)) | ((with_reducible refine gate_callee (f := 56) rfl ?_); refine goesL_ (some 14) rfl rfl Try.func56 (by kernel_rfl) rfl #[.slice A0 l0.length c0] rfl argN ?_; (with_reducible refine (marigraphref4_Entries.calls _ _ l0 t290 true _ ?side1 ?side2 A3.out).mono ?_); (case side1 => repeat (first | exact (Kd.C_below HR0.out HB.out) | (with_reducible refine Kd.C_alloc ?_ _) | (with_reducible refine Kd.C_drewN ?_ _) | (with_reducible refine Kd.C_drew ?_))); (case side2 => exact HC0.out); rintro e w8 ⟨v292, rfl, ho0, hb⟩; refine ⟨_, rfl, ?_⟩; have n0_ := Aside0.mk (Kd.S_elder' (by (with_reducible repeat (first | apply Kd.S_alloc | apply Kd.S_drewN | apply Kd.S_drew)); exact HO289.out) (Kd.S_base ho0) hb); have n1_ := Aside0.mk (Kd.S_lower (Kd.S_new' ho0 (Kd.S_lt (by (with_reducible repeat (first | apply Kd.S_alloc | apply Kd.S_drewN | apply Kd.S_drew)); exact HO289.out))) (below_size (belN HB.out))); have n2_ := Aside0.mk (below_step (belN HB.out) hb); clear HO289; clear HB; have HO289 := n0_; have HO293 := n1_; have HB := n2_; clear n0_ n1_ n2_; (try clear hb); (try clear ho0); obtain ⟨Ao9, co9, eo9⟩ := Kd.S_slice HO289.out; subst eo9; obtain ⟨Ao10, co10, eo10⟩ := Kd.S_slice HO293.out; subst eo10) | (go_at_call 23; (with_reducible refine (marigraphref8_Same.calls k _ _ t286 _ _ t290 t294 _ ?side1 ?side2 ?side3 ?side4 A6.out).mono ?_); (case side1 => repeat (first | exact (Kd.S_reads' HO289.out).2.2 | (with_reducible refine Kd.C_alloc ?_ _) | (with_reducible refine Kd.C_drewN ?_ _) | (with_reducible refine Kd.C_drew ?_))); (case side2 => exact (Kd.S_reads' HO289.out).2.1); (case side3 => repeat (first | exact (Kd.S_reads' HO293.out).2.2 | (with_reducible refine Kd.C_alloc ?_ _) | (with_reducible refine Kd.C_drewN ?_ _) | (with_reducible refine Kd.C_drew ?_))); (case side4 => exact (Kd.S_reads' HO293.out).2.1); rintro e w' ⟨rfl, ⟨nd, rfl⟩⟩))
   go_ret
   exact ⟨by first | rfl | (simp [errW_none, errW_some] <;> rfl) | (simp [*, errW_none, errW_some] <;> rfl), (belN HB.out)⟩
  ·replace c5 := Bool.eq_false_iff.mpr c5
   subst c5
   have H1 : (if t287 = 12 then ((marigraphref8_Same.f k t286 t290).bind fun t295 => (some t295)) else (some false)) = some r := by rw [if_neg (show ¬ (false = true) by decide)] at H; exact H
   clear H
   have H := H1
   clear H1
   by_cases c11 : t287 = 12
   ·rw [if_pos c11] at H
    have c11b0 : (t287 == 12) = true := beq_iff_eq.mpr c11
    have c11b1 : (t287 != 12) = false := bne_eq_false_iff_eq.mpr c11
    clear c11
    replace H := Option.bind_eq_some_iff.mp H
    obtain ⟨t295, A120, H⟩ := H
    replace H : (some t295) = some r := H
    have A12 := Aside0.mk A120
    clear A120
    obtain rfl := Option.some.inj H
    go_enter Try.func36, Try.ntmps36
    go_wp2_with (first | ((with_reducible refine gate_callee (f := 38) rfl ?_); refine goesL_ (some 9) rfl rfl Try.func38 (by kernel_rfl) rfl #[.slice A0 l0.length c0] rfl argN ?_; (with_reducible refine (frame_Entries.calls k _ _ l0 t286 t287 _ ?side1 ?side2 A2.out).mono ?_); (case side1 => repeat (first | exact HR0.out | (with_reducible refine Kd.C_alloc ?_ _) | (with_reducible refine Kd.C_drewN ?_ _) | (with_reducible refine Kd.C_drew ?_))); (case side2 => exact HC0.out); rintro e w13 ⟨v288, rfl, ho0, hb⟩; refine ⟨_, rfl, ?_⟩; have n0_ := Aside0.mk (Kd.S_lower ho0 (below_size (belN HB.out))); have n1_ := Aside0.mk (below_step (belN HB.out) hb); clear HB; have HO289 := n0_; have HB := n1_; clear n0_ n1_; (try clear hb); (try clear ho0)) | ((with_reducible refine gate_callee (f := 56) rfl ?_); refine goesL_ (some 14) rfl rfl Try.func56 (by kernel_rfl) rfl #[.slice A0 l0.length c0] rfl argN ?_; (with_reducible refine (marigraphref4_Entries.calls _ _ l0 t290 false _ ?side1 ?side2 A3.out).mono ?_); (case side1 => repeat (first | exact (Kd.C_below HR0.out HB.out) | (with_reducible refine Kd.C_alloc ?_ _) | (with_reducible refine Kd.C_drewN ?_ _) | (with_reducible refine Kd.C_drew ?_))); (case side2 => exact HC0.out); rintro e w14 ⟨v292, rfl, ho0, hb⟩; refine ⟨_, rfl, ?_⟩; have n0_ := Aside0.mk (Kd.S_elder' (by (with_reducible repeat (first | apply Kd.S_alloc | apply Kd.S_drewN | apply Kd.S_drew)); exact HO289.out) (Kd.S_base ho0) hb); have n1_ := Aside0.mk (Kd.S_lower (Kd.S_new' ho0 (Kd.S_lt (by (with_reducible repeat (first | apply Kd.S_alloc | apply Kd.S_drewN | apply Kd.S_drew)); exact HO289.out))) (below_size (belN HB.out))); have n2_ := Aside0.mk (below_step (belN HB.out) hb); clear HO289; clear HB; have HO289 := n0_; have HO293 := n1_; have HB := n2_; clear n0_ n1_ n2_; (try clear hb); (try clear ho0); obtain ⟨Ao15, co15, eo15⟩ := Kd.S_slice HO289.out; subst eo15; obtain ⟨Ao16, co16, eo16⟩ := Kd.S_slice HO293.out; subst eo16) | (go_at_call 23; (with_reducible refine (marigraphref8_Same.calls k _ _ t286 _ _ t290 t295 _ ?side1 ?side2 ?side3 ?side4 A12.out).mono ?_); (case side1 => repeat (first | exact (Kd.S_reads' HO289.out).2.2 | (with_reducible refine Kd.C_alloc ?_ _) | (with_reducible refine Kd.C_drewN ?_ _) | (with_reducible refine Kd.C_drew ?_))); (case side2 => exact (Kd.S_reads' HO289.out).2.1); (case side3 => repeat (first | exact (Kd.S_reads' HO293.out).2.2 | (with_reducible refine Kd.C_alloc ?_ _) | (with_reducible refine Kd.C_drewN ?_ _) | (with_reducible refine Kd.C_drew ?_))); (case side4 => exact (Kd.S_reads' HO293.out).2.1); rintro e w' ⟨rfl, ⟨nd, rfl⟩⟩))
    go_ret
    exact ⟨by first | rfl | (simp [errW_none, errW_some] <;> rfl) | (simp [*, errW_none, errW_some] <;> rfl), (belN HB.out)⟩
   ·rw [if_neg c11] at H
    have c11b0 : (t287 == 12) = false := beq_eq_false_iff_ne.mpr c11
    have c11b1 : (t287 != 12) = true := bne_iff_ne.mpr c11
    obtain rfl := Option.some.inj H
    go_enter Try.func36, Try.ntmps36
    go_wp2_with (first | ((with_reducible refine gate_callee (f := 38) rfl ?_); refine goesL_ (some 9) rfl rfl Try.func38 (by kernel_rfl) rfl #[.slice A0 l0.length c0] rfl argN ?_; (with_reducible refine (frame_Entries.calls k _ _ l0 t286 t287 _ ?side1 ?side2 A2.out).mono ?_); (case side1 => repeat (first | exact HR0.out | (with_reducible refine Kd.C_alloc ?_ _) | (with_reducible refine Kd.C_drewN ?_ _) | (with_reducible refine Kd.C_drew ?_))); (case side2 => exact HC0.out); rintro e w17 ⟨v288, rfl, ho0, hb⟩; refine ⟨_, rfl, ?_⟩; have n0_ := Aside0.mk (Kd.S_lower ho0 (below_size (belN HB.out))); have n1_ := Aside0.mk (below_step (belN HB.out) hb); clear HB; have HO289 := n0_; have HB := n1_; clear n0_ n1_; (try clear hb); (try clear ho0)) | ((with_reducible refine gate_callee (f := 56) rfl ?_); refine goesL_ (some 14) rfl rfl Try.func56 (by kernel_rfl) rfl #[.slice A0 l0.length c0] rfl argN ?_; (with_reducible refine (marigraphref4_Entries.calls _ _ l0 t290 false _ ?side1 ?side2 A3.out).mono ?_); (case side1 => repeat (first | exact (Kd.C_below HR0.out HB.out) | (with_reducible refine Kd.C_alloc ?_ _) | (with_reducible refine Kd.C_drewN ?_ _) | (with_reducible refine Kd.C_drew ?_))); (case side2 => exact HC0.out); rintro e w18 ⟨v292, rfl, ho0, hb⟩; refine ⟨_, rfl, ?_⟩; have n0_ := Aside0.mk (Kd.S_elder' (by (with_reducible repeat (first | apply Kd.S_alloc | apply Kd.S_drewN | apply Kd.S_drew)); exact HO289.out) (Kd.S_base ho0) hb); have n1_ := Aside0.mk (Kd.S_lower (Kd.S_new' ho0 (Kd.S_lt (by (with_reducible repeat (first | apply Kd.S_alloc | apply Kd.S_drewN | apply Kd.S_drew)); exact HO289.out))) (below_size (belN HB.out))); have n2_ := Aside0.mk (below_step (belN HB.out) hb); clear HO289; clear HB; have HO289 := n0_; have HO293 := n1_; have HB := n2_; clear n0_ n1_ n2_; (try clear hb); (try clear ho0)))
    go_ret
    exact ⟨by first | rfl | (simp [errW_none, errW_some] <;> rfl) | (simp [*, errW_none, errW_some] <;> rfl), (belN HB.out)⟩
 ·rw [if_neg c4] at H
  have c4b0 : ((t287 == 0) == t291) = false := by simpa using c4
  (try (have c4b1 : decide ((t287 == 0) = t291) = false := by simpa using c4))
  (try (have c4b2 : ((t287 == 0) == t291) = false := by simpa using c4))
  (try (have c4b3 : ¬ ((t287 == 0) = t291) := by simpa using c4))
  clear c4
  obtain rfl := Option.some.inj H
  go_enter Try.func36, Try.ntmps36
  go_wp2_with (first | ((with_reducible refine gate_callee (f := 38) rfl ?_); refine goesL_ (some 9) rfl rfl Try.func38 (by kernel_rfl) rfl #[.slice A0 l0.length c0] rfl argN ?_; (with_reducible refine (frame_Entries.calls k _ _ l0 t286 t287 _ ?side1 ?side2 A2.out).mono ?_); (case side1 => repeat (first | exact HR0.out | (with_reducible refine Kd.C_alloc ?_ _) | (with_reducible refine Kd.C_drewN ?_ _) | (with_reducible refine Kd.C_drew ?_))); (case side2 => exact HC0.out); rintro e w19 ⟨v288, rfl, ho0, hb⟩; refine ⟨_, rfl, ?_⟩; have n0_ := Aside0.mk (Kd.S_lower ho0 (below_size (belN HB.out))); have n1_ := Aside0.mk (below_step (belN HB.out) hb); clear HB; have HO289 := n0_; have HB := n1_; clear n0_ n1_; (try clear hb); (try clear ho0)) | ((with_reducible refine gate_callee (f := 56) rfl ?_); refine goesL_ (some 14) rfl rfl Try.func56 (by kernel_rfl) rfl #[.slice A0 l0.length c0] rfl argN ?_; (with_reducible refine (marigraphref4_Entries.calls _ _ l0 t290 t291 _ ?side1 ?side2 A3.out).mono ?_); (case side1 => repeat (first | exact (Kd.C_below HR0.out HB.out) | (with_reducible refine Kd.C_alloc ?_ _) | (with_reducible refine Kd.C_drewN ?_ _) | (with_reducible refine Kd.C_drew ?_))); (case side2 => exact HC0.out); rintro e w20 ⟨v292, rfl, ho0, hb⟩; refine ⟨_, rfl, ?_⟩; have n0_ := Aside0.mk (Kd.S_elder' (by (with_reducible repeat (first | apply Kd.S_alloc | apply Kd.S_drewN | apply Kd.S_drew)); exact HO289.out) (Kd.S_base ho0) hb); have n1_ := Aside0.mk (Kd.S_lower (Kd.S_new' ho0 (Kd.S_lt (by (with_reducible repeat (first | apply Kd.S_alloc | apply Kd.S_drewN | apply Kd.S_drew)); exact HO289.out))) (below_size (belN HB.out))); have n2_ := Aside0.mk (below_step (belN HB.out) hb); clear HO289; clear HB; have HO289 := n0_; have HO293 := n1_; have HB := n2_; clear n0_ n1_ n2_; (try clear hb); (try clear ho0)))
  go_ret
  exact ⟨by first | rfl | (simp [errW_none, errW_some] <;> rfl) | (simp [*, errW_none, errW_some] <;> rfl), (belN HB.out)⟩

end Go.Proofs.Ytmimfnangdabmaa.PFrameNumbers

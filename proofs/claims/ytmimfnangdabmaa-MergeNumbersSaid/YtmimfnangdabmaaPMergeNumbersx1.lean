/- The walk of the Go functions that a law reaches, told as plain functions; a program of this session has written it. No condition beyond the statement's own. -/
import Derived.Test.YtmimfnangdabmaaPMergeNumbersx0
namespace Go.Proofs.Ytmimfnangdabmaa.PMergeNumbers
open Go.RowKit Go.Proofs.YtmimfnangdabmaaW.PrintWords Go.Proofs.YtmimfnangdabmaaW.PrintLast Go.Proofs.YtmimfnangdabmaaW.PrintMore
attribute [local go_sem] max2_int min2_int max_two min_two max_three min_three max_four min_four   -- for this text's walks alone
set_option linter.unusedVariables false
set_option linter.unusedSimpArgs false

/-- A step of a region that yields in every world; one whose guard is off; one that reads what is held. -/
theorem pK {P : Program} {ops : Array Oper} {Q : Exit → Act → World → Prop} {md : Region.Mode} {S : World → Prop} {ds : List Nat} {oi : Oper} {v : Value} {fuel : Nat} {l : Array Bool} {a a' : Act} {w : World} (i : Nat) (N : Option Tmp) (l' : Array Bool) (h : wpAnyLast P md ops Q S ds fuel l' a' w)
    (hi : ops[i]? = some oi := by rfl) (hN : oi.dst = N := by rfl) (hc : anyB md ops l l' i = true := by kernel_rfl) (hQ : ∀ c a w, Q (.panic c) (a.put oi.dst v) w → Q (.panic c) a w := by exact fun _ _ _ h => h)
    (hy : Region.wanted oi (yielded ops a.tmps) = true := by rfl) (hy' : ∀ w, (execOp a.eval oi).run P w = .ok (.value v) w := by intro w'; go_simp; with_reducible rfl)
    (ha : a.put N v = a' := by simp only [Act.put, List.setIfInBounds_toArray, List.set_cons_zero, List.set_cons_succ, i64_w, i32_w]; rfl) : wpAnyLast P md ops Q S ds (fuel + 1) l a w :=
  pure_ l' hi hN hc hQ (Or.inl ⟨hy, hy'⟩) ha h
theorem uK {P : Program} {ops : Array Oper} {Q : Exit → Act → World → Prop} {md : Region.Mode} {S : World → Prop} {ds : List Nat} {oi : Oper} {fuel : Nat} {l : Array Bool} {a a' : Act} {w : World} (i : Nat) (N : Option Tmp) (l' : Array Bool) (h : wpAnyLast P md ops Q S ds fuel l' a' w)
    (hi : ops[i]? = some oi := by rfl) (hN : oi.dst = N := by rfl) (hc : anyB md ops l l' i = true := by kernel_rfl) (hQ : ∀ c a w, Q (.panic c) (a.put oi.dst undef) w → Q (.panic c) a w := by exact fun _ _ _ h => h)
    (hy : Region.wanted oi (yielded ops a.tmps) = false := by rfl)
    (ha : a.put N undef = a' := by simp only [Act.put, List.setIfInBounds_toArray, List.set_cons_zero, List.set_cons_succ, i64_w, i32_w]; rfl) : wpAnyLast P md ops Q S ds (fuel + 1) l a w :=
  pure_ l' hi hN hc hQ (Or.inr ⟨hy, rfl⟩) ha h
theorem tK {P : Program} {ops : Array Oper} {Q : Exit → Act → World → Prop} {md : Region.Mode} {S : World → Prop} {ds : List Nat} {oi : Oper} {v : Value} {fuel : Nat} {l : Array Bool} {a a' : Act} {w : World} (i : Nat) (N : Option Tmp) (l' : Array Bool) (hi : ops[i]? = some oi) (hN : oi.dst = N) (hS : S w) (hy' : ∀ w, S w → (execOp a.eval oi).run P w = .ok (.value v) w) (h : wpAnyLast P md ops Q S ds fuel l' a' w)
    (hc : takeB md ops ds l l' i = true := by kernel_rfl) (hQ : ∀ c a w, Q (.panic c) (a.put oi.dst v) w → Q (.panic c) a w := by exact fun _ _ _ h => h)
    (hy : Region.wanted oi (yielded ops a.tmps) = true := by rfl)
    (ha : a.put N v = a' := by simp only [Act.put, List.setIfInBounds_toArray, List.set_cons_zero, List.set_cons_succ, i64_w, i32_w]; rfl) : wpAnyLast P md ops Q S ds (fuel + 1) l a w :=
  take_ l' hi hN hc hQ (Or.inl ⟨hy, hy'⟩) hS ha h
theorem nK {P : Program} {ops : Array Oper} {Q : Exit → Act → World → Prop} {md : Region.Mode} {S : World → Prop} {ds : List Nat} {fuel : Nat} {l : Array Bool} {a a' : Act} {v : Value} {w : World} (N : Option Tmp) (h : wpAnyLast P md ops Q S ds fuel l a' w)
    (ha : a.put N v = a' := by simp only [Act.put, List.setIfInBounds_toArray, List.set_cons_zero, List.set_cons_succ, i64_w, i32_w]; rfl) : wpAnyLast P md ops Q S ds fuel l (a.put N v) w := norm_ ha h
theorem blk3 {w : World} {g : Nat} {t : TypeId} {x y z : Value} (h : w.heap[g]? = some (.cells #[x, y, z] t (0, 0))) : w.cell? ⟨g, 0, none⟩ = some x ∧ w.cell? ⟨g, 1, none⟩ = some y ∧ w.cell? ⟨g, 2, none⟩ = some z ∧ w.frozen? ⟨g, 0, none⟩ = false ∧ w.frozen? ⟨g, 1, none⟩ = false ∧ w.frozen? ⟨g, 2, none⟩ = false :=
  ⟨(blk_cell h 0).trans rfl, (blk_cell h 1).trans rfl, (blk_cell h 2).trans rfl, blk_frozen h 0, blk_frozen h 1, blk_frozen h 2⟩
/-! ### proofs that a long text holds many times, by their name -/
theorem blkN {p q : Prop} (h : q) (k : q → p := by intro h_; (with_reducible repeat (first | refine blk_drewN ?_ _ | refine blk_drew ?_ | refine blk_alloc ?_ _)); exact h_) : p := k h
theorem blkF {p q : Prop} (h : q) (k : q → p := by intro h_; (repeat (first | (with_reducible first | refine blk_drewN ?_ _ | refine blk_drew ?_ | refine blk_alloc ?_ _) | refine blk_far ?_ (Aside0.out (by assumption)) _)); exact h_) : p := k h
theorem blk_ne1 {W : World} {g g2 : Nat} {o : Obj} (hg : g2 = W.heap.size) (h : W.heap[g]? = some o) : g ≠ g2 := by rw [hg]; exact Nat.ne_of_lt (blk_lt h)
theorem blk_ne2 {W : World} {g g2 : Nat} {o : Obj} (hg : g2 = W.heap.size) (h : W.heap[g]? = some o) : g2 ≠ g := (blk_ne1 hg h).symm
theorem cellNe {w : World} {a : Addr} {v : Value} {n g : Nat} (h : w.cell? a = some v) (hg : w.heap.size ≤ g) (k : a.block < w.heap.size → n < w.heap.size := by intro this; first | rwa [add_block] at this | exact this) : n ≠ g := Nat.ne_of_lt (Nat.lt_of_lt_of_le (k (World.block_lt_of_cell? _ _ h)) hg)
theorem cellB {w w' : World} {a : Addr} {v : Value} (hb : Below w.heap.size w w') (h : w.cell? a = some v) : w'.cell? a = some v := (hb.cell (World.block_lt_of_cell? w _ h)).trans h
theorem argN {p : Prop} (h : p := by (try simp only [List.map_toArray, List.map_cons, List.map_nil]); first | done | rfl | (simp only [List.length_drop, List.length_take]; rfl)) : p := h
theorem belN {p q : Prop} (h : q) (k : q → p := by intro h_; repeat (first | (with_reducible first | exact h_ | apply below_alloc | apply pw_below_drewN | apply below_drew1) | exact h_)) : p := k h
theorem belS {p q : Prop} (h : q) (k : q → p := by intro h_; repeat (first | (with_reducible first | exact h_ | apply below_alloc | apply pw_below_drewN | apply below_drew1 | refine below_set ?_ (Aside0.out (by assumption))) | exact h_)) : p := k h
theorem bkB {w W w1 : World} {g : Nat} {o : Obj} (h : w.heap[g]? = some o) (hb : Below W.heap.size W w1) (k : w.heap[g]? = some o → W.heap[g]? = some o := by intro h_; (with_reducible repeat (first | refine blk_drewN ?_ _ | refine blk_drew ?_ | refine blk_alloc ?_ _)); exact h_) : w1.heap[g]? = some o := blk_below (k h) hb
theorem bkBF {w W w1 : World} {g : Nat} {o : Obj} (h : w.heap[g]? = some o) (hb : Below W.heap.size W w1) (k : w.heap[g]? = some o → W.heap[g]? = some o := by intro h_; (repeat (first | (with_reducible first | refine blk_drewN ?_ _ | refine blk_drew ?_ | refine blk_alloc ?_ _) | refine blk_far ?_ (Aside0.out (by assumption)) _)); exact h_) : w1.heap[g]? = some o := blk_below (k h) hb
theorem bk1 {w W : World} {g g2 : Nat} {o : Obj} (hg : g2 = W.heap.size) (h : w.heap[g]? = some o) (k : w.heap[g]? = some o → W.heap[g]? = some o := by intro h_; (with_reducible repeat (first | refine blk_drewN ?_ _ | refine blk_drew ?_ | refine blk_alloc ?_ _)); exact h_) : g ≠ g2 := blk_ne1 hg (k h)
theorem bk2 {w W : World} {g g2 : Nat} {o : Obj} (hg : g2 = W.heap.size) (h : w.heap[g]? = some o) (k : w.heap[g]? = some o → W.heap[g]? = some o := by intro h_; (with_reducible repeat (first | refine blk_drewN ?_ _ | refine blk_drew ?_ | refine blk_alloc ?_ _)); exact h_) : g2 ≠ g := blk_ne2 hg (k h)
theorem bk1F {w W : World} {g g2 : Nat} {o : Obj} (hg : g2 = W.heap.size) (h : w.heap[g]? = some o) (k : w.heap[g]? = some o → W.heap[g]? = some o := by intro h_; (repeat (first | (with_reducible first | refine blk_drewN ?_ _ | refine blk_drew ?_ | refine blk_alloc ?_ _) | refine blk_far ?_ (Aside0.out (by assumption)) _)); exact h_) : g ≠ g2 := blk_ne1 hg (k h)
theorem bk2F {w W : World} {g g2 : Nat} {o : Obj} (hg : g2 = W.heap.size) (h : w.heap[g]? = some o) (k : w.heap[g]? = some o → W.heap[g]? = some o := by intro h_; (repeat (first | (with_reducible first | refine blk_drewN ?_ _ | refine blk_drew ?_ | refine blk_alloc ?_ _) | refine blk_far ?_ (Aside0.out (by assumption)) _)); exact h_) : g2 ≠ g := blk_ne2 hg (k h)
theorem szB {w V W : World} {g : Nat} (hg : g = W.heap.size) (h : Below w.heap.size w V) (k : Below w.heap.size w V → Below w.heap.size w W := by intro h_; repeat (first | (with_reducible first | exact h_ | apply below_alloc | apply pw_below_drewN | apply below_drew1 | refine below_set ?_ (Aside0.out (by assumption))) | exact h_)) : w.heap.size ≤ g := by rw [hg]; exact below_size (k h)
theorem cbN {α : Type} {d : Kd α} {B : Nat} {w w0 w1 : World} {A_ : Option Addr} {n : Nat} {xs : List α} (h : d.C w0 A_ n xs) (hb : Below B w w1) (k : d.C w0 A_ n xs → d.C w A_ n xs := by intro h_; repeat (first | (with_reducible exact h_) | (with_reducible refine Kd.C_alloc ?_ _) | (with_reducible refine Kd.C_drewN ?_ _) | (with_reducible refine Kd.C_drew ?_) | exact h_)) (hB : B = w.heap.size := by rfl) : d.C w1 A_ n xs := Kd.C_below (k h) (hB ▸ hb)
/-- Which operations have come up, as a number: its bits. -/
def bA (n m : Nat) : Array Bool := ((List.range n).map fun i => m.testBit i).toArray
/-- A step that yields in every world, its side proofs told once; pU: an operation whose guard is off. -/
theorem pA {P : Program} {ops : Array Oper} {Q : Exit → Act → World → Prop} {md : Region.Mode} {S : World → Prop} {ds : List Nat} {T : Bool × List (List Nat × List Nat)} {oi : Oper} {v : Value} {fuel : Nat} {l : Array Bool} {a a' : Act} {w : World} (i : Nat) (N : Option Tmp) (l' : Array Bool) (hT : rtab md ops = T) (h : wpAnyLast P md ops Q S ds fuel l' a' w)
    (hi : ops[i]? = some oi := by rfl) (hN : oi.dst = N := by rfl) (hc : anyT T l.toList l'.toList i = true := by kernel_rfl) (hQ : ∀ c a w, Q (.panic c) (a.put oi.dst v) w → Q (.panic c) a w := by exact fun _ _ _ h => h)
    (hy : Region.wanted oi (yielded ops a.tmps) = true := by rfl) (hy' : ∀ w, (execOp a.eval oi).run P w = .ok (.value v) w := by intro w'; go_simp; with_reducible rfl)
    (ha : a.put N v = a' := by simp only [Act.put, List.setIfInBounds_toArray, List.set_cons_zero, List.set_cons_succ, i64_w, i32_w]; rfl) : wpAnyLast P md ops Q S ds (fuel + 1) l a w :=
  pure_ l' hi hN (any_of hT hc) hQ (Or.inl ⟨hy, hy'⟩) ha h
theorem pU {P : Program} {ops : Array Oper} {Q : Exit → Act → World → Prop} {md : Region.Mode} {S : World → Prop} {ds : List Nat} {T : Bool × List (List Nat × List Nat)} {oi : Oper} {fuel : Nat} {l : Array Bool} {a a' : Act} {w : World} (i : Nat) (N : Option Tmp) (l' : Array Bool) (hT : rtab md ops = T) (h : wpAnyLast P md ops Q S ds fuel l' a' w)
    (hi : ops[i]? = some oi := by rfl) (hN : oi.dst = N := by rfl) (hc : anyT T l.toList l'.toList i = true := by kernel_rfl) (hQ : ∀ c a w, Q (.panic c) (a.put oi.dst undef) w → Q (.panic c) a w := by exact fun _ _ _ h => h)
    (hy : Region.wanted oi (yielded ops a.tmps) = false := by rfl)
    (ha : a.put N undef = a' := by simp only [Act.put, List.setIfInBounds_toArray, List.set_cons_zero, List.set_cons_succ, i64_w, i32_w]; rfl) : wpAnyLast P md ops Q S ds (fuel + 1) l a w :=
  pure_ l' hi hN (any_of hT hc) hQ (Or.inr ⟨hy, rfl⟩) ha h
theorem rowN {p q : Prop} (h : q) (k : q → p := by intro h_; (with_reducible repeat (first | apply Kd.R_alloc | apply Kd.R_drewN | apply Kd.R_drew)); exact h_) : p := k h

/-! ### marigraphref8_Same: function 23 -/
def marigraphref8_Same.l0 : Nat → List (S49) → List (S49) → Int → Option (Bool)
 | 0, _, _, _ => none
 | k + 1, x0, x1, x5 => if x5 < (x0.length : Int) then (if 0 ≤ x5 then (if x5 < (x1.length : Int) then (if (strOfNums ((rd_T49 x0 x5).f0)).toList = (strOfNums ((rd_T49 x1 x5).f0)).toList then (if (((rd_T49 x0 x5).f2) != ((rd_T49 x1 x5).f2)) = true then (some false) else (if ((rd_T49 x0 x5).f2 = true) then (marigraphref8_Same.l0 k x0 x1 (wrap64 (x5 + 1))) else (if (strOfNums ((rd_T49 x0 x5).f1)).toList = (strOfNums ((rd_T49 x1 x5).f1)).toList then (marigraphref8_Same.l0 k x0 x1 (wrap64 (x5 + 1))) else (some false)))) else (some false)) else (none)) else (none)) else (some true)
def marigraphref8_Same.f (k : Nat) (l0 : List (S49)) (l1 : List (S49)) : Option (Bool) := if (l0.length : Int) = (l1.length : Int) then (marigraphref8_Same.l0 k l0 l1 0) else (some false)
theorem marigraphref8_Same.mono_l : ∀ k, (∀ y0 y1 y2, LeO (marigraphref8_Same.l0 k y0 y1 y2) (marigraphref8_Same.l0 (k + 1) y0 y1 y2))
 | 0 => fun _ _ _ r h => by simp [marigraphref8_Same.l0] at h
 | k + 1 => by
  have ih0 := marigraphref8_Same.mono_l k
  ·intro y0 y1 y2
   unfold marigraphref8_Same.l0
   repeat' first
   | (with_reducible exact ih0 _ _ _)
   | (with_reducible exact LeO.refl _)
   | (with_reducible exact LeO.none _)
   | (with_reducible refine LeO.ite ?_ ?_)
   | (with_reducible refine LeO.bind ?_ (fun _ => ?_))
   | exact ih0 _ _ _
   | exact LeO.none _
   | refine LeO.ite ?_ ?_
   | refine LeO.bind ?_ (fun _ => ?_)
theorem marigraphref8_Same.mono : ∀ a0 a1 k, LeO (marigraphref8_Same.f k a0 a1) (marigraphref8_Same.f (k + 1) a0 a1) := by
 intro a0 a1 k
 have ih0 := marigraphref8_Same.mono_l k
 unfold marigraphref8_Same.f
 repeat' first
   | (with_reducible exact ih0 _ _ _)
   | (with_reducible exact LeO.refl _)
   | (with_reducible exact LeO.none _)
   | (with_reducible refine LeO.ite ?_ ?_)
   | (with_reducible refine LeO.bind ?_ (fun _ => ?_))
   | exact ih0 _ _ _
   | exact LeO.none _
   | refine LeO.ite ?_ ?_
   | refine LeO.bind ?_ (fun _ => ?_)
set_option maxHeartbeats 8000000 in
set_option maxRecDepth 100000 in
theorem marigraphref8_Same.calls (k : Nat) (A0 : Option Addr) (c0 : Nat) (l0 : List (S49)) (A1 : Option Addr) (c1 : Nat) (l1 : List (S49)) (r : Bool) (w : World) (hr0 : Kd.C k49 w A0 l0.length l0) (hc0 : l0.length ≤ c0) (hr1 : Kd.C k49 w A1 l1.length l1) (hc1 : l1.length ≤ c1) (h : marigraphref8_Same.f k l0 l1 = some r) :
  Calls Try.prog 23 #[.slice A0 l0.length c0, .slice A1 l1.length c1] w fun e w' => e = .returned (.bool r) ∧ Drawn0 w w' := by
 have HR0 := Aside0.mk hr0
 have HC0 := Aside0.mk hc0
 clear hr0 hc0
 have HR1 := Aside0.mk hr1
 have HC1 := Aside0.mk hc1
 clear hr1 hc1
 have H : (if (l0.length : Int) = (l1.length : Int) then (marigraphref8_Same.l0 k l0 l1 0) else (some false)) = some r := h
 clear h
 by_cases c3 : (l0.length : Int) = (l1.length : Int)
 ·rw [if_pos c3] at H
  have c3b0 : ((l0.length : Int) == (l1.length : Int)) = true := beq_iff_eq.mpr c3
  have c3b1 : ((l0.length : Int) != (l1.length : Int)) = false := bne_eq_false_iff_eq.mpr c3
  have c3b2 : (l0.length == l1.length) = true := by first | simpa using c3 | (simp at c3 ⊢; omega)
  clear c3
  have H' := Aside0.mk H
  clear H
  go_enter Try.func23, Try.ntmps23
  go_wp2
  repeat (go_quiet (fail); try go_wp2)
  go_loopg [5] k (fun kq v5 w' => ∃ (x5_1 : Int), v5 = .int .i64 x5_1 ∧ Aside0 (marigraphref8_Same.l0 kq l0 l1 x5_1 = some r) ∧ Aside0 (kq ≤ k) ∧ Drawn0 w w')
  case atStart => exact ⟨(0), (by first | rfl | (simp; done) | (simp [*]; done)), H', ⟨Nat.le_refl _⟩, by repeat (first | exact Drawn0.refl _ | apply Drawn0.step)⟩
  case round =>
   clear H'
   try clear c1
   try clear c2
   try clear p2
   try clear c3
   try clear c3b0
   try clear c3b1
   try clear c3b2
   obtain ⟨x5_1, rfl, HA, HK1, ⟨m1, rfl⟩⟩ := hrel
   cases gk with
   | zero => exact absurd HA.out (by simp [marigraphref8_Same.l0])
   | succ k1 =>
    have H := HA.out
    clear HA
    simp only [marigraphref8_Same.l0] at H
    by_cases c4 : x5_1 < (l0.length : Int)
    ·rw [if_pos c4] at H
     have c4b0 : decide (x5_1 < (l0.length : Int)) = true := decide_eq_true c4
     clear c4
     by_cases c5 : 0 ≤ x5_1
     ·rw [if_pos c5] at H
      have c5b0 : decide (0 ≤ x5_1) = true := decide_eq_true c5
      clear c5
      by_cases c6 : x5_1 < (l1.length : Int)
      ·rw [if_pos c6] at H
       have c6b0 : decide (x5_1 < (l1.length : Int)) = true := decide_eq_true c6
       clear c6
       by_cases c7 : (strOfNums ((rd_T49 l0 x5_1).f0)).toList = (strOfNums ((rd_T49 l1 x5_1).f0)).toList
       ·rw [if_pos c7] at H
        have c7b0 : ((strOfNums ((rd_T49 l0 x5_1).f0)).toList == (strOfNums ((rd_T49 l1 x5_1).f0)).toList) = true := beq_iff_eq.mpr c7
        have c7b1 : ((strOfNums ((rd_T49 l0 x5_1).f0)).toList != (strOfNums ((rd_T49 l1 x5_1).f0)).toList) = false := bne_eq_false_iff_eq.mpr c7
        clear c7
        by_cases c8 : (((rd_T49 l0 x5_1).f2) != ((rd_T49 l1 x5_1).f2)) = true
        ·rw [if_pos c8] at H
         have c8b0 : (((rd_T49 l0 x5_1).f2) != ((rd_T49 l1 x5_1).f2)) = true := c8
         (try (have c8b1 : decide (((rd_T49 l0 x5_1).f2) = ((rd_T49 l1 x5_1).f2)) = false := by simpa using c8))
         (try (have c8b2 : (((rd_T49 l0 x5_1).f2) == ((rd_T49 l1 x5_1).f2)) = false := by simpa using c8))
         (try (have c8b3 : ¬ (((rd_T49 l0 x5_1).f2) = ((rd_T49 l1 x5_1).f2)) := by simpa using c8))
         clear c8
         obtain rfl := Option.some.inj H
         have p101 : 0 ≤ (x5_1 : Int) := of_decide_eq_true (by first | (with_reducible assumption) | assumption)
         have q101 : x5_1 < (l0.length : Int) := of_decide_eq_true (by first | (with_reducible assumption) | assumption)
         obtain ⟨ad101, A101_0, c101_0, A101_1, c101_1, e101, hx101_0, hx101_1, hx101_2, hl101_0, hi101_0, hl101_1, hi101_1⟩ := at_T49 HR0.out x5_1 p101 q101
         cases e101
         have HR101_0 := Aside0.mk hi101_0
         have HC101_0 := Aside0.mk hl101_0
         clear hi101_0 hl101_0
         have HR101_1 := Aside0.mk hi101_1
         have HC101_1 := Aside0.mk hl101_1
         clear hi101_1 hl101_1
         replace p101 := eq_true p101
         replace q101 := eq_true q101
         have hcv9 := Kd.C_string (P := Try.prog) (A := A101_0) (c := c101_0) Try.underlying23 Try.underlying5 Try.underlying9 HR101_0.out
         have p102 : 0 ≤ (x5_1 : Int) := of_decide_eq_true (by first | (with_reducible assumption) | assumption)
         have q102 : x5_1 < (l1.length : Int) := of_decide_eq_true (by first | (with_reducible assumption) | assumption)
         obtain ⟨ad102, A102_0, c102_0, A102_1, c102_1, e102, hx102_0, hx102_1, hx102_2, hl102_0, hi102_0, hl102_1, hi102_1⟩ := at_T49 HR1.out x5_1 p102 q102
         cases e102
         have HR102_0 := Aside0.mk hi102_0
         have HC102_0 := Aside0.mk hl102_0
         clear hi102_0 hl102_0
         have HR102_1 := Aside0.mk hi102_1
         have HC102_1 := Aside0.mk hl102_1
         clear hi102_1 hl102_1
         replace p102 := eq_true p102
         replace q102 := eq_true q102
         have hcv10 := Kd.C_string (P := Try.prog) (A := A102_0) (c := c102_0) Try.underlying23 Try.underlying5 Try.underlying9 HR102_0.out
         have p103 : 0 ≤ (x5_1 : Int) := of_decide_eq_true (by first | (with_reducible assumption) | assumption)
         have q103 : x5_1 < (l0.length : Int) := of_decide_eq_true (by first | (with_reducible assumption) | assumption)
         obtain ⟨ad103, A103_0, c103_0, A103_1, c103_1, e103, hx103_0, hx103_1, hx103_2, hl103_0, hi103_0, hl103_1, hi103_1⟩ := at_T49 HR0.out x5_1 p103 q103
         obtain rfl : ad101 = ad103 := (by injection e103)
         have HR103_0 := Aside0.mk hi103_0
         have HC103_0 := Aside0.mk hl103_0
         clear hi103_0 hl103_0
         have HR103_1 := Aside0.mk hi103_1
         have HC103_1 := Aside0.mk hl103_1
         clear hi103_1 hl103_1
         replace p103 := eq_true p103
         replace q103 := eq_true q103
         have ea_ := Option.some.inj (hx101_0.symm.trans hx103_0)
         injection ea_ with ea_ en_ ec_
         subst ea_
         subst ec_
         clear en_
         have ea_ := Option.some.inj (hx101_1.symm.trans hx103_1)
         injection ea_ with ea_ en_ ec_
         subst ea_
         subst ec_
         clear en_
         have p104 : 0 ≤ (x5_1 : Int) := of_decide_eq_true (by first | (with_reducible assumption) | assumption)
         have q104 : x5_1 < (l1.length : Int) := of_decide_eq_true (by first | (with_reducible assumption) | assumption)
         obtain ⟨ad104, A104_0, c104_0, A104_1, c104_1, e104, hx104_0, hx104_1, hx104_2, hl104_0, hi104_0, hl104_1, hi104_1⟩ := at_T49 HR1.out x5_1 p104 q104
         obtain rfl : ad102 = ad104 := (by injection e104)
         have HR104_0 := Aside0.mk hi104_0
         have HC104_0 := Aside0.mk hl104_0
         clear hi104_0 hl104_0
         have HR104_1 := Aside0.mk hi104_1
         have HC104_1 := Aside0.mk hl104_1
         clear hi104_1 hl104_1
         replace p104 := eq_true p104
         replace q104 := eq_true q104
         have ea_ := Option.some.inj (hx102_0.symm.trans hx104_0)
         injection ea_ with ea_ en_ ec_
         subst ea_
         subst ec_
         clear en_
         have ea_ := Option.some.inj (hx102_1.symm.trans hx104_1)
         injection ea_ with ea_ en_ ec_
         subst ea_
         subst ec_
         clear en_
         go_wp2
         refine start_ (n := 49) (S := fun w' => w'.cell? (ad101.add (x5_1.toNat * 3)) = some (.slice A101_0 (rd_T49 l0 x5_1).f0.length c101_0) ∧ w'.cell? ⟨(ad101.add (x5_1.toNat * 3)).block, (ad101.add (x5_1.toNat * 3)).off + 1, none⟩ = some (.slice A101_1 (rd_T49 l0 x5_1).f1.length c101_1) ∧ w'.cell? ⟨(ad101.add (x5_1.toNat * 3)).block, (ad101.add (x5_1.toNat * 3)).off + 2, none⟩ = some (.bool (rd_T49 l0 x5_1).f2) ∧ w'.cell? (ad102.add (x5_1.toNat * 3)) = some (.slice A102_0 (rd_T49 l1 x5_1).f0.length c102_0) ∧ w'.cell? ⟨(ad102.add (x5_1.toNat * 3)).block, (ad102.add (x5_1.toNat * 3)).off + 1, none⟩ = some (.slice A102_1 (rd_T49 l1 x5_1).f1.length c102_1) ∧ w'.cell? ⟨(ad102.add (x5_1.toNat * 3)).block, (ad102.add (x5_1.toNat * 3)).off + 2, none⟩ = some (.bool (rd_T49 l1 x5_1).f2) ∧ Kd.C (Kd.int .u8) w' A101_0 (rd_T49 l0 x5_1).f0.length (rd_T49 l0 x5_1).f0 ∧ Kd.C (Kd.int .u8) w' A102_0 (rd_T49 l1 x5_1).f0.length (rd_T49 l1 x5_1).f0 ∧ Kd.C (Kd.int .u8) w' A101_1 (rd_T49 l0 x5_1).f1.length (rd_T49 l0 x5_1).f1 ∧ Kd.C (Kd.int .u8) w' A102_1 (rd_T49 l1 x5_1).f1.length (rd_T49 l1 x5_1).f1) (ds := []) (bA 49 0) (by kernel_rfl) rfl rfl ⟨hx101_0, hx101_1, hx101_2, hx102_0, hx102_1, hx102_2, (by first | exact Kd.C_drewN HR101_0.out _ | exact Kd.C_drew (Kd.C_drewN HR101_0.out _) | exact Kd.C_drew HR101_0.out | exact HR101_0.out), (by first | exact Kd.C_drewN HR102_0.out _ | exact Kd.C_drew (Kd.C_drewN HR102_0.out _) | exact Kd.C_drew HR102_0.out | exact HR102_0.out), (by first | exact Kd.C_drewN HR101_1.out _ | exact Kd.C_drew (Kd.C_drewN HR101_1.out _) | exact Kd.C_drew HR101_1.out | exact HR101_1.out), (by first | exact Kd.C_drewN HR102_1.out _ | exact Kd.C_drew (Kd.C_drewN HR102_1.out _) | exact Kd.C_drew HR102_1.out | exact HR102_1.out)⟩ (fun hHeld => ?_)
         refine norm_ (by rfl) ?_
         refine pK 0 (some 17) (bA 49 1) ?_
         refine pK 1 (some 18) (bA 49 3) ?_
         refine pK 2 (some 19) (bA 49 7) ?_
         refine pK 3 (some 20) (bA 49 15) ?_
         refine tK 4 (some 21) (bA 49 31) rfl rfl hHeld (by rintro w' ⟨s0, s1, s2, s3, s4, s5, s6, s7, s8, s9⟩; go_simp; with_reducible rfl) ?_
         refine tK 5 (some 22) (bA 49 63) rfl rfl hHeld (by rintro w' ⟨s0, s1, s2, s3, s4, s5, s6, s7, s8, s9⟩; have e_ := Kd.C_string (P := Try.prog) (c := c101_0) Try.underlying23 Try.underlying5 Try.underlying9 s6; go_simp; with_reducible rfl) ?_
         refine pK 6 (some 23) (bA 49 127) ?_
         refine pK 7 (some 24) (bA 49 255) ?_
         refine pK 8 (some 25) (bA 49 511) ?_
         refine pK 9 (some 26) (bA 49 1023) ?_
         refine tK 10 (some 27) (bA 49 2047) rfl rfl hHeld (by rintro w' ⟨s0, s1, s2, s3, s4, s5, s6, s7, s8, s9⟩; go_simp; with_reducible rfl) ?_
         refine tK 11 (some 28) (bA 49 4095) rfl rfl hHeld (by rintro w' ⟨s0, s1, s2, s3, s4, s5, s6, s7, s8, s9⟩; have e_ := Kd.C_string (P := Try.prog) (c := c102_0) Try.underlying23 Try.underlying5 Try.underlying9 s7; go_simp; with_reducible rfl) ?_
         refine pK 12 (some 29) (bA 49 8191) ?_
         refine pK 13 (some 30) (bA 49 16383) ?_
         refine pK 14 (some 31) (bA 49 32767) ?_
         refine pK 15 (some 32) (bA 49 65535) ?_
         refine pK 16 (some 33) (bA 49 131071) ?_
         refine pK 17 (some 34) (bA 49 262143) ?_
         refine tK 18 (some 35) (bA 49 524287) rfl rfl hHeld (by rintro w' ⟨s0, s1, s2, s3, s4, s5, s6, s7, s8, s9⟩; go_simp; with_reducible rfl) ?_
         refine pK 19 (some 36) (bA 49 1048575) ?_
         refine pK 20 (some 37) (bA 49 2097151) ?_
         refine pK 21 (some 38) (bA 49 4194303) ?_
         refine pK 22 (some 39) (bA 49 8388607) ?_
         refine tK 23 (some 40) (bA 49 16777215) rfl rfl hHeld (by rintro w' ⟨s0, s1, s2, s3, s4, s5, s6, s7, s8, s9⟩; go_simp; with_reducible rfl) ?_
         refine pK 24 (some 41) (bA 49 33554431) ?_
         refine pK 25 (some 42) (bA 49 67108863) ?_
         refine pK 26 (some 43) (bA 49 134217727) ?_
         refine uK 27 (some 44) (bA 49 268435455) ?_
         refine uK 28 (some 45) (bA 49 536870911) ?_
         refine uK 29 (some 46) (bA 49 1073741823) ?_
         refine uK 30 (some 47) (bA 49 2147483647) ?_
         refine uK 31 (some 48) (bA 49 4294967295) ?_
         refine uK 32 (some 49) (bA 49 8589934591) ?_
         refine uK 33 (some 50) (bA 49 17179869183) ?_
         refine uK 34 (some 51) (bA 49 34359738367) ?_
         refine uK 35 (some 52) (bA 49 68719476735) ?_
         refine uK 36 (some 53) (bA 49 137438953471) ?_
         refine uK 37 (some 54) (bA 49 274877906943) ?_
         refine uK 38 (some 55) (bA 49 549755813887) ?_
         refine uK 39 (some 56) (bA 49 1099511627775) ?_
         refine uK 40 (some 57) (bA 49 2199023255551) ?_
         refine uK 41 (some 58) (bA 49 4398046511103) ?_
         refine uK 42 (some 59) (bA 49 8796093022207) ?_
         refine uK 43 (some 60) (bA 49 17592186044415) ?_
         refine uK 44 (some 61) (bA 49 35184372088831) ?_
         refine uK 45 (some 62) (bA 49 70368744177663) ?_
         refine uK 46 (some 63) (bA 49 140737488355327) ?_
         refine uK 47 (some 64) (bA 49 281474976710655) ?_
         refine pK 48 (some 65) (bA 49 562949953421311) ?_
         refine done_ (by kernel_rfl) ?_
         clear hHeld
         go_wp2
         go_ret
         exact ⟨by first | rfl | (simp; done) | (simp [*]; done), by repeat (first | exact Drawn0.refl _ | apply Drawn0.step)⟩
        ·rw [if_neg c8] at H
         have c8b0 : (((rd_T49 l0 x5_1).f2) != ((rd_T49 l1 x5_1).f2)) = false := by simpa using c8
         (try (have c8b1 : decide (((rd_T49 l0 x5_1).f2) = ((rd_T49 l1 x5_1).f2)) = true := by simpa using c8))
         (try (have c8b2 : (((rd_T49 l0 x5_1).f2) == ((rd_T49 l1 x5_1).f2)) = true := by simpa using c8))
         clear c8
         obtain ⟨bq11, hbq11⟩ : ∃ b_ : Bool, b_ = ((rd_T49 l0 x5_1).f2) := ⟨_, rfl⟩
         replace H : (if (bq11 = true) then (marigraphref8_Same.l0 k1 l0 l1 (wrap64 (x5_1 + 1))) else (if (strOfNums ((rd_T49 l0 x5_1).f1)).toList = (strOfNums ((rd_T49 l1 x5_1).f1)).toList then (marigraphref8_Same.l0 k1 l0 l1 (wrap64 (x5_1 + 1))) else (some false))) = some r := by rw [← hbq11] at H; exact H
         have Nbq11 := Aside0.mk hbq11
         clear hbq11
         by_cases c12 : (bq11 = true)
         ·subst c12
          have H1 : (marigraphref8_Same.l0 k1 l0 l1 (wrap64 (x5_1 + 1))) = some r := by rw [if_pos rfl] at H; exact H
          clear H
          have H := H1
          clear H1
          have H' := Aside0.mk H
          clear H
          have p101 : 0 ≤ (x5_1 : Int) := of_decide_eq_true (by first | (with_reducible assumption) | assumption)
          have q101 : x5_1 < (l0.length : Int) := of_decide_eq_true (by first | (with_reducible assumption) | assumption)
          obtain ⟨ad101, A101_0, c101_0, A101_1, c101_1, e101, hx101_0, hx101_1, hx101_2, hl101_0, hi101_0, hl101_1, hi101_1⟩ := at_T49 HR0.out x5_1 p101 q101
          (try rw [← Nbq11.out] at hx101_2)
          cases e101
          have HR101_0 := Aside0.mk hi101_0
          have HC101_0 := Aside0.mk hl101_0
          clear hi101_0 hl101_0
          have HR101_1 := Aside0.mk hi101_1
          have HC101_1 := Aside0.mk hl101_1
          clear hi101_1 hl101_1
          replace p101 := eq_true p101
          replace q101 := eq_true q101
          have hcv13 := Kd.C_string (P := Try.prog) (A := A101_0) (c := c101_0) Try.underlying23 Try.underlying5 Try.underlying9 HR101_0.out
          have p102 : 0 ≤ (x5_1 : Int) := of_decide_eq_true (by first | (with_reducible assumption) | assumption)
          have q102 : x5_1 < (l1.length : Int) := of_decide_eq_true (by first | (with_reducible assumption) | assumption)
          obtain ⟨ad102, A102_0, c102_0, A102_1, c102_1, e102, hx102_0, hx102_1, hx102_2, hl102_0, hi102_0, hl102_1, hi102_1⟩ := at_T49 HR1.out x5_1 p102 q102
          (try rw [← Nbq11.out] at hx102_2)
          cases e102
          have HR102_0 := Aside0.mk hi102_0
          have HC102_0 := Aside0.mk hl102_0
          clear hi102_0 hl102_0
          have HR102_1 := Aside0.mk hi102_1
          have HC102_1 := Aside0.mk hl102_1
          clear hi102_1 hl102_1
          replace p102 := eq_true p102
          replace q102 := eq_true q102
          have hcv14 := Kd.C_string (P := Try.prog) (A := A102_0) (c := c102_0) Try.underlying23 Try.underlying5 Try.underlying9 HR102_0.out
          have p103 : 0 ≤ (x5_1 : Int) := of_decide_eq_true (by first | (with_reducible assumption) | assumption)
          have q103 : x5_1 < (l0.length : Int) := of_decide_eq_true (by first | (with_reducible assumption) | assumption)
          obtain ⟨ad103, A103_0, c103_0, A103_1, c103_1, e103, hx103_0, hx103_1, hx103_2, hl103_0, hi103_0, hl103_1, hi103_1⟩ := at_T49 HR0.out x5_1 p103 q103
          (try rw [← Nbq11.out] at hx103_2)
          obtain rfl : ad101 = ad103 := (by injection e103)
          have HR103_0 := Aside0.mk hi103_0
          have HC103_0 := Aside0.mk hl103_0
          clear hi103_0 hl103_0
          have HR103_1 := Aside0.mk hi103_1
          have HC103_1 := Aside0.mk hl103_1
          clear hi103_1 hl103_1
          replace p103 := eq_true p103
          replace q103 := eq_true q103
          have ea_ := Option.some.inj (hx101_0.symm.trans hx103_0)
          injection ea_ with ea_ en_ ec_
          subst ea_
          subst ec_
          clear en_
          have ea_ := Option.some.inj (hx101_1.symm.trans hx103_1)
          injection ea_ with ea_ en_ ec_
          subst ea_
          subst ec_
          clear en_
          have p104 : 0 ≤ (x5_1 : Int) := of_decide_eq_true (by first | (with_reducible assumption) | assumption)
          have q104 : x5_1 < (l1.length : Int) := of_decide_eq_true (by first | (with_reducible assumption) | assumption)
          obtain ⟨ad104, A104_0, c104_0, A104_1, c104_1, e104, hx104_0, hx104_1, hx104_2, hl104_0, hi104_0, hl104_1, hi104_1⟩ := at_T49 HR1.out x5_1 p104 q104
          (try rw [← Nbq11.out] at hx104_2)
          obtain rfl : ad102 = ad104 := (by injection e104)
          have HR104_0 := Aside0.mk hi104_0
          have HC104_0 := Aside0.mk hl104_0
          clear hi104_0 hl104_0
          have HR104_1 := Aside0.mk hi104_1
          have HC104_1 := Aside0.mk hl104_1
          clear hi104_1 hl104_1
          replace p104 := eq_true p104
          replace q104 := eq_true q104
          have ea_ := Option.some.inj (hx102_0.symm.trans hx104_0)
          injection ea_ with ea_ en_ ec_
          subst ea_
          subst ec_
          clear en_
          have ea_ := Option.some.inj (hx102_1.symm.trans hx104_1)
          injection ea_ with ea_ en_ ec_
          subst ea_
          subst ec_
          clear en_
          have p105 : 0 ≤ (x5_1 : Int) := of_decide_eq_true (by first | (with_reducible assumption) | assumption)
          have q105 : x5_1 < (l0.length : Int) := of_decide_eq_true (by first | (with_reducible assumption) | assumption)
          obtain ⟨ad105, A105_0, c105_0, A105_1, c105_1, e105, hx105_0, hx105_1, hx105_2, hl105_0, hi105_0, hl105_1, hi105_1⟩ := at_T49 HR0.out x5_1 p105 q105
          (try rw [← Nbq11.out] at hx105_2)
          obtain rfl : ad101 = ad105 := (by injection e105)
          have HR105_0 := Aside0.mk hi105_0
          have HC105_0 := Aside0.mk hl105_0
          clear hi105_0 hl105_0
          have HR105_1 := Aside0.mk hi105_1
          have HC105_1 := Aside0.mk hl105_1
          clear hi105_1 hl105_1
          replace p105 := eq_true p105
          replace q105 := eq_true q105
          have ea_ := Option.some.inj (hx101_0.symm.trans hx105_0)
          injection ea_ with ea_ en_ ec_
          subst ea_
          subst ec_
          clear en_
          have ea_ := Option.some.inj (hx101_1.symm.trans hx105_1)
          injection ea_ with ea_ en_ ec_
          subst ea_
          subst ec_
          clear en_
          go_wp2
          have c8z := c8b0
          rw [← Nbq11.out] at c8z
          have hz_ : (rd_T49 l1 x5_1).f2 = true := by simpa using c8z
          clear c8z
          have hxz_ := hx102_2
          rw [hz_] at hxz_
          clear hz_
          refine start_ (n := 49) (S := fun w' => w'.cell? (ad101.add (x5_1.toNat * 3)) = some (.slice A101_0 (rd_T49 l0 x5_1).f0.length c101_0) ∧ w'.cell? ⟨(ad101.add (x5_1.toNat * 3)).block, (ad101.add (x5_1.toNat * 3)).off + 1, none⟩ = some (.slice A101_1 (rd_T49 l0 x5_1).f1.length c101_1) ∧ w'.cell? ⟨(ad101.add (x5_1.toNat * 3)).block, (ad101.add (x5_1.toNat * 3)).off + 2, none⟩ = some (.bool true) ∧ w'.cell? (ad102.add (x5_1.toNat * 3)) = some (.slice A102_0 (rd_T49 l1 x5_1).f0.length c102_0) ∧ w'.cell? ⟨(ad102.add (x5_1.toNat * 3)).block, (ad102.add (x5_1.toNat * 3)).off + 1, none⟩ = some (.slice A102_1 (rd_T49 l1 x5_1).f1.length c102_1) ∧ w'.cell? ⟨(ad102.add (x5_1.toNat * 3)).block, (ad102.add (x5_1.toNat * 3)).off + 2, none⟩ = some (.bool true) ∧ Kd.C (Kd.int .u8) w' A101_0 (rd_T49 l0 x5_1).f0.length (rd_T49 l0 x5_1).f0 ∧ Kd.C (Kd.int .u8) w' A102_0 (rd_T49 l1 x5_1).f0.length (rd_T49 l1 x5_1).f0 ∧ Kd.C (Kd.int .u8) w' A101_1 (rd_T49 l0 x5_1).f1.length (rd_T49 l0 x5_1).f1 ∧ Kd.C (Kd.int .u8) w' A102_1 (rd_T49 l1 x5_1).f1.length (rd_T49 l1 x5_1).f1) (ds := []) (bA 49 0) (by kernel_rfl) rfl rfl ⟨hx101_0, hx101_1, hx101_2, hx102_0, hx102_1, hxz_, (by first | exact Kd.C_drewN HR101_0.out _ | exact Kd.C_drew (Kd.C_drewN HR101_0.out _) | exact Kd.C_drew HR101_0.out | exact HR101_0.out), (by first | exact Kd.C_drewN HR102_0.out _ | exact Kd.C_drew (Kd.C_drewN HR102_0.out _) | exact Kd.C_drew HR102_0.out | exact HR102_0.out), (by first | exact Kd.C_drewN HR101_1.out _ | exact Kd.C_drew (Kd.C_drewN HR101_1.out _) | exact Kd.C_drew HR101_1.out | exact HR101_1.out), (by first | exact Kd.C_drewN HR102_1.out _ | exact Kd.C_drew (Kd.C_drewN HR102_1.out _) | exact Kd.C_drew HR102_1.out | exact HR102_1.out)⟩ (fun hHeld => ?_)
          refine norm_ (by rfl) ?_
          refine pK 0 (some 17) (bA 49 1) ?_
          refine pK 1 (some 18) (bA 49 3) ?_
          refine pK 2 (some 19) (bA 49 7) ?_
          refine pK 3 (some 20) (bA 49 15) ?_
          refine tK 4 (some 21) (bA 49 31) rfl rfl hHeld (by rintro w' ⟨s0, s1, s2, s3, s4, s5, s6, s7, s8, s9⟩; go_simp; with_reducible rfl) ?_
          refine tK 5 (some 22) (bA 49 63) rfl rfl hHeld (by rintro w' ⟨s0, s1, s2, s3, s4, s5, s6, s7, s8, s9⟩; have e_ := Kd.C_string (P := Try.prog) (c := c101_0) Try.underlying23 Try.underlying5 Try.underlying9 s6; go_simp; with_reducible rfl) ?_
          refine pK 6 (some 23) (bA 49 127) ?_
          refine pK 7 (some 24) (bA 49 255) ?_
          refine pK 8 (some 25) (bA 49 511) ?_
          refine pK 9 (some 26) (bA 49 1023) ?_
          refine tK 10 (some 27) (bA 49 2047) rfl rfl hHeld (by rintro w' ⟨s0, s1, s2, s3, s4, s5, s6, s7, s8, s9⟩; go_simp; with_reducible rfl) ?_
          refine tK 11 (some 28) (bA 49 4095) rfl rfl hHeld (by rintro w' ⟨s0, s1, s2, s3, s4, s5, s6, s7, s8, s9⟩; have e_ := Kd.C_string (P := Try.prog) (c := c102_0) Try.underlying23 Try.underlying5 Try.underlying9 s7; go_simp; with_reducible rfl) ?_
          refine pK 12 (some 29) (bA 49 8191) ?_
          refine pK 13 (some 30) (bA 49 16383) ?_
          refine pK 14 (some 31) (bA 49 32767) ?_
          refine pK 15 (some 32) (bA 49 65535) ?_
          refine pK 16 (some 33) (bA 49 131071) ?_
          refine pK 17 (some 34) (bA 49 262143) ?_
          refine tK 18 (some 35) (bA 49 524287) rfl rfl hHeld (by rintro w' ⟨s0, s1, s2, s3, s4, s5, s6, s7, s8, s9⟩; go_simp; with_reducible rfl) ?_
          refine pK 19 (some 36) (bA 49 1048575) ?_
          refine pK 20 (some 37) (bA 49 2097151) ?_
          refine pK 21 (some 38) (bA 49 4194303) ?_
          refine pK 22 (some 39) (bA 49 8388607) ?_
          refine tK 23 (some 40) (bA 49 16777215) rfl rfl hHeld (by rintro w' ⟨s0, s1, s2, s3, s4, s5, s6, s7, s8, s9⟩; go_simp; with_reducible rfl) ?_
          refine pK 24 (some 41) (bA 49 33554431) ?_
          refine pK 25 (some 42) (bA 49 67108863) ?_
          refine pK 26 (some 43) (bA 49 134217727) ?_
          refine pK 27 (some 44) (bA 49 268435455) ?_
          refine pK 28 (some 45) (bA 49 536870911) ?_
          refine pK 29 (some 46) (bA 49 1073741823) ?_
          refine pK 30 (some 47) (bA 49 2147483647) ?_
          refine tK 31 (some 48) (bA 49 4294967295) rfl rfl hHeld (by rintro w' ⟨s0, s1, s2, s3, s4, s5, s6, s7, s8, s9⟩; go_simp; with_reducible rfl) ?_
          refine pK 32 (some 49) (bA 49 8589934591) ?_
          refine pK 33 (some 50) (bA 49 17179869183) ?_
          refine uK 34 (some 51) (bA 49 34359738367) ?_
          refine uK 35 (some 52) (bA 49 68719476735) ?_
          refine uK 36 (some 53) (bA 49 137438953471) ?_
          refine uK 37 (some 54) (bA 49 274877906943) ?_
          refine uK 38 (some 55) (bA 49 549755813887) ?_
          refine uK 39 (some 56) (bA 49 1099511627775) ?_
          refine uK 40 (some 57) (bA 49 2199023255551) ?_
          refine uK 41 (some 58) (bA 49 4398046511103) ?_
          refine uK 42 (some 59) (bA 49 8796093022207) ?_
          refine uK 43 (some 60) (bA 49 17592186044415) ?_
          refine uK 44 (some 61) (bA 49 35184372088831) ?_
          refine uK 45 (some 62) (bA 49 70368744177663) ?_
          refine uK 46 (some 63) (bA 49 140737488355327) ?_
          refine pK 47 (some 64) (bA 49 281474976710655) ?_
          refine pK 48 (some 65) (bA 49 562949953421311) ?_
          refine done_ (by kernel_rfl) ?_
          clear hHeld
          go_wp2
          go_roundg k1
          case measure => have := HK1.out; omega
          case rel => exact ⟨(wrap64 (x5_1 + 1)), (by first | rfl | (simp; done) | (simp [*]; done)), H', ⟨by have := HK1.out; omega⟩, by repeat (first | exact Drawn0.refl _ | apply Drawn0.step)⟩
         ·replace c12 := Bool.eq_false_iff.mpr c12
          subst c12
          have H1 : (if (strOfNums ((rd_T49 l0 x5_1).f1)).toList = (strOfNums ((rd_T49 l1 x5_1).f1)).toList then (marigraphref8_Same.l0 k1 l0 l1 (wrap64 (x5_1 + 1))) else (some false)) = some r := by rw [if_neg (show ¬ (false = true) by decide)] at H; exact H
          clear H
          have H := H1
          clear H1
          by_cases c15 : (strOfNums ((rd_T49 l0 x5_1).f1)).toList = (strOfNums ((rd_T49 l1 x5_1).f1)).toList
          ·rw [if_pos c15] at H
           have c15b0 : ((strOfNums ((rd_T49 l0 x5_1).f1)).toList == (strOfNums ((rd_T49 l1 x5_1).f1)).toList) = true := beq_iff_eq.mpr c15
           have c15b1 : ((strOfNums ((rd_T49 l0 x5_1).f1)).toList != (strOfNums ((rd_T49 l1 x5_1).f1)).toList) = false := bne_eq_false_iff_eq.mpr c15
           clear c15
           have H' := Aside0.mk H
           clear H
           have p101 : 0 ≤ (x5_1 : Int) := of_decide_eq_true (by first | (with_reducible assumption) | assumption)
           have q101 : x5_1 < (l0.length : Int) := of_decide_eq_true (by first | (with_reducible assumption) | assumption)
           obtain ⟨ad101, A101_0, c101_0, A101_1, c101_1, e101, hx101_0, hx101_1, hx101_2, hl101_0, hi101_0, hl101_1, hi101_1⟩ := at_T49 HR0.out x5_1 p101 q101
           (try rw [← Nbq11.out] at hx101_2)
           cases e101
           have HR101_0 := Aside0.mk hi101_0
           have HC101_0 := Aside0.mk hl101_0
           clear hi101_0 hl101_0
           have HR101_1 := Aside0.mk hi101_1
           have HC101_1 := Aside0.mk hl101_1
           clear hi101_1 hl101_1
           replace p101 := eq_true p101
           replace q101 := eq_true q101
           have hcv16 := Kd.C_string (P := Try.prog) (A := A101_0) (c := c101_0) Try.underlying23 Try.underlying5 Try.underlying9 HR101_0.out
           have p102 : 0 ≤ (x5_1 : Int) := of_decide_eq_true (by first | (with_reducible assumption) | assumption)
           have q102 : x5_1 < (l1.length : Int) := of_decide_eq_true (by first | (with_reducible assumption) | assumption)
           obtain ⟨ad102, A102_0, c102_0, A102_1, c102_1, e102, hx102_0, hx102_1, hx102_2, hl102_0, hi102_0, hl102_1, hi102_1⟩ := at_T49 HR1.out x5_1 p102 q102
           (try rw [← Nbq11.out] at hx102_2)
           cases e102
           have HR102_0 := Aside0.mk hi102_0
           have HC102_0 := Aside0.mk hl102_0
           clear hi102_0 hl102_0
           have HR102_1 := Aside0.mk hi102_1
           have HC102_1 := Aside0.mk hl102_1
           clear hi102_1 hl102_1
           replace p102 := eq_true p102
           replace q102 := eq_true q102
           have hcv17 := Kd.C_string (P := Try.prog) (A := A102_0) (c := c102_0) Try.underlying23 Try.underlying5 Try.underlying9 HR102_0.out
           have p103 : 0 ≤ (x5_1 : Int) := of_decide_eq_true (by first | (with_reducible assumption) | assumption)
           have q103 : x5_1 < (l0.length : Int) := of_decide_eq_true (by first | (with_reducible assumption) | assumption)
           obtain ⟨ad103, A103_0, c103_0, A103_1, c103_1, e103, hx103_0, hx103_1, hx103_2, hl103_0, hi103_0, hl103_1, hi103_1⟩ := at_T49 HR0.out x5_1 p103 q103
           (try rw [← Nbq11.out] at hx103_2)
           obtain rfl : ad101 = ad103 := (by injection e103)
           have HR103_0 := Aside0.mk hi103_0
           have HC103_0 := Aside0.mk hl103_0
           clear hi103_0 hl103_0
           have HR103_1 := Aside0.mk hi103_1
           have HC103_1 := Aside0.mk hl103_1
           clear hi103_1 hl103_1
           replace p103 := eq_true p103
           replace q103 := eq_true q103
           have ea_ := Option.some.inj (hx101_0.symm.trans hx103_0)
           injection ea_ with ea_ en_ ec_
           subst ea_
           subst ec_
           clear en_
           have ea_ := Option.some.inj (hx101_1.symm.trans hx103_1)
           injection ea_ with ea_ en_ ec_
           subst ea_
           subst ec_
           clear en_
           have p104 : 0 ≤ (x5_1 : Int) := of_decide_eq_true (by first | (with_reducible assumption) | assumption)
           have q104 : x5_1 < (l1.length : Int) := of_decide_eq_true (by first | (with_reducible assumption) | assumption)
           obtain ⟨ad104, A104_0, c104_0, A104_1, c104_1, e104, hx104_0, hx104_1, hx104_2, hl104_0, hi104_0, hl104_1, hi104_1⟩ := at_T49 HR1.out x5_1 p104 q104
           (try rw [← Nbq11.out] at hx104_2)
           obtain rfl : ad102 = ad104 := (by injection e104)
           have HR104_0 := Aside0.mk hi104_0
           have HC104_0 := Aside0.mk hl104_0
           clear hi104_0 hl104_0
           have HR104_1 := Aside0.mk hi104_1
           have HC104_1 := Aside0.mk hl104_1
           clear hi104_1 hl104_1
           replace p104 := eq_true p104
           replace q104 := eq_true q104
           have ea_ := Option.some.inj (hx102_0.symm.trans hx104_0)
           injection ea_ with ea_ en_ ec_
           subst ea_
           subst ec_
           clear en_
           have ea_ := Option.some.inj (hx102_1.symm.trans hx104_1)
           injection ea_ with ea_ en_ ec_
           subst ea_
           subst ec_
           clear en_
           have p105 : 0 ≤ (x5_1 : Int) := of_decide_eq_true (by first | (with_reducible assumption) | assumption)
           have q105 : x5_1 < (l0.length : Int) := of_decide_eq_true (by first | (with_reducible assumption) | assumption)
           obtain ⟨ad105, A105_0, c105_0, A105_1, c105_1, e105, hx105_0, hx105_1, hx105_2, hl105_0, hi105_0, hl105_1, hi105_1⟩ := at_T49 HR0.out x5_1 p105 q105
           (try rw [← Nbq11.out] at hx105_2)
           obtain rfl : ad101 = ad105 := (by injection e105)
           have HR105_0 := Aside0.mk hi105_0
           have HC105_0 := Aside0.mk hl105_0
           clear hi105_0 hl105_0
           have HR105_1 := Aside0.mk hi105_1
           have HC105_1 := Aside0.mk hl105_1
           clear hi105_1 hl105_1
           replace p105 := eq_true p105
           replace q105 := eq_true q105
           have ea_ := Option.some.inj (hx101_0.symm.trans hx105_0)
           injection ea_ with ea_ en_ ec_
           subst ea_
           subst ec_
           clear en_
           have ea_ := Option.some.inj (hx101_1.symm.trans hx105_1)
           injection ea_ with ea_ en_ ec_
           subst ea_
           subst ec_
           clear en_
           have p106 : 0 ≤ (x5_1 : Int) := of_decide_eq_true (by first | (with_reducible assumption) | assumption)
           have q106 : x5_1 < (l0.length : Int) := of_decide_eq_true (by first | (with_reducible assumption) | assumption)
           obtain ⟨ad106, A106_0, c106_0, A106_1, c106_1, e106, hx106_0, hx106_1, hx106_2, hl106_0, hi106_0, hl106_1, hi106_1⟩ := at_T49 HR0.out x5_1 p106 q106
           (try rw [← Nbq11.out] at hx106_2)
           obtain rfl : ad101 = ad106 := (by injection e106)
           have HR106_0 := Aside0.mk hi106_0
           have HC106_0 := Aside0.mk hl106_0
           clear hi106_0 hl106_0
           have HR106_1 := Aside0.mk hi106_1
           have HC106_1 := Aside0.mk hl106_1
           clear hi106_1 hl106_1
           replace p106 := eq_true p106
           replace q106 := eq_true q106
           have ea_ := Option.some.inj (hx101_0.symm.trans hx106_0)
           injection ea_ with ea_ en_ ec_
           subst ea_
           subst ec_
           clear en_
           have ea_ := Option.some.inj (hx101_1.symm.trans hx106_1)
           injection ea_ with ea_ en_ ec_
           subst ea_
           subst ec_
           clear en_
           have hcv18 := Kd.C_string (P := Try.prog) (A := A101_1) (c := c101_1) Try.underlying23 Try.underlying5 Try.underlying9 HR106_1.out
           have p107 : 0 ≤ (x5_1 : Int) := of_decide_eq_true (by first | (with_reducible assumption) | assumption)
           have q107 : x5_1 < (l1.length : Int) := of_decide_eq_true (by first | (with_reducible assumption) | assumption)
           obtain ⟨ad107, A107_0, c107_0, A107_1, c107_1, e107, hx107_0, hx107_1, hx107_2, hl107_0, hi107_0, hl107_1, hi107_1⟩ := at_T49 HR1.out x5_1 p107 q107
           (try rw [← Nbq11.out] at hx107_2)
           obtain rfl : ad102 = ad107 := (by injection e107)
           have HR107_0 := Aside0.mk hi107_0
           have HC107_0 := Aside0.mk hl107_0
           clear hi107_0 hl107_0
           have HR107_1 := Aside0.mk hi107_1
           have HC107_1 := Aside0.mk hl107_1
           clear hi107_1 hl107_1
           replace p107 := eq_true p107
           replace q107 := eq_true q107
           have ea_ := Option.some.inj (hx102_0.symm.trans hx107_0)
           injection ea_ with ea_ en_ ec_
           subst ea_
           subst ec_
           clear en_
           have ea_ := Option.some.inj (hx102_1.symm.trans hx107_1)
           injection ea_ with ea_ en_ ec_
           subst ea_
           subst ec_
           clear en_
           have hcv19 := Kd.C_string (P := Try.prog) (A := A102_1) (c := c102_1) Try.underlying23 Try.underlying5 Try.underlying9 HR107_1.out
           go_wp2
           have c8z := c8b0
           rw [← Nbq11.out] at c8z
           have hz_ : (rd_T49 l1 x5_1).f2 = false := by simpa using c8z
           clear c8z
           have hxz_ := hx102_2
           rw [hz_] at hxz_
           clear hz_
           refine start_ (n := 49) (S := fun w' => w'.cell? (ad101.add (x5_1.toNat * 3)) = some (.slice A101_0 (rd_T49 l0 x5_1).f0.length c101_0) ∧ w'.cell? ⟨(ad101.add (x5_1.toNat * 3)).block, (ad101.add (x5_1.toNat * 3)).off + 1, none⟩ = some (.slice A101_1 (rd_T49 l0 x5_1).f1.length c101_1) ∧ w'.cell? ⟨(ad101.add (x5_1.toNat * 3)).block, (ad101.add (x5_1.toNat * 3)).off + 2, none⟩ = some (.bool false) ∧ w'.cell? (ad102.add (x5_1.toNat * 3)) = some (.slice A102_0 (rd_T49 l1 x5_1).f0.length c102_0) ∧ w'.cell? ⟨(ad102.add (x5_1.toNat * 3)).block, (ad102.add (x5_1.toNat * 3)).off + 1, none⟩ = some (.slice A102_1 (rd_T49 l1 x5_1).f1.length c102_1) ∧ w'.cell? ⟨(ad102.add (x5_1.toNat * 3)).block, (ad102.add (x5_1.toNat * 3)).off + 2, none⟩ = some (.bool false) ∧ Kd.C (Kd.int .u8) w' A101_0 (rd_T49 l0 x5_1).f0.length (rd_T49 l0 x5_1).f0 ∧ Kd.C (Kd.int .u8) w' A102_0 (rd_T49 l1 x5_1).f0.length (rd_T49 l1 x5_1).f0 ∧ Kd.C (Kd.int .u8) w' A101_1 (rd_T49 l0 x5_1).f1.length (rd_T49 l0 x5_1).f1 ∧ Kd.C (Kd.int .u8) w' A102_1 (rd_T49 l1 x5_1).f1.length (rd_T49 l1 x5_1).f1) (ds := []) (bA 49 0) (by kernel_rfl) rfl rfl ⟨hx101_0, hx101_1, hx101_2, hx102_0, hx102_1, hxz_, (by first | exact Kd.C_drewN HR101_0.out _ | exact Kd.C_drew (Kd.C_drewN HR101_0.out _) | exact Kd.C_drew HR101_0.out | exact HR101_0.out), (by first | exact Kd.C_drewN HR102_0.out _ | exact Kd.C_drew (Kd.C_drewN HR102_0.out _) | exact Kd.C_drew HR102_0.out | exact HR102_0.out), (by first | exact Kd.C_drewN HR101_1.out _ | exact Kd.C_drew (Kd.C_drewN HR101_1.out _) | exact Kd.C_drew HR101_1.out | exact HR101_1.out), (by first | exact Kd.C_drewN HR102_1.out _ | exact Kd.C_drew (Kd.C_drewN HR102_1.out _) | exact Kd.C_drew HR102_1.out | exact HR102_1.out)⟩ (fun hHeld => ?_)
           refine norm_ (by rfl) ?_
           refine pK 0 (some 17) (bA 49 1) ?_
           refine pK 1 (some 18) (bA 49 3) ?_
           refine pK 2 (some 19) (bA 49 7) ?_
           refine pK 3 (some 20) (bA 49 15) ?_
           refine tK 4 (some 21) (bA 49 31) rfl rfl hHeld (by rintro w' ⟨s0, s1, s2, s3, s4, s5, s6, s7, s8, s9⟩; go_simp; with_reducible rfl) ?_
           refine tK 5 (some 22) (bA 49 63) rfl rfl hHeld (by rintro w' ⟨s0, s1, s2, s3, s4, s5, s6, s7, s8, s9⟩; have e_ := Kd.C_string (P := Try.prog) (c := c101_0) Try.underlying23 Try.underlying5 Try.underlying9 s6; go_simp; with_reducible rfl) ?_
           refine pK 6 (some 23) (bA 49 127) ?_
           refine pK 7 (some 24) (bA 49 255) ?_
           refine pK 8 (some 25) (bA 49 511) ?_
           refine pK 9 (some 26) (bA 49 1023) ?_
           refine tK 10 (some 27) (bA 49 2047) rfl rfl hHeld (by rintro w' ⟨s0, s1, s2, s3, s4, s5, s6, s7, s8, s9⟩; go_simp; with_reducible rfl) ?_
           refine tK 11 (some 28) (bA 49 4095) rfl rfl hHeld (by rintro w' ⟨s0, s1, s2, s3, s4, s5, s6, s7, s8, s9⟩; have e_ := Kd.C_string (P := Try.prog) (c := c102_0) Try.underlying23 Try.underlying5 Try.underlying9 s7; go_simp; with_reducible rfl) ?_
           refine pK 12 (some 29) (bA 49 8191) ?_
           refine pK 13 (some 30) (bA 49 16383) ?_
           refine pK 14 (some 31) (bA 49 32767) ?_
           refine pK 15 (some 32) (bA 49 65535) ?_
           refine pK 16 (some 33) (bA 49 131071) ?_
           refine pK 17 (some 34) (bA 49 262143) ?_
           refine tK 18 (some 35) (bA 49 524287) rfl rfl hHeld (by rintro w' ⟨s0, s1, s2, s3, s4, s5, s6, s7, s8, s9⟩; go_simp; with_reducible rfl) ?_
           refine pK 19 (some 36) (bA 49 1048575) ?_
           refine pK 20 (some 37) (bA 49 2097151) ?_
           refine pK 21 (some 38) (bA 49 4194303) ?_
           refine pK 22 (some 39) (bA 49 8388607) ?_
           refine tK 23 (some 40) (bA 49 16777215) rfl rfl hHeld (by rintro w' ⟨s0, s1, s2, s3, s4, s5, s6, s7, s8, s9⟩; go_simp; with_reducible rfl) ?_
           refine pK 24 (some 41) (bA 49 33554431) ?_
           refine pK 25 (some 42) (bA 49 67108863) ?_
           refine pK 26 (some 43) (bA 49 134217727) ?_
           refine pK 27 (some 44) (bA 49 268435455) ?_
           refine pK 28 (some 45) (bA 49 536870911) ?_
           refine pK 29 (some 46) (bA 49 1073741823) ?_
           refine pK 30 (some 47) (bA 49 2147483647) ?_
           refine tK 31 (some 48) (bA 49 4294967295) rfl rfl hHeld (by rintro w' ⟨s0, s1, s2, s3, s4, s5, s6, s7, s8, s9⟩; go_simp; with_reducible rfl) ?_
           refine pK 32 (some 49) (bA 49 8589934591) ?_
           refine pK 33 (some 50) (bA 49 17179869183) ?_
           refine pK 34 (some 51) (bA 49 34359738367) ?_
           refine pK 35 (some 52) (bA 49 68719476735) ?_
           refine pK 36 (some 53) (bA 49 137438953471) ?_
           refine pK 37 (some 54) (bA 49 274877906943) ?_
           refine tK 38 (some 55) (bA 49 549755813887) rfl rfl hHeld (by rintro w' ⟨s0, s1, s2, s3, s4, s5, s6, s7, s8, s9⟩; go_simp; with_reducible rfl) ?_
           refine tK 39 (some 56) (bA 49 1099511627775) rfl rfl hHeld (by rintro w' ⟨s0, s1, s2, s3, s4, s5, s6, s7, s8, s9⟩; have e_ := Kd.C_string (P := Try.prog) (c := c101_1) Try.underlying23 Try.underlying5 Try.underlying9 s8; go_simp; with_reducible rfl) ?_
           refine pK 40 (some 57) (bA 49 2199023255551) ?_
           refine pK 41 (some 58) (bA 49 4398046511103) ?_
           refine pK 42 (some 59) (bA 49 8796093022207) ?_
           refine pK 43 (some 60) (bA 49 17592186044415) ?_
           refine tK 44 (some 61) (bA 49 35184372088831) rfl rfl hHeld (by rintro w' ⟨s0, s1, s2, s3, s4, s5, s6, s7, s8, s9⟩; go_simp; with_reducible rfl) ?_
           refine tK 45 (some 62) (bA 49 70368744177663) rfl rfl hHeld (by rintro w' ⟨s0, s1, s2, s3, s4, s5, s6, s7, s8, s9⟩; have e_ := Kd.C_string (P := Try.prog) (c := c102_1) Try.underlying23 Try.underlying5 Try.underlying9 s9; go_simp; with_reducible rfl) ?_
           refine pK 46 (some 63) (bA 49 140737488355327) ?_
           refine pK 47 (some 64) (bA 49 281474976710655) ?_
           refine pK 48 (some 65) (bA 49 562949953421311) ?_
           refine done_ (by kernel_rfl) ?_
           clear hHeld
           go_wp2
           go_roundg k1
           case measure => have := HK1.out; omega
           case rel => exact ⟨(wrap64 (x5_1 + 1)), (by first | rfl | (simp; done) | (simp [*]; done)), H', ⟨by have := HK1.out; omega⟩, by repeat (first | exact Drawn0.refl _ | apply Drawn0.step)⟩
          ·rw [if_neg c15] at H
           have c15b0 : ((strOfNums ((rd_T49 l0 x5_1).f1)).toList == (strOfNums ((rd_T49 l1 x5_1).f1)).toList) = false := beq_eq_false_iff_ne.mpr c15
           have c15b1 : ((strOfNums ((rd_T49 l0 x5_1).f1)).toList != (strOfNums ((rd_T49 l1 x5_1).f1)).toList) = true := bne_iff_ne.mpr c15
           obtain rfl := Option.some.inj H
           have p101 : 0 ≤ (x5_1 : Int) := of_decide_eq_true (by first | (with_reducible assumption) | assumption)
           have q101 : x5_1 < (l0.length : Int) := of_decide_eq_true (by first | (with_reducible assumption) | assumption)
           obtain ⟨ad101, A101_0, c101_0, A101_1, c101_1, e101, hx101_0, hx101_1, hx101_2, hl101_0, hi101_0, hl101_1, hi101_1⟩ := at_T49 HR0.out x5_1 p101 q101
           (try rw [← Nbq11.out] at hx101_2)
           cases e101
           have HR101_0 := Aside0.mk hi101_0
           have HC101_0 := Aside0.mk hl101_0
           clear hi101_0 hl101_0
           have HR101_1 := Aside0.mk hi101_1
           have HC101_1 := Aside0.mk hl101_1
           clear hi101_1 hl101_1
           replace p101 := eq_true p101
           replace q101 := eq_true q101
           have hcv20 := Kd.C_string (P := Try.prog) (A := A101_0) (c := c101_0) Try.underlying23 Try.underlying5 Try.underlying9 HR101_0.out
           have p102 : 0 ≤ (x5_1 : Int) := of_decide_eq_true (by first | (with_reducible assumption) | assumption)
           have q102 : x5_1 < (l1.length : Int) := of_decide_eq_true (by first | (with_reducible assumption) | assumption)
           obtain ⟨ad102, A102_0, c102_0, A102_1, c102_1, e102, hx102_0, hx102_1, hx102_2, hl102_0, hi102_0, hl102_1, hi102_1⟩ := at_T49 HR1.out x5_1 p102 q102
           (try rw [← Nbq11.out] at hx102_2)
           cases e102
           have HR102_0 := Aside0.mk hi102_0
           have HC102_0 := Aside0.mk hl102_0
           clear hi102_0 hl102_0
           have HR102_1 := Aside0.mk hi102_1
           have HC102_1 := Aside0.mk hl102_1
           clear hi102_1 hl102_1
           replace p102 := eq_true p102
           replace q102 := eq_true q102
           have hcv21 := Kd.C_string (P := Try.prog) (A := A102_0) (c := c102_0) Try.underlying23 Try.underlying5 Try.underlying9 HR102_0.out
           have p103 : 0 ≤ (x5_1 : Int) := of_decide_eq_true (by first | (with_reducible assumption) | assumption)
           have q103 : x5_1 < (l0.length : Int) := of_decide_eq_true (by first | (with_reducible assumption) | assumption)
           obtain ⟨ad103, A103_0, c103_0, A103_1, c103_1, e103, hx103_0, hx103_1, hx103_2, hl103_0, hi103_0, hl103_1, hi103_1⟩ := at_T49 HR0.out x5_1 p103 q103
           (try rw [← Nbq11.out] at hx103_2)
           obtain rfl : ad101 = ad103 := (by injection e103)
           have HR103_0 := Aside0.mk hi103_0
           have HC103_0 := Aside0.mk hl103_0
           clear hi103_0 hl103_0
           have HR103_1 := Aside0.mk hi103_1
           have HC103_1 := Aside0.mk hl103_1
           clear hi103_1 hl103_1
           replace p103 := eq_true p103
           replace q103 := eq_true q103
           have ea_ := Option.some.inj (hx101_0.symm.trans hx103_0)
           injection ea_ with ea_ en_ ec_
           subst ea_
           subst ec_
           clear en_
           have ea_ := Option.some.inj (hx101_1.symm.trans hx103_1)
           injection ea_ with ea_ en_ ec_
           subst ea_
           subst ec_
           clear en_
           have p104 : 0 ≤ (x5_1 : Int) := of_decide_eq_true (by first | (with_reducible assumption) | assumption)
           have q104 : x5_1 < (l1.length : Int) := of_decide_eq_true (by first | (with_reducible assumption) | assumption)
           obtain ⟨ad104, A104_0, c104_0, A104_1, c104_1, e104, hx104_0, hx104_1, hx104_2, hl104_0, hi104_0, hl104_1, hi104_1⟩ := at_T49 HR1.out x5_1 p104 q104
           (try rw [← Nbq11.out] at hx104_2)
           obtain rfl : ad102 = ad104 := (by injection e104)
           have HR104_0 := Aside0.mk hi104_0
           have HC104_0 := Aside0.mk hl104_0
           clear hi104_0 hl104_0
           have HR104_1 := Aside0.mk hi104_1
           have HC104_1 := Aside0.mk hl104_1
           clear hi104_1 hl104_1
           replace p104 := eq_true p104
           replace q104 := eq_true q104
           have ea_ := Option.some.inj (hx102_0.symm.trans hx104_0)
           injection ea_ with ea_ en_ ec_
           subst ea_
           subst ec_
           clear en_
           have ea_ := Option.some.inj (hx102_1.symm.trans hx104_1)
           injection ea_ with ea_ en_ ec_
           subst ea_
           subst ec_
           clear en_
           have p105 : 0 ≤ (x5_1 : Int) := of_decide_eq_true (by first | (with_reducible assumption) | assumption)
           have q105 : x5_1 < (l0.length : Int) := of_decide_eq_true (by first | (with_reducible assumption) | assumption)
           obtain ⟨ad105, A105_0, c105_0, A105_1, c105_1, e105, hx105_0, hx105_1, hx105_2, hl105_0, hi105_0, hl105_1, hi105_1⟩ := at_T49 HR0.out x5_1 p105 q105
           (try rw [← Nbq11.out] at hx105_2)
           obtain rfl : ad101 = ad105 := (by injection e105)
           have HR105_0 := Aside0.mk hi105_0
           have HC105_0 := Aside0.mk hl105_0
           clear hi105_0 hl105_0
           have HR105_1 := Aside0.mk hi105_1
           have HC105_1 := Aside0.mk hl105_1
           clear hi105_1 hl105_1
           replace p105 := eq_true p105
           replace q105 := eq_true q105
           have ea_ := Option.some.inj (hx101_0.symm.trans hx105_0)
           injection ea_ with ea_ en_ ec_
           subst ea_
           subst ec_
           clear en_
           have ea_ := Option.some.inj (hx101_1.symm.trans hx105_1)
           injection ea_ with ea_ en_ ec_
           subst ea_
           subst ec_
           clear en_
           have p106 : 0 ≤ (x5_1 : Int) := of_decide_eq_true (by first | (with_reducible assumption) | assumption)
           have q106 : x5_1 < (l0.length : Int) := of_decide_eq_true (by first | (with_reducible assumption) | assumption)
           obtain ⟨ad106, A106_0, c106_0, A106_1, c106_1, e106, hx106_0, hx106_1, hx106_2, hl106_0, hi106_0, hl106_1, hi106_1⟩ := at_T49 HR0.out x5_1 p106 q106
           (try rw [← Nbq11.out] at hx106_2)
           obtain rfl : ad101 = ad106 := (by injection e106)
           have HR106_0 := Aside0.mk hi106_0
           have HC106_0 := Aside0.mk hl106_0
           clear hi106_0 hl106_0
           have HR106_1 := Aside0.mk hi106_1
           have HC106_1 := Aside0.mk hl106_1
           clear hi106_1 hl106_1
           replace p106 := eq_true p106
           replace q106 := eq_true q106
           have ea_ := Option.some.inj (hx101_0.symm.trans hx106_0)
           injection ea_ with ea_ en_ ec_
           subst ea_
           subst ec_
           clear en_
           have ea_ := Option.some.inj (hx101_1.symm.trans hx106_1)
           injection ea_ with ea_ en_ ec_
           subst ea_
           subst ec_
           clear en_
           have hcv22 := Kd.C_string (P := Try.prog) (A := A101_1) (c := c101_1) Try.underlying23 Try.underlying5 Try.underlying9 HR106_1.out
           have p107 : 0 ≤ (x5_1 : Int) := of_decide_eq_true (by first | (with_reducible assumption) | assumption)
           have q107 : x5_1 < (l1.length : Int) := of_decide_eq_true (by first | (with_reducible assumption) | assumption)
           obtain ⟨ad107, A107_0, c107_0, A107_1, c107_1, e107, hx107_0, hx107_1, hx107_2, hl107_0, hi107_0, hl107_1, hi107_1⟩ := at_T49 HR1.out x5_1 p107 q107
           (try rw [← Nbq11.out] at hx107_2)
           obtain rfl : ad102 = ad107 := (by injection e107)
           have HR107_0 := Aside0.mk hi107_0
           have HC107_0 := Aside0.mk hl107_0
           clear hi107_0 hl107_0
           have HR107_1 := Aside0.mk hi107_1
           have HC107_1 := Aside0.mk hl107_1
           clear hi107_1 hl107_1
           replace p107 := eq_true p107
           replace q107 := eq_true q107
           have ea_ := Option.some.inj (hx102_0.symm.trans hx107_0)
           injection ea_ with ea_ en_ ec_
           subst ea_
           subst ec_
           clear en_
           have ea_ := Option.some.inj (hx102_1.symm.trans hx107_1)
           injection ea_ with ea_ en_ ec_
           subst ea_
           subst ec_
           clear en_
           have hcv23 := Kd.C_string (P := Try.prog) (A := A102_1) (c := c102_1) Try.underlying23 Try.underlying5 Try.underlying9 HR107_1.out
           go_wp2
           have c8z := c8b0
           rw [← Nbq11.out] at c8z
           have hz_ : (rd_T49 l1 x5_1).f2 = false := by simpa using c8z
           clear c8z
           have hxz_ := hx102_2
           rw [hz_] at hxz_
           clear hz_
           refine start_ (n := 49) (S := fun w' => w'.cell? (ad101.add (x5_1.toNat * 3)) = some (.slice A101_0 (rd_T49 l0 x5_1).f0.length c101_0) ∧ w'.cell? ⟨(ad101.add (x5_1.toNat * 3)).block, (ad101.add (x5_1.toNat * 3)).off + 1, none⟩ = some (.slice A101_1 (rd_T49 l0 x5_1).f1.length c101_1) ∧ w'.cell? ⟨(ad101.add (x5_1.toNat * 3)).block, (ad101.add (x5_1.toNat * 3)).off + 2, none⟩ = some (.bool false) ∧ w'.cell? (ad102.add (x5_1.toNat * 3)) = some (.slice A102_0 (rd_T49 l1 x5_1).f0.length c102_0) ∧ w'.cell? ⟨(ad102.add (x5_1.toNat * 3)).block, (ad102.add (x5_1.toNat * 3)).off + 1, none⟩ = some (.slice A102_1 (rd_T49 l1 x5_1).f1.length c102_1) ∧ w'.cell? ⟨(ad102.add (x5_1.toNat * 3)).block, (ad102.add (x5_1.toNat * 3)).off + 2, none⟩ = some (.bool false) ∧ Kd.C (Kd.int .u8) w' A101_0 (rd_T49 l0 x5_1).f0.length (rd_T49 l0 x5_1).f0 ∧ Kd.C (Kd.int .u8) w' A102_0 (rd_T49 l1 x5_1).f0.length (rd_T49 l1 x5_1).f0 ∧ Kd.C (Kd.int .u8) w' A101_1 (rd_T49 l0 x5_1).f1.length (rd_T49 l0 x5_1).f1 ∧ Kd.C (Kd.int .u8) w' A102_1 (rd_T49 l1 x5_1).f1.length (rd_T49 l1 x5_1).f1) (ds := []) (bA 49 0) (by kernel_rfl) rfl rfl ⟨hx101_0, hx101_1, hx101_2, hx102_0, hx102_1, hxz_, (by first | exact Kd.C_drewN HR101_0.out _ | exact Kd.C_drew (Kd.C_drewN HR101_0.out _) | exact Kd.C_drew HR101_0.out | exact HR101_0.out), (by first | exact Kd.C_drewN HR102_0.out _ | exact Kd.C_drew (Kd.C_drewN HR102_0.out _) | exact Kd.C_drew HR102_0.out | exact HR102_0.out), (by first | exact Kd.C_drewN HR101_1.out _ | exact Kd.C_drew (Kd.C_drewN HR101_1.out _) | exact Kd.C_drew HR101_1.out | exact HR101_1.out), (by first | exact Kd.C_drewN HR102_1.out _ | exact Kd.C_drew (Kd.C_drewN HR102_1.out _) | exact Kd.C_drew HR102_1.out | exact HR102_1.out)⟩ (fun hHeld => ?_)
           refine norm_ (by rfl) ?_
           refine pK 0 (some 17) (bA 49 1) ?_
           refine pK 1 (some 18) (bA 49 3) ?_
           refine pK 2 (some 19) (bA 49 7) ?_
           refine pK 3 (some 20) (bA 49 15) ?_
           refine tK 4 (some 21) (bA 49 31) rfl rfl hHeld (by rintro w' ⟨s0, s1, s2, s3, s4, s5, s6, s7, s8, s9⟩; go_simp; with_reducible rfl) ?_
           refine tK 5 (some 22) (bA 49 63) rfl rfl hHeld (by rintro w' ⟨s0, s1, s2, s3, s4, s5, s6, s7, s8, s9⟩; have e_ := Kd.C_string (P := Try.prog) (c := c101_0) Try.underlying23 Try.underlying5 Try.underlying9 s6; go_simp; with_reducible rfl) ?_
           refine pK 6 (some 23) (bA 49 127) ?_
           refine pK 7 (some 24) (bA 49 255) ?_
           refine pK 8 (some 25) (bA 49 511) ?_
           refine pK 9 (some 26) (bA 49 1023) ?_
           refine tK 10 (some 27) (bA 49 2047) rfl rfl hHeld (by rintro w' ⟨s0, s1, s2, s3, s4, s5, s6, s7, s8, s9⟩; go_simp; with_reducible rfl) ?_
           refine tK 11 (some 28) (bA 49 4095) rfl rfl hHeld (by rintro w' ⟨s0, s1, s2, s3, s4, s5, s6, s7, s8, s9⟩; have e_ := Kd.C_string (P := Try.prog) (c := c102_0) Try.underlying23 Try.underlying5 Try.underlying9 s7; go_simp; with_reducible rfl) ?_
           refine pK 12 (some 29) (bA 49 8191) ?_
           refine pK 13 (some 30) (bA 49 16383) ?_
           refine pK 14 (some 31) (bA 49 32767) ?_
           refine pK 15 (some 32) (bA 49 65535) ?_
           refine pK 16 (some 33) (bA 49 131071) ?_
           refine pK 17 (some 34) (bA 49 262143) ?_
           refine tK 18 (some 35) (bA 49 524287) rfl rfl hHeld (by rintro w' ⟨s0, s1, s2, s3, s4, s5, s6, s7, s8, s9⟩; go_simp; with_reducible rfl) ?_
           refine pK 19 (some 36) (bA 49 1048575) ?_
           refine pK 20 (some 37) (bA 49 2097151) ?_
           refine pK 21 (some 38) (bA 49 4194303) ?_
           refine pK 22 (some 39) (bA 49 8388607) ?_
           refine tK 23 (some 40) (bA 49 16777215) rfl rfl hHeld (by rintro w' ⟨s0, s1, s2, s3, s4, s5, s6, s7, s8, s9⟩; go_simp; with_reducible rfl) ?_
           refine pK 24 (some 41) (bA 49 33554431) ?_
           refine pK 25 (some 42) (bA 49 67108863) ?_
           refine pK 26 (some 43) (bA 49 134217727) ?_
           refine pK 27 (some 44) (bA 49 268435455) ?_
           refine pK 28 (some 45) (bA 49 536870911) ?_
           refine pK 29 (some 46) (bA 49 1073741823) ?_
           refine pK 30 (some 47) (bA 49 2147483647) ?_
           refine tK 31 (some 48) (bA 49 4294967295) rfl rfl hHeld (by rintro w' ⟨s0, s1, s2, s3, s4, s5, s6, s7, s8, s9⟩; go_simp; with_reducible rfl) ?_
           refine pK 32 (some 49) (bA 49 8589934591) ?_
           refine pK 33 (some 50) (bA 49 17179869183) ?_
           refine pK 34 (some 51) (bA 49 34359738367) ?_
           refine pK 35 (some 52) (bA 49 68719476735) ?_
           refine pK 36 (some 53) (bA 49 137438953471) ?_
           refine pK 37 (some 54) (bA 49 274877906943) ?_
           refine tK 38 (some 55) (bA 49 549755813887) rfl rfl hHeld (by rintro w' ⟨s0, s1, s2, s3, s4, s5, s6, s7, s8, s9⟩; go_simp; with_reducible rfl) ?_
           refine tK 39 (some 56) (bA 49 1099511627775) rfl rfl hHeld (by rintro w' ⟨s0, s1, s2, s3, s4, s5, s6, s7, s8, s9⟩; have e_ := Kd.C_string (P := Try.prog) (c := c101_1) Try.underlying23 Try.underlying5 Try.underlying9 s8; go_simp; with_reducible rfl) ?_
           refine pK 40 (some 57) (bA 49 2199023255551) ?_
           refine pK 41 (some 58) (bA 49 4398046511103) ?_
           refine pK 42 (some 59) (bA 49 8796093022207) ?_
           refine pK 43 (some 60) (bA 49 17592186044415) ?_
           refine tK 44 (some 61) (bA 49 35184372088831) rfl rfl hHeld (by rintro w' ⟨s0, s1, s2, s3, s4, s5, s6, s7, s8, s9⟩; go_simp; with_reducible rfl) ?_
           refine tK 45 (some 62) (bA 49 70368744177663) rfl rfl hHeld (by rintro w' ⟨s0, s1, s2, s3, s4, s5, s6, s7, s8, s9⟩; have e_ := Kd.C_string (P := Try.prog) (c := c102_1) Try.underlying23 Try.underlying5 Try.underlying9 s9; go_simp; with_reducible rfl) ?_
           refine pK 46 (some 63) (bA 49 140737488355327) ?_
           refine pK 47 (some 64) (bA 49 281474976710655) ?_
           refine pK 48 (some 65) (bA 49 562949953421311) ?_
           refine done_ (by kernel_rfl) ?_
           clear hHeld
           go_wp2
           go_ret
           exact ⟨by first | rfl | (simp; done) | (simp [*]; done), by repeat (first | exact Drawn0.refl _ | apply Drawn0.step)⟩
       ·rw [if_neg c7] at H
        have c7b0 : ((strOfNums ((rd_T49 l0 x5_1).f0)).toList == (strOfNums ((rd_T49 l1 x5_1).f0)).toList) = false := beq_eq_false_iff_ne.mpr c7
        have c7b1 : ((strOfNums ((rd_T49 l0 x5_1).f0)).toList != (strOfNums ((rd_T49 l1 x5_1).f0)).toList) = true := bne_iff_ne.mpr c7
        obtain rfl := Option.some.inj H
        have p101 : 0 ≤ (x5_1 : Int) := of_decide_eq_true (by first | (with_reducible assumption) | assumption)
        have q101 : x5_1 < (l0.length : Int) := of_decide_eq_true (by first | (with_reducible assumption) | assumption)
        obtain ⟨ad101, A101_0, c101_0, A101_1, c101_1, e101, hx101_0, hx101_1, hx101_2, hl101_0, hi101_0, hl101_1, hi101_1⟩ := at_T49 HR0.out x5_1 p101 q101
        cases e101
        have HR101_0 := Aside0.mk hi101_0
        have HC101_0 := Aside0.mk hl101_0
        clear hi101_0 hl101_0
        have HR101_1 := Aside0.mk hi101_1
        have HC101_1 := Aside0.mk hl101_1
        clear hi101_1 hl101_1
        replace p101 := eq_true p101
        replace q101 := eq_true q101
        have hcv24 := Kd.C_string (P := Try.prog) (A := A101_0) (c := c101_0) Try.underlying23 Try.underlying5 Try.underlying9 HR101_0.out
        have p102 : 0 ≤ (x5_1 : Int) := of_decide_eq_true (by first | (with_reducible assumption) | assumption)
        have q102 : x5_1 < (l1.length : Int) := of_decide_eq_true (by first | (with_reducible assumption) | assumption)
        obtain ⟨ad102, A102_0, c102_0, A102_1, c102_1, e102, hx102_0, hx102_1, hx102_2, hl102_0, hi102_0, hl102_1, hi102_1⟩ := at_T49 HR1.out x5_1 p102 q102
        cases e102
        have HR102_0 := Aside0.mk hi102_0
        have HC102_0 := Aside0.mk hl102_0
        clear hi102_0 hl102_0
        have HR102_1 := Aside0.mk hi102_1
        have HC102_1 := Aside0.mk hl102_1
        clear hi102_1 hl102_1
        replace p102 := eq_true p102
        replace q102 := eq_true q102
        have hcv25 := Kd.C_string (P := Try.prog) (A := A102_0) (c := c102_0) Try.underlying23 Try.underlying5 Try.underlying9 HR102_0.out
        go_wp2
        refine start_ (n := 49) (S := fun w' => w'.cell? (ad101.add (x5_1.toNat * 3)) = some (.slice A101_0 (rd_T49 l0 x5_1).f0.length c101_0) ∧ w'.cell? ⟨(ad101.add (x5_1.toNat * 3)).block, (ad101.add (x5_1.toNat * 3)).off + 1, none⟩ = some (.slice A101_1 (rd_T49 l0 x5_1).f1.length c101_1) ∧ w'.cell? ⟨(ad101.add (x5_1.toNat * 3)).block, (ad101.add (x5_1.toNat * 3)).off + 2, none⟩ = some (.bool (rd_T49 l0 x5_1).f2) ∧ w'.cell? (ad102.add (x5_1.toNat * 3)) = some (.slice A102_0 (rd_T49 l1 x5_1).f0.length c102_0) ∧ w'.cell? ⟨(ad102.add (x5_1.toNat * 3)).block, (ad102.add (x5_1.toNat * 3)).off + 1, none⟩ = some (.slice A102_1 (rd_T49 l1 x5_1).f1.length c102_1) ∧ w'.cell? ⟨(ad102.add (x5_1.toNat * 3)).block, (ad102.add (x5_1.toNat * 3)).off + 2, none⟩ = some (.bool (rd_T49 l1 x5_1).f2) ∧ Kd.C (Kd.int .u8) w' A101_0 (rd_T49 l0 x5_1).f0.length (rd_T49 l0 x5_1).f0 ∧ Kd.C (Kd.int .u8) w' A102_0 (rd_T49 l1 x5_1).f0.length (rd_T49 l1 x5_1).f0 ∧ Kd.C (Kd.int .u8) w' A101_1 (rd_T49 l0 x5_1).f1.length (rd_T49 l0 x5_1).f1 ∧ Kd.C (Kd.int .u8) w' A102_1 (rd_T49 l1 x5_1).f1.length (rd_T49 l1 x5_1).f1) (ds := []) (bA 49 0) (by kernel_rfl) rfl rfl ⟨hx101_0, hx101_1, hx101_2, hx102_0, hx102_1, hx102_2, (by first | exact Kd.C_drewN HR101_0.out _ | exact Kd.C_drew (Kd.C_drewN HR101_0.out _) | exact Kd.C_drew HR101_0.out | exact HR101_0.out), (by first | exact Kd.C_drewN HR102_0.out _ | exact Kd.C_drew (Kd.C_drewN HR102_0.out _) | exact Kd.C_drew HR102_0.out | exact HR102_0.out), (by first | exact Kd.C_drewN HR101_1.out _ | exact Kd.C_drew (Kd.C_drewN HR101_1.out _) | exact Kd.C_drew HR101_1.out | exact HR101_1.out), (by first | exact Kd.C_drewN HR102_1.out _ | exact Kd.C_drew (Kd.C_drewN HR102_1.out _) | exact Kd.C_drew HR102_1.out | exact HR102_1.out)⟩ (fun hHeld => ?_)
        refine norm_ (by rfl) ?_
        refine pK 0 (some 17) (bA 49 1) ?_
        refine pK 1 (some 18) (bA 49 3) ?_
        refine pK 2 (some 19) (bA 49 7) ?_
        refine pK 3 (some 20) (bA 49 15) ?_
        refine tK 4 (some 21) (bA 49 31) rfl rfl hHeld (by rintro w' ⟨s0, s1, s2, s3, s4, s5, s6, s7, s8, s9⟩; go_simp; with_reducible rfl) ?_
        refine tK 5 (some 22) (bA 49 63) rfl rfl hHeld (by rintro w' ⟨s0, s1, s2, s3, s4, s5, s6, s7, s8, s9⟩; have e_ := Kd.C_string (P := Try.prog) (c := c101_0) Try.underlying23 Try.underlying5 Try.underlying9 s6; go_simp; with_reducible rfl) ?_
        refine pK 6 (some 23) (bA 49 127) ?_
        refine pK 7 (some 24) (bA 49 255) ?_
        refine pK 8 (some 25) (bA 49 511) ?_
        refine pK 9 (some 26) (bA 49 1023) ?_
        refine tK 10 (some 27) (bA 49 2047) rfl rfl hHeld (by rintro w' ⟨s0, s1, s2, s3, s4, s5, s6, s7, s8, s9⟩; go_simp; with_reducible rfl) ?_
        refine tK 11 (some 28) (bA 49 4095) rfl rfl hHeld (by rintro w' ⟨s0, s1, s2, s3, s4, s5, s6, s7, s8, s9⟩; have e_ := Kd.C_string (P := Try.prog) (c := c102_0) Try.underlying23 Try.underlying5 Try.underlying9 s7; go_simp; with_reducible rfl) ?_
        refine pK 12 (some 29) (bA 49 8191) ?_
        refine pK 13 (some 30) (bA 49 16383) ?_
        refine uK 14 (some 31) (bA 49 32767) ?_
        refine uK 15 (some 32) (bA 49 65535) ?_
        refine uK 16 (some 33) (bA 49 131071) ?_
        refine uK 17 (some 34) (bA 49 262143) ?_
        refine uK 18 (some 35) (bA 49 524287) ?_
        refine uK 19 (some 36) (bA 49 1048575) ?_
        refine uK 20 (some 37) (bA 49 2097151) ?_
        refine uK 21 (some 38) (bA 49 4194303) ?_
        refine uK 22 (some 39) (bA 49 8388607) ?_
        refine uK 23 (some 40) (bA 49 16777215) ?_
        refine uK 24 (some 41) (bA 49 33554431) ?_
        refine pK 25 (some 42) (bA 49 67108863) ?_
        refine pK 26 (some 43) (bA 49 134217727) ?_
        refine uK 27 (some 44) (bA 49 268435455) ?_
        refine uK 28 (some 45) (bA 49 536870911) ?_
        refine uK 29 (some 46) (bA 49 1073741823) ?_
        refine uK 30 (some 47) (bA 49 2147483647) ?_
        refine uK 31 (some 48) (bA 49 4294967295) ?_
        refine uK 32 (some 49) (bA 49 8589934591) ?_
        refine uK 33 (some 50) (bA 49 17179869183) ?_
        refine uK 34 (some 51) (bA 49 34359738367) ?_
        refine uK 35 (some 52) (bA 49 68719476735) ?_
        refine uK 36 (some 53) (bA 49 137438953471) ?_
        refine uK 37 (some 54) (bA 49 274877906943) ?_
        refine uK 38 (some 55) (bA 49 549755813887) ?_
        refine uK 39 (some 56) (bA 49 1099511627775) ?_
        refine uK 40 (some 57) (bA 49 2199023255551) ?_
        refine uK 41 (some 58) (bA 49 4398046511103) ?_
        refine uK 42 (some 59) (bA 49 8796093022207) ?_
        refine uK 43 (some 60) (bA 49 17592186044415) ?_
        refine uK 44 (some 61) (bA 49 35184372088831) ?_
        refine uK 45 (some 62) (bA 49 70368744177663) ?_
        refine uK 46 (some 63) (bA 49 140737488355327) ?_
        refine uK 47 (some 64) (bA 49 281474976710655) ?_
        refine pK 48 (some 65) (bA 49 562949953421311) ?_
        refine done_ (by kernel_rfl) ?_
        clear hHeld
        go_wp2
        go_ret
        exact ⟨by first | rfl | (simp; done) | (simp [*]; done), by repeat (first | exact Drawn0.refl _ | apply Drawn0.step)⟩
      ·rw [if_neg c6] at H
       exact absurd H (by simp)
     ·rw [if_neg c5] at H
      exact absurd H (by simp)
    ·rw [if_neg c4] at H
     have c4b0 : decide (x5_1 < (l0.length : Int)) = false := decide_eq_false c4
     clear c4
     obtain rfl := Option.some.inj H
     go_wp2
     repeat (go_quiet (fail); try go_wp2)
     go_ret
     exact ⟨by first | rfl | (simp; done) | (simp [*]; done), by repeat (first | exact Drawn0.refl _ | apply Drawn0.step)⟩
 ·rw [if_neg c3] at H
  have c3b0 : ((l0.length : Int) == (l1.length : Int)) = false := beq_eq_false_iff_ne.mpr c3
  have c3b1 : ((l0.length : Int) != (l1.length : Int)) = true := bne_iff_ne.mpr c3
  have c3b2 : (l0.length == l1.length) = false := by first | simpa using c3 | (simp at c3 ⊢; omega)
  obtain rfl := Option.some.inj H
  go_enter Try.func23, Try.ntmps23
  go_wp2
  repeat (go_quiet (fail); try go_wp2)
  go_ret
  exact ⟨by first | rfl | (simp; done) | (simp [*]; done), by repeat (first | exact Drawn0.refl _ | apply Drawn0.step)⟩

-- NOT PRINTED: function 66 (bytealg_Compare)

/-! ### bytes_Compare: function 60 -/
theorem load_bytes_row {P : Program} {w : World} {A : Option Addr} {l : List Int} (h : Kd.C (Kd.int .u8) w A l.length l) (c : Nat) :
    (Extern.Bytes.bytesOf (.slice A l.length c)).run P w = .ok ⟨(Lib.bytesOf l).toArray⟩ w := by
  have hl := h.2.2
  cases A with
  | none =>
    have hz : l = [] := by
      cases l with
      | nil => rfl
      | cons x xs =>
        obtain ⟨ad, he, _⟩ := hl (by simp)
        cases he
    subst hz
    rfl
  | some ad =>
    have hc : ∀ j x, l[j]? = some x → w.cell? (ad.add j) = some (.int .u8 x) := by
      intro j x hj
      have hlt : j < l.length := (List.getElem?_eq_some_iff.1 hj).1
      obtain ⟨ad', he, hh⟩ := hl (by omega)
      injection he with he
      subst he
      obtain ⟨cs, _, hcs, hcell⟩ := hh j x hj
      have hcs' : cs = [Value.int .u8 x] := hcs
      subst hcs'
      have := hcell 0 (.int .u8 x) rfl
      simpa [Kd.int, Kd.scalar] using this
    have hr := Lib.run_loadBytesX (P := P) w l ad .empty hc
    have he : (⟨ByteArray.empty.data ++ (Lib.bytesOf l).toArray⟩ : ByteArray) = ⟨(Lib.bytesOf l).toArray⟩ := by
      apply ByteArray.ext
      show (#[] : Array UInt8) ++ (Lib.bytesOf l).toArray = (Lib.bytesOf l).toArray
      simp
    rw [he] at hr
    exact hr
theorem run_cmp_rows {P : Program} {w : World} {A0 A1 : Option Addr} {l0 l1 : List Int} (h0 : Kd.C (Kd.int .u8) w A0 l0.length l0) (h1 : Kd.C (Kd.int .u8) w A1 l1.length l1) (c0 c1 : Nat) :
    (Extern.BytealgCompare.compare #[.slice A0 l0.length c0, .slice A1 l1.length c1]).run P w = .ok (.int .i64 (Lib.compareBytes (Lib.bytesOf l0) (Lib.bytesOf l1))) w := by
  change Sem.run P (do pure (goInt (Extern.BytealgCompare.cmp (← Extern.Bytes.bytesOf (.slice A0 l0.length c0)) (← Extern.Bytes.bytesOf (.slice A1 l1.length c1))))) w = _
  simp only [Sem.run_bind, Sem.run_pure, load_bytes_row h0, load_bytes_row h1, Result.andThen]
  rw [Lib.cmp_eq]
  rfl
def bytes_Compare.f (l0 : List Int) (l1 : List Int) : Option (Int) := some (Lib.compareBytes (Lib.bytesOf l0) (Lib.bytesOf l1))
set_option maxHeartbeats 8000000 in
set_option maxRecDepth 100000 in
theorem bytes_Compare.calls (A0 : Option Addr) (c0 : Nat) (l0 : List Int) (A1 : Option Addr) (c1 : Nat) (l1 : List Int) (r : Int) (w : World) (hr0 : Kd.C (Kd.int .u8) w A0 l0.length l0) (hc0 : l0.length ≤ c0) (hr1 : Kd.C (Kd.int .u8) w A1 l1.length l1) (hc1 : l1.length ≤ c1) (h : bytes_Compare.f l0 l1 = some r) :
    Calls Try.prog 60 #[.slice A0 l0.length c0, .slice A1 l1.length c1] w fun e w' => e = .returned (.int .i64 r) ∧ Drawn0 w w' := by
  have hk : (callFunc 66 #[.slice A0 l0.length c0, .slice A1 l1.length c1]).run Try.prog w = .ok (.value (.int .i64 (Lib.compareBytes (Lib.bytesOf l0) (Lib.bytesOf l1)))) w := by
    rw [run_callFunc_extern Try.func66 (by kernel_rfl) (by kernel_rfl) (by kernel_rfl) (e := Extern.BytealgCompare.compare) (by kernel_rfl), run_cmp_rows hr0 hr1]
    rfl
  obtain rfl := Option.some.inj h
  clear h hr0 hr1 hc0 hc1
  generalize Lib.compareBytes (Lib.bytesOf l0) (Lib.bytesOf l1) = z at hk ⊢
  go_enter Try.func60, Try.ntmps60
  go_wp2
  go_ret
  exact ⟨rfl, Drawn0.refl _⟩

/-! ### octet_Less: function 54 -/
def octet_Less.f (l0 : List Int) (l1 : List Int) : Option (Bool) := (bytes_Compare.f l0 l1).bind fun t108 => (some (decide (t108 < 0)))
set_option maxHeartbeats 8000000 in
set_option maxRecDepth 100000 in
theorem octet_Less.calls (A0 : Option Addr) (c0 : Nat) (l0 : List Int) (A1 : Option Addr) (c1 : Nat) (l1 : List Int) (r : Bool) (w : World) (hr0 : Kd.C (Kd.int .u8) w A0 l0.length l0) (hc0 : l0.length ≤ c0) (hr1 : Kd.C (Kd.int .u8) w A1 l1.length l1) (hc1 : l1.length ≤ c1) (h : octet_Less.f l0 l1 = some r) :
    Calls Try.prog 54 #[.slice A0 l0.length c0, .slice A1 l1.length c1] w fun e w' => e = .returned (.bool r) ∧ Drawn0 w w' := by
  have HR0 := Aside0.mk hr0
  have HC0 := Aside0.mk hc0
  clear hr0 hc0
  have HR1 := Aside0.mk hr1
  have HC1 := Aside0.mk hc1
  clear hr1 hc1
  have H : ((bytes_Compare.f l0 l1).bind fun t108 => (some (decide (t108 < 0)))) = some r := h
  clear h
  replace H := Option.bind_eq_some_iff.mp H
  obtain ⟨t108, A30, H⟩ := H
  replace H : (some (decide (t108 < 0))) = some r := H
  have A3 := Aside0.mk A30
  clear A30
  obtain rfl := Option.some.inj H
  go_enter Try.func54, Try.ntmps54
  go_wp2_with (first | ((with_reducible refine gate_callee (f := 60) rfl ?_); refine goesL_ (some 7) rfl rfl Try.func60 (by kernel_rfl) rfl #[.slice A0 l0.length c0, .slice A1 l1.length c1] rfl (by (try simp only [List.map_toArray, List.map_cons, List.map_nil]); first | done | rfl | (simp only [List.length_drop, List.length_take]; rfl)) ?_; (with_reducible refine (bytes_Compare.calls _ _ l0 _ _ l1 t108 _ ?side1 ?side2 ?side3 ?side4 A3.out).mono ?_); (case side1 => repeat (first | exact HR0.out | (with_reducible refine Kd.C_alloc ?_ _) | (with_reducible refine Kd.C_drewN ?_ _) | (with_reducible refine Kd.C_drew ?_))); (case side2 => exact HC0.out); (case side3 => repeat (first | exact HR1.out | (with_reducible refine Kd.C_alloc ?_ _) | (with_reducible refine Kd.C_drewN ?_ _) | (with_reducible refine Kd.C_drew ?_))); (case side4 => exact HC1.out); rintro e w' ⟨rfl, ⟨nd, rfl⟩⟩; refine ⟨_, rfl, ?_⟩))
  go_ret
  exact ⟨by first | rfl | (simp; done) | (simp [*]; done), by repeat (first | exact Drawn0.refl _ | apply Drawn0.step)⟩

-- NOT PRINTED: function 49 (merge_first)

/-! ### slices_Clone_byte_byte: function 45 -/
def slices_Clone_byte_byte.f (l0 : List Int) : Option (List Int) := if l0.length < 140737488355328 then (some l0) else (none)
set_option maxHeartbeats 8000000 in
set_option maxRecDepth 100000 in
theorem slices_Clone_byte_byte.calls (A0 : Option Addr) (c0 : Nat) (l0 : List Int) (r : List Int) (w : World) (hr0 : Kd.C (Kd.int .u8) w A0 l0.length l0) (hc0 : l0.length ≤ c0) (h : slices_Clone_byte_byte.f l0 = some r) :
    Calls Try.prog 45 #[.slice A0 l0.length c0] w fun e w' => ∃ v0_ : Value, e = .returned (v0_) ∧ Kd.R (Kd.int .u8) 5 w' w.heap.size (fun _ => True) v0_ r ∧ Below w.heap.size w w' := by
  have H : (if l0.length < 140737488355328 then (some l0) else (none)) = some r := h
  clear h
  by_cases c1 : l0.length < 140737488355328
  · rw [if_pos c1] at H
    have LMc1 := Aside0.mk c1
    clear c1
    obtain rfl := Option.some.inj H
    have qT : ∀ (w : World) (a : Option Addr) (n c n' c' : Nat), (binOp .eql 23 (.slice a n c) (.slice none n' c')).run Try.prog w = .ok (.bool a.isNone) w := fun w a n c n' c' => Lib.run_eql_slice_nil w _ _ a n c n' c' Try.underlying23
    have HB := Aside0.mk (Below.refl w.heap.size w)
    cases A0 with
    | none =>
      have hz : l0 = [] := by
        cases l0 with
        | nil => rfl
        | cons x xs =>
          obtain ⟨ad, he, _⟩ := hr0.2.2 (by simp)
          cases he
      subst hz
      clear hr0 hc0
      go_enter Try.func45, Try.ntmps45
      go_wp2
      go_ret
      exact ⟨_, rfl, Kd.R_nil _ _ _ _ _, HB.out⟩
    | some ad0 =>
      have HR0 := Aside0.mk hr0
      clear hr0 hc0
      obtain ⟨y112, hy112⟩ : ∃ y_ : List Int, y_ = (([] : List Int)) := ⟨_, rfl⟩
      have Ny112 := Aside0.mk hy112
      clear hy112
      obtain ⟨y115, hy115⟩ : ∃ y_ : List Int, y_ = (y112 ++ l0) := ⟨_, rfl⟩
      have Ny115 := Aside0.mk hy115
      clear hy115
      go_enter Try.func45, Try.ntmps45
      go_wp2_with (first | ((with_reducible refine gate_dst (N := 5) rfl ?_); refine Kd.R_lit (Kd.int .u8) _ 5 ?hg (N := 5) ?hd (xs := ([] : List Int)) (inner := []) (ok := fun _ => True) (okp := fun _ => True) ?hr ?hp (fun _ hk => hk) trivial (Below.refl _ _) (Nat.le_refl _) (by simp) ?_; (case hd => rfl); (case hg => rfl); (case hr => first | (go_simp; done) | (go_simp; rfl)); (case hp => exact (Reps.none _ _)); intro v113 w7 ho8 hb hg_ hnew_; clear hg_ hnew_; (first | rw [← Ny112.out] at ho8 | (simp only [Int.reduceToNat] at ho8; rw [← Ny112.out] at ho8)); have n0_ := Aside0.mk (Kd.R_lower ho8 (below_size (by repeat (first | (with_reducible first | exact HB.out | apply below_alloc | apply pw_below_drewN | apply below_drew1) | exact HB.out)))); have n1_ := Aside0.mk (below_step (by repeat (first | (with_reducible first | exact HB.out | apply below_alloc | apply pw_below_drewN | apply below_drew1) | exact HB.out)) hb); clear HB; have HO114 := n0_; have HB := n1_; clear n0_ n1_; clear hb ho8) | ((with_reducible refine gate_builtin (b := .append) (xs := #[.tmp 5, .tmp 6]) rfl ?_); at_builtin; refine Kd.R_append_rows (Kd.int .u8) (w0 := w) w.heap.size rfl (.tmp 5) (.tmp 6) 23 5 (.int .u8 0) 1 rfl Try.underlying23 info5 rfl (by decide) (by omega) v113 y112 l0 _ _ _ (fun _ => True) (fun _ => False) rfl rfl ?aO ?aR (fun _ _ h => h) (fun _ h => h.elim) ?aF ?aB ?aS ?aL ?_; (case aR => repeat (first | exact (Kd.C_below HR0.out HB.out) | (with_reducible refine Kd.C_alloc ?_ _) | (with_reducible refine Kd.C_drewN ?_ _) | (with_reducible refine Kd.C_drew ?_))); (case aB => exact (by repeat (first | (with_reducible first | exact HB.out | apply below_alloc | apply pw_below_drewN | apply below_drew1) | exact HB.out))); (case aF => exact (fun _ _ => trivial)); (case aO => exact (by (with_reducible repeat (first | apply Kd.R_alloc | apply Kd.R_drewN | apply Kd.R_drew)); exact HO114.out)); (case aS => exact (below_size (by repeat (first | (with_reducible first | exact HB.out | apply below_alloc | apply pw_below_drewN | apply below_drew1) | exact HB.out)))); (case aL => have := LMc1.out; have := Ny112.out; subst this; simp only [List.length_nil]; omega); intro v116 w9 ho hb hg hat; rw [← Ny115.out] at ho; have n0_ := Aside0.mk (hb); have n1_ := Aside0.mk (ho); clear HB; clear HO114; have HB := n0_; have HO117 := n1_; clear n0_ n1_; clear ho hb hg hat))
      go_ret
      exact ⟨_, rfl, by rw [show l0 = y115 from by rw [Ny115.out, Ny112.out]; rfl]; exact HO117.out, HB.out⟩
  · rw [if_neg c1] at H
    exact absurd H (by simp)

end Go.Proofs.Ytmimfnangdabmaa.PMergeNumbers

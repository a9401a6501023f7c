/- The walk of the Go functions that a law reaches, told as plain functions; a program of this session has written it. No condition beyond the statement's own. -/
import Derived.Test.YtfijbkabjmgomaaPNameTellsx0
namespace Go.Proofs.Ytfijbkabjmgomaa.PNameTells
open Go.RowKit Go.Proofs.YtfijbkabjmgomaaW.PrintWords Go.Proofs.YtfijbkabjmgomaaW.PrintLast Go.Proofs.YtfijbkabjmgomaaW.PrintMore
attribute [local go_sem] max2_int min2_int max_two min_two max_three min_three max_four min_four   -- for this text's walks alone
set_option linter.unusedVariables false
set_option linter.unusedSimpArgs false

/-! ### proofs that a long text holds many times, by their name -/
theorem blkN {p q : Prop} (h : q) (k : q → p := by intro h_; (with_reducible repeat (first | refine blk_drewN ?_ _ | refine blk_drew ?_ | refine blk_alloc ?_ _)); exact h_) : p := k h
theorem blkF {p q : Prop} (h : q) (k : q → p := by intro h_; (repeat (first | (with_reducible first | refine blk_drewN ?_ _ | refine blk_drew ?_ | refine blk_alloc ?_ _) | refine blk_far ?_ (Aside0.out (by assumption)) _)); exact h_) : p := k h
theorem blk_ne1 {W : World} {g g2 : Nat} {o : Obj} (hg : g2 = W.heap.size) (h : W.heap[g]? = some o) : g ≠ g2 := by rw [hg]; exact Nat.ne_of_lt (blk_lt h)
theorem blk_ne2 {W : World} {g g2 : Nat} {o : Obj} (hg : g2 = W.heap.size) (h : W.heap[g]? = some o) : g2 ≠ g := (blk_ne1 hg h).symm
theorem cellNe {w : World} {a : Addr} {v : Value} {n g : Nat} (h : w.cell? a = some v) (hg : w.heap.size ≤ g) (k : a.block < w.heap.size → n < w.heap.size := by intro this; first | rwa [add_block] at this | exact this) : n ≠ g := Nat.ne_of_lt (Nat.lt_of_lt_of_le (k (World.block_lt_of_cell? _ _ h)) hg)
theorem cellB {w w' : World} {a : Addr} {v : Value} (hb : Below w.heap.size w w') (h : w.cell? a = some v) : w'.cell? a = some v := (hb.cell (World.block_lt_of_cell? w _ h)).trans h
theorem argN {p : Prop} (h : p := by (try simp only [List.map_toArray, List.map_cons, List.map_nil]); first | done | rfl | (simp only [List.length_drop, List.length_take]; rfl)) : p := h
theorem belN {p q : Prop} (h : q) (k : q → p := by intro h_; repeat (first | (with_reducible first | exact h_ | apply below_alloc | apply pw_below_drewN | apply below_drew1) | exact h_)) : p := k h
theorem belS {p q : Prop} (h : q) (k : q → p := by intro h_; repeat (first | (with_reducible first | exact h_ | apply below_alloc | apply pw_below_drewN | apply below_drew1 | refine below_set ?_ (Aside0.out (by assumption))) | exact h_)) : p := k h
theorem bkB {w W w1 : World} {g : Nat} {o : Obj} (h : w.heap[g]? = some o) (hb : Below W.heap.size W w1) (k : w.heap[g]? = some o → W.heap[g]? = some o := by intro h_; (with_reducible repeat (first | refine blk_drewN ?_ _ | refine blk_drew ?_ | refine blk_alloc ?_ _)); exact h_) : w1.heap[g]? = some o := blk_below (k h) hb
theorem bkBF {w W w1 : World} {g : Nat} {o : Obj} (h : w.heap[g]? = some o) (hb : Below W.heap.size W w1) (k : w.heap[g]? = some o → W.heap[g]? = some o := by intro h_; (repeat (first | (with_reducible first | refine blk_drewN ?_ _ | refine blk_drew ?_ | refine blk_alloc ?_ _) | refine blk_far ?_ (Aside0.out (by assumption)) _)); exact h_) : w1.heap[g]? = some o := blk_below (k h) hb
theorem bk1 {w W : World} {g g2 : Nat} {o : Obj} (hg : g2 = W.heap.size) (h : w.heap[g]? = some o) (k : w.heap[g]? = some o → W.heap[g]? = some o := by intro h_; (with_reducible repeat (first | refine blk_drewN ?_ _ | refine blk_drew ?_ | refine blk_alloc ?_ _)); exact h_) : g ≠ g2 := blk_ne1 hg (k h)
theorem bk2 {w W : World} {g g2 : Nat} {o : Obj} (hg : g2 = W.heap.size) (h : w.heap[g]? = some o) (k : w.heap[g]? = some o → W.heap[g]? = some o := by intro h_; (with_reducible repeat (first | refine blk_drewN ?_ _ | refine blk_drew ?_ | refine blk_alloc ?_ _)); exact h_) : g2 ≠ g := blk_ne2 hg (k h)
theorem bk1F {w W : World} {g g2 : Nat} {o : Obj} (hg : g2 = W.heap.size) (h : w.heap[g]? = some o) (k : w.heap[g]? = some o → W.heap[g]? = some o := by intro h_; (repeat (first | (with_reducible first | refine blk_drewN ?_ _ | refine blk_drew ?_ | refine blk_alloc ?_ _) | refine blk_far ?_ (Aside0.out (by assumption)) _)); exact h_) : g ≠ g2 := blk_ne1 hg (k h)
theorem bk2F {w W : World} {g g2 : Nat} {o : Obj} (hg : g2 = W.heap.size) (h : w.heap[g]? = some o) (k : w.heap[g]? = some o → W.heap[g]? = some o := by intro h_; (repeat (first | (with_reducible first | refine blk_drewN ?_ _ | refine blk_drew ?_ | refine blk_alloc ?_ _) | refine blk_far ?_ (Aside0.out (by assumption)) _)); exact h_) : g2 ≠ g := blk_ne2 hg (k h)
theorem szB {w V W : World} {g : Nat} (hg : g = W.heap.size) (h : Below w.heap.size w V) (k : Below w.heap.size w V → Below w.heap.size w W := by intro h_; repeat (first | (with_reducible first | exact h_ | apply below_alloc | apply pw_below_drewN | apply below_drew1 | refine below_set ?_ (Aside0.out (by assumption))) | exact h_)) : w.heap.size ≤ g := by rw [hg]; exact below_size (k h)
theorem cbN {α : Type} {d : Kd α} {B : Nat} {w w0 w1 : World} {A_ : Option Addr} {n : Nat} {xs : List α} (h : d.C w0 A_ n xs) (hb : Below B w w1) (k : d.C w0 A_ n xs → d.C w A_ n xs := by intro h_; repeat (first | (with_reducible exact h_) | (with_reducible refine Kd.C_alloc ?_ _) | (with_reducible refine Kd.C_drewN ?_ _) | (with_reducible refine Kd.C_drew ?_) | exact h_)) (hB : B = w.heap.size := by rfl) : d.C w1 A_ n xs := Kd.C_below (k h) (hB ▸ hb)
/-- Which operations have come up, as a number: its bits. -/
def bA (n m : Nat) : Array Bool := ((List.range n).map fun i => m.testBit i).toArray
/-- A step that yields in every world, its side proofs told once; pU: an operation whose guard is off. -/
theorem pA {P : Program} {ops : Array Oper} {Q : Exit → Act → World → Prop} {md : Region.Mode} {S : World → Prop} {ds : List Nat} {T : Bool × List (List Nat × List Nat)} {oi : Oper} {v : Value} {fuel : Nat} {l : Array Bool} {a a' : Act} {w : World} (i : Nat) (N : Option Tmp) (l' : Array Bool) (hT : rtab md ops = T) (h : wpAnyLast P md ops Q S ds fuel l' a' w)
    (hi : ops[i]? = some oi := by rfl) (hN : oi.dst = N := by rfl) (hc : anyT T l.toList l'.toList i = true := by kernel_rfl) (hQ : ∀ c a w, Q (.panic c) (a.put oi.dst v) w → Q (.panic c) a w := by exact fun _ _ _ h => h)
    (hy : Region.wanted oi (yielded ops a.tmps) = true := by rfl) (hy' : ∀ w, (execOp a.eval oi).run P w = .ok (.value v) w := by intro w'; go_simp; with_reducible rfl)
    (ha : a.put N v = a' := by simp only [Act.put, List.setIfInBounds_toArray, List.set_cons_zero, List.set_cons_succ, i64_w, i32_w]; rfl) : wpAnyLast P md ops Q S ds (fuel + 1) l a w :=
  pure_ l' hi hN (any_of hT hc) hQ (Or.inl ⟨hy, hy'⟩) ha h
theorem pU {P : Program} {ops : Array Oper} {Q : Exit → Act → World → Prop} {md : Region.Mode} {S : World → Prop} {ds : List Nat} {T : Bool × List (List Nat × List Nat)} {oi : Oper} {fuel : Nat} {l : Array Bool} {a a' : Act} {w : World} (i : Nat) (N : Option Tmp) (l' : Array Bool) (hT : rtab md ops = T) (h : wpAnyLast P md ops Q S ds fuel l' a' w)
    (hi : ops[i]? = some oi := by rfl) (hN : oi.dst = N := by rfl) (hc : anyT T l.toList l'.toList i = true := by kernel_rfl) (hQ : ∀ c a w, Q (.panic c) (a.put oi.dst undef) w → Q (.panic c) a w := by exact fun _ _ _ h => h)
    (hy : Region.wanted oi (yielded ops a.tmps) = false := by rfl)
    (ha : a.put N undef = a' := by simp only [Act.put, List.setIfInBounds_toArray, List.set_cons_zero, List.set_cons_succ, i64_w, i32_w]; rfl) : wpAnyLast P md ops Q S ds (fuel + 1) l a w :=
  pure_ l' hi hN (any_of hT hc) hQ (Or.inr ⟨hy, rfl⟩) ha h
theorem rowN {p q : Prop} (h : q) (k : q → p := by intro h_; (with_reducible repeat (first | apply Kd.R_alloc | apply Kd.R_drewN | apply Kd.R_drew)); exact h_) : p := k h

/-! ### name_sign: function 15 -/
def name_sign.f (a0 : Int) : Option (Bool) := if a0 ≥ 97 then (if a0 ≤ 122 then (some true) else (if a0 ≥ 65 then (if a0 ≤ 90 then (some true) else (if a0 ≥ 48 then (if a0 ≤ 57 then (some true) else (if a0 = 45 then (some true) else (if a0 = 95 then (some true) else (if a0 = 46 then (some true) else (some (a0 == 47)))))) else (if a0 = 45 then (some true) else (if a0 = 95 then (some true) else (if a0 = 46 then (some true) else (some (a0 == 47))))))) else (if a0 ≥ 48 then (if a0 ≤ 57 then (some true) else (if a0 = 45 then (some true) else (if a0 = 95 then (some true) else (if a0 = 46 then (some true) else (some (a0 == 47)))))) else (if a0 = 45 then (some true) else (if a0 = 95 then (some true) else (if a0 = 46 then (some true) else (some (a0 == 47)))))))) else (if a0 ≥ 65 then (if a0 ≤ 90 then (some true) else (if a0 ≥ 48 then (if a0 ≤ 57 then (some true) else (if a0 = 45 then (some true) else (if a0 = 95 then (some true) else (if a0 = 46 then (some true) else (some (a0 == 47)))))) else (if a0 = 45 then (some true) else (if a0 = 95 then (some true) else (if a0 = 46 then (some true) else (some (a0 == 47))))))) else (if a0 ≥ 48 then (if a0 ≤ 57 then (some true) else (if a0 = 45 then (some true) else (if a0 = 95 then (some true) else (if a0 = 46 then (some true) else (some (a0 == 47)))))) else (if a0 = 45 then (some true) else (if a0 = 95 then (some true) else (if a0 = 46 then (some true) else (some (a0 == 47)))))))
set_option maxHeartbeats 8000000 in
set_option maxRecDepth 100000 in
theorem name_sign.calls (a0 : Int) (r : Bool) (w : World) (h : name_sign.f a0 = some r) :
  Calls Try.prog 15 #[.int .u8 a0] w fun e w' => e = .returned (.bool r) ∧ Drawn0 w w' := by
 have H : (if a0 ≥ 97 then (if a0 ≤ 122 then (some true) else (if a0 ≥ 65 then (if a0 ≤ 90 then (some true) else (if a0 ≥ 48 then (if a0 ≤ 57 then (some true) else (if a0 = 45 then (some true) else (if a0 = 95 then (some true) else (if a0 = 46 then (some true) else (some (a0 == 47)))))) else (if a0 = 45 then (some true) else (if a0 = 95 then (some true) else (if a0 = 46 then (some true) else (some (a0 == 47))))))) else (if a0 ≥ 48 then (if a0 ≤ 57 then (some true) else (if a0 = 45 then (some true) else (if a0 = 95 then (some true) else (if a0 = 46 then (some true) else (some (a0 == 47)))))) else (if a0 = 45 then (some true) else (if a0 = 95 then (some true) else (if a0 = 46 then (some true) else (some (a0 == 47)))))))) else (if a0 ≥ 65 then (if a0 ≤ 90 then (some true) else (if a0 ≥ 48 then (if a0 ≤ 57 then (some true) else (if a0 = 45 then (some true) else (if a0 = 95 then (some true) else (if a0 = 46 then (some true) else (some (a0 == 47)))))) else (if a0 = 45 then (some true) else (if a0 = 95 then (some true) else (if a0 = 46 then (some true) else (some (a0 == 47))))))) else (if a0 ≥ 48 then (if a0 ≤ 57 then (some true) else (if a0 = 45 then (some true) else (if a0 = 95 then (some true) else (if a0 = 46 then (some true) else (some (a0 == 47)))))) else (if a0 = 45 then (some true) else (if a0 = 95 then (some true) else (if a0 = 46 then (some true) else (some (a0 == 47)))))))) = some r := h
 clear h
 by_cases c2 : a0 ≥ 97
 ·rw [if_pos c2] at H
  have c2b0 : decide (97 ≤ a0) = true := decide_eq_true c2
  clear c2
  by_cases c3 : a0 ≤ 122
  ·rw [if_pos c3] at H
   have c3b0 : decide (a0 ≤ 122) = true := decide_eq_true c3
   clear c3
   obtain rfl := Option.some.inj H
   go_enter Try.func15, Try.ntmps15
   go_wp2
   go_ret
   exact ⟨by first | rfl | (simp; done) | (simp [*]; done), by repeat (first | exact Drawn0.refl _ | apply Drawn0.step)⟩
  ·rw [if_neg c3] at H
   have c3b0 : decide (a0 ≤ 122) = false := decide_eq_false c3
   clear c3
   by_cases c4 : a0 ≥ 65
   ·rw [if_pos c4] at H
    have c4b0 : decide (65 ≤ a0) = true := decide_eq_true c4
    clear c4
    by_cases c5 : a0 ≤ 90
    ·rw [if_pos c5] at H
     have c5b0 : decide (a0 ≤ 90) = true := decide_eq_true c5
     clear c5
     obtain rfl := Option.some.inj H
     go_enter Try.func15, Try.ntmps15
     go_wp2
     go_ret
     exact ⟨by first | rfl | (simp; done) | (simp [*]; done), by repeat (first | exact Drawn0.refl _ | apply Drawn0.step)⟩
    ·rw [if_neg c5] at H
     have c5b0 : decide (a0 ≤ 90) = false := decide_eq_false c5
     clear c5
     by_cases c6 : a0 ≥ 48
     ·rw [if_pos c6] at H
      have c6b0 : decide (48 ≤ a0) = true := decide_eq_true c6
      clear c6
      by_cases c7 : a0 ≤ 57
      ·rw [if_pos c7] at H
       have c7b0 : decide (a0 ≤ 57) = true := decide_eq_true c7
       clear c7
       obtain rfl := Option.some.inj H
       go_enter Try.func15, Try.ntmps15
       go_wp2
       go_ret
       exact ⟨by first | rfl | (simp; done) | (simp [*]; done), by repeat (first | exact Drawn0.refl _ | apply Drawn0.step)⟩
      ·rw [if_neg c7] at H
       have c7b0 : decide (a0 ≤ 57) = false := decide_eq_false c7
       clear c7
       by_cases c8 : a0 = 45
       ·rw [if_pos c8] at H
        have c8b0 : (a0 == 45) = true := beq_iff_eq.mpr c8
        have c8b1 : (a0 != 45) = false := bne_eq_false_iff_eq.mpr c8
        clear c8
        obtain rfl := Option.some.inj H
        go_enter Try.func15, Try.ntmps15
        go_wp2
        go_ret
        exact ⟨by first | rfl | (simp; done) | (simp [*]; done), by repeat (first | exact Drawn0.refl _ | apply Drawn0.step)⟩
       ·rw [if_neg c8] at H
        have c8b0 : (a0 == 45) = false := beq_eq_false_iff_ne.mpr c8
        have c8b1 : (a0 != 45) = true := bne_iff_ne.mpr c8
        by_cases c9 : a0 = 95
        ·rw [if_pos c9] at H
         have c9b0 : (a0 == 95) = true := beq_iff_eq.mpr c9
         have c9b1 : (a0 != 95) = false := bne_eq_false_iff_eq.mpr c9
         clear c9
         obtain rfl := Option.some.inj H
         go_enter Try.func15, Try.ntmps15
         go_wp2
         go_ret
         exact ⟨by first | rfl | (simp; done) | (simp [*]; done), by repeat (first | exact Drawn0.refl _ | apply Drawn0.step)⟩
        ·rw [if_neg c9] at H
         have c9b0 : (a0 == 95) = false := beq_eq_false_iff_ne.mpr c9
         have c9b1 : (a0 != 95) = true := bne_iff_ne.mpr c9
         by_cases c10 : a0 = 46
         ·rw [if_pos c10] at H
          have c10b0 : (a0 == 46) = true := beq_iff_eq.mpr c10
          have c10b1 : (a0 != 46) = false := bne_eq_false_iff_eq.mpr c10
          clear c10
          obtain rfl := Option.some.inj H
          go_enter Try.func15, Try.ntmps15
          go_wp2
          go_ret
          exact ⟨by first | rfl | (simp; done) | (simp [*]; done), by repeat (first | exact Drawn0.refl _ | apply Drawn0.step)⟩
         ·rw [if_neg c10] at H
          have c10b0 : (a0 == 46) = false := beq_eq_false_iff_ne.mpr c10
          have c10b1 : (a0 != 46) = true := bne_iff_ne.mpr c10
          obtain rfl := Option.some.inj H
          go_enter Try.func15, Try.ntmps15
          go_wp2
          go_ret
          exact ⟨by first | rfl | (simp; done) | (simp [*]; done), by repeat (first | exact Drawn0.refl _ | apply Drawn0.step)⟩
     ·rw [if_neg c6] at H
      have c6b0 : decide (48 ≤ a0) = false := decide_eq_false c6
      clear c6
      by_cases c11 : a0 = 45
      ·rw [if_pos c11] at H
       have c11b0 : (a0 == 45) = true := beq_iff_eq.mpr c11
       have c11b1 : (a0 != 45) = false := bne_eq_false_iff_eq.mpr c11
       clear c11
       obtain rfl := Option.some.inj H
       go_enter Try.func15, Try.ntmps15
       go_wp2
       go_ret
       exact ⟨by first | rfl | (simp; done) | (simp [*]; done), by repeat (first | exact Drawn0.refl _ | apply Drawn0.step)⟩
      ·rw [if_neg c11] at H
       have c11b0 : (a0 == 45) = false := beq_eq_false_iff_ne.mpr c11
       have c11b1 : (a0 != 45) = true := bne_iff_ne.mpr c11
       by_cases c12 : a0 = 95
       ·rw [if_pos c12] at H
        have c12b0 : (a0 == 95) = true := beq_iff_eq.mpr c12
        have c12b1 : (a0 != 95) = false := bne_eq_false_iff_eq.mpr c12
        clear c12
        obtain rfl := Option.some.inj H
        go_enter Try.func15, Try.ntmps15
        go_wp2
        go_ret
        exact ⟨by first | rfl | (simp; done) | (simp [*]; done), by repeat (first | exact Drawn0.refl _ | apply Drawn0.step)⟩
       ·rw [if_neg c12] at H
        have c12b0 : (a0 == 95) = false := beq_eq_false_iff_ne.mpr c12
        have c12b1 : (a0 != 95) = true := bne_iff_ne.mpr c12
        by_cases c13 : a0 = 46
        ·rw [if_pos c13] at H
         have c13b0 : (a0 == 46) = true := beq_iff_eq.mpr c13
         have c13b1 : (a0 != 46) = false := bne_eq_false_iff_eq.mpr c13
         clear c13
         obtain rfl := Option.some.inj H
         go_enter Try.func15, Try.ntmps15
         go_wp2
         go_ret
         exact ⟨by first | rfl | (simp; done) | (simp [*]; done), by repeat (first | exact Drawn0.refl _ | apply Drawn0.step)⟩
        ·rw [if_neg c13] at H
         have c13b0 : (a0 == 46) = false := beq_eq_false_iff_ne.mpr c13
         have c13b1 : (a0 != 46) = true := bne_iff_ne.mpr c13
         obtain rfl := Option.some.inj H
         go_enter Try.func15, Try.ntmps15
         go_wp2
         go_ret
         exact ⟨by first | rfl | (simp; done) | (simp [*]; done), by repeat (first | exact Drawn0.refl _ | apply Drawn0.step)⟩
   ·rw [if_neg c4] at H
    have c4b0 : decide (65 ≤ a0) = false := decide_eq_false c4
    clear c4
    by_cases c14 : a0 ≥ 48
    ·rw [if_pos c14] at H
     have c14b0 : decide (48 ≤ a0) = true := decide_eq_true c14
     clear c14
     by_cases c15 : a0 ≤ 57
     ·rw [if_pos c15] at H
      have c15b0 : decide (a0 ≤ 57) = true := decide_eq_true c15
      clear c15
      obtain rfl := Option.some.inj H
      go_enter Try.func15, Try.ntmps15
      go_wp2
      go_ret
      exact ⟨by first | rfl | (simp; done) | (simp [*]; done), by repeat (first | exact Drawn0.refl _ | apply Drawn0.step)⟩
     ·rw [if_neg c15] at H
      have c15b0 : decide (a0 ≤ 57) = false := decide_eq_false c15
      clear c15
      by_cases c16 : a0 = 45
      ·rw [if_pos c16] at H
       have c16b0 : (a0 == 45) = true := beq_iff_eq.mpr c16
       have c16b1 : (a0 != 45) = false := bne_eq_false_iff_eq.mpr c16
       clear c16
       obtain rfl := Option.some.inj H
       go_enter Try.func15, Try.ntmps15
       go_wp2
       go_ret
       exact ⟨by first | rfl | (simp; done) | (simp [*]; done), by repeat (first | exact Drawn0.refl _ | apply Drawn0.step)⟩
      ·rw [if_neg c16] at H
       have c16b0 : (a0 == 45) = false := beq_eq_false_iff_ne.mpr c16
       have c16b1 : (a0 != 45) = true := bne_iff_ne.mpr c16
       by_cases c17 : a0 = 95
       ·rw [if_pos c17] at H
        have c17b0 : (a0 == 95) = true := beq_iff_eq.mpr c17
        have c17b1 : (a0 != 95) = false := bne_eq_false_iff_eq.mpr c17
        clear c17
        obtain rfl := Option.some.inj H
        go_enter Try.func15, Try.ntmps15
        go_wp2
        go_ret
        exact ⟨by first | rfl | (simp; done) | (simp [*]; done), by repeat (first | exact Drawn0.refl _ | apply Drawn0.step)⟩
       ·rw [if_neg c17] at H
        have c17b0 : (a0 == 95) = false := beq_eq_false_iff_ne.mpr c17
        have c17b1 : (a0 != 95) = true := bne_iff_ne.mpr c17
        by_cases c18 : a0 = 46
        ·rw [if_pos c18] at H
         have c18b0 : (a0 == 46) = true := beq_iff_eq.mpr c18
         have c18b1 : (a0 != 46) = false := bne_eq_false_iff_eq.mpr c18
         clear c18
         obtain rfl := Option.some.inj H
         go_enter Try.func15, Try.ntmps15
         go_wp2
         go_ret
         exact ⟨by first | rfl | (simp; done) | (simp [*]; done), by repeat (first | exact Drawn0.refl _ | apply Drawn0.step)⟩
        ·rw [if_neg c18] at H
         have c18b0 : (a0 == 46) = false := beq_eq_false_iff_ne.mpr c18
         have c18b1 : (a0 != 46) = true := bne_iff_ne.mpr c18
         obtain rfl := Option.some.inj H
         go_enter Try.func15, Try.ntmps15
         go_wp2
         go_ret
         exact ⟨by first | rfl | (simp; done) | (simp [*]; done), by repeat (first | exact Drawn0.refl _ | apply Drawn0.step)⟩
    ·rw [if_neg c14] at H
     have c14b0 : decide (48 ≤ a0) = false := decide_eq_false c14
     clear c14
     by_cases c19 : a0 = 45
     ·rw [if_pos c19] at H
      have c19b0 : (a0 == 45) = true := beq_iff_eq.mpr c19
      have c19b1 : (a0 != 45) = false := bne_eq_false_iff_eq.mpr c19
      clear c19
      obtain rfl := Option.some.inj H
      go_enter Try.func15, Try.ntmps15
      go_wp2
      go_ret
      exact ⟨by first | rfl | (simp; done) | (simp [*]; done), by repeat (first | exact Drawn0.refl _ | apply Drawn0.step)⟩
     ·rw [if_neg c19] at H
      have c19b0 : (a0 == 45) = false := beq_eq_false_iff_ne.mpr c19
      have c19b1 : (a0 != 45) = true := bne_iff_ne.mpr c19
      by_cases c20 : a0 = 95
      ·rw [if_pos c20] at H
       have c20b0 : (a0 == 95) = true := beq_iff_eq.mpr c20
       have c20b1 : (a0 != 95) = false := bne_eq_false_iff_eq.mpr c20
       clear c20
       obtain rfl := Option.some.inj H
       go_enter Try.func15, Try.ntmps15
       go_wp2
       go_ret
       exact ⟨by first | rfl | (simp; done) | (simp [*]; done), by repeat (first | exact Drawn0.refl _ | apply Drawn0.step)⟩
      ·rw [if_neg c20] at H
       have c20b0 : (a0 == 95) = false := beq_eq_false_iff_ne.mpr c20
       have c20b1 : (a0 != 95) = true := bne_iff_ne.mpr c20
       by_cases c21 : a0 = 46
       ·rw [if_pos c21] at H
        have c21b0 : (a0 == 46) = true := beq_iff_eq.mpr c21
        have c21b1 : (a0 != 46) = false := bne_eq_false_iff_eq.mpr c21
        clear c21
        obtain rfl := Option.some.inj H
        go_enter Try.func15, Try.ntmps15
        go_wp2
        go_ret
        exact ⟨by first | rfl | (simp; done) | (simp [*]; done), by repeat (first | exact Drawn0.refl _ | apply Drawn0.step)⟩
       ·rw [if_neg c21] at H
        have c21b0 : (a0 == 46) = false := beq_eq_false_iff_ne.mpr c21
        have c21b1 : (a0 != 46) = true := bne_iff_ne.mpr c21
        obtain rfl := Option.some.inj H
        go_enter Try.func15, Try.ntmps15
        go_wp2
        go_ret
        exact ⟨by first | rfl | (simp; done) | (simp [*]; done), by repeat (first | exact Drawn0.refl _ | apply Drawn0.step)⟩
 ·rw [if_neg c2] at H
  have c2b0 : decide (97 ≤ a0) = false := decide_eq_false c2
  clear c2
  by_cases c22 : a0 ≥ 65
  ·rw [if_pos c22] at H
   have c22b0 : decide (65 ≤ a0) = true := decide_eq_true c22
   clear c22
   by_cases c23 : a0 ≤ 90
   ·rw [if_pos c23] at H
    have c23b0 : decide (a0 ≤ 90) = true := decide_eq_true c23
    clear c23
    obtain rfl := Option.some.inj H
    go_enter Try.func15, Try.ntmps15
    go_wp2
    go_ret
    exact ⟨by first | rfl | (simp; done) | (simp [*]; done), by repeat (first | exact Drawn0.refl _ | apply Drawn0.step)⟩
   ·rw [if_neg c23] at H
    have c23b0 : decide (a0 ≤ 90) = false := decide_eq_false c23
    clear c23
    by_cases c24 : a0 ≥ 48
    ·rw [if_pos c24] at H
     have c24b0 : decide (48 ≤ a0) = true := decide_eq_true c24
     clear c24
     by_cases c25 : a0 ≤ 57
     ·rw [if_pos c25] at H
      have c25b0 : decide (a0 ≤ 57) = true := decide_eq_true c25
      clear c25
      obtain rfl := Option.some.inj H
      go_enter Try.func15, Try.ntmps15
      go_wp2
      go_ret
      exact ⟨by first | rfl | (simp; done) | (simp [*]; done), by repeat (first | exact Drawn0.refl _ | apply Drawn0.step)⟩
     ·rw [if_neg c25] at H
      have c25b0 : decide (a0 ≤ 57) = false := decide_eq_false c25
      clear c25
      by_cases c26 : a0 = 45
      ·rw [if_pos c26] at H
       have c26b0 : (a0 == 45) = true := beq_iff_eq.mpr c26
       have c26b1 : (a0 != 45) = false := bne_eq_false_iff_eq.mpr c26
       clear c26
       obtain rfl := Option.some.inj H
       go_enter Try.func15, Try.ntmps15
       go_wp2
       go_ret
       exact ⟨by first | rfl | (simp; done) | (simp [*]; done), by repeat (first | exact Drawn0.refl _ | apply Drawn0.step)⟩
      ·rw [if_neg c26] at H
       have c26b0 : (a0 == 45) = false := beq_eq_false_iff_ne.mpr c26
       have c26b1 : (a0 != 45) = true := bne_iff_ne.mpr c26
       by_cases c27 : a0 = 95
       ·rw [if_pos c27] at H
        have c27b0 : (a0 == 95) = true := beq_iff_eq.mpr c27
        have c27b1 : (a0 != 95) = false := bne_eq_false_iff_eq.mpr c27
        clear c27
        obtain rfl := Option.some.inj H
        go_enter Try.func15, Try.ntmps15
        go_wp2
        go_ret
        exact ⟨by first | rfl | (simp; done) | (simp [*]; done), by repeat (first | exact Drawn0.refl _ | apply Drawn0.step)⟩
       ·rw [if_neg c27] at H
        have c27b0 : (a0 == 95) = false := beq_eq_false_iff_ne.mpr c27
        have c27b1 : (a0 != 95) = true := bne_iff_ne.mpr c27
        by_cases c28 : a0 = 46
        ·rw [if_pos c28] at H
         have c28b0 : (a0 == 46) = true := beq_iff_eq.mpr c28
         have c28b1 : (a0 != 46) = false := bne_eq_false_iff_eq.mpr c28
         clear c28
         obtain rfl := Option.some.inj H
         go_enter Try.func15, Try.ntmps15
         go_wp2
         go_ret
         exact ⟨by first | rfl | (simp; done) | (simp [*]; done), by repeat (first | exact Drawn0.refl _ | apply Drawn0.step)⟩
        ·rw [if_neg c28] at H
         have c28b0 : (a0 == 46) = false := beq_eq_false_iff_ne.mpr c28
         have c28b1 : (a0 != 46) = true := bne_iff_ne.mpr c28
         obtain rfl := Option.some.inj H
         go_enter Try.func15, Try.ntmps15
         go_wp2
         go_ret
         exact ⟨by first | rfl | (simp; done) | (simp [*]; done), by repeat (first | exact Drawn0.refl _ | apply Drawn0.step)⟩
    ·rw [if_neg c24] at H
     have c24b0 : decide (48 ≤ a0) = false := decide_eq_false c24
     clear c24
     by_cases c29 : a0 = 45
     ·rw [if_pos c29] at H
      have c29b0 : (a0 == 45) = true := beq_iff_eq.mpr c29
      have c29b1 : (a0 != 45) = false := bne_eq_false_iff_eq.mpr c29
      clear c29
      obtain rfl := Option.some.inj H
      go_enter Try.func15, Try.ntmps15
      go_wp2
      go_ret
      exact ⟨by first | rfl | (simp; done) | (simp [*]; done), by repeat (first | exact Drawn0.refl _ | apply Drawn0.step)⟩
     ·rw [if_neg c29] at H
      have c29b0 : (a0 == 45) = false := beq_eq_false_iff_ne.mpr c29
      have c29b1 : (a0 != 45) = true := bne_iff_ne.mpr c29
      by_cases c30 : a0 = 95
      ·rw [if_pos c30] at H
       have c30b0 : (a0 == 95) = true := beq_iff_eq.mpr c30
       have c30b1 : (a0 != 95) = false := bne_eq_false_iff_eq.mpr c30
       clear c30
       obtain rfl := Option.some.inj H
       go_enter Try.func15, Try.ntmps15
       go_wp2
       go_ret
       exact ⟨by first | rfl | (simp; done) | (simp [*]; done), by repeat (first | exact Drawn0.refl _ | apply Drawn0.step)⟩
      ·rw [if_neg c30] at H
       have c30b0 : (a0 == 95) = false := beq_eq_false_iff_ne.mpr c30
       have c30b1 : (a0 != 95) = true := bne_iff_ne.mpr c30
       by_cases c31 : a0 = 46
       ·rw [if_pos c31] at H
        have c31b0 : (a0 == 46) = true := beq_iff_eq.mpr c31
        have c31b1 : (a0 != 46) = false := bne_eq_false_iff_eq.mpr c31
        clear c31
        obtain rfl := Option.some.inj H
        go_enter Try.func15, Try.ntmps15
        go_wp2
        go_ret
        exact ⟨by first | rfl | (simp; done) | (simp [*]; done), by repeat (first | exact Drawn0.refl _ | apply Drawn0.step)⟩
       ·rw [if_neg c31] at H
        have c31b0 : (a0 == 46) = false := beq_eq_false_iff_ne.mpr c31
        have c31b1 : (a0 != 46) = true := bne_iff_ne.mpr c31
        obtain rfl := Option.some.inj H
        go_enter Try.func15, Try.ntmps15
        go_wp2
        go_ret
        exact ⟨by first | rfl | (simp; done) | (simp [*]; done), by repeat (first | exact Drawn0.refl _ | apply Drawn0.step)⟩
  ·rw [if_neg c22] at H
   have c22b0 : decide (65 ≤ a0) = false := decide_eq_false c22
   clear c22
   by_cases c32 : a0 ≥ 48
   ·rw [if_pos c32] at H
    have c32b0 : decide (48 ≤ a0) = true := decide_eq_true c32
    clear c32
    by_cases c33 : a0 ≤ 57
    ·rw [if_pos c33] at H
     have c33b0 : decide (a0 ≤ 57) = true := decide_eq_true c33
     clear c33
     obtain rfl := Option.some.inj H
     go_enter Try.func15, Try.ntmps15
     go_wp2
     go_ret
     exact ⟨by first | rfl | (simp; done) | (simp [*]; done), by repeat (first | exact Drawn0.refl _ | apply Drawn0.step)⟩
    ·rw [if_neg c33] at H
     have c33b0 : decide (a0 ≤ 57) = false := decide_eq_false c33
     clear c33
     by_cases c34 : a0 = 45
     ·rw [if_pos c34] at H
      have c34b0 : (a0 == 45) = true := beq_iff_eq.mpr c34
      have c34b1 : (a0 != 45) = false := bne_eq_false_iff_eq.mpr c34
      clear c34
      obtain rfl := Option.some.inj H
      go_enter Try.func15, Try.ntmps15
      go_wp2
      go_ret
      exact ⟨by first | rfl | (simp; done) | (simp [*]; done), by repeat (first | exact Drawn0.refl _ | apply Drawn0.step)⟩
     ·rw [if_neg c34] at H
      have c34b0 : (a0 == 45) = false := beq_eq_false_iff_ne.mpr c34
      have c34b1 : (a0 != 45) = true := bne_iff_ne.mpr c34
      by_cases c35 : a0 = 95
      ·rw [if_pos c35] at H
       have c35b0 : (a0 == 95) = true := beq_iff_eq.mpr c35
       have c35b1 : (a0 != 95) = false := bne_eq_false_iff_eq.mpr c35
       clear c35
       obtain rfl := Option.some.inj H
       go_enter Try.func15, Try.ntmps15
       go_wp2
       go_ret
       exact ⟨by first | rfl | (simp; done) | (simp [*]; done), by repeat (first | exact Drawn0.refl _ | apply Drawn0.step)⟩
      ·rw [if_neg c35] at H
       have c35b0 : (a0 == 95) = false := beq_eq_false_iff_ne.mpr c35
       have c35b1 : (a0 != 95) = true := bne_iff_ne.mpr c35
       by_cases c36 : a0 = 46
       ·rw [if_pos c36] at H
        have c36b0 : (a0 == 46) = true := beq_iff_eq.mpr c36
        have c36b1 : (a0 != 46) = false := bne_eq_false_iff_eq.mpr c36
        clear c36
        obtain rfl := Option.some.inj H
        go_enter Try.func15, Try.ntmps15
        go_wp2
        go_ret
        exact ⟨by first | rfl | (simp; done) | (simp [*]; done), by repeat (first | exact Drawn0.refl _ | apply Drawn0.step)⟩
       ·rw [if_neg c36] at H
        have c36b0 : (a0 == 46) = false := beq_eq_false_iff_ne.mpr c36
        have c36b1 : (a0 != 46) = true := bne_iff_ne.mpr c36
        obtain rfl := Option.some.inj H
        go_enter Try.func15, Try.ntmps15
        go_wp2
        go_ret
        exact ⟨by first | rfl | (simp; done) | (simp [*]; done), by repeat (first | exact Drawn0.refl _ | apply Drawn0.step)⟩
   ·rw [if_neg c32] at H
    have c32b0 : decide (48 ≤ a0) = false := decide_eq_false c32
    clear c32
    by_cases c37 : a0 = 45
    ·rw [if_pos c37] at H
     have c37b0 : (a0 == 45) = true := beq_iff_eq.mpr c37
     have c37b1 : (a0 != 45) = false := bne_eq_false_iff_eq.mpr c37
     clear c37
     obtain rfl := Option.some.inj H
     go_enter Try.func15, Try.ntmps15
     go_wp2
     go_ret
     exact ⟨by first | rfl | (simp; done) | (simp [*]; done), by repeat (first | exact Drawn0.refl _ | apply Drawn0.step)⟩
    ·rw [if_neg c37] at H
     have c37b0 : (a0 == 45) = false := beq_eq_false_iff_ne.mpr c37
     have c37b1 : (a0 != 45) = true := bne_iff_ne.mpr c37
     by_cases c38 : a0 = 95
     ·rw [if_pos c38] at H
      have c38b0 : (a0 == 95) = true := beq_iff_eq.mpr c38
      have c38b1 : (a0 != 95) = false := bne_eq_false_iff_eq.mpr c38
      clear c38
      obtain rfl := Option.some.inj H
      go_enter Try.func15, Try.ntmps15
      go_wp2
      go_ret
      exact ⟨by first | rfl | (simp; done) | (simp [*]; done), by repeat (first | exact Drawn0.refl _ | apply Drawn0.step)⟩
     ·rw [if_neg c38] at H
      have c38b0 : (a0 == 95) = false := beq_eq_false_iff_ne.mpr c38
      have c38b1 : (a0 != 95) = true := bne_iff_ne.mpr c38
      by_cases c39 : a0 = 46
      ·rw [if_pos c39] at H
       have c39b0 : (a0 == 46) = true := beq_iff_eq.mpr c39
       have c39b1 : (a0 != 46) = false := bne_eq_false_iff_eq.mpr c39
       clear c39
       obtain rfl := Option.some.inj H
       go_enter Try.func15, Try.ntmps15
       go_wp2
       go_ret
       exact ⟨by first | rfl | (simp; done) | (simp [*]; done), by repeat (first | exact Drawn0.refl _ | apply Drawn0.step)⟩
      ·rw [if_neg c39] at H
       have c39b0 : (a0 == 46) = false := beq_eq_false_iff_ne.mpr c39
       have c39b1 : (a0 != 46) = true := bne_iff_ne.mpr c39
       obtain rfl := Option.some.inj H
       go_enter Try.func15, Try.ntmps15
       go_wp2
       go_ret
       exact ⟨by first | rfl | (simp; done) | (simp [*]; done), by repeat (first | exact Drawn0.refl _ | apply Drawn0.step)⟩

/-! ### name_Right: function 7 -/
def name_Right.l0 : Nat → ByteArray → Int → Int → Option (Bool)
 | 0, _, _, _ => none
 | k + 1, x0, x5, x6 => if x6 < x5 then (if 0 ≤ x6 then (if x6 < (x0.size : Int) then ((name_sign.f (bt x0 x6)).bind fun t101 => (if t101 = true then (name_Right.l0 k x0 x5 (wrap64 (x6 + 1))) else (some false))) else (none)) else (none)) else (if (x0.size : Int) > 0 then (some (decide ((x0.size : Int) ≤ 32))) else (some false))
def name_Right.f (k : Nat) (a0 : ByteArray) : Option (Bool) := name_Right.l0 k a0 (a0.size : Int) 0
theorem name_Right.mono_l : ∀ k, (∀ y0 y1 y2, LeO (name_Right.l0 k y0 y1 y2) (name_Right.l0 (k + 1) y0 y1 y2))
 | 0 => fun _ _ _ r h => by simp [name_Right.l0] at h
 | k + 1 => by
  have ih0 := name_Right.mono_l k
  ·intro y0 y1 y2
   unfold name_Right.l0
   repeat' first
   | (with_reducible exact ih0 _ _ _)
   | (with_reducible exact LeO.refl _)
   | (with_reducible exact LeO.none _)
   | (with_reducible refine LeO.ite ?_ ?_)
   | (with_reducible refine LeO.bind ?_ (fun _ => ?_))
   | exact ih0 _ _ _
   | exact LeO.none _
   | refine LeO.ite ?_ ?_
   | refine LeO.bind ?_ (fun _ => ?_)
theorem name_Right.mono : ∀ a0 k, LeO (name_Right.f k a0) (name_Right.f (k + 1) a0) := by
 intro a0 k
 have ih0 := name_Right.mono_l k
 unfold name_Right.f
 repeat' first
   | (with_reducible exact ih0 _ _ _)
   | (with_reducible exact LeO.refl _)
   | (with_reducible exact LeO.none _)
   | (with_reducible refine LeO.ite ?_ ?_)
   | (with_reducible refine LeO.bind ?_ (fun _ => ?_))
   | exact ih0 _ _ _
   | exact LeO.none _
   | refine LeO.ite ?_ ?_
   | refine LeO.bind ?_ (fun _ => ?_)
set_option maxHeartbeats 8000000 in
set_option maxRecDepth 100000 in
theorem name_Right.calls (k : Nat) (a0 : ByteArray) (r : Bool) (w : World) (h : name_Right.f k a0 = some r) :
  Calls Try.prog 7 #[.string a0] w fun e w' => e = .returned (.bool r) ∧ Drawn0 w w' := by
 have H : (name_Right.l0 k a0 (a0.size : Int) 0) = some r := h
 clear h
 have H' := Aside0.mk H
 clear H
 go_enter Try.func7, Try.ntmps7
 go_wp2
 go_loopg [6] k (fun kq v6 w' => ∃ (x6_1 : Int), v6 = .int .i64 x6_1 ∧ Aside0 (name_Right.l0 kq a0 (a0.size : Int) x6_1 = some r) ∧ Aside0 (kq ≤ k) ∧ Drawn0 w w')
 case atStart => exact ⟨(0), (by first | rfl | (simp; done) | (simp [*]; done)), H', ⟨Nat.le_refl _⟩, by repeat (first | exact Drawn0.refl _ | apply Drawn0.step)⟩
 case round =>
  clear H'
  obtain ⟨x6_1, rfl, HA, HK1, ⟨m1, rfl⟩⟩ := hrel
  cases gk with
  | zero => exact absurd HA.out (by simp [name_Right.l0])
  | succ k1 =>
   have H := HA.out
   clear HA
   simp only [name_Right.l0] at H
   by_cases c2 : x6_1 < (a0.size : Int)
   ·rw [if_pos c2] at H
    have c2b0 : decide (x6_1 < (a0.size : Int)) = true := decide_eq_true c2
    clear c2
    by_cases c3 : 0 ≤ x6_1
    ·rw [if_pos c3] at H
     have c3b0 : decide (0 ≤ x6_1) = true := decide_eq_true c3
     clear c3
     by_cases c4 : x6_1 < (a0.size : Int)
     ·rw [if_pos c4] at H
      have c4b0 : decide (x6_1 < (a0.size : Int)) = true := decide_eq_true c4
      clear c4
      replace H := Option.bind_eq_some_iff.mp H
      obtain ⟨t101, A60, H⟩ := H
      replace H : (if t101 = true then (name_Right.l0 k1 a0 (a0.size : Int) (wrap64 (x6_1 + 1))) else (some false)) = some r := H
      have A6 := Aside0.mk A60
      clear A60
      by_cases c7 : t101 = true
      ·subst c7
       have H1 : (name_Right.l0 k1 a0 (a0.size : Int) (wrap64 (x6_1 + 1))) = some r := by rw [if_pos rfl] at H; exact H
       clear H
       have H := H1
       clear H1
       have H' := Aside0.mk H
       clear H
       have p5 : 0 ≤ (x6_1 : Int) := of_decide_eq_true (by first | (with_reducible assumption) | assumption)
       have q5 : x6_1 < (a0.size : Int) := of_decide_eq_true (by first | (with_reducible assumption) | assumption)
       have hx5 := bt_at a0 x6_1
       replace p5 := eq_true p5
       replace q5 := eq_true q5
       go_wp2_with (first | ((with_reducible refine gate_callee (f := 15) rfl ?_); refine goesL_ (some 12) rfl rfl Try.func15 (by kernel_rfl) rfl #[.int .u8 (bt a0 x6_1)] rfl argN ?_; (with_reducible refine (name_sign.calls (bt a0 x6_1) true _ A6.out).mono ?_); rintro e w' ⟨rfl, ⟨nd, rfl⟩⟩; refine ⟨_, rfl, ?_⟩))
       go_roundg k1
       case measure => have := HK1.out; omega
       case rel => exact ⟨(wrap64 (x6_1 + 1)), (by first | rfl | (simp; done) | (simp [*]; done)), H', ⟨by have := HK1.out; omega⟩, by repeat (first | exact Drawn0.refl _ | apply Drawn0.step)⟩
      ·replace c7 := Bool.eq_false_iff.mpr c7
       subst c7
       have H1 : (some false) = some r := by rw [if_neg (show ¬ (false = true) by decide)] at H; exact H
       clear H
       have H := H1
       clear H1
       obtain rfl := Option.some.inj H
       have p5 : 0 ≤ (x6_1 : Int) := of_decide_eq_true (by first | (with_reducible assumption) | assumption)
       have q5 : x6_1 < (a0.size : Int) := of_decide_eq_true (by first | (with_reducible assumption) | assumption)
       have hx5 := bt_at a0 x6_1
       replace p5 := eq_true p5
       replace q5 := eq_true q5
       go_wp2_with (first | ((with_reducible refine gate_callee (f := 15) rfl ?_); refine goesL_ (some 12) rfl rfl Try.func15 (by kernel_rfl) rfl #[.int .u8 (bt a0 x6_1)] rfl argN ?_; (with_reducible refine (name_sign.calls (bt a0 x6_1) false _ A6.out).mono ?_); rintro e w' ⟨rfl, ⟨nd, rfl⟩⟩; refine ⟨_, rfl, ?_⟩))
       go_ret
       exact ⟨by first | rfl | (simp; done) | (simp [*]; done), by repeat (first | exact Drawn0.refl _ | apply Drawn0.step)⟩
     ·rw [if_neg c4] at H
      exact absurd H (by simp)
    ·rw [if_neg c3] at H
     exact absurd H (by simp)
   ·rw [if_neg c2] at H
    have c2b0 : decide (x6_1 < (a0.size : Int)) = false := decide_eq_false c2
    clear c2
    by_cases c8 : (a0.size : Int) > 0
    ·rw [if_pos c8] at H
     have c8b0 : decide (0 < (a0.size : Int)) = true := decide_eq_true c8
     have c8b1 : decide (0 < a0.size) = true := decide_eq_true (by omega)
     clear c8
     obtain rfl := Option.some.inj H
     go_wp2
     go_ret
     exact ⟨by first | rfl | (simp; done) | (simp [*]; done), by repeat (first | exact Drawn0.refl _ | apply Drawn0.step)⟩
    ·rw [if_neg c8] at H
     have c8b0 : decide (0 < (a0.size : Int)) = false := decide_eq_false c8
     have c8b1 : decide (0 < a0.size) = false := decide_eq_false (by omega)
     clear c8
     obtain rfl := Option.some.inj H
     go_wp2
     go_ret
     exact ⟨by first | rfl | (simp; done) | (simp [*]; done), by repeat (first | exact Drawn0.refl _ | apply Drawn0.step)⟩

end Go.Proofs.Ytfijbkabjmgomaa.PNameTells

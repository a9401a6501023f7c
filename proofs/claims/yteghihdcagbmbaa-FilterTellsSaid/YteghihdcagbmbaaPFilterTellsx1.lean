/- The walk of the Go functions that a law reaches, told as plain functions; a program of this session has written it. No condition beyond the statement's own. -/
import Derived.Test.YteghihdcagbmbaaPFilterTellsx0
namespace Go.Proofs.Yteghihdcagbmbaa.PFilterTells
open Go.RowKit Go.Proofs.YteghihdcagbmbaaW.PrintWords Go.Proofs.YteghihdcagbmbaaW.PrintLast Go.Proofs.YteghihdcagbmbaaW.PrintMore
attribute [local go_sem] max2_int min2_int max_two min_two max_three min_three max_four min_four   -- for this text's walks alone
set_option linter.unusedVariables false
set_option linter.unusedSimpArgs false

/-! ### proofs that a long text holds many times, by their name -/
theorem blkN {p q : Prop} (h : q) (k : q → p := by intro h_; (with_reducible repeat (first | refine blk_drewN ?_ _ | refine blk_drew ?_ | refine blk_alloc ?_ _)); exact h_) : p := k h
theorem blkF {p q : Prop} (h : q) (k : q → p := by intro h_; (repeat (first | (with_reducible first | refine blk_drewN ?_ _ | refine blk_drew ?_ | refine blk_alloc ?_ _) | refine blk_far ?_ (Aside0.out (by assumption)) _)); exact h_) : p := k h
theorem blk_ne1 {W : World} {g g2 : Nat} {o : Obj} (hg : g2 = W.heap.size) (h : W.heap[g]? = some o) : g ≠ g2 := by rw [hg]; exact Nat.ne_of_lt (blk_lt h)
theorem blk_ne2 {W : World} {g g2 : Nat} {o : Obj} (hg : g2 = W.heap.size) (h : W.heap[g]? = some o) : g2 ≠ g := (blk_ne1 hg h).symm
theorem cellNe {w : World} {a : Addr} {v : Value} {n g : Nat} (h : w.cell? a = some v) (hg : w.heap.size ≤ g) (k : a.block < w.heap.size → n < w.heap.size := by intro this; first | rwa [add_block] at this | exact this) : n ≠ g := Nat.ne_of_lt (Nat.lt_of_lt_of_le (k (World.block_lt_of_cell? _ _ h)) hg)
theorem cellB {w w' : World} {a : Addr} {v : Value} (hb : Below w.heap.size w w') (h : w.cell? a = some v) : w'.cell? a = some v := (hb.cell (World.block_lt_of_cell? w _ h)).trans h
theorem argN {p : Prop} (h : p := by (try simp only [List.map_toArray, List.map_cons, List.map_nil]); first | done | rfl | (simp only [List.length_drop, List.length_take]; rfl)) : p := h
theorem belN {p q : Prop} (h : q) (k : q → p := by intro h_; repeat (first | (with_reducible first | exact h_ | apply below_alloc | apply pw_below_drewN | apply below_drew1) | exact h_)) : p := k h
theorem belS {p q : Prop} (h : q) (k : q → p := by intro h_; repeat (first | (with_reducible first | exact h_ | apply below_alloc | apply pw_below_drewN | apply below_drew1 | refine below_set ?_ (Aside0.out (by assumption))) | exact h_)) : p := k h
theorem bkB {w W w1 : World} {g : Nat} {o : Obj} (h : w.heap[g]? = some o) (hb : Below W.heap.size W w1) (k : w.heap[g]? = some o → W.heap[g]? = some o := by intro h_; (with_reducible repeat (first | refine blk_drewN ?_ _ | refine blk_drew ?_ | refine blk_alloc ?_ _)); exact h_) : w1.heap[g]? = some o := blk_below (k h) hb
theorem bkBF {w W w1 : World} {g : Nat} {o : Obj} (h : w.heap[g]? = some o) (hb : Below W.heap.size W w1) (k : w.heap[g]? = some o → W.heap[g]? = some o := by intro h_; (repeat (first | (with_reducible first | refine blk_drewN ?_ _ | refine blk_drew ?_ | refine blk_alloc ?_ _) | refine blk_far ?_ (Aside0.out (by assumption)) _)); exact h_) : w1.heap[g]? = some o := blk_below (k h) hb
theorem bk1 {w W : World} {g g2 : Nat} {o : Obj} (hg : g2 = W.heap.size) (h : w.heap[g]? = some o) (k : w.heap[g]? = some o → W.heap[g]? = some o := by intro h_; (with_reducible repeat (first | refine blk_drewN ?_ _ | refine blk_drew ?_ | refine blk_alloc ?_ _)); exact h_) : g ≠ g2 := blk_ne1 hg (k h)
theorem bk2 {w W : World} {g g2 : Nat} {o : Obj} (hg : g2 = W.heap.size) (h : w.heap[g]? = some o) (k : w.heap[g]? = some o → W.heap[g]? = some o := by intro h_; (with_reducible repeat (first | refine blk_drewN ?_ _ | refine blk_drew ?_ | refine blk_alloc ?_ _)); exact h_) : g2 ≠ g := blk_ne2 hg (k h)
theorem bk1F {w W : World} {g g2 : Nat} {o : Obj} (hg : g2 = W.heap.size) (h : w.heap[g]? = some o) (k : w.heap[g]? = some o → W.heap[g]? = some o := by intro h_; (repeat (first | (with_reducible first | refine blk_drewN ?_ _ | refine blk_drew ?_ | refine blk_alloc ?_ _) | refine blk_far ?_ (Aside0.out (by assumption)) _)); exact h_) : g ≠ g2 := blk_ne1 hg (k h)
theorem bk2F {w W : World} {g g2 : Nat} {o : Obj} (hg : g2 = W.heap.size) (h : w.heap[g]? = some o) (k : w.heap[g]? = some o → W.heap[g]? = some o := by intro h_; (repeat (first | (with_reducible first | refine blk_drewN ?_ _ | refine blk_drew ?_ | refine blk_alloc ?_ _) | refine blk_far ?_ (Aside0.out (by assumption)) _)); exact h_) : g2 ≠ g := blk_ne2 hg (k h)
theorem szB {w V W : World} {g : Nat} (hg : g = W.heap.size) (h : Below w.heap.size w V) (k : Below w.heap.size w V → Below w.heap.size w W := by intro h_; repeat (first | (with_reducible first | exact h_ | apply below_alloc | apply pw_below_drewN | apply below_drew1 | refine below_set ?_ (Aside0.out (by assumption))) | exact h_)) : w.heap.size ≤ g := by rw [hg]; exact below_size (k h)
theorem cbN {α : Type} {d : Kd α} {B : Nat} {w w0 w1 : World} {A_ : Option Addr} {n : Nat} {xs : List α} (h : d.C w0 A_ n xs) (hb : Below B w w1) (k : d.C w0 A_ n xs → d.C w A_ n xs := by intro h_; repeat (first | (with_reducible exact h_) | (with_reducible refine Kd.C_alloc ?_ _) | (with_reducible refine Kd.C_drewN ?_ _) | (with_reducible refine Kd.C_drew ?_) | exact h_)) (hB : B = w.heap.size := by rfl) : d.C w1 A_ n xs := Kd.C_below (k h) (hB ▸ hb)
/-- Which operations have come up, as a number: its bits. -/
def bA (n m : Nat) : Array Bool := ((List.range n).map fun i => m.testBit i).toArray
/-- A step that yields in every world, its side proofs told once; pU: an operation whose guard is off. -/
theorem pA {P : Program} {ops : Array Oper} {Q : Exit → Act → World → Prop} {md : Region.Mode} {S : World → Prop} {ds : List Nat} {T : Bool × List (List Nat × List Nat)} {oi : Oper} {v : Value} {fuel : Nat} {l : Array Bool} {a a' : Act} {w : World} (i : Nat) (N : Option Tmp) (l' : Array Bool) (hT : rtab md ops = T) (h : wpAnyLast P md ops Q S ds fuel l' a' w)
    (hi : ops[i]? = some oi := by rfl) (hN : oi.dst = N := by rfl) (hc : anyT T l.toList l'.toList i = true := by kernel_rfl) (hQ : ∀ c a w, Q (.panic c) (a.put oi.dst v) w → Q (.panic c) a w := by exact fun _ _ _ h => h)
    (hy : Region.wanted oi (yielded ops a.tmps) = true := by rfl) (hy' : ∀ w, (execOp a.eval oi).run P w = .ok (.value v) w := by intro w'; go_simp; with_reducible rfl)
    (ha : a.put N v = a' := by simp only [Act.put, List.setIfInBounds_toArray, List.set_cons_zero, List.set_cons_succ, i64_w, i32_w]; rfl) : wpAnyLast P md ops Q S ds (fuel + 1) l a w :=
  pure_ l' hi hN (any_of hT hc) hQ (Or.inl ⟨hy, hy'⟩) ha h
theorem pU {P : Program} {ops : Array Oper} {Q : Exit → Act → World → Prop} {md : Region.Mode} {S : World → Prop} {ds : List Nat} {T : Bool × List (List Nat × List Nat)} {oi : Oper} {fuel : Nat} {l : Array Bool} {a a' : Act} {w : World} (i : Nat) (N : Option Tmp) (l' : Array Bool) (hT : rtab md ops = T) (h : wpAnyLast P md ops Q S ds fuel l' a' w)
    (hi : ops[i]? = some oi := by rfl) (hN : oi.dst = N := by rfl) (hc : anyT T l.toList l'.toList i = true := by kernel_rfl) (hQ : ∀ c a w, Q (.panic c) (a.put oi.dst undef) w → Q (.panic c) a w := by exact fun _ _ _ h => h)
    (hy : Region.wanted oi (yielded ops a.tmps) = false := by rfl)
    (ha : a.put N undef = a' := by simp only [Act.put, List.setIfInBounds_toArray, List.set_cons_zero, List.set_cons_succ, i64_w, i32_w]; rfl) : wpAnyLast P md ops Q S ds (fuel + 1) l a w :=
  pure_ l' hi hN (any_of hT hc) hQ (Or.inr ⟨hy, rfl⟩) ha h
theorem rowN {p q : Prop} (h : q) (k : q → p := by intro h_; (with_reducible repeat (first | apply Kd.R_alloc | apply Kd.R_drewN | apply Kd.R_drew)); exact h_) : p := k h

/-! ### marigraphkeep_Keys: function 14 -/
def marigraphkeep_Keys.f  : Option (List ByteArray) := some (([(⟨#[104, 111, 115, 116]⟩ : ByteArray), (⟨#[100, 99]⟩ : ByteArray), (⟨#[105, 102]⟩ : ByteArray), (⟨#[120]⟩ : ByteArray)] : List ByteArray))
set_option maxHeartbeats 8000000 in
set_option maxRecDepth 100000 in
theorem marigraphkeep_Keys.calls  (r : List ByteArray) (w : World) (h : marigraphkeep_Keys.f  = some r) :
  Calls Try.prog 14 #[] w fun e w' => ∃ v0_ : Value, e = .returned (v0_) ∧ Kd.R Kd.string 9 w' w.heap.size (fun _ => True) v0_ r ∧ Below w.heap.size w w' := by
 have HB := Aside0.mk (Below.refl w.heap.size w)
 have H : (some (([(⟨#[104, 111, 115, 116]⟩ : ByteArray), (⟨#[100, 99]⟩ : ByteArray), (⟨#[105, 102]⟩ : ByteArray), (⟨#[120]⟩ : ByteArray)] : List ByteArray))) = some r := h
 clear h
 obtain ⟨y101, hy101⟩ : ∃ y_ : List ByteArray, y_ = (([(⟨#[104, 111, 115, 116]⟩ : ByteArray), (⟨#[100, 99]⟩ : ByteArray), (⟨#[105, 102]⟩ : ByteArray), (⟨#[120]⟩ : ByteArray)] : List ByteArray)) := ⟨_, rfl⟩
 replace H : (some y101) = some r := by first | (rw [hy101]; with_reducible exact H) | (have H2_ := (Option.bind_some _ _).symm.trans H; rw [hy101]; with_reducible exact H2_) | (have H2_ := (Option.bind_some _ _).symm.trans H; with_reducible exact H2_) | with_reducible exact H | (rw [hy101]; exact H) | exact H
 have Ny101 := Aside0.mk hy101
 clear hy101
 obtain rfl := Option.some.inj H
 go_enter Try.func14, Try.ntmps14
 go_wp2_with (first | ((with_reducible refine gate_dst (N := 1) rfl ?_); refine Kd.R_lit Kd.string _ 9 ?hg (N := 1) ?hd (xs := ([(⟨#[104, 111, 115, 116]⟩ : ByteArray), (⟨#[100, 99]⟩ : ByteArray), (⟨#[105, 102]⟩ : ByteArray), (⟨#[120]⟩ : ByteArray)] : List ByteArray)) (inner := [.string (⟨#[104, 111, 115, 116]⟩ : ByteArray), .string (⟨#[100, 99]⟩ : ByteArray), .string (⟨#[105, 102]⟩ : ByteArray), .string (⟨#[120]⟩ : ByteArray)]) (ok := fun _ => True) (okp := fun _ => True) ?hr ?hp (fun _ hk => hk) trivial (Below.refl _ _) (Nat.le_refl _) (by simp) ?_; (case hd => rfl); (case hg => rfl); (case hr => first | (go_simp; done) | (go_simp; rfl)); (case hp => exact (Reps.one (show Kd.M Kd.string _ _ _ (⟨#[104, 111, 115, 116]⟩ : ByteArray) [.string (⟨#[104, 111, 115, 116]⟩ : ByteArray)] from rfl) (Reps.one (show Kd.M Kd.string _ _ _ (⟨#[100, 99]⟩ : ByteArray) [.string (⟨#[100, 99]⟩ : ByteArray)] from rfl) (Reps.one (show Kd.M Kd.string _ _ _ (⟨#[105, 102]⟩ : ByteArray) [.string (⟨#[105, 102]⟩ : ByteArray)] from rfl) (Reps.one (show Kd.M Kd.string _ _ _ (⟨#[120]⟩ : ByteArray) [.string (⟨#[120]⟩ : ByteArray)] from rfl) (Reps.none _ _)))))); intro v102 w1 ho2 hb hg_ hnew_; clear hg_ hnew_; (first | rw [← Ny101.out] at ho2 | (simp only [Int.reduceToNat] at ho2; rw [← Ny101.out] at ho2)); have n0_ := Aside0.mk (Kd.R_lower ho2 (below_size (belN HB.out))); have n1_ := Aside0.mk (below_step (belN HB.out) hb); clear HB; have HO103 := n0_; have HB := n1_; clear n0_ n1_; clear hb ho2))
 go_ret
 exact ⟨_, by first | rfl | (simp [errW_none, errW_some] <;> rfl) | (simp [*, errW_none, errW_some] <;> rfl), (rowN HO103.out), (belN HB.out)⟩

/-! ### marigraphkeep_Values: function 15 -/
def marigraphkeep_Values.f  : Option (List ByteArray) := some (([(⟨#[97]⟩ : ByteArray), (⟨#[98]⟩ : ByteArray), (⟨#[119, 101, 98, 49]⟩ : ByteArray), (⟨#[119, 101, 98, 50]⟩ : ByteArray), (⟨#[49]⟩ : ByteArray)] : List ByteArray))
set_option maxHeartbeats 8000000 in
set_option maxRecDepth 100000 in
theorem marigraphkeep_Values.calls  (r : List ByteArray) (w : World) (h : marigraphkeep_Values.f  = some r) :
  Calls Try.prog 15 #[] w fun e w' => ∃ v0_ : Value, e = .returned (v0_) ∧ Kd.R Kd.string 9 w' w.heap.size (fun _ => True) v0_ r ∧ Below w.heap.size w w' := by
 have HB := Aside0.mk (Below.refl w.heap.size w)
 have H : (some (([(⟨#[97]⟩ : ByteArray), (⟨#[98]⟩ : ByteArray), (⟨#[119, 101, 98, 49]⟩ : ByteArray), (⟨#[119, 101, 98, 50]⟩ : ByteArray), (⟨#[49]⟩ : ByteArray)] : List ByteArray))) = some r := h
 clear h
 obtain ⟨y104, hy104⟩ : ∃ y_ : List ByteArray, y_ = (([(⟨#[97]⟩ : ByteArray), (⟨#[98]⟩ : ByteArray), (⟨#[119, 101, 98, 49]⟩ : ByteArray), (⟨#[119, 101, 98, 50]⟩ : ByteArray), (⟨#[49]⟩ : ByteArray)] : List ByteArray)) := ⟨_, rfl⟩
 replace H : (some y104) = some r := by first | (rw [hy104]; with_reducible exact H) | (have H2_ := (Option.bind_some _ _).symm.trans H; rw [hy104]; with_reducible exact H2_) | (have H2_ := (Option.bind_some _ _).symm.trans H; with_reducible exact H2_) | with_reducible exact H | (rw [hy104]; exact H) | exact H
 have Ny104 := Aside0.mk hy104
 clear hy104
 obtain rfl := Option.some.inj H
 go_enter Try.func15, Try.ntmps15
 go_wp2_with (first | ((with_reducible refine gate_dst (N := 1) rfl ?_); refine Kd.R_lit Kd.string _ 9 ?hg (N := 1) ?hd (xs := ([(⟨#[97]⟩ : ByteArray), (⟨#[98]⟩ : ByteArray), (⟨#[119, 101, 98, 49]⟩ : ByteArray), (⟨#[119, 101, 98, 50]⟩ : ByteArray), (⟨#[49]⟩ : ByteArray)] : List ByteArray)) (inner := [.string (⟨#[97]⟩ : ByteArray), .string (⟨#[98]⟩ : ByteArray), .string (⟨#[119, 101, 98, 49]⟩ : ByteArray), .string (⟨#[119, 101, 98, 50]⟩ : ByteArray), .string (⟨#[49]⟩ : ByteArray)]) (ok := fun _ => True) (okp := fun _ => True) ?hr ?hp (fun _ hk => hk) trivial (Below.refl _ _) (Nat.le_refl _) (by simp) ?_; (case hd => rfl); (case hg => rfl); (case hr => first | (go_simp; done) | (go_simp; rfl)); (case hp => exact (Reps.one (show Kd.M Kd.string _ _ _ (⟨#[97]⟩ : ByteArray) [.string (⟨#[97]⟩ : ByteArray)] from rfl) (Reps.one (show Kd.M Kd.string _ _ _ (⟨#[98]⟩ : ByteArray) [.string (⟨#[98]⟩ : ByteArray)] from rfl) (Reps.one (show Kd.M Kd.string _ _ _ (⟨#[119, 101, 98, 49]⟩ : ByteArray) [.string (⟨#[119, 101, 98, 49]⟩ : ByteArray)] from rfl) (Reps.one (show Kd.M Kd.string _ _ _ (⟨#[119, 101, 98, 50]⟩ : ByteArray) [.string (⟨#[119, 101, 98, 50]⟩ : ByteArray)] from rfl) (Reps.one (show Kd.M Kd.string _ _ _ (⟨#[49]⟩ : ByteArray) [.string (⟨#[49]⟩ : ByteArray)] from rfl) (Reps.none _ _))))))); intro v105 w1 ho2 hb hg_ hnew_; clear hg_ hnew_; (first | rw [← Ny104.out] at ho2 | (simp only [Int.reduceToNat] at ho2; rw [← Ny104.out] at ho2)); have n0_ := Aside0.mk (Kd.R_lower ho2 (below_size (belN HB.out))); have n1_ := Aside0.mk (below_step (belN HB.out) hb); clear HB; have HO106 := n0_; have HB := n1_; clear n0_ n1_; clear hb ho2))
 go_ret
 exact ⟨_, by first | rfl | (simp [errW_none, errW_some] <;> rfl) | (simp [*, errW_none, errW_some] <;> rfl), (rowN HO106.out), (belN HB.out)⟩

/-- A step of a region that yields in every world; one whose guard is off; one that reads what is held. -/
theorem pK {P : Program} {ops : Array Oper} {Q : Exit → Act → World → Prop} {md : Region.Mode} {S : World → Prop} {ds : List Nat} {oi : Oper} {v : Value} {fuel : Nat} {l : Array Bool} {a a' : Act} {w : World} (i : Nat) (N : Option Tmp) (l' : Array Bool) (h : wpAnyLast P md ops Q S ds fuel l' a' w)
    (hi : ops[i]? = some oi := by rfl) (hN : oi.dst = N := by rfl) (hc : anyB md ops l l' i = true := by kernel_rfl) (hQ : ∀ c a w, Q (.panic c) (a.put oi.dst v) w → Q (.panic c) a w := by exact fun _ _ _ h => h)
    (hy : Region.wanted oi (yielded ops a.tmps) = true := by rfl) (hy' : ∀ w, (execOp a.eval oi).run P w = .ok (.value v) w := by intro w'; go_simp; with_reducible rfl)
    (ha : a.put N v = a' := by simp only [Act.put, List.setIfInBounds_toArray, List.set_cons_zero, List.set_cons_succ, i64_w, i32_w]; rfl) : wpAnyLast P md ops Q S ds (fuel + 1) l a w :=
  pure_ l' hi hN hc hQ (Or.inl ⟨hy, hy'⟩) ha h
theorem uK {P : Program} {ops : Array Oper} {Q : Exit → Act → World → Prop} {md : Region.Mode} {S : World → Prop} {ds : List Nat} {oi : Oper} {fuel : Nat} {l : Array Bool} {a a' : Act} {w : World} (i : Nat) (N : Option Tmp) (l' : Array Bool) (h : wpAnyLast P md ops Q S ds fuel l' a' w)
    (hi : ops[i]? = some oi := by rfl) (hN : oi.dst = N := by rfl) (hc : anyB md ops l l' i = true := by kernel_rfl) (hQ : ∀ c a w, Q (.panic c) (a.put oi.dst undef) w → Q (.panic c) a w := by exact fun _ _ _ h => h)
    (hy : Region.wanted oi (yielded ops a.tmps) = false := by rfl)
    (ha : a.put N undef = a' := by simp only [Act.put, List.setIfInBounds_toArray, List.set_cons_zero, List.set_cons_succ, i64_w, i32_w]; rfl) : wpAnyLast P md ops Q S ds (fuel + 1) l a w :=
  pure_ l' hi hN hc hQ (Or.inr ⟨hy, rfl⟩) ha h
theorem tK {P : Program} {ops : Array Oper} {Q : Exit → Act → World → Prop} {md : Region.Mode} {S : World → Prop} {ds : List Nat} {oi : Oper} {v : Value} {fuel : Nat} {l : Array Bool} {a a' : Act} {w : World} (i : Nat) (N : Option Tmp) (l' : Array Bool) (hi : ops[i]? = some oi) (hN : oi.dst = N) (hS : S w) (hy' : ∀ w, S w → (execOp a.eval oi).run P w = .ok (.value v) w) (h : wpAnyLast P md ops Q S ds fuel l' a' w)
    (hc : takeB md ops ds l l' i = true := by kernel_rfl) (hQ : ∀ c a w, Q (.panic c) (a.put oi.dst v) w → Q (.panic c) a w := by exact fun _ _ _ h => h)
    (hy : Region.wanted oi (yielded ops a.tmps) = true := by rfl)
    (ha : a.put N v = a' := by simp only [Act.put, List.setIfInBounds_toArray, List.set_cons_zero, List.set_cons_succ, i64_w, i32_w]; rfl) : wpAnyLast P md ops Q S ds (fuel + 1) l a w :=
  take_ l' hi hN hc hQ (Or.inl ⟨hy, hy'⟩) hS ha h
theorem nK {P : Program} {ops : Array Oper} {Q : Exit → Act → World → Prop} {md : Region.Mode} {S : World → Prop} {ds : List Nat} {fuel : Nat} {l : Array Bool} {a a' : Act} {v : Value} {w : World} (N : Option Tmp) (h : wpAnyLast P md ops Q S ds fuel l a' w)
    (ha : a.put N v = a' := by simp only [Act.put, List.setIfInBounds_toArray, List.set_cons_zero, List.set_cons_succ, i64_w, i32_w]; rfl) : wpAnyLast P md ops Q S ds fuel l (a.put N v) w := norm_ ha h
theorem blk3 {w : World} {g : Nat} {t : TypeId} {x y z : Value} (h : w.heap[g]? = some (.cells #[x, y, z] t (0, 0))) : w.cell? ⟨g, 0, none⟩ = some x ∧ w.cell? ⟨g, 1, none⟩ = some y ∧ w.cell? ⟨g, 2, none⟩ = some z ∧ w.frozen? ⟨g, 0, none⟩ = false ∧ w.frozen? ⟨g, 1, none⟩ = false ∧ w.frozen? ⟨g, 2, none⟩ = false :=
  ⟨(blk_cell h 0).trans rfl, (blk_cell h 1).trans rfl, (blk_cell h 2).trans rfl, blk_frozen h 0, blk_frozen h 1, blk_frozen h 2⟩

/-! ### marigraphlaw19.made: function 7, by hand -/
set_option maxHeartbeats 8000000
set_option maxRecDepth 100000
def idx (m n : Int) : Int := Int.tmod (Int.tmod n m + m) m
theorem idx_lo {m : Int} (n : Int) (hm : 0 < m) : 0 ≤ idx m n := by
  unfold idx
  have h := Int.lt_tmod_of_pos n hm
  rw [Int.tmod_eq_emod_of_nonneg (by omega)]
  exact Int.emod_nonneg _ (by omega)
theorem idx_hi {m : Int} (n : Int) (hm : 0 < m) : idx m n < m := by
  unfold idx
  exact Int.tmod_lt_of_pos _ hm
theorem idx_wrap {m : Int} (n : Int) (hm : 0 < m) (hm2 : m < 4611686018427387904) : IntKind.i64.wrap (Int.tmod n m + m) = Int.tmod n m + m := by
  have h := Int.lt_tmod_of_pos n hm
  have h2 := Int.tmod_lt_of_pos n hm
  rw [i64_w]
  unfold wrap64
  omega
def keysL : List ByteArray := [(⟨#[104, 111, 115, 116]⟩ : ByteArray), (⟨#[100, 99]⟩ : ByteArray), (⟨#[105, 102]⟩ : ByteArray), (⟨#[120]⟩ : ByteArray)]
def valuesL : List ByteArray := [(⟨#[97]⟩ : ByteArray), (⟨#[98]⟩ : ByteArray), (⟨#[119, 101, 98, 49]⟩ : ByteArray), (⟨#[119, 101, 98, 50]⟩ : ByteArray), (⟨#[49]⟩ : ByteArray)]
def zz : ByteArray := ⟨#[122, 122]⟩
def valueF (n : Int) : ByteArray := rdOf ByteArray.empty valuesL (idx 5 n)
def madeF (x : S24) : S29 := ⟨rdOf ByteArray.empty keysL (idx 4 x.f0), 1 + idx 4 x.f1, if 1 + idx 4 x.f1 ≤ 2 then zz :: (x.f2.take 5).map valueF else []⟩
structure MS (gB gR : Nat) (x : S24) (A2 : Option Addr) (c2 : Nat) (w0 w : World) : Prop where
  b : w.heap[gB]? = some (.cells #[.int .i64 x.f0, .int .i64 x.f1, .slice A2 x.f2.length c2] 24 (0, 0))
  r : w.heap[gR]? = some (.cells #[.string ⟨#[]⟩, .int .i64 0, .slice none 0 0] 29 (0, 0))
  hb : Below w0.heap.size w0 w
theorem MS.below {gB gR : Nat} {x : S24} {A2 : Option Addr} {c2 : Nat} {w0 w w' : World} (h : MS gB gR x A2 c2 w0 w) (hb : Below w.heap.size w w') : MS gB gR x A2 c2 w0 w' := ⟨blk_below h.b hb, blk_below h.r hb, below_step h.hb hb⟩
theorem MS.drew {gB gR : Nat} {x : S24} {A2 : Option Addr} {c2 : Nat} {w0 w : World} (h : MS gB gR x A2 c2 w0 w) : MS gB gR x A2 c2 w0 w.drew := ⟨blk_drew h.b, blk_drew h.r, below_drew1 h.hb⟩
theorem MS.s {gB gR : Nat} {x : S24} {A2 : Option Addr} {c2 : Nat} {w0 w : World} (h : MS gB gR x A2 c2 w0 w) : w.cell? ⟨gB, 0, none⟩ = some (.int .i64 x.f0) ∧ w.cell? ⟨gB, 1, none⟩ = some (.int .i64 x.f1) := ⟨(blk_cell h.b 0).trans rfl, (blk_cell h.b 1).trans rfl⟩
theorem MS.set {gB gR g j : Nat} {u : Value} {x : S24} {A2 : Option Addr} {c2 : Nat} {w0 w : World} (h : MS gB gR x A2 c2 w0 w) (hB : gB ≠ g) (hR : gR ≠ g) (hg : w0.heap.size ≤ g) : MS gB gR x A2 c2 w0 (w.setCell ⟨g, j, none⟩ u) := ⟨blk_far (p := ⟨g, j, none⟩) h.b hB u, blk_far (p := ⟨g, j, none⟩) h.r hR u, below_set h.hb hg⟩
theorem MS.set3 {gB gR g : Nat} {u0 u1 u2 : Value} {x : S24} {A2 : Option Addr} {c2 : Nat} {w0 w : World} (h : MS gB gR x A2 c2 w0 w) (hB : gB ≠ g) (hR : gR ≠ g) (hg : w0.heap.size ≤ g) : MS gB gR x A2 c2 w0 (((w.setCell ⟨g, 0, none⟩ u0).setCell ⟨g, 1, none⟩ u1).setCell ⟨g, 2, none⟩ u2) := ((h.set hB hR hg).set hB hR hg).set hB hR hg
theorem blk_put3 {w : World} {g : Nat} {t : TypeId} {x0 x1 x2 : Value} (h : w.heap[g]? = some (.cells #[x0, x1, x2] t (0, 0))) (u0 u1 u2 : Value) : (((w.setCell ⟨g, 0, none⟩ u0).setCell ⟨g, 1, none⟩ u1).setCell ⟨g, 2, none⟩ u2).heap[g]? = some (.cells #[u0, u1, u2] t (0, 0)) := blk_put (blk_put (blk_put h 0 u0 rfl) 1 u1 rfl) 2 u2 rfl
def MadeTold (x : S24) (w : World) (e : Ending) (w' : World) : Prop := ∃ v : Value, e = .returned (.agg #[.string (madeF x).f0, .int .i64 (madeF x).f1, v]) ∧ Kd.string.R 9 w' w.heap.size (fun _ => True) v (madeF x).f2 ∧ Below w.heap.size w w'
theorem made_end {w W : World} {x : S24} {A2 : Option Addr} {c2 : Nat} {a : Act} {v : Value} (hMS : MS w.heap.size (w.heap.size + 1) x A2 c2 w W) (h2 : a.tmps[2]? = some (.pointer (some ⟨w.heap.size + 1, 0, none⟩))) (hd : a.defers = []) {key : ByteArray} {kd : Int} (e0 : (madeF x).f0 = key) (e1 : (madeF x).f1 = kd) (hR : Kd.string.R 9 W w.heap.size (fun _ => True) v (madeF x).f2) :
    bodyPost Try.prog Try.f7 (MadeTold x w) .ret a (((W.setCell ⟨w.heap.size + 1, 0, none⟩ (.string key)).setCell ⟨w.heap.size + 1, 1, none⟩ (.int .i64 kd)).setCell ⟨w.heap.size + 1, 2, none⟩ v) := by
  have hb := blk_put3 hMS.r (.string key) (.int .i64 kd) v
  obtain ⟨d0, d1, d2, -, -, -⟩ := blk3 hb
  have hu29 := Try.underlying29
  refine bodyPost_ret (v := .agg #[.string key, .int .i64 kd, v]) ?_ hd ⟨v, ?_, ?_, ?_⟩
  · simp [results, Try.results7, go_sem, h2, d0, d1, d2]
  · rw [e0, e1]
  · have h0 := blk_put hMS.r 0 (.string key) rfl
    have h1 := blk_put h0 1 (.int .i64 kd) rfl
    exact Kd.R_set (Kd.R_set (Kd.R_set hR hMS.r (by decide) 0 _) h0 (by decide) 1 _) h1 (by decide) 2 _
  · exact below_set (below_set (below_set hMS.hb (Nat.le_succ _)) (Nat.le_succ _)) (Nat.le_succ _)
structure LS (gB gR gF : Nat) (key : ByteArray) (kd : Int) (x : S24) (A2 : Option Addr) (c2 : Nat) (w0 : World) (l : List ByteArray) (A : Option Addr) (c : Nat) (w : World) : Prop where
  ms : MS gB gR x A2 c2 w0 w
  f : w.heap[gF]? = some (.cells #[.string key, .int .i64 kd, .slice A l.length c] 29 (0, 0))
  r : Kd.string.R 9 w w0.heap.size (fun _ => True) (.slice A l.length c) l
section
variable {gB gR gF : Nat} {key : ByteArray} {kd : Int} {x : S24} {A2 : Option Addr} {c2 : Nat} {w0 w w' : World} {l : List ByteArray} {A : Option Addr} {c : Nat}
theorem LS.below (h : LS gB gR gF key kd x A2 c2 w0 l A c w) (hb : Below w.heap.size w w') : LS gB gR gF key kd x A2 c2 w0 l A c w' := ⟨h.ms.below hb, blk_below h.f hb, Kd.R_below h.r hb⟩
theorem LS.drew (h : LS gB gR gF key kd x A2 c2 w0 l A c w) : LS gB gR gF key kd x A2 c2 w0 l A c w.drew := ⟨h.ms.drew, blk_drew h.f, Kd.R_drew h.r⟩
/-- Behind an append: the row is a new one, the block still holds the elder slice. -/
theorem MS.grown {row : Option Nat} (h : MS gB gR x A2 c2 w0 w) (hg : w.grownBy w' row) (hB : some gB ≠ row) (hR : some gR ≠ row) (hb : Below w0.heap.size w0 w') : MS gB gR x A2 c2 w0 w' := ⟨blk_grown h.b hg hB, blk_grown h.r hg hR, hb⟩
theorem LS.mk_ {l' : List ByteArray} {A' : Option Addr} {c' : Nat} {v : Value} (h : MS gB gR x A2 c2 w0 w) (hB : gB ≠ gF) (hR : gR ≠ gF) (hg : w0.heap.size ≤ gF) (hf : w.heap[gF]? = some (.cells #[.string key, .int .i64 kd, v] 29 (0, 0))) (hr : Kd.string.R 9 w w0.heap.size (fun _ => True) (.slice A' l'.length c') l') :
    LS gB gR gF key kd x A2 c2 w0 l' A' c' (w.setCell ⟨gF, 2, none⟩ (.slice A' l'.length c')) := ⟨h.set hB hR hg, blk_put hf 2 _ rfl, Kd.R_set hr hf (by decide) 2 _⟩
end
theorem made_calls (x : S24) (A2 : Option Addr) (c2 : Nat) (w : World) (hr : (Kd.int .i64).C w A2 x.f2.length x.f2) (hc : x.f2.length ≤ c2) :
    Calls Try.prog 7 #[.agg #[.int .i64 x.f0, .int .i64 x.f1, .slice A2 x.f2.length c2]] w (MadeTold x w) := by
  have hu24 := Try.underlying24
  have hu29 := Try.underlying29
  obtain ⟨keys, hkeys, hkl, hkeq⟩ : ∃ l, marigraphkeep_Keys.f = some l ∧ l.length = 4 ∧ l = keysL := ⟨_, rfl, rfl, rfl⟩
  obtain ⟨key, hkey⟩ : ∃ s, s = rdOf ByteArray.empty keys (idx 4 x.f0) := ⟨_, rfl⟩
  obtain ⟨vals, hvals, hvl, hveq⟩ : ∃ l, marigraphkeep_Values.f = some l ∧ l.length = 5 ∧ l = valuesL := ⟨_, rfl, rfl, rfl⟩
  replace hvals := Aside0.mk hvals
  replace hvl := Aside0.mk hvl
  replace hveq := Aside0.mk hveq
  have hq1 := idx_wrap x.f0 (m := 4) (by omega) (by omega)
  have hq2 := idx_wrap x.f1 (m := 4) (by omega) (by omega)
  have hi0 := idx_lo x.f0 (m := 4) (by omega)
  have hi1 := idx_hi x.f0 (m := 4) (by omega)
  have hj0 := idx_lo x.f1 (m := 4) (by omega)
  have hj1 := idx_hi x.f1 (m := 4) (by omega)
  have hid1 : Int.tmod (Int.tmod x.f0 4 + 4) 4 = idx 4 x.f0 := rfl
  have hid2 : Int.tmod (Int.tmod x.f1 4 + 4) 4 = idx 4 x.f1 := rfl
  have hm2 : (madeF x).f1 = 1 + idx 4 x.f1 := rfl
  have hm1 : (madeF x).f0 = key := by rw [hkey, hkeq]; rfl
  have hm3 : (madeF x).f2 = if 1 + idx 4 x.f1 ≤ 2 then zz :: (x.f2.take 5).map valueF else [] := rfl
  replace hkey := Aside0.mk hkey
  replace hkeq := Aside0.mk hkeq
  generalize idx 4 x.f0 = i1 at hi0 hi1 hid1 hkey
  obtain ⟨kd, hkd⟩ : ∃ n, 1 + idx 4 x.f1 = n := ⟨_, rfl⟩
  have hw5 : IntKind.i64.wrap (1 + idx 4 x.f1) = kd := by rw [i64_w, ← hkd]; unfold wrap64; omega
  rw [hkd] at hm2 hm3
  replace hkd := Aside0.mk hkd
  generalize idx 4 x.f1 = i2 at hj0 hj1 hid2 hw5 hkd
  replace hm1 := Aside0.mk hm1
  replace hm2 := Aside0.mk hm2
  replace hm3 := Aside0.mk hm3
  have hi2 : i1 < (keys.length : Int) := by rw [hkl]; exact hi1
  replace hkl := Aside0.mk hkl
  go_enter Try.func7, Try.ntmps7
  go_wp2
  have hMS : MS w.heap.size (w.heap.size + 1) x A2 c2 w ((w.alloc (.cells #[.int .i64 x.f0, .int .i64 x.f1, .slice A2 x.f2.length c2] 24)).alloc (.cells #[.string ⟨#[]⟩, .int .i64 0, .slice none 0 0] 29)) :=
    ⟨blk_alloc (blk_new w _) _, (by have := blk_new (w.alloc (.cells #[.int .i64 x.f0, .int .i64 x.f1, .slice A2 x.f2.length c2] 24)) (.cells #[.string ⟨#[]⟩, .int .i64 0, .slice none 0 0] 29); rw [show (w.alloc (.cells #[.int .i64 x.f0, .int .i64 x.f1, .slice A2 x.f2.length c2] 24)).heap.size = w.heap.size + 1 from Array.size_push _] at this; exact this), below_alloc (below_alloc (Below.refl _ _) _) _⟩
  generalize ((w.alloc (.cells #[.int .i64 x.f0, .int .i64 x.f1, .slice A2 x.f2.length c2] 24)).alloc (.cells #[.string ⟨#[]⟩, .int .i64 0, .slice none 0 0] 29)) = w1 at hMS ⊢
  refine start_ (n := 17) (S := fun w' => w'.cell? ⟨w.heap.size, 0, none⟩ = some (.int .i64 x.f0) ∧ w'.cell? ⟨w.heap.size, 1, none⟩ = some (.int .i64 x.f1)) (ds := []) (bA 17 0) (by kernel_rfl) rfl rfl hMS.drew.s (fun hS => ?_)
  have hMS := hMS.drew
  generalize w1.drew = w2 at hMS hS ⊢
  refine norm_ (by rfl) ?_
  refine pK 1 (some 6) (bA 17 2) ?_
  refine tK 2 (some 7) (bA 17 6) rfl rfl hS (by rintro w' ⟨u0, u1⟩; go_simp; with_reducible rfl) ?_
  refine pK 3 (some 8) (bA 17 14) ?_
  refine pK 4 (some 9) (bA 17 30) ?_
  refine pK 5 (some 10) (bA 17 62) ?_
  refine pK 8 (some 13) (bA 17 318) ?_
  refine tK 9 (some 14) (bA 17 830) rfl rfl hS (by rintro w' ⟨u0, u1⟩; go_simp; with_reducible rfl) ?_
  refine pK 10 (some 15) (bA 17 1854) ?_
  refine pK 11 (some 16) (bA 17 3902) ?_
  refine pK 12 (some 17) (bA 17 7998) ?_
  refine pK 13 (some 18) (bA 17 16190) ?_
  refine join_ (σ := Value × Addr × Nat) 0 (bA 17 131071) (fun s_ => [(5, s_.1), (11, .pointer (some s_.2.1)), (12, .string key), (3, .pointer (some ⟨s_.2.2, 0, none⟩)), (19, .agg #[.string key, .int .i64 kd, .slice none 0 0])]) (fun s_ w' => MS w.heap.size (w.heap.size + 1) x A2 c2 w w' ∧ w'.heap[s_.2.2]? = some (.cells #[.string key, .int .i64 kd, .slice none 0 0] 29 (0, 0)) ∧ w.heap.size + 1 < s_.2.2) ?_ ?_
  rotate_left
  · intro hJ
    refine two_ (i := 0) (j := 15) (Ni := some 5) (Nj := some 3) (bA 17 16191) (bA 17 48958) rfl rfl rfl rfl (by kernel_rfl) (by decide) (by decide) (fun K hK => ?_) (fun K hK => ?_)
    · refine goes_ Try.func14 (by kernel_rfl) rfl #[] (by rfl) rfl rfl argN ?_
      refine (marigraphkeep_Keys.calls keys _ hkeys).mono ?_
      rintro e w3 ⟨v, rfl, hR, hb⟩
      obtain ⟨Ak, ck, rfl⟩ := Kd.R_slice hR
      refine ⟨_, rfl, ?_⟩
      have hMS := hMS.below hb
      have hC := (Kd.R_reads' hR).2.2
      obtain ⟨ad, rfl, hcell⟩ := Kd.at_string hC i1 hi0 hi2
      rw [← hkey.out] at hcell
      refine hK.out _ _ hMS.s (fun hS => ?_)
      clear hK K
      refine nK (some 5) ?_
      refine pK 6 (some 11) (bA 17 16255) ?_
      refine two_ (i := 7) (j := 15) (Ni := some 12) (Nj := some 3) (bA 17 16383) (bA 17 49023) rfl rfl rfl rfl (by kernel_rfl) (by decide) (by decide) (fun K hK => ?_) (fun K hK => ?_)
      · refine value_ (N := some 12) (w1 := ?_) (v := .string key) (by rfl) rfl (by go_simp; with_reducible rfl) ?_
        refine hK.out _ _ hMS.s (fun hS => ?_)
        clear hK K
        refine nK (some 12) ?_
        refine pK 14 (some 19) (bA 17 32767) ?_
        refine one_ (i := 15) (N := some 3) (bA 17 65535) rfl rfl (by kernel_rfl) (by decide) (fun K hK => ?_)
        refine box_step ?hgA (N := 3) ?hdA (cs := #[.string ⟨#[]⟩, .int .i64 0, .slice none 0 0]) (t := 29) ?hrA ?_; (case hdA => rfl); (case hgA => rfl); (case hrA => first | (go_simp; done) | (go_simp; rfl))
        intro g hg w5 hbox hb5
        have hgR : w.heap.size + 1 ≠ g := blk_ne1 hg hMS.r
        have hgB : w.heap.size ≠ g := blk_ne1 hg hMS.b
        have hgl : w.heap.size + 1 < g := by have := blk_lt hMS.r; omega
        have hMS := hMS.below hb5
        clear hg
        refine hK.out _ _ hMS.s (fun hS => ?_)
        clear hK K
        refine nK (some 3) ?_
        refine one_ (i := 16) (N := none) (bA 17 131071) rfl rfl (by kernel_rfl) (by decide) (fun K hK => ?_)
        obtain ⟨zc0, zc1, zc2, zf0, zf1, zf2⟩ := blk3 hbox
        refine skip_ (w1 := ?_) (by rfl) rfl ?_ ?_
        rotate_left
        · go_simp
          rfl
        have hMS := hMS.set3 hgB hgR (by omega) (u0 := .string key) (u1 := .int .i64 kd) (u2 := .slice none 0 0)
        refine hK.out _ _ hMS.s (fun hS => ?_)
        exact norm_ (by simp only [putAll, Act.put, List.setIfInBounds_toArray, List.set_cons_zero, List.set_cons_succ]; rfl) (hJ (_, _, g) _ ⟨hMS, blk_put3 hbox _ _ _, hgl⟩)
      · refine box_step ?hgB (N := 3) ?hdB (cs := #[.string ⟨#[]⟩, .int .i64 0, .slice none 0 0]) (t := 29) ?hrB ?_; (case hdB => rfl); (case hgB => rfl); (case hrB => first | (go_simp; done) | (go_simp; rfl))
        intro g hg w5 hbox hb5
        have hgR : w.heap.size + 1 ≠ g := blk_ne1 hg hMS.r
        have hgB : w.heap.size ≠ g := blk_ne1 hg hMS.b
        have hgl : w.heap.size + 1 < g := by have := blk_lt hMS.r; omega
        have hMS := hMS.below hb5
        clear hg
        have hcell := cellB hb5 hcell
        refine hK.out _ _ hMS.s (fun hS => ?_)
        clear hK K
        refine nK (some 3) ?_
        refine one_ (i := 7) (N := some 12) (bA 17 49151) rfl rfl (by kernel_rfl) (by decide) (fun K hK => ?_)
        refine value_ (N := some 12) (w1 := ?_) (v := .string key) (by rfl) rfl (by go_simp; with_reducible rfl) ?_
        refine hK.out _ _ hMS.s (fun hS => ?_)
        clear hK K
        refine nK (some 12) ?_
        refine pK 14 (some 19) (bA 17 65535) ?_
        refine one_ (i := 16) (N := none) (bA 17 131071) rfl rfl (by kernel_rfl) (by decide) (fun K hK => ?_)
        obtain ⟨zc0, zc1, zc2, zf0, zf1, zf2⟩ := blk3 hbox
        refine skip_ (w1 := ?_) (by rfl) rfl ?_ ?_
        rotate_left
        · go_simp
          rfl
        have hMS := hMS.set3 hgB hgR (by omega) (u0 := .string key) (u1 := .int .i64 kd) (u2 := .slice none 0 0)
        refine hK.out _ _ hMS.s (fun hS => ?_)
        exact norm_ (by simp only [putAll, Act.put, List.setIfInBounds_toArray, List.set_cons_zero, List.set_cons_succ]; rfl) (hJ (_, _, g) _ ⟨hMS, blk_put3 hbox _ _ _, hgl⟩)
    · refine box_step ?hgC (N := 3) ?hdC (cs := #[.string ⟨#[]⟩, .int .i64 0, .slice none 0 0]) (t := 29) ?hrC ?_; (case hdC => rfl); (case hgC => rfl); (case hrC => first | (go_simp; done) | (go_simp; rfl))
      intro g hg w5 hbox hb5
      have hgR : w.heap.size + 1 ≠ g := blk_ne1 hg hMS.r
      have hgB : w.heap.size ≠ g := blk_ne1 hg hMS.b
      have hgl : w.heap.size + 1 < g := by have := blk_lt hMS.r; omega
      have hMS := hMS.below hb5
      clear hg
      refine hK.out _ _ hMS.s (fun hS => ?_)
      clear hK K
      refine nK (some 3) ?_
      refine one_ (i := 0) (N := some 5) (bA 17 48959) rfl rfl (by kernel_rfl) (by decide) (fun K hK => ?_)
      refine goes_ Try.func14 (by kernel_rfl) rfl #[] (by rfl) rfl rfl argN ?_
      refine (marigraphkeep_Keys.calls keys _ hkeys).mono ?_
      rintro e w3 ⟨v, rfl, hR, hb⟩
      obtain ⟨Ak, ck, rfl⟩ := Kd.R_slice hR
      refine ⟨_, rfl, ?_⟩
      have hMS := hMS.below hb
      have hC := (Kd.R_reads' hR).2.2
      obtain ⟨ad, rfl, hcell⟩ := Kd.at_string hC i1 hi0 hi2
      rw [← hkey.out] at hcell
      have hbox := blk_below hbox hb
      refine hK.out _ _ hMS.s (fun hS => ?_)
      clear hK K
      refine nK (some 5) ?_
      refine pK 6 (some 11) (bA 17 49023) ?_
      refine one_ (i := 7) (N := some 12) (bA 17 49151) rfl rfl (by kernel_rfl) (by decide) (fun K hK => ?_)
      refine value_ (N := some 12) (w1 := ?_) (v := .string key) (by rfl) rfl (by go_simp; with_reducible rfl) ?_
      refine hK.out _ _ hMS.s (fun hS => ?_)
      clear hK K
      refine nK (some 12) ?_
      refine pK 14 (some 19) (bA 17 65535) ?_
      refine one_ (i := 16) (N := none) (bA 17 131071) rfl rfl (by kernel_rfl) (by decide) (fun K hK => ?_)
      obtain ⟨zc0, zc1, zc2, zf0, zf1, zf2⟩ := blk3 hbox
      refine skip_ (w1 := ?_) (by rfl) rfl ?_ ?_
      rotate_left
      · go_simp
        rfl
      have hMS := hMS.set3 hgB hgR (by omega) (u0 := .string key) (u1 := .int .i64 kd) (u2 := .slice none 0 0)
      refine hK.out _ _ hMS.s (fun hS => ?_)
      exact norm_ (by simp only [putAll, Act.put, List.setIfInBounds_toArray, List.set_cons_zero, List.set_cons_succ]; rfl) (hJ (_, _, g) _ ⟨hMS, blk_put3 hbox _ _ _, hgl⟩)
  · rintro ⟨v5, ad, gF⟩ w6 ⟨hMS, hbox, hgl⟩
    have hMS : MS w.heap.size (w.heap.size + 1) x A2 c2 w w6 := hMS
    have hbox : w6.heap[gF]? = some (.cells #[.string key, .int .i64 kd, .slice none 0 0] 29 (0, 0)) := hbox
    have hgl : w.heap.size + 1 < gF := hgl
    refine norm_ (by simp only [putAll, Act.put, List.setIfInBounds_toArray, List.set_cons_zero, List.set_cons_succ]; rfl) ?_
    refine done_ (by kernel_rfl) ?_
    clear hq1 hq2 hid1 hid2 hw5 hkeys hi2 hi0 hi1 hkl hS
    obtain ⟨zc0, zc1, zc2, zf0, zf1, zf2⟩ := blk3 hbox
    obtain ⟨rc0, rc1, rc2, rf0, rf1, rf2⟩ := blk3 hMS.r
    by_cases h2 : kd ≤ 2
    · have hd2 : decide (kd ≤ 2) = true := decide_eq_true h2
      replace hm3 : Aside0 ((madeF x).f2 = zz :: (x.f2.take 5).map valueF) := ⟨by rw [hm3.out, if_pos h2]⟩
      clear rc0 rc1 rc2 rf0 rf1 rf2
      go_wp2_with (((with_reducible refine gate_dst (N := 23) rfl ?_); refine Kd.R_lit Kd.string (w0 := w) w.heap.size 9 ?hgT (N := 23) ?hdT (xs := ([zz] : List ByteArray)) (inner := [.string zz]) (ok := fun _ => True) (okp := fun _ => True) ?hrT ?hpT (fun _ hk => hk) trivial hMS.hb (below_size hMS.hb) (by simp) ?_; (case hdT => rfl); (case hgT => rfl); (case hrT => first | (go_simp; done) | (go_simp; rfl)); (case hpT => exact Reps.one (show Kd.M Kd.string _ _ _ zz [.string zz] from rfl) (Reps.none _ _)); intro v9 w7 hR hb7 hg7 hv7; obtain ⟨Av, cv, rfl⟩ := Kd.R_slice hR; replace hbox := blk_grown hbox hg7 (by simp); clear zc0 zc1 zc2 zf0 zf1 zf2; obtain ⟨zc0, zc1, zc2, zf0, zf1, zf2⟩ := blk3 hbox))
      clear zc0 zc1 zc2 zf0 zf1 zf2
      replace hMS := hMS.grown hg7 (by simp) (by simp) hb7
      have hBF : w.heap.size ≠ gF := by omega
      have hRF : w.heap.size + 1 ≠ gF := by omega
      have hLS := LS.mk_ (l' := [zz]) hMS hBF hRF (by omega) hbox hR
      clear hMS hbox hR hg7 hb7 hv7
      go_loopg [4] 6 (fun kq v4 w' => ∃ j : Nat, v4 = .int .i64 (j : Int) ∧ Aside0 (5 - j < kq ∧ j ≤ 5 ∧ j ≤ x.f2.length) ∧ ∃ A c, Aside0 (LS w.heap.size (w.heap.size + 1) gF key kd x A2 c2 w (zz :: (x.f2.take j).map valueF) A c w'))
      case atStart => exact ⟨0, rfl, ⟨by omega⟩, Av, cv, ⟨hLS⟩⟩
      case round =>
        clear hLS
        obtain ⟨j, rfl, hj, A, c, hLS⟩ := hrel
        have hj := hj.out
        replace hLS := hLS.out
        obtain ⟨ls, hls⟩ : ∃ l, l = zz :: (x.f2.take j).map valueF := ⟨_, rfl⟩
        rw [← hls] at hLS
        replace hls := Aside0.mk hls
        obtain ⟨zc0, zc1, zc2, zf0, zf1, zf2⟩ := blk3 hLS.f
        obtain ⟨bc0, bc1, bc2, bf0, bf1, bf2⟩ := blk3 hLS.ms.b
        obtain ⟨rc0, rc1, rc2, rf0, rf1, rf2⟩ := blk3 hLS.ms.r
        rcases (by omega : (¬ j < x.f2.length) ∨ (j < x.f2.length ∧ ¬ j < 5) ∨ (j < x.f2.length ∧ j < 5)) with hn | ⟨hn, h5⟩ | ⟨hn, h5⟩
        · have hd1 : decide ((j : Int) < (x.f2.length : Int)) = false := decide_eq_false (by omega)
          have hd3 : decide (j < x.f2.length) = false := decide_eq_false hn
          have htk : x.f2.take j = x.f2.take 5 := by rw [List.take_of_length_le (by omega), List.take_of_length_le (by omega)]
          replace htk := Aside0.mk htk
          replace hm3 : Aside0 ((madeF x).f2 = ls) := ⟨by rw [hm3.out, hls.out, htk.out]⟩
          go_wp2
          exact made_end hLS.ms rfl rfl hm1.out hm2.out (by rw [hm3.out]; exact hLS.r)
        · have hd1 : decide ((j : Int) < (x.f2.length : Int)) = true := decide_eq_true (by omega)
          have hd3 : decide (j < x.f2.length) = true := decide_eq_true hn
          have hd5 : decide ((j : Int) < 5) = false := decide_eq_false (by omega)
          have hd6 : decide (j < 5) = false := decide_eq_false h5
          have htk : x.f2.take j = x.f2.take 5 := by rw [show j = 5 by omega]
          replace htk := Aside0.mk htk
          replace hm3 : Aside0 ((madeF x).f2 = ls) := ⟨by rw [hm3.out, hls.out, htk.out]⟩
          go_wp2
          exact made_end hLS.ms rfl rfl hm1.out hm2.out (by rw [hm3.out]; exact hLS.r)
        · have hd1 : decide ((j : Int) < (x.f2.length : Int)) = true := decide_eq_true (by omega)
          have hd3 : decide (j < x.f2.length) = true := decide_eq_true hn
          have hd5 : decide ((j : Int) < 5) = true := decide_eq_true (by omega)
          have hd6 : decide (j < 5) = true := decide_eq_true h5
          have hnx : wrap64 ((j : Int) + 1) = ((j + 1 : Nat) : Int) := by unfold wrap64; omega
          replace hnx := Aside0.mk hnx
          obtain ⟨ad, rfl, hcell⟩ := Kd.at_int hr (j : Int) (Int.natCast_nonneg j) (by omega)
          have hn1 : (j : Int) < (x.f2.length : Int) := by omega
          rw [Int.toNat_natCast] at hcell
          go_wp2
          clear hd1 hd3 hd5 hd6 zc0 zc1 zc2 zf0 zf1 zf2 bc0 bc1 bc2 bf0 bf1 bf2 rc0 rc1 rc2 rf0 rf1 rf2
          have hq := idx_wrap (rd x.f2 (j : Int)) (m := 5) (by omega) (by omega)
          have hv0 := idx_lo (rd x.f2 (j : Int)) (m := 5) (by omega)
          have hv1 := idx_hi (rd x.f2 (j : Int)) (m := 5) (by omega)
          have hqi : Int.tmod (Int.tmod (rd x.f2 (j : Int)) 5 + 5) 5 = idx 5 (rd x.f2 (j : Int)) := rfl
          obtain ⟨vv, hvv⟩ : ∃ s, s = valueF (rd x.f2 (j : Int)) := ⟨_, rfl⟩
          have hvr : rdOf ByteArray.empty vals (idx 5 (rd x.f2 (j : Int))) = vv := by rw [hvv, hveq.out]; rfl
          replace hvr := Aside0.mk hvr
          have hts : (x.f2.take (j + 1)).map valueF = (x.f2.take j).map valueF ++ [vv] := by
            rw [hvv, List.take_succ_eq_append_getElem hn, List.map_append]
            unfold rd
            rw [Int.toNat_natCast, List.getD_eq_getElem?_getD, List.getElem?_eq_getElem hn]
            rfl
          replace hts := Aside0.mk hts
          replace hvv := Aside0.mk hvv
          generalize rd x.f2 (j : Int) = V at *
          generalize idx 5 V = i5 at *
          have hv2 : i5 < (vals.length : Int) := by rw [hvl.out]; exact hv1
          refine start_ (n := 17) (S := fun w' => MS w.heap.size (w.heap.size + 1) x (some ad) c2 w w' ∧ w'.heap[gF]? = some (.cells #[.string key, .int .i64 kd, .slice A ls.length c] 29 (0, 0))) (ds := [16]) (bA 17 0) (by kernel_rfl) rfl rfl ⟨hLS.drew.ms, hLS.drew.f⟩ (fun hS => ?_)
          have hR0 := hLS.drew.r
          clear hLS
          generalize wr.drew = w8 at hS hR0 ⊢
          refine norm_ (by rfl) ?_
          refine pK 0 (some 36) (bA 17 1) ?_
          refine tK 1 (some 37) (bA 17 3) rfl rfl hS (by rintro w' hS'; have q := (blk_cell hS'.2 2).trans rfl; go_simp; with_reducible rfl) ?_
          refine pK 3 (some 39) (bA 17 11) ?_
          refine tK 4 (some 40) (bA 17 27) rfl rfl hS (by rintro w' hS'; have q := (blk_cell hS'.1.b 2).trans rfl; go_simp; with_reducible rfl) ?_
          refine pK 5 (some 41) (bA 17 59) ?_
          refine pK 6 (some 42) (bA 17 123) ?_
          refine tK 7 (some 43) (bA 17 251) rfl rfl hS (by rintro w' hS'; have q := cellB hS'.1.hb hcell; go_simp; with_reducible rfl) ?_
          refine pK 8 (some 44) (bA 17 507) ?_
          refine pK 9 (some 45) (bA 17 1019) ?_
          refine pK 10 (some 46) (bA 17 2043) ?_
          refine one_ (i := 2) (N := some 38) (bA 17 2047) rfl rfl (by kernel_rfl) (by decide) (fun K hK => ?_)
          refine goes_ Try.func15 (by kernel_rfl) rfl #[] (by rfl) rfl rfl argN ?_
          refine (marigraphkeep_Values.calls vals _ hvals.out).mono ?_
          rintro e w9 ⟨v, rfl, hR, hb⟩
          obtain ⟨Ak, ck, rfl⟩ := Kd.R_slice hR
          refine ⟨_, rfl, ?_⟩
          obtain ⟨ad2, rfl, hcell2⟩ := Kd.at_string (Kd.R_reads' hR).2.2 i5 hv0 hv2
          rw [hvr.out] at hcell2
          replace hR0 := Kd.R_below hR0 hb
          refine hK.out _ _ ⟨hS.1.below hb, blk_below hS.2 hb⟩ (fun hS => ?_)
          clear hK K hR hb
          refine nK (some 38) ?_
          refine pK 11 (some 47) (bA 17 4095) ?_
          refine one_ (i := 12) (N := some 48) (bA 17 8191) rfl rfl (by kernel_rfl) (by decide) (fun K hK => ?_)
          refine value_ (N := some 48) (w1 := ?_) (v := .string vv) (by rfl) rfl (by go_simp; with_reducible rfl) ?_
          refine hK.out _ _ hS (fun hS => ?_)
          clear hK K hcell2
          refine nK (some 48) ?_
          refine one_ (i := 13) (N := some 49) (bA 17 16383) rfl rfl (by kernel_rfl) (by decide) (fun K hK => ?_)
          refine value_ (N := some 49) (w1 := w9.alloc (.cells #[.string vv] 9)) (v := .slice (some ⟨w9.heap.size, 0, none⟩) 1 1) (by rfl) rfl (by go_simp) ?_
          refine hK.out _ _ ⟨hS.1.below (below_alloc (Below.refl _ _) _), blk_alloc hS.2 _⟩ (fun _ => ?_)
          clear hK K
          refine nK (some 49) ?_
          refine one_ (i := 14) (N := some 50) (bA 17 32767) rfl rfl (by kernel_rfl) (by decide) (fun K hK => ?_)
          refine Kd.R_append_step Kd.string (w0 := w) w.heap.size (by rfl) (.tmp 37) (.tmp 49) 27 9 (.string ⟨#[]⟩) 16 rfl Try.underlying27 info9 rfl (by decide) (by omega) (.slice A ls.length c) ls vv [.string vv] (fun _ => True) (fun _ => False) rfl rfl rfl (fun _ hk => hk.elim) (fun _ _ => trivial) hR0 hS.1.hb (below_size hS.1.hb) (by rw [hls.out]; simp only [List.length_cons, List.length_map, List.length_take]; omega) ?_
          intro v10 w10 hR hb hg hat
          have neB : some w.heap.size ≠ (Value.slice A ls.length c).ownBlock := Kd.R_ne hR0 hS.1.b (by decide)
          have neR : some (w.heap.size + 1) ≠ (Value.slice A ls.length c).ownBlock := Kd.R_ne hR0 hS.1.r (by decide)
          have neF : some gF ≠ (Value.slice A ls.length c).ownBlock := Kd.R_ne hR0 hS.2 (by decide)
          obtain ⟨A3, c3, rfl⟩ := Kd.R_slice hR
          have hM10 := hS.1.grown hg neB neR hb
          have hF10 := blk_grown hS.2 hg neF
          refine hK.out _ _ ⟨hM10, hF10⟩ (fun _ => ?_)
          clear hK K hR0 hS neB neR neF hb hg hat
          refine nK (some 50) ?_
          refine pK 15 (some 51) (bA 17 65535) ?_
          refine last_ (i := 16) (N := none) (bA 17 131071) rfl rfl (by kernel_rfl) (by decide) (fun K hK => ?_)
          obtain ⟨zc0, zc1, zc2, zf0, zf1, zf2⟩ := blk3 hF10
          refine skip_ (w1 := ?_) (by rfl) rfl ?_ ?_
          rotate_left
          · go_simp
            rfl
          have hLS := LS.mk_ (l' := ls ++ [vv]) hM10 hBF hRF (by omega) hF10 hR
          refine hK.out _ _ ?_
          clear hK K zc0 zc1 zc2 zf0 zf1 zf2 hM10 hF10 hR
          refine done_ (by kernel_rfl) ?_
          go_wp2
          go_roundg (5 - j)
          case measure => exact hj.1
          case rel =>
            refine ⟨j + 1, (by first | rfl | exact congrArg (Value.int .i64) (by omega)), ⟨by omega, by omega, by omega⟩, A3, c3, ⟨?_⟩⟩
            rw [hts.out, ← List.cons_append, ← hls.out]
            rw [show (ls ++ [vv]).length = ls.length + 1 by simp] at hLS
            exact hLS
    · have hd2 : decide (kd ≤ 2) = false := decide_eq_false h2
      go_wp2
      exact made_end hMS rfl rfl hm1.out hm2.out (by rw [show (madeF x).f2 = [] from hm3.out.trans (if_neg (by omega))]; exact Kd.R_nil _ _ _ _ _)
def marigraphlaw19_made.f (a0_0 : Int) (a0_1 : Int) (l0_2 : List Int) : Option (ByteArray × Int × (List ByteArray)) := some ((madeF ⟨a0_0, a0_1, l0_2⟩).f0, (madeF ⟨a0_0, a0_1, l0_2⟩).f1, (madeF ⟨a0_0, a0_1, l0_2⟩).f2)
theorem marigraphlaw19_made.calls (a0_0 : Int) (a0_1 : Int) (A0_2 : Option Addr) (c0_2 : Nat) (l0_2 : List Int) (r1 : ByteArray) (r2 : Int) (r3 : List ByteArray) (w : World) (hr0_2 : Kd.C (Kd.int .i64) w A0_2 l0_2.length l0_2) (hc0_2 : l0_2.length ≤ c0_2) (h : marigraphlaw19_made.f a0_0 a0_1 l0_2 = some (r1, r2, r3)) :
    Calls Try.prog 7 #[.agg #[.int .i64 a0_0, .int .i64 a0_1, .slice A0_2 l0_2.length c0_2]] w fun e w' => ∃ v3_ : Value, e = .returned (.agg #[.string r1, .int .i64 r2, v3_]) ∧ Kd.R Kd.string 9 w' w.heap.size (fun _ => True) v3_ r3 ∧ Below w.heap.size w w' := by
  obtain ⟨rfl, rfl, rfl⟩ : (madeF ⟨a0_0, a0_1, l0_2⟩).f0 = r1 ∧ (madeF ⟨a0_0, a0_1, l0_2⟩).f1 = r2 ∧ (madeF ⟨a0_0, a0_1, l0_2⟩).f2 = r3 := by
    have h := Option.some.inj h
    injection h with h0 h
    injection h with h1 h2
    exact ⟨h0, h1, h2⟩
  exact made_calls ⟨a0_0, a0_1, l0_2⟩ A0_2 c0_2 w hr0_2 hc0_2

/-! ### marigraphbook_Within: function 18 -/
def marigraphbook_Within.j0 : Nat → Int → Int → Int → Bool → Option (Int)
 | 0, _, _, _, _ => none
 | k + 1, x0, x1, x2, x14 => if x14 = true then (some x0) else (if (wrap64 ((wrap64 (x2 - x1)) + 1)) = 0 then (none) else (if (Int.tmod x0 (wrap64 ((wrap64 (x2 - x1)) + 1))) < 0 then (some (wrap64 (x1 + (wrap64 ((wrap64 ((wrap64 ((Int.tmod x0 (wrap64 ((wrap64 (x2 - x1)) + 1))) + x2)) - x1)) + 1))))) else (some (wrap64 (x1 + (Int.tmod x0 (wrap64 ((wrap64 (x2 - x1)) + 1))))))))
def marigraphbook_Within.f (k : Nat) (a0 : Int) (a1 : Int) (a2 : Int) : Option (Int) := if a0 ≥ a1 then (marigraphbook_Within.j0 k a0 a1 a2 (decide (a0 ≤ a2))) else (marigraphbook_Within.j0 k a0 a1 a2 false)
theorem marigraphbook_Within.mono_l : ∀ k, (∀ y0 y1 y2 y3, LeO (marigraphbook_Within.j0 k y0 y1 y2 y3) (marigraphbook_Within.j0 (k + 1) y0 y1 y2 y3))
 | 0 => fun _ _ _ _ r h => by simp [marigraphbook_Within.j0] at h
 | k + 1 => by
  have ih0 := marigraphbook_Within.mono_l k
  ·intro y0 y1 y2 y3
   unfold marigraphbook_Within.j0
   repeat' first
   | (with_reducible exact ih0 _ _ _ _)
   | (with_reducible exact LeO.refl _)
   | (with_reducible exact LeO.none _)
   | (with_reducible refine LeO.ite ?_ ?_)
   | (with_reducible refine LeO.bind ?_ (fun _ => ?_))
   | exact ih0 _ _ _ _
   | exact LeO.none _
   | refine LeO.ite ?_ ?_
   | refine LeO.bind ?_ (fun _ => ?_)
theorem marigraphbook_Within.mono : ∀ a0 a1 a2 k, LeO (marigraphbook_Within.f k a0 a1 a2) (marigraphbook_Within.f (k + 1) a0 a1 a2) := by
 intro a0 a1 a2 k
 have ih0 := marigraphbook_Within.mono_l k
 unfold marigraphbook_Within.f
 repeat' first
   | (with_reducible exact ih0 _ _ _ _)
   | (with_reducible exact LeO.refl _)
   | (with_reducible exact LeO.none _)
   | (with_reducible refine LeO.ite ?_ ?_)
   | (with_reducible refine LeO.bind ?_ (fun _ => ?_))
   | exact ih0 _ _ _ _
   | exact LeO.none _
   | refine LeO.ite ?_ ?_
   | refine LeO.bind ?_ (fun _ => ?_)
set_option maxHeartbeats 8000000 in
set_option maxRecDepth 100000 in
theorem marigraphbook_Within.calls (k : Nat) (a0 : Int) (a1 : Int) (a2 : Int) (r : Int) (w : World) (h : marigraphbook_Within.f k a0 a1 a2 = some r) :
  Calls Try.prog 18 #[.int .i64 a0, .int .i64 a1, .int .i64 a2] w fun e w' => e = .returned (.int .i64 r) ∧ Drawn0 w w' := by
 have H : (if a0 ≥ a1 then (marigraphbook_Within.j0 k a0 a1 a2 (decide (a0 ≤ a2))) else (marigraphbook_Within.j0 k a0 a1 a2 false)) = some r := h
 clear h
 have HC4 := Aside0.mk H
 clear H
 go_enter Try.func18, Try.ntmps18
 go_upto_region 1 with (fail)
 go_cut [14] (fun v14 wc => ∃ (kq : Nat) (x14_3 : Bool), v14 = .bool x14_3 ∧ Aside0 (marigraphbook_Within.j0 kq a0 a1 a2 x14_3 = some r) ∧ Aside0 (kq ≤ k) ∧ Drawn0 w wc)
 case first =>
  have H := HC4.out
  clear HC4
  by_cases c5 : a0 ≥ a1
  ·rw [if_pos c5] at H
   have c5b0 : decide (a1 ≤ a0) = true := decide_eq_true c5
   clear c5
   (first | rw [c5b0] | rw [c5b1] | (simp only [i64_w, i32_w]; rw [c5b0]) | skip)
   have H' := Aside0.mk H
   clear H
   go_wp2
   go_meet
   case rel => exact ⟨_, (decide (a0 ≤ a2)), (by first | rfl | (simp; done) | (simp [*]; done)), H', ⟨by first | omega | exact Nat.le_refl _⟩, by repeat (first | exact Drawn0.refl _ | apply Drawn0.step)⟩
  ·rw [if_neg c5] at H
   have c5b0 : decide (a1 ≤ a0) = false := decide_eq_false c5
   clear c5
   (first | rw [c5b0] | rw [c5b1] | (simp only [i64_w, i32_w]; rw [c5b0]) | skip)
   have H' := Aside0.mk H
   clear H
   go_wp2
   go_meet
   case rel => exact ⟨_, (false), (by first | rfl | (simp; done) | (simp [*]; done)), H', ⟨by first | omega | exact Nat.le_refl _⟩, by repeat (first | exact Drawn0.refl _ | apply Drawn0.step)⟩
 case rest =>
  clear HC4
  try clear c1
  try clear p2
  try clear c5
  try clear c5b0
  obtain ⟨kq, x14_3, rfl, HA, HJ3, ⟨mc3, rfl⟩⟩ := hcut
  cases kq with
  | zero => exact absurd HA.out (by simp [marigraphbook_Within.j0])
  | succ kj3 =>
   have H := HA.out
   clear HA
   simp only [marigraphbook_Within.j0] at H
   by_cases c6 : x14_3 = true
   ·subst c6
    have H1 : (some a0) = some r := by rw [if_pos rfl] at H; exact H
    clear H
    have H := H1
    clear H1
    obtain rfl := Option.some.inj H
    go_wp2
    go_ret
    exact ⟨by first | rfl | (simp; done) | (simp [*]; done), by repeat (first | exact Drawn0.refl _ | apply Drawn0.step)⟩
   ·replace c6 := Bool.eq_false_iff.mpr c6
    subst c6
    have H1 : (if (wrap64 ((wrap64 (a2 - a1)) + 1)) = 0 then (none) else (if (Int.tmod a0 (wrap64 ((wrap64 (a2 - a1)) + 1))) < 0 then (some (wrap64 (a1 + (wrap64 ((wrap64 ((wrap64 ((Int.tmod a0 (wrap64 ((wrap64 (a2 - a1)) + 1))) + a2)) - a1)) + 1))))) else (some (wrap64 (a1 + (Int.tmod a0 (wrap64 ((wrap64 (a2 - a1)) + 1)))))))) = some r := by rw [if_neg (show ¬ (false = true) by decide)] at H; exact H
    clear H
    have H := H1
    clear H1
    by_cases c7 : (wrap64 ((wrap64 (a2 - a1)) + 1)) = 0
    ·rw [if_pos c7] at H
     exact absurd H (by simp)
    ·rw [if_neg c7] at H
     have c7b0 : ((wrap64 ((wrap64 (a2 - a1)) + 1)) == 0) = false := beq_eq_false_iff_ne.mpr c7
     have c7b1 : ((wrap64 ((wrap64 (a2 - a1)) + 1)) != 0) = true := bne_iff_ne.mpr c7
     by_cases c8 : (Int.tmod a0 (wrap64 ((wrap64 (a2 - a1)) + 1))) < 0
     ·rw [if_pos c8] at H
      have c8b0 : decide ((Int.tmod a0 (wrap64 ((wrap64 (a2 - a1)) + 1))) < 0) = true := decide_eq_true c8
      clear c8
      obtain rfl := Option.some.inj H
      go_wp2
      go_ret
      exact ⟨by first | rfl | (simp; done) | (simp [*]; done), by repeat (first | exact Drawn0.refl _ | apply Drawn0.step)⟩
     ·rw [if_neg c8] at H
      have c8b0 : decide ((Int.tmod a0 (wrap64 ((wrap64 (a2 - a1)) + 1))) < 0) = false := decide_eq_false c8
      clear c8
      obtain rfl := Option.some.inj H
      go_wp2
      go_ret
      exact ⟨by first | rfl | (simp; done) | (simp [*]; done), by repeat (first | exact Drawn0.refl _ | apply Drawn0.step)⟩

/-! ### marigraphkeep_pick: function 16 -/
def marigraphkeep_pick.f (k : Nat) (l0 : List ByteArray) (a1 : Int) : Option (ByteArray) := (marigraphbook_Within.f k a1 0 1048576).bind fun t107 => (if (l0.length : Int) = 0 then (none) else (if 0 ≤ (Int.tmod t107 (l0.length : Int)) then (if (Int.tmod t107 (l0.length : Int)) < (l0.length : Int) then (some (rdOf ByteArray.empty l0 (Int.tmod t107 (l0.length : Int)))) else (none)) else (none)))
theorem marigraphkeep_pick.mono : ∀ a0 a1 k, LeO (marigraphkeep_pick.f k a0 a1) (marigraphkeep_pick.f (k + 1) a0 a1) := by
 intro a0 a1 k
 unfold marigraphkeep_pick.f
 repeat' first
   | (with_reducible exact marigraphbook_Within.mono _ _ _ _)
   | (with_reducible exact LeO.refl _)
   | (with_reducible exact LeO.none _)
   | (with_reducible refine LeO.ite ?_ ?_)
   | (with_reducible refine LeO.bind ?_ (fun _ => ?_))
   | exact marigraphbook_Within.mono _ _ _ _
   | exact LeO.none _
   | refine LeO.ite ?_ ?_
   | refine LeO.bind ?_ (fun _ => ?_)
set_option maxHeartbeats 8000000 in
set_option maxRecDepth 100000 in
theorem marigraphkeep_pick.calls (k : Nat) (A0 : Option Addr) (c0 : Nat) (l0 : List ByteArray) (a1 : Int) (r : ByteArray) (w : World) (hr0 : Kd.C Kd.string w A0 l0.length l0) (hc0 : l0.length ≤ c0) (h : marigraphkeep_pick.f k l0 a1 = some r) :
  Calls Try.prog 16 #[.slice A0 l0.length c0, .int .i64 a1] w fun e w' => e = .returned (.string r) ∧ Drawn0 w w' := by
 have HR0 := Aside0.mk hr0
 have HC0 := Aside0.mk hc0
 clear hr0 hc0
 have H : ((marigraphbook_Within.f k a1 0 1048576).bind fun t107 => (if (l0.length : Int) = 0 then (none) else (if 0 ≤ (Int.tmod t107 (l0.length : Int)) then (if (Int.tmod t107 (l0.length : Int)) < (l0.length : Int) then (some (rdOf ByteArray.empty l0 (Int.tmod t107 (l0.length : Int)))) else (none)) else (none)))) = some r := h
 clear h
 replace H := Option.bind_eq_some_iff.mp H
 obtain ⟨t107, A30, H⟩ := H
 replace H : (if (l0.length : Int) = 0 then (none) else (if 0 ≤ (Int.tmod t107 (l0.length : Int)) then (if (Int.tmod t107 (l0.length : Int)) < (l0.length : Int) then (some (rdOf ByteArray.empty l0 (Int.tmod t107 (l0.length : Int)))) else (none)) else (none))) = some r := H
 have A3 := Aside0.mk A30
 clear A30
 by_cases c4 : (l0.length : Int) = 0
 ·rw [if_pos c4] at H
  exact absurd H (by simp)
 ·rw [if_neg c4] at H
  have c4b0 : ((l0.length : Int) == 0) = false := beq_eq_false_iff_ne.mpr c4
  have c4b1 : ((l0.length : Int) != 0) = true := bne_iff_ne.mpr c4
  have c4b2 : ¬ (l0 = []) := fun h_ => c4 (by rw [h_]; rfl)
  obtain ⟨ji5, hji5⟩ : ∃ j_ : Int, (Int.tmod t107 (l0.length : Int)) = j_ := ⟨_, rfl⟩
  replace H : (if 0 ≤ (ji5) then (if (ji5) < (l0.length : Int) then (some (rdOf ByteArray.empty l0 (ji5))) else (none)) else (none)) = some r := by first | (rw [hji5] at H; exact H) | (simp only [hji5] at H ⊢; exact H)
  (try rw [hji5] at A3)
  by_cases c6 : 0 ≤ (ji5)
  ·rw [if_pos c6] at H
   have c6b0 : decide (0 ≤ (ji5)) = true := decide_eq_true c6
   clear c6
   by_cases c7 : (ji5) < (l0.length : Int)
   ·rw [if_pos c7] at H
    have c7b0 : decide ((ji5) < (l0.length : Int)) = true := decide_eq_true c7
    clear c7
    obtain rfl := Option.some.inj H
    go_enter Try.func16, Try.ntmps16
    go_wp2_with (first | ((with_reducible refine gate_callee (f := 18) rfl ?_); refine goesL_ (some 7) rfl rfl Try.func18 (by kernel_rfl) rfl #[.int .i64 a1, .int .i64 0, .int .i64 1048576] rfl argN ?_; (with_reducible refine (marigraphbook_Within.calls k a1 0 1048576 t107 _ A3.out).mono ?_); rintro e w' ⟨rfl, ⟨nd, rfl⟩⟩; refine ⟨_, rfl, ?_⟩; have p108 : 0 ≤ ((ji5) : Int) := of_decide_eq_true (by first | (with_reducible assumption) | assumption); have q108 : (ji5) < (l0.length : Int) := of_decide_eq_true (by first | (with_reducible assumption) | assumption); obtain ⟨ad108, e108, hx108_0⟩ := Kd.at_string HR0.out (ji5) p108 q108; cases e108; replace p108 := eq_true p108; replace q108 := eq_true q108))
    go_ret
    exact ⟨by first | rfl | (simp; done) | (simp only [← hji5] <;> (first | rfl | simp)) | (simp [*]; done), by repeat (first | exact Drawn0.refl _ | apply Drawn0.step)⟩
   ·rw [if_neg c7] at H
    exact absurd H (by simp)
  ·rw [if_neg c6] at H
   exact absurd H (by simp)

/-! ### marigraphkeep_Metrics: function 17 -/
def marigraphkeep_Metrics.f  : Option (List ByteArray) := some (([(⟨#[99, 112, 117]⟩ : ByteArray), (⟨#[109, 101, 109]⟩ : ByteArray), (⟨#[110, 101, 116, 47, 105, 110]⟩ : ByteArray), (⟨#[97, 46, 98]⟩ : ByteArray)] : List ByteArray))
set_option maxHeartbeats 8000000 in
set_option maxRecDepth 100000 in
theorem marigraphkeep_Metrics.calls  (r : List ByteArray) (w : World) (h : marigraphkeep_Metrics.f  = some r) :
  Calls Try.prog 17 #[] w fun e w' => ∃ v0_ : Value, e = .returned (v0_) ∧ Kd.R Kd.string 9 w' w.heap.size (fun _ => True) v0_ r ∧ Below w.heap.size w w' := by
 have HB := Aside0.mk (Below.refl w.heap.size w)
 have H : (some (([(⟨#[99, 112, 117]⟩ : ByteArray), (⟨#[109, 101, 109]⟩ : ByteArray), (⟨#[110, 101, 116, 47, 105, 110]⟩ : ByteArray), (⟨#[97, 46, 98]⟩ : ByteArray)] : List ByteArray))) = some r := h
 clear h
 obtain ⟨y109, hy109⟩ : ∃ y_ : List ByteArray, y_ = (([(⟨#[99, 112, 117]⟩ : ByteArray), (⟨#[109, 101, 109]⟩ : ByteArray), (⟨#[110, 101, 116, 47, 105, 110]⟩ : ByteArray), (⟨#[97, 46, 98]⟩ : ByteArray)] : List ByteArray)) := ⟨_, rfl⟩
 replace H : (some y109) = some r := by first | (rw [hy109]; with_reducible exact H) | (have H2_ := (Option.bind_some _ _).symm.trans H; rw [hy109]; with_reducible exact H2_) | (have H2_ := (Option.bind_some _ _).symm.trans H; with_reducible exact H2_) | with_reducible exact H | (rw [hy109]; exact H) | exact H
 have Ny109 := Aside0.mk hy109
 clear hy109
 obtain rfl := Option.some.inj H
 go_enter Try.func17, Try.ntmps17
 go_wp2_with (first | ((with_reducible refine gate_dst (N := 1) rfl ?_); refine Kd.R_lit Kd.string _ 9 ?hg (N := 1) ?hd (xs := ([(⟨#[99, 112, 117]⟩ : ByteArray), (⟨#[109, 101, 109]⟩ : ByteArray), (⟨#[110, 101, 116, 47, 105, 110]⟩ : ByteArray), (⟨#[97, 46, 98]⟩ : ByteArray)] : List ByteArray)) (inner := [.string (⟨#[99, 112, 117]⟩ : ByteArray), .string (⟨#[109, 101, 109]⟩ : ByteArray), .string (⟨#[110, 101, 116, 47, 105, 110]⟩ : ByteArray), .string (⟨#[97, 46, 98]⟩ : ByteArray)]) (ok := fun _ => True) (okp := fun _ => True) ?hr ?hp (fun _ hk => hk) trivial (Below.refl _ _) (Nat.le_refl _) (by simp) ?_; (case hd => rfl); (case hg => rfl); (case hr => first | (go_simp; done) | (go_simp; rfl)); (case hp => exact (Reps.one (show Kd.M Kd.string _ _ _ (⟨#[99, 112, 117]⟩ : ByteArray) [.string (⟨#[99, 112, 117]⟩ : ByteArray)] from rfl) (Reps.one (show Kd.M Kd.string _ _ _ (⟨#[109, 101, 109]⟩ : ByteArray) [.string (⟨#[109, 101, 109]⟩ : ByteArray)] from rfl) (Reps.one (show Kd.M Kd.string _ _ _ (⟨#[110, 101, 116, 47, 105, 110]⟩ : ByteArray) [.string (⟨#[110, 101, 116, 47, 105, 110]⟩ : ByteArray)] from rfl) (Reps.one (show Kd.M Kd.string _ _ _ (⟨#[97, 46, 98]⟩ : ByteArray) [.string (⟨#[97, 46, 98]⟩ : ByteArray)] from rfl) (Reps.none _ _)))))); intro v110 w1 ho2 hb hg_ hnew_; clear hg_ hnew_; (first | rw [← Ny109.out] at ho2 | (simp only [Int.reduceToNat] at ho2; rw [← Ny109.out] at ho2)); have n0_ := Aside0.mk (Kd.R_lower ho2 (below_size (belN HB.out))); have n1_ := Aside0.mk (below_step (belN HB.out) hb); clear HB; have HO111 := n0_; have HB := n1_; clear n0_ n1_; clear hb ho2))
 go_ret
 exact ⟨_, by first | rfl | (simp [errW_none, errW_some] <;> rfl) | (simp [*, errW_none, errW_some] <;> rfl), (rowN HO111.out), (belN HB.out)⟩

end Go.Proofs.Yteghihdcagbmbaa.PFilterTells

/- The walk of the Go functions that a law reaches, told as plain functions; a program of this session has written it. No condition beyond the statement's own. -/
import Derived.Test.YtpcomhliikmjkaaPBlockTellsx0
namespace Go.Proofs.Ytpcomhliikmjkaa.PBlockTells
open Go.RowKit Go.Proofs.YtpcomhliikmjkaaW.PrintWords Go.Proofs.YtpcomhliikmjkaaW.PrintLast Go.Proofs.YtpcomhliikmjkaaW.PrintMore
attribute [local go_sem] max2_int min2_int max_two min_two max_three min_three max_four min_four   -- for this text's walks alone
set_option linter.unusedVariables false
set_option linter.unusedSimpArgs false

/-! ### proofs that a long text holds many times, by their name -/
theorem blkN {p q : Prop} (h : q) (k : q → p := by intro h_; (with_reducible repeat (first | refine blk_drewN ?_ _ | refine blk_drew ?_ | refine blk_alloc ?_ _)); exact h_) : p := k h
theorem blkF {p q : Prop} (h : q) (k : q → p := by intro h_; (repeat (first | (with_reducible first | refine blk_drewN ?_ _ | refine blk_drew ?_ | refine blk_alloc ?_ _) | refine blk_far ?_ (Aside0.out (by assumption)) _)); exact h_) : p := k h
theorem blk_ne1 {W : World} {g g2 : Nat} {o : Obj} (hg : g2 = W.heap.size) (h : W.heap[g]? = some o) : g ≠ g2 := by rw [hg]; exact Nat.ne_of_lt (blk_lt h)
theorem blk_ne2 {W : World} {g g2 : Nat} {o : Obj} (hg : g2 = W.heap.size) (h : W.heap[g]? = some o) : g2 ≠ g := (blk_ne1 hg h).symm
theorem cellNe {w : World} {a : Addr} {v : Value} {n g : Nat} (h : w.cell? a = some v) (hg : w.heap.size ≤ g) (k : a.block < w.heap.size → n < w.heap.size := by intro this; first | rwa [add_block] at this | exact this) : n ≠ g := Nat.ne_of_lt (Nat.lt_of_lt_of_le (k (World.block_lt_of_cell? _ _ h)) hg)
theorem cellB {w w' : World} {a : Addr} {v : Value} (hb : Below w.heap.size w w') (h : w.cell? a = some v) : w'.cell? a = some v := (hb.cell (World.block_lt_of_cell? w _ h)).trans h
theorem argN {p : Prop} (h : p := by (try simp only [List.map_toArray, List.map_cons, List.map_nil]); first | done | rfl | (simp only [List.length_drop, List.length_take]; rfl)) : p := h
theorem belN {p q : Prop} (h : q) (k : q → p := by intro h_; repeat (first | (with_reducible first | exact h_ | apply below_alloc | apply pw_below_drewN | apply below_drew1) | exact h_)) : p := k h
theorem belS {p q : Prop} (h : q) (k : q → p := by intro h_; repeat (first | (with_reducible first | exact h_ | apply below_alloc | apply pw_below_drewN | apply below_drew1 | refine below_set ?_ (Aside0.out (by assumption))) | exact h_)) : p := k h
theorem bkB {w W w1 : World} {g : Nat} {o : Obj} (h : w.heap[g]? = some o) (hb : Below W.heap.size W w1) (k : w.heap[g]? = some o → W.heap[g]? = some o := by intro h_; (with_reducible repeat (first | refine blk_drewN ?_ _ | refine blk_drew ?_ | refine blk_alloc ?_ _)); exact h_) : w1.heap[g]? = some o := blk_below (k h) hb
theorem bkBF {w W w1 : World} {g : Nat} {o : Obj} (h : w.heap[g]? = some o) (hb : Below W.heap.size W w1) (k : w.heap[g]? = some o → W.heap[g]? = some o := by intro h_; (repeat (first | (with_reducible first | refine blk_drewN ?_ _ | refine blk_drew ?_ | refine blk_alloc ?_ _) | refine blk_far ?_ (Aside0.out (by assumption)) _)); exact h_) : w1.heap[g]? = some o := blk_below (k h) hb
theorem bk1 {w W : World} {g g2 : Nat} {o : Obj} (hg : g2 = W.heap.size) (h : w.heap[g]? = some o) (k : w.heap[g]? = some o → W.heap[g]? = some o := by intro h_; (with_reducible repeat (first | refine blk_drewN ?_ _ | refine blk_drew ?_ | refine blk_alloc ?_ _)); exact h_) : g ≠ g2 := blk_ne1 hg (k h)
theorem bk2 {w W : World} {g g2 : Nat} {o : Obj} (hg : g2 = W.heap.size) (h : w.heap[g]? = some o) (k : w.heap[g]? = some o → W.heap[g]? = some o := by intro h_; (with_reducible repeat (first | refine blk_drewN ?_ _ | refine blk_drew ?_ | refine blk_alloc ?_ _)); exact h_) : g2 ≠ g := blk_ne2 hg (k h)
theorem bk1F {w W : World} {g g2 : Nat} {o : Obj} (hg : g2 = W.heap.size) (h : w.heap[g]? = some o) (k : w.heap[g]? = some o → W.heap[g]? = some o := by intro h_; (repeat (first | (with_reducible first | refine blk_drewN ?_ _ | refine blk_drew ?_ | refine blk_alloc ?_ _) | refine blk_far ?_ (Aside0.out (by assumption)) _)); exact h_) : g ≠ g2 := blk_ne1 hg (k h)
theorem bk2F {w W : World} {g g2 : Nat} {o : Obj} (hg : g2 = W.heap.size) (h : w.heap[g]? = some o) (k : w.heap[g]? = some o → W.heap[g]? = some o := by intro h_; (repeat (first | (with_reducible first | refine blk_drewN ?_ _ | refine blk_drew ?_ | refine blk_alloc ?_ _) | refine blk_far ?_ (Aside0.out (by assumption)) _)); exact h_) : g2 ≠ g := blk_ne2 hg (k h)
theorem szB {w V W : World} {g : Nat} (hg : g = W.heap.size) (h : Below w.heap.size w V) (k : Below w.heap.size w V → Below w.heap.size w W := by intro h_; repeat (first | (with_reducible first | exact h_ | apply below_alloc | apply pw_below_drewN | apply below_drew1 | refine below_set ?_ (Aside0.out (by assumption))) | exact h_)) : w.heap.size ≤ g := by rw [hg]; exact below_size (k h)
theorem cbN {α : Type} {d : Kd α} {B : Nat} {w w0 w1 : World} {A_ : Option Addr} {n : Nat} {xs : List α} (h : d.C w0 A_ n xs) (hb : Below B w w1) (k : d.C w0 A_ n xs → d.C w A_ n xs := by intro h_; repeat (first | (with_reducible exact h_) | (with_reducible refine Kd.C_alloc ?_ _) | (with_reducible refine Kd.C_drewN ?_ _) | (with_reducible refine Kd.C_drew ?_) | exact h_)) (hB : B = w.heap.size := by rfl) : d.C w1 A_ n xs := Kd.C_below (k h) (hB ▸ hb)
/-- Which operations have come up, as a number: its bits. -/
def bA (n m : Nat) : Array Bool := ((List.range n).map fun i => m.testBit i).toArray
/-- A step that yields in every world, its side proofs told once; pU: an operation whose guard is off. -/
theorem pA {P : Program} {ops : Array Oper} {Q : Exit → Act → World → Prop} {md : Region.Mode} {S : World → Prop} {ds : List Nat} {T : Bool × List (List Nat × List Nat)} {oi : Oper} {v : Value} {fuel : Nat} {l : Array Bool} {a a' : Act} {w : World} (i : Nat) (N : Option Tmp) (l' : Array Bool) (hT : rtab md ops = T) (h : wpAnyLast P md ops Q S ds fuel l' a' w)
    (hi : ops[i]? = some oi := by rfl) (hN : oi.dst = N := by rfl) (hc : anyT T l.toList l'.toList i = true := by kernel_rfl) (hQ : ∀ c a w, Q (.panic c) (a.put oi.dst v) w → Q (.panic c) a w := by exact fun _ _ _ h => h)
    (hy : Region.wanted oi (yielded ops a.tmps) = true := by rfl) (hy' : ∀ w, (execOp a.eval oi).run P w = .ok (.value v) w := by intro w'; go_simp; with_reducible rfl)
    (ha : a.put N v = a' := by simp only [Act.put, List.setIfInBounds_toArray, List.set_cons_zero, List.set_cons_succ, i64_w, i32_w]; rfl) : wpAnyLast P md ops Q S ds (fuel + 1) l a w :=
  pure_ l' hi hN (any_of hT hc) hQ (Or.inl ⟨hy, hy'⟩) ha h
theorem pU {P : Program} {ops : Array Oper} {Q : Exit → Act → World → Prop} {md : Region.Mode} {S : World → Prop} {ds : List Nat} {T : Bool × List (List Nat × List Nat)} {oi : Oper} {fuel : Nat} {l : Array Bool} {a a' : Act} {w : World} (i : Nat) (N : Option Tmp) (l' : Array Bool) (hT : rtab md ops = T) (h : wpAnyLast P md ops Q S ds fuel l' a' w)
    (hi : ops[i]? = some oi := by rfl) (hN : oi.dst = N := by rfl) (hc : anyT T l.toList l'.toList i = true := by kernel_rfl) (hQ : ∀ c a w, Q (.panic c) (a.put oi.dst undef) w → Q (.panic c) a w := by exact fun _ _ _ h => h)
    (hy : Region.wanted oi (yielded ops a.tmps) = false := by rfl)
    (ha : a.put N undef = a' := by simp only [Act.put, List.setIfInBounds_toArray, List.set_cons_zero, List.set_cons_succ, i64_w, i32_w]; rfl) : wpAnyLast P md ops Q S ds (fuel + 1) l a w :=
  pure_ l' hi hN (any_of hT hc) hQ (Or.inr ⟨hy, rfl⟩) ha h
theorem rowN {p q : Prop} (h : q) (k : q → p := by intro h_; (with_reducible repeat (first | apply Kd.R_alloc | apply Kd.R_drewN | apply Kd.R_drew)); exact h_) : p := k h

/-- A step of a region that yields in every world; one whose guard is off; one that reads what is held. -/
theorem pK {P : Program} {ops : Array Oper} {Q : Exit → Act → World → Prop} {md : Region.Mode} {S : World → Prop} {ds : List Nat} {oi : Oper} {v : Value} {fuel : Nat} {l : Array Bool} {a a' : Act} {w : World} (i : Nat) (N : Option Tmp) (l' : Array Bool) (h : wpAnyLast P md ops Q S ds fuel l' a' w)
    (hi : ops[i]? = some oi := by rfl) (hN : oi.dst = N := by rfl) (hc : anyB md ops l l' i = true := by kernel_rfl) (hQ : ∀ c a w, Q (.panic c) (a.put oi.dst v) w → Q (.panic c) a w := by exact fun _ _ _ h => h)
    (hy : Region.wanted oi (yielded ops a.tmps) = true := by rfl) (hy' : ∀ w, (execOp a.eval oi).run P w = .ok (.value v) w := by intro w'; go_simp; with_reducible rfl)
    (ha : a.put N v = a' := by simp only [Act.put, List.setIfInBounds_toArray, List.set_cons_zero, List.set_cons_succ, i64_w, i32_w]; rfl) : wpAnyLast P md ops Q S ds (fuel + 1) l a w :=
  pure_ l' hi hN hc hQ (Or.inl ⟨hy, hy'⟩) ha h
theorem uK {P : Program} {ops : Array Oper} {Q : Exit → Act → World → Prop} {md : Region.Mode} {S : World → Prop} {ds : List Nat} {oi : Oper} {fuel : Nat} {l : Array Bool} {a a' : Act} {w : World} (i : Nat) (N : Option Tmp) (l' : Array Bool) (h : wpAnyLast P md ops Q S ds fuel l' a' w)
    (hi : ops[i]? = some oi := by rfl) (hN : oi.dst = N := by rfl) (hc : anyB md ops l l' i = true := by kernel_rfl) (hQ : ∀ c a w, Q (.panic c) (a.put oi.dst undef) w → Q (.panic c) a w := by exact fun _ _ _ h => h)
    (hy : Region.wanted oi (yielded ops a.tmps) = false := by rfl)
    (ha : a.put N undef = a' := by simp only [Act.put, List.setIfInBounds_toArray, List.set_cons_zero, List.set_cons_succ, i64_w, i32_w]; rfl) : wpAnyLast P md ops Q S ds (fuel + 1) l a w :=
  pure_ l' hi hN hc hQ (Or.inr ⟨hy, rfl⟩) ha h
theorem tK {P : Program} {ops : Array Oper} {Q : Exit → Act → World → Prop} {md : Region.Mode} {S : World → Prop} {ds : List Nat} {oi : Oper} {v : Value} {fuel : Nat} {l : Array Bool} {a a' : Act} {w : World} (i : Nat) (N : Option Tmp) (l' : Array Bool) (hi : ops[i]? = some oi) (hN : oi.dst = N) (hS : S w) (hy' : ∀ w, S w → (execOp a.eval oi).run P w = .ok (.value v) w) (h : wpAnyLast P md ops Q S ds fuel l' a' w)
    (hc : takeB md ops ds l l' i = true := by kernel_rfl) (hQ : ∀ c a w, Q (.panic c) (a.put oi.dst v) w → Q (.panic c) a w := by exact fun _ _ _ h => h)
    (hy : Region.wanted oi (yielded ops a.tmps) = true := by rfl)
    (ha : a.put N v = a' := by simp only [Act.put, List.setIfInBounds_toArray, List.set_cons_zero, List.set_cons_succ, i64_w, i32_w]; rfl) : wpAnyLast P md ops Q S ds (fuel + 1) l a w :=
  take_ l' hi hN hc hQ (Or.inl ⟨hy, hy'⟩) hS ha h
theorem nK {P : Program} {ops : Array Oper} {Q : Exit → Act → World → Prop} {md : Region.Mode} {S : World → Prop} {ds : List Nat} {fuel : Nat} {l : Array Bool} {a a' : Act} {v : Value} {w : World} (N : Option Tmp) (h : wpAnyLast P md ops Q S ds fuel l a' w)
    (ha : a.put N v = a' := by simp only [Act.put, List.setIfInBounds_toArray, List.set_cons_zero, List.set_cons_succ, i64_w, i32_w]; rfl) : wpAnyLast P md ops Q S ds fuel l (a.put N v) w := norm_ ha h
theorem blk3 {w : World} {g : Nat} {t : TypeId} {x y z : Value} (h : w.heap[g]? = some (.cells #[x, y, z] t (0, 0))) : w.cell? ⟨g, 0, none⟩ = some x ∧ w.cell? ⟨g, 1, none⟩ = some y ∧ w.cell? ⟨g, 2, none⟩ = some z ∧ w.frozen? ⟨g, 0, none⟩ = false ∧ w.frozen? ⟨g, 1, none⟩ = false ∧ w.frozen? ⟨g, 2, none⟩ = false :=
  ⟨(blk_cell h 0).trans rfl, (blk_cell h 1).trans rfl, (blk_cell h 2).trans rfl, blk_frozen h 0, blk_frozen h 1, blk_frozen h 2⟩

/-! ### marigraphkeep_Rise: function 10, by hand -/
/-- How many stand ahead. -/
def riseFrom : List S34 → S34 → Nat
  | [], _ => 0
  | y :: r, x => if Op.bytesLess (strOfNums y.f0).toList (strOfNums x.f0).toList = true then riseFrom r x + 1 else 0
def riseI (out : List S34) (x : S34) : List S34 :=
  if riseFrom out x < out.length ∧ (strOfNums (rd_T34 out (riseFrom out x : Nat)).f0).toList = (strOfNums x.f0).toList then out.set (riseFrom out x) x else (out.take (riseFrom out x) ++ [x]) ++ out.drop (riseFrom out x)
def marigraphkeep_Rise.f (l0 : List S34) : Option (List S34) := if l0.length < 1000000 then some (l0.foldl riseI []) else none
theorem riseFrom_le : ∀ (l : List S34) (x : S34), riseFrom l x ≤ l.length
  | [], _ => Nat.le_refl _
  | y :: r, x => by
    unfold riseFrom
    have := riseFrom_le r x
    split
    · rw [List.length_cons]; omega
    · exact Nat.zero_le _
theorem riseI_len (out : List S34) (x : S34) : (riseI out x).length ≤ out.length + 1 := by
  unfold riseI
  split
  · rw [List.length_set]; omega
  · have := riseFrom_le out x
    rw [List.length_append, List.length_append, List.length_take, List.length_drop, List.length_singleton]
    omega
theorem riseFrom_step {out : List S34} {x : S34} {j : Nat} (hj : j < out.length) : riseFrom (out.drop j) x = if Op.bytesLess (strOfNums (rd_T34 out (j : Int)).f0).toList (strOfNums x.f0).toList = true then riseFrom (out.drop (j + 1)) x + 1 else 0 := by
  have e : rd_T34 out (j : Int) = out[j] := by
    unfold rd_T34
    rw [Int.toNat_natCast, List.getD_eq_getElem?_getD, List.getElem?_eq_getElem hj]
    rfl
  rw [e, List.drop_eq_getElem_cons hj]
  rfl
theorem one3 {a b c d e f : _} {g : Bool} : ∀ q ∈ [Value.slice a b c, Value.slice d e f, Value.bool g], q.oneCell' = true := by
  intro q hq
  simp only [List.mem_cons, List.not_mem_nil, or_false] at hq
  rcases hq with rfl | rfl | rfl <;> rfl
set_option maxHeartbeats 8000000 in
set_option maxRecDepth 100000 in
theorem marigraphkeep_Rise.calls (P0_ : Nat → Prop) (A0 : Option Addr) (c0 : Nat) (l0 : List S34) (r : List S34) (w : World) (hs0 : Kd.V k34 34 w w.heap.size (fun k_ => P0_ k_) (.slice A0 l0.length c0) l0) (h : marigraphkeep_Rise.f l0 = some r) :
    Calls Try.prog 10 #[.slice A0 l0.length c0] w fun e w' => ∃ v0_ : Value, e = .returned (v0_) ∧ Kd.N k34 34 w' w.heap.size (fun k_ => (P0_ k_ ∨ w.heap.size ≤ k_)) v0_ r ∧ Below w.heap.size w w' := by
  unfold marigraphkeep_Rise.f at h
  by_cases hlim : l0.length < 1000000
  rotate_left
  · rw [if_neg hlim] at h; cases h
  rw [if_pos hlim] at h
  obtain rfl := Option.some.inj h
  clear h
  have hu34 := Try.underlying34
  go_enter Try.func10, Try.ntmps10
  go_wp2
  go_loopg [3, 4] (l0.length + 1) (fun kq v3 v4 w' => ∃ (x4 : Int) (acc : List S34), v4 = .int .i64 x4 ∧ Aside0 (0 ≤ x4 ∧ x4 ≤ (l0.length : Int) ∧ l0.length + 1 ≤ kq + x4.toNat ∧ acc.length ≤ x4.toNat) ∧ Aside0 ((l0.drop x4.toNat).foldl riseI acc = l0.foldl riseI []) ∧ Aside0 (Kd.N k34 34 w' w.heap.size (fun k_ => (P0_ k_ ∨ w.heap.size ≤ k_)) v3 acc) ∧ Aside0 (Below w.heap.size w w'))
  case atStart => exact ⟨0, [], rfl, ⟨by omega, by omega, by omega, Nat.zero_le _⟩, ⟨rfl⟩, ⟨Kd.N_nil _ _ _ _ _⟩, ⟨Below.refl _ _⟩⟩
  case round =>
    obtain ⟨x4, acc, rfl, hlt, hr, HO, HB⟩ := hrel
    generalize wr = wo at HO HB ⊢
    obtain ⟨Ao, co, eo⟩ := Kd.N_slice HO.out
    subst eo
    by_cases hx : x4 < (l0.length : Int)
    rotate_left
    · have hd : decide (x4 < (l0.length : Int)) = false := decide_eq_false hx
      have hr' := hr.out
      rw [List.drop_of_length_le (by have := hlt.out; omega)] at hr'
      go_wp2
      go_ret
      exact ⟨_, rfl, by rw [← hr']; exact HO.out, HB.out⟩
    have hd : decide (x4 < (l0.length : Int)) = true := decide_eq_true hx
    have hr' := hr.out
    clear hr
    rw [List.drop_eq_getElem_cons (show x4.toNat < l0.length by have := hlt.out; omega), List.foldl_cons] at hr'
    have hxe : l0[x4.toNat]'(by have := hlt.out; omega) = rd_T34 l0 x4 := by
      unfold rd_T34
      rw [List.getD_eq_getElem?_getD, List.getElem?_eq_getElem (show x4.toNat < l0.length by have := hlt.out; omega)]
      rfl
    rw [hxe] at hr'
    clear hxe
    replace hr := Aside0.mk hr'
    clear hr'
    obtain ⟨-, -, hF0⟩ := Kd.V_at (Kd.V_below (Kd.V_bound hs0) HB.out)
    obtain ⟨ad2, cs2, e2, hcl2, hK2, hcc2, hin2⟩ := Kd.F_get hF0 z34 x4 hlt.out.1 hx
    obtain ⟨A2_0, c2_0, A2_1, c2_1, rfl, hl2_0, hg2_0, hl2_1, hg2_1⟩ := k34_openF hK2
    have hx2_0 : wo.cell? (ad2.add (x4.toNat * 3)) = some (.slice A2_0 (rd_T34 l0 x4).f0.length c2_0) := hcc2 0 _ rfl
    have hx2_1 : wo.cell? ⟨(ad2.add (x4.toNat * 3)).block, (ad2.add (x4.toNat * 3)).off + 1, none⟩ = some (.slice A2_1 (rd_T34 l0 x4).f1.length c2_1) := by rw [← add_field _ _ 1 (by omega)]; exact hcc2 1 _ rfl
    have hx2_2 : wo.cell? ⟨(ad2.add (x4.toNat * 3)).block, (ad2.add (x4.toNat * 3)).off + 2, none⟩ = some (.bool (rd_T34 l0 x4).f2) := by rw [← add_field _ _ 2 (by omega)]; exact hcc2 2 _ rfl
    subst e2
    clear hcc2 hcl2 hin2
    replace hK2 := Aside0.mk hK2
    have p4 : (0 ≤ x4) = True := eq_true hlt.out.1
    have q4 : (x4 < (l0.length : Int)) = True := eq_true hx
    go_upto_block 2 with (fail)
    go_cut [5] (fun v5 wc => v5 = .int .i64 ((riseFrom acc (rd_T34 l0 x4) : Nat) : Int) ∧ Drawn0 wo wc)
    case first =>
      go_wp2
      go_loopg [5] (acc.length + 1) (fun kq v5 w' => ∃ x5 : Int, v5 = .int .i64 x5 ∧ Aside0 (0 ≤ x5 ∧ x5 ≤ (acc.length : Int) ∧ acc.length + 1 ≤ kq + x5.toNat) ∧ Aside0 (riseFrom acc (rd_T34 l0 x4) = x5.toNat + riseFrom (acc.drop x5.toNat) (rd_T34 l0 x4)) ∧ Drawn0 wo w')
      case atStart => exact ⟨0, rfl, ⟨by omega, by omega, by omega⟩, ⟨by rw [Int.toNat_zero, List.drop_zero, Nat.zero_add]⟩, Drawn0.refl _⟩
      case round =>
        obtain ⟨x5, rfl, hx5, hk5, hdr⟩ := hrel
        obtain ⟨nd, rfl⟩ := hdr.out
        by_cases hx5k : x5 < (acc.length : Int)
        rotate_left
        · have hd5 : decide (x5 < (acc.length : Int)) = false := decide_eq_false hx5k
          go_wp2
          refine start_ (n := 19) (S := fun w' => True) (ds := []) (bA 19 0) (by kernel_rfl) rfl rfl trivial (fun hHeld => ?_)
          refine norm_ (by rfl) ?_
          refine pK 0 (some 12) (bA 19 1) ?_
          refine pK 1 (some 13) (bA 19 3) ?_
          refine pK 2 (some 14) (bA 19 7) ?_
          refine pK 3 (some 15) (bA 19 15) ?_
          refine pK 4 (some 16) (bA 19 31) ?_
          refine uK 5 (some 17) (bA 19 63) ?_
          refine uK 6 (some 18) (bA 19 127) ?_
          refine uK 7 (some 19) (bA 19 255) ?_
          refine uK 8 (some 20) (bA 19 511) ?_
          refine uK 9 (some 21) (bA 19 1023) ?_
          refine uK 10 (some 22) (bA 19 2047) ?_
          refine uK 11 (some 23) (bA 19 4095) ?_
          refine uK 12 (some 24) (bA 19 8191) ?_
          refine uK 13 (some 25) (bA 19 16383) ?_
          refine uK 14 (some 26) (bA 19 32767) ?_
          refine uK 15 (some 27) (bA 19 65535) ?_
          refine uK 16 (some 28) (bA 19 131071) ?_
          refine uK 17 (some 29) (bA 19 262143) ?_
          refine pK 18 (some 30) (bA 19 524287) ?_
          refine done_ (by kernel_rfl) ?_
          clear hHeld
          go_wp2
          go_meet
          case rel =>
            refine ⟨?_, ⟨⟨nd + 1, rfl⟩⟩⟩
            have hk := hk5.out
            rw [List.drop_of_length_le (by have := hx5.out; omega)] at hk
            rw [hk]
            show Value.int .i64 x5 = Value.int .i64 ((x5.toNat + 0 : Nat) : Int)
            rw [show ((x5.toNat + 0 : Nat) : Int) = x5 by have := hx5.out; omega]
        · have hd5 : decide (x5 < (acc.length : Int)) = true := decide_eq_true hx5k
          obtain ⟨-, -, hF1⟩ := Kd.V_at (Kd.N_V HO.out : Kd.V k34 34 wo w.heap.size _ _ acc)
          obtain ⟨ad1, cs1, e1, hcl1, hK1, hcc1, -⟩ := Kd.F_get hF1 z34 x5 hx5.out.1 hx5k
          obtain ⟨A1_0, c1_0, A1_1, c1_1, rfl, hl1_0, hg1_0, hl1_1, hg1_1⟩ := k34_openF hK1
          have hx1_0 : wo.cell? (ad1.add (x5.toNat * 3)) = some (.slice A1_0 (rd_T34 acc x5).f0.length c1_0) := hcc1 0 _ rfl
          subst e1
          have p5 : (0 ≤ x5) = True := eq_true hx5.out.1
          have q5 : (x5 < (acc.length : Int)) = True := eq_true hx5k
          have hk := hk5.out
          have ej : ((x5.toNat : Nat) : Int) = x5 := by have := hx5.out; omega
          rw [riseFrom_step (show x5.toNat < acc.length by have := hx5.out; omega), ej] at hk
          replace hk := Aside0.mk hk
          clear hk5
          have hw5 : wrap64 (x5 + 1) = x5 + 1 := by have := hx5.out; have := hlt.out; unfold wrap64; omega
          obtain ⟨bl, hbl⟩ : ∃ b : Bool, b = Op.bytesLess (strOfNums (rd_T34 acc x5).f0).toList (strOfNums (rd_T34 l0 x4).f0).toList := ⟨_, rfl⟩
          have hbl2 := hbl.symm
          replace hbl := Aside0.mk hbl
          cases bl with
          | false =>
            go_wp2
            refine start_ (n := 19) (S := fun w' => w'.cell? (ad1.add (x5.toNat * 3)) = some (.slice A1_0 (rd_T34 acc x5).f0.length c1_0) ∧ w'.cell? (ad2.add (x4.toNat * 3)) = some (.slice A2_0 (rd_T34 l0 x4).f0.length c2_0) ∧ Kd.C (Kd.int .u8) w' A1_0 (rd_T34 acc x5).f0.length (rd_T34 acc x5).f0 ∧ Kd.C (Kd.int .u8) w' A2_0 (rd_T34 l0 x4).f0.length (rd_T34 l0 x4).f0) (ds := []) (bA 19 0) (by kernel_rfl) rfl rfl ⟨hx1_0, hx2_0, Kd.C_drew (Kd.C_drewN (Kd.F_now hg1_0) _), Kd.C_drew (Kd.C_drewN (Kd.F_now hg2_0) _)⟩ (fun hHeld => ?_)
            refine norm_ (by rfl) ?_
            refine pK 0 (some 12) (bA 19 1) ?_
            refine pK 1 (some 13) (bA 19 3) ?_
            refine pK 2 (some 14) (bA 19 7) ?_
            refine pK 3 (some 15) (bA 19 15) ?_
            refine pK 4 (some 16) (bA 19 31) ?_
            refine pK 5 (some 17) (bA 19 63) ?_
            refine pK 6 (some 18) (bA 19 127) ?_
            refine pK 7 (some 19) (bA 19 255) ?_
            refine pK 8 (some 20) (bA 19 511) ?_
            refine tK 9 (some 21) (bA 19 1023) rfl rfl hHeld (by rintro w' ⟨s0, s1, s2, s3⟩; go_simp; with_reducible rfl) ?_
            refine tK 10 (some 22) (bA 19 2047) rfl rfl hHeld (by rintro w' ⟨s0, s1, s2, s3⟩; have e_ := Kd.C_string (P := Try.prog) (c := c1_0) Try.underlying26 Try.underlying5 Try.underlying9 s2; go_simp; with_reducible rfl) ?_
            refine pK 11 (some 23) (bA 19 4095) ?_
            refine pK 12 (some 24) (bA 19 8191) ?_
            refine pK 13 (some 25) (bA 19 16383) ?_
            refine pK 14 (some 26) (bA 19 32767) ?_
            refine tK 15 (some 27) (bA 19 65535) rfl rfl hHeld (by rintro w' ⟨s0, s1, s2, s3⟩; go_simp; with_reducible rfl) ?_
            refine tK 16 (some 28) (bA 19 131071) rfl rfl hHeld (by rintro w' ⟨s0, s1, s2, s3⟩; have e_ := Kd.C_string (P := Try.prog) (c := c2_0) Try.underlying26 Try.underlying5 Try.underlying9 s3; go_simp; with_reducible rfl) ?_
            refine pK 17 (some 29) (bA 19 262143) ?_
            refine pK 18 (some 30) (bA 19 524287) ?_
            refine done_ (by kernel_rfl) ?_
            clear hHeld
            go_wp2
            go_meet
            case rel =>
              refine ⟨?_, ⟨⟨nd + 1, rfl⟩⟩⟩
              have hk' := hk.out
              rw [← hbl.out, if_neg (fun e => Bool.noConfusion e)] at hk'
              rw [hk']
              show Value.int .i64 x5 = Value.int .i64 ((x5.toNat + 0 : Nat) : Int)
              rw [Nat.add_zero, ej]
          | true =>
            go_wp2
            refine start_ (n := 19) (S := fun w' => w'.cell? (ad1.add (x5.toNat * 3)) = some (.slice A1_0 (rd_T34 acc x5).f0.length c1_0) ∧ w'.cell? (ad2.add (x4.toNat * 3)) = some (.slice A2_0 (rd_T34 l0 x4).f0.length c2_0) ∧ Kd.C (Kd.int .u8) w' A1_0 (rd_T34 acc x5).f0.length (rd_T34 acc x5).f0 ∧ Kd.C (Kd.int .u8) w' A2_0 (rd_T34 l0 x4).f0.length (rd_T34 l0 x4).f0) (ds := []) (bA 19 0) (by kernel_rfl) rfl rfl ⟨hx1_0, hx2_0, Kd.C_drew (Kd.C_drewN (Kd.F_now hg1_0) _), Kd.C_drew (Kd.C_drewN (Kd.F_now hg2_0) _)⟩ (fun hHeld => ?_)
            refine norm_ (by rfl) ?_
            refine pK 0 (some 12) (bA 19 1) ?_
            refine pK 1 (some 13) (bA 19 3) ?_
            refine pK 2 (some 14) (bA 19 7) ?_
            refine pK 3 (some 15) (bA 19 15) ?_
            refine pK 4 (some 16) (bA 19 31) ?_
            refine pK 5 (some 17) (bA 19 63) ?_
            refine pK 6 (some 18) (bA 19 127) ?_
            refine pK 7 (some 19) (bA 19 255) ?_
            refine pK 8 (some 20) (bA 19 511) ?_
            refine tK 9 (some 21) (bA 19 1023) rfl rfl hHeld (by rintro w' ⟨s0, s1, s2, s3⟩; go_simp; with_reducible rfl) ?_
            refine tK 10 (some 22) (bA 19 2047) rfl rfl hHeld (by rintro w' ⟨s0, s1, s2, s3⟩; have e_ := Kd.C_string (P := Try.prog) (c := c1_0) Try.underlying26 Try.underlying5 Try.underlying9 s2; go_simp; with_reducible rfl) ?_
            refine pK 11 (some 23) (bA 19 4095) ?_
            refine pK 12 (some 24) (bA 19 8191) ?_
            refine pK 13 (some 25) (bA 19 16383) ?_
            refine pK 14 (some 26) (bA 19 32767) ?_
            refine tK 15 (some 27) (bA 19 65535) rfl rfl hHeld (by rintro w' ⟨s0, s1, s2, s3⟩; go_simp; with_reducible rfl) ?_
            refine tK 16 (some 28) (bA 19 131071) rfl rfl hHeld (by rintro w' ⟨s0, s1, s2, s3⟩; have e_ := Kd.C_string (P := Try.prog) (c := c2_0) Try.underlying26 Try.underlying5 Try.underlying9 s3; go_simp; with_reducible rfl) ?_
            refine pK 17 (some 29) (bA 19 262143) ?_
            refine pK 18 (some 30) (bA 19 524287) ?_
            refine done_ (by kernel_rfl) ?_
            clear hHeld
            go_wp2
            go_roundg (gk - 1)
            case measure => have := hx5.out; omega
            case rel =>
              refine ⟨x5 + 1, by first | rfl | rw [hw5], ⟨by have := hx5.out; omega, by omega, by have := hx5.out; omega⟩, ⟨?_⟩, ⟨⟨nd + 1, rfl⟩⟩⟩
              have hk' := hk.out
              rw [← hbl.out, if_pos rfl] at hk'
              rw [hk', show (x5 + 1).toNat = x5.toNat + 1 by have := hx5.out; omega]
              omega
    case rest =>
      obtain ⟨ev5, hdr⟩ := hcut
      obtain ⟨nd, rfl⟩ := hdr.out
      obtain ⟨x5, hx5⟩ : ∃ x : Int, x = ((riseFrom acc (rd_T34 l0 x4) : Nat) : Int) := ⟨_, rfl⟩
      rw [← hx5] at ev5
      subst ev5
      have hK5 : x5.toNat = riseFrom acc (rd_T34 l0 x4) := by rw [hx5, Int.toNat_natCast]
      have hle := riseFrom_le acc (rd_T34 l0 x4)
      have hx50 : 0 ≤ x5 := by omega
      have hx51 : x5 ≤ (acc.length : Int) := by omega
      replace hx5 := Aside0.mk hx5
      replace hle := Aside0.mk hle
      replace hK5 := Aside0.mk hK5
      have p5 : (0 ≤ x5) = True := eq_true hx50
      obtain ⟨eqb, heqb⟩ : ∃ b : Bool, b = decide (x5 < (acc.length : Int) ∧ (strOfNums (rd_T34 acc x5).f0).toList = (strOfNums (rd_T34 l0 x4).f0).toList) := ⟨_, rfl⟩
      replace heqb := Aside0.mk heqb
      go_upto_region 8 with (fail)
      go_cut [51] (fun v51 wc => v51 = .bool eqb ∧ Drawn0 wo wc)
      case first =>
        by_cases hx5k : x5 < (acc.length : Int)
        rotate_left
        · have hd5 : decide (x5 < (acc.length : Int)) = false := decide_eq_false hx5k
          refine start_ (n := 19) (S := fun w' => True) (ds := []) (bA 19 0) (by kernel_rfl) rfl rfl trivial (fun hHeld => ?_)
          refine norm_ (by rfl) ?_
          refine pK 0 (some 33) (bA 19 1) ?_
          refine pK 1 (some 34) (bA 19 3) ?_
          refine pK 2 (some 35) (bA 19 7) ?_
          refine pK 3 (some 36) (bA 19 15) ?_
          refine pK 4 (some 37) (bA 19 31) ?_
          refine uK 5 (some 38) (bA 19 63) ?_
          refine uK 6 (some 39) (bA 19 127) ?_
          refine uK 7 (some 40) (bA 19 255) ?_
          refine uK 8 (some 41) (bA 19 511) ?_
          refine uK 9 (some 42) (bA 19 1023) ?_
          refine uK 10 (some 43) (bA 19 2047) ?_
          refine uK 11 (some 44) (bA 19 4095) ?_
          refine uK 12 (some 45) (bA 19 8191) ?_
          refine uK 13 (some 46) (bA 19 16383) ?_
          refine uK 14 (some 47) (bA 19 32767) ?_
          refine uK 15 (some 48) (bA 19 65535) ?_
          refine uK 16 (some 49) (bA 19 131071) ?_
          refine uK 17 (some 50) (bA 19 262143) ?_
          refine pK 18 (some 51) (bA 19 524287) ?_
          refine done_ (by kernel_rfl) ?_
          clear hHeld
          go_wp2
          go_meet
          case rel => exact ⟨by rw [heqb.out, decide_eq_false (fun h => absurd h.1 (by omega))], ⟨⟨nd + 1, rfl⟩⟩⟩
        · have hd5 : decide (x5 < (acc.length : Int)) = true := decide_eq_true hx5k
          obtain ⟨-, -, hF1⟩ := Kd.V_at (Kd.N_V HO.out : Kd.V k34 34 wo w.heap.size _ _ acc)
          obtain ⟨ad1, cs1, e1, hcl1, hK1, hcc1, -⟩ := Kd.F_get hF1 z34 x5 hx50 hx5k
          obtain ⟨A1_0, c1_0, A1_1, c1_1, rfl, hl1_0, hg1_0, hl1_1, hg1_1⟩ := k34_openF hK1
          have hx1_0 : wo.cell? (ad1.add (x5.toNat * 3)) = some (.slice A1_0 (rd_T34 acc x5).f0.length c1_0) := hcc1 0 _ rfl
          subst e1
          have q5 : (x5 < (acc.length : Int)) = True := eq_true hx5k
          have hbl2 : ((strOfNums (rd_T34 acc x5).f0).toList == (strOfNums (rd_T34 l0 x4).f0).toList) = eqb := by
            rw [heqb.out]
            by_cases h : (strOfNums (rd_T34 acc x5).f0).toList = (strOfNums (rd_T34 l0 x4).f0).toList
            · rw [decide_eq_true ⟨hx5k, h⟩]; exact beq_iff_eq.2 h
            · rw [decide_eq_false (fun hh => h hh.2)]; exact beq_eq_false_iff_ne.2 h
          refine start_ (n := 19) (S := fun w' => w'.cell? (ad1.add (x5.toNat * 3)) = some (.slice A1_0 (rd_T34 acc x5).f0.length c1_0) ∧ w'.cell? (ad2.add (x4.toNat * 3)) = some (.slice A2_0 (rd_T34 l0 x4).f0.length c2_0) ∧ Kd.C (Kd.int .u8) w' A1_0 (rd_T34 acc x5).f0.length (rd_T34 acc x5).f0 ∧ Kd.C (Kd.int .u8) w' A2_0 (rd_T34 l0 x4).f0.length (rd_T34 l0 x4).f0) (ds := []) (bA 19 0) (by kernel_rfl) rfl rfl ⟨hx1_0, hx2_0, Kd.C_drew (Kd.C_drewN (Kd.F_now hg1_0) _), Kd.C_drew (Kd.C_drewN (Kd.F_now hg2_0) _)⟩ (fun hHeld => ?_)
          refine norm_ (by rfl) ?_
          refine pK 0 (some 33) (bA 19 1) ?_
          refine pK 1 (some 34) (bA 19 3) ?_
          refine pK 2 (some 35) (bA 19 7) ?_
          refine pK 3 (some 36) (bA 19 15) ?_
          refine pK 4 (some 37) (bA 19 31) ?_
          refine pK 5 (some 38) (bA 19 63) ?_
          refine pK 6 (some 39) (bA 19 127) ?_
          refine pK 7 (some 40) (bA 19 255) ?_
          refine pK 8 (some 41) (bA 19 511) ?_
          refine tK 9 (some 42) (bA 19 1023) rfl rfl hHeld (by rintro w' ⟨s0, s1, s2, s3⟩; go_simp; with_reducible rfl) ?_
          refine tK 10 (some 43) (bA 19 2047) rfl rfl hHeld (by rintro w' ⟨s0, s1, s2, s3⟩; have e_ := Kd.C_string (P := Try.prog) (c := c1_0) Try.underlying26 Try.underlying5 Try.underlying9 s2; go_simp; with_reducible rfl) ?_
          refine pK 11 (some 44) (bA 19 4095) ?_
          refine pK 12 (some 45) (bA 19 8191) ?_
          refine pK 13 (some 46) (bA 19 16383) ?_
          refine pK 14 (some 47) (bA 19 32767) ?_
          refine tK 15 (some 48) (bA 19 65535) rfl rfl hHeld (by rintro w' ⟨s0, s1, s2, s3⟩; go_simp; with_reducible rfl) ?_
          refine tK 16 (some 49) (bA 19 131071) rfl rfl hHeld (by rintro w' ⟨s0, s1, s2, s3⟩; have e_ := Kd.C_string (P := Try.prog) (c := c2_0) Try.underlying26 Try.underlying5 Try.underlying9 s3; go_simp; with_reducible rfl) ?_
          refine pK 17 (some 50) (bA 19 262143) ?_
          refine pK 18 (some 51) (bA 19 524287) ?_
          refine done_ (by kernel_rfl) ?_
          clear hHeld
          go_wp2
          go_meet
          case rel => exact ⟨rfl, ⟨⟨nd + 1, rfl⟩⟩⟩
      case rest =>
        obtain ⟨rfl, hdr2⟩ := hcut
        obtain ⟨nd2, rfl⟩ := hdr2.out
        by_cases heq : x5 < (acc.length : Int) ∧ (strOfNums (rd_T34 acc x5).f0).toList = (strOfNums (rd_T34 l0 x4).f0).toList
        · have he1 := heqb.out
          rw [decide_eq_true heq] at he1
          subst he1
          have hx5k := heq.1
          obtain ⟨g, cap, eg, hbg, hlg, -⟩ := Kd.N_form HO.out (show 0 < acc.length by omega)
          injection eg with eg1 eg2 eg3
          subst eg1
          subst eg3
          obtain ⟨cs1, hcl1, -, hcc1, -⟩ := Kd.N_elem HO.out z34 x5 hx50 hx5k
          have hg2_0' := hK2.out
          have q5 : (x5 < (acc.length : Int)) = True := eq_true hx5k
          have hw4 : wrap64 (x4 + 1) = x4 + 1 := by have := hlt.out; unfold wrap64; omega
          have hseg : cs1.take 0 ++ [.slice A2_0 (rd_T34 l0 x4).f0.length c2_0, .slice A2_1 (rd_T34 l0 x4).f1.length c2_1, .bool (rd_T34 l0 x4).f2] ++ cs1.drop (0 + 3) = [.slice A2_0 (rd_T34 l0 x4).f0.length c2_0, .slice A2_1 (rd_T34 l0 x4).f1.length c2_1, .bool (rd_T34 l0 x4).f2] := by
            rw [List.take_zero, List.nil_append, List.drop_of_length_le (by rw [hcl1]; exact Nat.le_refl _), List.append_nil]
          have hFKx : Kd.FK k34 (wo.drewN nd2) (fun k => P0_ k ∧ k < w.heap.size) (rd_T34 l0 x4) [.slice A2_0 (rd_T34 l0 x4).f0.length c2_0, .slice A2_1 (rd_T34 l0 x4).f1.length c2_1, .bool (rd_T34 l0 x4).f2] := Kd.FK_mono (ok' := fun k => P0_ k ∧ k < w.heap.size) (Kd.FK_below hK2.out (pw_below_drewN (Below.refl _ _) nd2)) (fun _ hk => hk)
          rw [← hseg] at hFKx
          go_wp2_with (first | ((with_reducible refine gate_store (t := 34) (p := 58) rfl ?_); refine Kd.N_store k34 (w0 := w) w.heap.size rfl rfl 34 (.tmp 58) (.tmp 57) rfl 34 x5 0 acc (rd_T34 l0 x4) (.agg #[.slice A2_0 (rd_T34 l0 x4).f0.length c2_0, .slice A2_1 (rd_T34 l0 x4).f1.length c2_1, .bool (rd_T34 l0 x4).f2]) [.slice A2_0 (rd_T34 l0 x4).f0.length c2_0, .slice A2_1 (rd_T34 l0 x4).f1.length c2_1, .bool (rd_T34 l0 x4).f2] cs1 (fun k_ => (P0_ k_ ∨ w.heap.size ≤ k_)) (fun k => P0_ k ∧ k < w.heap.size) rfl rfl rfl rfl (by kernel_rfl) ?aH (Kd.N_drewN HO.out nd2) hx50 hx5k hcl1 hcc1 (Nat.le_refl _) ?aM ?aK ?aB ?_; (case aM => exact hFKx); (case aH => exact one3); (case aK => exact fun k hk => ⟨.inl hk.1, by omega⟩); (case aB => exact pw_below_drewN HB.out nd2); intro w9 ho9 hb9 hg9))
          go_roundg (gk - 1)
          case measure => have := hlt.out; omega
          case rel =>
            refine ⟨x4 + 1, riseI acc (rd_T34 l0 x4), by first | rfl | rw [hw4], ⟨by have := hlt.out; omega, by omega, by have := hlt.out; omega, by have := riseI_len acc (rd_T34 l0 x4); have := hlt.out; omega⟩, ⟨by rw [show (x4 + 1).toNat = x4.toNat + 1 by have := hlt.out; omega]; exact hr.out⟩, ⟨?_⟩, ⟨hb9⟩⟩
            have e : riseI acc (rd_T34 l0 x4) = acc.set x5.toNat (rd_T34 l0 x4) := by
              unfold riseI
              rw [← hK5.out]
              have hc : x5.toNat < acc.length ∧ (strOfNums (rd_T34 acc ((x5.toNat : Nat) : Int)).f0).toList = (strOfNums (rd_T34 l0 x4).f0).toList := ⟨by omega, by rw [show ((x5.toNat : Nat) : Int) = x5 by omega]; exact heq.2⟩
              rw [if_pos hc]
            rw [e]
            exact ho9
        · have he1 := heqb.out
          rw [decide_eq_false heq] at he1
          subst he1
          have hw4 : wrap64 (x4 + 1) = x4 + 1 := by have := hlt.out; unfold wrap64; omega
          obtain ⟨W1, hW1⟩ : ∃ W, W = (wo.drewN nd2).drew := ⟨_, rfl⟩
          have HB1 : Below w.heap.size w W1 := by rw [hW1]; exact below_drew1 (pw_below_drewN HB.out nd2)
          have hsz : w.heap.size ≤ W1.heap.size := HB1.size
          have HO1 : Kd.N k34 34 W1 w.heap.size (fun k_ => (P0_ k_ ∨ w.heap.size ≤ k_)) (.slice Ao acc.length co) acc := by rw [hW1]; exact Kd.N_drew (Kd.N_drewN HO.out nd2)
          have hFx : Kd.FK k34 W1 (fun k => P0_ k ∧ k < w.heap.size) (rd_T34 l0 x4) [.slice A2_0 (rd_T34 l0 x4).f0.length c2_0, .slice A2_1 (rd_T34 l0 x4).f1.length c2_1, .bool (rd_T34 l0 x4).f2] := by rw [hW1]; exact Kd.FK_below hK2.out (below_drew1 (pw_below_drewN (Below.refl _ _) nd2))
          replace hx2_0 : W1.cell? (ad2.add (x4.toNat * 3)) = some (.slice A2_0 (rd_T34 l0 x4).f0.length c2_0) := by rw [hW1]; exact hx2_0
          replace hx2_1 : W1.cell? ⟨(ad2.add (x4.toNat * 3)).block, (ad2.add (x4.toNat * 3)).off + 1, none⟩ = some (.slice A2_1 (rd_T34 l0 x4).f1.length c2_1) := by rw [hW1]; exact hx2_1
          replace hx2_2 : W1.cell? ⟨(ad2.add (x4.toNat * 3)).block, (ad2.add (x4.toNat * 3)).off + 2, none⟩ = some (.bool (rd_T34 l0 x4).f2) := by rw [hW1]; exact hx2_2
          have hF := Kd.F_bound (Kd.N_F HO1)
          have hco := (Kd.N_reads' HO1).2.1
          have hm5 : x5.toNat ≤ acc.length := by omega
          have hFT : Kd.F k34 W1 (fun k => (P0_ k ∨ w.heap.size ≤ k) ∧ k < W1.heap.size) Ao x5.toNat (acc.take x5.toNat) := by
            have := Kd.F_take hF hm5
            rwa [List.length_take, Nat.min_eq_left hm5] at this
          have hFD := Kd.F_cut hF hm5 hco
          rw [List.length_drop] at hFD
          obtain ⟨i0, hi0, _, hs0_, _⟩ := info_parts info34
          have hcutT := cut_to (P := Try.prog) 22 34 .i64 Try.underlying22 hi0 Ao acc.length co x5 hx50 hx51 hco
          have hcutD := cut_from (P := Try.prog) 22 34 .i64 Try.underlying22 hi0 3 hs0_ Ao acc.length co x5 hx50 hx51
          rw [show k34.sz = 3 from rfl] at hFD
          generalize (if co = x5.toNat then Ao else Ao.map (·.add (x5.toNat * 3))) = AD at hFD hcutD
          clear hF hi0 hs0_
          go_upto_region 10 with (fail)
          refine start_ (n := 16) (S := fun w' => Below W1.heap.size W1 w') (ds := []) (bA 16 0) (by kernel_rfl) rfl rfl (by rw [← hW1]; exact Below.refl _ _) (fun hHeld => ?_)
          rw [← hW1] at hHeld ⊢
          refine norm_ (by rfl) ?_
          refine pK 1 (some 60) (bA 16 2) ?_
          refine pK 2 (some 61) (bA 16 6) ?_
          refine pK 3 (some 62) (bA 16 14) ?_
          refine pK 5 (some 64) (bA 16 46) ?_
          refine pK 6 (some 65) (bA 16 110) ?_
          refine pK 7 (some 66) (bA 16 238) ?_
          refine tK 8 (some 67) (bA 16 494) rfl rfl hHeld (by intro w' hb_; have s0 := (hb_.cell (World.block_lt_of_cell? _ _ hx2_0)).trans hx2_0; have s1 := (hb_.cell (World.block_lt_of_cell? _ _ hx2_1)).trans hx2_1; have s2 := (hb_.cell (World.block_lt_of_cell? _ _ hx2_2)).trans hx2_2; go_simp; with_reducible rfl) ?_
          refine pK 11 (some 70) (bA 16 2542) ?_
          refine pK 12 (some 71) (bA 16 6638) ?_
          refine pK 13 (some 72) (bA 16 14830) ?_
          refine join_ (σ := Value × Value × Value) 3 (bA 16 15359) (fun s_ => [(59, s_.1), (63, s_.2.1), (68, s_.2.2)]) (fun s_ w' => Kd.N k34 34 w' W1.heap.size (fun k_ => (P0_ k_ ∨ w.heap.size ≤ k_)) s_.2.1 (acc.take x5.toNat) ∧ Kd.N k34 34 w' W1.heap.size (fun k_ => (P0_ k_ ∨ w.heap.size ≤ k_) ∧ some k_ ≠ s_.2.1.ownBlock) s_.2.2 [(rd_T34 l0 x4)] ∧ Below W1.heap.size W1 w') ?_ ?_
          rotate_left
          · intro hCont
            refine two_ (i := 0) (j := 9) (Ni := some 59) (Nj := some 68) (bA 16 14831) (bA 16 15342) rfl rfl rfl rfl (by kernel_rfl) (by decide) (by decide) (fun K hK => ?_) (fun K hK => ?_)
            · skip
              refine Kd.N_lit_step k34 (w0 := W1) W1.heap.size 34 (by rfl) (N' := 59) rfl (xs := ([] : List S34)) (inner := []) (ok := (fun k_ => (P0_ k_ ∨ w.heap.size ≤ k_))) (okp := fun _ => False) ?hr ?hp (fun _ hk => hk.elim) ?hf (Below.refl W1.heap.size W1) ?hs (by simp) ?_
              case hr => first | (go_simp; done) | (go_simp; rfl)
              case hp => exact Reps.none _ _
              case hf => exact .inr (Nat.le_trans hsz ((Below.refl W1.heap.size W1)).size)
              case hs => exact ((Below.refl W1.heap.size W1)).size
              intro vL wL hoL hbL hgL hatL
              refine hK.out _ _ hbL (fun _ => ?_)
              clear hK K
              refine nK (some 59) ?_
              refine two_ (i := 4) (j := 9) (Ni := some 63) (Nj := some 68) (bA 16 14847) (bA 16 15343) rfl rfl rfl rfl (by kernel_rfl) (by decide) (by decide) (fun K hK => ?_) (fun K hK => ?_)
              · skip
                refine Kd.N_append_rows_step k34 (w0 := W1) W1.heap.size (by rfl) (.tmp 59) (.tmp 62) 22 34 (.agg #[(.slice none 0 0), (.slice none 0 0), (.bool false)]) 56 rfl Try.underlying22 info34 rfl (by decide) (by omega) vL ([] : List S34) (acc.take x5.toNat) Ao x5.toNat co (fun k_ => (P0_ k_ ∨ w.heap.size ≤ k_)) (fun k => (P0_ k ∨ w.heap.size ≤ k) ∧ k < W1.heap.size) rfl rfl hoL (Kd.F_below hFT hbL) ?hk ?hf hbL ?hs ?hl ?_
                case hk => exact fun k hk => ⟨hk.1, fun he => by have := Kd.N_base (hoL) k he.symm; have := hk.2; omega⟩
                case hf => exact fun k hk => .inr (Nat.le_trans (Nat.le_trans hsz (hbL).size) hk)
                case hs => exact (hbL).size
                case hl => have := hlt.out; have := hle.out; simp only [List.length_nil]; omega
                intro v1 wA hoA hbA hgA hatA
                rw [List.nil_append] at hoA
                refine hK.out _ _ hbA (fun _ => ?_)
                clear hK K
                refine nK (some 63) ?_
                refine one_ (i := 9) (N := some 68) (bA 16 15359) rfl rfl (by kernel_rfl) (by decide) (fun K hK => ?_)
                refine Kd.N_lit_step k34 (w0 := W1) W1.heap.size 34 (by rfl) (N' := 68) rfl (xs := [(rd_T34 l0 x4)]) (inner := [.slice A2_0 (rd_T34 l0 x4).f0.length c2_0, .slice A2_1 (rd_T34 l0 x4).f1.length c2_1, .bool (rd_T34 l0 x4).f2]) (ok := (fun k_ => (P0_ k_ ∨ w.heap.size ≤ k_) ∧ some k_ ≠ v1.ownBlock)) (okp := fun k => P0_ k ∧ k < w.heap.size) ?hr ?hp ?hk ?hf hbA ?hs (by simp) ?_
                case hr => first | (go_simp; done) | (go_simp; rfl)
                case hp => exact Reps.c3 (Kd.FK_below hFx hbA) (Reps.none _ _)
                case hk => exact fun k hk => ⟨.inl hk.1, fun he => by have := Kd.N_base hoA k he.symm; have := hk.2; omega⟩
                case hf => exact ⟨.inr (Nat.le_trans hsz hbA.size), fun he => by have := Kd.N_lt hoA _ he.symm; omega⟩
                case hs => exact (hbA).size
                intro vB wB hoB hbB hgB hatB
                refine hK.out _ _ hbB (fun _ => ?_)
                clear hK K
                refine nK (some 68) ?_
                exact norm_ (by simp only [putAll, Act.put, List.setIfInBounds_toArray, List.set_cons_zero, List.set_cons_succ]) (hCont (vL, v1, vB) _ ⟨Kd.N_grown hoA hgB (fun k _ => by simp), hoB, hbB⟩)
              · skip
                refine Kd.N_lit_step k34 (w0 := W1) W1.heap.size 34 (by rfl) (N' := 68) rfl (xs := [(rd_T34 l0 x4)]) (inner := [.slice A2_0 (rd_T34 l0 x4).f0.length c2_0, .slice A2_1 (rd_T34 l0 x4).f1.length c2_1, .bool (rd_T34 l0 x4).f2]) (ok := (fun k_ => (P0_ k_ ∨ w.heap.size ≤ k_) ∧ some k_ ≠ vL.ownBlock)) (okp := fun k => P0_ k ∧ k < w.heap.size) ?hr ?hp ?hk ?hf hbL ?hs (by simp) ?_
                case hr => first | (go_simp; done) | (go_simp; rfl)
                case hp => exact Reps.c3 (Kd.FK_below hFx hbL) (Reps.none _ _)
                case hk => exact fun k hk => ⟨.inl hk.1, fun he => by have := Kd.N_base hoL k he.symm; have := hk.2; omega⟩
                case hf => exact ⟨.inr (Nat.le_trans hsz hbL.size), fun he => by have := Kd.N_lt hoL _ he.symm; omega⟩
                case hs => exact (hbL).size
                intro vB wB hoB hbB hgB hatB
                refine hK.out _ _ hbB (fun _ => ?_)
                clear hK K
                refine nK (some 68) ?_
                refine one_ (i := 4) (N := some 63) (bA 16 15359) rfl rfl (by kernel_rfl) (by decide) (fun K hK => ?_)
                have hoL2 := Kd.N_grown hoL hgB (fun k _ => by simp)
                refine Kd.N_append_rows_step k34 (w0 := W1) W1.heap.size (by rfl) (.tmp 59) (.tmp 62) 22 34 (.agg #[(.slice none 0 0), (.slice none 0 0), (.bool false)]) 56 rfl Try.underlying22 info34 rfl (by decide) (by omega) vL ([] : List S34) (acc.take x5.toNat) Ao x5.toNat co (fun k_ => (P0_ k_ ∨ w.heap.size ≤ k_)) (fun k => (P0_ k ∨ w.heap.size ≤ k) ∧ k < W1.heap.size) rfl rfl hoL2 (Kd.F_below hFT hbB) ?hk ?hf hbB ?hs ?hl ?_
                case hk => exact fun k hk => ⟨hk.1, fun he => by have := Kd.N_base (hoL2) k he.symm; have := hk.2; omega⟩
                case hf => exact fun k hk => .inr (Nat.le_trans (Nat.le_trans hsz (hbB).size) hk)
                case hs => exact (hbB).size
                case hl => have := hlt.out; have := hle.out; simp only [List.length_nil]; omega
                intro v1 wA hoA hbA hgA hatA
                rw [List.nil_append] at hoA
                refine hK.out _ _ hbA (fun _ => ?_)
                clear hK K
                refine nK (some 63) ?_
                exact norm_ (by simp only [putAll, Act.put, List.setIfInBounds_toArray, List.set_cons_zero, List.set_cons_succ]) (hCont (vL, v1, vB) _ ⟨hoA, Kd.N_after hoB hgA hatA, hbA⟩)
            · skip
              refine Kd.N_lit_step k34 (w0 := W1) W1.heap.size 34 (by rfl) (N' := 68) rfl (xs := [(rd_T34 l0 x4)]) (inner := [.slice A2_0 (rd_T34 l0 x4).f0.length c2_0, .slice A2_1 (rd_T34 l0 x4).f1.length c2_1, .bool (rd_T34 l0 x4).f2]) (ok := (fun k_ => (P0_ k_ ∨ w.heap.size ≤ k_))) (okp := fun k => P0_ k ∧ k < w.heap.size) ?hr ?hp ?hk ?hf (Below.refl W1.heap.size W1) ?hs (by simp) ?_
              case hr => first | (go_simp; done) | (go_simp; rfl)
              case hp => exact Reps.c3 (Kd.FK_below hFx (Below.refl W1.heap.size W1)) (Reps.none _ _)
              case hk => exact fun k hk => .inl hk.1
              case hf => exact .inr hsz
              case hs => exact ((Below.refl W1.heap.size W1)).size
              intro vB wB hoB hbB hgB hatB
              refine hK.out _ _ hbB (fun _ => ?_)
              clear hK K
              refine nK (some 68) ?_
              refine one_ (i := 0) (N := some 59) (bA 16 15343) rfl rfl (by kernel_rfl) (by decide) (fun K hK => ?_)
              refine Kd.N_lit_step k34 (w0 := W1) W1.heap.size 34 (by rfl) (N' := 59) rfl (xs := ([] : List S34)) (inner := []) (ok := (fun k_ => (P0_ k_ ∨ w.heap.size ≤ k_))) (okp := fun _ => False) ?hr ?hp (fun _ hk => hk.elim) ?hf hbB ?hs (by simp) ?_
              case hr => first | (go_simp; done) | (go_simp; rfl)
              case hp => exact Reps.none _ _
              case hf => exact .inr (Nat.le_trans hsz (hbB).size)
              case hs => exact (hbB).size
              intro vL wL hoL hbL hgL hatL
              refine hK.out _ _ hbL (fun _ => ?_)
              clear hK K
              refine nK (some 59) ?_
              have hoB2 : Kd.N k34 34 wL W1.heap.size (fun k_ => (P0_ k_ ∨ w.heap.size ≤ k_) ∧ some k_ ≠ vL.ownBlock) vB [(rd_T34 l0 x4)] := Kd.N_grown (Kd.N_mono (Kd.N_bound hoB) (fun k hk => ⟨hk.1, fun he => by obtain ⟨b, hb1, hb2⟩ := hatL; rw [hb1] at he; injection he with he; have := hk.2; omega⟩)) hgL (fun k _ => by simp)
              refine one_ (i := 4) (N := some 63) (bA 16 15359) rfl rfl (by kernel_rfl) (by decide) (fun K hK => ?_)
              refine Kd.N_append_rows_step k34 (w0 := W1) W1.heap.size (by rfl) (.tmp 59) (.tmp 62) 22 34 (.agg #[(.slice none 0 0), (.slice none 0 0), (.bool false)]) 56 rfl Try.underlying22 info34 rfl (by decide) (by omega) vL ([] : List S34) (acc.take x5.toNat) Ao x5.toNat co (fun k_ => (P0_ k_ ∨ w.heap.size ≤ k_)) (fun k => (P0_ k ∨ w.heap.size ≤ k) ∧ k < W1.heap.size) rfl rfl hoL (Kd.F_below hFT hbL) ?hk ?hf hbL ?hs ?hl ?_
              case hk => exact fun k hk => ⟨hk.1, fun he => by have := Kd.N_base (hoL) k he.symm; have := hk.2; omega⟩
              case hf => exact fun k hk => .inr (Nat.le_trans (Nat.le_trans hsz (hbL).size) hk)
              case hs => exact (hbL).size
              case hl => have := hlt.out; have := hle.out; simp only [List.length_nil]; omega
              intro v1 wA hoA hbA hgA hatA
              rw [List.nil_append] at hoA
              refine hK.out _ _ hbA (fun _ => ?_)
              clear hK K
              refine nK (some 63) ?_
              exact norm_ (by simp only [putAll, Act.put, List.setIfInBounds_toArray, List.set_cons_zero, List.set_cons_succ]) (hCont (vL, v1, vB) _ ⟨hoA, Kd.N_after hoB2 hgA hatA, hbA⟩)
          rintro ⟨vL, v1, vB⟩ w3 ⟨h1, h2, hb3⟩
          dsimp only at h1 h2
          obtain ⟨A4, c4, rfl⟩ := Kd.N_slice h2
          refine norm_ (a' := ?_) ?_ ?_
          rotate_left
          · simp only [putAll, Act.put, List.setIfInBounds_toArray, List.set_cons_zero, List.set_cons_succ, i64_w, i32_w, List.length_singleton]
            rfl
          refine one_ (i := 10) (N := some 69) (bA 16 16383) rfl rfl (by kernel_rfl) (by decide) (fun K hK => ?_)
          refine Kd.N_append_rows_step k34 (w0 := W1) W1.heap.size (by rfl) (.tmp 63) (.tmp 68) 22 34 (.agg #[(.slice none 0 0), (.slice none 0 0), (.bool false)]) 56 rfl Try.underlying22 info34 rfl (by decide) (by omega) v1 (acc.take x5.toNat) [(rd_T34 l0 x4)] A4 1 c4 (fun k_ => (P0_ k_ ∨ w.heap.size ≤ k_)) (fun k_ => (P0_ k_ ∨ w.heap.size ≤ k_) ∧ some k_ ≠ v1.ownBlock) rfl rfl h1 (Kd.N_F h2) (fun _ hk => hk) ?hf hb3 ?hs ?hl ?_
          case hf => exact fun k hk => .inr (Nat.le_trans (Nat.le_trans hsz hb3.size) hk)
          case hs => exact hb3.size
          case hl => have := hlt.out; have := hle.out; rw [List.length_take]; omega
          intro v2 w4 ho4 hb4 hg4 hat4
          refine hK.out _ _ hb4 (fun _ => ?_)
          clear hK K
          refine nK (some 69) ?_
          refine one_ (i := 14) (N := some 73) (bA 16 32767) rfl rfl (by kernel_rfl) (by decide) (fun K hK => ?_)
          refine Kd.N_append_rows_step k34 (w0 := W1) W1.heap.size (by rfl) (.tmp 69) (.tmp 72) 22 34 (.agg #[(.slice none 0 0), (.slice none 0 0), (.bool false)]) 56 rfl Try.underlying22 info34 rfl (by decide) (by omega) v2 (acc.take x5.toNat ++ [(rd_T34 l0 x4)]) (acc.drop x5.toNat) AD (acc.length - x5.toNat) (co - x5.toNat) (fun k_ => (P0_ k_ ∨ w.heap.size ≤ k_)) (fun k => (P0_ k ∨ w.heap.size ≤ k) ∧ k < W1.heap.size) rfl rfl ho4 (Kd.F_below hFD hb4) ?hk ?hf hb4 ?hs ?hl ?_
          case hk => exact fun k hk => ⟨hk.1, fun he => by have := Kd.N_base ho4 k he.symm; have := hk.2; omega⟩
          case hf => exact fun k hk => .inr (Nat.le_trans (Nat.le_trans hsz hb4.size) hk)
          case hs => exact hb4.size
          case hl => have := hlt.out; have := hle.out; rw [List.length_append, List.length_take, List.length_singleton]; omega
          intro v3 w5 ho5 hb5 hg5 hat5
          refine hK.out _ _ hb5 (fun _ => ?_)
          clear hK K
          refine nK (some 73) ?_
          refine pK 15 (some 3) (bA 16 65535) ?_
          refine done_ (by kernel_rfl) ?_
          go_wp2
          go_roundg (gk - 1)
          case measure => have := hlt.out; omega
          case rel =>
            refine ⟨x4 + 1, riseI acc (rd_T34 l0 x4), by first | rfl | rw [hw4], ⟨by have := hlt.out; omega, by omega, by have := hlt.out; omega, by have := riseI_len acc (rd_T34 l0 x4); have := hlt.out; omega⟩, ⟨by rw [show (x4 + 1).toNat = x4.toNat + 1 by have := hlt.out; omega]; exact hr.out⟩, ⟨?_⟩, ⟨below_step HB1 hb5⟩⟩
            have e : riseI acc (rd_T34 l0 x4) = (acc.take x5.toNat ++ [rd_T34 l0 x4]) ++ acc.drop x5.toNat := by
              unfold riseI
              rw [← hK5.out]
              have hc : ¬ (x5.toNat < acc.length ∧ (strOfNums (rd_T34 acc ((x5.toNat : Nat) : Int)).f0).toList = (strOfNums (rd_T34 l0 x4).f0).toList) := fun hh => heq ⟨by omega, by rw [show ((x5.toNat : Nat) : Int) = x5 by omega] at hh; exact hh.2⟩
              rw [if_neg hc]
            rw [e]
            exact Kd.N_lower ho5 hsz

/-! ### marigraphkeep_Cut: function 20 -/
def marigraphkeep_Cut.f (l0 : List Int) (a1 : Int) : Option (List Int) := if (l0.length : Int) > a1 then (if 0 ≤ a1 then (if a1 ≤ (l0.length : Int) then (some (l0.take (a1 : Int).toNat)) else (none)) else (none)) else (some l0)
set_option maxHeartbeats 8000000 in
set_option maxRecDepth 100000 in
theorem marigraphkeep_Cut.calls (P0_ : Nat → Prop) (A0 : Option Addr) (c0 : Nat) (l0 : List Int) (a1 : Int) (r : List Int) (w : World) (hs0 : Kd.V (Kd.int .u8) 5 w w.heap.size (fun k_ => P0_ k_) (.slice A0 l0.length c0) l0) (h : marigraphkeep_Cut.f l0 a1 = some r) :
  Calls Try.prog 20 #[.slice A0 l0.length c0, .int .i64 a1] w fun e w' => ∃ v0_ : Value, e = .returned (v0_) ∧ Kd.V (Kd.int .u8) 5 w' w.heap.size (fun k_ => (P0_ k_ ∨ w.heap.size ≤ k_)) v0_ r ∧ Below w.heap.size w w' := by
 have HO0 := Aside0.mk (show Kd.V (Kd.int .u8) 5 w w.heap.size (fun k_ => (P0_ k_ ∨ w.heap.size ≤ k_)) (.slice A0 l0.length c0) l0 from Kd.V_mono hs0 (fun k_ hk => .inl hk))
 have HB := Aside0.mk (Below.refl w.heap.size w)
 have H : (if (l0.length : Int) > a1 then (if 0 ≤ a1 then (if a1 ≤ (l0.length : Int) then (some (l0.take (a1 : Int).toNat)) else (none)) else (none)) else (some l0)) = some r := h
 clear h
 by_cases c3 : (l0.length : Int) > a1
 ·rw [if_pos c3] at H
  have c3b0 : decide (a1 < (l0.length : Int)) = true := decide_eq_true c3
  clear c3
  by_cases c4 : 0 ≤ a1
  ·rw [if_pos c4] at H
   have c4b0 := eq_true c4
   have c4b1 : decide (0 ≤ a1) = true := decide_eq_true c4
   clear c4
   by_cases c5 : a1 ≤ (l0.length : Int)
   ·rw [if_pos c5] at H
    have c5b0 := eq_true c5
    have c5b1 : decide (a1 ≤ (l0.length : Int)) = true := decide_eq_true c5
    clear c5
    obtain ⟨y101, hy101⟩ : ∃ y_ : List Int, y_ = (l0.take (a1 : Int).toNat) := ⟨_, rfl⟩
    replace H : (some y101) = some r := by first | (rw [hy101]; with_reducible exact H) | (have H2_ := (Option.bind_some _ _).symm.trans H; rw [hy101]; with_reducible exact H2_) | (have H2_ := (Option.bind_some _ _).symm.trans H; with_reducible exact H2_) | with_reducible exact H | (rw [hy101]; exact H) | exact H
    have Ny101 := Aside0.mk hy101
    clear hy101
    obtain rfl := Option.some.inj H
    have q6 : (a1 : Int) ≤ ((l0.length : Int) : Int) := of_decide_eq_true (by first | (with_reducible assumption) | assumption)
    obtain ⟨i06, hi06, _, hsz6, _⟩ := info_parts info5
    have hroom6 : l0.length ≤ c0 := (Kd.V_reads' HO0.out).2.1
    have hC6 : Kd.F (Kd.int .u8) _ _ A0 l0.length l0 := (Kd.V_at (base := w.heap.size) HO0.out).2.2
    have hcut6 := cut_to (P := Try.prog) 26 5 .i64 Try.underlying26 hi06 A0 l0.length c0 a1 (of_decide_eq_true (by first | (with_reducible assumption) | assumption)) q6 hroom6
    have hr6 := Kd.F_take (m := (a1 : Int).toNat) hC6 (by omega)
    have hy6 : y101.length = (a1 : Int).toNat := (by rw [Ny101.out, List.length_take]; omega)
    rw [← Ny101.out] at hr6
    rw [← hy6] at hcut6
    have HO105 := Aside0.mk (show Kd.V (Kd.int .u8) 5 _ w.heap.size _ (.slice A0 y101.length c0) y101 from Kd.V_mk (by omega) hr6)
    have HC105 := Aside0.mk (show y101.length ≤ c0 from by omega)
    clear hr6 hC6 hroom6 hi06 hsz6
    have KY6 := Aside0.mk hy6
    clear hy6
    replace q6 := eq_true q6
    go_enter Try.func20, Try.ntmps20
    go_wp2
    go_ret
    exact ⟨_, by first | rfl | (simp [errW_none, errW_some] <;> rfl) | (simp [*, errW_none, errW_some] <;> rfl), by (with_reducible repeat (first | apply Kd.V_alloc | apply Kd.V_drewN | apply Kd.V_drew)); exact HO105.out, (belN HB.out)⟩
   ·rw [if_neg c5] at H
    exact absurd H (by simp)
  ·rw [if_neg c4] at H
   exact absurd H (by simp)
 ·rw [if_neg c3] at H
  have c3b0 : decide (a1 < (l0.length : Int)) = false := decide_eq_false c3
  clear c3
  obtain rfl := Option.some.inj H
  go_enter Try.func20, Try.ntmps20
  go_wp2
  go_ret
  exact ⟨_, by first | rfl | (simp [errW_none, errW_some] <;> rfl) | (simp [*, errW_none, errW_some] <;> rfl), by (with_reducible repeat (first | apply Kd.V_alloc | apply Kd.V_drewN | apply Kd.V_drew)); exact HO0.out, (belN HB.out)⟩

/-! ### marigraphkeep_Cut: of what came in and is only read -/
def cutI (l : List Int) (n : Nat) : List Int := if n < l.length then l.take n else l
theorem cutI_C {d : Kd Int} {w : World} {A : Option Addr} {l : List Int} {n : Nat} (h : Kd.C d w A l.length l) : Kd.C d w A (cutI l n).length (cutI l n) := by
  unfold cutI
  split
  · exact Kd.C_take h (by omega)
  · exact h
theorem cutI_le {l : List Int} {n c : Nat} (h : l.length ≤ c) : (cutI l n).length ≤ c := by
  unfold cutI
  split
  · rw [List.length_take]; omega
  · exact h
theorem marigraphkeep_Cut.callsR (A0 : Option Addr) (c0 : Nat) (l0 : List Int) (n : Nat) (N : Int) (w : World) (hc : l0.length ≤ c0) (hN : N = (n : Int)) :
    Calls Try.prog 20 #[.slice A0 l0.length c0, .int .i64 N] w fun e w' => e = .returned (.slice A0 (cutI l0 n).length c0) ∧ Drawn0 w w' := by
  subst hN
  by_cases h : n < l0.length
  · have e1 : (cutI l0 n).length = n := by unfold cutI; rw [if_pos h, List.length_take]; omega
    rw [e1]
    obtain ⟨i0, hi0, _, hsz, _⟩ := info_parts info5
    have hcut := cut_to (P := Try.prog) 26 5 .i64 Try.underlying26 hi0 A0 l0.length c0 (n : Int) (by omega) (by omega) hc
    have hd : decide (n < l0.length) = true := decide_eq_true h
    have hd2 : decide ((n : Int) < (l0.length : Int)) = true := decide_eq_true (by omega)
    clear hi0 hsz e1 h hc
    go_enter Try.func20, Try.ntmps20
    go_wp2
    go_ret
    exact ⟨by simp, Drawn0.refl _⟩
  · have e1 : cutI l0 n = l0 := by unfold cutI; rw [if_neg h]
    rw [e1]
    have hd : decide (n < l0.length) = false := decide_eq_false h
    have hd2 : decide ((n : Int) < (l0.length : Int)) = false := decide_eq_false (by omega)
    clear e1 h hc
    go_enter Try.func20, Try.ntmps20
    go_wp2
    go_ret
    exact ⟨rfl, Drawn0.refl _⟩

end Go.Proofs.Ytpcomhliikmjkaa.PBlockTells

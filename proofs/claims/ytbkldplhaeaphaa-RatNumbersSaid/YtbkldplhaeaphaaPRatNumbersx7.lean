/- The walk of the Go functions that a law reaches, told as plain functions; a program of this session has written it. No condition beyond the statement's own. -/
import Derived.Test.YtbkldplhaeaphaaPRatNumbersx0
import Derived.Test.YtbkldplhaeaphaaPRatNumbersx1
import Derived.Test.YtbkldplhaeaphaaPRatNumbersx2
import Derived.Test.YtbkldplhaeaphaaPRatNumbersx3
import Derived.Test.YtbkldplhaeaphaaPRatNumbersx4
import Derived.Test.YtbkldplhaeaphaaPRatNumbersx5
import Derived.Test.YtbkldplhaeaphaaPRatNumbersx6
namespace Go.Proofs.Ytbkldplhaeaphaa.PRatNumbers
open Go.RowKit Go.Proofs.YtbkldplhaeaphaaW.PrintWords Go.Proofs.YtbkldplhaeaphaaW.PrintLast Go.Proofs.YtbkldplhaeaphaaW.PrintMore
attribute [local go_sem] max2_int min2_int max_two min_two max_three min_three max_four min_four   -- for this text's walks alone
set_option linter.unusedVariables false
set_option linter.unusedSimpArgs false

attribute [local go_sem high] eqA23
/-! ### marigraphlaw1_two: function 7, by hand, in the case that all is true -/
attribute [local go_sem high] eqA23
def marigraphlaw1_two.f (k : Nat) (a0_0 : Int) (a0_1 : Int) (a1_0 : Int) (a1_1 : Int) : Option (Bool) :=
  (rat_Add.f k a0_0 a0_1 a1_0 a1_1).bind fun w => (rat_Sub.f k a0_0 a0_1 a1_0 a1_1).bind fun x => (rat_Mul.f k a0_0 a0_1 a1_0 a1_1).bind fun y => (rat_Div.f k a0_0 a0_1 a1_0 a1_1).bind fun z =>
  (marigraphref1_Op.f k 43 a0_0 a0_1 a1_0 a1_1).bind fun p => (marigraphref1_Op.f k 45 a0_0 a0_1 a1_0 a1_1).bind fun q => (marigraphref1_Op.f k 42 a0_0 a0_1 a1_0 a1_1).bind fun r => (marigraphref1_Op.f k 47 a0_0 a0_1 a1_0 a1_1).bind fun s =>
  (rat_Cmp.f k a0_0 a0_1 a1_0 a1_1).bind fun c => (marigraphref1_Cmp.f k a0_0 a0_1 a1_0 a1_1).bind fun d => (rat_Right.f k a0_0 a0_1).bind fun e => (marigraphref1_Right.f k a0_0 a0_1).bind fun f => (rat_Text.f k a0_0 a0_1).bind fun t => (marigraphref1_Text.f k a0_0 a0_1).bind fun u =>
  if (w = p ∧ x = q ∧ y = r) ∧ (z = s ∧ c = d ∧ e = f) ∧ t = u then some true else none
theorem marigraphlaw1_two.mono : ∀ a0 a1 a2 a3 k, LeO (marigraphlaw1_two.f k a0 a1 a2 a3) (marigraphlaw1_two.f (k + 1) a0 a1 a2 a3) := by
  intro a0 a1 a2 a3 k
  unfold marigraphlaw1_two.f
  refine LeO.bind (rat_Add.mono _ _ _ _ _) fun _ => LeO.bind (rat_Sub.mono _ _ _ _ _) fun _ => LeO.bind (rat_Mul.mono _ _ _ _ _) fun _ => LeO.bind (rat_Div.mono _ _ _ _ _) fun _ => ?_
  refine LeO.bind (marigraphref1_Op.mono _ _ _ _ _ _) fun _ => LeO.bind (marigraphref1_Op.mono _ _ _ _ _ _) fun _ => LeO.bind (marigraphref1_Op.mono _ _ _ _ _ _) fun _ => LeO.bind (marigraphref1_Op.mono _ _ _ _ _ _) fun _ => ?_
  refine LeO.bind (rat_Cmp.mono _ _ _ _ _) fun _ => LeO.bind (marigraphref1_Cmp.mono _ _ _ _ _) fun _ => LeO.bind (rat_Right.mono _ _ _) fun _ => LeO.bind (marigraphref1_Right.mono _ _ _) fun _ => ?_
  exact LeO.bind (rat_Text.mono _ _ _) fun _ => LeO.bind (marigraphref1_Text.mono _ _ _) fun _ => LeO.refl _
/-- Some blocks, each with two numbers. -/
def Blks (L : List (Nat × Int × Int)) (w : World) : Prop := ∀ x ∈ L, w.heap[x.1]? = some (.cells #[.int .i64 x.2.1, .int .i64 x.2.2] 23 (0, 0))
theorem Blks_below {L : List (Nat × Int × Int)} {w w1 : World} (h : Blks L w) (hb : Below w.heap.size w w1) : Blks L w1 := fun x hx => blk_below (h x hx) hb
theorem Blks_drew {L : List (Nat × Int × Int)} {w : World} (h : Blks L w) : Blks L w.drew := fun x hx => blk_drew (h x hx)
theorem Blks_box {L : List (Nat × Int × Int)} {w w1 : World} {g : Nat} {n d : Int} (h : Blks L w) (hb : Below w.heap.size w w1) (hbox : w1.heap[g]? = some (.cells #[.int .i64 n, .int .i64 d] 23 (0, 0))) : Blks ((g, n, d) :: L) w1 := by
  intro x hx
  rcases List.mem_cons.1 hx with rfl | hx
  · exact hbox
  · exact blk_below (h x hx) hb
theorem Blks_new {L : List (Nat × Int × Int)} {w w1 : World} {g : Nat} {n d : Int} (h : Blks L w) (hg : g = w.heap.size) (hb : Below w.heap.size w w1) (hbox : w1.heap[g]? = some (.cells #[.int .i64 0, .int .i64 0] 23 (0, 0))) :
    Blks ((g, n, d) :: L) ((w1.setCell ⟨g, 0, none⟩ (.int .i64 n)).setCell ⟨g, 1, none⟩ (.int .i64 d)) := by
  intro x hx
  rcases List.mem_cons.1 hx with rfl | hx
  · exact blk_put (blk_put hbox 0 (.int .i64 n) rfl) 1 (.int .i64 d) rfl
  · have hne : x.1 ≠ g := blk_ne1 hg (h x hx)
    exact blk_far (p := ⟨g, 1, none⟩) (blk_far (p := ⟨g, 0, none⟩) (blk_below (h x hx) hb) hne _) hne _
theorem blk2_ {w : World} {g : Nat} {t : TypeId} {x y : Value} (h : w.heap[g]? = some (.cells #[x, y] t (0, 0))) : w.cell? ⟨g, 0, none⟩ = some x ∧ w.cell? ⟨g, 1, none⟩ = some y ∧ w.frozen? ⟨g, 0, none⟩ = false ∧ w.frozen? ⟨g, 1, none⟩ = false :=
  ⟨(blk_cell h 0).trans rfl, (blk_cell h 1).trans rfl, blk_frozen h 0, blk_frozen h 1⟩
/-- A step of a region that yields in every world; one that reads what is held. -/
theorem pK {P : Program} {ops : Array Oper} {Q : Exit → Act → World → Prop} {md : Region.Mode} {S : World → Prop} {ds : List Nat} {oi : Oper} {v : Value} {fuel : Nat} {l : Array Bool} {a a' : Act} {w : World} (i : Nat) (N : Option Tmp) (l' : Array Bool) (h : wpAnyLast P md ops Q S ds fuel l' a' w)
    (hi : ops[i]? = some oi := by rfl) (hN : oi.dst = N := by rfl) (hc : anyB md ops l l' i = true := by kernel_rfl) (hQ : ∀ c a w, Q (.panic c) (a.put oi.dst v) w → Q (.panic c) a w := by exact fun _ _ _ h => h)
    (hy : Region.wanted oi (yielded ops a.tmps) = true := by rfl) (hy' : ∀ w, (execOp a.eval oi).run P w = .ok (.value v) w := by intro w'; go_simp; with_reducible rfl)
    (ha : a.put N v = a' := by simp only [Act.put, List.setIfInBounds_toArray, List.set_cons_zero, List.set_cons_succ, i64_w, i32_w]; rfl) : wpAnyLast P md ops Q S ds (fuel + 1) l a w :=
  pure_ l' hi hN hc hQ (Or.inl ⟨hy, hy'⟩) ha h
theorem tK {P : Program} {ops : Array Oper} {Q : Exit → Act → World → Prop} {md : Region.Mode} {S : World → Prop} {ds : List Nat} {oi : Oper} {v : Value} {fuel : Nat} {l : Array Bool} {a a' : Act} {w : World} (i : Nat) (N : Option Tmp) (l' : Array Bool) (hi : ops[i]? = some oi) (hN : oi.dst = N) (hS : S w) (hy' : ∀ w, S w → (execOp a.eval oi).run P w = .ok (.value v) w) (h : wpAnyLast P md ops Q S ds fuel l' a' w)
    (hc : takeB md ops ds l l' i = true := by kernel_rfl) (hQ : ∀ c a w, Q (.panic c) (a.put oi.dst v) w → Q (.panic c) a w := by exact fun _ _ _ h => h)
    (hy : Region.wanted oi (yielded ops a.tmps) = true := by rfl)
    (ha : a.put N v = a' := by simp only [Act.put, List.setIfInBounds_toArray, List.set_cons_zero, List.set_cons_succ, i64_w, i32_w]; rfl) : wpAnyLast P md ops Q S ds (fuel + 1) l a w :=
  take_ l' hi hN hc hQ (Or.inl ⟨hy, hy'⟩) hS ha h
theorem nK {P : Program} {ops : Array Oper} {Q : Exit → Act → World → Prop} {md : Region.Mode} {S : World → Prop} {ds : List Nat} {fuel : Nat} {l : Array Bool} {a a' : Act} {v : Value} {w : World} (N : Option Tmp) (h : wpAnyLast P md ops Q S ds fuel l a' w)
    (ha : a.put N v = a' := by simp only [Act.put, List.setIfInBounds_toArray, List.set_cons_zero, List.set_cons_succ, i64_w, i32_w]; rfl) : wpAnyLast P md ops Q S ds fuel l (a.put N v) w := norm_ ha h
set_option maxHeartbeats 16000000 in
set_option maxRecDepth 100000 in
theorem marigraphlaw1_two.calls (k : Nat) (a0_0 : Int) (a0_1 : Int) (a1_0 : Int) (a1_1 : Int) (r : Bool) (w : World) (h : marigraphlaw1_two.f k a0_0 a0_1 a1_0 a1_1 = some r) :
    Calls Try.prog 7 #[.agg #[.int .i64 a0_0, .int .i64 a0_1], .agg #[.int .i64 a1_0, .int .i64 a1_1]] w fun e w' => e = .returned (.bool r) ∧ Below w.heap.size w w' := by
  unfold marigraphlaw1_two.f at h
  obtain ⟨⟨w1, w2, w3⟩, hw, h⟩ := Option.bind_eq_some_iff.mp h
  obtain ⟨⟨x1, x2, x3⟩, hx, h⟩ := Option.bind_eq_some_iff.mp h
  obtain ⟨⟨y1, y2, y3⟩, hy, h⟩ := Option.bind_eq_some_iff.mp h
  obtain ⟨⟨z1, z2, z3⟩, hz, h⟩ := Option.bind_eq_some_iff.mp h
  obtain ⟨p, hp, h⟩ := Option.bind_eq_some_iff.mp h
  obtain ⟨q, hq, h⟩ := Option.bind_eq_some_iff.mp h
  obtain ⟨r_, hr, h⟩ := Option.bind_eq_some_iff.mp h
  obtain ⟨s, hs, h⟩ := Option.bind_eq_some_iff.mp h
  obtain ⟨c, hc, h⟩ := Option.bind_eq_some_iff.mp h
  obtain ⟨d, hd, h⟩ := Option.bind_eq_some_iff.mp h
  obtain ⟨e, he, h⟩ := Option.bind_eq_some_iff.mp h
  obtain ⟨f, hf, h⟩ := Option.bind_eq_some_iff.mp h
  obtain ⟨t, ht, h⟩ := Option.bind_eq_some_iff.mp h
  obtain ⟨u, hu, h⟩ := Option.bind_eq_some_iff.mp h
  by_cases hall : ((w1, w2, w3) = p ∧ (x1, x2, x3) = q ∧ (y1, y2, y3) = r_) ∧ ((z1, z2, z3) = s ∧ c = d ∧ e = f) ∧ t = u
  case neg => rw [if_neg hall] at h; cases h
  rw [if_pos hall] at h
  obtain rfl := Option.some.inj h
  obtain ⟨⟨rfl, rfl, rfl⟩, ⟨rfl, rfl, rfl⟩, rfl⟩ := hall
  clear h
  have hw := Aside0.mk hw
  have hx := Aside0.mk hx
  have hy := Aside0.mk hy
  have hz := Aside0.mk hz
  have hp := Aside0.mk hp
  have hq := Aside0.mk hq
  have hr := Aside0.mk hr
  have hs := Aside0.mk hs
  have hc := Aside0.mk hc
  have hd := Aside0.mk hd
  have he := Aside0.mk he
  have hf := Aside0.mk hf
  have ht := Aside0.mk ht
  have hu := Aside0.mk hu
  have hu_ := Try.underlying23
  have HBa := Below.refl w.heap.size w
  have B0 : Blks [] w := fun _ hx => by cases hx
  go_enter Try.func7, Try.ntmps7
  go_wp2_with (first
    | ((with_reducible refine gate_dst (N := 19) rfl ?_); refine box_event ?hgs (N := 19) ?hds (cs := #[.int .i64 0, .int .i64 0]) (t := 23) ?hrs ?_; (case hds => rfl); (case hgs => rfl); (case hrs => first | (go_simp; done) | (go_simp; rfl)); intro gs hg ws_ hbox hb; have Bs := Blks_new (n := z1) (d := z2) Cs hg hb hbox; have Hs := below_set (j := 1) (v := .int .i64 z2) (below_set (j := 0) (v := .int .i64 z1) (below_step Ks hb) (show w.heap.size ≤ gs by rw [hg]; exact below_size Ks)) (show w.heap.size ≤ gs by rw [hg]; exact below_size Ks); obtain ⟨nc0, nc1, nf0, nf1⟩ := blk2_ hbox; obtain ⟨ac0, ac1, _, _⟩ := blk2_ (Bs (ga, a0_0, a0_1) (by simp)); obtain ⟨bc0, bc1, _, _⟩ := blk2_ (Bs (gb, a1_0, a1_1) (by simp)); clear hb hg hbox)
    | (go_at_call 18; (with_reducible refine (marigraphref1_Op.calls k 47 a0_0 a0_1 a1_0 a1_1 z1 z2 z3 _ hs.out).mono ?_); rintro e_ wsc ⟨rfl, hb⟩; have Cs := Blks_below Br hb; have Ks := below_step Hr hb; clear hb ac0 ac1 bc0 bc1)
    | ((with_reducible refine gate_dst (N := 17) rfl ?_); refine box_event ?hgr (N := 17) ?hdr (cs := #[.int .i64 0, .int .i64 0]) (t := 23) ?hrr ?_; (case hdr => rfl); (case hgr => rfl); (case hrr => first | (go_simp; done) | (go_simp; rfl)); intro gr hg wr_ hbox hb; have Br := Blks_new (n := y1) (d := y2) Cr hg hb hbox; have Hr := below_set (j := 1) (v := .int .i64 y2) (below_set (j := 0) (v := .int .i64 y1) (below_step Kr hb) (show w.heap.size ≤ gr by rw [hg]; exact below_size Kr)) (show w.heap.size ≤ gr by rw [hg]; exact below_size Kr); obtain ⟨nc0, nc1, nf0, nf1⟩ := blk2_ hbox; obtain ⟨ac0, ac1, _, _⟩ := blk2_ (Br (ga, a0_0, a0_1) (by simp)); obtain ⟨bc0, bc1, _, _⟩ := blk2_ (Br (gb, a1_0, a1_1) (by simp)); clear hb hg hbox)
    | (go_at_call 18; (with_reducible refine (marigraphref1_Op.calls k 42 a0_0 a0_1 a1_0 a1_1 y1 y2 y3 _ hr.out).mono ?_); rintro e_ wrc ⟨rfl, hb⟩; have Cr := Blks_below Bq hb; have Kr := below_step Hq hb; clear hb ac0 ac1 bc0 bc1)
    | ((with_reducible refine gate_dst (N := 15) rfl ?_); refine box_event ?hgq (N := 15) ?hdq (cs := #[.int .i64 0, .int .i64 0]) (t := 23) ?hrq ?_; (case hdq => rfl); (case hgq => rfl); (case hrq => first | (go_simp; done) | (go_simp; rfl)); intro gq hg wq_ hbox hb; have Bq := Blks_new (n := x1) (d := x2) Cq hg hb hbox; have Hq := below_set (j := 1) (v := .int .i64 x2) (below_set (j := 0) (v := .int .i64 x1) (below_step Kq hb) (show w.heap.size ≤ gq by rw [hg]; exact below_size Kq)) (show w.heap.size ≤ gq by rw [hg]; exact below_size Kq); obtain ⟨nc0, nc1, nf0, nf1⟩ := blk2_ hbox; obtain ⟨ac0, ac1, _, _⟩ := blk2_ (Bq (ga, a0_0, a0_1) (by simp)); obtain ⟨bc0, bc1, _, _⟩ := blk2_ (Bq (gb, a1_0, a1_1) (by simp)); clear hb hg hbox)
    | (go_at_call 18; (with_reducible refine (marigraphref1_Op.calls k 45 a0_0 a0_1 a1_0 a1_1 x1 x2 x3 _ hq.out).mono ?_); rintro e_ wqc ⟨rfl, hb⟩; have Cq := Blks_below Bp hb; have Kq := below_step Hp hb; clear hb ac0 ac1 bc0 bc1)
    | ((with_reducible refine gate_dst (N := 13) rfl ?_); refine box_event ?hgp (N := 13) ?hdp (cs := #[.int .i64 0, .int .i64 0]) (t := 23) ?hrp ?_; (case hdp => rfl); (case hgp => rfl); (case hrp => first | (go_simp; done) | (go_simp; rfl)); intro gp hg wp_ hbox hb; have Bp := Blks_new (n := w1) (d := w2) Cp hg hb hbox; have Hp := below_set (j := 1) (v := .int .i64 w2) (below_set (j := 0) (v := .int .i64 w1) (below_step Kp hb) (show w.heap.size ≤ gp by rw [hg]; exact below_size Kp)) (show w.heap.size ≤ gp by rw [hg]; exact below_size Kp); obtain ⟨nc0, nc1, nf0, nf1⟩ := blk2_ hbox; obtain ⟨ac0, ac1, _, _⟩ := blk2_ (Bp (ga, a0_0, a0_1) (by simp)); obtain ⟨bc0, bc1, _, _⟩ := blk2_ (Bp (gb, a1_0, a1_1) (by simp)); clear hb hg hbox)
    | (go_at_call 18; (with_reducible refine (marigraphref1_Op.calls k 43 a0_0 a0_1 a1_0 a1_1 w1 w2 w3 _ hp.out).mono ?_); rintro e_ wpc ⟨rfl, hb⟩; have Cp := Blks_below Bz hb; have Kp := below_step Hz hb; clear hb ac0 ac1 bc0 bc1)
    | ((with_reducible refine gate_dst (N := 11) rfl ?_); refine box_event ?hgz (N := 11) ?hdz (cs := #[.int .i64 0, .int .i64 0]) (t := 23) ?hrz ?_; (case hdz => rfl); (case hgz => rfl); (case hrz => first | (go_simp; done) | (go_simp; rfl)); intro gz hg wz_ hbox hb; have Bz := Blks_new (n := z1) (d := z2) Cz hg hb hbox; have Hz := below_set (j := 1) (v := .int .i64 z2) (below_set (j := 0) (v := .int .i64 z1) (below_step Kz hb) (show w.heap.size ≤ gz by rw [hg]; exact below_size Kz)) (show w.heap.size ≤ gz by rw [hg]; exact below_size Kz); obtain ⟨nc0, nc1, nf0, nf1⟩ := blk2_ hbox; obtain ⟨ac0, ac1, _, _⟩ := blk2_ (Bz (ga, a0_0, a0_1) (by simp)); obtain ⟨bc0, bc1, _, _⟩ := blk2_ (Bz (gb, a1_0, a1_1) (by simp)); clear hb hg hbox)
    | (go_at_call 17; (with_reducible refine (rat_Div.calls k a0_0 a0_1 a1_0 a1_1 z1 z2 z3 _ hz.out).mono ?_); rintro e_ wzc ⟨rfl, hb⟩; have Cz := Blks_below By hb; have Kz := below_step Hy hb; clear hb ac0 ac1 bc0 bc1)
    | ((with_reducible refine gate_dst (N := 9) rfl ?_); refine box_event ?hgy (N := 9) ?hdy (cs := #[.int .i64 0, .int .i64 0]) (t := 23) ?hry ?_; (case hdy => rfl); (case hgy => rfl); (case hry => first | (go_simp; done) | (go_simp; rfl)); intro gy hg wy_ hbox hb; have By := Blks_new (n := y1) (d := y2) Cy hg hb hbox; have Hy := below_set (j := 1) (v := .int .i64 y2) (below_set (j := 0) (v := .int .i64 y1) (below_step Ky hb) (show w.heap.size ≤ gy by rw [hg]; exact below_size Ky)) (show w.heap.size ≤ gy by rw [hg]; exact below_size Ky); obtain ⟨nc0, nc1, nf0, nf1⟩ := blk2_ hbox; obtain ⟨ac0, ac1, _, _⟩ := blk2_ (By (ga, a0_0, a0_1) (by simp)); obtain ⟨bc0, bc1, _, _⟩ := blk2_ (By (gb, a1_0, a1_1) (by simp)); clear hb hg hbox)
    | (go_at_call 16; (with_reducible refine (rat_Mul.calls k a0_0 a0_1 a1_0 a1_1 y1 y2 y3 _ hy.out).mono ?_); rintro e_ wyc ⟨rfl, hb⟩; have Cy := Blks_below Bx hb; have Ky := below_step Hx hb; clear hb ac0 ac1 bc0 bc1)
    | ((with_reducible refine gate_dst (N := 7) rfl ?_); refine box_event ?hgx (N := 7) ?hdx (cs := #[.int .i64 0, .int .i64 0]) (t := 23) ?hrx ?_; (case hdx => rfl); (case hgx => rfl); (case hrx => first | (go_simp; done) | (go_simp; rfl)); intro gx hg wx_ hbox hb; have Bx := Blks_new (n := x1) (d := x2) Cx hg hb hbox; have Hx := below_set (j := 1) (v := .int .i64 x2) (below_set (j := 0) (v := .int .i64 x1) (below_step Kx hb) (show w.heap.size ≤ gx by rw [hg]; exact below_size Kx)) (show w.heap.size ≤ gx by rw [hg]; exact below_size Kx); obtain ⟨nc0, nc1, nf0, nf1⟩ := blk2_ hbox; obtain ⟨ac0, ac1, _, _⟩ := blk2_ (Bx (ga, a0_0, a0_1) (by simp)); obtain ⟨bc0, bc1, _, _⟩ := blk2_ (Bx (gb, a1_0, a1_1) (by simp)); clear hb hg hbox)
    | (go_at_call 15; (with_reducible refine (rat_Sub.calls k a0_0 a0_1 a1_0 a1_1 x1 x2 x3 _ hx.out).mono ?_); rintro e_ wxc ⟨rfl, hb⟩; have Cx := Blks_below Bw hb; have Kx := below_step Hw hb; clear hb ac0 ac1 bc0 bc1)
    | ((with_reducible refine gate_dst (N := 5) rfl ?_); refine box_event ?hgw (N := 5) ?hdw (cs := #[.int .i64 0, .int .i64 0]) (t := 23) ?hrw ?_; (case hdw => rfl); (case hgw => rfl); (case hrw => first | (go_simp; done) | (go_simp; rfl)); intro gw hg ww_ hbox hb; have Bw := Blks_new (n := w1) (d := w2) Cw hg hb hbox; have Hw := below_set (j := 1) (v := .int .i64 w2) (below_set (j := 0) (v := .int .i64 w1) (below_step Kw hb) (show w.heap.size ≤ gw by rw [hg]; exact below_size Kw)) (show w.heap.size ≤ gw by rw [hg]; exact below_size Kw); obtain ⟨nc0, nc1, nf0, nf1⟩ := blk2_ hbox; obtain ⟨ac0, ac1, _, _⟩ := blk2_ (Bw (ga, a0_0, a0_1) (by simp)); obtain ⟨bc0, bc1, _, _⟩ := blk2_ (Bw (gb, a1_0, a1_1) (by simp)); clear hb hg hbox)
    | (go_at_call 14; (with_reducible refine (rat_Add.calls k a0_0 a0_1 a1_0 a1_1 w1 w2 w3 _ hw.out).mono ?_); rintro e_ wwc ⟨rfl, hb⟩; have Cw := Blks_below Bb hb; have Kw := below_step Hb hb; clear hb ac0 ac1 bc0 bc1)
    | ((with_reducible refine gate_dst (N := 3) rfl ?_); refine box_event ?hgb (N := 3) ?hdb (cs := #[.int .i64 a1_0, .int .i64 a1_1]) (t := 23) ?hrb ?_; (case hdb => rfl); (case hgb => rfl); (case hrb => first | (go_simp; done) | (go_simp; rfl)); intro gb hg wb_ hbox hb; have Bb := Blks_box Ba hb hbox; have Hb := below_step Ha hb; clear hb hg hbox; obtain ⟨ac0, ac1, _, _⟩ := blk2_ (Bb (ga, a0_0, a0_1) (by simp)); obtain ⟨bc0, bc1, _, _⟩ := blk2_ (Bb (gb, a1_0, a1_1) (by simp)))
    | ((with_reducible refine gate_dst (N := 2) rfl ?_); refine box_event ?hga (N := 2) ?hda (cs := #[.int .i64 a0_0, .int .i64 a0_1]) (t := 23) ?hra ?_; (case hda => rfl); (case hga => rfl); (case hra => first | (go_simp; done) | (go_simp; rfl)); intro ga hg wa_ hbox hb; have Ba := Blks_box B0 hb hbox; have Ha := below_step HBa hb; clear hb hg hbox))
  have S0 := Blks_drew Bs
  have HS := below_drew1 Hs
  refine start_ (n := 62) (S := Blks [(gs, z1, z2), (gr, y1, y2), (gq, x1, x2), (gp, w1, w2), (gz, z1, z2), (gy, y1, y2), (gx, x1, x2), (gw, w1, w2), (gb, a1_0, a1_1), (ga, a0_0, a0_1)]) (ds := []) #[false, false, false, false, false, false, false, false, false, false, false, false, false, false, false, false, false, false, false, false, false, false, false, false, false, false, false, false, false, false, false, false, false, false, false, false, false, false, false, false, false, false, false, false, false, false, false, false, false, false, false, false, false, false, false, false, false, false, false, false, false, false] (by kernel_rfl) rfl rfl S0 (fun _ => ?_)
  generalize (((ws_.setCell ⟨gs, 0, none⟩ (.int .i64 z1)).setCell ⟨gs, 1, none⟩ (.int .i64 z2)).drew) = v0 at S0 HS ⊢
  clear Ba Bb Bw Bx By Bz Bp Bq Br Bs Cw Cx Cy Cz Cp Cq Cr Cs Ha Hb Hw Hx Hy Hz Hp Hq Hr Hs Kw Kx Ky Kz Kp Kq Kr Ks
  refine tK 0 (some 69) (bA 62 1) rfl rfl S0 (by intro w' hs_; obtain ⟨c0_, c1_, _, _⟩ := blk2_ (hs_ (gw, w1, w2) (by simp)); go_simp; with_reducible rfl) ?_
  refine tK 1 (some 70) (bA 62 3) rfl rfl S0 (by intro w' hs_; obtain ⟨c0_, c1_, _, _⟩ := blk2_ (hs_ (gp, w1, w2) (by simp)); go_simp; with_reducible rfl) ?_
  refine pK 2 (some 71) (bA 62 7) ?_
  refine pK 3 (some 72) (bA 62 15) ?_
  refine pK 4 (some 73) (bA 62 31) ?_
  refine pK 5 (some 74) (bA 62 63) ?_
  refine pK 6 (some 75) (bA 62 127) ?_
  refine pK 7 (some 76) (bA 62 255) ?_
  refine pK 8 (some 77) (bA 62 511) ?_
  refine tK 9 (some 78) (bA 62 1023) rfl rfl S0 (by intro w' hs_; obtain ⟨c0_, c1_, _, _⟩ := blk2_ (hs_ (gx, x1, x2) (by simp)); go_simp; with_reducible rfl) ?_
  refine tK 10 (some 79) (bA 62 2047) rfl rfl S0 (by intro w' hs_; obtain ⟨c0_, c1_, _, _⟩ := blk2_ (hs_ (gq, x1, x2) (by simp)); go_simp; with_reducible rfl) ?_
  refine pK 11 (some 80) (bA 62 4095) ?_
  refine pK 12 (some 81) (bA 62 8191) ?_
  refine pK 13 (some 82) (bA 62 16383) ?_
  refine pK 14 (some 83) (bA 62 32767) ?_
  refine pK 15 (some 84) (bA 62 65535) ?_
  refine pK 16 (some 85) (bA 62 131071) ?_
  refine pK 17 (some 86) (bA 62 262143) ?_
  refine pK 18 (some 87) (bA 62 524287) ?_
  refine tK 19 (some 88) (bA 62 1048575) rfl rfl S0 (by intro w' hs_; obtain ⟨c0_, c1_, _, _⟩ := blk2_ (hs_ (gy, y1, y2) (by simp)); go_simp; with_reducible rfl) ?_
  refine tK 20 (some 89) (bA 62 2097151) rfl rfl S0 (by intro w' hs_; obtain ⟨c0_, c1_, _, _⟩ := blk2_ (hs_ (gr, y1, y2) (by simp)); go_simp; with_reducible rfl) ?_
  refine pK 21 (some 90) (bA 62 4194303) ?_
  refine pK 22 (some 91) (bA 62 8388607) ?_
  refine pK 23 (some 92) (bA 62 16777215) ?_
  refine pK 24 (some 93) (bA 62 33554431) ?_
  refine pK 25 (some 94) (bA 62 67108863) ?_
  refine pK 26 (some 95) (bA 62 134217727) ?_
  refine pK 27 (some 96) (bA 62 268435455) ?_
  refine pK 28 (some 97) (bA 62 536870911) ?_
  refine tK 29 (some 98) (bA 62 1073741823) rfl rfl S0 (by intro w' hs_; obtain ⟨c0_, c1_, _, _⟩ := blk2_ (hs_ (gz, z1, z2) (by simp)); go_simp; with_reducible rfl) ?_
  refine tK 30 (some 99) (bA 62 2147483647) rfl rfl S0 (by intro w' hs_; obtain ⟨c0_, c1_, _, _⟩ := blk2_ (hs_ (gs, z1, z2) (by simp)); go_simp; with_reducible rfl) ?_
  refine pK 31 (some 100) (bA 62 4294967295) ?_
  refine pK 32 (some 101) (bA 62 8589934591) ?_
  refine pK 33 (some 102) (bA 62 17179869183) ?_
  refine pK 34 (some 103) (bA 62 34359738367) ?_
  refine pK 35 (some 104) (bA 62 68719476735) ?_
  refine pK 36 (some 105) (bA 62 137438953471) ?_
  refine pK 37 (some 106) (bA 62 274877906943) ?_
  refine pK 38 (some 107) (bA 62 549755813887) ?_
  refine tK 39 (some 108) (bA 62 1099511627775) rfl rfl S0 (by intro w' hs_; obtain ⟨c0_, c1_, _, _⟩ := blk2_ (hs_ (ga, a0_0, a0_1) (by simp)); go_simp; with_reducible rfl) ?_
  refine tK 40 (some 109) (bA 62 2199023255551) rfl rfl S0 (by intro w' hs_; obtain ⟨c0_, c1_, _, _⟩ := blk2_ (hs_ (gb, a1_0, a1_1) (by simp)); go_simp; with_reducible rfl) ?_
  refine tK 42 (some 111) (bA 62 6597069766655) rfl rfl S0 (by intro w' hs_; obtain ⟨c0_, c1_, _, _⟩ := blk2_ (hs_ (ga, a0_0, a0_1) (by simp)); go_simp; with_reducible rfl) ?_
  refine tK 43 (some 112) (bA 62 15393162788863) rfl rfl S0 (by intro w' hs_; obtain ⟨c0_, c1_, _, _⟩ := blk2_ (hs_ (gb, a1_0, a1_1) (by simp)); go_simp; with_reducible rfl) ?_
  refine one_ (i := 41) (N := some 110) (bA 62 17592186044415) rfl rfl (by kernel_rfl) (by decide) (fun K hK => ?_)
  refine goes_ Try.func19 (by kernel_rfl) rfl #[.agg #[.int .i64 a0_0, .int .i64 a0_1], .agg #[.int .i64 a1_0, .int .i64 a1_1]] (by rfl) rfl rfl (by simp only [List.map_toArray, List.map_cons, List.map_nil]; rfl) ?_
  refine (rat_Cmp.calls k a0_0 a0_1 a1_0 a1_1 c v0 hc.out).mono ?_
  rintro e_ v1 ⟨rfl, hb⟩
  refine ⟨_, rfl, ?_⟩
  have S1 := Blks_below S0 hb
  have T1 := below_step HS hb
  refine hK.out _ _ S1 (fun _ => ?_)
  clear hK K hb
  refine nK (some 110) ?_
  refine one_ (i := 44) (N := some 113) (bA 62 35184372088831) rfl rfl (by kernel_rfl) (by decide) (fun K hK => ?_)
  refine goes_ Try.func20 (by kernel_rfl) rfl #[.agg #[.int .i64 a0_0, .int .i64 a0_1], .agg #[.int .i64 a1_0, .int .i64 a1_1]] (by rfl) rfl rfl (by simp only [List.map_toArray, List.map_cons, List.map_nil]; rfl) ?_
  refine (marigraphref1_Cmp.calls k a0_0 a0_1 a1_0 a1_1 c v1 hd.out).mono ?_
  rintro e_ v2 ⟨rfl, hb⟩
  refine ⟨_, rfl, ?_⟩
  have S2 := Blks_below S1 hb
  have T2 := below_step T1 hb
  refine hK.out _ _ S2 (fun _ => ?_)
  clear hK K hb
  refine nK (some 113) ?_
  refine pK 45 (some 114) (bA 62 70368744177663) ?_
  refine pK 46 (some 115) (bA 62 140737488355327) ?_
  refine pK 47 (some 116) (bA 62 281474976710655) ?_
  refine tK 48 (some 117) (bA 62 562949953421311) rfl rfl S2 (by intro w' hs_; obtain ⟨c0_, c1_, _, _⟩ := blk2_ (hs_ (ga, a0_0, a0_1) (by simp)); go_simp; with_reducible rfl) ?_
  refine tK 50 (some 119) (bA 62 1688849860263935) rfl rfl S2 (by intro w' hs_; obtain ⟨c0_, c1_, _, _⟩ := blk2_ (hs_ (ga, a0_0, a0_1) (by simp)); go_simp; with_reducible rfl) ?_
  refine one_ (i := 49) (N := some 118) (bA 62 2251799813685247) rfl rfl (by kernel_rfl) (by decide) (fun K hK => ?_)
  refine goes_ Try.func21 (by kernel_rfl) rfl #[.agg #[.int .i64 a0_0, .int .i64 a0_1]] (by rfl) rfl rfl (by simp only [List.map_toArray, List.map_cons, List.map_nil]; rfl) ?_
  refine (rat_Right.calls k a0_0 a0_1 e v2 he.out).mono ?_
  rintro e_ v3 ⟨rfl, hb⟩
  refine ⟨_, rfl, ?_⟩
  have S3 := Blks_below S2 hb
  have T3 := below_step T2 hb
  refine hK.out _ _ S3 (fun _ => ?_)
  clear hK K hb
  refine nK (some 118) ?_
  refine one_ (i := 51) (N := some 120) (bA 62 4503599627370495) rfl rfl (by kernel_rfl) (by decide) (fun K hK => ?_)
  refine goes_ Try.func22 (by kernel_rfl) rfl #[.agg #[.int .i64 a0_0, .int .i64 a0_1]] (by rfl) rfl rfl (by simp only [List.map_toArray, List.map_cons, List.map_nil]; rfl) ?_
  refine (marigraphref1_Right.calls k a0_0 a0_1 e v3 hf.out).mono ?_
  rintro e_ v4 ⟨rfl, hb⟩
  refine ⟨_, rfl, ?_⟩
  have S4 := Blks_below S3 hb
  have T4 := below_step T3 hb
  refine hK.out _ _ S4 (fun _ => ?_)
  clear hK K hb
  refine nK (some 120) ?_
  refine pK 52 (some 121) (bA 62 9007199254740991) ?_
  refine pK 53 (some 122) (bA 62 18014398509481983) ?_
  refine pK 54 (some 123) (bA 62 36028797018963967) ?_
  refine tK 55 (some 124) (bA 62 72057594037927935) rfl rfl S4 (by intro w' hs_; obtain ⟨c0_, c1_, _, _⟩ := blk2_ (hs_ (ga, a0_0, a0_1) (by simp)); go_simp; with_reducible rfl) ?_
  refine tK 57 (some 126) (bA 62 216172782113783807) rfl rfl S4 (by intro w' hs_; obtain ⟨c0_, c1_, _, _⟩ := blk2_ (hs_ (ga, a0_0, a0_1) (by simp)); go_simp; with_reducible rfl) ?_
  refine one_ (i := 56) (N := some 125) (bA 62 288230376151711743) rfl rfl (by kernel_rfl) (by decide) (fun K hK => ?_)
  refine goes_ Try.func23 (by kernel_rfl) rfl #[.agg #[.int .i64 a0_0, .int .i64 a0_1]] (by rfl) rfl rfl (by simp only [List.map_toArray, List.map_cons, List.map_nil]; rfl) ?_
  refine (rat_Text.calls k a0_0 a0_1 t v4 ht.out).mono ?_
  rintro e_ v5 ⟨rfl, hb⟩
  refine ⟨_, rfl, ?_⟩
  have S5 := Blks_below S4 hb
  have T5 := below_step T4 hb
  refine hK.out _ _ S5 (fun _ => ?_)
  clear hK K hb
  refine nK (some 125) ?_
  refine one_ (i := 58) (N := some 127) (bA 62 576460752303423487) rfl rfl (by kernel_rfl) (by decide) (fun K hK => ?_)
  refine goes_ Try.func11 (by kernel_rfl) rfl #[.agg #[.int .i64 a0_0, .int .i64 a0_1]] (by rfl) rfl rfl (by simp only [List.map_toArray, List.map_cons, List.map_nil]; rfl) ?_
  refine (marigraphref1_Text.calls k a0_0 a0_1 t v5 hu.out).mono ?_
  rintro e_ v6 ⟨rfl, hb⟩
  refine ⟨_, rfl, ?_⟩
  have S6 := Blks_below S5 hb
  have T6 := below_step T5 hb
  refine hK.out _ _ S6 (fun _ => ?_)
  clear hK K hb
  refine nK (some 127) ?_
  refine pK 59 (some 128) (bA 62 1152921504606846975) ?_
  refine pK 60 (some 129) (bA 62 2305843009213693951) ?_
  refine pK 61 (some 4) (bA 62 4611686018427387903) ?_
  refine done_ (by kernel_rfl) ?_
  go_wp2
  go_ret
  exact ⟨rfl, T6⟩

/-! ### rat_Of: function 26 -/
def rat_Of.f (k : Nat) (a0 : Int) : Option (Int × Int × Int) := (rat_New.f k a0 1).bind fun bt240 => (some (bt240.1, bt240.2.1, bt240.2.2))
theorem rat_Of.mono : ∀ a0 k, LeO (rat_Of.f k a0) (rat_Of.f (k + 1) a0) := by
 intro a0 k
 unfold rat_Of.f
 repeat' first
   | (with_reducible exact rat_New.mono _ _ _)
   | (with_reducible exact LeO.refl _)
   | (with_reducible exact LeO.none _)
   | (with_reducible refine LeO.ite ?_ ?_)
   | (with_reducible refine LeO.bind ?_ (fun _ => ?_))
   | exact rat_New.mono _ _ _
   | exact LeO.none _
   | refine LeO.ite ?_ ?_
   | refine LeO.bind ?_ (fun _ => ?_)
set_option maxHeartbeats 8000000 in
set_option maxRecDepth 100000 in
theorem rat_Of.calls (k : Nat) (a0 : Int) (r1 : Int) (r2 : Int) (r3 : Int) (w : World) (h : rat_Of.f k a0 = some (r1, r2, r3)) :
  Calls Try.prog 26 #[.int .i64 a0] w fun e w' => e = .returned (.tuple #[.agg #[.int .i64 r1, .int .i64 r2], .int .i64 r3]) ∧ Below w.heap.size w w' := by
 have hu23 := Try.underlying23
 have HB := Aside0.mk (Below.refl w.heap.size w)
 have H : ((rat_New.f k a0 1).bind fun bt240 => (some (bt240.1, bt240.2.1, bt240.2.2))) = some (r1, r2, r3) := h
 clear h
 replace H := Option.bind_eq_some_iff.mp H
 obtain ⟨⟨t240, t241, t242⟩, A20, H⟩ := H
 replace H : (some (t240, t241, t242)) = some (r1, r2, r3) := H
 have A2 := Aside0.mk A20
 clear A20
 simp only [Option.some.injEq, Prod.mk.injEq] at H
 obtain ⟨rfl, rfl, rfl⟩ := H
 go_enter Try.func26, Try.ntmps26
 go_wp2_with (first | ((with_reducible refine gate_dst (N := 2) rfl ?_); refine box_event ?hg (N := 2) ?hd (cs := #[.int .i64 0, .int .i64 0]) (t := 23) ?hr ?_; (case hd => rfl); (case hg => rfl); (case hr => first | (go_simp; done) | (go_simp; rfl)); intro gb239 hg w3 hbox hb; have n0_ := Aside0.mk (below_step (belN HB.out) hb); have n1_ := Aside0.mk (hbox); have n2_ := Aside0.mk (szB hg HB.out); have n3_ := Aside0.mk (szB hg HB.out); clear HB; have HB := n0_; have BK239 := n1_; have GW239 := n2_; have GE239 := n3_; clear n0_ n1_ n2_ n3_; clear hb hbox hg) | ((with_reducible refine gate_callee (f := 24) rfl ?_); refine goesL_ (some 5) rfl rfl Try.func24 (by kernel_rfl) rfl #[.int .i64 a0, .int .i64 1] rfl argN ?_; (with_reducible refine (rat_New.calls k a0 1 t240 t241 t242 _ A2.out).mono ?_); rintro e w4 ⟨rfl, hb⟩; refine ⟨_, rfl, ?_⟩; have n0_ := Aside0.mk (bkB BK239.out hb); have n1_ := Aside0.mk (below_step (belS HB.out) hb); clear BK239; clear HB; have BK239 := n0_; have HB := n1_; clear n0_ n1_; (try clear hb); have hcz5_0 : w4.cell? ⟨gb239, 0, none⟩ = some (.int .i64 0) := (blk_cell BK239.out 0).trans rfl; have hcz5_1 : w4.cell? ⟨gb239, 1, none⟩ = some (.int .i64 0) := (blk_cell BK239.out 1).trans rfl; have hfz5_0 := blk_frozen BK239.out 0; have hfz5_1 := blk_frozen BK239.out 1))
 refine bodyPost_ret (results_ct rfl _ _ gb239 23 #[.int .i64 t240, .int .i64 t241] (0, 0) _ rfl (by (with_reducible repeat (first | refine blk_drewN ?_ _ | refine blk_drew ?_ | refine blk_alloc ?_ _)); refine blk_put (cs := #[.int .i64 t240, .int .i64 0]) ?_ 1 _ rfl; (with_reducible repeat (first | refine blk_drewN ?_ _ | refine blk_drew ?_ | refine blk_alloc ?_ _)); refine blk_put (cs := #[.int .i64 0, .int .i64 0]) ?_ 0 _ rfl; (with_reducible repeat (first | refine blk_drewN ?_ _ | refine blk_drew ?_ | refine blk_alloc ?_ _)); exact BK239.out) Try.underlying23 rfl (by kernel_rfl)) rfl ?_
 exact ⟨by first | rfl | (simp [errW_none, errW_some] <;> rfl) | (simp [*, errW_none, errW_some] <;> rfl), (belS HB.out)⟩

/-! ### marigraphlaw1_news: function 8 -/
def marigraphlaw1_news.f (k : Nat) (a0 : Int) (a1 : Int) : Option (Bool) := (rat_New.f k a0 a1).bind fun bt243 => ((marigraphref1_New.f k a0 a1).bind fun bt247 => ((rat_Of.f k a0).bind fun bt251 => ((marigraphref1_New.f k a0 1).bind fun bt255 => (if (bt243.1 == bt247.1 && (bt243.2.1 == bt247.2.1)) = true then (if bt243.2.2 = bt247.2.2 then (if (bt251.1 == bt255.1 && (bt251.2.1 == bt255.2.1)) = true then (some (bt251.2.2 == bt255.2.2)) else (some false)) else (some false)) else (some false)))))
theorem marigraphlaw1_news.mono : ∀ a0 a1 k, LeO (marigraphlaw1_news.f k a0 a1) (marigraphlaw1_news.f (k + 1) a0 a1) := by
 intro a0 a1 k
 unfold marigraphlaw1_news.f
 repeat' first
   | (with_reducible exact marigraphref1_New.mono _ _ _)
   | (with_reducible exact rat_New.mono _ _ _)
   | (with_reducible exact rat_Of.mono _ _)
   | (with_reducible exact LeO.refl _)
   | (with_reducible exact LeO.none _)
   | (with_reducible refine LeO.ite ?_ ?_)
   | (with_reducible refine LeO.bind ?_ (fun _ => ?_))
   | exact marigraphref1_New.mono _ _ _
   | exact rat_New.mono _ _ _
   | exact rat_Of.mono _ _
   | exact LeO.none _
   | refine LeO.ite ?_ ?_
   | refine LeO.bind ?_ (fun _ => ?_)
set_option maxHeartbeats 8000000 in
set_option maxRecDepth 100000 in
theorem marigraphlaw1_news.calls (k : Nat) (a0 : Int) (a1 : Int) (r : Bool) (w : World) (h : marigraphlaw1_news.f k a0 a1 = some r) :
  Calls Try.prog 8 #[.int .i64 a0, .int .i64 a1] w fun e w' => e = .returned (.bool r) ∧ Below w.heap.size w w' := by
 have hu23 := Try.underlying23
 have HB := Aside0.mk (Below.refl w.heap.size w)
 have H : ((rat_New.f k a0 a1).bind fun bt243 => ((marigraphref1_New.f k a0 a1).bind fun bt247 => ((rat_Of.f k a0).bind fun bt251 => ((marigraphref1_New.f k a0 1).bind fun bt255 => (if (bt243.1 == bt247.1 && (bt243.2.1 == bt247.2.1)) = true then (if bt243.2.2 = bt247.2.2 then (if (bt251.1 == bt255.1 && (bt251.2.1 == bt255.2.1)) = true then (some (bt251.2.2 == bt255.2.2)) else (some false)) else (some false)) else (some false)))))) = some r := h
 clear h
 replace H := Option.bind_eq_some_iff.mp H
 obtain ⟨⟨t243, t244, t245⟩, A30, H⟩ := H
 replace H : ((marigraphref1_New.f k a0 a1).bind fun bt247 => ((rat_Of.f k a0).bind fun bt251 => ((marigraphref1_New.f k a0 1).bind fun bt255 => (if (t243 == bt247.1 && (t244 == bt247.2.1)) = true then (if t245 = bt247.2.2 then (if (bt251.1 == bt255.1 && (bt251.2.1 == bt255.2.1)) = true then (some (bt251.2.2 == bt255.2.2)) else (some false)) else (some false)) else (some false))))) = some r := H
 have A3 := Aside0.mk A30
 clear A30
 replace H := Option.bind_eq_some_iff.mp H
 obtain ⟨⟨t247, t248, t249⟩, A40, H⟩ := H
 replace H : ((rat_Of.f k a0).bind fun bt251 => ((marigraphref1_New.f k a0 1).bind fun bt255 => (if (t243 == t247 && (t244 == t248)) = true then (if t245 = t249 then (if (bt251.1 == bt255.1 && (bt251.2.1 == bt255.2.1)) = true then (some (bt251.2.2 == bt255.2.2)) else (some false)) else (some false)) else (some false)))) = some r := H
 have A4 := Aside0.mk A40
 clear A40
 replace H := Option.bind_eq_some_iff.mp H
 obtain ⟨⟨t251, t252, t253⟩, A50, H⟩ := H
 replace H : ((marigraphref1_New.f k a0 1).bind fun bt255 => (if (t243 == t247 && (t244 == t248)) = true then (if t245 = t249 then (if (t251 == bt255.1 && (t252 == bt255.2.1)) = true then (some (t253 == bt255.2.2)) else (some false)) else (some false)) else (some false))) = some r := H
 have A5 := Aside0.mk A50
 clear A50
 replace H := Option.bind_eq_some_iff.mp H
 obtain ⟨⟨t255, t256, t257⟩, A60, H⟩ := H
 replace H : (if (t243 == t247 && (t244 == t248)) = true then (if t245 = t249 then (if (t251 == t255 && (t252 == t256)) = true then (some (t253 == t257)) else (some false)) else (some false)) else (some false)) = some r := H
 have A6 := Aside0.mk A60
 clear A60
 by_cases c7 : (t243 == t247 && (t244 == t248)) = true
 ·rw [if_pos c7] at H
  have c7b0 : (t243 == t247 && (t244 == t248)) = true := c7
  (try (have c7b1 : decide (t243 = t247 && (t244 == t248)) = true := by simpa using c7))
  (try (have c7b2 : (t243 == t247 && (t244 == t248)) = true := by simpa using c7))
  clear c7
  by_cases c8 : t245 = t249
  ·rw [if_pos c8] at H
   have c8b0 : (t245 == t249) = true := beq_iff_eq.mpr c8
   have c8b1 : (t245 != t249) = false := bne_eq_false_iff_eq.mpr c8
   clear c8
   by_cases c9 : (t251 == t255 && (t252 == t256)) = true
   ·rw [if_pos c9] at H
    have c9b0 : (t251 == t255 && (t252 == t256)) = true := c9
    (try (have c9b1 : decide (t251 = t255 && (t252 == t256)) = true := by simpa using c9))
    (try (have c9b2 : (t251 == t255 && (t252 == t256)) = true := by simpa using c9))
    clear c9
    obtain rfl := Option.some.inj H
    go_enter Try.func8, Try.ntmps8
    go_wp2_with (first | ((with_reducible refine gate_callee (f := 24) rfl ?_); refine goesL_ (some 16) rfl rfl Try.func24 (by kernel_rfl) rfl #[.int .i64 a0, .int .i64 a1] rfl argN ?_; (with_reducible refine (rat_New.calls k a0 a1 t243 t244 t245 _ A3.out).mono ?_); rintro e w10 ⟨rfl, hb⟩; refine ⟨_, rfl, ?_⟩; have n0_ := Aside0.mk (below_step (belN HB.out) hb); clear HB; have HB := n0_; clear n0_; (try clear hb)) | ((with_reducible refine gate_dst (N := 5) rfl ?_); refine box_event ?hg (N := 5) ?hd (cs := #[.int .i64 0, .int .i64 0]) (t := 23) ?hr ?_; (case hd => rfl); (case hg => rfl); (case hr => first | (go_simp; done) | (go_simp; rfl)); intro gb246 hg w11 hbox hb; have n0_ := Aside0.mk (below_step (belN HB.out) hb); have n1_ := Aside0.mk (hbox); have n2_ := Aside0.mk (szB hg HB.out); have n3_ := Aside0.mk (szB hg HB.out); clear HB; have HB := n0_; have BK246 := n1_; have GW246 := n2_; have GE246 := n3_; clear n0_ n1_ n2_ n3_; clear hb hbox hg; have hcz12_0 : w11.cell? ⟨gb246, 0, none⟩ = some (.int .i64 0) := (blk_cell BK246.out 0).trans rfl; have hcz12_1 : w11.cell? ⟨gb246, 1, none⟩ = some (.int .i64 0) := (blk_cell BK246.out 1).trans rfl; have hfz12_0 := blk_frozen BK246.out 0; have hfz12_1 := blk_frozen BK246.out 1) | ((with_reducible refine gate_callee (f := 25) rfl ?_); refine goesL_ (some 22) rfl rfl Try.func25 (by kernel_rfl) rfl #[.int .i64 a0, .int .i64 a1] rfl argN ?_; (with_reducible refine (marigraphref1_New.calls k a0 a1 t247 t248 t249 _ A4.out).mono ?_); rintro e w13 ⟨rfl, hb⟩; refine ⟨_, rfl, ?_⟩; have n0_ := Aside0.mk (blk_below (g := gb246) (o := .cells #[.int .i64 t243, .int .i64 t244] 23 (0, 0)) (by (with_reducible repeat (first | refine blk_drewN ?_ _ | refine blk_drew ?_ | refine blk_alloc ?_ _)); refine blk_put (cs := #[.int .i64 t243, .int .i64 0]) ?_ 1 _ rfl; (with_reducible repeat (first | refine blk_drewN ?_ _ | refine blk_drew ?_ | refine blk_alloc ?_ _)); refine blk_put (cs := #[.int .i64 0, .int .i64 0]) ?_ 0 _ rfl; (with_reducible repeat (first | refine blk_drewN ?_ _ | refine blk_drew ?_ | refine blk_alloc ?_ _)); exact BK246.out) hb); have n1_ := Aside0.mk (below_step (belS HB.out) hb); clear BK246; clear HB; have BK246 := n0_; have HB := n1_; clear n0_ n1_; (try clear hb)) | ((with_reducible refine gate_dst (N := 7) rfl ?_); refine box_event ?hg (N := 7) ?hd (cs := #[.int .i64 0, .int .i64 0]) (t := 23) ?hr ?_; (case hd => rfl); (case hg => rfl); (case hr => first | (go_simp; done) | (go_simp; rfl)); intro gb250 hg w14 hbox hb; have n0_ := Aside0.mk (bkB BK246.out hb); have n1_ := Aside0.mk (below_step (belS HB.out) hb); have n2_ := Aside0.mk (hbox); have n3_ := Aside0.mk (szB hg HB.out); have n4_ := Aside0.mk (szB hg HB.out); have n5_ := Aside0.mk ((bk1 hg BK246.out)); have n6_ := Aside0.mk ((bk2 hg BK246.out)); clear BK246; clear HB; have BK246 := n0_; have HB := n1_; have BK250 := n2_; have GW250 := n3_; have GE250 := n4_; have NB246_250 := n5_; have NB250_246 := n6_; clear n0_ n1_ n2_ n3_ n4_ n5_ n6_; clear hb hbox hg; have hnb15 := NB250_246.out; have hnc15 := NB246_250.out; have hcz16_0 : w14.cell? ⟨gb250, 0, none⟩ = some (.int .i64 0) := (blk_cell BK250.out 0).trans rfl; have hcz16_1 : w14.cell? ⟨gb250, 1, none⟩ = some (.int .i64 0) := (blk_cell BK250.out 1).trans rfl; have hfz16_0 := blk_frozen BK250.out 0; have hfz16_1 := blk_frozen BK250.out 1) | ((with_reducible refine gate_callee (f := 26) rfl ?_); refine goesL_ (some 27) rfl rfl Try.func26 (by kernel_rfl) rfl #[.int .i64 a0] rfl argN ?_; (with_reducible refine (rat_Of.calls k a0 t251 t252 t253 _ A5.out).mono ?_); rintro e w17 ⟨rfl, hb⟩; refine ⟨_, rfl, ?_⟩; have n0_ := Aside0.mk (bkBF BK246.out hb); have n1_ := Aside0.mk (blk_below (g := gb250) (o := .cells #[.int .i64 t247, .int .i64 t248] 23 (0, 0)) (by (with_reducible repeat (first | refine blk_drewN ?_ _ | refine blk_drew ?_ | refine blk_alloc ?_ _)); refine blk_put (cs := #[.int .i64 t247, .int .i64 0]) ?_ 1 _ rfl; (with_reducible repeat (first | refine blk_drewN ?_ _ | refine blk_drew ?_ | refine blk_alloc ?_ _)); refine blk_put (cs := #[.int .i64 0, .int .i64 0]) ?_ 0 _ rfl; (with_reducible repeat (first | refine blk_drewN ?_ _ | refine blk_drew ?_ | refine blk_alloc ?_ _)); exact BK250.out) hb); have n2_ := Aside0.mk (below_step (belS HB.out) hb); clear BK246; clear BK250; clear HB; have BK246 := n0_; have BK250 := n1_; have HB := n2_; clear n0_ n1_ n2_; (try clear hb)) | ((with_reducible refine gate_dst (N := 9) rfl ?_); refine box_event ?hg (N := 9) ?hd (cs := #[.int .i64 0, .int .i64 0]) (t := 23) ?hr ?_; (case hd => rfl); (case hg => rfl); (case hr => first | (go_simp; done) | (go_simp; rfl)); intro gb254 hg w18 hbox hb; have n0_ := Aside0.mk (bkB BK246.out hb); have n1_ := Aside0.mk (bkB BK250.out hb); have n2_ := Aside0.mk (below_step (belS HB.out) hb); have n3_ := Aside0.mk (hbox); have n4_ := Aside0.mk (szB hg HB.out); have n5_ := Aside0.mk (szB hg HB.out); have n6_ := Aside0.mk ((bk1 hg BK246.out)); have n7_ := Aside0.mk ((bk2 hg BK246.out)); have n8_ := Aside0.mk ((bk1 hg BK250.out)); have n9_ := Aside0.mk ((bk2 hg BK250.out)); clear BK246; clear BK250; clear HB; have BK246 := n0_; have BK250 := n1_; have HB := n2_; have BK254 := n3_; have GW254 := n4_; have GE254 := n5_; have NB246_254 := n6_; have NB254_246 := n7_; have NB250_254 := n8_; have NB254_250 := n9_; clear n0_ n1_ n2_ n3_ n4_ n5_ n6_ n7_ n8_ n9_; clear hb hbox hg; have hnb19 := NB254_246.out; have hnc19 := NB246_254.out; have hnb20 := NB254_250.out; have hnc20 := NB250_254.out; have hcz21_0 : w18.cell? ⟨gb254, 0, none⟩ = some (.int .i64 0) := (blk_cell BK254.out 0).trans rfl; have hcz21_1 : w18.cell? ⟨gb254, 1, none⟩ = some (.int .i64 0) := (blk_cell BK254.out 1).trans rfl; have hfz21_0 := blk_frozen BK254.out 0; have hfz21_1 := blk_frozen BK254.out 1) | ((with_reducible refine gate_callee (f := 25) rfl ?_); refine goesL_ (some 32) rfl rfl Try.func25 (by kernel_rfl) rfl #[.int .i64 a0, .int .i64 1] rfl argN ?_; (with_reducible refine (marigraphref1_New.calls k a0 1 t255 t256 t257 _ A6.out).mono ?_); rintro e w22 ⟨rfl, hb⟩; refine ⟨_, rfl, ?_⟩; have n0_ := Aside0.mk (bkBF BK246.out hb); have n1_ := Aside0.mk (bkBF BK250.out hb); have n2_ := Aside0.mk (blk_below (g := gb254) (o := .cells #[.int .i64 t251, .int .i64 t252] 23 (0, 0)) (by (with_reducible repeat (first | refine blk_drewN ?_ _ | refine blk_drew ?_ | refine blk_alloc ?_ _)); refine blk_put (cs := #[.int .i64 t251, .int .i64 0]) ?_ 1 _ rfl; (with_reducible repeat (first | refine blk_drewN ?_ _ | refine blk_drew ?_ | refine blk_alloc ?_ _)); refine blk_put (cs := #[.int .i64 0, .int .i64 0]) ?_ 0 _ rfl; (with_reducible repeat (first | refine blk_drewN ?_ _ | refine blk_drew ?_ | refine blk_alloc ?_ _)); exact BK254.out) hb); have n3_ := Aside0.mk (below_step (belS HB.out) hb); clear BK246; clear BK250; clear BK254; clear HB; have BK246 := n0_; have BK250 := n1_; have BK254 := n2_; have HB := n3_; clear n0_ n1_ n2_ n3_; (try clear hb)) | ((with_reducible refine gate_dst (N := 11) rfl ?_); refine box_event ?hg (N := 11) ?hd (cs := #[.int .i64 0, .int .i64 0]) (t := 23) ?hr ?_; (case hd => rfl); (case hg => rfl); (case hr => first | (go_simp; done) | (go_simp; rfl)); intro gb258 hg w23 hbox hb; have n0_ := Aside0.mk (bkB BK246.out hb); have n1_ := Aside0.mk (bkB BK250.out hb); have n2_ := Aside0.mk (bkB BK254.out hb); have n3_ := Aside0.mk (below_step (belS HB.out) hb); have n4_ := Aside0.mk (hbox); have n5_ := Aside0.mk (szB hg HB.out); have n6_ := Aside0.mk (szB hg HB.out); have n7_ := Aside0.mk ((bk1 hg BK246.out)); have n8_ := Aside0.mk ((bk2 hg BK246.out)); have n9_ := Aside0.mk ((bk1 hg BK250.out)); have n10_ := Aside0.mk ((bk2 hg BK250.out)); have n11_ := Aside0.mk ((bk1 hg BK254.out)); have n12_ := Aside0.mk ((bk2 hg BK254.out)); clear BK246; clear BK250; clear BK254; clear HB; have BK246 := n0_; have BK250 := n1_; have BK254 := n2_; have HB := n3_; have BK258 := n4_; have GW258 := n5_; have GE258 := n6_; have NB246_258 := n7_; have NB258_246 := n8_; have NB250_258 := n9_; have NB258_250 := n10_; have NB254_258 := n11_; have NB258_254 := n12_; clear n0_ n1_ n2_ n3_ n4_ n5_ n6_ n7_ n8_ n9_ n10_ n11_ n12_; clear hb hbox hg; have hnb24 := NB258_246.out; have hnc24 := NB246_258.out; have hnb25 := NB258_250.out; have hnc25 := NB250_258.out; have hnb26 := NB258_254.out; have hnc26 := NB254_258.out; have hcz27_0 : w23.cell? ⟨gb258, 0, none⟩ = some (.int .i64 0) := (blk_cell BK258.out 0).trans rfl; have hcz27_1 : w23.cell? ⟨gb258, 1, none⟩ = some (.int .i64 0) := (blk_cell BK258.out 1).trans rfl; have hfz27_0 := blk_frozen BK258.out 0; have hfz27_1 := blk_frozen BK258.out 1; have hcz28_0 : w23.cell? ⟨gb246, 0, none⟩ = some (.int .i64 t243) := (blk_cell BK246.out 0).trans rfl; have hcz28_1 : w23.cell? ⟨gb246, 1, none⟩ = some (.int .i64 t244) := (blk_cell BK246.out 1).trans rfl; have hfz28_0 := blk_frozen BK246.out 0; have hfz28_1 := blk_frozen BK246.out 1; have hcz29_0 : w23.cell? ⟨gb250, 0, none⟩ = some (.int .i64 t247) := (blk_cell BK250.out 0).trans rfl; have hcz29_1 : w23.cell? ⟨gb250, 1, none⟩ = some (.int .i64 t248) := (blk_cell BK250.out 1).trans rfl; have hfz29_0 := blk_frozen BK250.out 0; have hfz29_1 := blk_frozen BK250.out 1; have hcz30_0 : w23.cell? ⟨gb254, 0, none⟩ = some (.int .i64 t251) := (blk_cell BK254.out 0).trans rfl; have hcz30_1 : w23.cell? ⟨gb254, 1, none⟩ = some (.int .i64 t252) := (blk_cell BK254.out 1).trans rfl; have hfz30_0 := blk_frozen BK254.out 0; have hfz30_1 := blk_frozen BK254.out 1))
    go_ret
    exact ⟨by first | rfl | (simp [errW_none, errW_some] <;> rfl) | (simp [*, errW_none, errW_some] <;> rfl), (belS HB.out)⟩
   ·rw [if_neg c9] at H
    have c9b0 : (t251 == t255 && (t252 == t256)) = false := by simpa using c9
    (try (have c9b1 : decide (t251 = t255 && (t252 == t256)) = false := by simpa using c9))
    (try (have c9b2 : (t251 == t255 && (t252 == t256)) = false := by simpa using c9))
    (try (have c9b3 : ¬ (t251 = t255 && (t252 == t256)) := by simpa using c9))
    clear c9
    obtain rfl := Option.some.inj H
    go_enter Try.func8, Try.ntmps8
    go_wp2_with (first | ((with_reducible refine gate_callee (f := 24) rfl ?_); refine goesL_ (some 16) rfl rfl Try.func24 (by kernel_rfl) rfl #[.int .i64 a0, .int .i64 a1] rfl argN ?_; (with_reducible refine (rat_New.calls k a0 a1 t243 t244 t245 _ A3.out).mono ?_); rintro e w31 ⟨rfl, hb⟩; refine ⟨_, rfl, ?_⟩; have n0_ := Aside0.mk (below_step (belN HB.out) hb); clear HB; have HB := n0_; clear n0_; (try clear hb)) | ((with_reducible refine gate_dst (N := 5) rfl ?_); refine box_event ?hg (N := 5) ?hd (cs := #[.int .i64 0, .int .i64 0]) (t := 23) ?hr ?_; (case hd => rfl); (case hg => rfl); (case hr => first | (go_simp; done) | (go_simp; rfl)); intro gb246 hg w32 hbox hb; have n0_ := Aside0.mk (below_step (belN HB.out) hb); have n1_ := Aside0.mk (hbox); have n2_ := Aside0.mk (szB hg HB.out); have n3_ := Aside0.mk (szB hg HB.out); clear HB; have HB := n0_; have BK246 := n1_; have GW246 := n2_; have GE246 := n3_; clear n0_ n1_ n2_ n3_; clear hb hbox hg; have hcz33_0 : w32.cell? ⟨gb246, 0, none⟩ = some (.int .i64 0) := (blk_cell BK246.out 0).trans rfl; have hcz33_1 : w32.cell? ⟨gb246, 1, none⟩ = some (.int .i64 0) := (blk_cell BK246.out 1).trans rfl; have hfz33_0 := blk_frozen BK246.out 0; have hfz33_1 := blk_frozen BK246.out 1) | ((with_reducible refine gate_callee (f := 25) rfl ?_); refine goesL_ (some 22) rfl rfl Try.func25 (by kernel_rfl) rfl #[.int .i64 a0, .int .i64 a1] rfl argN ?_; (with_reducible refine (marigraphref1_New.calls k a0 a1 t247 t248 t249 _ A4.out).mono ?_); rintro e w34 ⟨rfl, hb⟩; refine ⟨_, rfl, ?_⟩; have n0_ := Aside0.mk (blk_below (g := gb246) (o := .cells #[.int .i64 t243, .int .i64 t244] 23 (0, 0)) (by (with_reducible repeat (first | refine blk_drewN ?_ _ | refine blk_drew ?_ | refine blk_alloc ?_ _)); refine blk_put (cs := #[.int .i64 t243, .int .i64 0]) ?_ 1 _ rfl; (with_reducible repeat (first | refine blk_drewN ?_ _ | refine blk_drew ?_ | refine blk_alloc ?_ _)); refine blk_put (cs := #[.int .i64 0, .int .i64 0]) ?_ 0 _ rfl; (with_reducible repeat (first | refine blk_drewN ?_ _ | refine blk_drew ?_ | refine blk_alloc ?_ _)); exact BK246.out) hb); have n1_ := Aside0.mk (below_step (belS HB.out) hb); clear BK246; clear HB; have BK246 := n0_; have HB := n1_; clear n0_ n1_; (try clear hb)) | ((with_reducible refine gate_dst (N := 7) rfl ?_); refine box_event ?hg (N := 7) ?hd (cs := #[.int .i64 0, .int .i64 0]) (t := 23) ?hr ?_; (case hd => rfl); (case hg => rfl); (case hr => first | (go_simp; done) | (go_simp; rfl)); intro gb250 hg w35 hbox hb; have n0_ := Aside0.mk (bkB BK246.out hb); have n1_ := Aside0.mk (below_step (belS HB.out) hb); have n2_ := Aside0.mk (hbox); have n3_ := Aside0.mk (szB hg HB.out); have n4_ := Aside0.mk (szB hg HB.out); have n5_ := Aside0.mk ((bk1 hg BK246.out)); have n6_ := Aside0.mk ((bk2 hg BK246.out)); clear BK246; clear HB; have BK246 := n0_; have HB := n1_; have BK250 := n2_; have GW250 := n3_; have GE250 := n4_; have NB246_250 := n5_; have NB250_246 := n6_; clear n0_ n1_ n2_ n3_ n4_ n5_ n6_; clear hb hbox hg; have hnb36 := NB250_246.out; have hnc36 := NB246_250.out; have hcz37_0 : w35.cell? ⟨gb250, 0, none⟩ = some (.int .i64 0) := (blk_cell BK250.out 0).trans rfl; have hcz37_1 : w35.cell? ⟨gb250, 1, none⟩ = some (.int .i64 0) := (blk_cell BK250.out 1).trans rfl; have hfz37_0 := blk_frozen BK250.out 0; have hfz37_1 := blk_frozen BK250.out 1) | ((with_reducible refine gate_callee (f := 26) rfl ?_); refine goesL_ (some 27) rfl rfl Try.func26 (by kernel_rfl) rfl #[.int .i64 a0] rfl argN ?_; (with_reducible refine (rat_Of.calls k a0 t251 t252 t253 _ A5.out).mono ?_); rintro e w38 ⟨rfl, hb⟩; refine ⟨_, rfl, ?_⟩; have n0_ := Aside0.mk (bkBF BK246.out hb); have n1_ := Aside0.mk (blk_below (g := gb250) (o := .cells #[.int .i64 t247, .int .i64 t248] 23 (0, 0)) (by (with_reducible repeat (first | refine blk_drewN ?_ _ | refine blk_drew ?_ | refine blk_alloc ?_ _)); refine blk_put (cs := #[.int .i64 t247, .int .i64 0]) ?_ 1 _ rfl; (with_reducible repeat (first | refine blk_drewN ?_ _ | refine blk_drew ?_ | refine blk_alloc ?_ _)); refine blk_put (cs := #[.int .i64 0, .int .i64 0]) ?_ 0 _ rfl; (with_reducible repeat (first | refine blk_drewN ?_ _ | refine blk_drew ?_ | refine blk_alloc ?_ _)); exact BK250.out) hb); have n2_ := Aside0.mk (below_step (belS HB.out) hb); clear BK246; clear BK250; clear HB; have BK246 := n0_; have BK250 := n1_; have HB := n2_; clear n0_ n1_ n2_; (try clear hb)) | ((with_reducible refine gate_dst (N := 9) rfl ?_); refine box_event ?hg (N := 9) ?hd (cs := #[.int .i64 0, .int .i64 0]) (t := 23) ?hr ?_; (case hd => rfl); (case hg => rfl); (case hr => first | (go_simp; done) | (go_simp; rfl)); intro gb254 hg w39 hbox hb; have n0_ := Aside0.mk (bkB BK246.out hb); have n1_ := Aside0.mk (bkB BK250.out hb); have n2_ := Aside0.mk (below_step (belS HB.out) hb); have n3_ := Aside0.mk (hbox); have n4_ := Aside0.mk (szB hg HB.out); have n5_ := Aside0.mk (szB hg HB.out); have n6_ := Aside0.mk ((bk1 hg BK246.out)); have n7_ := Aside0.mk ((bk2 hg BK246.out)); have n8_ := Aside0.mk ((bk1 hg BK250.out)); have n9_ := Aside0.mk ((bk2 hg BK250.out)); clear BK246; clear BK250; clear HB; have BK246 := n0_; have BK250 := n1_; have HB := n2_; have BK254 := n3_; have GW254 := n4_; have GE254 := n5_; have NB246_254 := n6_; have NB254_246 := n7_; have NB250_254 := n8_; have NB254_250 := n9_; clear n0_ n1_ n2_ n3_ n4_ n5_ n6_ n7_ n8_ n9_; clear hb hbox hg; have hnb40 := NB254_246.out; have hnc40 := NB246_254.out; have hnb41 := NB254_250.out; have hnc41 := NB250_254.out; have hcz42_0 : w39.cell? ⟨gb254, 0, none⟩ = some (.int .i64 0) := (blk_cell BK254.out 0).trans rfl; have hcz42_1 : w39.cell? ⟨gb254, 1, none⟩ = some (.int .i64 0) := (blk_cell BK254.out 1).trans rfl; have hfz42_0 := blk_frozen BK254.out 0; have hfz42_1 := blk_frozen BK254.out 1) | ((with_reducible refine gate_callee (f := 25) rfl ?_); refine goesL_ (some 32) rfl rfl Try.func25 (by kernel_rfl) rfl #[.int .i64 a0, .int .i64 1] rfl argN ?_; (with_reducible refine (marigraphref1_New.calls k a0 1 t255 t256 t257 _ A6.out).mono ?_); rintro e w43 ⟨rfl, hb⟩; refine ⟨_, rfl, ?_⟩; have n0_ := Aside0.mk (bkBF BK246.out hb); have n1_ := Aside0.mk (bkBF BK250.out hb); have n2_ := Aside0.mk (blk_below (g := gb254) (o := .cells #[.int .i64 t251, .int .i64 t252] 23 (0, 0)) (by (with_reducible repeat (first | refine blk_drewN ?_ _ | refine blk_drew ?_ | refine blk_alloc ?_ _)); refine blk_put (cs := #[.int .i64 t251, .int .i64 0]) ?_ 1 _ rfl; (with_reducible repeat (first | refine blk_drewN ?_ _ | refine blk_drew ?_ | refine blk_alloc ?_ _)); refine blk_put (cs := #[.int .i64 0, .int .i64 0]) ?_ 0 _ rfl; (with_reducible repeat (first | refine blk_drewN ?_ _ | refine blk_drew ?_ | refine blk_alloc ?_ _)); exact BK254.out) hb); have n3_ := Aside0.mk (below_step (belS HB.out) hb); clear BK246; clear BK250; clear BK254; clear HB; have BK246 := n0_; have BK250 := n1_; have BK254 := n2_; have HB := n3_; clear n0_ n1_ n2_ n3_; (try clear hb)) | ((with_reducible refine gate_dst (N := 11) rfl ?_); refine box_event ?hg (N := 11) ?hd (cs := #[.int .i64 0, .int .i64 0]) (t := 23) ?hr ?_; (case hd => rfl); (case hg => rfl); (case hr => first | (go_simp; done) | (go_simp; rfl)); intro gb258 hg w44 hbox hb; have n0_ := Aside0.mk (bkB BK246.out hb); have n1_ := Aside0.mk (bkB BK250.out hb); have n2_ := Aside0.mk (bkB BK254.out hb); have n3_ := Aside0.mk (below_step (belS HB.out) hb); have n4_ := Aside0.mk (hbox); have n5_ := Aside0.mk (szB hg HB.out); have n6_ := Aside0.mk (szB hg HB.out); have n7_ := Aside0.mk ((bk1 hg BK246.out)); have n8_ := Aside0.mk ((bk2 hg BK246.out)); have n9_ := Aside0.mk ((bk1 hg BK250.out)); have n10_ := Aside0.mk ((bk2 hg BK250.out)); have n11_ := Aside0.mk ((bk1 hg BK254.out)); have n12_ := Aside0.mk ((bk2 hg BK254.out)); clear BK246; clear BK250; clear BK254; clear HB; have BK246 := n0_; have BK250 := n1_; have BK254 := n2_; have HB := n3_; have BK258 := n4_; have GW258 := n5_; have GE258 := n6_; have NB246_258 := n7_; have NB258_246 := n8_; have NB250_258 := n9_; have NB258_250 := n10_; have NB254_258 := n11_; have NB258_254 := n12_; clear n0_ n1_ n2_ n3_ n4_ n5_ n6_ n7_ n8_ n9_ n10_ n11_ n12_; clear hb hbox hg; have hnb45 := NB258_246.out; have hnc45 := NB246_258.out; have hnb46 := NB258_250.out; have hnc46 := NB250_258.out; have hnb47 := NB258_254.out; have hnc47 := NB254_258.out; have hcz48_0 : w44.cell? ⟨gb258, 0, none⟩ = some (.int .i64 0) := (blk_cell BK258.out 0).trans rfl; have hcz48_1 : w44.cell? ⟨gb258, 1, none⟩ = some (.int .i64 0) := (blk_cell BK258.out 1).trans rfl; have hfz48_0 := blk_frozen BK258.out 0; have hfz48_1 := blk_frozen BK258.out 1; have hcz49_0 : w44.cell? ⟨gb246, 0, none⟩ = some (.int .i64 t243) := (blk_cell BK246.out 0).trans rfl; have hcz49_1 : w44.cell? ⟨gb246, 1, none⟩ = some (.int .i64 t244) := (blk_cell BK246.out 1).trans rfl; have hfz49_0 := blk_frozen BK246.out 0; have hfz49_1 := blk_frozen BK246.out 1; have hcz50_0 : w44.cell? ⟨gb250, 0, none⟩ = some (.int .i64 t247) := (blk_cell BK250.out 0).trans rfl; have hcz50_1 : w44.cell? ⟨gb250, 1, none⟩ = some (.int .i64 t248) := (blk_cell BK250.out 1).trans rfl; have hfz50_0 := blk_frozen BK250.out 0; have hfz50_1 := blk_frozen BK250.out 1; have hcz51_0 : w44.cell? ⟨gb254, 0, none⟩ = some (.int .i64 t251) := (blk_cell BK254.out 0).trans rfl; have hcz51_1 : w44.cell? ⟨gb254, 1, none⟩ = some (.int .i64 t252) := (blk_cell BK254.out 1).trans rfl; have hfz51_0 := blk_frozen BK254.out 0; have hfz51_1 := blk_frozen BK254.out 1))
    go_ret
    exact ⟨by first | rfl | (simp [errW_none, errW_some] <;> rfl) | (simp [*, errW_none, errW_some] <;> rfl), (belS HB.out)⟩
  ·rw [if_neg c8] at H
   have c8b0 : (t245 == t249) = false := beq_eq_false_iff_ne.mpr c8
   have c8b1 : (t245 != t249) = true := bne_iff_ne.mpr c8
   obtain rfl := Option.some.inj H
   go_enter Try.func8, Try.ntmps8
   go_wp2_with (first | ((with_reducible refine gate_callee (f := 24) rfl ?_); refine goesL_ (some 16) rfl rfl Try.func24 (by kernel_rfl) rfl #[.int .i64 a0, .int .i64 a1] rfl argN ?_; (with_reducible refine (rat_New.calls k a0 a1 t243 t244 t245 _ A3.out).mono ?_); rintro e w52 ⟨rfl, hb⟩; refine ⟨_, rfl, ?_⟩; have n0_ := Aside0.mk (below_step (belN HB.out) hb); clear HB; have HB := n0_; clear n0_; (try clear hb)) | ((with_reducible refine gate_dst (N := 5) rfl ?_); refine box_event ?hg (N := 5) ?hd (cs := #[.int .i64 0, .int .i64 0]) (t := 23) ?hr ?_; (case hd => rfl); (case hg => rfl); (case hr => first | (go_simp; done) | (go_simp; rfl)); intro gb246 hg w53 hbox hb; have n0_ := Aside0.mk (below_step (belN HB.out) hb); have n1_ := Aside0.mk (hbox); have n2_ := Aside0.mk (szB hg HB.out); have n3_ := Aside0.mk (szB hg HB.out); clear HB; have HB := n0_; have BK246 := n1_; have GW246 := n2_; have GE246 := n3_; clear n0_ n1_ n2_ n3_; clear hb hbox hg; have hcz54_0 : w53.cell? ⟨gb246, 0, none⟩ = some (.int .i64 0) := (blk_cell BK246.out 0).trans rfl; have hcz54_1 : w53.cell? ⟨gb246, 1, none⟩ = some (.int .i64 0) := (blk_cell BK246.out 1).trans rfl; have hfz54_0 := blk_frozen BK246.out 0; have hfz54_1 := blk_frozen BK246.out 1) | ((with_reducible refine gate_callee (f := 25) rfl ?_); refine goesL_ (some 22) rfl rfl Try.func25 (by kernel_rfl) rfl #[.int .i64 a0, .int .i64 a1] rfl argN ?_; (with_reducible refine (marigraphref1_New.calls k a0 a1 t247 t248 t249 _ A4.out).mono ?_); rintro e w55 ⟨rfl, hb⟩; refine ⟨_, rfl, ?_⟩; have n0_ := Aside0.mk (blk_below (g := gb246) (o := .cells #[.int .i64 t243, .int .i64 t244] 23 (0, 0)) (by (with_reducible repeat (first | refine blk_drewN ?_ _ | refine blk_drew ?_ | refine blk_alloc ?_ _)); refine blk_put (cs := #[.int .i64 t243, .int .i64 0]) ?_ 1 _ rfl; (with_reducible repeat (first | refine blk_drewN ?_ _ | refine blk_drew ?_ | refine blk_alloc ?_ _)); refine blk_put (cs := #[.int .i64 0, .int .i64 0]) ?_ 0 _ rfl; (with_reducible repeat (first | refine blk_drewN ?_ _ | refine blk_drew ?_ | refine blk_alloc ?_ _)); exact BK246.out) hb); have n1_ := Aside0.mk (below_step (belS HB.out) hb); clear BK246; clear HB; have BK246 := n0_; have HB := n1_; clear n0_ n1_; (try clear hb)) | ((with_reducible refine gate_dst (N := 7) rfl ?_); refine box_event ?hg (N := 7) ?hd (cs := #[.int .i64 0, .int .i64 0]) (t := 23) ?hr ?_; (case hd => rfl); (case hg => rfl); (case hr => first | (go_simp; done) | (go_simp; rfl)); intro gb250 hg w56 hbox hb; have n0_ := Aside0.mk (bkB BK246.out hb); have n1_ := Aside0.mk (below_step (belS HB.out) hb); have n2_ := Aside0.mk (hbox); have n3_ := Aside0.mk (szB hg HB.out); have n4_ := Aside0.mk (szB hg HB.out); have n5_ := Aside0.mk ((bk1 hg BK246.out)); have n6_ := Aside0.mk ((bk2 hg BK246.out)); clear BK246; clear HB; have BK246 := n0_; have HB := n1_; have BK250 := n2_; have GW250 := n3_; have GE250 := n4_; have NB246_250 := n5_; have NB250_246 := n6_; clear n0_ n1_ n2_ n3_ n4_ n5_ n6_; clear hb hbox hg; have hnb57 := NB250_246.out; have hnc57 := NB246_250.out; have hcz58_0 : w56.cell? ⟨gb250, 0, none⟩ = some (.int .i64 0) := (blk_cell BK250.out 0).trans rfl; have hcz58_1 : w56.cell? ⟨gb250, 1, none⟩ = some (.int .i64 0) := (blk_cell BK250.out 1).trans rfl; have hfz58_0 := blk_frozen BK250.out 0; have hfz58_1 := blk_frozen BK250.out 1) | ((with_reducible refine gate_callee (f := 26) rfl ?_); refine goesL_ (some 27) rfl rfl Try.func26 (by kernel_rfl) rfl #[.int .i64 a0] rfl argN ?_; (with_reducible refine (rat_Of.calls k a0 t251 t252 t253 _ A5.out).mono ?_); rintro e w59 ⟨rfl, hb⟩; refine ⟨_, rfl, ?_⟩; have n0_ := Aside0.mk (bkBF BK246.out hb); have n1_ := Aside0.mk (blk_below (g := gb250) (o := .cells #[.int .i64 t247, .int .i64 t248] 23 (0, 0)) (by (with_reducible repeat (first | refine blk_drewN ?_ _ | refine blk_drew ?_ | refine blk_alloc ?_ _)); refine blk_put (cs := #[.int .i64 t247, .int .i64 0]) ?_ 1 _ rfl; (with_reducible repeat (first | refine blk_drewN ?_ _ | refine blk_drew ?_ | refine blk_alloc ?_ _)); refine blk_put (cs := #[.int .i64 0, .int .i64 0]) ?_ 0 _ rfl; (with_reducible repeat (first | refine blk_drewN ?_ _ | refine blk_drew ?_ | refine blk_alloc ?_ _)); exact BK250.out) hb); have n2_ := Aside0.mk (below_step (belS HB.out) hb); clear BK246; clear BK250; clear HB; have BK246 := n0_; have BK250 := n1_; have HB := n2_; clear n0_ n1_ n2_; (try clear hb)) | ((with_reducible refine gate_dst (N := 9) rfl ?_); refine box_event ?hg (N := 9) ?hd (cs := #[.int .i64 0, .int .i64 0]) (t := 23) ?hr ?_; (case hd => rfl); (case hg => rfl); (case hr => first | (go_simp; done) | (go_simp; rfl)); intro gb254 hg w60 hbox hb; have n0_ := Aside0.mk (bkB BK246.out hb); have n1_ := Aside0.mk (bkB BK250.out hb); have n2_ := Aside0.mk (below_step (belS HB.out) hb); have n3_ := Aside0.mk (hbox); have n4_ := Aside0.mk (szB hg HB.out); have n5_ := Aside0.mk (szB hg HB.out); have n6_ := Aside0.mk ((bk1 hg BK246.out)); have n7_ := Aside0.mk ((bk2 hg BK246.out)); have n8_ := Aside0.mk ((bk1 hg BK250.out)); have n9_ := Aside0.mk ((bk2 hg BK250.out)); clear BK246; clear BK250; clear HB; have BK246 := n0_; have BK250 := n1_; have HB := n2_; have BK254 := n3_; have GW254 := n4_; have GE254 := n5_; have NB246_254 := n6_; have NB254_246 := n7_; have NB250_254 := n8_; have NB254_250 := n9_; clear n0_ n1_ n2_ n3_ n4_ n5_ n6_ n7_ n8_ n9_; clear hb hbox hg; have hnb61 := NB254_246.out; have hnc61 := NB246_254.out; have hnb62 := NB254_250.out; have hnc62 := NB250_254.out; have hcz63_0 : w60.cell? ⟨gb254, 0, none⟩ = some (.int .i64 0) := (blk_cell BK254.out 0).trans rfl; have hcz63_1 : w60.cell? ⟨gb254, 1, none⟩ = some (.int .i64 0) := (blk_cell BK254.out 1).trans rfl; have hfz63_0 := blk_frozen BK254.out 0; have hfz63_1 := blk_frozen BK254.out 1) | ((with_reducible refine gate_callee (f := 25) rfl ?_); refine goesL_ (some 32) rfl rfl Try.func25 (by kernel_rfl) rfl #[.int .i64 a0, .int .i64 1] rfl argN ?_; (with_reducible refine (marigraphref1_New.calls k a0 1 t255 t256 t257 _ A6.out).mono ?_); rintro e w64 ⟨rfl, hb⟩; refine ⟨_, rfl, ?_⟩; have n0_ := Aside0.mk (bkBF BK246.out hb); have n1_ := Aside0.mk (bkBF BK250.out hb); have n2_ := Aside0.mk (blk_below (g := gb254) (o := .cells #[.int .i64 t251, .int .i64 t252] 23 (0, 0)) (by (with_reducible repeat (first | refine blk_drewN ?_ _ | refine blk_drew ?_ | refine blk_alloc ?_ _)); refine blk_put (cs := #[.int .i64 t251, .int .i64 0]) ?_ 1 _ rfl; (with_reducible repeat (first | refine blk_drewN ?_ _ | refine blk_drew ?_ | refine blk_alloc ?_ _)); refine blk_put (cs := #[.int .i64 0, .int .i64 0]) ?_ 0 _ rfl; (with_reducible repeat (first | refine blk_drewN ?_ _ | refine blk_drew ?_ | refine blk_alloc ?_ _)); exact BK254.out) hb); have n3_ := Aside0.mk (below_step (belS HB.out) hb); clear BK246; clear BK250; clear BK254; clear HB; have BK246 := n0_; have BK250 := n1_; have BK254 := n2_; have HB := n3_; clear n0_ n1_ n2_ n3_; (try clear hb)) | ((with_reducible refine gate_dst (N := 11) rfl ?_); refine box_event ?hg (N := 11) ?hd (cs := #[.int .i64 0, .int .i64 0]) (t := 23) ?hr ?_; (case hd => rfl); (case hg => rfl); (case hr => first | (go_simp; done) | (go_simp; rfl)); intro gb258 hg w65 hbox hb; have n0_ := Aside0.mk (bkB BK246.out hb); have n1_ := Aside0.mk (bkB BK250.out hb); have n2_ := Aside0.mk (bkB BK254.out hb); have n3_ := Aside0.mk (below_step (belS HB.out) hb); have n4_ := Aside0.mk (hbox); have n5_ := Aside0.mk (szB hg HB.out); have n6_ := Aside0.mk (szB hg HB.out); have n7_ := Aside0.mk ((bk1 hg BK246.out)); have n8_ := Aside0.mk ((bk2 hg BK246.out)); have n9_ := Aside0.mk ((bk1 hg BK250.out)); have n10_ := Aside0.mk ((bk2 hg BK250.out)); have n11_ := Aside0.mk ((bk1 hg BK254.out)); have n12_ := Aside0.mk ((bk2 hg BK254.out)); clear BK246; clear BK250; clear BK254; clear HB; have BK246 := n0_; have BK250 := n1_; have BK254 := n2_; have HB := n3_; have BK258 := n4_; have GW258 := n5_; have GE258 := n6_; have NB246_258 := n7_; have NB258_246 := n8_; have NB250_258 := n9_; have NB258_250 := n10_; have NB254_258 := n11_; have NB258_254 := n12_; clear n0_ n1_ n2_ n3_ n4_ n5_ n6_ n7_ n8_ n9_ n10_ n11_ n12_; clear hb hbox hg; have hnb66 := NB258_246.out; have hnc66 := NB246_258.out; have hnb67 := NB258_250.out; have hnc67 := NB250_258.out; have hnb68 := NB258_254.out; have hnc68 := NB254_258.out; have hcz69_0 : w65.cell? ⟨gb258, 0, none⟩ = some (.int .i64 0) := (blk_cell BK258.out 0).trans rfl; have hcz69_1 : w65.cell? ⟨gb258, 1, none⟩ = some (.int .i64 0) := (blk_cell BK258.out 1).trans rfl; have hfz69_0 := blk_frozen BK258.out 0; have hfz69_1 := blk_frozen BK258.out 1; have hcz70_0 : w65.cell? ⟨gb246, 0, none⟩ = some (.int .i64 t243) := (blk_cell BK246.out 0).trans rfl; have hcz70_1 : w65.cell? ⟨gb246, 1, none⟩ = some (.int .i64 t244) := (blk_cell BK246.out 1).trans rfl; have hfz70_0 := blk_frozen BK246.out 0; have hfz70_1 := blk_frozen BK246.out 1; have hcz71_0 : w65.cell? ⟨gb250, 0, none⟩ = some (.int .i64 t247) := (blk_cell BK250.out 0).trans rfl; have hcz71_1 : w65.cell? ⟨gb250, 1, none⟩ = some (.int .i64 t248) := (blk_cell BK250.out 1).trans rfl; have hfz71_0 := blk_frozen BK250.out 0; have hfz71_1 := blk_frozen BK250.out 1))
   go_ret
   exact ⟨by first | rfl | (simp [errW_none, errW_some] <;> rfl) | (simp [*, errW_none, errW_some] <;> rfl), (belS HB.out)⟩
 ·rw [if_neg c7] at H
  have c7b0 : (t243 == t247 && (t244 == t248)) = false := by simpa using c7
  (try (have c7b1 : decide (t243 = t247 && (t244 == t248)) = false := by simpa using c7))
  (try (have c7b2 : (t243 == t247 && (t244 == t248)) = false := by simpa using c7))
  (try (have c7b3 : ¬ (t243 = t247 && (t244 == t248)) := by simpa using c7))
  clear c7
  obtain rfl := Option.some.inj H
  go_enter Try.func8, Try.ntmps8
  go_wp2_with (first | ((with_reducible refine gate_callee (f := 24) rfl ?_); refine goesL_ (some 16) rfl rfl Try.func24 (by kernel_rfl) rfl #[.int .i64 a0, .int .i64 a1] rfl argN ?_; (with_reducible refine (rat_New.calls k a0 a1 t243 t244 t245 _ A3.out).mono ?_); rintro e w72 ⟨rfl, hb⟩; refine ⟨_, rfl, ?_⟩; have n0_ := Aside0.mk (below_step (belN HB.out) hb); clear HB; have HB := n0_; clear n0_; (try clear hb)) | ((with_reducible refine gate_dst (N := 5) rfl ?_); refine box_event ?hg (N := 5) ?hd (cs := #[.int .i64 0, .int .i64 0]) (t := 23) ?hr ?_; (case hd => rfl); (case hg => rfl); (case hr => first | (go_simp; done) | (go_simp; rfl)); intro gb246 hg w73 hbox hb; have n0_ := Aside0.mk (below_step (belN HB.out) hb); have n1_ := Aside0.mk (hbox); have n2_ := Aside0.mk (szB hg HB.out); have n3_ := Aside0.mk (szB hg HB.out); clear HB; have HB := n0_; have BK246 := n1_; have GW246 := n2_; have GE246 := n3_; clear n0_ n1_ n2_ n3_; clear hb hbox hg; have hcz74_0 : w73.cell? ⟨gb246, 0, none⟩ = some (.int .i64 0) := (blk_cell BK246.out 0).trans rfl; have hcz74_1 : w73.cell? ⟨gb246, 1, none⟩ = some (.int .i64 0) := (blk_cell BK246.out 1).trans rfl; have hfz74_0 := blk_frozen BK246.out 0; have hfz74_1 := blk_frozen BK246.out 1) | ((with_reducible refine gate_callee (f := 25) rfl ?_); refine goesL_ (some 22) rfl rfl Try.func25 (by kernel_rfl) rfl #[.int .i64 a0, .int .i64 a1] rfl argN ?_; (with_reducible refine (marigraphref1_New.calls k a0 a1 t247 t248 t249 _ A4.out).mono ?_); rintro e w75 ⟨rfl, hb⟩; refine ⟨_, rfl, ?_⟩; have n0_ := Aside0.mk (blk_below (g := gb246) (o := .cells #[.int .i64 t243, .int .i64 t244] 23 (0, 0)) (by (with_reducible repeat (first | refine blk_drewN ?_ _ | refine blk_drew ?_ | refine blk_alloc ?_ _)); refine blk_put (cs := #[.int .i64 t243, .int .i64 0]) ?_ 1 _ rfl; (with_reducible repeat (first | refine blk_drewN ?_ _ | refine blk_drew ?_ | refine blk_alloc ?_ _)); refine blk_put (cs := #[.int .i64 0, .int .i64 0]) ?_ 0 _ rfl; (with_reducible repeat (first | refine blk_drewN ?_ _ | refine blk_drew ?_ | refine blk_alloc ?_ _)); exact BK246.out) hb); have n1_ := Aside0.mk (below_step (belS HB.out) hb); clear BK246; clear HB; have BK246 := n0_; have HB := n1_; clear n0_ n1_; (try clear hb)) | ((with_reducible refine gate_dst (N := 7) rfl ?_); refine box_event ?hg (N := 7) ?hd (cs := #[.int .i64 0, .int .i64 0]) (t := 23) ?hr ?_; (case hd => rfl); (case hg => rfl); (case hr => first | (go_simp; done) | (go_simp; rfl)); intro gb250 hg w76 hbox hb; have n0_ := Aside0.mk (bkB BK246.out hb); have n1_ := Aside0.mk (below_step (belS HB.out) hb); have n2_ := Aside0.mk (hbox); have n3_ := Aside0.mk (szB hg HB.out); have n4_ := Aside0.mk (szB hg HB.out); have n5_ := Aside0.mk ((bk1 hg BK246.out)); have n6_ := Aside0.mk ((bk2 hg BK246.out)); clear BK246; clear HB; have BK246 := n0_; have HB := n1_; have BK250 := n2_; have GW250 := n3_; have GE250 := n4_; have NB246_250 := n5_; have NB250_246 := n6_; clear n0_ n1_ n2_ n3_ n4_ n5_ n6_; clear hb hbox hg; have hnb77 := NB250_246.out; have hnc77 := NB246_250.out; have hcz78_0 : w76.cell? ⟨gb250, 0, none⟩ = some (.int .i64 0) := (blk_cell BK250.out 0).trans rfl; have hcz78_1 : w76.cell? ⟨gb250, 1, none⟩ = some (.int .i64 0) := (blk_cell BK250.out 1).trans rfl; have hfz78_0 := blk_frozen BK250.out 0; have hfz78_1 := blk_frozen BK250.out 1) | ((with_reducible refine gate_callee (f := 26) rfl ?_); refine goesL_ (some 27) rfl rfl Try.func26 (by kernel_rfl) rfl #[.int .i64 a0] rfl argN ?_; (with_reducible refine (rat_Of.calls k a0 t251 t252 t253 _ A5.out).mono ?_); rintro e w79 ⟨rfl, hb⟩; refine ⟨_, rfl, ?_⟩; have n0_ := Aside0.mk (bkBF BK246.out hb); have n1_ := Aside0.mk (blk_below (g := gb250) (o := .cells #[.int .i64 t247, .int .i64 t248] 23 (0, 0)) (by (with_reducible repeat (first | refine blk_drewN ?_ _ | refine blk_drew ?_ | refine blk_alloc ?_ _)); refine blk_put (cs := #[.int .i64 t247, .int .i64 0]) ?_ 1 _ rfl; (with_reducible repeat (first | refine blk_drewN ?_ _ | refine blk_drew ?_ | refine blk_alloc ?_ _)); refine blk_put (cs := #[.int .i64 0, .int .i64 0]) ?_ 0 _ rfl; (with_reducible repeat (first | refine blk_drewN ?_ _ | refine blk_drew ?_ | refine blk_alloc ?_ _)); exact BK250.out) hb); have n2_ := Aside0.mk (below_step (belS HB.out) hb); clear BK246; clear BK250; clear HB; have BK246 := n0_; have BK250 := n1_; have HB := n2_; clear n0_ n1_ n2_; (try clear hb)) | ((with_reducible refine gate_dst (N := 9) rfl ?_); refine box_event ?hg (N := 9) ?hd (cs := #[.int .i64 0, .int .i64 0]) (t := 23) ?hr ?_; (case hd => rfl); (case hg => rfl); (case hr => first | (go_simp; done) | (go_simp; rfl)); intro gb254 hg w80 hbox hb; have n0_ := Aside0.mk (bkB BK246.out hb); have n1_ := Aside0.mk (bkB BK250.out hb); have n2_ := Aside0.mk (below_step (belS HB.out) hb); have n3_ := Aside0.mk (hbox); have n4_ := Aside0.mk (szB hg HB.out); have n5_ := Aside0.mk (szB hg HB.out); have n6_ := Aside0.mk ((bk1 hg BK246.out)); have n7_ := Aside0.mk ((bk2 hg BK246.out)); have n8_ := Aside0.mk ((bk1 hg BK250.out)); have n9_ := Aside0.mk ((bk2 hg BK250.out)); clear BK246; clear BK250; clear HB; have BK246 := n0_; have BK250 := n1_; have HB := n2_; have BK254 := n3_; have GW254 := n4_; have GE254 := n5_; have NB246_254 := n6_; have NB254_246 := n7_; have NB250_254 := n8_; have NB254_250 := n9_; clear n0_ n1_ n2_ n3_ n4_ n5_ n6_ n7_ n8_ n9_; clear hb hbox hg; have hnb81 := NB254_246.out; have hnc81 := NB246_254.out; have hnb82 := NB254_250.out; have hnc82 := NB250_254.out; have hcz83_0 : w80.cell? ⟨gb254, 0, none⟩ = some (.int .i64 0) := (blk_cell BK254.out 0).trans rfl; have hcz83_1 : w80.cell? ⟨gb254, 1, none⟩ = some (.int .i64 0) := (blk_cell BK254.out 1).trans rfl; have hfz83_0 := blk_frozen BK254.out 0; have hfz83_1 := blk_frozen BK254.out 1) | ((with_reducible refine gate_callee (f := 25) rfl ?_); refine goesL_ (some 32) rfl rfl Try.func25 (by kernel_rfl) rfl #[.int .i64 a0, .int .i64 1] rfl argN ?_; (with_reducible refine (marigraphref1_New.calls k a0 1 t255 t256 t257 _ A6.out).mono ?_); rintro e w84 ⟨rfl, hb⟩; refine ⟨_, rfl, ?_⟩; have n0_ := Aside0.mk (bkBF BK246.out hb); have n1_ := Aside0.mk (bkBF BK250.out hb); have n2_ := Aside0.mk (blk_below (g := gb254) (o := .cells #[.int .i64 t251, .int .i64 t252] 23 (0, 0)) (by (with_reducible repeat (first | refine blk_drewN ?_ _ | refine blk_drew ?_ | refine blk_alloc ?_ _)); refine blk_put (cs := #[.int .i64 t251, .int .i64 0]) ?_ 1 _ rfl; (with_reducible repeat (first | refine blk_drewN ?_ _ | refine blk_drew ?_ | refine blk_alloc ?_ _)); refine blk_put (cs := #[.int .i64 0, .int .i64 0]) ?_ 0 _ rfl; (with_reducible repeat (first | refine blk_drewN ?_ _ | refine blk_drew ?_ | refine blk_alloc ?_ _)); exact BK254.out) hb); have n3_ := Aside0.mk (below_step (belS HB.out) hb); clear BK246; clear BK250; clear BK254; clear HB; have BK246 := n0_; have BK250 := n1_; have BK254 := n2_; have HB := n3_; clear n0_ n1_ n2_ n3_; (try clear hb)) | ((with_reducible refine gate_dst (N := 11) rfl ?_); refine box_event ?hg (N := 11) ?hd (cs := #[.int .i64 0, .int .i64 0]) (t := 23) ?hr ?_; (case hd => rfl); (case hg => rfl); (case hr => first | (go_simp; done) | (go_simp; rfl)); intro gb258 hg w85 hbox hb; have n0_ := Aside0.mk (bkB BK246.out hb); have n1_ := Aside0.mk (bkB BK250.out hb); have n2_ := Aside0.mk (bkB BK254.out hb); have n3_ := Aside0.mk (below_step (belS HB.out) hb); have n4_ := Aside0.mk (hbox); have n5_ := Aside0.mk (szB hg HB.out); have n6_ := Aside0.mk (szB hg HB.out); have n7_ := Aside0.mk ((bk1 hg BK246.out)); have n8_ := Aside0.mk ((bk2 hg BK246.out)); have n9_ := Aside0.mk ((bk1 hg BK250.out)); have n10_ := Aside0.mk ((bk2 hg BK250.out)); have n11_ := Aside0.mk ((bk1 hg BK254.out)); have n12_ := Aside0.mk ((bk2 hg BK254.out)); clear BK246; clear BK250; clear BK254; clear HB; have BK246 := n0_; have BK250 := n1_; have BK254 := n2_; have HB := n3_; have BK258 := n4_; have GW258 := n5_; have GE258 := n6_; have NB246_258 := n7_; have NB258_246 := n8_; have NB250_258 := n9_; have NB258_250 := n10_; have NB254_258 := n11_; have NB258_254 := n12_; clear n0_ n1_ n2_ n3_ n4_ n5_ n6_ n7_ n8_ n9_ n10_ n11_ n12_; clear hb hbox hg; have hnb86 := NB258_246.out; have hnc86 := NB246_258.out; have hnb87 := NB258_250.out; have hnc87 := NB250_258.out; have hnb88 := NB258_254.out; have hnc88 := NB254_258.out; have hcz89_0 : w85.cell? ⟨gb258, 0, none⟩ = some (.int .i64 0) := (blk_cell BK258.out 0).trans rfl; have hcz89_1 : w85.cell? ⟨gb258, 1, none⟩ = some (.int .i64 0) := (blk_cell BK258.out 1).trans rfl; have hfz89_0 := blk_frozen BK258.out 0; have hfz89_1 := blk_frozen BK258.out 1; have hcz90_0 : w85.cell? ⟨gb246, 0, none⟩ = some (.int .i64 t243) := (blk_cell BK246.out 0).trans rfl; have hcz90_1 : w85.cell? ⟨gb246, 1, none⟩ = some (.int .i64 t244) := (blk_cell BK246.out 1).trans rfl; have hfz90_0 := blk_frozen BK246.out 0; have hfz90_1 := blk_frozen BK246.out 1; have hcz91_0 : w85.cell? ⟨gb250, 0, none⟩ = some (.int .i64 t247) := (blk_cell BK250.out 0).trans rfl; have hcz91_1 : w85.cell? ⟨gb250, 1, none⟩ = some (.int .i64 t248) := (blk_cell BK250.out 1).trans rfl; have hfz91_0 := blk_frozen BK250.out 0; have hfz91_1 := blk_frozen BK250.out 1))
  go_ret
  exact ⟨by first | rfl | (simp [errW_none, errW_some] <;> rfl) | (simp [*, errW_none, errW_some] <;> rfl), (belS HB.out)⟩

/-! ### rat_number: function 45 -/
def rat_number.l0 : Nat → ByteArray → Int → Option (Int × ByteArray)
 | 0, _, _ => none
 | k + 1, x0, x4 => if x0.toList = ([] : List UInt8) then (some (x4, x0)) else (if 0 < (x0.size : Int) then (if (bt x0 0) ≥ 48 then (if (bt x0 0) ≤ 57 then (if x4 ≤ 2147483647 then (if 1 ≤ (x0.size : Int) then (rat_number.l0 k (x0.extract 1 x0.size) (wrap64 ((wrap64 (10 * x4)) + (((bt x0 0) - 48) % 256)))) else (none)) else (some (x4, x0))) else (some (x4, x0))) else (some (x4, x0))) else (none))
def rat_number.f (k : Nat) (a0 : ByteArray) : Option (Int × ByteArray) := rat_number.l0 k a0 0
theorem rat_number.mono_l : ∀ k, (∀ y0 y1, LeO (rat_number.l0 k y0 y1) (rat_number.l0 (k + 1) y0 y1))
 | 0 => fun _ _ r h => by simp [rat_number.l0] at h
 | k + 1 => by
  have ih0 := rat_number.mono_l k
  ·intro y0 y1
   unfold rat_number.l0
   repeat' first
   | (with_reducible exact ih0 _ _)
   | (with_reducible exact LeO.refl _)
   | (with_reducible exact LeO.none _)
   | (with_reducible refine LeO.ite ?_ ?_)
   | (with_reducible refine LeO.bind ?_ (fun _ => ?_))
   | exact ih0 _ _
   | exact LeO.none _
   | refine LeO.ite ?_ ?_
   | refine LeO.bind ?_ (fun _ => ?_)
theorem rat_number.mono : ∀ a0 k, LeO (rat_number.f k a0) (rat_number.f (k + 1) a0) := by
 intro a0 k
 have ih0 := rat_number.mono_l k
 unfold rat_number.f
 repeat' first
   | (with_reducible exact ih0 _ _)
   | (with_reducible exact LeO.refl _)
   | (with_reducible exact LeO.none _)
   | (with_reducible refine LeO.ite ?_ ?_)
   | (with_reducible refine LeO.bind ?_ (fun _ => ?_))
   | exact ih0 _ _
   | exact LeO.none _
   | refine LeO.ite ?_ ?_
   | refine LeO.bind ?_ (fun _ => ?_)
set_option maxHeartbeats 8000000 in
set_option maxRecDepth 100000 in
theorem rat_number.calls (k : Nat) (a0 : ByteArray) (r1 : Int) (r2 : ByteArray) (w : World) (h : rat_number.f k a0 = some (r1, r2)) :
  Calls Try.prog 45 #[.string a0] w fun e w' => e = .returned (.tuple #[.int .i64 r1, .string r2]) ∧ Drawn0 w w' := by
 have H : (rat_number.l0 k a0 0) = some (r1, r2) := h
 clear h
 have H' := Aside0.mk H
 clear H
 go_enter Try.func45, Try.ntmps45
 go_wp2
 go_loopg [0, 4] k (fun kq v0 v4 w' => ∃ (x0_1 : ByteArray) (x4_1 : Int), v0 = .string x0_1 ∧ v4 = .int .i64 x4_1 ∧ Aside0 (rat_number.l0 kq x0_1 x4_1 = some (r1, r2)) ∧ Aside0 (kq ≤ k) ∧ Drawn0 w w')
 case atStart => exact ⟨(a0), (0), (by first | rfl | (simp; done) | (simp [*]; done)), (by first | rfl | (simp; done) | (simp [*]; done)), H', ⟨Nat.le_refl _⟩, by repeat (first | exact Drawn0.refl _ | apply Drawn0.step)⟩
 case round =>
  clear H'
  obtain ⟨x0_1, x4_1, rfl, rfl, HA, HK1, ⟨m1, rfl⟩⟩ := hrel
  cases gk with
  | zero => exact absurd HA.out (by simp [rat_number.l0])
  | succ k1 =>
   have H := HA.out
   clear HA
   simp only [rat_number.l0] at H
   by_cases c2 : x0_1.toList = ([] : List UInt8)
   ·rw [if_pos c2] at H
    have c2b0 : (x0_1.toList == ([] : List UInt8)) = true := beq_iff_eq.mpr c2
    have c2b1 : (x0_1.toList != ([] : List UInt8)) = false := bne_eq_false_iff_eq.mpr c2
    clear c2
    simp only [Option.some.injEq, Prod.mk.injEq] at H
    obtain ⟨rfl, rfl⟩ := H
    go_wp2
    go_ret2
    exact ⟨by first | rfl | (simp; done) | (simp [*]; done), by repeat (first | exact Drawn0.refl _ | apply Drawn0.step)⟩
   ·rw [if_neg c2] at H
    have c2b0 : (x0_1.toList == ([] : List UInt8)) = false := beq_eq_false_iff_ne.mpr c2
    have c2b1 : (x0_1.toList != ([] : List UInt8)) = true := bne_iff_ne.mpr c2
    by_cases c3 : 0 < (x0_1.size : Int)
    ·rw [if_pos c3] at H
     have c3b0 : decide (0 < (x0_1.size : Int)) = true := decide_eq_true c3
     have c3b1 : decide (0 < x0_1.size) = true := decide_eq_true (by omega)
     clear c3
     by_cases c5 : (bt x0_1 0) ≥ 48
     ·rw [if_pos c5] at H
      have c5b0 : decide (48 ≤ (bt x0_1 0)) = true := decide_eq_true c5
      clear c5
      by_cases c7 : (bt x0_1 0) ≤ 57
      ·rw [if_pos c7] at H
       have c7b0 : decide ((bt x0_1 0) ≤ 57) = true := decide_eq_true c7
       clear c7
       by_cases c8 : x4_1 ≤ 2147483647
       ·rw [if_pos c8] at H
        have c8b0 : decide (x4_1 ≤ 2147483647) = true := decide_eq_true c8
        clear c8
        by_cases c10 : 1 ≤ (x0_1.size : Int)
        ·rw [if_pos c10] at H
         have c10b0 := eq_true c10
         have c10b1 : decide (1 ≤ (x0_1.size : Int)) = true := decide_eq_true c10
         clear c10
         have H' := Aside0.mk H
         clear H
         have p4 : 0 ≤ (0 : Int) := (by omega)
         have q4 : 0 < x0_1.size := (by have : (0 : Int) < (x0_1.size : Int) := of_decide_eq_true (by first | (with_reducible assumption) | assumption); omega)
         have hx4 : ∀ h : 0 < x0_1.size, ((x0_1[0]'h).toNat : Int) = bt x0_1 0 := bt_at x0_1 0
         clear p4
         have qi4 : (0 < (x0_1.size : Int)) = True := eq_true (of_decide_eq_true (by first | (with_reducible assumption) | assumption))
         replace q4 := eq_true q4
         have p6 : 0 ≤ (0 : Int) := (by omega)
         have q6 : 0 < x0_1.size := (by have : (0 : Int) < (x0_1.size : Int) := of_decide_eq_true (by first | (with_reducible assumption) | assumption); omega)
         have hx6 : ∀ h : 0 < x0_1.size, ((x0_1[0]'h).toNat : Int) = bt x0_1 0 := bt_at x0_1 0
         clear p6
         have qi6 : (0 < (x0_1.size : Int)) = True := eq_true (of_decide_eq_true (by first | (with_reducible assumption) | assumption))
         replace q6 := eq_true q6
         have p9 : 0 ≤ (0 : Int) := (by omega)
         have q9 : 0 < x0_1.size := (by have : (0 : Int) < (x0_1.size : Int) := of_decide_eq_true (by first | (with_reducible assumption) | assumption); omega)
         have hx9 : ∀ h : 0 < x0_1.size, ((x0_1[0]'h).toNat : Int) = bt x0_1 0 := bt_at x0_1 0
         clear p9
         have qi9 : (0 < (x0_1.size : Int)) = True := eq_true (of_decide_eq_true (by first | (with_reducible assumption) | assumption))
         replace q9 := eq_true q9
         go_wp2
         go_roundg k1
         case measure => have := HK1.out; omega
         case rel => exact ⟨(x0_1.extract 1 x0_1.size), (wrap64 ((wrap64 (10 * x4_1)) + (((bt x0_1 0) - 48) % 256))), (by first | rfl | (simp; done) | (simp [*]; done)), (by first | rfl | (simp; done) | (simp [*]; done)), H', ⟨by have := HK1.out; omega⟩, by repeat (first | exact Drawn0.refl _ | apply Drawn0.step)⟩
        ·rw [if_neg c10] at H
         exact absurd H (by simp)
       ·rw [if_neg c8] at H
        have c8b0 : decide (x4_1 ≤ 2147483647) = false := decide_eq_false c8
        clear c8
        simp only [Option.some.injEq, Prod.mk.injEq] at H
        obtain ⟨rfl, rfl⟩ := H
        have p4 : 0 ≤ (0 : Int) := (by omega)
        have q4 : 0 < x0_1.size := (by have : (0 : Int) < (x0_1.size : Int) := of_decide_eq_true (by first | (with_reducible assumption) | assumption); omega)
        have hx4 : ∀ h : 0 < x0_1.size, ((x0_1[0]'h).toNat : Int) = bt x0_1 0 := bt_at x0_1 0
        clear p4
        have qi4 : (0 < (x0_1.size : Int)) = True := eq_true (of_decide_eq_true (by first | (with_reducible assumption) | assumption))
        replace q4 := eq_true q4
        have p6 : 0 ≤ (0 : Int) := (by omega)
        have q6 : 0 < x0_1.size := (by have : (0 : Int) < (x0_1.size : Int) := of_decide_eq_true (by first | (with_reducible assumption) | assumption); omega)
        have hx6 : ∀ h : 0 < x0_1.size, ((x0_1[0]'h).toNat : Int) = bt x0_1 0 := bt_at x0_1 0
        clear p6
        have qi6 : (0 < (x0_1.size : Int)) = True := eq_true (of_decide_eq_true (by first | (with_reducible assumption) | assumption))
        replace q6 := eq_true q6
        go_wp2
        go_ret2
        exact ⟨by first | rfl | (simp; done) | (simp [*]; done), by repeat (first | exact Drawn0.refl _ | apply Drawn0.step)⟩
      ·rw [if_neg c7] at H
       have c7b0 : decide ((bt x0_1 0) ≤ 57) = false := decide_eq_false c7
       clear c7
       simp only [Option.some.injEq, Prod.mk.injEq] at H
       obtain ⟨rfl, rfl⟩ := H
       have p4 : 0 ≤ (0 : Int) := (by omega)
       have q4 : 0 < x0_1.size := (by have : (0 : Int) < (x0_1.size : Int) := of_decide_eq_true (by first | (with_reducible assumption) | assumption); omega)
       have hx4 : ∀ h : 0 < x0_1.size, ((x0_1[0]'h).toNat : Int) = bt x0_1 0 := bt_at x0_1 0
       clear p4
       have qi4 : (0 < (x0_1.size : Int)) = True := eq_true (of_decide_eq_true (by first | (with_reducible assumption) | assumption))
       replace q4 := eq_true q4
       have p6 : 0 ≤ (0 : Int) := (by omega)
       have q6 : 0 < x0_1.size := (by have : (0 : Int) < (x0_1.size : Int) := of_decide_eq_true (by first | (with_reducible assumption) | assumption); omega)
       have hx6 : ∀ h : 0 < x0_1.size, ((x0_1[0]'h).toNat : Int) = bt x0_1 0 := bt_at x0_1 0
       clear p6
       have qi6 : (0 < (x0_1.size : Int)) = True := eq_true (of_decide_eq_true (by first | (with_reducible assumption) | assumption))
       replace q6 := eq_true q6
       go_wp2
       go_ret2
       exact ⟨by first | rfl | (simp; done) | (simp [*]; done), by repeat (first | exact Drawn0.refl _ | apply Drawn0.step)⟩
     ·rw [if_neg c5] at H
      have c5b0 : decide (48 ≤ (bt x0_1 0)) = false := decide_eq_false c5
      clear c5
      simp only [Option.some.injEq, Prod.mk.injEq] at H
      obtain ⟨rfl, rfl⟩ := H
      have p4 : 0 ≤ (0 : Int) := (by omega)
      have q4 : 0 < x0_1.size := (by have : (0 : Int) < (x0_1.size : Int) := of_decide_eq_true (by first | (with_reducible assumption) | assumption); omega)
      have hx4 : ∀ h : 0 < x0_1.size, ((x0_1[0]'h).toNat : Int) = bt x0_1 0 := bt_at x0_1 0
      clear p4
      have qi4 : (0 < (x0_1.size : Int)) = True := eq_true (of_decide_eq_true (by first | (with_reducible assumption) | assumption))
      replace q4 := eq_true q4
      go_wp2
      go_ret2
      exact ⟨by first | rfl | (simp; done) | (simp [*]; done), by repeat (first | exact Drawn0.refl _ | apply Drawn0.step)⟩
    ·rw [if_neg c3] at H
     exact absurd H (by simp)

end Go.Proofs.Ytbkldplhaeaphaa.PRatNumbers

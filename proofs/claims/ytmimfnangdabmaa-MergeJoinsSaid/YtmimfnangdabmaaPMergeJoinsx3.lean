/- The walk of the Go functions that a law reaches, told as plain functions; a program of this session has written it. No condition beyond the statement's own. -/
import Derived.Test.YtmimfnangdabmaaPMergeJoinsx0
import Derived.Test.YtmimfnangdabmaaPMergeJoinsx1
import Derived.Test.YtmimfnangdabmaaPMergeJoinsx2
namespace Go.Proofs.Ytmimfnangdabmaa.PMergeJoins
open Go.RowKit Go.Proofs.YtmimfnangdabmaaW.PrintWords Go.Proofs.YtmimfnangdabmaaW.PrintLast Go.Proofs.YtmimfnangdabmaaW.PrintMore
attribute [local go_sem] max2_int min2_int max_two min_two max_three min_three max_four min_four   -- for this text's walks alone
set_option linter.unusedVariables false
set_option linter.unusedSimpArgs false

/-- A step of a region that yields in every world; one whose guard is off; one that reads what is held. -/
theorem pK {P : Program} {ops : Array Oper} {Q : Exit → Act → World → Prop} {md : Region.Mode} {S : World → Prop} {ds : List Nat} {oi : Oper} {v : Value} {fuel : Nat} {l : Array Bool} {a a' : Act} {w : World} (i : Nat) (N : Option Tmp) (l' : Array Bool) (h : wpAnyLast P md ops Q S ds fuel l' a' w)
    (hi : ops[i]? = some oi := by rfl) (hN : oi.dst = N := by rfl) (hc : anyB md ops l l' i = true := by kernel_rfl) (hQ : ∀ c a w, Q (.panic c) (a.put oi.dst v) w → Q (.panic c) a w := by exact fun _ _ _ h => h)
    (hy : Region.wanted oi (yielded ops a.tmps) = true := by rfl) (hy' : ∀ w, (execOp a.eval oi).run P w = .ok (.value v) w := by intro w'; go_simp; with_reducible rfl)
    (ha : a.put N v = a' := by simp only [Act.put, List.setIfInBounds_toArray, List.set_cons_zero, List.set_cons_succ, i64_w, i32_w]; rfl) : wpAnyLast P md ops Q S ds (fuel + 1) l a w :=
  pure_ l' hi hN hc hQ (Or.inl ⟨hy, hy'⟩) ha h
theorem uK {P : Program} {ops : Array Oper} {Q : Exit → Act → World → Prop} {md : Region.Mode} {S : World → Prop} {ds : List Nat} {oi : Oper} {fuel : Nat} {l : Array Bool} {a a' : Act} {w : World} (i : Nat) (N : Option Tmp) (l' : Array Bool) (h : wpAnyLast P md ops Q S ds fuel l' a' w)
    (hi : ops[i]? = some oi := by rfl) (hN : oi.dst = N := by rfl) (hc : anyB md ops l l' i = true := by kernel_rfl) (hQ : ∀ c a w, Q (.panic c) (a.put oi.dst undef) w → Q (.panic c) a w := by exact fun _ _ _ h => h)
    (hy : Region.wanted oi (yielded ops a.tmps) = false := by rfl)
    (ha : a.put N undef = a' := by simp only [Act.put, List.setIfInBounds_toArray, List.set_cons_zero, List.set_cons_succ, i64_w, i32_w]; rfl) : wpAnyLast P md ops Q S ds (fuel + 1) l a w :=
  pure_ l' hi hN hc hQ (Or.inr ⟨hy, rfl⟩) ha h
theorem tK {P : Program} {ops : Array Oper} {Q : Exit → Act → World → Prop} {md : Region.Mode} {S : World → Prop} {ds : List Nat} {oi : Oper} {v : Value} {fuel : Nat} {l : Array Bool} {a a' : Act} {w : World} (i : Nat) (N : Option Tmp) (l' : Array Bool) (hi : ops[i]? = some oi) (hN : oi.dst = N) (hS : S w) (hy' : ∀ w, S w → (execOp a.eval oi).run P w = .ok (.value v) w) (h : wpAnyLast P md ops Q S ds fuel l' a' w)
    (hc : takeB md ops ds l l' i = true := by kernel_rfl) (hQ : ∀ c a w, Q (.panic c) (a.put oi.dst v) w → Q (.panic c) a w := by exact fun _ _ _ h => h)
    (hy : Region.wanted oi (yielded ops a.tmps) = true := by rfl)
    (ha : a.put N v = a' := by simp only [Act.put, List.setIfInBounds_toArray, List.set_cons_zero, List.set_cons_succ, i64_w, i32_w]; rfl) : wpAnyLast P md ops Q S ds (fuel + 1) l a w :=
  take_ l' hi hN hc hQ (Or.inl ⟨hy, hy'⟩) hS ha h
theorem nK {P : Program} {ops : Array Oper} {Q : Exit → Act → World → Prop} {md : Region.Mode} {S : World → Prop} {ds : List Nat} {fuel : Nat} {l : Array Bool} {a a' : Act} {v : Value} {w : World} (N : Option Tmp) (h : wpAnyLast P md ops Q S ds fuel l a' w)
    (ha : a.put N v = a' := by simp only [Act.put, List.setIfInBounds_toArray, List.set_cons_zero, List.set_cons_succ, i64_w, i32_w]; rfl) : wpAnyLast P md ops Q S ds fuel l (a.put N v) w := norm_ ha h
theorem blk3 {w : World} {g : Nat} {t : TypeId} {x y z : Value} (h : w.heap[g]? = some (.cells #[x, y, z] t (0, 0))) : w.cell? ⟨g, 0, none⟩ = some x ∧ w.cell? ⟨g, 1, none⟩ = some y ∧ w.cell? ⟨g, 2, none⟩ = some z ∧ w.frozen? ⟨g, 0, none⟩ = false ∧ w.frozen? ⟨g, 1, none⟩ = false ∧ w.frozen? ⟨g, 2, none⟩ = false :=
  ⟨(blk_cell h 0).trans rfl, (blk_cell h 1).trans rfl, (blk_cell h 2).trans rfl, blk_frozen h 0, blk_frozen h 1, blk_frozen h 2⟩

/-! ### marigraphkeep_Rise: function 46, by hand -/
/-- How many stand ahead. -/
def riseFrom : List S49 → S49 → Nat
  | [], _ => 0
  | y :: r, x => if Op.bytesLess (strOfNums y.f0).toList (strOfNums x.f0).toList = true then riseFrom r x + 1 else 0
def riseI (out : List S49) (x : S49) : List S49 :=
  if riseFrom out x < out.length ∧ (strOfNums (rd_T49 out (riseFrom out x : Nat)).f0).toList = (strOfNums x.f0).toList then out.set (riseFrom out x) x else (out.take (riseFrom out x) ++ [x]) ++ out.drop (riseFrom out x)
def marigraphkeep_Rise.f (l0 : List S49) : Option (List S49) := if l0.length < 1000000 then some (l0.foldl riseI []) else none
theorem riseFrom_le : ∀ (l : List S49) (x : S49), riseFrom l x ≤ l.length
  | [], _ => Nat.le_refl _
  | y :: r, x => by
    unfold riseFrom
    have := riseFrom_le r x
    split
    · rw [List.length_cons]; omega
    · exact Nat.zero_le _
theorem riseI_len (out : List S49) (x : S49) : (riseI out x).length ≤ out.length + 1 := by
  unfold riseI
  split
  · rw [List.length_set]; omega
  · have := riseFrom_le out x
    rw [List.length_append, List.length_append, List.length_take, List.length_drop, List.length_singleton]
    omega
theorem riseFrom_step {out : List S49} {x : S49} {j : Nat} (hj : j < out.length) : riseFrom (out.drop j) x = if Op.bytesLess (strOfNums (rd_T49 out (j : Int)).f0).toList (strOfNums x.f0).toList = true then riseFrom (out.drop (j + 1)) x + 1 else 0 := by
  have e : rd_T49 out (j : Int) = out[j] := by
    unfold rd_T49
    rw [Int.toNat_natCast, List.getD_eq_getElem?_getD, List.getElem?_eq_getElem hj]
    rfl
  rw [e, List.drop_eq_getElem_cons hj]
  rfl
theorem one3 {a b c d e f : _} {g : Bool} : ∀ q ∈ [Value.slice a b c, Value.slice d e f, Value.bool g], q.oneCell' = true := by
  intro q hq
  simp only [List.mem_cons, List.not_mem_nil, or_false] at hq
  rcases hq with rfl | rfl | rfl <;> rfl
set_option maxHeartbeats 8000000 in
set_option maxRecDepth 100000 in
theorem marigraphkeep_Rise.calls (P0_ : Nat → Prop) (A0 : Option Addr) (c0 : Nat) (l0 : List S49) (r : List S49) (w : World) (hs0 : Kd.V k49 49 w w.heap.size (fun k_ => P0_ k_) (.slice A0 l0.length c0) l0) (h : marigraphkeep_Rise.f l0 = some r) :
    Calls Try.prog 46 #[.slice A0 l0.length c0] w fun e w' => ∃ v0_ : Value, e = .returned (v0_) ∧ Kd.N k49 49 w' w.heap.size (fun k_ => (P0_ k_ ∨ w.heap.size ≤ k_)) v0_ r ∧ Below w.heap.size w w' := by
  unfold marigraphkeep_Rise.f at h
  by_cases hlim : l0.length < 1000000
  rotate_left
  · rw [if_neg hlim] at h; cases h
  rw [if_pos hlim] at h
  obtain rfl := Option.some.inj h
  clear h
  have hu49 := Try.underlying49
  go_enter Try.func46, Try.ntmps46
  go_wp2
  go_loopg [3, 4] (l0.length + 1) (fun kq v3 v4 w' => ∃ (x4 : Int) (acc : List S49), v4 = .int .i64 x4 ∧ Aside0 (0 ≤ x4 ∧ x4 ≤ (l0.length : Int) ∧ l0.length + 1 ≤ kq + x4.toNat ∧ acc.length ≤ x4.toNat) ∧ Aside0 ((l0.drop x4.toNat).foldl riseI acc = l0.foldl riseI []) ∧ Aside0 (Kd.N k49 49 w' w.heap.size (fun k_ => (P0_ k_ ∨ w.heap.size ≤ k_)) v3 acc) ∧ Aside0 (Below w.heap.size w w'))
  case atStart => exact ⟨0, [], rfl, ⟨by omega, by omega, by omega, Nat.zero_le _⟩, ⟨rfl⟩, ⟨Kd.N_nil _ _ _ _ _⟩, ⟨Below.refl _ _⟩⟩
  case round =>
    obtain ⟨x4, acc, rfl, hlt, hr, HO, HB⟩ := hrel
    generalize wr = wo at HO HB ⊢
    obtain ⟨Ao, co, eo⟩ := Kd.N_slice HO.out
    subst eo
    by_cases hx : x4 < (l0.length : Int)
    rotate_left
    · have hd : decide (x4 < (l0.length : Int)) = false := decide_eq_false hx
      have hr' := hr.out
      rw [List.drop_of_length_le (by have := hlt.out; omega)] at hr'
      go_wp2
      go_ret
      exact ⟨_, rfl, by rw [← hr']; exact HO.out, HB.out⟩
    have hd : decide (x4 < (l0.length : Int)) = true := decide_eq_true hx
    have hr' := hr.out
    clear hr
    rw [List.drop_eq_getElem_cons (show x4.toNat < l0.length by have := hlt.out; omega), List.foldl_cons] at hr'
    have hxe : l0[x4.toNat]'(by have := hlt.out; omega) = rd_T49 l0 x4 := by
      unfold rd_T49
      rw [List.getD_eq_getElem?_getD, List.getElem?_eq_getElem (show x4.toNat < l0.length by have := hlt.out; omega)]
      rfl
    rw [hxe] at hr'
    clear hxe
    replace hr := Aside0.mk hr'
    clear hr'
    obtain ⟨-, -, hF0⟩ := Kd.V_at (Kd.V_below (Kd.V_bound hs0) HB.out)
    obtain ⟨ad2, cs2, e2, hcl2, hK2, hcc2, hin2⟩ := Kd.F_get hF0 z49 x4 hlt.out.1 hx
    obtain ⟨A2_0, c2_0, A2_1, c2_1, rfl, hl2_0, hg2_0, hl2_1, hg2_1⟩ := k49_openF hK2
    have hx2_0 : wo.cell? (ad2.add (x4.toNat * 3)) = some (.slice A2_0 (rd_T49 l0 x4).f0.length c2_0) := hcc2 0 _ rfl
    have hx2_1 : wo.cell? ⟨(ad2.add (x4.toNat * 3)).block, (ad2.add (x4.toNat * 3)).off + 1, none⟩ = some (.slice A2_1 (rd_T49 l0 x4).f1.length c2_1) := by rw [← add_field _ _ 1 (by omega)]; exact hcc2 1 _ rfl
    have hx2_2 : wo.cell? ⟨(ad2.add (x4.toNat * 3)).block, (ad2.add (x4.toNat * 3)).off + 2, none⟩ = some (.bool (rd_T49 l0 x4).f2) := by rw [← add_field _ _ 2 (by omega)]; exact hcc2 2 _ rfl
    subst e2
    clear hcc2 hcl2 hin2
    replace hK2 := Aside0.mk hK2
    have p4 : (0 ≤ x4) = True := eq_true hlt.out.1
    have q4 : (x4 < (l0.length : Int)) = True := eq_true hx
    go_upto_block 2 with (fail)
    go_cut [5] (fun v5 wc => v5 = .int .i64 ((riseFrom acc (rd_T49 l0 x4) : Nat) : Int) ∧ Drawn0 wo wc)
    case first =>
      go_wp2
      go_loopg [5] (acc.length + 1) (fun kq v5 w' => ∃ x5 : Int, v5 = .int .i64 x5 ∧ Aside0 (0 ≤ x5 ∧ x5 ≤ (acc.length : Int) ∧ acc.length + 1 ≤ kq + x5.toNat) ∧ Aside0 (riseFrom acc (rd_T49 l0 x4) = x5.toNat + riseFrom (acc.drop x5.toNat) (rd_T49 l0 x4)) ∧ Drawn0 wo w')
      case atStart => exact ⟨0, rfl, ⟨by omega, by omega, by omega⟩, ⟨by rw [Int.toNat_zero, List.drop_zero, Nat.zero_add]⟩, Drawn0.refl _⟩
      case round =>
        obtain ⟨x5, rfl, hx5, hk5, hdr⟩ := hrel
        obtain ⟨nd, rfl⟩ := hdr.out
        by_cases hx5k : x5 < (acc.length : Int)
        rotate_left
        · have hd5 : decide (x5 < (acc.length : Int)) = false := decide_eq_false hx5k
          go_wp2
          refine start_ (n := 19) (S := fun w' => True) (ds := []) (bA 19 0) (by kernel_rfl) rfl rfl trivial (fun hHeld => ?_)
          refine norm_ (by rfl) ?_
          refine pK 0 (some 12) (bA 19 1) ?_
          refine pK 1 (some 13) (bA 19 3) ?_
          refine pK 2 (some 14) (bA 19 7) ?_
          refine pK 3 (some 15) (bA 19 15) ?_
          refine pK 4 (some 16) (bA 19 31) ?_
          refine uK 5 (some 17) (bA 19 63) ?_
          refine uK 6 (some 18) (bA 19 127) ?_
          refine uK 7 (some 19) (bA 19 255) ?_
          refine uK 8 (some 20) (bA 19 511) ?_
          refine uK 9 (some 21) (bA 19 1023) ?_
          refine uK 10 (some 22) (bA 19 2047) ?_
          refine uK 11 (some 23) (bA 19 4095) ?_
          refine uK 12 (some 24) (bA 19 8191) ?_
          refine uK 13 (some 25) (bA 19 16383) ?_
          refine uK 14 (some 26) (bA 19 32767) ?_
          refine uK 15 (some 27) (bA 19 65535) ?_
          refine uK 16 (some 28) (bA 19 131071) ?_
          refine uK 17 (some 29) (bA 19 262143) ?_
          refine pK 18 (some 30) (bA 19 524287) ?_
          refine done_ (by kernel_rfl) ?_
          clear hHeld
          go_wp2
          go_meet
          case rel =>
            refine ⟨?_, ⟨⟨nd + 1, rfl⟩⟩⟩
            have hk := hk5.out
            rw [List.drop_of_length_le (by have := hx5.out; omega)] at hk
            rw [hk]
            show Value.int .i64 x5 = Value.int .i64 ((x5.toNat + 0 : Nat) : Int)
            rw [show ((x5.toNat + 0 : Nat) : Int) = x5 by have := hx5.out; omega]
        · have hd5 : decide (x5 < (acc.length : Int)) = true := decide_eq_true hx5k
          obtain ⟨-, -, hF1⟩ := Kd.V_at (Kd.N_V HO.out : Kd.V k49 49 wo w.heap.size _ _ acc)
          obtain ⟨ad1, cs1, e1, hcl1, hK1, hcc1, -⟩ := Kd.F_get hF1 z49 x5 hx5.out.1 hx5k
          obtain ⟨A1_0, c1_0, A1_1, c1_1, rfl, hl1_0, hg1_0, hl1_1, hg1_1⟩ := k49_openF hK1
          have hx1_0 : wo.cell? (ad1.add (x5.toNat * 3)) = some (.slice A1_0 (rd_T49 acc x5).f0.length c1_0) := hcc1 0 _ rfl
          subst e1
          have p5 : (0 ≤ x5) = True := eq_true hx5.out.1
          have q5 : (x5 < (acc.length : Int)) = True := eq_true hx5k
          have hk := hk5.out
          have ej : ((x5.toNat : Nat) : Int) = x5 := by have := hx5.out; omega
          rw [riseFrom_step (show x5.toNat < acc.length by have := hx5.out; omega), ej] at hk
          replace hk := Aside0.mk hk
          clear hk5
          have hw5 : wrap64 (x5 + 1) = x5 + 1 := by have := hx5.out; have := hlt.out; unfold wrap64; omega
          obtain ⟨bl, hbl⟩ : ∃ b : Bool, b = Op.bytesLess (strOfNums (rd_T49 acc x5).f0).toList (strOfNums (rd_T49 l0 x4).f0).toList := ⟨_, rfl⟩
          have hbl2 := hbl.symm
          replace hbl := Aside0.mk hbl
          cases bl with
          | false =>
            go_wp2
            refine start_ (n := 19) (S := fun w' => w'.cell? (ad1.add (x5.toNat * 3)) = some (.slice A1_0 (rd_T49 acc x5).f0.length c1_0) ∧ w'.cell? (ad2.add (x4.toNat * 3)) = some (.slice A2_0 (rd_T49 l0 x4).f0.length c2_0) ∧ Kd.C (Kd.int .u8) w' A1_0 (rd_T49 acc x5).f0.length (rd_T49 acc x5).f0 ∧ Kd.C (Kd.int .u8) w' A2_0 (rd_T49 l0 x4).f0.length (rd_T49 l0 x4).f0) (ds := []) (bA 19 0) (by kernel_rfl) rfl rfl ⟨hx1_0, hx2_0, Kd.C_drew (Kd.C_drewN (Kd.F_now hg1_0) _), Kd.C_drew (Kd.C_drewN (Kd.F_now hg2_0) _)⟩ (fun hHeld => ?_)
            refine norm_ (by rfl) ?_
            refine pK 0 (some 12) (bA 19 1) ?_
            refine pK 1 (some 13) (bA 19 3) ?_
            refine pK 2 (some 14) (bA 19 7) ?_
            refine pK 3 (some 15) (bA 19 15) ?_
            refine pK 4 (some 16) (bA 19 31) ?_
            refine pK 5 (some 17) (bA 19 63) ?_
            refine pK 6 (some 18) (bA 19 127) ?_
            refine pK 7 (some 19) (bA 19 255) ?_
            refine pK 8 (some 20) (bA 19 511) ?_
            refine tK 9 (some 21) (bA 19 1023) rfl rfl hHeld (by rintro w' ⟨s0, s1, s2, s3⟩; go_simp; with_reducible rfl) ?_
            refine tK 10 (some 22) (bA 19 2047) rfl rfl hHeld (by rintro w' ⟨s0, s1, s2, s3⟩; have e_ := Kd.C_string (P := Try.prog) (c := c1_0) Try.underlying23 Try.underlying5 Try.underlying9 s2; go_simp; with_reducible rfl) ?_
            refine pK 11 (some 23) (bA 19 4095) ?_
            refine pK 12 (some 24) (bA 19 8191) ?_
            refine pK 13 (some 25) (bA 19 16383) ?_
            refine pK 14 (some 26) (bA 19 32767) ?_
            refine tK 15 (some 27) (bA 19 65535) rfl rfl hHeld (by rintro w' ⟨s0, s1, s2, s3⟩; go_simp; with_reducible rfl) ?_
            refine tK 16 (some 28) (bA 19 131071) rfl rfl hHeld (by rintro w' ⟨s0, s1, s2, s3⟩; have e_ := Kd.C_string (P := Try.prog) (c := c2_0) Try.underlying23 Try.underlying5 Try.underlying9 s3; go_simp; with_reducible rfl) ?_
            refine pK 17 (some 29) (bA 19 262143) ?_
            refine pK 18 (some 30) (bA 19 524287) ?_
            refine done_ (by kernel_rfl) ?_
            clear hHeld
            go_wp2
            go_meet
            case rel =>
              refine ⟨?_, ⟨⟨nd + 1, rfl⟩⟩⟩
              have hk' := hk.out
              rw [← hbl.out, if_neg (fun e => Bool.noConfusion e)] at hk'
              rw [hk']
              show Value.int .i64 x5 = Value.int .i64 ((x5.toNat + 0 : Nat) : Int)
              rw [Nat.add_zero, ej]
          | true =>
            go_wp2
            refine start_ (n := 19) (S := fun w' => w'.cell? (ad1.add (x5.toNat * 3)) = some (.slice A1_0 (rd_T49 acc x5).f0.length c1_0) ∧ w'.cell? (ad2.add (x4.toNat * 3)) = some (.slice A2_0 (rd_T49 l0 x4).f0.length c2_0) ∧ Kd.C (Kd.int .u8) w' A1_0 (rd_T49 acc x5).f0.length (rd_T49 acc x5).f0 ∧ Kd.C (Kd.int .u8) w' A2_0 (rd_T49 l0 x4).f0.length (rd_T49 l0 x4).f0) (ds := []) (bA 19 0) (by kernel_rfl) rfl rfl ⟨hx1_0, hx2_0, Kd.C_drew (Kd.C_drewN (Kd.F_now hg1_0) _), Kd.C_drew (Kd.C_drewN (Kd.F_now hg2_0) _)⟩ (fun hHeld => ?_)
            refine norm_ (by rfl) ?_
            refine pK 0 (some 12) (bA 19 1) ?_
            refine pK 1 (some 13) (bA 19 3) ?_
            refine pK 2 (some 14) (bA 19 7) ?_
            refine pK 3 (some 15) (bA 19 15) ?_
            refine pK 4 (some 16) (bA 19 31) ?_
            refine pK 5 (some 17) (bA 19 63) ?_
            refine pK 6 (some 18) (bA 19 127) ?_
            refine pK 7 (some 19) (bA 19 255) ?_
            refine pK 8 (some 20) (bA 19 511) ?_
            refine tK 9 (some 21) (bA 19 1023) rfl rfl hHeld (by rintro w' ⟨s0, s1, s2, s3⟩; go_simp; with_reducible rfl) ?_
            refine tK 10 (some 22) (bA 19 2047) rfl rfl hHeld (by rintro w' ⟨s0, s1, s2, s3⟩; have e_ := Kd.C_string (P := Try.prog) (c := c1_0) Try.underlying23 Try.underlying5 Try.underlying9 s2; go_simp; with_reducible rfl) ?_
            refine pK 11 (some 23) (bA 19 4095) ?_
            refine pK 12 (some 24) (bA 19 8191) ?_
            refine pK 13 (some 25) (bA 19 16383) ?_
            refine pK 14 (some 26) (bA 19 32767) ?_
            refine tK 15 (some 27) (bA 19 65535) rfl rfl hHeld (by rintro w' ⟨s0, s1, s2, s3⟩; go_simp; with_reducible rfl) ?_
            refine tK 16 (some 28) (bA 19 131071) rfl rfl hHeld (by rintro w' ⟨s0, s1, s2, s3⟩; have e_ := Kd.C_string (P := Try.prog) (c := c2_0) Try.underlying23 Try.underlying5 Try.underlying9 s3; go_simp; with_reducible rfl) ?_
            refine pK 17 (some 29) (bA 19 262143) ?_
            refine pK 18 (some 30) (bA 19 524287) ?_
            refine done_ (by kernel_rfl) ?_
            clear hHeld
            go_wp2
            go_roundg (gk - 1)
            case measure => have := hx5.out; omega
            case rel =>
              refine ⟨x5 + 1, by first | rfl | rw [hw5], ⟨by have := hx5.out; omega, by omega, by have := hx5.out; omega⟩, ⟨?_⟩, ⟨⟨nd + 1, rfl⟩⟩⟩
              have hk' := hk.out
              rw [← hbl.out, if_pos rfl] at hk'
              rw [hk', show (x5 + 1).toNat = x5.toNat + 1 by have := hx5.out; omega]
              omega
    case rest =>
      obtain ⟨ev5, hdr⟩ := hcut
      obtain ⟨nd, rfl⟩ := hdr.out
      obtain ⟨x5, hx5⟩ : ∃ x : Int, x = ((riseFrom acc (rd_T49 l0 x4) : Nat) : Int) := ⟨_, rfl⟩
      rw [← hx5] at ev5
      subst ev5
      have hK5 : x5.toNat = riseFrom acc (rd_T49 l0 x4) := by rw [hx5, Int.toNat_natCast]
      have hle := riseFrom_le acc (rd_T49 l0 x4)
      have hx50 : 0 ≤ x5 := by omega
      have hx51 : x5 ≤ (acc.length : Int) := by omega
      replace hx5 := Aside0.mk hx5
      replace hle := Aside0.mk hle
      replace hK5 := Aside0.mk hK5
      have p5 : (0 ≤ x5) = True := eq_true hx50
      obtain ⟨eqb, heqb⟩ : ∃ b : Bool, b = decide (x5 < (acc.length : Int) ∧ (strOfNums (rd_T49 acc x5).f0).toList = (strOfNums (rd_T49 l0 x4).f0).toList) := ⟨_, rfl⟩
      replace heqb := Aside0.mk heqb
      go_upto_region 8 with (fail)
      go_cut [51] (fun v51 wc => v51 = .bool eqb ∧ Drawn0 wo wc)
      case first =>
        by_cases hx5k : x5 < (acc.length : Int)
        rotate_left
        · have hd5 : decide (x5 < (acc.length : Int)) = false := decide_eq_false hx5k
          refine start_ (n := 19) (S := fun w' => True) (ds := []) (bA 19 0) (by kernel_rfl) rfl rfl trivial (fun hHeld => ?_)
          refine norm_ (by rfl) ?_
          refine pK 0 (some 33) (bA 19 1) ?_
          refine pK 1 (some 34) (bA 19 3) ?_
          refine pK 2 (some 35) (bA 19 7) ?_
          refine pK 3 (some 36) (bA 19 15) ?_
          refine pK 4 (some 37) (bA 19 31) ?_
          refine uK 5 (some 38) (bA 19 63) ?_
          refine uK 6 (some 39) (bA 19 127) ?_
          refine uK 7 (some 40) (bA 19 255) ?_
          refine uK 8 (some 41) (bA 19 511) ?_
          refine uK 9 (some 42) (bA 19 1023) ?_
          refine uK 10 (some 43) (bA 19 2047) ?_
          refine uK 11 (some 44) (bA 19 4095) ?_
          refine uK 12 (some 45) (bA 19 8191) ?_
          refine uK 13 (some 46) (bA 19 16383) ?_
          refine uK 14 (some 47) (bA 19 32767) ?_
          refine uK 15 (some 48) (bA 19 65535) ?_
          refine uK 16 (some 49) (bA 19 131071) ?_
          refine uK 17 (some 50) (bA 19 262143) ?_
          refine pK 18 (some 51) (bA 19 524287) ?_
          refine done_ (by kernel_rfl) ?_
          clear hHeld
          go_wp2
          go_meet
          case rel => exact ⟨by rw [heqb.out, decide_eq_false (fun h => absurd h.1 (by omega))], ⟨⟨nd + 1, rfl⟩⟩⟩
        · have hd5 : decide (x5 < (acc.length : Int)) = true := decide_eq_true hx5k
          obtain ⟨-, -, hF1⟩ := Kd.V_at (Kd.N_V HO.out : Kd.V k49 49 wo w.heap.size _ _ acc)
          obtain ⟨ad1, cs1, e1, hcl1, hK1, hcc1, -⟩ := Kd.F_get hF1 z49 x5 hx50 hx5k
          obtain ⟨A1_0, c1_0, A1_1, c1_1, rfl, hl1_0, hg1_0, hl1_1, hg1_1⟩ := k49_openF hK1
          have hx1_0 : wo.cell? (ad1.add (x5.toNat * 3)) = some (.slice A1_0 (rd_T49 acc x5).f0.length c1_0) := hcc1 0 _ rfl
          subst e1
          have q5 : (x5 < (acc.length : Int)) = True := eq_true hx5k
          have hbl2 : ((strOfNums (rd_T49 acc x5).f0).toList == (strOfNums (rd_T49 l0 x4).f0).toList) = eqb := by
            rw [heqb.out]
            by_cases h : (strOfNums (rd_T49 acc x5).f0).toList = (strOfNums (rd_T49 l0 x4).f0).toList
            · rw [decide_eq_true ⟨hx5k, h⟩]; exact beq_iff_eq.2 h
            · rw [decide_eq_false (fun hh => h hh.2)]; exact beq_eq_false_iff_ne.2 h
          refine start_ (n := 19) (S := fun w' => w'.cell? (ad1.add (x5.toNat * 3)) = some (.slice A1_0 (rd_T49 acc x5).f0.length c1_0) ∧ w'.cell? (ad2.add (x4.toNat * 3)) = some (.slice A2_0 (rd_T49 l0 x4).f0.length c2_0) ∧ Kd.C (Kd.int .u8) w' A1_0 (rd_T49 acc x5).f0.length (rd_T49 acc x5).f0 ∧ Kd.C (Kd.int .u8) w' A2_0 (rd_T49 l0 x4).f0.length (rd_T49 l0 x4).f0) (ds := []) (bA 19 0) (by kernel_rfl) rfl rfl ⟨hx1_0, hx2_0, Kd.C_drew (Kd.C_drewN (Kd.F_now hg1_0) _), Kd.C_drew (Kd.C_drewN (Kd.F_now hg2_0) _)⟩ (fun hHeld => ?_)
          refine norm_ (by rfl) ?_
          refine pK 0 (some 33) (bA 19 1) ?_
          refine pK 1 (some 34) (bA 19 3) ?_
          refine pK 2 (some 35) (bA 19 7) ?_
          refine pK 3 (some 36) (bA 19 15) ?_
          refine pK 4 (some 37) (bA 19 31) ?_
          refine pK 5 (some 38) (bA 19 63) ?_
          refine pK 6 (some 39) (bA 19 127) ?_
          refine pK 7 (some 40) (bA 19 255) ?_
          refine pK 8 (some 41) (bA 19 511) ?_
          refine tK 9 (some 42) (bA 19 1023) rfl rfl hHeld (by rintro w' ⟨s0, s1, s2, s3⟩; go_simp; with_reducible rfl) ?_
          refine tK 10 (some 43) (bA 19 2047) rfl rfl hHeld (by rintro w' ⟨s0, s1, s2, s3⟩; have e_ := Kd.C_string (P := Try.prog) (c := c1_0) Try.underlying23 Try.underlying5 Try.underlying9 s2; go_simp; with_reducible rfl) ?_
          refine pK 11 (some 44) (bA 19 4095) ?_
          refine pK 12 (some 45) (bA 19 8191) ?_
          refine pK 13 (some 46) (bA 19 16383) ?_
          refine pK 14 (some 47) (bA 19 32767) ?_
          refine tK 15 (some 48) (bA 19 65535) rfl rfl hHeld (by rintro w' ⟨s0, s1, s2, s3⟩; go_simp; with_reducible rfl) ?_
          refine tK 16 (some 49) (bA 19 131071) rfl rfl hHeld (by rintro w' ⟨s0, s1, s2, s3⟩; have e_ := Kd.C_string (P := Try.prog) (c := c2_0) Try.underlying23 Try.underlying5 Try.underlying9 s3; go_simp; with_reducible rfl) ?_
          refine pK 17 (some 50) (bA 19 262143) ?_
          refine pK 18 (some 51) (bA 19 524287) ?_
          refine done_ (by kernel_rfl) ?_
          clear hHeld
          go_wp2
          go_meet
          case rel => exact ⟨rfl, ⟨⟨nd + 1, rfl⟩⟩⟩
      case rest =>
        obtain ⟨rfl, hdr2⟩ := hcut
        obtain ⟨nd2, rfl⟩ := hdr2.out
        by_cases heq : x5 < (acc.length : Int) ∧ (strOfNums (rd_T49 acc x5).f0).toList = (strOfNums (rd_T49 l0 x4).f0).toList
        · have he1 := heqb.out
          rw [decide_eq_true heq] at he1
          subst he1
          have hx5k := heq.1
          obtain ⟨g, cap, eg, hbg, hlg, -⟩ := Kd.N_form HO.out (show 0 < acc.length by omega)
          injection eg with eg1 eg2 eg3
          subst eg1
          subst eg3
          obtain ⟨cs1, hcl1, -, hcc1, -⟩ := Kd.N_elem HO.out z49 x5 hx50 hx5k
          have hg2_0' := hK2.out
          have q5 : (x5 < (acc.length : Int)) = True := eq_true hx5k
          have hw4 : wrap64 (x4 + 1) = x4 + 1 := by have := hlt.out; unfold wrap64; omega
          have hseg : cs1.take 0 ++ [.slice A2_0 (rd_T49 l0 x4).f0.length c2_0, .slice A2_1 (rd_T49 l0 x4).f1.length c2_1, .bool (rd_T49 l0 x4).f2] ++ cs1.drop (0 + 3) = [.slice A2_0 (rd_T49 l0 x4).f0.length c2_0, .slice A2_1 (rd_T49 l0 x4).f1.length c2_1, .bool (rd_T49 l0 x4).f2] := by
            rw [List.take_zero, List.nil_append, List.drop_of_length_le (by rw [hcl1]; exact Nat.le_refl _), List.append_nil]
          have hFKx : Kd.FK k49 (wo.drewN nd2) (fun k => P0_ k ∧ k < w.heap.size) (rd_T49 l0 x4) [.slice A2_0 (rd_T49 l0 x4).f0.length c2_0, .slice A2_1 (rd_T49 l0 x4).f1.length c2_1, .bool (rd_T49 l0 x4).f2] := Kd.FK_mono (ok' := fun k => P0_ k ∧ k < w.heap.size) (Kd.FK_below hK2.out (pw_below_drewN (Below.refl _ _) nd2)) (fun _ hk => hk)
          rw [← hseg] at hFKx
          go_wp2_with (first | ((with_reducible refine gate_store (t := 49) (p := 58) rfl ?_); refine Kd.N_store k49 (w0 := w) w.heap.size rfl rfl 49 (.tmp 58) (.tmp 57) rfl 49 x5 0 acc (rd_T49 l0 x4) (.agg #[.slice A2_0 (rd_T49 l0 x4).f0.length c2_0, .slice A2_1 (rd_T49 l0 x4).f1.length c2_1, .bool (rd_T49 l0 x4).f2]) [.slice A2_0 (rd_T49 l0 x4).f0.length c2_0, .slice A2_1 (rd_T49 l0 x4).f1.length c2_1, .bool (rd_T49 l0 x4).f2] cs1 (fun k_ => (P0_ k_ ∨ w.heap.size ≤ k_)) (fun k => P0_ k ∧ k < w.heap.size) rfl rfl rfl rfl (by kernel_rfl) ?aH (Kd.N_drewN HO.out nd2) hx50 hx5k hcl1 hcc1 (Nat.le_refl _) ?aM ?aK ?aB ?_; (case aM => exact hFKx); (case aH => exact one3); (case aK => exact fun k hk => ⟨.inl hk.1, by omega⟩); (case aB => exact pw_below_drewN HB.out nd2); intro w9 ho9 hb9 hg9))
          go_roundg (gk - 1)
          case measure => have := hlt.out; omega
          case rel =>
            refine ⟨x4 + 1, riseI acc (rd_T49 l0 x4), by first | rfl | rw [hw4], ⟨by have := hlt.out; omega, by omega, by have := hlt.out; omega, by have := riseI_len acc (rd_T49 l0 x4); have := hlt.out; omega⟩, ⟨by rw [show (x4 + 1).toNat = x4.toNat + 1 by have := hlt.out; omega]; exact hr.out⟩, ⟨?_⟩, ⟨hb9⟩⟩
            have e : riseI acc (rd_T49 l0 x4) = acc.set x5.toNat (rd_T49 l0 x4) := by
              unfold riseI
              rw [← hK5.out]
              have hc : x5.toNat < acc.length ∧ (strOfNums (rd_T49 acc ((x5.toNat : Nat) : Int)).f0).toList = (strOfNums (rd_T49 l0 x4).f0).toList := ⟨by omega, by rw [show ((x5.toNat : Nat) : Int) = x5 by omega]; exact heq.2⟩
              rw [if_pos hc]
            rw [e]
            exact ho9
        · have he1 := heqb.out
          rw [decide_eq_false heq] at he1
          subst he1
          have hw4 : wrap64 (x4 + 1) = x4 + 1 := by have := hlt.out; unfold wrap64; omega
          obtain ⟨W1, hW1⟩ : ∃ W, W = (wo.drewN nd2).drew := ⟨_, rfl⟩
          have HB1 : Below w.heap.size w W1 := by rw [hW1]; exact below_drew1 (pw_below_drewN HB.out nd2)
          have hsz : w.heap.size ≤ W1.heap.size := HB1.size
          have HO1 : Kd.N k49 49 W1 w.heap.size (fun k_ => (P0_ k_ ∨ w.heap.size ≤ k_)) (.slice Ao acc.length co) acc := by rw [hW1]; exact Kd.N_drew (Kd.N_drewN HO.out nd2)
          have hFx : Kd.FK k49 W1 (fun k => P0_ k ∧ k < w.heap.size) (rd_T49 l0 x4) [.slice A2_0 (rd_T49 l0 x4).f0.length c2_0, .slice A2_1 (rd_T49 l0 x4).f1.length c2_1, .bool (rd_T49 l0 x4).f2] := by rw [hW1]; exact Kd.FK_below hK2.out (below_drew1 (pw_below_drewN (Below.refl _ _) nd2))
          replace hx2_0 : W1.cell? (ad2.add (x4.toNat * 3)) = some (.slice A2_0 (rd_T49 l0 x4).f0.length c2_0) := by rw [hW1]; exact hx2_0
          replace hx2_1 : W1.cell? ⟨(ad2.add (x4.toNat * 3)).block, (ad2.add (x4.toNat * 3)).off + 1, none⟩ = some (.slice A2_1 (rd_T49 l0 x4).f1.length c2_1) := by rw [hW1]; exact hx2_1
          replace hx2_2 : W1.cell? ⟨(ad2.add (x4.toNat * 3)).block, (ad2.add (x4.toNat * 3)).off + 2, none⟩ = some (.bool (rd_T49 l0 x4).f2) := by rw [hW1]; exact hx2_2
          have hF := Kd.F_bound (Kd.N_F HO1)
          have hco := (Kd.N_reads' HO1).2.1
          have hm5 : x5.toNat ≤ acc.length := by omega
          have hFT : Kd.F k49 W1 (fun k => (P0_ k ∨ w.heap.size ≤ k) ∧ k < W1.heap.size) Ao x5.toNat (acc.take x5.toNat) := by
            have := Kd.F_take hF hm5
            rwa [List.length_take, Nat.min_eq_left hm5] at this
          have hFD := Kd.F_cut hF hm5 hco
          rw [List.length_drop] at hFD
          obtain ⟨i0, hi0, _, hs0_, _⟩ := info_parts info49
          have hcutT := cut_to (P := Try.prog) 37 49 .i64 Try.underlying37 hi0 Ao acc.length co x5 hx50 hx51 hco
          have hcutD := cut_from (P := Try.prog) 37 49 .i64 Try.underlying37 hi0 3 hs0_ Ao acc.length co x5 hx50 hx51
          rw [show k49.sz = 3 from rfl] at hFD
          generalize (if co = x5.toNat then Ao else Ao.map (·.add (x5.toNat * 3))) = AD at hFD hcutD
          clear hF hi0 hs0_
          go_upto_region 10 with (fail)
          refine start_ (n := 16) (S := fun w' => Below W1.heap.size W1 w') (ds := []) (bA 16 0) (by kernel_rfl) rfl rfl (by rw [← hW1]; exact Below.refl _ _) (fun hHeld => ?_)
          rw [← hW1] at hHeld ⊢
          refine norm_ (by rfl) ?_
          refine pK 1 (some 60) (bA 16 2) ?_
          refine pK 2 (some 61) (bA 16 6) ?_
          refine pK 3 (some 62) (bA 16 14) ?_
          refine pK 5 (some 64) (bA 16 46) ?_
          refine pK 6 (some 65) (bA 16 110) ?_
          refine pK 7 (some 66) (bA 16 238) ?_
          refine tK 8 (some 67) (bA 16 494) rfl rfl hHeld (by intro w' hb_; have s0 := (hb_.cell (World.block_lt_of_cell? _ _ hx2_0)).trans hx2_0; have s1 := (hb_.cell (World.block_lt_of_cell? _ _ hx2_1)).trans hx2_1; have s2 := (hb_.cell (World.block_lt_of_cell? _ _ hx2_2)).trans hx2_2; go_simp; with_reducible rfl) ?_
          refine pK 11 (some 70) (bA 16 2542) ?_
          refine pK 12 (some 71) (bA 16 6638) ?_
          refine pK 13 (some 72) (bA 16 14830) ?_
          refine join_ (σ := Value × Value × Value) 3 (bA 16 15359) (fun s_ => [(59, s_.1), (63, s_.2.1), (68, s_.2.2)]) (fun s_ w' => Kd.N k49 49 w' W1.heap.size (fun k_ => (P0_ k_ ∨ w.heap.size ≤ k_)) s_.2.1 (acc.take x5.toNat) ∧ Kd.N k49 49 w' W1.heap.size (fun k_ => (P0_ k_ ∨ w.heap.size ≤ k_) ∧ some k_ ≠ s_.2.1.ownBlock) s_.2.2 [(rd_T49 l0 x4)] ∧ Below W1.heap.size W1 w') ?_ ?_
          rotate_left
          · intro hCont
            refine two_ (i := 0) (j := 9) (Ni := some 59) (Nj := some 68) (bA 16 14831) (bA 16 15342) rfl rfl rfl rfl (by kernel_rfl) (by decide) (by decide) (fun K hK => ?_) (fun K hK => ?_)
            · skip
              refine Kd.N_lit_step k49 (w0 := W1) W1.heap.size 49 (by rfl) (N' := 59) rfl (xs := ([] : List S49)) (inner := []) (ok := (fun k_ => (P0_ k_ ∨ w.heap.size ≤ k_))) (okp := fun _ => False) ?hr ?hp (fun _ hk => hk.elim) ?hf (Below.refl W1.heap.size W1) ?hs (by simp) ?_
              case hr => first | (go_simp; done) | (go_simp; rfl)
              case hp => exact Reps.none _ _
              case hf => exact .inr (Nat.le_trans hsz ((Below.refl W1.heap.size W1)).size)
              case hs => exact ((Below.refl W1.heap.size W1)).size
              intro vL wL hoL hbL hgL hatL
              refine hK.out _ _ hbL (fun _ => ?_)
              clear hK K
              refine nK (some 59) ?_
              refine two_ (i := 4) (j := 9) (Ni := some 63) (Nj := some 68) (bA 16 14847) (bA 16 15343) rfl rfl rfl rfl (by kernel_rfl) (by decide) (by decide) (fun K hK => ?_) (fun K hK => ?_)
              · skip
                refine Kd.N_append_rows_step k49 (w0 := W1) W1.heap.size (by rfl) (.tmp 59) (.tmp 62) 37 49 (.agg #[(.slice none 0 0), (.slice none 0 0), (.bool false)]) 56 rfl Try.underlying37 info49 rfl (by decide) (by omega) vL ([] : List S49) (acc.take x5.toNat) Ao x5.toNat co (fun k_ => (P0_ k_ ∨ w.heap.size ≤ k_)) (fun k => (P0_ k ∨ w.heap.size ≤ k) ∧ k < W1.heap.size) rfl rfl hoL (Kd.F_below hFT hbL) ?hk ?hf hbL ?hs ?hl ?_
                case hk => exact fun k hk => ⟨hk.1, fun he => by have := Kd.N_base (hoL) k he.symm; have := hk.2; omega⟩
                case hf => exact fun k hk => .inr (Nat.le_trans (Nat.le_trans hsz (hbL).size) hk)
                case hs => exact (hbL).size
                case hl => have := hlt.out; have := hle.out; simp only [List.length_nil]; omega
                intro v1 wA hoA hbA hgA hatA
                rw [List.nil_append] at hoA
                refine hK.out _ _ hbA (fun _ => ?_)
                clear hK K
                refine nK (some 63) ?_
                refine one_ (i := 9) (N := some 68) (bA 16 15359) rfl rfl (by kernel_rfl) (by decide) (fun K hK => ?_)
                refine Kd.N_lit_step k49 (w0 := W1) W1.heap.size 49 (by rfl) (N' := 68) rfl (xs := [(rd_T49 l0 x4)]) (inner := [.slice A2_0 (rd_T49 l0 x4).f0.length c2_0, .slice A2_1 (rd_T49 l0 x4).f1.length c2_1, .bool (rd_T49 l0 x4).f2]) (ok := (fun k_ => (P0_ k_ ∨ w.heap.size ≤ k_) ∧ some k_ ≠ v1.ownBlock)) (okp := fun k => P0_ k ∧ k < w.heap.size) ?hr ?hp ?hk ?hf hbA ?hs (by simp) ?_
                case hr => first | (go_simp; done) | (go_simp; rfl)
                case hp => exact Reps.c3 (Kd.FK_below hFx hbA) (Reps.none _ _)
                case hk => exact fun k hk => ⟨.inl hk.1, fun he => by have := Kd.N_base hoA k he.symm; have := hk.2; omega⟩
                case hf => exact ⟨.inr (Nat.le_trans hsz hbA.size), fun he => by have := Kd.N_lt hoA _ he.symm; omega⟩
                case hs => exact (hbA).size
                intro vB wB hoB hbB hgB hatB
                refine hK.out _ _ hbB (fun _ => ?_)
                clear hK K
                refine nK (some 68) ?_
                exact norm_ (by simp only [putAll, Act.put, List.setIfInBounds_toArray, List.set_cons_zero, List.set_cons_succ]) (hCont (vL, v1, vB) _ ⟨Kd.N_grown hoA hgB (fun k _ => by simp), hoB, hbB⟩)
              · skip
                refine Kd.N_lit_step k49 (w0 := W1) W1.heap.size 49 (by rfl) (N' := 68) rfl (xs := [(rd_T49 l0 x4)]) (inner := [.slice A2_0 (rd_T49 l0 x4).f0.length c2_0, .slice A2_1 (rd_T49 l0 x4).f1.length c2_1, .bool (rd_T49 l0 x4).f2]) (ok := (fun k_ => (P0_ k_ ∨ w.heap.size ≤ k_) ∧ some k_ ≠ vL.ownBlock)) (okp := fun k => P0_ k ∧ k < w.heap.size) ?hr ?hp ?hk ?hf hbL ?hs (by simp) ?_
                case hr => first | (go_simp; done) | (go_simp; rfl)
                case hp => exact Reps.c3 (Kd.FK_below hFx hbL) (Reps.none _ _)
                case hk => exact fun k hk => ⟨.inl hk.1, fun he => by have := Kd.N_base hoL k he.symm; have := hk.2; omega⟩
                case hf => exact ⟨.inr (Nat.le_trans hsz hbL.size), fun he => by have := Kd.N_lt hoL _ he.symm; omega⟩
                case hs => exact (hbL).size
                intro vB wB hoB hbB hgB hatB
                refine hK.out _ _ hbB (fun _ => ?_)
                clear hK K
                refine nK (some 68) ?_
                refine one_ (i := 4) (N := some 63) (bA 16 15359) rfl rfl (by kernel_rfl) (by decide) (fun K hK => ?_)
                have hoL2 := Kd.N_grown hoL hgB (fun k _ => by simp)
                refine Kd.N_append_rows_step k49 (w0 := W1) W1.heap.size (by rfl) (.tmp 59) (.tmp 62) 37 49 (.agg #[(.slice none 0 0), (.slice none 0 0), (.bool false)]) 56 rfl Try.underlying37 info49 rfl (by decide) (by omega) vL ([] : List S49) (acc.take x5.toNat) Ao x5.toNat co (fun k_ => (P0_ k_ ∨ w.heap.size ≤ k_)) (fun k => (P0_ k ∨ w.heap.size ≤ k) ∧ k < W1.heap.size) rfl rfl hoL2 (Kd.F_below hFT hbB) ?hk ?hf hbB ?hs ?hl ?_
                case hk => exact fun k hk => ⟨hk.1, fun he => by have := Kd.N_base (hoL2) k he.symm; have := hk.2; omega⟩
                case hf => exact fun k hk => .inr (Nat.le_trans (Nat.le_trans hsz (hbB).size) hk)
                case hs => exact (hbB).size
                case hl => have := hlt.out; have := hle.out; simp only [List.length_nil]; omega
                intro v1 wA hoA hbA hgA hatA
                rw [List.nil_append] at hoA
                refine hK.out _ _ hbA (fun _ => ?_)
                clear hK K
                refine nK (some 63) ?_
                exact norm_ (by simp only [putAll, Act.put, List.setIfInBounds_toArray, List.set_cons_zero, List.set_cons_succ]) (hCont (vL, v1, vB) _ ⟨hoA, Kd.N_after hoB hgA hatA, hbA⟩)
            · skip
              refine Kd.N_lit_step k49 (w0 := W1) W1.heap.size 49 (by rfl) (N' := 68) rfl (xs := [(rd_T49 l0 x4)]) (inner := [.slice A2_0 (rd_T49 l0 x4).f0.length c2_0, .slice A2_1 (rd_T49 l0 x4).f1.length c2_1, .bool (rd_T49 l0 x4).f2]) (ok := (fun k_ => (P0_ k_ ∨ w.heap.size ≤ k_))) (okp := fun k => P0_ k ∧ k < w.heap.size) ?hr ?hp ?hk ?hf (Below.refl W1.heap.size W1) ?hs (by simp) ?_
              case hr => first | (go_simp; done) | (go_simp; rfl)
              case hp => exact Reps.c3 (Kd.FK_below hFx (Below.refl W1.heap.size W1)) (Reps.none _ _)
              case hk => exact fun k hk => .inl hk.1
              case hf => exact .inr hsz
              case hs => exact ((Below.refl W1.heap.size W1)).size
              intro vB wB hoB hbB hgB hatB
              refine hK.out _ _ hbB (fun _ => ?_)
              clear hK K
              refine nK (some 68) ?_
              refine one_ (i := 0) (N := some 59) (bA 16 15343) rfl rfl (by kernel_rfl) (by decide) (fun K hK => ?_)
              refine Kd.N_lit_step k49 (w0 := W1) W1.heap.size 49 (by rfl) (N' := 59) rfl (xs := ([] : List S49)) (inner := []) (ok := (fun k_ => (P0_ k_ ∨ w.heap.size ≤ k_))) (okp := fun _ => False) ?hr ?hp (fun _ hk => hk.elim) ?hf hbB ?hs (by simp) ?_
              case hr => first | (go_simp; done) | (go_simp; rfl)
              case hp => exact Reps.none _ _
              case hf => exact .inr (Nat.le_trans hsz (hbB).size)
              case hs => exact (hbB).size
              intro vL wL hoL hbL hgL hatL
              refine hK.out _ _ hbL (fun _ => ?_)
              clear hK K
              refine nK (some 59) ?_
              have hoB2 : Kd.N k49 49 wL W1.heap.size (fun k_ => (P0_ k_ ∨ w.heap.size ≤ k_) ∧ some k_ ≠ vL.ownBlock) vB [(rd_T49 l0 x4)] := Kd.N_grown (Kd.N_mono (Kd.N_bound hoB) (fun k hk => ⟨hk.1, fun he => by obtain ⟨b, hb1, hb2⟩ := hatL; rw [hb1] at he; injection he with he; have := hk.2; omega⟩)) hgL (fun k _ => by simp)
              refine one_ (i := 4) (N := some 63) (bA 16 15359) rfl rfl (by kernel_rfl) (by decide) (fun K hK => ?_)
              refine Kd.N_append_rows_step k49 (w0 := W1) W1.heap.size (by rfl) (.tmp 59) (.tmp 62) 37 49 (.agg #[(.slice none 0 0), (.slice none 0 0), (.bool false)]) 56 rfl Try.underlying37 info49 rfl (by decide) (by omega) vL ([] : List S49) (acc.take x5.toNat) Ao x5.toNat co (fun k_ => (P0_ k_ ∨ w.heap.size ≤ k_)) (fun k => (P0_ k ∨ w.heap.size ≤ k) ∧ k < W1.heap.size) rfl rfl hoL (Kd.F_below hFT hbL) ?hk ?hf hbL ?hs ?hl ?_
              case hk => exact fun k hk => ⟨hk.1, fun he => by have := Kd.N_base (hoL) k he.symm; have := hk.2; omega⟩
              case hf => exact fun k hk => .inr (Nat.le_trans (Nat.le_trans hsz (hbL).size) hk)
              case hs => exact (hbL).size
              case hl => have := hlt.out; have := hle.out; simp only [List.length_nil]; omega
              intro v1 wA hoA hbA hgA hatA
              rw [List.nil_append] at hoA
              refine hK.out _ _ hbA (fun _ => ?_)
              clear hK K
              refine nK (some 63) ?_
              exact norm_ (by simp only [putAll, Act.put, List.setIfInBounds_toArray, List.set_cons_zero, List.set_cons_succ]) (hCont (vL, v1, vB) _ ⟨hoA, Kd.N_after hoB2 hgA hatA, hbA⟩)
          rintro ⟨vL, v1, vB⟩ w3 ⟨h1, h2, hb3⟩
          dsimp only at h1 h2
          obtain ⟨A4, c4, rfl⟩ := Kd.N_slice h2
          refine norm_ (a' := ?_) ?_ ?_
          rotate_left
          · simp only [putAll, Act.put, List.setIfInBounds_toArray, List.set_cons_zero, List.set_cons_succ, i64_w, i32_w, List.length_singleton]
            rfl
          refine one_ (i := 10) (N := some 69) (bA 16 16383) rfl rfl (by kernel_rfl) (by decide) (fun K hK => ?_)
          refine Kd.N_append_rows_step k49 (w0 := W1) W1.heap.size (by rfl) (.tmp 63) (.tmp 68) 37 49 (.agg #[(.slice none 0 0), (.slice none 0 0), (.bool false)]) 56 rfl Try.underlying37 info49 rfl (by decide) (by omega) v1 (acc.take x5.toNat) [(rd_T49 l0 x4)] A4 1 c4 (fun k_ => (P0_ k_ ∨ w.heap.size ≤ k_)) (fun k_ => (P0_ k_ ∨ w.heap.size ≤ k_) ∧ some k_ ≠ v1.ownBlock) rfl rfl h1 (Kd.N_F h2) (fun _ hk => hk) ?hf hb3 ?hs ?hl ?_
          case hf => exact fun k hk => .inr (Nat.le_trans (Nat.le_trans hsz hb3.size) hk)
          case hs => exact hb3.size
          case hl => have := hlt.out; have := hle.out; rw [List.length_take]; omega
          intro v2 w4 ho4 hb4 hg4 hat4
          refine hK.out _ _ hb4 (fun _ => ?_)
          clear hK K
          refine nK (some 69) ?_
          refine one_ (i := 14) (N := some 73) (bA 16 32767) rfl rfl (by kernel_rfl) (by decide) (fun K hK => ?_)
          refine Kd.N_append_rows_step k49 (w0 := W1) W1.heap.size (by rfl) (.tmp 69) (.tmp 72) 37 49 (.agg #[(.slice none 0 0), (.slice none 0 0), (.bool false)]) 56 rfl Try.underlying37 info49 rfl (by decide) (by omega) v2 (acc.take x5.toNat ++ [(rd_T49 l0 x4)]) (acc.drop x5.toNat) AD (acc.length - x5.toNat) (co - x5.toNat) (fun k_ => (P0_ k_ ∨ w.heap.size ≤ k_)) (fun k => (P0_ k ∨ w.heap.size ≤ k) ∧ k < W1.heap.size) rfl rfl ho4 (Kd.F_below hFD hb4) ?hk ?hf hb4 ?hs ?hl ?_
          case hk => exact fun k hk => ⟨hk.1, fun he => by have := Kd.N_base ho4 k he.symm; have := hk.2; omega⟩
          case hf => exact fun k hk => .inr (Nat.le_trans (Nat.le_trans hsz hb4.size) hk)
          case hs => exact hb4.size
          case hl => have := hlt.out; have := hle.out; rw [List.length_append, List.length_take, List.length_singleton]; omega
          intro v3 w5 ho5 hb5 hg5 hat5
          refine hK.out _ _ hb5 (fun _ => ?_)
          clear hK K
          refine nK (some 73) ?_
          refine pK 15 (some 3) (bA 16 65535) ?_
          refine done_ (by kernel_rfl) ?_
          go_wp2
          go_roundg (gk - 1)
          case measure => have := hlt.out; omega
          case rel =>
            refine ⟨x4 + 1, riseI acc (rd_T49 l0 x4), by first | rfl | rw [hw4], ⟨by have := hlt.out; omega, by omega, by have := hlt.out; omega, by have := riseI_len acc (rd_T49 l0 x4); have := hlt.out; omega⟩, ⟨by rw [show (x4 + 1).toNat = x4.toNat + 1 by have := hlt.out; omega]; exact hr.out⟩, ⟨?_⟩, ⟨below_step HB1 hb5⟩⟩
            have e : riseI acc (rd_T49 l0 x4) = (acc.take x5.toNat ++ [rd_T49 l0 x4]) ++ acc.drop x5.toNat := by
              unfold riseI
              rw [← hK5.out]
              have hc : ¬ (x5.toNat < acc.length ∧ (strOfNums (rd_T49 acc ((x5.toNat : Nat) : Int)).f0).toList = (strOfNums (rd_T49 l0 x4).f0).toList) := fun hh => heq ⟨by omega, by rw [show ((x5.toNat : Nat) : Int) = x5 by omega] at hh; exact hh.2⟩
              rw [if_neg hc]
            rw [e]
            exact Kd.N_lower ho5 hsz

/-! ### marigraphlaw9_rows: function 25 -/
mutual
def marigraphlaw9_rows.l0 : Nat → List (List (S49)) → Int → List (List (S49)) → Int → Option ((List (List (S49))))
 | 0, _, _, _, _ => none
 | k + 1, x0, x1, x5, x6 => if x6 < (x0.length : Int) then (marigraphlaw9_rows.j1 k x0 x1 x5 x6 (decide (x6 < x1))) else (marigraphlaw9_rows.j1 k x0 x1 x5 x6 false)
def marigraphlaw9_rows.j1 : Nat → List (List (S49)) → Int → List (List (S49)) → Int → Bool → Option ((List (List (S49))))
 | 0, _, _, _, _, _ => none
 | k + 1, x0, x1, x5, x6, x15 => if x15 = true then (if 0 ≤ x6 then (if x6 < (x0.length : Int) then ((marigraphkeep_Entries.f k (rd_L4 x0 x6) 12 3 6).bind fun t136 => ((marigraphkeep_Rise.f t136).bind fun t139 => (if x5.length < 5864062014805 then (marigraphlaw9_rows.l0 k x0 x1 (x5 ++ [t139]) (wrap64 (x6 + 1))) else (none)))) else (none)) else (none)) else (some x5)
end
def marigraphlaw9_rows.f (k : Nat) (l0 : List (List (S49))) (a1 : Int) : Option ((List (List (S49)))) := marigraphlaw9_rows.l0 k l0 a1 ([] : List (List (S49))) 0
theorem marigraphlaw9_rows.mono_l : ∀ k, (∀ y0 y1 y2 y3, LeO (marigraphlaw9_rows.l0 k y0 y1 y2 y3) (marigraphlaw9_rows.l0 (k + 1) y0 y1 y2 y3)) ∧ (∀ y0 y1 y2 y3 y4, LeO (marigraphlaw9_rows.j1 k y0 y1 y2 y3 y4) (marigraphlaw9_rows.j1 (k + 1) y0 y1 y2 y3 y4))
 | 0 => ⟨fun _ _ _ _ r h => by simp [marigraphlaw9_rows.l0] at h, fun _ _ _ _ _ r h => by simp [marigraphlaw9_rows.j1] at h⟩
 | k + 1 => by
  obtain ⟨ih0, ih1⟩ := marigraphlaw9_rows.mono_l k
  refine ⟨?_, ?_⟩
  ·intro y0 y1 y2 y3
   unfold marigraphlaw9_rows.l0
   repeat' first
   | (with_reducible exact ih0 _ _ _ _)
   | (with_reducible exact ih1 _ _ _ _ _)
   | (with_reducible exact marigraphkeep_Entries.mono _ _ _ _ _)
   | (with_reducible exact LeO.refl _)
   | (with_reducible exact LeO.none _)
   | (with_reducible refine LeO.ite ?_ ?_)
   | (with_reducible refine LeO.bind ?_ (fun _ => ?_))
   | exact ih0 _ _ _ _
   | exact ih1 _ _ _ _ _
   | exact marigraphkeep_Entries.mono _ _ _ _ _
   | exact LeO.none _
   | refine LeO.ite ?_ ?_
   | refine LeO.bind ?_ (fun _ => ?_)
  ·intro y0 y1 y2 y3 y4
   unfold marigraphlaw9_rows.j1
   repeat' first
   | (with_reducible exact ih0 _ _ _ _)
   | (with_reducible exact ih1 _ _ _ _ _)
   | (with_reducible exact marigraphkeep_Entries.mono _ _ _ _ _)
   | (with_reducible exact LeO.refl _)
   | (with_reducible exact LeO.none _)
   | (with_reducible refine LeO.ite ?_ ?_)
   | (with_reducible refine LeO.bind ?_ (fun _ => ?_))
   | exact ih0 _ _ _ _
   | exact ih1 _ _ _ _ _
   | exact marigraphkeep_Entries.mono _ _ _ _ _
   | exact LeO.none _
   | refine LeO.ite ?_ ?_
   | refine LeO.bind ?_ (fun _ => ?_)
theorem marigraphlaw9_rows.mono : ∀ a0 a1 k, LeO (marigraphlaw9_rows.f k a0 a1) (marigraphlaw9_rows.f (k + 1) a0 a1) := by
 intro a0 a1 k
 obtain ⟨ih0, ih1⟩ := marigraphlaw9_rows.mono_l k
 unfold marigraphlaw9_rows.f
 repeat' first
   | (with_reducible exact ih0 _ _ _ _)
   | (with_reducible exact ih1 _ _ _ _ _)
   | (with_reducible exact marigraphkeep_Entries.mono _ _ _ _ _)
   | (with_reducible exact LeO.refl _)
   | (with_reducible exact LeO.none _)
   | (with_reducible refine LeO.ite ?_ ?_)
   | (with_reducible refine LeO.bind ?_ (fun _ => ?_))
   | exact ih0 _ _ _ _
   | exact ih1 _ _ _ _ _
   | exact marigraphkeep_Entries.mono _ _ _ _ _
   | exact LeO.none _
   | refine LeO.ite ?_ ?_
   | refine LeO.bind ?_ (fun _ => ?_)
set_option maxHeartbeats 8000000 in
set_option maxRecDepth 100000 in
theorem marigraphlaw9_rows.calls (k : Nat) (P0_ : Nat → Prop) (A0 : Option Addr) (c0 : Nat) (l0 : List (List (S49))) (a1 : Int) (r : List (List (S49))) (w : World) (hs0 : Kd.V (Kd.slice 49 k49) 37 w w.heap.size (fun k_ => P0_ k_) (.slice A0 l0.length c0) l0) (h : marigraphlaw9_rows.f k l0 a1 = some r) :
  Calls Try.prog 25 #[.slice A0 l0.length c0, .int .i64 a1] w fun e w' => ∃ v0_ : Value, e = .returned (v0_) ∧ Kd.N (Kd.slice 49 k49) 37 w' w.heap.size (fun k_ => (P0_ k_ ∨ w.heap.size ≤ k_)) v0_ r ∧ Below w.heap.size w w' := by
 have HO0 := Aside0.mk (show Kd.V (Kd.slice 49 k49) 37 w w.heap.size (fun k_ => (P0_ k_ ∨ w.heap.size ≤ k_)) (.slice A0 l0.length c0) l0 from Kd.V_mono hs0 (fun k_ hk => .inl hk))
 have HB := Aside0.mk (Below.refl w.heap.size w)
 have H : (marigraphlaw9_rows.l0 k l0 a1 ([] : List (List (S49))) 0) = some r := h
 clear h
 have H' := Aside0.mk H
 clear H
 go_enter Try.func25, Try.ntmps25
 go_wp2
 go_loopg [5, 6] k (fun kq v5 v6 w' => ∃ (x5_1 : List (List (S49))) (x6_1 : Int), v6 = .int .i64 x6_1 ∧ Aside0 (marigraphlaw9_rows.l0 kq l0 a1 x5_1 x6_1 = some r) ∧ Aside0 (kq ≤ k) ∧ Aside0 (Kd.V (Kd.slice 49 k49) 37 w' w.heap.size (fun k_ => (P0_ k_ ∨ w.heap.size ≤ k_) ∧ some k_ ≠ (v5 : Value).ownBlock) (.slice A0 l0.length c0) l0) ∧ Aside0 (Kd.N (Kd.slice 49 k49) 37 w' w.heap.size (fun k_ => (P0_ k_ ∨ w.heap.size ≤ k_)) v5 x5_1) ∧ Aside0 (Below w.heap.size w w'))
 case atStart => exact ⟨(([] : List (List (S49)))), (0), (by first | rfl | (simp; done) | (simp [*]; done)), H', ⟨Nat.le_refl _⟩, ⟨by (with_reducible repeat (first | apply Kd.V_alloc | apply Kd.V_drewN | apply Kd.V_drew)); exact Kd.V_mono HO0.out (fun _ hk => ⟨hk, (by simp [Value.ownBlock])⟩)⟩, ⟨by first | exact Kd.R_nil _ _ _ _ _ | exact Kd.N_nil _ _ _ _ _ | exact Kd.V_nil _ _ _ _ _ | exact Kd.Q_nil _ _ _ _ _ | exact Kd.S_nil _ _ _ _ _⟩, ⟨(belN HB.out)⟩⟩
 case round =>
  clear H'
  try clear c2
  try clear p2
  obtain ⟨x5_1, x6_1, rfl, HA, HK1, HO_0, HO_5, HB⟩ := hrel
  cases gk with
  | zero => exact absurd HA.out (by simp [marigraphlaw9_rows.l0])
  | succ k1 =>
   have H := HA.out
   clear HA
   simp only [marigraphlaw9_rows.l0] at H
   have HC3 := Aside0.mk H
   clear H
   go_upto_region 3 with (fail)
   go_cut [15] (fun v15 wc => ∃ (kq : Nat) (x15_2 : Bool), v15 = .bool x15_2 ∧ Aside0 (marigraphlaw9_rows.j1 kq l0 a1 x5_1 x6_1 x15_2 = some r) ∧ Aside0 (kq ≤ k1) ∧ Aside0 (Kd.V (Kd.slice 49 k49) 37 wc w.heap.size (fun k_ => (P0_ k_ ∨ w.heap.size ≤ k_) ∧ some k_ ≠ (u5 : Value).ownBlock) (.slice A0 l0.length c0) l0) ∧ Aside0 (Kd.N (Kd.slice 49 k49) 37 wc w.heap.size (fun k_ => (P0_ k_ ∨ w.heap.size ≤ k_)) u5 x5_1) ∧ Aside0 (Below w.heap.size w wc))
   case first =>
    have H := HC3.out
    clear HC3
    by_cases c4 : x6_1 < (l0.length : Int)
    ·rw [if_pos c4] at H
     have c4b0 : decide (x6_1 < (l0.length : Int)) = true := decide_eq_true c4
     clear c4
     (first | rw [c4b0] | rw [c4b1] | (simp only [i64_w, i32_w]; rw [c4b0]) | skip)
     have H' := Aside0.mk H
     clear H
     go_wp2
     go_meet
     case rel => exact ⟨_, (decide (x6_1 < a1)), (by first | rfl | (simp; done) | (simp [*]; done)), H', ⟨by have := HK1.out; first | omega | exact Nat.le_refl _⟩, ⟨by (with_reducible repeat (first | apply Kd.V_alloc | apply Kd.V_drewN | apply Kd.V_drew)); exact HO_0.out⟩, ⟨by (with_reducible repeat (first | apply Kd.N_alloc | apply Kd.N_drewN | apply Kd.N_drew)); exact HO_5.out⟩, ⟨(belN HB.out)⟩⟩
    ·rw [if_neg c4] at H
     have c4b0 : decide (x6_1 < (l0.length : Int)) = false := decide_eq_false c4
     clear c4
     (first | rw [c4b0] | rw [c4b1] | (simp only [i64_w, i32_w]; rw [c4b0]) | skip)
     have H' := Aside0.mk H
     clear H
     go_wp2
     go_meet
     case rel => exact ⟨_, (false), (by first | rfl | (simp; done) | (simp [*]; done)), H', ⟨by have := HK1.out; first | omega | exact Nat.le_refl _⟩, ⟨by (with_reducible repeat (first | apply Kd.V_alloc | apply Kd.V_drewN | apply Kd.V_drew)); exact HO_0.out⟩, ⟨by (with_reducible repeat (first | apply Kd.N_alloc | apply Kd.N_drewN | apply Kd.N_drew)); exact HO_5.out⟩, ⟨(belN HB.out)⟩⟩
   case rest =>
    clear HC3
    try clear c2
    try clear p2
    try clear c4
    try clear c4b0
    try clear p2
    obtain ⟨kq, x15_2, rfl, HA, HJ2, HO_0, HO_5, HB⟩ := hcut
    cases kq with
    | zero => exact absurd HA.out (by simp [marigraphlaw9_rows.j1])
    | succ kj2 =>
     have H := HA.out
     clear HA
     simp only [marigraphlaw9_rows.j1] at H
     by_cases c5 : x15_2 = true
     ·subst c5
      have H1 : (if 0 ≤ x6_1 then (if x6_1 < (l0.length : Int) then ((marigraphkeep_Entries.f kj2 (rd_L4 l0 x6_1) 12 3 6).bind fun t136 => ((marigraphkeep_Rise.f t136).bind fun t139 => (if x5_1.length < 5864062014805 then (marigraphlaw9_rows.l0 kj2 l0 a1 (x5_1 ++ [t139]) (wrap64 (x6_1 + 1))) else (none)))) else (none)) else (none)) = some r := by rw [if_pos rfl] at H; exact H
      clear H
      have H := H1
      clear H1
      by_cases c6 : 0 ≤ x6_1
      ·rw [if_pos c6] at H
       have c6b0 : decide (0 ≤ x6_1) = true := decide_eq_true c6
       clear c6
       by_cases c7 : x6_1 < (l0.length : Int)
       ·rw [if_pos c7] at H
        have c7b0 : decide (x6_1 < (l0.length : Int)) = true := decide_eq_true c7
        clear c7
        replace H := Option.bind_eq_some_iff.mp H
        obtain ⟨t136, A80, H⟩ := H
        replace H : ((marigraphkeep_Rise.f t136).bind fun t139 => (if x5_1.length < 5864062014805 then (marigraphlaw9_rows.l0 kj2 l0 a1 (x5_1 ++ [t139]) (wrap64 (x6_1 + 1))) else (none))) = some r := H
        have A8 := Aside0.mk A80
        clear A80
        replace H := Option.bind_eq_some_iff.mp H
        obtain ⟨t139, A90, H⟩ := H
        replace H : (if x5_1.length < 5864062014805 then (marigraphlaw9_rows.l0 kj2 l0 a1 (x5_1 ++ [t139]) (wrap64 (x6_1 + 1))) else (none)) = some r := H
        have A9 := Aside0.mk A90
        clear A90
        by_cases c10 : x5_1.length < 5864062014805
        ·rw [if_pos c10] at H
         have LMc10 := Aside0.mk c10
         clear c10
         obtain ⟨y142, hy142⟩ : ∃ y_ : List (List (S49)), y_ = (x5_1 ++ [t139]) := ⟨_, rfl⟩
         replace H : (marigraphlaw9_rows.l0 kj2 l0 a1 y142 (wrap64 (x6_1 + 1))) = some r := by first | (rw [hy142]; with_reducible exact H) | (have H2_ := (Option.bind_some _ _).symm.trans H; rw [hy142]; with_reducible exact H2_) | (have H2_ := (Option.bind_some _ _).symm.trans H; with_reducible exact H2_) | with_reducible exact H | (rw [hy142]; exact H) | exact H
         have Ny142 := Aside0.mk hy142
         clear hy142
         have H' := Aside0.mk H
         clear H
         have p135 : 0 ≤ (x6_1 : Int) := of_decide_eq_true (by first | (with_reducible assumption) | assumption)
         have q135 : x6_1 < (l0.length : Int) := of_decide_eq_true (by first | (with_reducible assumption) | assumption)
         obtain ⟨ad135, A135_0, c135_0, e135, hx135_0, hl135_0, hi135_0⟩ := at_L4 (Kd.V_reads' HO_0.out).2.2 x6_1 p135 q135
         cases e135
         obtain ⟨ce135, hce135, hMe135, hcc135⟩ := Kd.V_get HO_0.out [] x6_1 p135 (by first | exact q135 | exact of_decide_eq_true (by first | (with_reducible assumption) | assumption) | (have e_ := (Kd.V_reads' HO_0.out).1; omega))
         obtain ⟨ua135_0, uc135_0, rfl, ul135_0, ge135_0⟩ := Kd.FK_slice_open hMe135
         have hv135_0 := hcc135 0 _ rfl
         rw [Nat.add_zero, show ((Kd.slice 49 k49)).sz = 1 from rfl, Nat.mul_one] at hv135_0
         replace hv135_0 := Option.some.inj (hv135_0.symm.trans hx135_0)
         injection hv135_0 with hva_ hvn_ hvc_
         rw [hva_] at ge135_0
         rw [hvc_] at ul135_0
         have HL135_0 := Aside0.mk (show Kd.V k49 49 _ w.heap.size _ _ (rd_L4 l0 x6_1) from Kd.V_mk ul135_0 ge135_0)
         clear hva_ hvn_ hvc_ ge135_0 ul135_0
         clear hcc135 hce135
         have HR135_0 := Aside0.mk hi135_0
         have HC135_0 := Aside0.mk hl135_0
         clear hi135_0 hl135_0
         replace p135 := eq_true p135
         replace q135 := eq_true q135
         go_wp2_with (first | ((with_reducible refine gate_callee (f := 21) rfl ?_); refine goesL_ (some 23) rfl rfl Try.func21 (by kernel_rfl) rfl #[.slice A135_0 (rd_L4 l0 x6_1).length c135_0, .int .i64 12, .int .i64 3, .int .i64 6] rfl argN ?_; (with_reducible refine (marigraphkeep_Entries.calls kj2 (fun k_ => ((P0_ k_ ∨ w.heap.size ≤ k_) ∧ some k_ ≠ (u5 : Value).ownBlock)) _ _ (rd_L4 l0 x6_1) 12 3 6 t136 _ ?side1 A8.out).mono ?_); (case side1 => exact HL135_0.out); rintro e w11 ⟨v137, rfl, ho0, hb⟩; refine ⟨_, rfl, ?_⟩; have n0_ := Aside0.mk (Kd.V_elder' (by (with_reducible repeat (first | apply Kd.V_alloc | apply Kd.V_drewN | apply Kd.V_drew)); exact HO_0.out) (by first | exact Kd.N_base ho0 | exact Kd.S_base ho0) hb); have n1_ := Aside0.mk (Kd.N_elder' (by (with_reducible repeat (first | apply Kd.N_alloc | apply Kd.N_drewN | apply Kd.N_drew)); exact HO_5.out) (by first | exact Kd.N_base ho0 | exact Kd.S_base ho0) hb); have n2_ := Aside0.mk (Kd.V_elder' (by (with_reducible repeat (first | apply Kd.V_alloc | apply Kd.V_drewN | apply Kd.V_drew)); exact HL135_0.out) (by first | exact Kd.N_base ho0 | exact Kd.S_base ho0) hb); have n3_ := Aside0.mk (Kd.N_lower (Kd.N_mono (ok' := fun k_ => (P0_ k_ ∨ w.heap.size ≤ k_) ∧ some k_ ≠ (u5 : Value).ownBlock) ho0 (fun k_ hk_ => ⟨Or.elim hk_ (fun hs_ => hs_.1) (fun hn_ => (.inr (Nat.le_trans (below_size (belN HB.out)) hn_))), Or.elim hk_ (fun hs_ => hs_.2) (fun hn_ => (Kd.fresh' (Kd.N_lt (by (with_reducible repeat (first | apply Kd.N_alloc | apply Kd.N_drewN | apply Kd.N_drew)); exact HO_5.out)) k_ hn_))⟩)) (below_size (belN HB.out))); have n4_ := Aside0.mk (cbN HR135_0.out hb); have n5_ := Aside0.mk (below_step (belN HB.out) hb); clear HO_0; clear HO_5; clear HL135_0; clear HR135_0; clear HB; have HO_0 := n0_; have HO_5 := n1_; have HL135_0 := n2_; have HO138 := n3_; have HR135_0 := n4_; have HB := n5_; clear n0_ n1_ n2_ n3_ n4_ n5_; (try clear hb); (try clear hk); (try clear ho0); obtain ⟨Ao12, co12, eo12⟩ := Kd.N_slice HO138.out; subst eo12) | ((with_reducible refine gate_callee (f := 46) rfl ?_); refine goesL_ (some 24) rfl rfl Try.func46 (by kernel_rfl) rfl #[.slice Ao12 t136.length co12] rfl argN ?_; (with_reducible refine (marigraphkeep_Rise.calls (fun k_ => ((P0_ k_ ∨ w.heap.size ≤ k_) ∧ some k_ ≠ (u5 : Value).ownBlock)) _ _ t136 t139 _ ?side1 A9.out).mono ?_); (case side1 => exact Kd.N_V (HO138.out)); rintro e w13 ⟨v140, rfl, ho0, hb⟩; refine ⟨_, rfl, ?_⟩; have n0_ := Aside0.mk (Kd.V_elder' (by (with_reducible repeat (first | apply Kd.V_alloc | apply Kd.V_drewN | apply Kd.V_drew)); exact HO_0.out) (by first | exact Kd.N_base ho0 | exact Kd.S_base ho0) hb); have n1_ := Aside0.mk (Kd.N_elder' (by (with_reducible repeat (first | apply Kd.N_alloc | apply Kd.N_drewN | apply Kd.N_drew)); exact HO_5.out) (by first | exact Kd.N_base ho0 | exact Kd.S_base ho0) hb); have n2_ := Aside0.mk (Kd.V_elder' (by (with_reducible repeat (first | apply Kd.V_alloc | apply Kd.V_drewN | apply Kd.V_drew)); exact HL135_0.out) (by first | exact Kd.N_base ho0 | exact Kd.S_base ho0) hb); have n3_ := Aside0.mk (Kd.N_elder' (by (with_reducible repeat (first | apply Kd.N_alloc | apply Kd.N_drewN | apply Kd.N_drew)); exact HO138.out) (by first | exact Kd.N_base ho0 | exact Kd.S_base ho0) hb); have n4_ := Aside0.mk (Kd.N_lower (Kd.N_mono (ok' := fun k_ => (P0_ k_ ∨ w.heap.size ≤ k_) ∧ some k_ ≠ (u5 : Value).ownBlock) ho0 (fun k_ hk_ => ⟨Or.elim hk_ (fun hs_ => hs_.1) (fun hn_ => (.inr (Nat.le_trans (below_size (belN HB.out)) hn_))), Or.elim hk_ (fun hs_ => hs_.2) (fun hn_ => (Kd.fresh' (Kd.N_lt (by (with_reducible repeat (first | apply Kd.N_alloc | apply Kd.N_drewN | apply Kd.N_drew)); exact HO_5.out)) k_ hn_))⟩)) (below_size (belN HB.out))); have n5_ := Aside0.mk (cbN HR135_0.out hb); have n6_ := Aside0.mk (below_step (belN HB.out) hb); clear HO_0; clear HO_5; clear HL135_0; clear HO138; clear HR135_0; clear HB; have HO_0 := n0_; have HO_5 := n1_; have HL135_0 := n2_; have HO138 := n3_; have HO141 := n4_; have HR135_0 := n5_; have HB := n6_; clear n0_ n1_ n2_ n3_ n4_ n5_ n6_; (try clear hb); (try clear hk); (try clear ho0); obtain ⟨Ao15, co15, eo15⟩ := Kd.N_slice HO141.out; subst eo15) | ((with_reducible refine gate_builtin (b := .append) (xs := #[.tmp 18, .tmp 25]) rfl ?_); at_builtin; refine Kd.N_append (Kd.slice 49 k49) (w0 := w) w.heap.size rfl (.tmp 18) (.tmp 25) 44 37 (.slice none 0 0) 24 rfl Try.underlying44 info37 rfl (by decide) (by omega) u5 x5_1 t139 [.slice Ao15 t139.length co15] (fun k_ => (P0_ k_ ∨ w.heap.size ≤ k_)) (fun k_ => ((fun k_ => (P0_ k_ ∨ w.heap.size ≤ k_))) k_ ∧ some k_ ≠ (u5 : Value).ownBlock) rfl rfl ?aP (fun _ hk => hk) ?aF ?aO ?aB ?aS ?aL ?_; (case aP => exact (Kd.FK_slice_mk (Kd.N_reads' (Kd.N_mono (ok' := (fun k_ => ((fun k_ => (P0_ k_ ∨ w.heap.size ≤ k_))) k_ ∧ some k_ ≠ (u5 : Value).ownBlock)) (HO141.out) (fun k_ hk => ⟨hk.1, hk.2⟩))).2.1 (Kd.N_F (Kd.N_mono (ok' := (fun k_ => ((fun k_ => (P0_ k_ ∨ w.heap.size ≤ k_))) k_ ∧ some k_ ≠ (u5 : Value).ownBlock)) (HO141.out) (fun k_ hk => ⟨hk.1, hk.2⟩))))); (case aB => exact (belN HB.out)); (case aF => exact (fun k_ hk => (.inr (Nat.le_trans (below_size (belN HB.out)) hk)))); (case aO => exact (by (with_reducible repeat (first | apply Kd.N_alloc | apply Kd.N_drewN | apply Kd.N_drew)); exact Kd.N_mono HO_5.out (fun _ hk => hk.1.1))); (case aS => exact (below_size (belN HB.out))); (case aL => have := LMc10.out; omega); intro v143 w14 ho hb hg hat; rw [← Ny142.out] at ho; have n0_ := Aside0.mk (Kd.V_afterv (ok := (fun k_ => (P0_ k_ ∨ w.heap.size ≤ k_) ∧ some k_ ≠ (.slice Ao12 t136.length co12 : Value).ownBlock ∧ some k_ ≠ (.slice Ao15 t139.length co15 : Value).ownBlock)) (by (with_reducible repeat (first | apply Kd.V_alloc | apply Kd.V_drewN | apply Kd.V_drew)); exact Kd.V_mono HO_0.out (fun _ hk => ⟨⟨hk.1.1.1, ⟨hk.1.2, hk.2⟩⟩, hk.1.1.2⟩)) hg hat); have n1_ := Aside0.mk (Kd.V_afterv (ok := (fun k_ => (P0_ k_ ∨ w.heap.size ≤ k_) ∧ some k_ ≠ (.slice Ao12 t136.length co12 : Value).ownBlock ∧ some k_ ≠ (.slice Ao15 t139.length co15 : Value).ownBlock)) (by (with_reducible repeat (first | apply Kd.V_alloc | apply Kd.V_drewN | apply Kd.V_drew)); exact Kd.V_mono HL135_0.out (fun _ hk => ⟨⟨hk.1.1.1, ⟨hk.1.2, hk.2⟩⟩, hk.1.1.2⟩)) hg hat); have n2_ := Aside0.mk (Kd.N_afterv (ok := (fun k_ => (P0_ k_ ∨ w.heap.size ≤ k_) ∧ some k_ ≠ (.slice Ao15 t139.length co15 : Value).ownBlock)) (by (with_reducible repeat (first | apply Kd.N_alloc | apply Kd.N_drewN | apply Kd.N_drew)); exact Kd.N_mono HO138.out (fun _ hk => ⟨⟨hk.1.1, hk.2⟩, hk.1.2⟩)) hg hat); have n3_ := Aside0.mk (hb); have n4_ := Aside0.mk (ho); clear HO_0; clear HL135_0; clear HO138; clear HB; clear HO_5; clear HO141; have HO_0 := n0_; have HL135_0 := n1_; have HO138 := n2_; have HB := n3_; have HO144 := n4_; clear n0_ n1_ n2_ n3_ n4_; clear ho hb hg hat))
         go_roundg kj2
         case measure => have := HK1.out; have := HJ2.out; omega
         case rel => exact ⟨(y142), (wrap64 (x6_1 + 1)), (by first | rfl | (simp; done) | (simp [*]; done)), H', ⟨by have := HK1.out; have := HJ2.out; omega⟩, ⟨by (with_reducible repeat (first | apply Kd.V_alloc | apply Kd.V_drewN | apply Kd.V_drew)); exact Kd.V_mono HO_0.out (fun _ hk => ⟨hk.1.1, hk.2⟩)⟩, ⟨by (with_reducible repeat (first | apply Kd.N_alloc | apply Kd.N_drewN | apply Kd.N_drew)); exact HO144.out⟩, ⟨(belN HB.out)⟩⟩
        ·rw [if_neg c10] at H
         exact absurd H (by simp)
       ·rw [if_neg c7] at H
        exact absurd H (by simp)
      ·rw [if_neg c6] at H
       exact absurd H (by simp)
     ·replace c5 := Bool.eq_false_iff.mpr c5
      subst c5
      have H1 : (some x5_1) = some r := by rw [if_neg (show ¬ (false = true) by decide)] at H; exact H
      clear H
      have H := H1
      clear H1
      obtain rfl := Option.some.inj H
      go_wp2
      go_ret
      exact ⟨_, by first | rfl | (simp [errW_none, errW_some] <;> rfl) | (simp [*, errW_none, errW_some] <;> rfl), by (with_reducible repeat (first | apply Kd.N_alloc | apply Kd.N_drewN | apply Kd.N_drew)); exact HO_5.out, (belN HB.out)⟩

-- NOT PRINTED: function 66 (bytealg_Compare)

/-! ### bytes_Compare: function 60 -/
theorem load_bytes_row {P : Program} {w : World} {A : Option Addr} {l : List Int} (h : Kd.C (Kd.int .u8) w A l.length l) (c : Nat) :
    (Extern.Bytes.bytesOf (.slice A l.length c)).run P w = .ok ⟨(Lib.bytesOf l).toArray⟩ w := by
  have hl := h.2.2
  cases A with
  | none =>
    have hz : l = [] := by
      cases l with
      | nil => rfl
      | cons x xs =>
        obtain ⟨ad, he, _⟩ := hl (by simp)
        cases he
    subst hz
    rfl
  | some ad =>
    have hc : ∀ j x, l[j]? = some x → w.cell? (ad.add j) = some (.int .u8 x) := by
      intro j x hj
      have hlt : j < l.length := (List.getElem?_eq_some_iff.1 hj).1
      obtain ⟨ad', he, hh⟩ := hl (by omega)
      injection he with he
      subst he
      obtain ⟨cs, _, hcs, hcell⟩ := hh j x hj
      have hcs' : cs = [Value.int .u8 x] := hcs
      subst hcs'
      have := hcell 0 (.int .u8 x) rfl
      simpa [Kd.int, Kd.scalar] using this
    have hr := Lib.run_loadBytesX (P := P) w l ad .empty hc
    have he : (⟨ByteArray.empty.data ++ (Lib.bytesOf l).toArray⟩ : ByteArray) = ⟨(Lib.bytesOf l).toArray⟩ := by
      apply ByteArray.ext
      show (#[] : Array UInt8) ++ (Lib.bytesOf l).toArray = (Lib.bytesOf l).toArray
      simp
    rw [he] at hr
    exact hr
theorem run_cmp_rows {P : Program} {w : World} {A0 A1 : Option Addr} {l0 l1 : List Int} (h0 : Kd.C (Kd.int .u8) w A0 l0.length l0) (h1 : Kd.C (Kd.int .u8) w A1 l1.length l1) (c0 c1 : Nat) :
    (Extern.BytealgCompare.compare #[.slice A0 l0.length c0, .slice A1 l1.length c1]).run P w = .ok (.int .i64 (Lib.compareBytes (Lib.bytesOf l0) (Lib.bytesOf l1))) w := by
  change Sem.run P (do pure (goInt (Extern.BytealgCompare.cmp (← Extern.Bytes.bytesOf (.slice A0 l0.length c0)) (← Extern.Bytes.bytesOf (.slice A1 l1.length c1))))) w = _
  simp only [Sem.run_bind, Sem.run_pure, load_bytes_row h0, load_bytes_row h1, Result.andThen]
  rw [Lib.cmp_eq]
  rfl
def bytes_Compare.f (l0 : List Int) (l1 : List Int) : Option (Int) := some (Lib.compareBytes (Lib.bytesOf l0) (Lib.bytesOf l1))
set_option maxHeartbeats 8000000 in
set_option maxRecDepth 100000 in
theorem bytes_Compare.calls (A0 : Option Addr) (c0 : Nat) (l0 : List Int) (A1 : Option Addr) (c1 : Nat) (l1 : List Int) (r : Int) (w : World) (hr0 : Kd.C (Kd.int .u8) w A0 l0.length l0) (hc0 : l0.length ≤ c0) (hr1 : Kd.C (Kd.int .u8) w A1 l1.length l1) (hc1 : l1.length ≤ c1) (h : bytes_Compare.f l0 l1 = some r) :
    Calls Try.prog 60 #[.slice A0 l0.length c0, .slice A1 l1.length c1] w fun e w' => e = .returned (.int .i64 r) ∧ Drawn0 w w' := by
  have hk : (callFunc 66 #[.slice A0 l0.length c0, .slice A1 l1.length c1]).run Try.prog w = .ok (.value (.int .i64 (Lib.compareBytes (Lib.bytesOf l0) (Lib.bytesOf l1)))) w := by
    rw [run_callFunc_extern Try.func66 (by kernel_rfl) (by kernel_rfl) (by kernel_rfl) (e := Extern.BytealgCompare.compare) (by kernel_rfl), run_cmp_rows hr0 hr1]
    rfl
  obtain rfl := Option.some.inj h
  clear h hr0 hr1 hc0 hc1
  generalize Lib.compareBytes (Lib.bytesOf l0) (Lib.bytesOf l1) = z at hk ⊢
  go_enter Try.func60, Try.ntmps60
  go_wp2
  go_ret
  exact ⟨rfl, Drawn0.refl _⟩

/-! ### octet_Less: function 54 -/
def octet_Less.f (l0 : List Int) (l1 : List Int) : Option (Bool) := (bytes_Compare.f l0 l1).bind fun t145 => (some (decide (t145 < 0)))
set_option maxHeartbeats 8000000 in
set_option maxRecDepth 100000 in
theorem octet_Less.calls (A0 : Option Addr) (c0 : Nat) (l0 : List Int) (A1 : Option Addr) (c1 : Nat) (l1 : List Int) (r : Bool) (w : World) (hr0 : Kd.C (Kd.int .u8) w A0 l0.length l0) (hc0 : l0.length ≤ c0) (hr1 : Kd.C (Kd.int .u8) w A1 l1.length l1) (hc1 : l1.length ≤ c1) (h : octet_Less.f l0 l1 = some r) :
    Calls Try.prog 54 #[.slice A0 l0.length c0, .slice A1 l1.length c1] w fun e w' => e = .returned (.bool r) ∧ Drawn0 w w' := by
  have HR0 := Aside0.mk hr0
  have HC0 := Aside0.mk hc0
  clear hr0 hc0
  have HR1 := Aside0.mk hr1
  have HC1 := Aside0.mk hc1
  clear hr1 hc1
  have H : ((bytes_Compare.f l0 l1).bind fun t145 => (some (decide (t145 < 0)))) = some r := h
  clear h
  replace H := Option.bind_eq_some_iff.mp H
  obtain ⟨t145, A30, H⟩ := H
  replace H : (some (decide (t145 < 0))) = some r := H
  have A3 := Aside0.mk A30
  clear A30
  obtain rfl := Option.some.inj H
  go_enter Try.func54, Try.ntmps54
  go_wp2_with (first | ((with_reducible refine gate_callee (f := 60) rfl ?_); refine goesL_ (some 7) rfl rfl Try.func60 (by kernel_rfl) rfl #[.slice A0 l0.length c0, .slice A1 l1.length c1] rfl (by (try simp only [List.map_toArray, List.map_cons, List.map_nil]); first | done | rfl | (simp only [List.length_drop, List.length_take]; rfl)) ?_; (with_reducible refine (bytes_Compare.calls _ _ l0 _ _ l1 t145 _ ?side1 ?side2 ?side3 ?side4 A3.out).mono ?_); (case side1 => repeat (first | exact HR0.out | (with_reducible refine Kd.C_alloc ?_ _) | (with_reducible refine Kd.C_drewN ?_ _) | (with_reducible refine Kd.C_drew ?_))); (case side2 => exact HC0.out); (case side3 => repeat (first | exact HR1.out | (with_reducible refine Kd.C_alloc ?_ _) | (with_reducible refine Kd.C_drewN ?_ _) | (with_reducible refine Kd.C_drew ?_))); (case side4 => exact HC1.out); rintro e w' ⟨rfl, ⟨nd, rfl⟩⟩; refine ⟨_, rfl, ?_⟩))
  go_ret
  exact ⟨by first | rfl | (simp; done) | (simp [*]; done), by repeat (first | exact Drawn0.refl _ | apply Drawn0.step)⟩

-- NOT PRINTED: function 49 (merge_first)

/-! ### slices_Clone_byte_byte: function 45 -/
def slices_Clone_byte_byte.f (l0 : List Int) : Option (List Int) := if l0.length < 140737488355328 then (some l0) else (none)
set_option maxHeartbeats 8000000 in
set_option maxRecDepth 100000 in
theorem slices_Clone_byte_byte.calls (A0 : Option Addr) (c0 : Nat) (l0 : List Int) (r : List Int) (w : World) (hr0 : Kd.C (Kd.int .u8) w A0 l0.length l0) (hc0 : l0.length ≤ c0) (h : slices_Clone_byte_byte.f l0 = some r) :
    Calls Try.prog 45 #[.slice A0 l0.length c0] w fun e w' => ∃ v0_ : Value, e = .returned (v0_) ∧ Kd.R (Kd.int .u8) 5 w' w.heap.size (fun _ => True) v0_ r ∧ Below w.heap.size w w' := by
  have H : (if l0.length < 140737488355328 then (some l0) else (none)) = some r := h
  clear h
  by_cases c1 : l0.length < 140737488355328
  · rw [if_pos c1] at H
    have LMc1 := Aside0.mk c1
    clear c1
    obtain rfl := Option.some.inj H
    have qT : ∀ (w : World) (a : Option Addr) (n c n' c' : Nat), (binOp .eql 23 (.slice a n c) (.slice none n' c')).run Try.prog w = .ok (.bool a.isNone) w := fun w a n c n' c' => Lib.run_eql_slice_nil w _ _ a n c n' c' Try.underlying23
    have HB := Aside0.mk (Below.refl w.heap.size w)
    cases A0 with
    | none =>
      have hz : l0 = [] := by
        cases l0 with
        | nil => rfl
        | cons x xs =>
          obtain ⟨ad, he, _⟩ := hr0.2.2 (by simp)
          cases he
      subst hz
      clear hr0 hc0
      go_enter Try.func45, Try.ntmps45
      go_wp2
      go_ret
      exact ⟨_, rfl, Kd.R_nil _ _ _ _ _, HB.out⟩
    | some ad0 =>
      have HR0 := Aside0.mk hr0
      clear hr0 hc0
      obtain ⟨y112, hy112⟩ : ∃ y_ : List Int, y_ = (([] : List Int)) := ⟨_, rfl⟩
      have Ny112 := Aside0.mk hy112
      clear hy112
      obtain ⟨y115, hy115⟩ : ∃ y_ : List Int, y_ = (y112 ++ l0) := ⟨_, rfl⟩
      have Ny115 := Aside0.mk hy115
      clear hy115
      go_enter Try.func45, Try.ntmps45
      go_wp2_with (first | ((with_reducible refine gate_dst (N := 5) rfl ?_); refine Kd.R_lit (Kd.int .u8) _ 5 ?hg (N := 5) ?hd (xs := ([] : List Int)) (inner := []) (ok := fun _ => True) (okp := fun _ => True) ?hr ?hp (fun _ hk => hk) trivial (Below.refl _ _) (Nat.le_refl _) (by simp) ?_; (case hd => rfl); (case hg => rfl); (case hr => first | (go_simp; done) | (go_simp; rfl)); (case hp => exact (Reps.none _ _)); intro v113 w7 ho8 hb hg_ hnew_; clear hg_ hnew_; (first | rw [← Ny112.out] at ho8 | (simp only [Int.reduceToNat] at ho8; rw [← Ny112.out] at ho8)); have n0_ := Aside0.mk (Kd.R_lower ho8 (below_size (by repeat (first | (with_reducible first | exact HB.out | apply below_alloc | apply pw_below_drewN | apply below_drew1) | exact HB.out)))); have n1_ := Aside0.mk (below_step (by repeat (first | (with_reducible first | exact HB.out | apply below_alloc | apply pw_below_drewN | apply below_drew1) | exact HB.out)) hb); clear HB; have HO114 := n0_; have HB := n1_; clear n0_ n1_; clear hb ho8) | ((with_reducible refine gate_builtin (b := .append) (xs := #[.tmp 5, .tmp 6]) rfl ?_); at_builtin; refine Kd.R_append_rows (Kd.int .u8) (w0 := w) w.heap.size rfl (.tmp 5) (.tmp 6) 23 5 (.int .u8 0) 1 rfl Try.underlying23 info5 rfl (by decide) (by omega) v113 y112 l0 _ _ _ (fun _ => True) (fun _ => False) rfl rfl ?aO ?aR (fun _ _ h => h) (fun _ h => h.elim) ?aF ?aB ?aS ?aL ?_; (case aR => repeat (first | exact (Kd.C_below HR0.out HB.out) | (with_reducible refine Kd.C_alloc ?_ _) | (with_reducible refine Kd.C_drewN ?_ _) | (with_reducible refine Kd.C_drew ?_))); (case aB => exact (by repeat (first | (with_reducible first | exact HB.out | apply below_alloc | apply pw_below_drewN | apply below_drew1) | exact HB.out))); (case aF => exact (fun _ _ => trivial)); (case aO => exact (by (with_reducible repeat (first | apply Kd.R_alloc | apply Kd.R_drewN | apply Kd.R_drew)); exact HO114.out)); (case aS => exact (below_size (by repeat (first | (with_reducible first | exact HB.out | apply below_alloc | apply pw_below_drewN | apply below_drew1) | exact HB.out)))); (case aL => have := LMc1.out; have := Ny112.out; subst this; simp only [List.length_nil]; omega); intro v116 w9 ho hb hg hat; rw [← Ny115.out] at ho; have n0_ := Aside0.mk (hb); have n1_ := Aside0.mk (ho); clear HB; clear HO114; have HB := n0_; have HO117 := n1_; clear n0_ n1_; clear ho hb hg hat))
      go_ret
      exact ⟨_, rfl, by rw [show l0 = y115 from by rw [Ny115.out, Ny112.out]; rfl]; exact HO117.out, HB.out⟩
  · rw [if_neg c1] at H
    exact absurd H (by simp)

end Go.Proofs.Ytmimfnangdabmaa.PMergeJoins

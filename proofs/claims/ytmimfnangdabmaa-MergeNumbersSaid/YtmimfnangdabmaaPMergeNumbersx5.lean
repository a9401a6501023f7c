/- The walk of the Go functions that a law reaches, told as plain functions; a program of this session has written it. No condition beyond the statement's own. -/
import Derived.Test.YtmimfnangdabmaaPMergeNumbersx0
import Derived.Test.YtmimfnangdabmaaPMergeNumbersx1
namespace Go.Proofs.Ytmimfnangdabmaa.PMergeNumbers
open Go.RowKit Go.Proofs.YtmimfnangdabmaaW.PrintWords Go.Proofs.YtmimfnangdabmaaW.PrintLast Go.Proofs.YtmimfnangdabmaaW.PrintMore
attribute [local go_sem] max2_int min2_int max_two min_two max_three min_three max_four min_four   -- for this text's walks alone
set_option linter.unusedVariables false
set_option linter.unusedSimpArgs false

/-! ### marigraphref8_Put: function 53, by hand -/
/-- How many stand ahead. -/
def putFrom : List S49 → S49 → Nat
  | [], _ => 0
  | y :: r, x => if Op.bytesLess (strOfNums y.f0).toList (strOfNums x.f0).toList = true then putFrom r x + 1 else 0
def putI (out : List S49) (x : S49) : List S49 :=
  if putFrom out x < out.length ∧ (strOfNums (rd_T49 out (putFrom out x : Nat)).f0).toList = (strOfNums x.f0).toList then out.set (putFrom out x) x else (out.take (putFrom out x) ++ [x]) ++ out.drop (putFrom out x)
theorem putFrom_le : ∀ (l : List S49) (x : S49), putFrom l x ≤ l.length
  | [], _ => Nat.le_refl _
  | y :: r, x => by
    unfold putFrom
    have := putFrom_le r x
    split
    · rw [List.length_cons]; omega
    · exact Nat.zero_le _
theorem putI_len (out : List S49) (x : S49) : (putI out x).length ≤ out.length + 1 := by
  unfold putI
  split
  · rw [List.length_set]; omega
  · have := putFrom_le out x
    rw [List.length_append, List.length_append, List.length_take, List.length_drop, List.length_singleton]
    omega
theorem putFrom_step {out : List S49} {x : S49} {j : Nat} (hj : j < out.length) : putFrom (out.drop j) x = if Op.bytesLess (strOfNums (rd_T49 out (j : Int)).f0).toList (strOfNums x.f0).toList = true then putFrom (out.drop (j + 1)) x + 1 else 0 := by
  have e : rd_T49 out (j : Int) = out[j] := by
    unfold rd_T49
    rw [Int.toNat_natCast, List.getD_eq_getElem?_getD, List.getElem?_eq_getElem hj]
    rfl
  rw [e, List.drop_eq_getElem_cons hj]
  rfl
theorem put3 {a b c d e f : _} {g : Bool} : ∀ q ∈ [Value.slice a b c, Value.slice d e f, Value.bool g], q.oneCell' = true := by
  intro q hq
  simp only [List.mem_cons, List.not_mem_nil, or_false] at hq
  rcases hq with rfl | rfl | rfl <;> rfl
/-- The entry as it is kept: no value where it is gone. -/
def putE (x : S49) : S49 := ⟨x.f0, if x.f2 = true then [] else x.f1, x.f2⟩
def marigraphref8_Put.f (l0 l1 : List S49) : Option (List S49) := if l0.length + l1.length < 1000000 ∧ l1.all (fun x => decide (x.f0.length < 140737488355328 ∧ x.f1.length < 140737488355328)) = true then some (l1.foldl (fun a x => putI a (putE x)) l0) else none
set_option maxHeartbeats 8000000 in
set_option maxRecDepth 100000 in
theorem marigraphref8_Put.calls (P0_ : Nat → Prop) (A0 : Option Addr) (c0 : Nat) (l0 : List S49) (A1 : Option Addr) (c1 : Nat) (l1 : List S49) (r : List S49) (w : World) (hs0 : Kd.V k49 49 w w.heap.size (fun k_ => P0_ k_) (.slice A0 l0.length c0) l0) (hr1 : Kd.C k49 w A1 l1.length l1) (hc1 : l1.length ≤ c1) (h : marigraphref8_Put.f l0 l1 = some r) :
    Calls Try.prog 53 #[.slice A0 l0.length c0, .slice A1 l1.length c1] w fun e w' => ∃ v0_ : Value, e = .returned (v0_) ∧ Kd.N k49 49 w' w.heap.size (fun k_ => (P0_ k_ ∨ w.heap.size ≤ k_)) v0_ r ∧ Below w.heap.size w w' := by
  unfold marigraphref8_Put.f at h
  by_cases hlim : l0.length + l1.length < 1000000 ∧ l1.all (fun x => decide (x.f0.length < 140737488355328 ∧ x.f1.length < 140737488355328)) = true
  rotate_left
  · rw [if_neg hlim] at h; cases h
  rw [if_pos hlim] at h
  obtain rfl := Option.some.inj h
  clear h
  obtain ⟨hlim, hall⟩ := hlim
  have hu49 := Try.underlying49
  go_enter Try.func53, Try.ntmps53
  go_wp2_with (first | ((with_reducible refine gate_dst (N := 9) rfl ?_); refine Kd.N_lit k49 _ 49 ?hg (N' := 9) ?hd (xs := ([] : List S49)) (inner := []) (ok := (fun k_ => (P0_ k_ ∨ w.heap.size ≤ k_))) (okp := fun _ => False) ?hr ?hp (fun _ hk => hk.elim) (.inr (Nat.le_refl _)) (Below.refl _ _) (Nat.le_refl _) (by simp) ?_; (case hd => rfl); (case hg => rfl); (case hr => first | (go_simp; done) | (go_simp; rfl)); (case hp => exact (Reps.none _ _)); intro vL wL hoL hbL _ _; have hF0 := Kd.F_bound (Kd.V_F (Kd.V_elder' (Kd.V_bound hs0) (Kd.N_base hoL) hbL))) | ((with_reducible refine gate_builtin (b := .append) (xs := #[.tmp 9, .tmp 10]) rfl ?_); at_builtin; refine Kd.N_append_rows k49 (w0 := w) w.heap.size rfl (.tmp 9) (.tmp 10) 37 49 (.agg #[(.slice none 0 0), (.slice none 0 0), (.bool false)]) 56 rfl Try.underlying37 info49 rfl (by decide) (by omega) vL ([] : List S49) l0 _ _ _ (fun k_ => (P0_ k_ ∨ w.heap.size ≤ k_)) (fun k_ => (P0_ k_ ∨ w.heap.size ≤ k_) ∧ some k_ ≠ (vL : Value).ownBlock) rfl rfl hoL ?aR (fun _ hk => hk) ?aF hbL hbL.size ?aL ?_; (case aR => exact Kd.F_mono hF0 (fun k hk => ⟨.inl hk.1.1.1, hk.1.2⟩)); (case aF => exact fun k hk => .inr (Nat.le_trans hbL.size hk)); (case aL => simp only [List.length_nil]; omega); intro v5 wA hoA hbA _ _; rw [List.nil_append] at hoA))
  go_loopg [5, 6] (l1.length + 1) (fun kq v5 v6 w' => ∃ (x4 : Int) (acc : List S49), v6 = .int .i64 x4 ∧ Aside0 (0 ≤ x4 ∧ x4 ≤ (l1.length : Int) ∧ l1.length + 1 ≤ kq + x4.toNat ∧ acc.length ≤ l0.length + x4.toNat) ∧ Aside0 ((l1.drop x4.toNat).foldl (fun a x => putI a (putE x)) acc = l1.foldl (fun a x => putI a (putE x)) l0) ∧ Aside0 (Kd.N k49 49 w' w.heap.size (fun k_ => (P0_ k_ ∨ w.heap.size ≤ k_)) v5 acc) ∧ Aside0 (Below w.heap.size w w'))
  case atStart => exact ⟨0, l0, rfl, ⟨by omega, by omega, by omega, Nat.le_refl _⟩, ⟨rfl⟩, ⟨hoA⟩, ⟨hbA⟩⟩
  case round =>
    clear hoA hbA hoL hbL hF0
    obtain ⟨x4, acc, rfl, hlt, hr, HO, HB⟩ := hrel
    obtain ⟨Ao, co, eo⟩ := Kd.N_slice HO.out
    subst eo
    by_cases hx : x4 < (l1.length : Int)
    rotate_left
    · have hd : decide (x4 < (l1.length : Int)) = false := decide_eq_false hx
      have hr' := hr.out
      rw [List.drop_of_length_le (by have := hlt.out; omega)] at hr'
      go_wp2
      go_ret
      exact ⟨_, rfl, by rw [← hr']; exact HO.out, HB.out⟩
    have hd : decide (x4 < (l1.length : Int)) = true := decide_eq_true hx
    have hr' := hr.out
    clear hr
    rw [List.drop_eq_getElem_cons (show x4.toNat < l1.length by have := hlt.out; omega), List.foldl_cons] at hr'
    have hxe : l1[x4.toNat]'(by have := hlt.out; omega) = rd_T49 l1 x4 := by
      unfold rd_T49
      rw [List.getD_eq_getElem?_getD, List.getElem?_eq_getElem (show x4.toNat < l1.length by have := hlt.out; omega)]
      rfl
    rw [hxe] at hr'
    have hsm := List.all_eq_true.1 hall _ (List.getElem_mem (show x4.toNat < l1.length by have := hlt.out; omega))
    rw [hxe] at hsm
    have hsm := of_decide_eq_true hsm
    clear hxe
    replace hr := Aside0.mk hr'
    clear hr'
    obtain ⟨adE, E0, e0, E1, e1, eE, hE0, hE1, hE2, el0, ei0, el1, ei1⟩ := at_T49 hr1 x4 hlt.out.1 hx
    subst eE
    have p4 : (0 ≤ x4) = True := eq_true hlt.out.1
    have q4 : (x4 < (l1.length : Int)) = True := eq_true hx
    generalize hy : rd_T49 l1 x4 = y at *
    obtain ⟨xe, hx0⟩ : ∃ z, z = putE y := ⟨_, rfl⟩
    rw [← hx0] at hr
    replace hx0 := Aside0.mk hx0
    obtain ⟨W1, hW1⟩ : ∃ W, W = wr.drew := ⟨_, rfl⟩
    have HB1 : Below w.heap.size w W1 := by rw [hW1]; exact below_drew1 HB.out
    have HO1 : Kd.N k49 49 W1 w.heap.size (fun k_ => (P0_ k_ ∨ w.heap.size ≤ k_)) (.slice Ao acc.length co) acc := by rw [hW1]; exact Kd.N_drew HO.out
    have hd0 : ∀ w', Below W1.heap.size W1 w' → w'.cell? (adE.add (x4.toNat * 3)) = some (.slice E0 y.f0.length e0) := fun w' hb => cellB (below_step HB1 hb) hE0
    have hd1 : ∀ w', Below W1.heap.size W1 w' → w'.cell? ⟨(adE.add (x4.toNat * 3)).block, (adE.add (x4.toNat * 3)).off + 1, none⟩ = some (.slice E1 y.f1.length e1) := fun w' hb => cellB (below_step HB1 hb) hE1
    have hd2 : ∀ w', Below W1.heap.size W1 w' → w'.cell? ⟨(adE.add (x4.toNat * 3)).block, (adE.add (x4.toNat * 3)).off + 2, none⟩ = some (.bool y.f2) := fun w' hb => cellB (below_step HB1 hb) hE2
    clear hE0 hE1 hE2
    go_upto_region 5 with (fail)
    refine start_ (n := 15) (S := fun w' => Below W1.heap.size W1 w') (ds := []) (bA 15 0) (by kernel_rfl) rfl rfl (by rw [← hW1]; exact Below.refl _ _) (fun hHeld => ?_)
    rw [← hW1] at hHeld ⊢
    clear HO HB hW1
    refine norm_ (by rfl) ?_
    refine pK 1 (some 19) (bA 15 2) ?_
    refine pK 2 (some 20) (bA 15 6) ?_
    refine pK 3 (some 21) (bA 15 14) ?_
    refine pK 4 (some 22) (bA 15 30) ?_
    refine tK 5 (some 23) (bA 15 62) rfl rfl hHeld (by intro w' hb_; have s0 := hd0 w' hb_; go_simp; with_reducible rfl) ?_
    refine pK 7 (some 25) (bA 15 190) ?_
    refine pK 8 (some 26) (bA 15 446) ?_
    refine pK 9 (some 27) (bA 15 958) ?_
    refine pK 10 (some 28) (bA 15 1982) ?_
    refine tK 11 (some 29) (bA 15 4030) rfl rfl hHeld (by intro w' hb_; have s0 := hd2 w' hb_; go_simp; with_reducible rfl) ?_
    refine join_ (σ := Value × Value × Nat) 1 (bA 15 16383) (fun s_ => [(18, s_.1), (24, s_.2.1), (7, .pointer (some ⟨s_.2.2, 0, none⟩)), (30, .agg #[s_.2.1, .slice none 0 0, .bool y.f2])]) (fun s_ w' => Kd.R (Kd.int .u8) 5 w' W1.heap.size (fun _ => True) s_.2.1 y.f0 ∧ w'.heap[s_.2.2]? = some (.cells #[.slice none 0 0, .slice none 0 0, .bool false] 49 (0, 0)) ∧ W1.heap.size ≤ s_.2.2 ∧ Below W1.heap.size W1 w') ?_ ?_
    rotate_left
    · intro hCont
      refine two_ (i := 0) (j := 13) (Ni := some 18) (Nj := some 7) (bA 15 4031) (bA 15 12222) rfl rfl rfl rfl (by kernel_rfl) (by decide) (by decide) (fun K hK => ?_) (fun K hK => ?_)
      · refine Kd.R_lit_step (Kd.int .u8) (w0 := W1) W1.heap.size 5 (by rfl) (N := 18) rfl (xs := ([] : List Int)) (inner := []) (ok := fun _ => True) (okp := fun _ => True) ?hr ?hp (fun _ hk => hk) trivial (Below.refl W1.heap.size W1) (Below.refl W1.heap.size W1).size (by simp) ?_
        case hr => first | (go_simp; done) | (go_simp; rfl)
        case hp => exact Reps.none _ _
        intro vL wL hoL hbL hgL _
        refine hK.out _ _ hbL (fun _ => ?_)
        clear hK K
        refine nK (some 18) ?_
        refine two_ (i := 6) (j := 13) (Ni := some 24) (Nj := some 7) (bA 15 4095) (bA 15 12223) rfl rfl rfl rfl (by kernel_rfl) (by decide) (by decide) (fun K hK => ?_) (fun K hK => ?_)
        · refine Kd.R_append_rows_step (Kd.int .u8) (w0 := W1) W1.heap.size (by rfl) (.tmp 18) (.tmp 23) 23 5 (.int .u8 0) 1 rfl Try.underlying23 info5 rfl (by decide) (by omega) vL ([] : List Int) y.f0 E0 y.f0.length e0 (fun _ => True) (fun _ => False) rfl rfl hoL (Kd.C_below ei0 (below_step HB1 hbL)) (fun _ _ h => h) (fun _ h => h.elim) (fun _ _ => trivial) hbL (hbL).size (by have := hsm.1; simp only [List.length_nil]; omega) ?_
          intro vA wA hoA hbA hgA _
          rw [List.nil_append] at hoA
          obtain ⟨A2_0, c2_0, eA⟩ := Kd.R_slice hoA
          subst eA
          refine hK.out _ _ hbA (fun _ => ?_)
          clear hK K
          refine nK (some 24) ?_
          refine pK 12 (some 30) (bA 15 8191) ?_
          refine one_ (i := 13) (N := some 7) (bA 15 16383) rfl rfl (by kernel_rfl) (by decide) (fun K hK => ?_)
          refine box_step ?hg (N := 7) ?hd (cs := #[.slice none 0 0, .slice none 0 0, .bool false]) (t := 49) ?hr ?_
          case hd => rfl
          case hg => rfl
          case hr => first | (go_simp; done) | (go_simp; rfl)
          intro g7 hg7 wX hbx hbN
          have hbX := below_step (hbA) hbN
          refine hK.out _ _ hbX (fun _ => ?_)
          clear hK K
          refine nK (some 7) ?_
          exact norm_ (by simp only [putAll, Act.put, List.setIfInBounds_toArray, List.set_cons_zero, List.set_cons_succ]) (hCont (vL, .slice A2_0 y.f0.length c2_0, g7) _ ⟨Kd.R_below hoA hbN, hbx, Nat.le_trans hbA.size (Nat.le_of_eq hg7.symm), hbX⟩)
        · refine box_step ?hg (N := 7) ?hd (cs := #[.slice none 0 0, .slice none 0 0, .bool false]) (t := 49) ?hr ?_
          case hd => rfl
          case hg => rfl
          case hr => first | (go_simp; done) | (go_simp; rfl)
          intro g7 hg7 wX hbx hbN
          have hbX := below_step (hbL) hbN
          refine hK.out _ _ hbX (fun _ => ?_)
          clear hK K
          refine nK (some 7) ?_
          refine one_ (i := 6) (N := some 24) (bA 15 12287) rfl rfl (by kernel_rfl) (by decide) (fun K hK => ?_)
          have hoL := Kd.R_below hoL hbN
          refine Kd.R_append_rows_step (Kd.int .u8) (w0 := W1) W1.heap.size (by rfl) (.tmp 18) (.tmp 23) 23 5 (.int .u8 0) 1 rfl Try.underlying23 info5 rfl (by decide) (by omega) vL ([] : List Int) y.f0 E0 y.f0.length e0 (fun _ => True) (fun _ => False) rfl rfl hoL (Kd.C_below ei0 (below_step HB1 hbX)) (fun _ _ h => h) (fun _ h => h.elim) (fun _ _ => trivial) hbX (hbX).size (by have := hsm.1; simp only [List.length_nil]; omega) ?_
          intro vA wA hoA hbA hgA _
          rw [List.nil_append] at hoA
          obtain ⟨A2_0, c2_0, eA⟩ := Kd.R_slice hoA
          subst eA
          refine hK.out _ _ hbA (fun _ => ?_)
          clear hK K
          refine nK (some 24) ?_
          refine pK 12 (some 30) (bA 15 16383) ?_
          exact norm_ (by simp only [putAll, Act.put, List.setIfInBounds_toArray, List.set_cons_zero, List.set_cons_succ]) (hCont (vL, .slice A2_0 y.f0.length c2_0, g7) _ ⟨hoA, blk_grown hbx hgA (Kd.R_ne hoL hbx (by decide)), Nat.le_trans hbL.size (Nat.le_of_eq hg7.symm), hbA⟩)
      · refine box_step ?hg (N := 7) ?hd (cs := #[.slice none 0 0, .slice none 0 0, .bool false]) (t := 49) ?hr ?_
        case hd => rfl
        case hg => rfl
        case hr => first | (go_simp; done) | (go_simp; rfl)
        intro g7 hg7 wX hbx hbN
        have hbX := below_step (Below.refl W1.heap.size W1) hbN
        refine hK.out _ _ hbX (fun _ => ?_)
        clear hK K
        refine nK (some 7) ?_
        refine one_ (i := 0) (N := some 18) (bA 15 12223) rfl rfl (by kernel_rfl) (by decide) (fun K hK => ?_)
        refine Kd.R_lit_step (Kd.int .u8) (w0 := W1) W1.heap.size 5 (by rfl) (N := 18) rfl (xs := ([] : List Int)) (inner := []) (ok := fun _ => True) (okp := fun _ => True) ?hr ?hp (fun _ hk => hk) trivial (hbX) (hbX).size (by simp) ?_
        case hr => first | (go_simp; done) | (go_simp; rfl)
        case hp => exact Reps.none _ _
        intro vL wL hoL hbL hgL _
        refine hK.out _ _ hbL (fun _ => ?_)
        clear hK K
        refine nK (some 18) ?_
        refine one_ (i := 6) (N := some 24) (bA 15 12287) rfl rfl (by kernel_rfl) (by decide) (fun K hK => ?_)
        refine Kd.R_append_rows_step (Kd.int .u8) (w0 := W1) W1.heap.size (by rfl) (.tmp 18) (.tmp 23) 23 5 (.int .u8 0) 1 rfl Try.underlying23 info5 rfl (by decide) (by omega) vL ([] : List Int) y.f0 E0 y.f0.length e0 (fun _ => True) (fun _ => False) rfl rfl hoL (Kd.C_below ei0 (below_step HB1 hbL)) (fun _ _ h => h) (fun _ h => h.elim) (fun _ _ => trivial) hbL (hbL).size (by have := hsm.1; simp only [List.length_nil]; omega) ?_
        intro vA wA hoA hbA hgA _
        rw [List.nil_append] at hoA
        obtain ⟨A2_0, c2_0, eA⟩ := Kd.R_slice hoA
        subst eA
        refine hK.out _ _ hbA (fun _ => ?_)
        clear hK K
        refine nK (some 24) ?_
        refine pK 12 (some 30) (bA 15 16383) ?_
        exact norm_ (by simp only [putAll, Act.put, List.setIfInBounds_toArray, List.set_cons_zero, List.set_cons_succ]) (hCont (vL, .slice A2_0 y.f0.length c2_0, g7) _ ⟨hoA, blk_grown (blk_grown hbx hgL (by simp)) hgA (Kd.R_ne hoL (blk_grown hbx hgL (by simp)) (by decide)), Nat.le_of_eq hg7.symm, hbA⟩)
    rintro ⟨vL, v24, g7⟩ w3 ⟨hoK, hbx, hg7, hb3⟩
    dsimp only at hoK hbx hg7
    obtain ⟨A2_0, c2_0, e24⟩ := Kd.R_slice hoK
    subst e24
    refine norm_ (a' := ?_) ?_ ?_
    rotate_left
    · simp only [putAll, Act.put, List.setIfInBounds_toArray, List.set_cons_zero, List.set_cons_succ]
      rfl
    refine one_ (i := 14) (N := none) (bA 15 32767) rfl rfl (by kernel_rfl) (by decide) (fun K hK => ?_)
    have z0 : w3.cell? ⟨g7, 0, none⟩ = some (.slice none 0 0) := (blk_cell hbx 0).trans rfl
    have z1 : w3.cell? ⟨g7, 1, none⟩ = some (.slice none 0 0) := (blk_cell hbx 1).trans rfl
    have z2 : w3.cell? ⟨g7, 2, none⟩ = some (.bool false) := (blk_cell hbx 2).trans rfl
    have f0 := blk_frozen hbx 0
    have f1 := blk_frozen hbx 1
    have f2 := blk_frozen hbx 2
    refine skip_ (w1 := ?_) (by rfl) rfl ?_ ?_
    rotate_left
    · go_simp
      rfl
    have hq1 := blk_put hbx 0 (.slice A2_0 y.f0.length c2_0) rfl
    have hq2 := blk_put hq1 1 (.slice none 0 0) rfl
    have hq3 := blk_put hq2 2 (.bool y.f2) rfl
    have hoK3 := Kd.R_set (Kd.R_set (Kd.R_set hoK hbx (by decide) 0 (.slice A2_0 y.f0.length c2_0)) hq1 (by decide) 1 (.slice none 0 0)) hq2 (by decide) 2 (.bool y.f2)
    have hb4 := below_set (j := 2) (v := .bool y.f2) (below_set (j := 1) (v := .slice none 0 0) (below_set (j := 0) (v := .slice A2_0 y.f0.length c2_0) hb3 hg7) hg7) hg7
    refine hK.out _ _ hb4 (fun _ => ?_)
    clear hK K
    refine done_ (by kernel_rfl) ?_
    generalize (((w3.setCell ⟨g7, 0, none⟩ (.slice A2_0 y.f0.length c2_0)).setCell ⟨g7, 1, none⟩ (.slice none 0 0)).setCell ⟨g7, 2, none⟩ (.bool y.f2)) = w4 at hq3 hoK3 hb4 ⊢
    clear hq1 hq2 hoK hbx hb3 z0 z1 z2 f0 f1 f2 hHeld
    have z0 : w4.cell? ⟨g7, 0, none⟩ = some (.slice A2_0 y.f0.length c2_0) := (blk_cell hq3 0).trans rfl
    have z1 : w4.cell? ⟨g7, 1, none⟩ = some (.slice none 0 0) := (blk_cell hq3 1).trans rfl
    have z2 : w4.cell? ⟨g7, 2, none⟩ = some (.bool y.f2) := (blk_cell hq3 2).trans rfl
    have f1 := blk_frozen hq3 1
    go_upto_if 33 with (fail)
    go_cut [] (fun wc => ∃ (A2_0 : Option Addr) (c2_0 : Nat) (A2_1 : Option Addr) (c2_1 : Nat), wc.heap[g7]? = some (.cells #[.slice A2_0 xe.f0.length c2_0, .slice A2_1 xe.f1.length c2_1, .bool xe.f2] 49 (0, 0)) ∧ xe.f0.length ≤ c2_0 ∧ Kd.F (Kd.int .u8) wc (fun k => W1.heap.size ≤ k) A2_0 xe.f0.length xe.f0 ∧ xe.f1.length ≤ c2_1 ∧ Kd.F (Kd.int .u8) wc (fun k => W1.heap.size ≤ k) A2_1 xe.f1.length xe.f1 ∧ Below W1.heap.size W1 wc)
    case first =>
      have hx00 := hx0.out
      clear hx0
      unfold putE at hx00
      cases hg2 : y.f2 with
      | true =>
        rw [hg2, if_pos rfl] at hx00
        rw [hg2] at hq3
        subst hx00
        go_wp2
        go_meet
        case rel => exact ⟨A2_0, c2_0, none, 0, hq3, (Kd.R_reads' hoK3).2.1, Kd.F_mono (Kd.R_F (Kd.R_mono (Kd.R_bound hoK3) (fun k hk => hk.2.1))) (fun _ hk => hk), Nat.le_refl _, Kd.F_nil _ _ _, hb4⟩
      | false =>
        rw [hg2, if_neg (fun e => Bool.noConfusion e)] at hx00
        rw [hg2] at hq3
        subst hx00
        have hd1' := hd1 w4 hb4
        go_wp2_with (first | ((with_reducible refine gate_dst (N := 34) rfl ?_); refine Kd.R_lit (Kd.int .u8) (w0 := W1) W1.heap.size 5 ?hg (N := 34) ?hd (xs := ([] : List Int)) (inner := []) (ok := fun _ => True) (okp := fun _ => True) ?hr ?hp (fun _ hk => hk) trivial hb4 hb4.size (by simp) ?_; (case hd => rfl); (case hg => rfl); (case hr => first | (go_simp; done) | (go_simp; rfl)); (case hp => exact Reps.none _ _); intro v34 w5 ho5 hb5 hg5 hn5; have hoK5 := Kd.R_grown (Kd.R_mono (ok' := fun k => k < w4.heap.size) (Kd.R_bound hoK3) (fun k hk => hk.2.2.1)) hg5 (fun k _ => by simp); have hq5 := blk_grown hq3 hg5 (by simp); have hd1'' := hd1 w5 hb5) | ((with_reducible refine gate_builtin (b := .append) (xs := #[.tmp 34, .tmp 39]) rfl ?_); at_builtin; refine Kd.R_append_rows (Kd.int .u8) (w0 := W1) W1.heap.size rfl (.tmp 34) (.tmp 39) 23 5 (.int .u8 0) 1 rfl Try.underlying23 info5 rfl (by decide) (by omega) v34 ([] : List Int) y.f1 E1 y.f1.length e1 (fun _ => True) (fun _ => False) rfl rfl ho5 (Kd.C_below ei1 (below_step HB1 hb5)) (fun _ _ h => h) (fun _ h => h.elim) (fun _ _ => trivial) hb5 hb5.size (by have := hsm.2; simp only [List.length_nil]; omega) ?_; intro v40 w6 ho6 hb6 hg6 _; rw [List.nil_append] at ho6; obtain ⟨A2_1, c2_1, e40⟩ := Kd.R_slice ho6; subst e40; have hoK6 := Kd.R_grown hoK5 hg6 (fun k hk e => by obtain ⟨b, e1, e2⟩ := hn5; rw [← e] at e1; injection e1 with e1; omega); have hq6 := blk_grown hq5 hg6 (Kd.R_ne ho5 hq5 (by decide)); have z1 : w6.cell? ⟨g7, 1, none⟩ = some (.slice none 0 0) := (blk_cell hq6 1).trans rfl; have f1 := blk_frozen hq6 1))
        go_meet
        case rel => exact ⟨A2_0, c2_0, A2_1, c2_1, blk_put hq6 1 _ rfl, (Kd.R_reads' hoK6).2.1, Kd.F_mono (Kd.R_F (Kd.R_set (Kd.R_mono (Kd.R_bound hoK6) (fun k hk => hk.2.1)) hq6 (by decide) 1 _)) (fun _ hk => hk), (Kd.R_reads' ho6).2.1, Kd.F_mono (Kd.R_F (Kd.R_set (Kd.R_mono (Kd.R_bound ho6) (fun k hk => hk.2.1)) hq6 (by decide) 1 _)) (fun _ hk => hk), below_set hb6 hg7⟩
    case rest =>
    obtain ⟨A2_0, c2_0, A2_1, c2_1, hbx, hl2_0, hg2_0, hl2_1, hg2_1, hbc⟩ := hcut
    have HO2 := Kd.N_below HO1 hbc
    have HB2 := below_step HB1 hbc
    have hgb : ∀ k, (Value.slice Ao acc.length co).ownBlock = some k → k < W1.heap.size := Kd.N_lt HO1
    have hwb : w.heap.size ≤ W1.heap.size := HB1.size
    have hbs := hbc.size
    clear hoK3 hb4 hq3 z0 z1 z2 f1 hd0 hd1 hd2 hbc HO1 HB1
    generalize W1.heap.size = wb at *
    generalize wc = wo at *
    have HO := Aside0.mk HO2
    have HB := Aside0.mk HB2
    clear HO2 HB2
    replace hg2_0 := Kd.F_mono (ok' := fun k => wb ≤ k ∧ k < wo.heap.size) (Kd.F_bound hg2_0) (fun _ hk => hk)
    replace hg2_1 := Kd.F_mono (ok' := fun k => wb ≤ k ∧ k < wo.heap.size) (Kd.F_bound hg2_1) (fun _ hk => hk)
    have hx2_0 : wo.cell? ⟨g7, 0, none⟩ = some (.slice A2_0 xe.f0.length c2_0) := (blk_cell hbx 0).trans rfl
    have hx2_1 : wo.cell? ⟨g7, 1, none⟩ = some (.slice A2_1 xe.f1.length c2_1) := (blk_cell hbx 1).trans rfl
    have hx2_2 : wo.cell? ⟨g7, 2, none⟩ = some (.bool xe.f2) := (blk_cell hbx 2).trans rfl
    have hK2 := Aside0.mk (k49_mkF _ _ _ hl2_0 hg2_0 hl2_1 hg2_1)
    go_upto_block 2 with (fail)
    go_cut [8] (fun v8 wc => v8 = .int .i64 ((putFrom acc xe : Nat) : Int) ∧ Drawn0 wo wc)
    case first =>
      go_wp2
      go_loopg [8] (acc.length + 1) (fun kq v8 w' => ∃ x5 : Int, v8 = .int .i64 x5 ∧ Aside0 (0 ≤ x5 ∧ x5 ≤ (acc.length : Int) ∧ acc.length + 1 ≤ kq + x5.toNat) ∧ Aside0 (putFrom acc xe = x5.toNat + putFrom (acc.drop x5.toNat) xe) ∧ Drawn0 wo w')
      case atStart => exact ⟨0, rfl, ⟨by omega, by omega, by omega⟩, ⟨by rw [Int.toNat_zero, List.drop_zero, Nat.zero_add]⟩, Drawn0.refl _⟩
      case round =>
        obtain ⟨x5, rfl, hx5, hk5, hdr⟩ := hrel
        obtain ⟨nd, rfl⟩ := hdr.out
        by_cases hx5k : x5 < (acc.length : Int)
        rotate_left
        · have hd5 : decide (x5 < (acc.length : Int)) = false := decide_eq_false hx5k
          go_wp2
          refine start_ (n := 16) (S := fun w' => True) (ds := []) (bA 16 0) (by kernel_rfl) rfl rfl trivial (fun hHeld => ?_)
          refine norm_ (by rfl) ?_
          refine pK 0 (some 42) (bA 16 1) ?_
          refine pK 1 (some 43) (bA 16 3) ?_
          refine pK 2 (some 44) (bA 16 7) ?_
          refine pK 3 (some 45) (bA 16 15) ?_
          refine pK 4 (some 46) (bA 16 31) ?_
          refine uK 5 (some 47) (bA 16 63) ?_
          refine uK 6 (some 48) (bA 16 127) ?_
          refine uK 7 (some 49) (bA 16 255) ?_
          refine uK 8 (some 50) (bA 16 511) ?_
          refine uK 9 (some 51) (bA 16 1023) ?_
          refine uK 10 (some 52) (bA 16 2047) ?_
          refine uK 11 (some 53) (bA 16 4095) ?_
          refine uK 12 (some 54) (bA 16 8191) ?_
          refine uK 13 (some 55) (bA 16 16383) ?_
          refine uK 14 (some 56) (bA 16 32767) ?_
          refine pK 15 (some 57) (bA 16 65535) ?_
          refine done_ (by kernel_rfl) ?_
          clear hHeld
          go_wp2
          go_meet
          case rel =>
            refine ⟨?_, ⟨⟨nd + 1, rfl⟩⟩⟩
            have hk := hk5.out
            rw [List.drop_of_length_le (by have := hx5.out; omega)] at hk
            rw [hk]
            show Value.int .i64 x5 = Value.int .i64 ((x5.toNat + 0 : Nat) : Int)
            rw [show ((x5.toNat + 0 : Nat) : Int) = x5 by have := hx5.out; omega]
        · have hd5 : decide (x5 < (acc.length : Int)) = true := decide_eq_true hx5k
          obtain ⟨-, -, hF1⟩ := Kd.V_at (Kd.N_V HO.out : Kd.V k49 49 wo w.heap.size _ _ acc)
          obtain ⟨ad1, cs1, e1, hcl1, hK1, hcc1, -⟩ := Kd.F_get hF1 z49 x5 hx5.out.1 hx5k
          obtain ⟨A1_0, c1_0, A1_1, c1_1, rfl, hl1_0, hg1_0, hl1_1, hg1_1⟩ := k49_openF hK1
          have hx1_0 : wo.cell? (ad1.add (x5.toNat * 3)) = some (.slice A1_0 (rd_T49 acc x5).f0.length c1_0) := hcc1 0 _ rfl
          subst e1
          have p5 : (0 ≤ x5) = True := eq_true hx5.out.1
          have q5 : (x5 < (acc.length : Int)) = True := eq_true hx5k
          have hk := hk5.out
          have ej : ((x5.toNat : Nat) : Int) = x5 := by have := hx5.out; omega
          rw [putFrom_step (show x5.toNat < acc.length by have := hx5.out; omega), ej] at hk
          replace hk := Aside0.mk hk
          clear hk5
          have hw5 : wrap64 (x5 + 1) = x5 + 1 := by have := hx5.out; have := hlt.out; unfold wrap64; omega
          obtain ⟨bl, hbl⟩ : ∃ b : Bool, b = Op.bytesLess (strOfNums (rd_T49 acc x5).f0).toList (strOfNums xe.f0).toList := ⟨_, rfl⟩
          have hbl2 := hbl.symm
          replace hbl := Aside0.mk hbl
          cases bl with
          | false =>
            go_wp2
            refine start_ (n := 16) (S := fun w' => w'.cell? (ad1.add (x5.toNat * 3)) = some (.slice A1_0 (rd_T49 acc x5).f0.length c1_0) ∧ w'.cell? ⟨g7, 0, none⟩ = some (.slice A2_0 xe.f0.length c2_0) ∧ Kd.C (Kd.int .u8) w' A1_0 (rd_T49 acc x5).f0.length (rd_T49 acc x5).f0 ∧ Kd.C (Kd.int .u8) w' A2_0 xe.f0.length xe.f0) (ds := []) (bA 16 0) (by kernel_rfl) rfl rfl ⟨hx1_0, hx2_0, Kd.C_drew (Kd.C_drewN (Kd.F_now hg1_0) _), Kd.C_drew (Kd.C_drewN (Kd.F_now hg2_0) _)⟩ (fun hHeld => ?_)
            refine norm_ (by rfl) ?_
            refine pK 0 (some 42) (bA 16 1) ?_
            refine pK 1 (some 43) (bA 16 3) ?_
            refine pK 2 (some 44) (bA 16 7) ?_
            refine pK 3 (some 45) (bA 16 15) ?_
            refine pK 4 (some 46) (bA 16 31) ?_
            refine pK 5 (some 47) (bA 16 63) ?_
            refine pK 6 (some 48) (bA 16 127) ?_
            refine pK 7 (some 49) (bA 16 255) ?_
            refine pK 8 (some 50) (bA 16 511) ?_
            refine tK 9 (some 51) (bA 16 1023) rfl rfl hHeld (by rintro w' ⟨s0, s1, s2, s3⟩; go_simp; with_reducible rfl) ?_
            refine tK 10 (some 52) (bA 16 2047) rfl rfl hHeld (by rintro w' ⟨s0, s1, s2, s3⟩; have e_ := Kd.C_string (P := Try.prog) (c := c1_0) Try.underlying23 Try.underlying5 Try.underlying9 s2; go_simp; with_reducible rfl) ?_
            refine pK 11 (some 53) (bA 16 4095) ?_
            refine tK 12 (some 54) (bA 16 8191) rfl rfl hHeld (by rintro w' ⟨s0, s1, s2, s3⟩; go_simp; with_reducible rfl) ?_
            refine tK 13 (some 55) (bA 16 16383) rfl rfl hHeld (by rintro w' ⟨s0, s1, s2, s3⟩; have e_ := Kd.C_string (P := Try.prog) (c := c2_0) Try.underlying23 Try.underlying5 Try.underlying9 s3; go_simp; with_reducible rfl) ?_
            refine pK 14 (some 56) (bA 16 32767) ?_
            refine pK 15 (some 57) (bA 16 65535) ?_
            refine done_ (by kernel_rfl) ?_
            clear hHeld
            go_wp2
            go_meet
            case rel =>
              refine ⟨?_, ⟨⟨nd + 1, rfl⟩⟩⟩
              have hk' := hk.out
              rw [← hbl.out, if_neg (fun e => Bool.noConfusion e)] at hk'
              rw [hk']
              show Value.int .i64 x5 = Value.int .i64 ((x5.toNat + 0 : Nat) : Int)
              rw [Nat.add_zero, ej]
          | true =>
            go_wp2
            refine start_ (n := 16) (S := fun w' => w'.cell? (ad1.add (x5.toNat * 3)) = some (.slice A1_0 (rd_T49 acc x5).f0.length c1_0) ∧ w'.cell? ⟨g7, 0, none⟩ = some (.slice A2_0 xe.f0.length c2_0) ∧ Kd.C (Kd.int .u8) w' A1_0 (rd_T49 acc x5).f0.length (rd_T49 acc x5).f0 ∧ Kd.C (Kd.int .u8) w' A2_0 xe.f0.length xe.f0) (ds := []) (bA 16 0) (by kernel_rfl) rfl rfl ⟨hx1_0, hx2_0, Kd.C_drew (Kd.C_drewN (Kd.F_now hg1_0) _), Kd.C_drew (Kd.C_drewN (Kd.F_now hg2_0) _)⟩ (fun hHeld => ?_)
            refine norm_ (by rfl) ?_
            refine pK 0 (some 42) (bA 16 1) ?_
            refine pK 1 (some 43) (bA 16 3) ?_
            refine pK 2 (some 44) (bA 16 7) ?_
            refine pK 3 (some 45) (bA 16 15) ?_
            refine pK 4 (some 46) (bA 16 31) ?_
            refine pK 5 (some 47) (bA 16 63) ?_
            refine pK 6 (some 48) (bA 16 127) ?_
            refine pK 7 (some 49) (bA 16 255) ?_
            refine pK 8 (some 50) (bA 16 511) ?_
            refine tK 9 (some 51) (bA 16 1023) rfl rfl hHeld (by rintro w' ⟨s0, s1, s2, s3⟩; go_simp; with_reducible rfl) ?_
            refine tK 10 (some 52) (bA 16 2047) rfl rfl hHeld (by rintro w' ⟨s0, s1, s2, s3⟩; have e_ := Kd.C_string (P := Try.prog) (c := c1_0) Try.underlying23 Try.underlying5 Try.underlying9 s2; go_simp; with_reducible rfl) ?_
            refine pK 11 (some 53) (bA 16 4095) ?_
            refine tK 12 (some 54) (bA 16 8191) rfl rfl hHeld (by rintro w' ⟨s0, s1, s2, s3⟩; go_simp; with_reducible rfl) ?_
            refine tK 13 (some 55) (bA 16 16383) rfl rfl hHeld (by rintro w' ⟨s0, s1, s2, s3⟩; have e_ := Kd.C_string (P := Try.prog) (c := c2_0) Try.underlying23 Try.underlying5 Try.underlying9 s3; go_simp; with_reducible rfl) ?_
            refine pK 14 (some 56) (bA 16 32767) ?_
            refine pK 15 (some 57) (bA 16 65535) ?_
            refine done_ (by kernel_rfl) ?_
            clear hHeld
            go_wp2
            go_roundg (gk - 1)
            case measure => have := hx5.out; omega
            case rel =>
              refine ⟨x5 + 1, by first | rfl | rw [hw5], ⟨by have := hx5.out; omega, by omega, by have := hx5.out; omega⟩, ⟨?_⟩, ⟨⟨nd + 1, rfl⟩⟩⟩
              have hk' := hk.out
              rw [← hbl.out, if_pos rfl] at hk'
              rw [hk', show (x5 + 1).toNat = x5.toNat + 1 by have := hx5.out; omega]
              omega
    case rest =>
      obtain ⟨ev5, hdr⟩ := hcut
      obtain ⟨nd, rfl⟩ := hdr.out
      obtain ⟨x5, hx5⟩ : ∃ x : Int, x = ((putFrom acc xe : Nat) : Int) := ⟨_, rfl⟩
      rw [← hx5] at ev5
      subst ev5
      have hK5 : x5.toNat = putFrom acc xe := by rw [hx5, Int.toNat_natCast]
      have hle := putFrom_le acc xe
      have hx50 : 0 ≤ x5 := by omega
      have hx51 : x5 ≤ (acc.length : Int) := by omega
      replace hx5 := Aside0.mk hx5
      replace hle := Aside0.mk hle
      replace hK5 := Aside0.mk hK5
      have p5 : (0 ≤ x5) = True := eq_true hx50
      obtain ⟨eqb, heqb⟩ : ∃ b : Bool, b = decide (x5 < (acc.length : Int) ∧ (strOfNums (rd_T49 acc x5).f0).toList = (strOfNums xe.f0).toList) := ⟨_, rfl⟩
      replace heqb := Aside0.mk heqb
      go_upto_region 11 with (fail)
      go_cut [75] (fun v75 wc => v75 = .bool eqb ∧ Drawn0 wo wc)
      case first =>
        by_cases hx5k : x5 < (acc.length : Int)
        rotate_left
        · have hd5 : decide (x5 < (acc.length : Int)) = false := decide_eq_false hx5k
          refine start_ (n := 16) (S := fun w' => True) (ds := []) (bA 16 0) (by kernel_rfl) rfl rfl trivial (fun hHeld => ?_)
          refine norm_ (by rfl) ?_
          refine pK 0 (some 60) (bA 16 1) ?_
          refine pK 1 (some 61) (bA 16 3) ?_
          refine pK 2 (some 62) (bA 16 7) ?_
          refine pK 3 (some 63) (bA 16 15) ?_
          refine pK 4 (some 64) (bA 16 31) ?_
          refine uK 5 (some 65) (bA 16 63) ?_
          refine uK 6 (some 66) (bA 16 127) ?_
          refine uK 7 (some 67) (bA 16 255) ?_
          refine uK 8 (some 68) (bA 16 511) ?_
          refine uK 9 (some 69) (bA 16 1023) ?_
          refine uK 10 (some 70) (bA 16 2047) ?_
          refine uK 11 (some 71) (bA 16 4095) ?_
          refine uK 12 (some 72) (bA 16 8191) ?_
          refine uK 13 (some 73) (bA 16 16383) ?_
          refine uK 14 (some 74) (bA 16 32767) ?_
          refine pK 15 (some 75) (bA 16 65535) ?_
          refine done_ (by kernel_rfl) ?_
          clear hHeld
          go_wp2
          go_meet
          case rel => exact ⟨by rw [heqb.out, decide_eq_false (fun h => absurd h.1 (by omega))], ⟨⟨nd + 1, rfl⟩⟩⟩
        · have hd5 : decide (x5 < (acc.length : Int)) = true := decide_eq_true hx5k
          obtain ⟨-, -, hF1⟩ := Kd.V_at (Kd.N_V HO.out : Kd.V k49 49 wo w.heap.size _ _ acc)
          obtain ⟨ad1, cs1, e1, hcl1, hK1, hcc1, -⟩ := Kd.F_get hF1 z49 x5 hx50 hx5k
          obtain ⟨A1_0, c1_0, A1_1, c1_1, rfl, hl1_0, hg1_0, hl1_1, hg1_1⟩ := k49_openF hK1
          have hx1_0 : wo.cell? (ad1.add (x5.toNat * 3)) = some (.slice A1_0 (rd_T49 acc x5).f0.length c1_0) := hcc1 0 _ rfl
          subst e1
          have q5 : (x5 < (acc.length : Int)) = True := eq_true hx5k
          have hbl2 : ((strOfNums (rd_T49 acc x5).f0).toList == (strOfNums xe.f0).toList) = eqb := by
            rw [heqb.out]
            by_cases h : (strOfNums (rd_T49 acc x5).f0).toList = (strOfNums xe.f0).toList
            · rw [decide_eq_true ⟨hx5k, h⟩]; exact beq_iff_eq.2 h
            · rw [decide_eq_false (fun hh => h hh.2)]; exact beq_eq_false_iff_ne.2 h
          refine start_ (n := 16) (S := fun w' => w'.cell? (ad1.add (x5.toNat * 3)) = some (.slice A1_0 (rd_T49 acc x5).f0.length c1_0) ∧ w'.cell? ⟨g7, 0, none⟩ = some (.slice A2_0 xe.f0.length c2_0) ∧ Kd.C (Kd.int .u8) w' A1_0 (rd_T49 acc x5).f0.length (rd_T49 acc x5).f0 ∧ Kd.C (Kd.int .u8) w' A2_0 xe.f0.length xe.f0) (ds := []) (bA 16 0) (by kernel_rfl) rfl rfl ⟨hx1_0, hx2_0, Kd.C_drew (Kd.C_drewN (Kd.F_now hg1_0) _), Kd.C_drew (Kd.C_drewN (Kd.F_now hg2_0) _)⟩ (fun hHeld => ?_)
          refine norm_ (by rfl) ?_
          refine pK 0 (some 60) (bA 16 1) ?_
          refine pK 1 (some 61) (bA 16 3) ?_
          refine pK 2 (some 62) (bA 16 7) ?_
          refine pK 3 (some 63) (bA 16 15) ?_
          refine pK 4 (some 64) (bA 16 31) ?_
          refine pK 5 (some 65) (bA 16 63) ?_
          refine pK 6 (some 66) (bA 16 127) ?_
          refine pK 7 (some 67) (bA 16 255) ?_
          refine pK 8 (some 68) (bA 16 511) ?_
          refine tK 9 (some 69) (bA 16 1023) rfl rfl hHeld (by rintro w' ⟨s0, s1, s2, s3⟩; go_simp; with_reducible rfl) ?_
          refine tK 10 (some 70) (bA 16 2047) rfl rfl hHeld (by rintro w' ⟨s0, s1, s2, s3⟩; have e_ := Kd.C_string (P := Try.prog) (c := c1_0) Try.underlying23 Try.underlying5 Try.underlying9 s2; go_simp; with_reducible rfl) ?_
          refine pK 11 (some 71) (bA 16 4095) ?_
          refine tK 12 (some 72) (bA 16 8191) rfl rfl hHeld (by rintro w' ⟨s0, s1, s2, s3⟩; go_simp; with_reducible rfl) ?_
          refine tK 13 (some 73) (bA 16 16383) rfl rfl hHeld (by rintro w' ⟨s0, s1, s2, s3⟩; have e_ := Kd.C_string (P := Try.prog) (c := c2_0) Try.underlying23 Try.underlying5 Try.underlying9 s3; go_simp; with_reducible rfl) ?_
          refine pK 14 (some 74) (bA 16 32767) ?_
          refine pK 15 (some 75) (bA 16 65535) ?_
          refine done_ (by kernel_rfl) ?_
          clear hHeld
          go_wp2
          go_meet
          case rel => exact ⟨rfl, ⟨⟨nd + 1, rfl⟩⟩⟩
      case rest =>
        obtain ⟨rfl, hdr2⟩ := hcut
        obtain ⟨nd2, rfl⟩ := hdr2.out
        by_cases heq : x5 < (acc.length : Int) ∧ (strOfNums (rd_T49 acc x5).f0).toList = (strOfNums xe.f0).toList
        · have he1 := heqb.out
          rw [decide_eq_true heq] at he1
          subst he1
          have hx5k := heq.1
          obtain ⟨g, cap, eg, hbg, hlg, -⟩ := Kd.N_form HO.out (show 0 < acc.length by omega)
          injection eg with eg1 eg2 eg3
          subst eg1
          subst eg3
          obtain ⟨cs1, hcl1, -, hcc1, -⟩ := Kd.N_elem HO.out z49 x5 hx50 hx5k
          have hg2_0' := hK2.out
          have q5 : (x5 < (acc.length : Int)) = True := eq_true hx5k
          have hw4 : wrap64 (x4 + 1) = x4 + 1 := by have := hlt.out; unfold wrap64; omega
          have hseg : cs1.take 0 ++ [.slice A2_0 xe.f0.length c2_0, .slice A2_1 xe.f1.length c2_1, .bool xe.f2] ++ cs1.drop (0 + 3) = [.slice A2_0 xe.f0.length c2_0, .slice A2_1 xe.f1.length c2_1, .bool xe.f2] := by
            rw [List.take_zero, List.nil_append, List.drop_of_length_le (by rw [hcl1]; exact Nat.le_refl _), List.append_nil]
          have hFKx : Kd.FK k49 (wo.drewN nd2) (fun k => wb ≤ k ∧ k < wo.heap.size) xe [.slice A2_0 xe.f0.length c2_0, .slice A2_1 xe.f1.length c2_1, .bool xe.f2] := Kd.FK_mono (ok' := fun k => wb ≤ k ∧ k < wo.heap.size) (Kd.FK_below hK2.out (pw_below_drewN (Below.refl _ _) nd2)) (fun _ hk => hk)
          rw [← hseg] at hFKx
          go_wp2_with (first | ((with_reducible refine gate_store (t := 49) (p := 79) rfl ?_); refine Kd.N_store k49 (w0 := w) w.heap.size rfl rfl 49 (.tmp 79) (.tmp 78) rfl 49 x5 0 acc xe (.agg #[.slice A2_0 xe.f0.length c2_0, .slice A2_1 xe.f1.length c2_1, .bool xe.f2]) [.slice A2_0 xe.f0.length c2_0, .slice A2_1 xe.f1.length c2_1, .bool xe.f2] cs1 (fun k_ => (P0_ k_ ∨ w.heap.size ≤ k_)) (fun k => wb ≤ k ∧ k < wo.heap.size) rfl rfl rfl rfl (by kernel_rfl) ?aH (Kd.N_drewN HO.out nd2) hx50 hx5k hcl1 hcc1 (Nat.le_refl _) ?aM ?aK ?aB ?_; (case aM => exact hFKx); (case aH => exact put3); (case aK => exact fun k hk => ⟨.inr (Nat.le_trans hwb hk.1), by have := hk.1; have := hgb g (by simp [Value.ownBlock]); omega⟩); (case aB => exact pw_below_drewN HB.out nd2); intro w9 ho9 hb9 hg9))
          go_roundg (gk - 1)
          case measure => have := hlt.out; omega
          case rel =>
            refine ⟨x4 + 1, putI acc xe, by first | rfl | rw [hw4], ⟨by have := hlt.out; omega, by omega, by have := hlt.out; omega, by have := putI_len acc xe; have := hlt.out; omega⟩, ⟨by rw [show (x4 + 1).toNat = x4.toNat + 1 by have := hlt.out; omega]; exact hr.out⟩, ⟨?_⟩, ⟨hb9⟩⟩
            have e : putI acc xe = acc.set x5.toNat xe := by
              unfold putI
              rw [← hK5.out]
              have hc : x5.toNat < acc.length ∧ (strOfNums (rd_T49 acc ((x5.toNat : Nat) : Int)).f0).toList = (strOfNums xe.f0).toList := ⟨by omega, by rw [show ((x5.toNat : Nat) : Int) = x5 by omega]; exact heq.2⟩
              rw [if_pos hc]
            rw [e]
            exact ho9
        · have he1 := heqb.out
          rw [decide_eq_false heq] at he1
          subst he1
          have hw4 : wrap64 (x4 + 1) = x4 + 1 := by have := hlt.out; unfold wrap64; omega
          obtain ⟨W1, hW1⟩ : ∃ W, W = (wo.drewN nd2).drew := ⟨_, rfl⟩
          have HB1 : Below w.heap.size w W1 := by rw [hW1]; exact below_drew1 (pw_below_drewN HB.out nd2)
          have hsz : w.heap.size ≤ W1.heap.size := HB1.size
          have hsz2 : wo.heap.size ≤ W1.heap.size := by rw [hW1]; exact Nat.le_refl _
          have HO1 : Kd.N k49 49 W1 w.heap.size (fun k_ => (P0_ k_ ∨ w.heap.size ≤ k_)) (.slice Ao acc.length co) acc := by rw [hW1]; exact Kd.N_drew (Kd.N_drewN HO.out nd2)
          have hFx : Kd.FK k49 W1 (fun k => wb ≤ k ∧ k < wo.heap.size) xe [.slice A2_0 xe.f0.length c2_0, .slice A2_1 xe.f1.length c2_1, .bool xe.f2] := by rw [hW1]; exact Kd.FK_below hK2.out (below_drew1 (pw_below_drewN (Below.refl _ _) nd2))
          replace hx2_0 : W1.cell? ⟨g7, 0, none⟩ = some (.slice A2_0 xe.f0.length c2_0) := by rw [hW1]; exact hx2_0
          replace hx2_1 : W1.cell? ⟨g7, 1, none⟩ = some (.slice A2_1 xe.f1.length c2_1) := by rw [hW1]; exact hx2_1
          replace hx2_2 : W1.cell? ⟨g7, 2, none⟩ = some (.bool xe.f2) := by rw [hW1]; exact hx2_2
          have hF := Kd.F_bound (Kd.N_F HO1)
          have hco := (Kd.N_reads' HO1).2.1
          have hm5 : x5.toNat ≤ acc.length := by omega
          have hFT : Kd.F k49 W1 (fun k => (P0_ k ∨ w.heap.size ≤ k) ∧ k < W1.heap.size) Ao x5.toNat (acc.take x5.toNat) := by
            have := Kd.F_take hF hm5
            rwa [List.length_take, Nat.min_eq_left hm5] at this
          have hFD := Kd.F_cut hF hm5 hco
          rw [List.length_drop] at hFD
          obtain ⟨i0, hi0, _, hs0_, _⟩ := info_parts info49
          have hcutT := cut_to (P := Try.prog) 37 49 .i64 Try.underlying37 hi0 Ao acc.length co x5 hx50 hx51 hco
          have hcutD := cut_from (P := Try.prog) 37 49 .i64 Try.underlying37 hi0 3 hs0_ Ao acc.length co x5 hx50 hx51
          rw [show k49.sz = 3 from rfl] at hFD
          generalize (if co = x5.toNat then Ao else Ao.map (·.add (x5.toNat * 3))) = AD at hFD hcutD
          clear hF hi0 hs0_
          go_upto_region 13 with (fail)
          refine start_ (n := 13) (S := fun w' => Below W1.heap.size W1 w') (ds := []) (bA 13 0) (by kernel_rfl) rfl rfl (by rw [← hW1]; exact Below.refl _ _) (fun hHeld => ?_)
          rw [← hW1] at hHeld ⊢
          refine norm_ (by rfl) ?_
          refine pK 1 (some 81) (bA 13 2) ?_
          refine pK 2 (some 82) (bA 13 6) ?_
          refine pK 3 (some 83) (bA 13 14) ?_
          refine tK 5 (some 85) (bA 13 46) rfl rfl hHeld (by intro w' hb_; have s0 := (hb_.cell (World.block_lt_of_cell? _ _ hx2_0)).trans hx2_0; have s1 := (hb_.cell (World.block_lt_of_cell? _ _ hx2_1)).trans hx2_1; have s2 := (hb_.cell (World.block_lt_of_cell? _ _ hx2_2)).trans hx2_2; go_simp; with_reducible rfl) ?_
          refine pK 8 (some 88) (bA 13 302) ?_
          refine pK 9 (some 89) (bA 13 814) ?_
          refine pK 10 (some 90) (bA 13 1838) ?_
          refine join_ (σ := Value × Value × Value) 3 (bA 13 1919) (fun s_ => [(80, s_.1), (84, s_.2.1), (86, s_.2.2)]) (fun s_ w' => Kd.N k49 49 w' W1.heap.size (fun k_ => (P0_ k_ ∨ w.heap.size ≤ k_)) s_.2.1 (acc.take x5.toNat) ∧ Kd.N k49 49 w' W1.heap.size (fun k_ => (P0_ k_ ∨ w.heap.size ≤ k_) ∧ some k_ ≠ s_.2.1.ownBlock) s_.2.2 [xe] ∧ Below W1.heap.size W1 w') ?_ ?_
          rotate_left
          · intro hCont
            refine two_ (i := 0) (j := 6) (Ni := some 80) (Nj := some 86) (bA 13 1839) (bA 13 1902) rfl rfl rfl rfl (by kernel_rfl) (by decide) (by decide) (fun K hK => ?_) (fun K hK => ?_)
            · skip
              refine Kd.N_lit_step k49 (w0 := W1) W1.heap.size 49 (by rfl) (N' := 80) rfl (xs := ([] : List S49)) (inner := []) (ok := (fun k_ => (P0_ k_ ∨ w.heap.size ≤ k_))) (okp := fun _ => False) ?hr ?hp (fun _ hk => hk.elim) ?hf (Below.refl W1.heap.size W1) ?hs (by simp) ?_
              case hr => first | (go_simp; done) | (go_simp; rfl)
              case hp => exact Reps.none _ _
              case hf => exact .inr (Nat.le_trans hsz ((Below.refl W1.heap.size W1)).size)
              case hs => exact ((Below.refl W1.heap.size W1)).size
              intro vL wL hoL hbL hgL hatL
              refine hK.out _ _ hbL (fun _ => ?_)
              clear hK K
              refine nK (some 80) ?_
              refine two_ (i := 4) (j := 6) (Ni := some 84) (Nj := some 86) (bA 13 1855) (bA 13 1903) rfl rfl rfl rfl (by kernel_rfl) (by decide) (by decide) (fun K hK => ?_) (fun K hK => ?_)
              · skip
                refine Kd.N_append_rows_step k49 (w0 := W1) W1.heap.size (by rfl) (.tmp 80) (.tmp 83) 37 49 (.agg #[(.slice none 0 0), (.slice none 0 0), (.bool false)]) 56 rfl Try.underlying37 info49 rfl (by decide) (by omega) vL ([] : List S49) (acc.take x5.toNat) Ao x5.toNat co (fun k_ => (P0_ k_ ∨ w.heap.size ≤ k_)) (fun k => (P0_ k ∨ w.heap.size ≤ k) ∧ k < W1.heap.size) rfl rfl hoL (Kd.F_below hFT hbL) ?hk ?hf hbL ?hs ?hl ?_
                case hk => exact fun k hk => ⟨hk.1, fun he => by have := Kd.N_base (hoL) k he.symm; have := hk.2; omega⟩
                case hf => exact fun k hk => .inr (Nat.le_trans (Nat.le_trans hsz (hbL).size) hk)
                case hs => exact (hbL).size
                case hl => have := hlt.out; have := hle.out; simp only [List.length_nil]; omega
                intro v1 wA hoA hbA hgA hatA
                rw [List.nil_append] at hoA
                refine hK.out _ _ hbA (fun _ => ?_)
                clear hK K
                refine nK (some 84) ?_
                refine one_ (i := 6) (N := some 86) (bA 13 1919) rfl rfl (by kernel_rfl) (by decide) (fun K hK => ?_)
                refine Kd.N_lit_step k49 (w0 := W1) W1.heap.size 49 (by rfl) (N' := 86) rfl (xs := [xe]) (inner := [.slice A2_0 xe.f0.length c2_0, .slice A2_1 xe.f1.length c2_1, .bool xe.f2]) (ok := (fun k_ => (P0_ k_ ∨ w.heap.size ≤ k_) ∧ some k_ ≠ v1.ownBlock)) (okp := fun k => wb ≤ k ∧ k < wo.heap.size) ?hr ?hp ?hk ?hf hbA ?hs (by simp) ?_
                case hr => first | (go_simp; done) | (go_simp; rfl)
                case hp => exact Reps.c3 (Kd.FK_below hFx hbA) (Reps.none _ _)
                case hk => exact fun k hk => ⟨.inr (Nat.le_trans hwb hk.1), fun he => by have := Kd.N_base hoA k he.symm; have := hk.2; omega⟩
                case hf => exact ⟨.inr (Nat.le_trans hsz hbA.size), fun he => by have := Kd.N_lt hoA _ he.symm; omega⟩
                case hs => exact (hbA).size
                intro vB wB hoB hbB hgB hatB
                refine hK.out _ _ hbB (fun _ => ?_)
                clear hK K
                refine nK (some 86) ?_
                exact norm_ (by simp only [putAll, Act.put, List.setIfInBounds_toArray, List.set_cons_zero, List.set_cons_succ]) (hCont (vL, v1, vB) _ ⟨Kd.N_grown hoA hgB (fun k _ => by simp), hoB, hbB⟩)
              · skip
                refine Kd.N_lit_step k49 (w0 := W1) W1.heap.size 49 (by rfl) (N' := 86) rfl (xs := [xe]) (inner := [.slice A2_0 xe.f0.length c2_0, .slice A2_1 xe.f1.length c2_1, .bool xe.f2]) (ok := (fun k_ => (P0_ k_ ∨ w.heap.size ≤ k_) ∧ some k_ ≠ vL.ownBlock)) (okp := fun k => wb ≤ k ∧ k < wo.heap.size) ?hr ?hp ?hk ?hf hbL ?hs (by simp) ?_
                case hr => first | (go_simp; done) | (go_simp; rfl)
                case hp => exact Reps.c3 (Kd.FK_below hFx hbL) (Reps.none _ _)
                case hk => exact fun k hk => ⟨.inr (Nat.le_trans hwb hk.1), fun he => by have := Kd.N_base hoL k he.symm; have := hk.2; omega⟩
                case hf => exact ⟨.inr (Nat.le_trans hsz hbL.size), fun he => by have := Kd.N_lt hoL _ he.symm; omega⟩
                case hs => exact (hbL).size
                intro vB wB hoB hbB hgB hatB
                refine hK.out _ _ hbB (fun _ => ?_)
                clear hK K
                refine nK (some 86) ?_
                refine one_ (i := 4) (N := some 84) (bA 13 1919) rfl rfl (by kernel_rfl) (by decide) (fun K hK => ?_)
                have hoL2 := Kd.N_grown hoL hgB (fun k _ => by simp)
                refine Kd.N_append_rows_step k49 (w0 := W1) W1.heap.size (by rfl) (.tmp 80) (.tmp 83) 37 49 (.agg #[(.slice none 0 0), (.slice none 0 0), (.bool false)]) 56 rfl Try.underlying37 info49 rfl (by decide) (by omega) vL ([] : List S49) (acc.take x5.toNat) Ao x5.toNat co (fun k_ => (P0_ k_ ∨ w.heap.size ≤ k_)) (fun k => (P0_ k ∨ w.heap.size ≤ k) ∧ k < W1.heap.size) rfl rfl hoL2 (Kd.F_below hFT hbB) ?hk ?hf hbB ?hs ?hl ?_
                case hk => exact fun k hk => ⟨hk.1, fun he => by have := Kd.N_base (hoL2) k he.symm; have := hk.2; omega⟩
                case hf => exact fun k hk => .inr (Nat.le_trans (Nat.le_trans hsz (hbB).size) hk)
                case hs => exact (hbB).size
                case hl => have := hlt.out; have := hle.out; simp only [List.length_nil]; omega
                intro v1 wA hoA hbA hgA hatA
                rw [List.nil_append] at hoA
                refine hK.out _ _ hbA (fun _ => ?_)
                clear hK K
                refine nK (some 84) ?_
                exact norm_ (by simp only [putAll, Act.put, List.setIfInBounds_toArray, List.set_cons_zero, List.set_cons_succ]) (hCont (vL, v1, vB) _ ⟨hoA, Kd.N_after hoB hgA hatA, hbA⟩)
            · skip
              refine Kd.N_lit_step k49 (w0 := W1) W1.heap.size 49 (by rfl) (N' := 86) rfl (xs := [xe]) (inner := [.slice A2_0 xe.f0.length c2_0, .slice A2_1 xe.f1.length c2_1, .bool xe.f2]) (ok := (fun k_ => (P0_ k_ ∨ w.heap.size ≤ k_))) (okp := fun k => wb ≤ k ∧ k < wo.heap.size) ?hr ?hp ?hk ?hf (Below.refl W1.heap.size W1) ?hs (by simp) ?_
              case hr => first | (go_simp; done) | (go_simp; rfl)
              case hp => exact Reps.c3 (Kd.FK_below hFx (Below.refl W1.heap.size W1)) (Reps.none _ _)
              case hk => exact fun k hk => .inr (Nat.le_trans hwb hk.1)
              case hf => exact .inr hsz
              case hs => exact ((Below.refl W1.heap.size W1)).size
              intro vB wB hoB hbB hgB hatB
              refine hK.out _ _ hbB (fun _ => ?_)
              clear hK K
              refine nK (some 86) ?_
              refine one_ (i := 0) (N := some 80) (bA 13 1903) rfl rfl (by kernel_rfl) (by decide) (fun K hK => ?_)
              refine Kd.N_lit_step k49 (w0 := W1) W1.heap.size 49 (by rfl) (N' := 80) rfl (xs := ([] : List S49)) (inner := []) (ok := (fun k_ => (P0_ k_ ∨ w.heap.size ≤ k_))) (okp := fun _ => False) ?hr ?hp (fun _ hk => hk.elim) ?hf hbB ?hs (by simp) ?_
              case hr => first | (go_simp; done) | (go_simp; rfl)
              case hp => exact Reps.none _ _
              case hf => exact .inr (Nat.le_trans hsz (hbB).size)
              case hs => exact (hbB).size
              intro vL wL hoL hbL hgL hatL
              refine hK.out _ _ hbL (fun _ => ?_)
              clear hK K
              refine nK (some 80) ?_
              have hoB2 : Kd.N k49 49 wL W1.heap.size (fun k_ => (P0_ k_ ∨ w.heap.size ≤ k_) ∧ some k_ ≠ vL.ownBlock) vB [xe] := Kd.N_grown (Kd.N_mono (Kd.N_bound hoB) (fun k hk => ⟨hk.1, fun he => by obtain ⟨b, hb1, hb2⟩ := hatL; rw [hb1] at he; injection he with he; have := hk.2; omega⟩)) hgL (fun k _ => by simp)
              refine one_ (i := 4) (N := some 84) (bA 13 1919) rfl rfl (by kernel_rfl) (by decide) (fun K hK => ?_)
              refine Kd.N_append_rows_step k49 (w0 := W1) W1.heap.size (by rfl) (.tmp 80) (.tmp 83) 37 49 (.agg #[(.slice none 0 0), (.slice none 0 0), (.bool false)]) 56 rfl Try.underlying37 info49 rfl (by decide) (by omega) vL ([] : List S49) (acc.take x5.toNat) Ao x5.toNat co (fun k_ => (P0_ k_ ∨ w.heap.size ≤ k_)) (fun k => (P0_ k ∨ w.heap.size ≤ k) ∧ k < W1.heap.size) rfl rfl hoL (Kd.F_below hFT hbL) ?hk ?hf hbL ?hs ?hl ?_
              case hk => exact fun k hk => ⟨hk.1, fun he => by have := Kd.N_base (hoL) k he.symm; have := hk.2; omega⟩
              case hf => exact fun k hk => .inr (Nat.le_trans (Nat.le_trans hsz (hbL).size) hk)
              case hs => exact (hbL).size
              case hl => have := hlt.out; have := hle.out; simp only [List.length_nil]; omega
              intro v1 wA hoA hbA hgA hatA
              rw [List.nil_append] at hoA
              refine hK.out _ _ hbA (fun _ => ?_)
              clear hK K
              refine nK (some 84) ?_
              exact norm_ (by simp only [putAll, Act.put, List.setIfInBounds_toArray, List.set_cons_zero, List.set_cons_succ]) (hCont (vL, v1, vB) _ ⟨hoA, Kd.N_after hoB2 hgA hatA, hbA⟩)
          rintro ⟨vL, v1, vB⟩ w3 ⟨h1, h2, hb3⟩
          dsimp only at h1 h2
          obtain ⟨A4, c4, rfl⟩ := Kd.N_slice h2
          refine norm_ (a' := ?_) ?_ ?_
          rotate_left
          · simp only [putAll, Act.put, List.setIfInBounds_toArray, List.set_cons_zero, List.set_cons_succ, i64_w, i32_w, List.length_singleton]
            rfl
          refine one_ (i := 7) (N := some 87) (bA 13 2047) rfl rfl (by kernel_rfl) (by decide) (fun K hK => ?_)
          refine Kd.N_append_rows_step k49 (w0 := W1) W1.heap.size (by rfl) (.tmp 84) (.tmp 86) 37 49 (.agg #[(.slice none 0 0), (.slice none 0 0), (.bool false)]) 56 rfl Try.underlying37 info49 rfl (by decide) (by omega) v1 (acc.take x5.toNat) [xe] A4 1 c4 (fun k_ => (P0_ k_ ∨ w.heap.size ≤ k_)) (fun k_ => (P0_ k_ ∨ w.heap.size ≤ k_) ∧ some k_ ≠ v1.ownBlock) rfl rfl h1 (Kd.N_F h2) (fun _ hk => hk) ?hf hb3 ?hs ?hl ?_
          case hf => exact fun k hk => .inr (Nat.le_trans (Nat.le_trans hsz hb3.size) hk)
          case hs => exact hb3.size
          case hl => have := hlt.out; have := hle.out; rw [List.length_take]; omega
          intro v2 w4 ho4 hb4 hg4 hat4
          refine hK.out _ _ hb4 (fun _ => ?_)
          clear hK K
          refine nK (some 87) ?_
          refine one_ (i := 11) (N := some 91) (bA 13 4095) rfl rfl (by kernel_rfl) (by decide) (fun K hK => ?_)
          refine Kd.N_append_rows_step k49 (w0 := W1) W1.heap.size (by rfl) (.tmp 87) (.tmp 90) 37 49 (.agg #[(.slice none 0 0), (.slice none 0 0), (.bool false)]) 56 rfl Try.underlying37 info49 rfl (by decide) (by omega) v2 (acc.take x5.toNat ++ [xe]) (acc.drop x5.toNat) AD (acc.length - x5.toNat) (co - x5.toNat) (fun k_ => (P0_ k_ ∨ w.heap.size ≤ k_)) (fun k => (P0_ k ∨ w.heap.size ≤ k) ∧ k < W1.heap.size) rfl rfl ho4 (Kd.F_below hFD hb4) ?hk ?hf hb4 ?hs ?hl ?_
          case hk => exact fun k hk => ⟨hk.1, fun he => by have := Kd.N_base ho4 k he.symm; have := hk.2; omega⟩
          case hf => exact fun k hk => .inr (Nat.le_trans (Nat.le_trans hsz hb4.size) hk)
          case hs => exact hb4.size
          case hl => have := hlt.out; have := hle.out; rw [List.length_append, List.length_take, List.length_singleton]; omega
          intro v3 w5 ho5 hb5 hg5 hat5
          refine hK.out _ _ hb5 (fun _ => ?_)
          clear hK K
          refine nK (some 91) ?_
          refine pK 12 (some 5) (bA 13 8191) ?_
          refine done_ (by kernel_rfl) ?_
          go_wp2
          go_roundg (gk - 1)
          case measure => have := hlt.out; omega
          case rel =>
            refine ⟨x4 + 1, putI acc xe, by first | rfl | rw [hw4], ⟨by have := hlt.out; omega, by omega, by have := hlt.out; omega, by have := putI_len acc xe; have := hlt.out; omega⟩, ⟨by rw [show (x4 + 1).toNat = x4.toNat + 1 by have := hlt.out; omega]; exact hr.out⟩, ⟨?_⟩, ⟨below_step HB1 hb5⟩⟩
            have e : putI acc xe = (acc.take x5.toNat ++ [xe]) ++ acc.drop x5.toNat := by
              unfold putI
              rw [← hK5.out]
              have hc : ¬ (x5.toNat < acc.length ∧ (strOfNums (rd_T49 acc ((x5.toNat : Nat) : Int)).f0).toList = (strOfNums xe.f0).toList) := fun hh => heq ⟨by omega, by rw [show ((x5.toNat : Nat) : Int) = x5 by omega] at hh; exact hh.2⟩
              rw [if_neg hc]
            rw [e]
            exact Kd.N_lower ho5 hsz

/-! ### marigraphlaw9_joined: function 30 -/
def marigraphlaw9_joined.l0 : Nat → List (List (S49)) → List (S49) → Int → Option ((List (S49)))
 | 0, _, _, _ => none
 | k + 1, x0, x3, x4 => if x4 ≥ 0 then (if 0 ≤ x4 then (if x4 < (x0.length : Int) then ((marigraphref8_Put.f x3 (rd_L4 x0 x4)).bind fun t196 => (marigraphlaw9_joined.l0 k x0 t196 (wrap64 (x4 - 1)))) else (none)) else (none)) else (some x3)
def marigraphlaw9_joined.f (k : Nat) (l0 : List (List (S49))) : Option ((List (S49))) := marigraphlaw9_joined.l0 k l0 ([] : List (S49)) (wrap64 ((l0.length : Int) - 1))
theorem marigraphlaw9_joined.mono_l : ∀ k, (∀ y0 y1 y2, LeO (marigraphlaw9_joined.l0 k y0 y1 y2) (marigraphlaw9_joined.l0 (k + 1) y0 y1 y2))
 | 0 => fun _ _ _ r h => by simp [marigraphlaw9_joined.l0] at h
 | k + 1 => by
  have ih0 := marigraphlaw9_joined.mono_l k
  ·intro y0 y1 y2
   unfold marigraphlaw9_joined.l0
   repeat' first
   | (with_reducible exact ih0 _ _ _)
   | (with_reducible exact LeO.refl _)
   | (with_reducible exact LeO.none _)
   | (with_reducible refine LeO.ite ?_ ?_)
   | (with_reducible refine LeO.bind ?_ (fun _ => ?_))
   | exact ih0 _ _ _
   | exact LeO.none _
   | refine LeO.ite ?_ ?_
   | refine LeO.bind ?_ (fun _ => ?_)
theorem marigraphlaw9_joined.mono : ∀ a0 k, LeO (marigraphlaw9_joined.f k a0) (marigraphlaw9_joined.f (k + 1) a0) := by
 intro a0 k
 have ih0 := marigraphlaw9_joined.mono_l k
 unfold marigraphlaw9_joined.f
 repeat' first
   | (with_reducible exact ih0 _ _ _)
   | (with_reducible exact LeO.refl _)
   | (with_reducible exact LeO.none _)
   | (with_reducible refine LeO.ite ?_ ?_)
   | (with_reducible refine LeO.bind ?_ (fun _ => ?_))
   | exact ih0 _ _ _
   | exact LeO.none _
   | refine LeO.ite ?_ ?_
   | refine LeO.bind ?_ (fun _ => ?_)
set_option maxHeartbeats 8000000 in
set_option maxRecDepth 100000 in
theorem marigraphlaw9_joined.calls (k : Nat) (A0 : Option Addr) (c0 : Nat) (l0 : List (List (S49))) (r : List (S49)) (w : World) (hr0 : Kd.C (Kd.slice 49 k49) w A0 l0.length l0) (hc0 : l0.length ≤ c0) (h : marigraphlaw9_joined.f k l0 = some r) :
  Calls Try.prog 30 #[.slice A0 l0.length c0] w fun e w' => ∃ v0_ : Value, e = .returned (v0_) ∧ Kd.N k49 49 w' w.heap.size (fun k_ => (w.heap.size ≤ k_)) v0_ r ∧ Below w.heap.size w w' := by
 have HR0 := Aside0.mk hr0
 have HC0 := Aside0.mk hc0
 clear hr0 hc0
 have HB := Aside0.mk (Below.refl w.heap.size w)
 have H : (marigraphlaw9_joined.l0 k l0 ([] : List (S49)) (wrap64 ((l0.length : Int) - 1))) = some r := h
 clear h
 have H' := Aside0.mk H
 clear H
 go_enter Try.func30, Try.ntmps30
 go_wp2
 go_loopg [3, 4] k (fun kq v3 v4 w' => ∃ (x3_1 : List (S49)) (x4_1 : Int), v4 = .int .i64 x4_1 ∧ Aside0 (marigraphlaw9_joined.l0 kq l0 x3_1 x4_1 = some r) ∧ Aside0 (kq ≤ k) ∧ Aside0 (Kd.N k49 49 w' w.heap.size (fun k_ => (w.heap.size ≤ k_)) v3 x3_1) ∧ Aside0 (Below w.heap.size w w'))
 case atStart => exact ⟨(([] : List (S49))), (wrap64 ((l0.length : Int) - 1)), (by first | rfl | (simp; done) | (simp [*]; done)), H', ⟨Nat.le_refl _⟩, ⟨by first | exact Kd.S_nil _ _ _ _ _ | exact Kd.N_nil _ _ _ _ _ | exact Kd.V_nil _ _ _ _ _ | exact Kd.Q_nil _ _ _ _ _ | exact Kd.R_nil _ _ _ _ _⟩, ⟨(belN HB.out)⟩⟩
 case round =>
  clear H'
  obtain ⟨x3_1, x4_1, rfl, HA, HK1, HO_3, HB⟩ := hrel
  cases gk with
  | zero => exact absurd HA.out (by simp [marigraphlaw9_joined.l0])
  | succ k1 =>
   have H := HA.out
   clear HA
   simp only [marigraphlaw9_joined.l0] at H
   by_cases c2 : x4_1 ≥ 0
   ·rw [if_pos c2] at H
    have c2b0 : decide (0 ≤ x4_1) = true := decide_eq_true c2
    clear c2
    by_cases c3 : 0 ≤ x4_1
    ·rw [if_pos c3] at H
     have c3b0 : decide (0 ≤ x4_1) = true := decide_eq_true c3
     clear c3
     by_cases c4 : x4_1 < (l0.length : Int)
     ·rw [if_pos c4] at H
      have c4b0 : decide (x4_1 < (l0.length : Int)) = true := decide_eq_true c4
      clear c4
      replace H := Option.bind_eq_some_iff.mp H
      obtain ⟨t196, A50, H⟩ := H
      replace H : (marigraphlaw9_joined.l0 k1 l0 t196 (wrap64 (x4_1 - 1))) = some r := H
      have A5 := Aside0.mk A50
      clear A50
      have H' := Aside0.mk H
      clear H
      have p195 : 0 ≤ (x4_1 : Int) := of_decide_eq_true (by first | (with_reducible assumption) | assumption)
      have q195 : x4_1 < (l0.length : Int) := of_decide_eq_true (by first | (with_reducible assumption) | assumption)
      obtain ⟨ad195, A195_0, c195_0, e195, hx195_0, hl195_0, hi195_0⟩ := at_L4 HR0.out x4_1 p195 q195
      cases e195
      replace hx195_0 := cellB HB.out hx195_0
      have HR195_0 := Aside0.mk hi195_0
      have HC195_0 := Aside0.mk hl195_0
      clear hi195_0 hl195_0
      replace p195 := eq_true p195
      replace q195 := eq_true q195
      obtain ⟨Ao6, co6, eo6⟩ := Kd.N_slice HO_3.out
      subst eo6
      go_wp2_with (first | ((with_reducible refine gate_callee (f := 53) rfl ?_); refine goesL_ (some 17) rfl rfl Try.func53 (by kernel_rfl) rfl #[.slice Ao6 x3_1.length co6, .slice A195_0 (rd_L4 l0 x4_1).length c195_0] rfl argN ?_; (with_reducible refine (marigraphref8_Put.calls (fun k_ => (w.heap.size ≤ k_)) _ _ x3_1 _ _ (rd_L4 l0 x4_1) t196 _ ?side1 ?side2 ?side3 A5.out).mono ?_); (case side1 => exact Kd.N_V (HO_3.out)); (case side2 => repeat (first | exact (Kd.C_below HR195_0.out HB.out) | (with_reducible refine Kd.C_alloc ?_ _) | (with_reducible refine Kd.C_drewN ?_ _) | (with_reducible refine Kd.C_drew ?_))); (case side3 => exact HC195_0.out); rintro e w7 ⟨v197, rfl, ho0, hb⟩; refine ⟨_, rfl, ?_⟩; have n0_ := Aside0.mk (Kd.N_elder' (by (with_reducible repeat (first | apply Kd.N_alloc | apply Kd.N_drewN | apply Kd.N_drew)); exact HO_3.out) (by first | exact Kd.N_base ho0 | exact Kd.S_base ho0) hb); have n1_ := Aside0.mk (Kd.N_lower (Kd.N_mono (ok' := fun k_ => (w.heap.size ≤ k_)) ho0 (fun k_ hk_ => Or.elim hk_ (fun hs_ => hs_) (fun hn_ => (Nat.le_trans (below_size (belN HB.out)) hn_)))) (below_size (belN HB.out))); have n2_ := Aside0.mk (below_step (belN HB.out) hb); clear HO_3; clear HB; have HO_3 := n0_; have HO198 := n1_; have HB := n2_; clear n0_ n1_ n2_; (try clear hb); (try clear ho0)))
      go_roundg k1
      case measure => have := HK1.out; omega
      case rel => exact ⟨(t196), (wrap64 (x4_1 - 1)), (by first | rfl | (simp; done) | (simp [*]; done)), H', ⟨by have := HK1.out; omega⟩, ⟨by (with_reducible repeat (first | apply Kd.N_alloc | apply Kd.N_drewN | apply Kd.N_drew)); exact HO198.out⟩, ⟨(belN HB.out)⟩⟩
     ·rw [if_neg c4] at H
      exact absurd H (by simp)
    ·rw [if_neg c3] at H
     exact absurd H (by simp)
   ·rw [if_neg c2] at H
    have c2b0 : decide (0 ≤ x4_1) = false := decide_eq_false c2
    clear c2
    obtain rfl := Option.some.inj H
    go_wp2
    go_ret
    exact ⟨_, by first | rfl | (simp [errW_none, errW_some] <;> rfl) | (simp [*, errW_none, errW_some] <;> rfl), by (with_reducible repeat (first | apply Kd.N_alloc | apply Kd.N_drewN | apply Kd.N_drew)); exact HO_3.out, (belN HB.out)⟩

end Go.Proofs.Ytmimfnangdabmaa.PMergeNumbers

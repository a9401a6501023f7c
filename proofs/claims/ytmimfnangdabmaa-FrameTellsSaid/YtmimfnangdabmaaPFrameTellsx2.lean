/- The walk of the Go functions that a law reaches, told as plain functions; a program of this session has written it. No condition beyond the statement's own. -/
import Derived.Test.YtmimfnangdabmaaPFrameTellsx0
import Derived.Test.YtmimfnangdabmaaPFrameTellsx1
namespace Go.Proofs.Ytmimfnangdabmaa.PFrameTells
open Go.RowKit Go.Proofs.YtmimfnangdabmaaW.PrintWords Go.Proofs.YtmimfnangdabmaaW.PrintLast Go.Proofs.YtmimfnangdabmaaW.PrintMore
attribute [local go_sem] max2_int min2_int max_two min_two max_three min_three max_four min_four   -- for this text's walks alone
set_option linter.unusedVariables false
set_option linter.unusedSimpArgs false

/-! ### octet_Put: function 39 -/
def octet_Put.l0 : Nat → Int → List Int → Int → Option (List Int)
 | 0, _, _, _ => none
 | k + 1, x1, x7, x8 => if x8 ≥ 0 then (if 0 ≤ (wrap64 (8 * x8)) then (if x7.length < 140737488355328 then (octet_Put.l0 k x1 (x7 ++ [(shr .u64 x1 (wrap64 (8 * x8))) % 256]) (wrap64 (x8 - 1))) else (none)) else (none)) else (some x7)
def octet_Put.f (k : Nat) (l0 : List Int) (a1 : Int) (a2 : Int) : Option (List Int) := (slices_Clone_byte_byte.f l0).bind fun t135 => (octet_Put.l0 k a1 t135 ((mx (mn a2 8) 0) - 1))
theorem octet_Put.mono_l : ∀ k, (∀ y0 y1 y2, LeO (octet_Put.l0 k y0 y1 y2) (octet_Put.l0 (k + 1) y0 y1 y2))
 | 0 => fun _ _ _ r h => by simp [octet_Put.l0] at h
 | k + 1 => by
  have ih0 := octet_Put.mono_l k
  ·intro y0 y1 y2
   unfold octet_Put.l0
   repeat' first
   | (with_reducible exact ih0 _ _ _)
   | (with_reducible exact LeO.refl _)
   | (with_reducible exact LeO.none _)
   | (with_reducible refine LeO.ite ?_ ?_)
   | (with_reducible refine LeO.bind ?_ (fun _ => ?_))
   | exact ih0 _ _ _
   | exact LeO.none _
   | refine LeO.ite ?_ ?_
   | refine LeO.bind ?_ (fun _ => ?_)
theorem octet_Put.mono : ∀ a0 a1 a2 k, LeO (octet_Put.f k a0 a1 a2) (octet_Put.f (k + 1) a0 a1 a2) := by
 intro a0 a1 a2 k
 have ih0 := octet_Put.mono_l k
 unfold octet_Put.f
 repeat' first
   | (with_reducible exact ih0 _ _ _)
   | (with_reducible exact LeO.refl _)
   | (with_reducible exact LeO.none _)
   | (with_reducible refine LeO.ite ?_ ?_)
   | (with_reducible refine LeO.bind ?_ (fun _ => ?_))
   | exact ih0 _ _ _
   | exact LeO.none _
   | refine LeO.ite ?_ ?_
   | refine LeO.bind ?_ (fun _ => ?_)
set_option maxHeartbeats 8000000 in
set_option maxRecDepth 100000 in
theorem octet_Put.calls (k : Nat) (A0 : Option Addr) (c0 : Nat) (l0 : List Int) (a1 : Int) (a2 : Int) (r : List Int) (w : World) (hr0 : Kd.C (Kd.int .u8) w A0 l0.length l0) (hc0 : l0.length ≤ c0) (h : octet_Put.f k l0 a1 a2 = some r) :
  Calls Try.prog 39 #[.slice A0 l0.length c0, .int .u64 a1, .int .i64 a2] w fun e w' => ∃ v0_ : Value, e = .returned (v0_) ∧ Kd.R (Kd.int .u8) 5 w' w.heap.size (fun _ => True) v0_ r ∧ Below w.heap.size w w' := by
 have HR0 := Aside0.mk hr0
 have HC0 := Aside0.mk hc0
 clear hr0 hc0
 have HB := Aside0.mk (Below.refl w.heap.size w)
 have H : ((slices_Clone_byte_byte.f l0).bind fun t135 => (octet_Put.l0 k a1 t135 ((mx (mn a2 8) 0) - 1))) = some r := h
 clear h
 replace H := Option.bind_eq_some_iff.mp H
 obtain ⟨t135, A40, H⟩ := H
 replace H : (octet_Put.l0 k a1 t135 ((mx (mn a2 8) 0) - 1)) = some r := H
 have A4 := Aside0.mk A40
 clear A40
 obtain ⟨ji5, hji5⟩ : ∃ j_ : Int, (mn a2 8) = j_ := ⟨_, rfl⟩
 replace H : (octet_Put.l0 k a1 t135 ((mx (ji5) 0) - 1)) = some r := by first | (rw [hji5] at H; exact H) | (simp only [hji5] at H ⊢; exact H)
 (try rw [hji5] at A4)
 (try (have hji5h : ji5 ≤ 8 := by (rw [← hji5]; unfold mn; (repeat' split) <;> omega)))
 (try (have hji5g : ji5 ≤ 64 := by omega))
 have hji5_ : (if 8 < a2 then 8 else a2) = ji5 := hji5
 obtain ⟨ji6, hji6⟩ : ∃ j_ : Int, (mx (ji5) 0) = j_ := ⟨_, rfl⟩
 replace H : (octet_Put.l0 k a1 t135 ((ji6) - 1)) = some r := by first | (rw [hji6] at H; exact H) | (simp only [hji6] at H ⊢; exact H)
 (try rw [hji6] at A4)
 have hji6_ : (if (ji5) < 0 then 0 else (ji5)) = ji6 := hji6
 have H' := Aside0.mk H
 clear H
 go_enter Try.func39, Try.ntmps39
 go_wp2_with (first | ((with_reducible refine gate_callee (f := 45) rfl ?_); refine goesL_ (some 10) rfl rfl Try.func45 (by kernel_rfl) rfl #[.slice A0 l0.length c0] rfl argN ?_; (with_reducible refine (slices_Clone_byte_byte.calls _ _ l0 t135 _ ?side1 ?side2 A4.out).mono ?_); (case side1 => repeat (first | exact HR0.out | (with_reducible refine Kd.C_alloc ?_ _) | (with_reducible refine Kd.C_drewN ?_ _) | (with_reducible refine Kd.C_drew ?_))); (case side2 => exact HC0.out); rintro e w7 ⟨v136, rfl, ho0, hb⟩; refine ⟨_, rfl, ?_⟩; have n0_ := Aside0.mk (Kd.R_lower ho0 (below_size (belN HB.out))); have n1_ := Aside0.mk (below_step (belN HB.out) hb); clear HB; have HO137 := n0_; have HB := n1_; clear n0_ n1_; (try clear hb); (try clear hk); (try clear ho0)))
 go_loopg [7, 8] k (fun kq v7 v8 w' => ∃ (x7_1 : List Int) (x8_1 : Int), v8 = .int .i64 x8_1 ∧ Aside0 (octet_Put.l0 kq a1 x7_1 x8_1 = some r) ∧ Aside0 (kq ≤ k) ∧ Aside0 (Kd.R (Kd.int .u8) 5 w' w.heap.size (fun _ => True) v7 x7_1) ∧ Aside0 (Below w.heap.size w w'))
 case atStart => exact ⟨(t135), ((ji6) - 1), (by first | rfl | (simp; done) | (simp only [← hji6] <;> (first | rfl | simp)) | (simp [*]; done)), H', ⟨Nat.le_refl _⟩, ⟨(rowN HO137.out)⟩, ⟨(belN HB.out)⟩⟩
 case round =>
  clear H'
  try clear p2
  try clear c3
  try clear c4
  obtain ⟨x7_1, x8_1, rfl, HA, HK1, HO_7, HB⟩ := hrel
  cases gk with
  | zero => exact absurd HA.out (by simp [octet_Put.l0])
  | succ k1 =>
   have H := HA.out
   clear HA
   simp only [octet_Put.l0] at H
   by_cases c8 : x8_1 ≥ 0
   ·rw [if_pos c8] at H
    have c8b0 : decide (0 ≤ x8_1) = true := decide_eq_true c8
    clear c8
    obtain ⟨ji9, hji9⟩ : ∃ j_ : Int, (wrap64 (8 * x8_1)) = j_ := ⟨_, rfl⟩
    replace H : (if 0 ≤ (ji9) then (if x7_1.length < 140737488355328 then (octet_Put.l0 k1 a1 (x7_1 ++ [(shr .u64 a1 (ji9)) % 256]) (wrap64 (x8_1 - 1))) else (none)) else (none)) = some r := by first | (rw [hji9] at H; exact H) | (simp only [hji9] at H ⊢; exact H)
    have hji9w : (IntKind.i64.wrap (8 * x8_1)) = ji9 := (i64_w _).trans hji9
    by_cases c10 : 0 ≤ (ji9)
    ·rw [if_pos c10] at H
     have c10b0 := eq_true c10
     have c10b1 : decide (0 ≤ (ji9)) = true := decide_eq_true c10
     clear c10
     obtain ⟨ji11, hji11⟩ : ∃ j_ : Int, (shr .u64 a1 (ji9)) = j_ := ⟨_, rfl⟩
     replace H : (if x7_1.length < 140737488355328 then (octet_Put.l0 k1 a1 (x7_1 ++ [(ji11) % 256]) (wrap64 (x8_1 - 1))) else (none)) = some r := by first | (rw [hji11] at H; exact H) | (simp only [hji11] at H ⊢; exact H)
     have hji11_ : (a1 / 2 ^ min (ji9).toNat 64) = ji11 := hji11
     have hji11z : (ji9) ≤ 64 → (a1 / 2 ^ (ji9).toNat) = ji11 := shr_small hji11
     by_cases c12 : x7_1.length < 140737488355328
     ·rw [if_pos c12] at H
      have LMc12 := Aside0.mk c12
      clear c12
      obtain ⟨y138, hy138⟩ : ∃ y_ : List Int, y_ = (x7_1 ++ [(ji11) % 256]) := ⟨_, rfl⟩
      replace H : (octet_Put.l0 k1 a1 y138 (wrap64 (x8_1 - 1))) = some r := by first | (rw [hy138]; with_reducible exact H) | (have H2_ := (Option.bind_some _ _).symm.trans H; rw [hy138]; with_reducible exact H2_) | (have H2_ := (Option.bind_some _ _).symm.trans H; with_reducible exact H2_) | with_reducible exact H | (rw [hy138]; exact H) | exact H
      have Ny138 := Aside0.mk hy138
      clear hy138
      have H' := Aside0.mk H
      clear H
      go_wp2_with (first | ((with_reducible refine gate_builtin (b := .append) (xs := #[.tmp 19, .tmp 25]) rfl ?_); at_builtin; refine Kd.R_append (Kd.int .u8) (w0 := w) w.heap.size rfl (.tmp 19) (.tmp 25) 23 5 (.int .u8 0) 1 rfl Try.underlying23 info5 rfl (by decide) (by omega) u7 x7_1 ((ji11) % 256) [.int .u8 ((ji11) % 256)] (fun _ => True) (fun _ => False) rfl rfl ?aP (fun _ hk => hk.elim) ?aF ?aO ?aB ?aS ?aL ?_; (case aP => exact rfl); (case aB => exact (belN HB.out)); (case aF => exact (fun _ _ => trivial)); (case aO => exact (rowN HO_7.out)); (case aS => exact (below_size (belN HB.out))); (case aL => have := LMc12.out; omega); intro v139 w13 ho hb hg hat; rw [← Ny138.out] at ho; have n0_ := Aside0.mk (hb); have n1_ := Aside0.mk (ho); clear HB; clear HO_7; have HB := n0_; have HO140 := n1_; clear n0_ n1_; clear ho hb hg hat))
      go_roundg k1
      case measure => have := HK1.out; omega
      case rel => exact ⟨(y138), (wrap64 (x8_1 - 1)), (by first | rfl | (simp; done) | (simp [*]; done)), H', ⟨by have := HK1.out; omega⟩, ⟨(rowN HO140.out)⟩, ⟨(belN HB.out)⟩⟩
     ·rw [if_neg c12] at H
      exact absurd H (by simp)
    ·rw [if_neg c10] at H
     exact absurd H (by simp)
   ·rw [if_neg c8] at H
    have c8b0 : decide (0 ≤ x8_1) = false := decide_eq_false c8
    clear c8
    obtain rfl := Option.some.inj H
    go_wp2
    go_ret
    exact ⟨_, by first | rfl | (simp [errW_none, errW_some] <;> rfl) | (simp only [← hji5, ← hji6]; first | rfl | (simp [errW_none, errW_some] <;> rfl)) | (simp [*, errW_none, errW_some] <;> rfl), (rowN HO_7.out), (belN HB.out)⟩

/-! ### frame_Put: function 16 -/
def frame_Put.f (k : Nat) (l0 : List Int) (l1 : List Int) : Option (List Int × Int) := if (l1.length : Int) > 1048576 then (some (([] : List Int), 3)) else ((octet_Put.f k l0 (IntKind.u64.wrap ((l1.length : Int))) 3).bind fun t141 => ((octet_Put.f k t141 (Go.bits .xor .u64 (IntKind.u64.wrap ((l1.length : Int))) 16777215) 3).bind fun t144 => (if t144.length + l1.length < 140737488355328 then (some ((t144 ++ l1), 0)) else (none))))
theorem frame_Put.mono : ∀ a0 a1 k, LeO (frame_Put.f k a0 a1) (frame_Put.f (k + 1) a0 a1) := by
 intro a0 a1 k
 unfold frame_Put.f
 repeat' first
   | (with_reducible exact octet_Put.mono _ _ _ _)
   | (with_reducible exact LeO.refl _)
   | (with_reducible exact LeO.none _)
   | (with_reducible refine LeO.ite ?_ ?_)
   | (with_reducible refine LeO.bind ?_ (fun _ => ?_))
   | exact octet_Put.mono _ _ _ _
   | exact LeO.none _
   | refine LeO.ite ?_ ?_
   | refine LeO.bind ?_ (fun _ => ?_)
set_option maxHeartbeats 8000000 in
set_option maxRecDepth 100000 in
theorem frame_Put.calls (k : Nat) (A0 : Option Addr) (c0 : Nat) (l0 : List Int) (A1 : Option Addr) (c1 : Nat) (l1 : List Int) (r1 : List Int) (r2 : Int) (w : World) (hr0 : Kd.C (Kd.int .u8) w A0 l0.length l0) (hc0 : l0.length ≤ c0) (hr1 : Kd.C (Kd.int .u8) w A1 l1.length l1) (hc1 : l1.length ≤ c1) (h : frame_Put.f k l0 l1 = some (r1, r2)) :
  Calls Try.prog 16 #[.slice A0 l0.length c0, .slice A1 l1.length c1] w fun e w' => ∃ v0_ : Value, e = .returned (.tuple #[v0_, .int .i64 r2]) ∧ Kd.R (Kd.int .u8) 5 w' w.heap.size (fun _ => True) v0_ r1 ∧ Below w.heap.size w w' := by
 have HR0 := Aside0.mk hr0
 have HC0 := Aside0.mk hc0
 clear hr0 hc0
 have HR1 := Aside0.mk hr1
 have HC1 := Aside0.mk hc1
 clear hr1 hc1
 have HB := Aside0.mk (Below.refl w.heap.size w)
 have H : (if (l1.length : Int) > 1048576 then (some (([] : List Int), 3)) else ((octet_Put.f k l0 (IntKind.u64.wrap ((l1.length : Int))) 3).bind fun t141 => ((octet_Put.f k t141 (Go.bits .xor .u64 (IntKind.u64.wrap ((l1.length : Int))) 16777215) 3).bind fun t144 => (if t144.length + l1.length < 140737488355328 then (some ((t144 ++ l1), 0)) else (none))))) = some (r1, r2) := h
 clear h
 by_cases c3 : (l1.length : Int) > 1048576
 ·rw [if_pos c3] at H
  have c3b0 : decide (1048576 < (l1.length : Int)) = true := decide_eq_true c3
  have c3b1 : decide (1048576 < l1.length) = true := decide_eq_true (by omega)
  clear c3
  simp only [Option.some.injEq, Prod.mk.injEq] at H
  obtain ⟨rfl, rfl⟩ := H
  go_enter Try.func16, Try.ntmps16
  go_wp2
  go_ret2
  exact ⟨_, by first | rfl | (simp [errW_none, errW_some] <;> rfl) | (simp [*, errW_none, errW_some] <;> rfl), by first | exact Kd.R_nil _ _ _ _ _ | exact Kd.N_nil _ _ _ _ _ | exact Kd.V_nil _ _ _ _ _ | exact Kd.Q_nil _ _ _ _ _ | exact Kd.S_nil _ _ _ _ _, (belN HB.out)⟩
 ·rw [if_neg c3] at H
  have c3b0 : decide (1048576 < (l1.length : Int)) = false := decide_eq_false c3
  have c3b1 : decide (1048576 < l1.length) = false := decide_eq_false (by omega)
  clear c3
  replace H := Option.bind_eq_some_iff.mp H
  obtain ⟨t141, A40, H⟩ := H
  replace H : ((octet_Put.f k t141 (Go.bits .xor .u64 (IntKind.u64.wrap ((l1.length : Int))) 16777215) 3).bind fun t144 => (if t144.length + l1.length < 140737488355328 then (some ((t144 ++ l1), 0)) else (none))) = some (r1, r2) := H
  have A4 := Aside0.mk A40
  clear A40
  replace H := Option.bind_eq_some_iff.mp H
  obtain ⟨t144, A50, H⟩ := H
  replace H : (if t144.length + l1.length < 140737488355328 then (some ((t144 ++ l1), 0)) else (none)) = some (r1, r2) := H
  have A5 := Aside0.mk A50
  clear A50
  by_cases c6 : t144.length + l1.length < 140737488355328
  ·rw [if_pos c6] at H
   have LMc6 := Aside0.mk c6
   clear c6
   obtain ⟨y147, hy147⟩ : ∃ y_ : List Int, y_ = (t144 ++ l1) := ⟨_, rfl⟩
   replace H : (some (y147, 0)) = some (r1, r2) := by first | (rw [hy147]; with_reducible exact H) | (have H2_ := (Option.bind_some _ _).symm.trans H; rw [hy147]; with_reducible exact H2_) | (have H2_ := (Option.bind_some _ _).symm.trans H; with_reducible exact H2_) | with_reducible exact H | (rw [hy147]; exact H) | exact H
   have Ny147 := Aside0.mk hy147
   clear hy147
   simp only [Option.some.injEq, Prod.mk.injEq] at H
   obtain ⟨rfl, rfl⟩ := H
   go_enter Try.func16, Try.ntmps16
   go_wp2_with (first | ((with_reducible refine gate_callee (f := 39) rfl ?_); refine goesL_ (some 16) rfl rfl Try.func39 (by kernel_rfl) rfl #[.slice A0 l0.length c0, .int .u64 (IntKind.u64.wrap ((l1.length : Int))), .int .i64 3] rfl argN ?_; (with_reducible refine (octet_Put.calls k _ _ l0 (IntKind.u64.wrap ((l1.length : Int))) 3 t141 _ ?side1 ?side2 A4.out).mono ?_); (case side1 => repeat (first | exact HR0.out | (with_reducible refine Kd.C_alloc ?_ _) | (with_reducible refine Kd.C_drewN ?_ _) | (with_reducible refine Kd.C_drew ?_))); (case side2 => exact HC0.out); rintro e w7 ⟨v142, rfl, ho0, hb⟩; refine ⟨_, rfl, ?_⟩; have n0_ := Aside0.mk (Kd.R_lower ho0 (below_size (belN HB.out))); have n1_ := Aside0.mk (below_step (belN HB.out) hb); clear HB; have HO143 := n0_; have HB := n1_; clear n0_ n1_; (try clear hb); (try clear hk); (try clear ho0); obtain ⟨Ao8, co8, eo8⟩ := Kd.R_slice HO143.out; subst eo8) | ((with_reducible refine gate_callee (f := 39) rfl ?_); refine goesL_ (some 19) rfl rfl Try.func39 (by kernel_rfl) rfl #[.slice Ao8 t141.length co8, .int .u64 (Go.bits .xor .u64 (IntKind.u64.wrap ((l1.length : Int))) 16777215), .int .i64 3] rfl argN ?_; (with_reducible refine (octet_Put.calls k _ _ t141 (Go.bits .xor .u64 (IntKind.u64.wrap ((l1.length : Int))) 16777215) 3 t144 _ ?side1 ?side2 A5.out).mono ?_); (case side1 => repeat (first | exact (Kd.R_reads' HO143.out).2.2 | (with_reducible refine Kd.C_alloc ?_ _) | (with_reducible refine Kd.C_drewN ?_ _) | (with_reducible refine Kd.C_drew ?_))); (case side2 => exact (Kd.R_reads' HO143.out).2.1); rintro e w9 ⟨v145, rfl, ho0, hb⟩; refine ⟨_, rfl, ?_⟩; have n0_ := Aside0.mk (Kd.R_elder' (rowN HO143.out) (Kd.R_base ho0) hb); have n1_ := Aside0.mk (Kd.R_lower (Kd.R_new' ho0 (Kd.R_lt (rowN HO143.out))) (below_size (belN HB.out))); have n2_ := Aside0.mk (below_step (belN HB.out) hb); clear HO143; clear HB; have HO143 := n0_; have HO146 := n1_; have HB := n2_; clear n0_ n1_ n2_; (try clear hb); (try clear hk); (try clear ho0)) | ((with_reducible refine gate_builtin (b := .append) (xs := #[.tmp 20, .tmp 21]) rfl ?_); at_builtin; refine Kd.R_append_rows (Kd.int .u8) (w0 := w) w.heap.size rfl (.tmp 20) (.tmp 21) 23 5 (.int .u8 0) 1 rfl Try.underlying23 info5 rfl (by decide) (by omega) v145 t144 l1 _ _ _ (fun k_ => some k_ ≠ (.slice Ao8 t141.length co8 : Value).ownBlock) (fun _ => False) rfl rfl ?aO ?aR (fun _ _ h => h) (fun _ h => h.elim) ?aF ?aB ?aS ?aL ?_; (case aR => repeat (first | exact (Kd.C_below HR1.out HB.out) | (with_reducible refine Kd.C_alloc ?_ _) | (with_reducible refine Kd.C_drewN ?_ _) | (with_reducible refine Kd.C_drew ?_))); (case aB => exact (belN HB.out)); (case aF => exact (fun k_ hk => Kd.fresh' (Kd.R_lt (rowN HO143.out)) k_ hk)); (case aO => exact (by (with_reducible repeat (first | apply Kd.R_alloc | apply Kd.R_drewN | apply Kd.R_drew)); exact Kd.R_mono HO146.out (fun _ hk => hk.2))); (case aS => exact (below_size (belN HB.out))); (case aL => have := LMc6.out; omega); intro v148 w10 ho hb hg hat; rw [← Ny147.out] at ho; have n0_ := Aside0.mk (Kd.R_after (ok := (fun _ => True)) (rowN HO143.out) hg hat); have n1_ := Aside0.mk (hb); have n2_ := Aside0.mk (ho); clear HO143; clear HB; clear HO146; have HO143 := n0_; have HB := n1_; have HO149 := n2_; clear n0_ n1_ n2_; clear ho hb hg hat))
   go_ret2
   exact ⟨_, by first | rfl | (simp [errW_none, errW_some] <;> rfl) | (simp [*, errW_none, errW_some] <;> rfl), by (with_reducible repeat (first | apply Kd.R_alloc | apply Kd.R_drewN | apply Kd.R_drew)); exact Kd.R_mono HO149.out (fun _ hk => trivial), (belN HB.out)⟩
  ·rw [if_neg c6] at H
   exact absurd H (by simp)

/-! ### octet_Get: function 59 -/
def getI : Int → List Int → Int
  | a, [] => a
  | a, c :: cs => getI (Go.bits .or .u64 (IntKind.u64.wrap (a * 256)) (IntKind.u64.wrap c)) cs
theorem getI_snoc (a : Int) (l : List Int) (c : Int) : getI a (l ++ [c]) = Go.bits .or .u64 (IntKind.u64.wrap (getI a l * 256)) (IntKind.u64.wrap c) := by
  induction l generalizing a with
  | nil => rfl
  | cons x xs ih => exact ih _
theorem intOf_int (k : IntKind) (q : Int) : intOf (Value.int k q) = q := rfl
theorem getI_less (n j : Nat) (h : wrap64 ((j : Int) + 1) = ((j + 1 : Nat) : Int)) (hlt : j < n) :
    n - (intOf (Value.int IntKind.i64 (wrap64 ((j : Int) + 1)))).toNat < n - (intOf (Value.int IntKind.i64 (j : Int))).toNat := by
  rw [intOf_int, intOf_int, h, Int.toNat_natCast, Int.toNat_natCast]
  exact Nat.sub_lt_sub_left hlt (Nat.lt_succ_self j)
def octet_Get.f (l0 : List Int) (a1 : Int) : Option (Int × Bool) := if a1 < 0 then (some (0, false)) else (if a1 > 8 then (some (0, false)) else (if a1 > (l0.length : Int) then (some (0, false)) else (some (getI 0 (l0.take a1.toNat), true))))
set_option maxHeartbeats 8000000 in
set_option maxRecDepth 100000 in
theorem octet_Get.small (A0 : Option Addr) (c0 : Nat) (l0 : List Int) (a1 : Int) (w : World) (c1b : decide (a1 < 0) = true) :
    Calls Try.prog 59 #[.slice A0 l0.length c0, .int .i64 a1] w fun e w' => e = .returned (.tuple #[.int .u64 0, .bool false]) ∧ Drawn0 w w' := by
  go_enter Try.func59, Try.ntmps59
  go_wp2
  repeat (go_quiet (fail); try go_wp2)
  go_ret2
  exact ⟨rfl, by repeat (first | exact Drawn0.refl _ | apply Drawn0.step)⟩
set_option maxHeartbeats 8000000 in
set_option maxRecDepth 100000 in
theorem octet_Get.great (A0 : Option Addr) (c0 : Nat) (l0 : List Int) (a1 : Int) (w : World) (c1b : decide (a1 < 0) = false) (c2b : decide (8 < a1) = true) :
    Calls Try.prog 59 #[.slice A0 l0.length c0, .int .i64 a1] w fun e w' => e = .returned (.tuple #[.int .u64 0, .bool false]) ∧ Drawn0 w w' := by
  go_enter Try.func59, Try.ntmps59
  go_wp2
  repeat (go_quiet (fail); try go_wp2)
  go_ret2
  exact ⟨rfl, by repeat (first | exact Drawn0.refl _ | apply Drawn0.step)⟩
set_option maxHeartbeats 8000000 in
set_option maxRecDepth 100000 in
theorem octet_Get.short (A0 : Option Addr) (c0 : Nat) (l0 : List Int) (a1 : Int) (w : World) (c1b : decide (a1 < 0) = false) (c2b : decide (8 < a1) = false) (c3b : decide ((l0.length : Int) < a1) = true) :
    Calls Try.prog 59 #[.slice A0 l0.length c0, .int .i64 a1] w fun e w' => e = .returned (.tuple #[.int .u64 0, .bool false]) ∧ Drawn0 w w' := by
  go_enter Try.func59, Try.ntmps59
  go_wp2
  repeat (go_quiet (fail); try go_wp2)
  go_ret2
  exact ⟨rfl, by repeat (first | exact Drawn0.refl _ | apply Drawn0.step)⟩
set_option maxHeartbeats 8000000 in
set_option maxRecDepth 100000 in
theorem octet_Get.there (A0 : Option Addr) (c0 : Nat) (l0 : List Int) (n : Nat) (w : World) (HR0 : Aside0 (Kd.C (Kd.int .u8) w A0 l0.length l0)) (HC0 : Aside0 (l0.length ≤ c0)) (HN : Aside0 (n ≤ l0.length)) (hnc : Aside0 (n ≤ 8)) :
    Calls Try.prog 59 #[.slice A0 l0.length c0, .int .i64 (n : Int)] w fun e w' => e = .returned (.tuple #[.int .u64 (getI 0 (l0.take n)), .bool true]) ∧ Drawn0 w w' := by
  have hnl := HN.out
  have hn8 := hnc.out
  have c1b : decide ((n : Int) < 0) = false := decide_eq_false (by omega)
  have c2b : decide (8 < (n : Int)) = false := decide_eq_false (by omega)
  have c3b : decide ((l0.length : Int) < (n : Int)) = false := decide_eq_false (by omega)
  have c4b : decide (l0.length < n) = false := decide_eq_false (by omega)
  have c5b : decide (8 < n) = false := decide_eq_false (by omega)
  obtain ⟨i0, hi0, _, hsz, _⟩ := info_parts info5
  have hcut := cut_to (P := Try.prog) 23 5 .i64 Try.underlying23 hi0 A0 l0.length c0 (n : Int) (by omega) (by omega) HC0.out
  rw [Int.toNat_natCast] at hcut
  clear hi0 hsz hnl hn8
  go_enter Try.func59, Try.ntmps59
  go_wp2
  repeat (go_quiet (fail); try go_wp2)
  go_loop [6, 25] (fun v6 v25 => ∃ j : Nat, j ≤ n ∧ v6 = .int .u64 (getI 0 (l0.take j)) ∧ v25 = .int .i64 (j : Int)) (fun _ v25 => n - (intOf v25).toNat)
  case atStart => exact ⟨0, Nat.zero_le _, by simp [getI], rfl⟩
  case round =>
    obtain ⟨j, hj, rfl, rfl⟩ := hrel
    by_cases hlt : j < n
    · have hln := HN.out
      have hn8 := hnc.out
      have d1 : decide (j < n) = true := decide_eq_true hlt
      have d2 : decide ((j : Int) < (n : Int)) = true := decide_eq_true (by omega)
      obtain ⟨ad, he, hx⟩ := Kd.at_int HR0.out (j : Int) (by omega) (by omega)
      have hsn := getI_snoc 0 (l0.take j) (rd l0 (j : Int))
      have hts : l0.take (j + 1) = l0.take j ++ [rd l0 (j : Int)] := by
        rw [List.take_succ_eq_append_getElem (by omega)]
        simp [rd, List.getD_eq_getElem?_getD, List.getElem?_eq_getElem (show j < l0.length by omega)]
      rw [← hts] at hsn
      have HS := Aside0.mk hsn
      cases he
      have p1 : (0 ≤ (j : Int)) = True := eq_true (by omega)
      have p2 : ((j : Int) < (n : Int)) = True := eq_true (by omega)
      have p3 : (j < n) = True := eq_true hlt
      rw [Int.toNat_natCast] at hx
      have HW := Aside0.mk (show wrap64 ((j : Int) + 1) = ((j + 1 : Nat) : Int) from by unfold wrap64; omega)
      clear hsn hts hln hj hn8 hlt
      go_wp2
      repeat (go_quiet (fail); try go_wp2)
      go_round
      case rel => exact ⟨j + 1, by have := of_eq_true p3; omega, congrArg (Value.int .u64) HS.out.symm, congrArg (Value.int .i64) HW.out⟩
      case measure => exact getI_less n j HW.out (of_eq_true p3)
    · have d1 : decide (j < n) = false := decide_eq_false hlt
      have d2 : decide ((j : Int) < (n : Int)) = false := decide_eq_false (by omega)
      have hjn : j = n := by omega
      subst hjn
      clear hlt hj
      go_wp2
      repeat (go_quiet (fail); try go_wp2)
      go_ret2
      exact ⟨rfl, by repeat (first | exact Drawn0.refl _ | apply Drawn0.step)⟩
theorem octet_Get.calls (A0 : Option Addr) (c0 : Nat) (l0 : List Int) (a1 : Int) (r1 : Int) (r2 : Bool) (w : World) (hr0 : Kd.C (Kd.int .u8) w A0 l0.length l0) (hc0 : l0.length ≤ c0) (h : octet_Get.f l0 a1 = some (r1, r2)) :
    Calls Try.prog 59 #[.slice A0 l0.length c0, .int .i64 a1] w fun e w' => e = .returned (.tuple #[.int .u64 r1, .bool r2]) ∧ Drawn0 w w' := by
  unfold octet_Get.f at h
  by_cases c1 : a1 < 0
  · rw [if_pos c1] at h
    cases h
    exact octet_Get.small A0 c0 l0 a1 w (decide_eq_true c1)
  rw [if_neg c1] at h
  by_cases c2 : a1 > 8
  · rw [if_pos c2] at h
    cases h
    exact octet_Get.great A0 c0 l0 a1 w (decide_eq_false c1) (decide_eq_true c2)
  rw [if_neg c2] at h
  by_cases c3 : a1 > (l0.length : Int)
  · rw [if_pos c3] at h
    cases h
    exact octet_Get.short A0 c0 l0 a1 w (decide_eq_false c1) (decide_eq_false c2) (decide_eq_true c3)
  rw [if_neg c3] at h
  obtain ⟨n, rfl⟩ := Int.eq_ofNat_of_zero_le (show 0 ≤ a1 by omega)
  rw [Int.toNat_natCast] at h
  cases h
  exact octet_Get.there A0 c0 l0 n w ⟨hr0⟩ ⟨hc0⟩ ⟨by omega⟩ ⟨by omega⟩

/-! ### frame_length: function 44 -/
def frame_length.f (l0 : List Int) : Option (Int × Bool) := (octet_Get.f l0 3).bind fun bt150 => (if bt150.2 = true then (if (l0.length : Int) < 6 then (some (0, false)) else (if 3 ≤ (l0.length : Int) then ((octet_Get.f (l0.drop 3) 3).bind fun bt153 => (if (Go.bits .xor .u64 bt150.1 bt153.1) = 16777215 then (some (wrap64 (bt150.1), decide (bt150.1 ≤ 1048576))) else (some (wrap64 (bt150.1), false)))) else (none))) else (some (0, false)))
set_option maxHeartbeats 8000000 in
set_option maxRecDepth 100000 in
theorem frame_length.calls (A0 : Option Addr) (c0 : Nat) (l0 : List Int) (r1 : Int) (r2 : Bool) (w : World) (hr0 : Kd.C (Kd.int .u8) w A0 l0.length l0) (hc0 : l0.length ≤ c0) (h : frame_length.f l0 = some (r1, r2)) :
  Calls Try.prog 44 #[.slice A0 l0.length c0] w fun e w' => e = .returned (.tuple #[.int .i64 r1, .bool r2]) ∧ Drawn0 w w' := by
 have HR0 := Aside0.mk hr0
 have HC0 := Aside0.mk hc0
 clear hr0 hc0
 have H : ((octet_Get.f l0 3).bind fun bt150 => (if bt150.2 = true then (if (l0.length : Int) < 6 then (some (0, false)) else (if 3 ≤ (l0.length : Int) then ((octet_Get.f (l0.drop 3) 3).bind fun bt153 => (if (Go.bits .xor .u64 bt150.1 bt153.1) = 16777215 then (some (wrap64 (bt150.1), decide (bt150.1 ≤ 1048576))) else (some (wrap64 (bt150.1), false)))) else (none))) else (some (0, false)))) = some (r1, r2) := h
 clear h
 replace H := Option.bind_eq_some_iff.mp H
 obtain ⟨⟨t150, t151⟩, A20, H⟩ := H
 replace H : (if t151 = true then (if (l0.length : Int) < 6 then (some (0, false)) else (if 3 ≤ (l0.length : Int) then ((octet_Get.f (l0.drop 3) 3).bind fun bt153 => (if (Go.bits .xor .u64 t150 bt153.1) = 16777215 then (some (wrap64 (t150), decide (t150 ≤ 1048576))) else (some (wrap64 (t150), false)))) else (none))) else (some (0, false))) = some (r1, r2) := H
 have A2 := Aside0.mk A20
 clear A20
 by_cases c3 : t151 = true
 ·subst c3
  have H1 : (if (l0.length : Int) < 6 then (some (0, false)) else (if 3 ≤ (l0.length : Int) then ((octet_Get.f (l0.drop 3) 3).bind fun bt153 => (if (Go.bits .xor .u64 t150 bt153.1) = 16777215 then (some (wrap64 (t150), decide (t150 ≤ 1048576))) else (some (wrap64 (t150), false)))) else (none))) = some (r1, r2) := by rw [if_pos rfl] at H; exact H
  clear H
  have H := H1
  clear H1
  by_cases c4 : (l0.length : Int) < 6
  ·rw [if_pos c4] at H
   have c4b0 : decide ((l0.length : Int) < 6) = true := decide_eq_true c4
   have c4b1 : decide (l0.length < 6) = true := decide_eq_true (by omega)
   clear c4
   simp only [Option.some.injEq, Prod.mk.injEq] at H
   obtain ⟨rfl, rfl⟩ := H
   go_enter Try.func44, Try.ntmps44
   go_wp2_with (first | ((with_reducible refine gate_callee (f := 59) rfl ?_); refine goesL_ (some 10) rfl rfl Try.func59 (by kernel_rfl) rfl #[.slice A0 l0.length c0, .int .i64 3] rfl argN ?_; (with_reducible refine (octet_Get.calls _ _ l0 3 t150 true _ ?side1 ?side2 A2.out).mono ?_); (case side1 => repeat (first | exact HR0.out | (with_reducible refine Kd.C_alloc ?_ _) | (with_reducible refine Kd.C_drewN ?_ _) | (with_reducible refine Kd.C_drew ?_))); (case side2 => exact HC0.out); rintro e w' ⟨rfl, ⟨nd, rfl⟩⟩; refine ⟨_, rfl, ?_⟩))
   go_ret2
   exact ⟨by first | rfl | (simp; done) | (simp [*]; done), by repeat (first | exact Drawn0.refl _ | apply Drawn0.step)⟩
  ·rw [if_neg c4] at H
   have c4b0 : decide ((l0.length : Int) < 6) = false := decide_eq_false c4
   have c4b1 : decide (l0.length < 6) = false := decide_eq_false (by omega)
   clear c4
   by_cases c5 : 3 ≤ (l0.length : Int)
   ·rw [if_pos c5] at H
    have c5b0 := eq_true c5
    have c5b1 : decide (3 ≤ (l0.length : Int)) = true := decide_eq_true c5
    clear c5
    replace H := Option.bind_eq_some_iff.mp H
    obtain ⟨⟨t153, t154⟩, A60, H⟩ := H
    replace H : (if (Go.bits .xor .u64 t150 t153) = 16777215 then (some (wrap64 (t150), decide (t150 ≤ 1048576))) else (some (wrap64 (t150), false))) = some (r1, r2) := H
    have A6 := Aside0.mk A60
    clear A60
    by_cases c7 : (Go.bits .xor .u64 t150 t153) = 16777215
    ·rw [if_pos c7] at H
     have c7b0 : ((Go.bits .xor .u64 t150 t153) == 16777215) = true := beq_iff_eq.mpr c7
     have c7b1 : ((Go.bits .xor .u64 t150 t153) != 16777215) = false := bne_eq_false_iff_eq.mpr c7
     clear c7
     simp only [Option.some.injEq, Prod.mk.injEq] at H
     obtain ⟨rfl, rfl⟩ := H
     go_enter Try.func44, Try.ntmps44
     go_wp2_with (first | ((with_reducible refine gate_callee (f := 59) rfl ?_); refine goesL_ (some 10) rfl rfl Try.func59 (by kernel_rfl) rfl #[.slice A0 l0.length c0, .int .i64 3] rfl argN ?_; (with_reducible refine (octet_Get.calls _ _ l0 3 t150 true _ ?side1 ?side2 A2.out).mono ?_); (case side1 => repeat (first | exact HR0.out | (with_reducible refine Kd.C_alloc ?_ _) | (with_reducible refine Kd.C_drewN ?_ _) | (with_reducible refine Kd.C_drew ?_))); (case side2 => exact HC0.out); rintro e w' ⟨rfl, ⟨nd, rfl⟩⟩; refine ⟨_, rfl, ?_⟩; obtain ⟨i08, hi08, _, hsz8, _⟩ := info_parts info5; obtain ⟨A8, hcut8, hA8, hC8⟩ := print_drop_of (P := Try.prog) (Value.int .u8) 0 23 5 .i64 Try.underlying23 hi08 hsz8 A0 c0 l0 3 (by omega) (of_decide_eq_true (by first | (with_reducible assumption) | assumption)) HC0.out; have HR152 := Aside0.mk (Kd.C_of_reads (h1 := fun _ => rfl) (hA8 _ (Kd.reads_of_C HR0.out))); have HC152 := Aside0.mk hC8; clear hA8 hC8 hi08 hsz8) | ((with_reducible refine gate_callee (f := 59) rfl ?_); refine goesL_ (some 23) rfl rfl Try.func59 (by kernel_rfl) rfl #[.slice A8 (l0.drop 3).length (c0 - 3), .int .i64 3] rfl (by (try simp only [List.map_toArray, List.map_cons, List.map_nil]); first | done | (rw [show (l0.drop 3).length = (l0.length - 3) from List.length_drop] <;> rfl) | rfl | (simp only [List.length_drop, List.length_take]; rfl)) ?_; (with_reducible refine (octet_Get.calls _ _ (l0.drop 3) 3 t153 t154 _ ?side1 ?side2 A6.out).mono ?_); (case side1 => repeat (first | exact HR152.out | (with_reducible refine Kd.C_alloc ?_ _) | (with_reducible refine Kd.C_drewN ?_ _) | (with_reducible refine Kd.C_drew ?_))); (case side2 => exact HC152.out); rintro e w' ⟨rfl, ⟨nd, rfl⟩⟩; refine ⟨_, rfl, ?_⟩))
     go_ret2
     exact ⟨by first | rfl | (simp; done) | (simp [*]; done), by repeat (first | exact Drawn0.refl _ | apply Drawn0.step)⟩
    ·rw [if_neg c7] at H
     have c7b0 : ((Go.bits .xor .u64 t150 t153) == 16777215) = false := beq_eq_false_iff_ne.mpr c7
     have c7b1 : ((Go.bits .xor .u64 t150 t153) != 16777215) = true := bne_iff_ne.mpr c7
     simp only [Option.some.injEq, Prod.mk.injEq] at H
     obtain ⟨rfl, rfl⟩ := H
     go_enter Try.func44, Try.ntmps44
     go_wp2_with (first | ((with_reducible refine gate_callee (f := 59) rfl ?_); refine goesL_ (some 10) rfl rfl Try.func59 (by kernel_rfl) rfl #[.slice A0 l0.length c0, .int .i64 3] rfl argN ?_; (with_reducible refine (octet_Get.calls _ _ l0 3 t150 true _ ?side1 ?side2 A2.out).mono ?_); (case side1 => repeat (first | exact HR0.out | (with_reducible refine Kd.C_alloc ?_ _) | (with_reducible refine Kd.C_drewN ?_ _) | (with_reducible refine Kd.C_drew ?_))); (case side2 => exact HC0.out); rintro e w' ⟨rfl, ⟨nd, rfl⟩⟩; refine ⟨_, rfl, ?_⟩; obtain ⟨i09, hi09, _, hsz9, _⟩ := info_parts info5; obtain ⟨A9, hcut9, hA9, hC9⟩ := print_drop_of (P := Try.prog) (Value.int .u8) 0 23 5 .i64 Try.underlying23 hi09 hsz9 A0 c0 l0 3 (by omega) (of_decide_eq_true (by first | (with_reducible assumption) | assumption)) HC0.out; have HR152 := Aside0.mk (Kd.C_of_reads (h1 := fun _ => rfl) (hA9 _ (Kd.reads_of_C HR0.out))); have HC152 := Aside0.mk hC9; clear hA9 hC9 hi09 hsz9) | ((with_reducible refine gate_callee (f := 59) rfl ?_); refine goesL_ (some 23) rfl rfl Try.func59 (by kernel_rfl) rfl #[.slice A9 (l0.drop 3).length (c0 - 3), .int .i64 3] rfl (by (try simp only [List.map_toArray, List.map_cons, List.map_nil]); first | done | (rw [show (l0.drop 3).length = (l0.length - 3) from List.length_drop] <;> rfl) | rfl | (simp only [List.length_drop, List.length_take]; rfl)) ?_; (with_reducible refine (octet_Get.calls _ _ (l0.drop 3) 3 t153 t154 _ ?side1 ?side2 A6.out).mono ?_); (case side1 => repeat (first | exact HR152.out | (with_reducible refine Kd.C_alloc ?_ _) | (with_reducible refine Kd.C_drewN ?_ _) | (with_reducible refine Kd.C_drew ?_))); (case side2 => exact HC152.out); rintro e w' ⟨rfl, ⟨nd, rfl⟩⟩; refine ⟨_, rfl, ?_⟩))
     go_ret2
     exact ⟨by first | rfl | (simp; done) | (simp [*]; done), by repeat (first | exact Drawn0.refl _ | apply Drawn0.step)⟩
   ·rw [if_neg c5] at H
    exact absurd H (by simp)
 ·replace c3 := Bool.eq_false_iff.mpr c3
  subst c3
  have H1 : (some (0, false)) = some (r1, r2) := by rw [if_neg (show ¬ (false = true) by decide)] at H; exact H
  clear H
  have H := H1
  clear H1
  simp only [Option.some.injEq, Prod.mk.injEq] at H
  obtain ⟨rfl, rfl⟩ := H
  go_enter Try.func44, Try.ntmps44
  go_wp2_with (first | ((with_reducible refine gate_callee (f := 59) rfl ?_); refine goesL_ (some 10) rfl rfl Try.func59 (by kernel_rfl) rfl #[.slice A0 l0.length c0, .int .i64 3] rfl argN ?_; (with_reducible refine (octet_Get.calls _ _ l0 3 t150 false _ ?side1 ?side2 A2.out).mono ?_); (case side1 => repeat (first | exact HR0.out | (with_reducible refine Kd.C_alloc ?_ _) | (with_reducible refine Kd.C_drewN ?_ _) | (with_reducible refine Kd.C_drew ?_))); (case side2 => exact HC0.out); rintro e w' ⟨rfl, ⟨nd, rfl⟩⟩; refine ⟨_, rfl, ?_⟩))
  go_ret2
  exact ⟨by first | rfl | (simp; done) | (simp [*]; done), by repeat (first | exact Drawn0.refl _ | apply Drawn0.step)⟩

/-! ### frame_All: function 24 -/
mutual
def frame_All.l0 : Nat → List Int → List (List Int) → Int → Option ((List (List Int)) × Int × Int)
 | 0, _, _, _ => none
 | k + 1, x0, x5, x6 => if 0 ≤ x6 then (if x6 ≤ (x0.length : Int) then ((frame_length.f (x0.drop (x6 : Int).toNat)).bind fun bt156 => (if ((x0.drop (x6 : Int).toNat).length : Int) < 6 then (frame_All.j1 k x0 x5 x6 (x0.drop (x6 : Int).toNat) bt156.1 bt156.2 true) else (if bt156.2 = true then (frame_All.j1 k x0 x5 x6 (x0.drop (x6 : Int).toNat) bt156.1 bt156.2 (decide (bt156.1 > (wrap64 (((x0.drop (x6 : Int).toNat).length : Int) - 6))))) else (frame_All.j1 k x0 x5 x6 (x0.drop (x6 : Int).toNat) bt156.1 bt156.2 false)))) else (none)) else (none)
def frame_All.j1 : Nat → List Int → List (List Int) → Int → List Int → Int → Bool → Bool → Option ((List (List Int)) × Int × Int)
 | 0, _, _, _, _, _, _, _ => none
 | k + 1, x0, x5, x6, x7, x8, x9, x18 => if x18 = true then (some (x5, x6, 0)) else (if x9 = true then (if 6 ≤ (wrap64 (6 + x8)) then (if (wrap64 (6 + x8)) ≤ (x7.length : Int) then ((slices_Clone_byte_byte.f ((x7.take ((wrap64 (6 + x8)) : Int).toNat).drop 6)).bind fun t159 => (if x5.length < 5864062014805 then (frame_All.l0 k x0 (x5 ++ [t159]) (wrap64 (x6 + (wrap64 (6 + x8))))) else (none))) else (none)) else (none)) else (some (x5, x6, 14)))
end
def frame_All.f (k : Nat) (l0 : List Int) : Option ((List (List Int)) × Int × Int) := frame_All.l0 k l0 ([] : List (List Int)) 0
theorem frame_All.mono_l : ∀ k, (∀ y0 y1 y2, LeO (frame_All.l0 k y0 y1 y2) (frame_All.l0 (k + 1) y0 y1 y2)) ∧ (∀ y0 y1 y2 y3 y4 y5 y6, LeO (frame_All.j1 k y0 y1 y2 y3 y4 y5 y6) (frame_All.j1 (k + 1) y0 y1 y2 y3 y4 y5 y6))
 | 0 => ⟨fun _ _ _ r h => by simp [frame_All.l0] at h, fun _ _ _ _ _ _ _ r h => by simp [frame_All.j1] at h⟩
 | k + 1 => by
  obtain ⟨ih0, ih1⟩ := frame_All.mono_l k
  refine ⟨?_, ?_⟩
  ·intro y0 y1 y2
   unfold frame_All.l0
   repeat' first
   | (with_reducible exact ih0 _ _ _)
   | (with_reducible exact ih1 _ _ _ _ _ _ _)
   | (with_reducible exact LeO.refl _)
   | (with_reducible exact LeO.none _)
   | (with_reducible refine LeO.ite ?_ ?_)
   | (with_reducible refine LeO.bind ?_ (fun _ => ?_))
   | exact ih0 _ _ _
   | exact ih1 _ _ _ _ _ _ _
   | exact LeO.none _
   | refine LeO.ite ?_ ?_
   | refine LeO.bind ?_ (fun _ => ?_)
  ·intro y0 y1 y2 y3 y4 y5 y6
   unfold frame_All.j1
   repeat' first
   | (with_reducible exact ih0 _ _ _)
   | (with_reducible exact ih1 _ _ _ _ _ _ _)
   | (with_reducible exact LeO.refl _)
   | (with_reducible exact LeO.none _)
   | (with_reducible refine LeO.ite ?_ ?_)
   | (with_reducible refine LeO.bind ?_ (fun _ => ?_))
   | exact ih0 _ _ _
   | exact ih1 _ _ _ _ _ _ _
   | exact LeO.none _
   | refine LeO.ite ?_ ?_
   | refine LeO.bind ?_ (fun _ => ?_)
theorem frame_All.mono : ∀ a0 k, LeO (frame_All.f k a0) (frame_All.f (k + 1) a0) := by
 intro a0 k
 obtain ⟨ih0, ih1⟩ := frame_All.mono_l k
 unfold frame_All.f
 repeat' first
   | (with_reducible exact ih0 _ _ _)
   | (with_reducible exact ih1 _ _ _ _ _ _ _)
   | (with_reducible exact LeO.refl _)
   | (with_reducible exact LeO.none _)
   | (with_reducible refine LeO.ite ?_ ?_)
   | (with_reducible refine LeO.bind ?_ (fun _ => ?_))
   | exact ih0 _ _ _
   | exact ih1 _ _ _ _ _ _ _
   | exact LeO.none _
   | refine LeO.ite ?_ ?_
   | refine LeO.bind ?_ (fun _ => ?_)
set_option maxHeartbeats 8000000 in
set_option maxRecDepth 100000 in
theorem frame_All.calls (k : Nat) (A0 : Option Addr) (c0 : Nat) (l0 : List Int) (r1 : List (List Int)) (r2 : Int) (r3 : Int) (w : World) (hr0 : Kd.C (Kd.int .u8) w A0 l0.length l0) (hc0 : l0.length ≤ c0) (h : frame_All.f k l0 = some (r1, r2, r3)) :
  Calls Try.prog 24 #[.slice A0 l0.length c0] w fun e w' => ∃ v0_ : Value, e = .returned (.tuple #[v0_, .int .i64 r2, .int .i64 r3]) ∧ Kd.S (Kd.slice 5 (Kd.int .u8)) 23 w' w.heap.size (fun _ => True) v0_ r1 ∧ Below w.heap.size w w' := by
 have HR0 := Aside0.mk hr0
 have HC0 := Aside0.mk hc0
 clear hr0 hc0
 have HB := Aside0.mk (Below.refl w.heap.size w)
 have H : (frame_All.l0 k l0 ([] : List (List Int)) 0) = some (r1, r2, r3) := h
 clear h
 have H' := Aside0.mk H
 clear H
 go_enter Try.func24, Try.ntmps24
 go_wp2
 go_loopg [5, 6] k (fun kq v5 v6 w' => ∃ (x5_1 : List (List Int)) (x6_1 : Int), v6 = .int .i64 x6_1 ∧ Aside0 (frame_All.l0 kq l0 x5_1 x6_1 = some (r1, r2, r3)) ∧ Aside0 (kq ≤ k) ∧ Aside0 (Kd.S (Kd.slice 5 (Kd.int .u8)) 23 w' w.heap.size (fun _ => True) v5 x5_1) ∧ Aside0 (Below w.heap.size w w'))
 case atStart => exact ⟨(([] : List (List Int))), (0), (by first | rfl | (simp; done) | (simp [*]; done)), H', ⟨Nat.le_refl _⟩, ⟨by first | exact Kd.S_nil _ _ _ _ _ | exact Kd.N_nil _ _ _ _ _ | exact Kd.V_nil _ _ _ _ _ | exact Kd.Q_nil _ _ _ _ _ | exact Kd.R_nil _ _ _ _ _⟩, ⟨(belN HB.out)⟩⟩
 case round =>
  clear H'
  obtain ⟨x5_1, x6_1, rfl, HA, HK1, HO_5, HB⟩ := hrel
  cases gk with
  | zero => exact absurd HA.out (by simp [frame_All.l0])
  | succ k1 =>
   have H := HA.out
   clear HA
   simp only [frame_All.l0] at H
   by_cases c2 : 0 ≤ x6_1
   ·rw [if_pos c2] at H
    have c2b0 := eq_true c2
    have c2b1 : decide (0 ≤ x6_1) = true := decide_eq_true c2
    clear c2
    by_cases c3 : x6_1 ≤ (l0.length : Int)
    ·rw [if_pos c3] at H
     have c3b0 := eq_true c3
     have c3b1 : decide (x6_1 ≤ (l0.length : Int)) = true := decide_eq_true c3
     clear c3
     obtain ⟨z6, hz6⟩ : ∃ z_ : List Int, z_ = l0.drop (x6_1 : Int).toNat := ⟨_, rfl⟩
     rw [← hz6] at H
     replace H := Option.bind_eq_some_iff.mp H
     obtain ⟨⟨t156, t157⟩, A40, H⟩ := H
     replace H : (if (z6.length : Int) < 6 then (frame_All.j1 k1 l0 x5_1 x6_1 z6 t156 t157 true) else (if t157 = true then (frame_All.j1 k1 l0 x5_1 x6_1 z6 t156 t157 (decide (t156 > (wrap64 ((z6.length : Int) - 6))))) else (frame_All.j1 k1 l0 x5_1 x6_1 z6 t156 t157 false))) = some (r1, r2, r3) := H
     have A4 := Aside0.mk A40
     clear A40
     have HC5 := Aside0.mk H
     clear H
     obtain ⟨i06, hi06, _, hsz6, _⟩ := info_parts info5
     obtain ⟨A6, hcut6, hA6, hC6⟩ := print_drop_of (P := Try.prog) (Value.int .u8) 0 23 5 .i64 Try.underlying23 hi06 hsz6 A0 c0 l0 x6_1 (of_decide_eq_true (by first | (with_reducible assumption) | assumption)) (of_decide_eq_true (by first | (with_reducible assumption) | assumption)) HC0.out
     rw [← hz6] at hcut6 hA6 hC6
     have Nz6 := Aside0.mk hz6
     clear hz6
     have HR155 := Aside0.mk (Kd.C_of_reads (h1 := fun _ => rfl) (hA6 _ (Kd.reads_of_C HR0.out)))
     have HC155 := Aside0.mk hC6
     clear hA6 hC6 hi06 hsz6
     go_upto_region 5 with (first | ((with_reducible refine gate_callee (f := 44) rfl ?_); refine goesL_ (some 15) rfl rfl Try.func44 (by kernel_rfl) rfl #[.slice A6 z6.length (c0 - x6_1.toNat)] rfl (by (try simp only [List.map_toArray, List.map_cons, List.map_nil]); first | done | (rw [show z6.length = (l0.length - x6_1.toNat) from List.length_drop] <;> rfl) | rfl | (simp only [List.length_drop, List.length_take]; rfl)) ?_; (with_reducible refine (frame_length.calls _ _ z6 t156 t157 _ ?side1 ?side2 A4.out).mono ?_); (case side1 => repeat (first | exact (Kd.C_below HR155.out HB.out) | (with_reducible refine Kd.C_alloc ?_ _) | (with_reducible refine Kd.C_drewN ?_ _) | (with_reducible refine Kd.C_drew ?_))); (case side2 => exact HC155.out); rintro e w' ⟨rfl, ⟨nd, rfl⟩⟩; refine ⟨_, rfl, ?_⟩))
     (try simp only [Act.put, List.setIfInBounds_toArray, List.set_cons_zero, List.set_cons_succ])
     go_cut [18] (fun v18 wc => ∃ (kq : Nat) (x18_4 : Bool), v18 = .bool x18_4 ∧ Aside0 (frame_All.j1 kq l0 x5_1 x6_1 z6 t156 t157 x18_4 = some (r1, r2, r3)) ∧ Aside0 (kq ≤ k1) ∧ Aside0 (Kd.S (Kd.slice 5 (Kd.int .u8)) 23 wc w.heap.size (fun _ => True) u5 x5_1) ∧ Aside0 (Below w.heap.size w wc))
     case first =>
      have H := HC5.out
      clear HC5
      by_cases c7 : (z6.length : Int) < 6
      ·rw [if_pos c7] at H
       have c7b0 : decide ((z6.length : Int) < 6) = true := decide_eq_true c7
       have c7b1 : decide (z6.length < 6) = true := decide_eq_true (by omega)
       clear c7
       (first | rw [c7b0] | rw [c7b1] | (simp only [i64_w, i32_w]; rw [c7b0]) | skip)
       have H' := Aside0.mk H
       clear H
       go_wp2
       go_meet
       case rel => exact ⟨_, (true), (by first | rfl | (simp; done) | (simp [*]; done)), H', ⟨by have := HK1.out; first | omega | exact Nat.le_refl _⟩, ⟨by (with_reducible repeat (first | apply Kd.S_alloc | apply Kd.S_drewN | apply Kd.S_drew)); exact HO_5.out⟩, ⟨(belN HB.out)⟩⟩
      ·rw [if_neg c7] at H
       have c7b0 : decide ((z6.length : Int) < 6) = false := decide_eq_false c7
       have c7b1 : decide (z6.length < 6) = false := decide_eq_false (by omega)
       clear c7
       (first | rw [c7b0] | rw [c7b1] | (simp only [i64_w, i32_w]; rw [c7b0]) | skip)
       by_cases c8 : t157 = true
       ·subst c8
        have H1 : (frame_All.j1 k1 l0 x5_1 x6_1 z6 t156 true (decide (t156 > (wrap64 ((z6.length : Int) - 6))))) = some (r1, r2, r3) := by rw [if_pos rfl] at H; exact H
        clear H
        have H := H1
        clear H1
        have H' := Aside0.mk H
        clear H
        go_wp2
        go_meet
        case rel => exact ⟨_, (decide (t156 > (wrap64 ((z6.length : Int) - 6)))), (by first | rfl | (simp; done) | (simp [*]; done)), H', ⟨by have := HK1.out; first | omega | exact Nat.le_refl _⟩, ⟨by (with_reducible repeat (first | apply Kd.S_alloc | apply Kd.S_drewN | apply Kd.S_drew)); exact HO_5.out⟩, ⟨(belN HB.out)⟩⟩
       ·replace c8 := Bool.eq_false_iff.mpr c8
        subst c8
        have H1 : (frame_All.j1 k1 l0 x5_1 x6_1 z6 t156 false false) = some (r1, r2, r3) := by rw [if_neg (show ¬ (false = true) by decide)] at H; exact H
        clear H
        have H := H1
        clear H1
        have H' := Aside0.mk H
        clear H
        go_wp2
        go_meet
        case rel => exact ⟨_, (false), (by first | rfl | (simp; done) | (simp [*]; done)), H', ⟨by have := HK1.out; first | omega | exact Nat.le_refl _⟩, ⟨by (with_reducible repeat (first | apply Kd.S_alloc | apply Kd.S_drewN | apply Kd.S_drew)); exact HO_5.out⟩, ⟨(belN HB.out)⟩⟩
     case rest =>
      clear HC5
      try clear c2
      try clear c2b0
      try clear c2b1
      try clear p2
      try clear c3
      try clear c3b0
      try clear c3b1
      try clear c4
      try clear p6
      try clear c7
      try clear c7b0
      try clear c7b1
      try clear c8
      obtain ⟨kq, x18_4, rfl, HA, HJ4, HO_5, HB⟩ := hcut
      cases kq with
      | zero => exact absurd HA.out (by simp [frame_All.j1])
      | succ kj4 =>
       have H := HA.out
       clear HA
       simp only [frame_All.j1] at H
       by_cases c9 : x18_4 = true
       ·subst c9
        have H1 : (some (x5_1, x6_1, 0)) = some (r1, r2, r3) := by rw [if_pos rfl] at H; exact H
        clear H
        have H := H1
        clear H1
        simp only [Option.some.injEq, Prod.mk.injEq] at H
        obtain ⟨rfl, rfl, rfl⟩ := H
        go_wp2
        go_ret3
        exact ⟨_, by first | rfl | (simp [errW_none, errW_some] <;> rfl) | (simp [*, errW_none, errW_some] <;> rfl), by (with_reducible repeat (first | apply Kd.S_alloc | apply Kd.S_drewN | apply Kd.S_drew)); exact HO_5.out, (belN HB.out)⟩
       ·replace c9 := Bool.eq_false_iff.mpr c9
        subst c9
        have H1 : (if t157 = true then (if 6 ≤ (wrap64 (6 + t156)) then (if (wrap64 (6 + t156)) ≤ (z6.length : Int) then ((slices_Clone_byte_byte.f ((z6.take ((wrap64 (6 + t156)) : Int).toNat).drop 6)).bind fun t159 => (if x5_1.length < 5864062014805 then (frame_All.l0 kj4 l0 (x5_1 ++ [t159]) (wrap64 (x6_1 + (wrap64 (6 + t156))))) else (none))) else (none)) else (none)) else (some (x5_1, x6_1, 14))) = some (r1, r2, r3) := by rw [if_neg (show ¬ (false = true) by decide)] at H; exact H
        clear H
        have H := H1
        clear H1
        by_cases c10 : t157 = true
        ·subst c10
         have H1 : (if 6 ≤ (wrap64 (6 + t156)) then (if (wrap64 (6 + t156)) ≤ (z6.length : Int) then ((slices_Clone_byte_byte.f ((z6.take ((wrap64 (6 + t156)) : Int).toNat).drop 6)).bind fun t159 => (if x5_1.length < 5864062014805 then (frame_All.l0 kj4 l0 (x5_1 ++ [t159]) (wrap64 (x6_1 + (wrap64 (6 + t156))))) else (none))) else (none)) else (none)) = some (r1, r2, r3) := by rw [if_pos rfl] at H; exact H
         clear H
         have H := H1
         clear H1
         by_cases c11 : 6 ≤ (wrap64 (6 + t156))
         ·rw [if_pos c11] at H
          have c11b0 := eq_true c11
          have c11b1 : decide (6 ≤ (wrap64 (6 + t156))) = true := decide_eq_true c11
          by_cases c12 : (wrap64 (6 + t156)) ≤ (z6.length : Int)
          ·rw [if_pos c12] at H
           have c12b0 := eq_true c12
           have c12b1 : decide ((wrap64 (6 + t156)) ≤ (z6.length : Int)) = true := decide_eq_true c12
           replace H := Option.bind_eq_some_iff.mp H
           obtain ⟨t159, A130, H⟩ := H
           replace H : (if x5_1.length < 5864062014805 then (frame_All.l0 kj4 l0 (x5_1 ++ [t159]) (wrap64 (x6_1 + (wrap64 (6 + t156))))) else (none)) = some (r1, r2, r3) := H
           have A13 := Aside0.mk A130
           clear A130
           by_cases c14 : x5_1.length < 5864062014805
           ·rw [if_pos c14] at H
            have LMc14 := Aside0.mk c14
            clear c14
            obtain ⟨y162, hy162⟩ : ∃ y_ : List (List Int), y_ = (x5_1 ++ [t159]) := ⟨_, rfl⟩
            replace H : (frame_All.l0 kj4 l0 y162 (wrap64 (x6_1 + (wrap64 (6 + t156))))) = some (r1, r2, r3) := by first | (rw [hy162]; with_reducible exact H) | (have H2_ := (Option.bind_some _ _).symm.trans H; rw [hy162]; with_reducible exact H2_) | (have H2_ := (Option.bind_some _ _).symm.trans H; with_reducible exact H2_) | with_reducible exact H | (rw [hy162]; exact H) | exact H
            have Ny162 := Aside0.mk hy162
            clear hy162
            have H' := Aside0.mk H
            clear H
            obtain ⟨i015, hi015, _, hsz15, _⟩ := info_parts info5
            obtain ⟨A15, hcut15, hA15, hC15⟩ := print_mid_of (P := Try.prog) (Value.int .u8) 0 23 5 .i64 .i64 Try.underlying23 hi015 hsz15 A6 (c0 - x6_1.toNat) z6 6 (wrap64 (6 + t156)) (by omega) (by first | omega | exact of_decide_eq_true (by first | (with_reducible assumption) | assumption)) (of_decide_eq_true (by first | (with_reducible assumption) | assumption)) HC155.out
            have HR158 := Aside0.mk (Kd.C_of_reads (h1 := fun _ => rfl) (hA15 _ (Kd.reads_of_C HR155.out)))
            have HC158 := Aside0.mk hC15
            clear hA15 hC15 hi015 hsz15
            go_wp2_with (first | ((with_reducible refine gate_callee (f := 45) rfl ?_); refine goesL_ (some 44) rfl rfl Try.func45 (by kernel_rfl) rfl #[.slice A15 ((z6.take ((wrap64 (6 + t156)) : Int).toNat).drop 6).length ((c0 - x6_1.toNat) - 6)] rfl (by (try simp only [List.map_toArray, List.map_cons, List.map_nil]); first | done | (rw [show ((z6.take ((wrap64 (6 + t156)) : Int).toNat).drop 6).length = ((wrap64 (6 + t156)).toNat - 6) from (by rw [List.length_drop, List.length_take]; have h_ : ((wrap64 (6 + t156)) : Int) ≤ (z6.length : Int) := of_decide_eq_true (by first | (with_reducible assumption) | assumption); omega)] <;> rfl) | rfl | (simp only [List.length_drop, List.length_take]; rfl)) ?_; (with_reducible refine (slices_Clone_byte_byte.calls _ _ ((z6.take ((wrap64 (6 + t156)) : Int).toNat).drop 6) t159 _ ?side1 ?side2 A13.out).mono ?_); (case side1 => repeat (first | exact (Kd.C_below HR158.out HB.out) | (with_reducible refine Kd.C_alloc ?_ _) | (with_reducible refine Kd.C_drewN ?_ _) | (with_reducible refine Kd.C_drew ?_))); (case side2 => exact HC158.out); rintro e w16 ⟨v160, rfl, ho0, hb⟩; refine ⟨_, rfl, ?_⟩; have n0_ := Aside0.mk (Kd.S_elder' (by (with_reducible repeat (first | apply Kd.S_alloc | apply Kd.S_drewN | apply Kd.S_drew)); exact HO_5.out) (Kd.R_base ho0) hb); have n1_ := Aside0.mk (Kd.R_lower ho0 (below_size (belN HB.out))); have n2_ := Aside0.mk (below_step (belN HB.out) hb); clear HO_5; clear HB; have HO_5 := n0_; have HO161 := n1_; have HB := n2_; clear n0_ n1_ n2_; (try clear hb); (try clear hk); (try clear ho0); obtain ⟨Ao18, co18, eo18⟩ := Kd.R_slice HO161.out; subst eo18) | ((with_reducible refine gate_builtin (b := .append) (xs := #[.tmp 39, .tmp 45]) rfl ?_); (try (refine gate_guard (by rfl) ?_; dsimp only)); at_builtin; refine Kd.S_append (Kd.slice 5 (Kd.int .u8)) (w0 := w) w.heap.size rfl (.tmp 39) (.tmp 45) 22 23 (.slice none 0 0) 24 rfl Try.underlying22 info23 rfl (by decide) (by omega) u5 x5_1 t159 [.slice Ao18 t159.length co18] (fun _ => True) (fun k_ => some k_ = (.slice Ao18 t159.length co18 : Value).ownBlock) rfl rfl ?aP (fun k_ hk_ => ((Kd.R_mono (ok' := fun k_ => ((fun _ => True)) k_ ∧ some k_ ≠ (u5 : Value).ownBlock) (Kd.R_apart' (HO161.out) (Kd.S_typed HO_5.out) (by decide)) (fun k_ hk => ⟨trivial, hk.2⟩))).1 k_ hk_.symm) ?aF ?aO ?aB ?aS ?aL ?_; (case aP => exact Kd.M_row (Kd.R_mono (Kd.R_tight rfl (Kd.R_mono (ok' := fun k_ => ((fun _ => True)) k_ ∧ some k_ ≠ (u5 : Value).ownBlock) (Kd.R_apart' (HO161.out) (Kd.S_typed HO_5.out) (by decide)) (fun k_ hk => ⟨trivial, hk.2⟩))) (fun _ h_ => h_))); (case aB => exact (belN HB.out)); (case aF => exact (fun _ _ => trivial)); (case aO => exact (by (with_reducible repeat (first | apply Kd.S_alloc | apply Kd.S_drewN | apply Kd.S_drew)); exact Kd.S_mono HO_5.out (fun k_ hk => ⟨trivial, fun e_ => hk.2 e_⟩))); (case aS => exact (below_size (belN HB.out))); (case aL => have := LMc14.out; omega); intro v163 w17 ho hb hg hat; rw [← Ny162.out] at ho; have n0_ := Aside0.mk (hb); have n1_ := Aside0.mk (ho); clear HB; clear HO_5; clear HO161; have HB := n0_; have HO164 := n1_; clear n0_ n1_; clear ho hb hg hat))
            go_roundg kj4
            case measure => have := HK1.out; have := HJ4.out; omega
            case rel => exact ⟨(y162), (wrap64 (x6_1 + (wrap64 (6 + t156)))), (by first | rfl | (simp; done) | (simp [*]; done)), H', ⟨by have := HK1.out; have := HJ4.out; omega⟩, ⟨by (with_reducible repeat (first | apply Kd.S_alloc | apply Kd.S_drewN | apply Kd.S_drew)); exact HO164.out⟩, ⟨(belN HB.out)⟩⟩
           ·rw [if_neg c14] at H
            exact absurd H (by simp)
          ·rw [if_neg c12] at H
           exact absurd H (by simp)
         ·rw [if_neg c11] at H
          exact absurd H (by simp)
        ·replace c10 := Bool.eq_false_iff.mpr c10
         subst c10
         have H1 : (some (x5_1, x6_1, 14)) = some (r1, r2, r3) := by rw [if_neg (show ¬ (false = true) by decide)] at H; exact H
         clear H
         have H := H1
         clear H1
         simp only [Option.some.injEq, Prod.mk.injEq] at H
         obtain ⟨rfl, rfl, rfl⟩ := H
         go_wp2
         go_ret3
         exact ⟨_, by first | rfl | (simp [errW_none, errW_some] <;> rfl) | (simp [*, errW_none, errW_some] <;> rfl), by (with_reducible repeat (first | apply Kd.S_alloc | apply Kd.S_drewN | apply Kd.S_drew)); exact HO_5.out, (belN HB.out)⟩
    ·rw [if_neg c3] at H
     exact absurd H (by simp)
   ·rw [if_neg c2] at H
    exact absurd H (by simp)

/-- A step of a region that yields in every world; one whose guard is off; one that reads what is held. -/
theorem pK {P : Program} {ops : Array Oper} {Q : Exit → Act → World → Prop} {md : Region.Mode} {S : World → Prop} {ds : List Nat} {oi : Oper} {v : Value} {fuel : Nat} {l : Array Bool} {a a' : Act} {w : World} (i : Nat) (N : Option Tmp) (l' : Array Bool) (h : wpAnyLast P md ops Q S ds fuel l' a' w)
    (hi : ops[i]? = some oi := by rfl) (hN : oi.dst = N := by rfl) (hc : anyB md ops l l' i = true := by kernel_rfl) (hQ : ∀ c a w, Q (.panic c) (a.put oi.dst v) w → Q (.panic c) a w := by exact fun _ _ _ h => h)
    (hy : Region.wanted oi (yielded ops a.tmps) = true := by rfl) (hy' : ∀ w, (execOp a.eval oi).run P w = .ok (.value v) w := by intro w'; go_simp; with_reducible rfl)
    (ha : a.put N v = a' := by simp only [Act.put, List.setIfInBounds_toArray, List.set_cons_zero, List.set_cons_succ, i64_w, i32_w]; rfl) : wpAnyLast P md ops Q S ds (fuel + 1) l a w :=
  pure_ l' hi hN hc hQ (Or.inl ⟨hy, hy'⟩) ha h
theorem uK {P : Program} {ops : Array Oper} {Q : Exit → Act → World → Prop} {md : Region.Mode} {S : World → Prop} {ds : List Nat} {oi : Oper} {fuel : Nat} {l : Array Bool} {a a' : Act} {w : World} (i : Nat) (N : Option Tmp) (l' : Array Bool) (h : wpAnyLast P md ops Q S ds fuel l' a' w)
    (hi : ops[i]? = some oi := by rfl) (hN : oi.dst = N := by rfl) (hc : anyB md ops l l' i = true := by kernel_rfl) (hQ : ∀ c a w, Q (.panic c) (a.put oi.dst undef) w → Q (.panic c) a w := by exact fun _ _ _ h => h)
    (hy : Region.wanted oi (yielded ops a.tmps) = false := by rfl)
    (ha : a.put N undef = a' := by simp only [Act.put, List.setIfInBounds_toArray, List.set_cons_zero, List.set_cons_succ, i64_w, i32_w]; rfl) : wpAnyLast P md ops Q S ds (fuel + 1) l a w :=
  pure_ l' hi hN hc hQ (Or.inr ⟨hy, rfl⟩) ha h
theorem tK {P : Program} {ops : Array Oper} {Q : Exit → Act → World → Prop} {md : Region.Mode} {S : World → Prop} {ds : List Nat} {oi : Oper} {v : Value} {fuel : Nat} {l : Array Bool} {a a' : Act} {w : World} (i : Nat) (N : Option Tmp) (l' : Array Bool) (hi : ops[i]? = some oi) (hN : oi.dst = N) (hS : S w) (hy' : ∀ w, S w → (execOp a.eval oi).run P w = .ok (.value v) w) (h : wpAnyLast P md ops Q S ds fuel l' a' w)
    (hc : takeB md ops ds l l' i = true := by kernel_rfl) (hQ : ∀ c a w, Q (.panic c) (a.put oi.dst v) w → Q (.panic c) a w := by exact fun _ _ _ h => h)
    (hy : Region.wanted oi (yielded ops a.tmps) = true := by rfl)
    (ha : a.put N v = a' := by simp only [Act.put, List.setIfInBounds_toArray, List.set_cons_zero, List.set_cons_succ, i64_w, i32_w]; rfl) : wpAnyLast P md ops Q S ds (fuel + 1) l a w :=
  take_ l' hi hN hc hQ (Or.inl ⟨hy, hy'⟩) hS ha h
theorem nK {P : Program} {ops : Array Oper} {Q : Exit → Act → World → Prop} {md : Region.Mode} {S : World → Prop} {ds : List Nat} {fuel : Nat} {l : Array Bool} {a a' : Act} {v : Value} {w : World} (N : Option Tmp) (h : wpAnyLast P md ops Q S ds fuel l a' w)
    (ha : a.put N v = a' := by simp only [Act.put, List.setIfInBounds_toArray, List.set_cons_zero, List.set_cons_succ, i64_w, i32_w]; rfl) : wpAnyLast P md ops Q S ds fuel l (a.put N v) w := norm_ ha h
theorem blk3 {w : World} {g : Nat} {t : TypeId} {x y z : Value} (h : w.heap[g]? = some (.cells #[x, y, z] t (0, 0))) : w.cell? ⟨g, 0, none⟩ = some x ∧ w.cell? ⟨g, 1, none⟩ = some y ∧ w.cell? ⟨g, 2, none⟩ = some z ∧ w.frozen? ⟨g, 0, none⟩ = false ∧ w.frozen? ⟨g, 1, none⟩ = false ∧ w.frozen? ⟨g, 2, none⟩ = false :=
  ⟨(blk_cell h 0).trans rfl, (blk_cell h 1).trans rfl, (blk_cell h 2).trans rfl, blk_frozen h 0, blk_frozen h 1, blk_frozen h 2⟩
/-! ### marigraphkeep_Lists: function 37 -/
def marigraphkeep_Lists.l0 : Nat → List (List Int) → List (List Int) → Int → Option (Bool)
 | 0, _, _, _ => none
 | k + 1, x0, x1, x5 => if x5 < (x0.length : Int) then (if 0 ≤ x5 then (if x5 < (x1.length : Int) then (if (strOfNums (rd_L1 x0 x5)).toList = (strOfNums (rd_L1 x1 x5)).toList then (marigraphkeep_Lists.l0 k x0 x1 (wrap64 (x5 + 1))) else (some false)) else (none)) else (none)) else (some true)
def marigraphkeep_Lists.f (k : Nat) (l0 : List (List Int)) (l1 : List (List Int)) : Option (Bool) := if (l0.length : Int) = (l1.length : Int) then (marigraphkeep_Lists.l0 k l0 l1 0) else (some false)
theorem marigraphkeep_Lists.mono_l : ∀ k, (∀ y0 y1 y2, LeO (marigraphkeep_Lists.l0 k y0 y1 y2) (marigraphkeep_Lists.l0 (k + 1) y0 y1 y2))
 | 0 => fun _ _ _ r h => by simp [marigraphkeep_Lists.l0] at h
 | k + 1 => by
  have ih0 := marigraphkeep_Lists.mono_l k
  ·intro y0 y1 y2
   unfold marigraphkeep_Lists.l0
   repeat' first
   | (with_reducible exact ih0 _ _ _)
   | (with_reducible exact LeO.refl _)
   | (with_reducible exact LeO.none _)
   | (with_reducible refine LeO.ite ?_ ?_)
   | (with_reducible refine LeO.bind ?_ (fun _ => ?_))
   | exact ih0 _ _ _
   | exact LeO.none _
   | refine LeO.ite ?_ ?_
   | refine LeO.bind ?_ (fun _ => ?_)
theorem marigraphkeep_Lists.mono : ∀ a0 a1 k, LeO (marigraphkeep_Lists.f k a0 a1) (marigraphkeep_Lists.f (k + 1) a0 a1) := by
 intro a0 a1 k
 have ih0 := marigraphkeep_Lists.mono_l k
 unfold marigraphkeep_Lists.f
 repeat' first
   | (with_reducible exact ih0 _ _ _)
   | (with_reducible exact LeO.refl _)
   | (with_reducible exact LeO.none _)
   | (with_reducible refine LeO.ite ?_ ?_)
   | (with_reducible refine LeO.bind ?_ (fun _ => ?_))
   | exact ih0 _ _ _
   | exact LeO.none _
   | refine LeO.ite ?_ ?_
   | refine LeO.bind ?_ (fun _ => ?_)
set_option maxHeartbeats 8000000 in
set_option maxRecDepth 100000 in
theorem marigraphkeep_Lists.calls (k : Nat) (A0 : Option Addr) (c0 : Nat) (l0 : List (List Int)) (A1 : Option Addr) (c1 : Nat) (l1 : List (List Int)) (r : Bool) (w : World) (hr0 : Kd.C (Kd.slice 5 (Kd.int .u8)) w A0 l0.length l0) (hc0 : l0.length ≤ c0) (hr1 : Kd.C (Kd.slice 5 (Kd.int .u8)) w A1 l1.length l1) (hc1 : l1.length ≤ c1) (h : marigraphkeep_Lists.f k l0 l1 = some r) :
  Calls Try.prog 37 #[.slice A0 l0.length c0, .slice A1 l1.length c1] w fun e w' => e = .returned (.bool r) ∧ Drawn0 w w' := by
 have HR0 := Aside0.mk hr0
 have HC0 := Aside0.mk hc0
 clear hr0 hc0
 have HR1 := Aside0.mk hr1
 have HC1 := Aside0.mk hc1
 clear hr1 hc1
 have H : (if (l0.length : Int) = (l1.length : Int) then (marigraphkeep_Lists.l0 k l0 l1 0) else (some false)) = some r := h
 clear h
 by_cases c3 : (l0.length : Int) = (l1.length : Int)
 ·rw [if_pos c3] at H
  have c3b0 : ((l0.length : Int) == (l1.length : Int)) = true := beq_iff_eq.mpr c3
  have c3b1 : ((l0.length : Int) != (l1.length : Int)) = false := bne_eq_false_iff_eq.mpr c3
  have c3b2 : (l0.length == l1.length) = true := by first | simpa using c3 | (simp at c3 ⊢; omega)
  clear c3
  have H' := Aside0.mk H
  clear H
  go_enter Try.func37, Try.ntmps37
  go_wp2
  repeat (go_quiet (fail); try go_wp2)
  go_loopg [5] k (fun kq v5 w' => ∃ (x5_1 : Int), v5 = .int .i64 x5_1 ∧ Aside0 (marigraphkeep_Lists.l0 kq l0 l1 x5_1 = some r) ∧ Aside0 (kq ≤ k) ∧ Drawn0 w w')
  case atStart => exact ⟨(0), (by first | rfl | (simp; done) | (simp [*]; done)), H', ⟨Nat.le_refl _⟩, by repeat (first | exact Drawn0.refl _ | apply Drawn0.step)⟩
  case round =>
   clear H'
   try clear c1
   try clear p2
   try clear c3
   try clear c3b0
   try clear c3b1
   try clear c3b2
   obtain ⟨x5_1, rfl, HA, HK1, ⟨m1, rfl⟩⟩ := hrel
   cases gk with
   | zero => exact absurd HA.out (by simp [marigraphkeep_Lists.l0])
   | succ k1 =>
    have H := HA.out
    clear HA
    simp only [marigraphkeep_Lists.l0] at H
    by_cases c4 : x5_1 < (l0.length : Int)
    ·rw [if_pos c4] at H
     have c4b0 : decide (x5_1 < (l0.length : Int)) = true := decide_eq_true c4
     clear c4
     by_cases c5 : 0 ≤ x5_1
     ·rw [if_pos c5] at H
      have c5b0 : decide (0 ≤ x5_1) = true := decide_eq_true c5
      clear c5
      by_cases c6 : x5_1 < (l1.length : Int)
      ·rw [if_pos c6] at H
       have c6b0 : decide (x5_1 < (l1.length : Int)) = true := decide_eq_true c6
       clear c6
       by_cases c7 : (strOfNums (rd_L1 l0 x5_1)).toList = (strOfNums (rd_L1 l1 x5_1)).toList
       ·rw [if_pos c7] at H
        have c7b0 : ((strOfNums (rd_L1 l0 x5_1)).toList == (strOfNums (rd_L1 l1 x5_1)).toList) = true := beq_iff_eq.mpr c7
        have c7b1 : ((strOfNums (rd_L1 l0 x5_1)).toList != (strOfNums (rd_L1 l1 x5_1)).toList) = false := bne_eq_false_iff_eq.mpr c7
        clear c7
        have H' := Aside0.mk H
        clear H
        have p165 : 0 ≤ (x5_1 : Int) := of_decide_eq_true (by first | (with_reducible assumption) | assumption)
        have q165 : x5_1 < (l0.length : Int) := of_decide_eq_true (by first | (with_reducible assumption) | assumption)
        obtain ⟨ad165, A165_0, c165_0, e165, hx165_0, hl165_0, hi165_0⟩ := at_L1 HR0.out x5_1 p165 q165
        cases e165
        have HR165_0 := Aside0.mk hi165_0
        have HC165_0 := Aside0.mk hl165_0
        clear hi165_0 hl165_0
        replace p165 := eq_true p165
        replace q165 := eq_true q165
        have hcv8 := Kd.C_string (P := Try.prog) (A := A165_0) (c := c165_0) Try.underlying23 Try.underlying5 Try.underlying9 HR165_0.out
        have p166 : 0 ≤ (x5_1 : Int) := of_decide_eq_true (by first | (with_reducible assumption) | assumption)
        have q166 : x5_1 < (l1.length : Int) := of_decide_eq_true (by first | (with_reducible assumption) | assumption)
        obtain ⟨ad166, A166_0, c166_0, e166, hx166_0, hl166_0, hi166_0⟩ := at_L1 HR1.out x5_1 p166 q166
        cases e166
        have HR166_0 := Aside0.mk hi166_0
        have HC166_0 := Aside0.mk hl166_0
        clear hi166_0 hl166_0
        replace p166 := eq_true p166
        replace q166 := eq_true q166
        have hcv9 := Kd.C_string (P := Try.prog) (A := A166_0) (c := c166_0) Try.underlying23 Try.underlying5 Try.underlying9 HR166_0.out
        go_wp2
        refine start_ (n := 11) (S := fun w' => w'.cell? (ad165.add x5_1.toNat) = some (.slice A165_0 (rd_L1 l0 x5_1).length c165_0) ∧ w'.cell? (ad166.add x5_1.toNat) = some (.slice A166_0 (rd_L1 l1 x5_1).length c166_0) ∧ Kd.C (Kd.int .u8) w' A165_0 (rd_L1 l0 x5_1).length (rd_L1 l0 x5_1) ∧ Kd.C (Kd.int .u8) w' A166_0 (rd_L1 l1 x5_1).length (rd_L1 l1 x5_1)) (ds := []) (bA 11 0) (by kernel_rfl) rfl rfl ⟨hx165_0, hx166_0, Kd.C_drew (Kd.C_drewN HR165_0.out _), Kd.C_drew (Kd.C_drewN HR166_0.out _)⟩ (fun hHeld => ?_)
        refine norm_ (by rfl) ?_
        refine pK 0 (some 17) (bA 11 1) ?_
        refine pK 1 (some 18) (bA 11 3) ?_
        refine pK 2 (some 19) (bA 11 7) ?_
        refine tK 3 (some 20) (bA 11 15) rfl rfl hHeld (by rintro w' ⟨s0, s1, s2, s3⟩; go_simp; with_reducible rfl) ?_
        refine tK 4 (some 21) (bA 11 31) rfl rfl hHeld (by rintro w' ⟨s0, s1, s2, s3⟩; have e_ := Kd.C_string (P := Try.prog) (c := c165_0) Try.underlying23 Try.underlying5 Try.underlying9 s2; go_simp; with_reducible rfl) ?_
        refine pK 5 (some 22) (bA 11 63) ?_
        refine pK 6 (some 23) (bA 11 127) ?_
        refine pK 7 (some 24) (bA 11 255) ?_
        refine tK 8 (some 25) (bA 11 511) rfl rfl hHeld (by rintro w' ⟨s0, s1, s2, s3⟩; go_simp; with_reducible rfl) ?_
        refine tK 9 (some 26) (bA 11 1023) rfl rfl hHeld (by rintro w' ⟨s0, s1, s2, s3⟩; have e_ := Kd.C_string (P := Try.prog) (c := c166_0) Try.underlying23 Try.underlying5 Try.underlying9 s3; go_simp; with_reducible rfl) ?_
        refine pK 10 (some 27) (bA 11 2047) ?_
        refine done_ (by kernel_rfl) ?_
        clear hHeld
        go_wp2
        go_roundg k1
        case measure => have := HK1.out; omega
        case rel => exact ⟨(wrap64 (x5_1 + 1)), (by first | rfl | (simp; done) | (simp [*]; done)), H', ⟨by have := HK1.out; omega⟩, by repeat (first | exact Drawn0.refl _ | apply Drawn0.step)⟩
       ·rw [if_neg c7] at H
        have c7b0 : ((strOfNums (rd_L1 l0 x5_1)).toList == (strOfNums (rd_L1 l1 x5_1)).toList) = false := beq_eq_false_iff_ne.mpr c7
        have c7b1 : ((strOfNums (rd_L1 l0 x5_1)).toList != (strOfNums (rd_L1 l1 x5_1)).toList) = true := bne_iff_ne.mpr c7
        obtain rfl := Option.some.inj H
        have p165 : 0 ≤ (x5_1 : Int) := of_decide_eq_true (by first | (with_reducible assumption) | assumption)
        have q165 : x5_1 < (l0.length : Int) := of_decide_eq_true (by first | (with_reducible assumption) | assumption)
        obtain ⟨ad165, A165_0, c165_0, e165, hx165_0, hl165_0, hi165_0⟩ := at_L1 HR0.out x5_1 p165 q165
        cases e165
        have HR165_0 := Aside0.mk hi165_0
        have HC165_0 := Aside0.mk hl165_0
        clear hi165_0 hl165_0
        replace p165 := eq_true p165
        replace q165 := eq_true q165
        have hcv10 := Kd.C_string (P := Try.prog) (A := A165_0) (c := c165_0) Try.underlying23 Try.underlying5 Try.underlying9 HR165_0.out
        have p166 : 0 ≤ (x5_1 : Int) := of_decide_eq_true (by first | (with_reducible assumption) | assumption)
        have q166 : x5_1 < (l1.length : Int) := of_decide_eq_true (by first | (with_reducible assumption) | assumption)
        obtain ⟨ad166, A166_0, c166_0, e166, hx166_0, hl166_0, hi166_0⟩ := at_L1 HR1.out x5_1 p166 q166
        cases e166
        have HR166_0 := Aside0.mk hi166_0
        have HC166_0 := Aside0.mk hl166_0
        clear hi166_0 hl166_0
        replace p166 := eq_true p166
        replace q166 := eq_true q166
        have hcv11 := Kd.C_string (P := Try.prog) (A := A166_0) (c := c166_0) Try.underlying23 Try.underlying5 Try.underlying9 HR166_0.out
        go_wp2
        refine start_ (n := 11) (S := fun w' => w'.cell? (ad165.add x5_1.toNat) = some (.slice A165_0 (rd_L1 l0 x5_1).length c165_0) ∧ w'.cell? (ad166.add x5_1.toNat) = some (.slice A166_0 (rd_L1 l1 x5_1).length c166_0) ∧ Kd.C (Kd.int .u8) w' A165_0 (rd_L1 l0 x5_1).length (rd_L1 l0 x5_1) ∧ Kd.C (Kd.int .u8) w' A166_0 (rd_L1 l1 x5_1).length (rd_L1 l1 x5_1)) (ds := []) (bA 11 0) (by kernel_rfl) rfl rfl ⟨hx165_0, hx166_0, Kd.C_drew (Kd.C_drewN HR165_0.out _), Kd.C_drew (Kd.C_drewN HR166_0.out _)⟩ (fun hHeld => ?_)
        refine norm_ (by rfl) ?_
        refine pK 0 (some 17) (bA 11 1) ?_
        refine pK 1 (some 18) (bA 11 3) ?_
        refine pK 2 (some 19) (bA 11 7) ?_
        refine tK 3 (some 20) (bA 11 15) rfl rfl hHeld (by rintro w' ⟨s0, s1, s2, s3⟩; go_simp; with_reducible rfl) ?_
        refine tK 4 (some 21) (bA 11 31) rfl rfl hHeld (by rintro w' ⟨s0, s1, s2, s3⟩; have e_ := Kd.C_string (P := Try.prog) (c := c165_0) Try.underlying23 Try.underlying5 Try.underlying9 s2; go_simp; with_reducible rfl) ?_
        refine pK 5 (some 22) (bA 11 63) ?_
        refine pK 6 (some 23) (bA 11 127) ?_
        refine pK 7 (some 24) (bA 11 255) ?_
        refine tK 8 (some 25) (bA 11 511) rfl rfl hHeld (by rintro w' ⟨s0, s1, s2, s3⟩; go_simp; with_reducible rfl) ?_
        refine tK 9 (some 26) (bA 11 1023) rfl rfl hHeld (by rintro w' ⟨s0, s1, s2, s3⟩; have e_ := Kd.C_string (P := Try.prog) (c := c166_0) Try.underlying23 Try.underlying5 Try.underlying9 s3; go_simp; with_reducible rfl) ?_
        refine pK 10 (some 27) (bA 11 2047) ?_
        refine done_ (by kernel_rfl) ?_
        clear hHeld
        go_wp2
        go_ret
        exact ⟨by first | rfl | (simp; done) | (simp [*]; done), by repeat (first | exact Drawn0.refl _ | apply Drawn0.step)⟩
      ·rw [if_neg c6] at H
       exact absurd H (by simp)
     ·rw [if_neg c5] at H
      exact absurd H (by simp)
    ·rw [if_neg c4] at H
     have c4b0 : decide (x5_1 < (l0.length : Int)) = false := decide_eq_false c4
     clear c4
     obtain rfl := Option.some.inj H
     go_wp2
     repeat (go_quiet (fail); try go_wp2)
     go_ret
     exact ⟨by first | rfl | (simp; done) | (simp [*]; done), by repeat (first | exact Drawn0.refl _ | apply Drawn0.step)⟩
 ·rw [if_neg c3] at H
  have c3b0 : ((l0.length : Int) == (l1.length : Int)) = false := beq_eq_false_iff_ne.mpr c3
  have c3b1 : ((l0.length : Int) != (l1.length : Int)) = true := bne_iff_ne.mpr c3
  have c3b2 : (l0.length == l1.length) = false := by first | simpa using c3 | (simp at c3 ⊢; omega)
  obtain rfl := Option.some.inj H
  go_enter Try.func37, Try.ntmps37
  go_wp2
  repeat (go_quiet (fail); try go_wp2)
  go_ret
  exact ⟨by first | rfl | (simp; done) | (simp [*]; done), by repeat (first | exact Drawn0.refl _ | apply Drawn0.step)⟩

end Go.Proofs.Ytmimfnangdabmaa.PFrameTells

/- The walk of the Go functions that a law reaches, told as plain functions; a program of this session has written it. No condition beyond the statement's own. -/
import Derived.Test.YtmimfnangdabmaaPFrameNumbersx0
import Derived.Test.YtmimfnangdabmaaPFrameNumbersx1
import Derived.Test.YtmimfnangdabmaaPFrameNumbersx3
namespace Go.Proofs.Ytmimfnangdabmaa.PFrameNumbers
open Go.RowKit Go.Proofs.YtmimfnangdabmaaW.PrintWords Go.Proofs.YtmimfnangdabmaaW.PrintLast Go.Proofs.YtmimfnangdabmaaW.PrintMore
attribute [local go_sem] max2_int min2_int max_two min_two max_three min_three max_four min_four   -- for this text's walks alone
set_option linter.unusedVariables false
set_option linter.unusedSimpArgs false

/-! ### frame.read, by hand: a reader (take, number, entry) and a loop, with a way out that gives none -/
/-- What the reader has left, in a world that keeps what came in. -/
structure Rd (w0 w : World) (g : Nat) (q : List Int) : Prop where
  at_ : ∃ A c, w.heap[g]? = some (.cells #[.slice A q.length c] 96 (0, 0)) ∧ Kd.C (Kd.int .u8) w0 A q.length q ∧ q.length ≤ c
  below : Below w0.heap.size w0 w
  own : w0.heap.size ≤ g
theorem Rd.alloc {w0 w : World} {g : Nat} {q : List Int} (h : Rd w0 w g q) (o : Obj) : Rd w0 (w.alloc o) g q := by
  obtain ⟨⟨A, c, hb, hC, hc⟩, HB, hg⟩ := h
  exact ⟨⟨A, c, blk_alloc hb o, hC, hc⟩, below_alloc HB o, hg⟩
theorem Rd.drew {w0 w : World} {g : Nat} {q : List Int} (h : Rd w0 w g q) : Rd w0 w.drew g q := by
  obtain ⟨⟨A, c, hb, hC, hc⟩, HB, hg⟩ := h
  exact ⟨⟨A, c, blk_drew hb, hC, hc⟩, below_drew1 HB, hg⟩
theorem Rd.drewN {w0 w : World} {g : Nat} {q : List Int} (h : Rd w0 w g q) (n : Nat) : Rd w0 (w.drewN n) g q := by
  obtain ⟨⟨A, c, hb, hC, hc⟩, HB, hg⟩ := h
  exact ⟨⟨A, c, blk_drewN hb n, hC, hc⟩, pw_below_drewN HB n, hg⟩
theorem Rd.far {w0 w : World} {g g' j : Nat} {q : List Int} (h : Rd w0 w g q) (hne : g ≠ g') (hg' : w0.heap.size ≤ g') (v : Value) : Rd w0 (w.setCell ⟨g', j, none⟩ v) g q := by
  obtain ⟨⟨A, c, hb, hC, hc⟩, HB, hg⟩ := h
  exact ⟨⟨A, c, blk_far (p := ⟨g', j, none⟩) hb hne v, hC, hc⟩, below_set HB hg', hg⟩
theorem Rd.grown {w0 w w1 : World} {g : Nat} {row : Option Nat} {q : List Int} (h : Rd w0 w g q) (hg1 : w.grownBy w1 row) (hne : some g ≠ row) (hB : Below w0.heap.size w0 w1) : Rd w0 w1 g q := by
  obtain ⟨⟨A, c, hb, hC, hc⟩, HB, hg⟩ := h
  exact ⟨⟨A, c, blk_grown hb hg1 hne, hC, hc⟩, hB, hg⟩
/-- A panic of the reader. -/
def lacks : List PanicEntry := [{ v := .iface 29 (.int .i64 12), recovered := false }]
set_option maxHeartbeats 8000000 in
set_option maxRecDepth 100000 in
theorem take_ok {w0 w : World} {g n : Nat} {q : List Int} (h : Rd w0 w g q) (hn : n ≤ q.length) (hq : q.length < 140737488355328) :
    Calls Try.prog 67 #[.pointer (some ⟨g, 0, none⟩), .int .i64 (n : Int)] w fun e w' => ∃ v, e = .returned v ∧ Kd.R (Kd.int .u8) 5 w' w.heap.size (fun _ => True) v (q.take n) ∧ KeepBut w w' g none ∧ Rd w0 w' g (q.drop n) := by
  obtain ⟨⟨A, c, hb, hC, hc⟩, HB, hg⟩ := h
  have hu96 := Try.underlying96
  have hlt := blk_lt hb
  obtain ⟨i0, hi0, _, hsz0, _⟩ := info_parts info5
  obtain ⟨hcut1, hR1, hc1⟩ := print_take_of (P := Try.prog) (Value.int .u8) 0 23 5 .i64 Try.underlying23 hi0 hsz0 A c q (n : Int) (by omega) (by omega) hc
  obtain ⟨A2, hcut2, hR2, hc2⟩ := print_drop_of (P := Try.prog) (Value.int .u8) 0 23 5 .i64 Try.underlying23 hi0 hsz0 A c q (n : Int) (by omega) (by omega) hc
  rw [Int.toNat_natCast] at hcut1 hR1 hc1 hcut2 hR2 hc2
  have hC1 : Kd.C (Kd.int .u8) w0 A (q.take n).length (q.take n) := Kd.C_of_reads (hR1 _ (Kd.reads_of_C (d := (0 : Int)) hC))
  have hC2 : Kd.C (Kd.int .u8) w0 A2 (q.drop n).length (q.drop n) := Kd.C_of_reads (hR2 _ (Kd.reads_of_C (d := (0 : Int)) hC))
  have htl : (q.take n).length < 140737488355328 := by rw [List.length_take]; omega
  have hgt : ¬ ((n : Int) > (q.length : Int)) := by omega
  have hd : decide (q.length < n) = false := decide_eq_false (by omega)
  clear hR1 hR2 hgt hn
  generalize q.take n = t at *
  generalize q.drop n = r at *
  have hclone : slices_Clone_byte_byte.f t = some t := by unfold slices_Clone_byte_byte.f; rw [if_pos htl]
  have hce := blk_cell hb 0
  have hf := blk_frozen hb 0
  have hC1w := Kd.C_below hC1 HB
  go_enter Try.func67, Try.ntmps67
  go_wp2_with (go_at_call 45; refine (slices_Clone_byte_byte.calls A c t t _ ?sC hc1 hclone).mono ?_; (case sC => exact hC1w); rintro e w1 ⟨v1, rfl, hv1, hb1⟩; have hce1 : w1.cell? ⟨g, 0, none⟩ = _ := (blk_cell (blk_below hb hb1) 0).trans rfl; have hf1 := blk_frozen (blk_below hb hb1) 0)
  go_ret
  refine ⟨_, rfl, ?_, ?_, ?_⟩
  · refine Kd.R_far (p := ⟨g, 0, none⟩) (Kd.R_mono (Kd.R_bound hv1) (ok' := fun k => k ≠ g) (fun k hk => ?_)) (fun _ hk => hk) _ |> fun z => Kd.R_mono z (fun _ _ => trivial)
    have := hk.2.1
    omega
  · exact (KeepBut.of_below hb1 g none).set_ 0 _
  · exact ⟨⟨A2, c - n, blk_put (blk_below hb hb1) 0 _ rfl, hC2, hc2⟩, below_set (below_step HB hb1) hg, hg⟩
set_option maxHeartbeats 8000000 in
set_option maxRecDepth 100000 in
theorem take_short {w0 w : World} {g n : Nat} {q : List Int} (h : Rd w0 w g q) (hn : q.length < n) :
    Calls Try.prog 67 #[.pointer (some ⟨g, 0, none⟩), .int .i64 (n : Int)] w fun e w' => e = .panicked lacks ∧ KeepBut w w' g none ∧ Rd w0 w' g q := by
  have h' := h
  obtain ⟨⟨A, c, hb, hC, hc⟩, HB, hg⟩ := h
  have hu96 := Try.underlying96
  have hd : decide (q.length < n) = true := decide_eq_true hn
  have hce := blk_cell hb 0
  have hf := blk_frozen hb 0
  have hpan : ∀ (w : World), (Instr.panic (.iface 29 (.int .i64 12))).run Try.prog w = .halt (.panic (.iface 29 (.int .i64 12))) w := fun _ => rfl
  go_enter Try.func67, Try.ntmps67
  go_wp2
  exact ⟨rfl, rfl, KeepBut.refl _ _ _, h'⟩
/-- A number's value, as the reader tells it. -/
def num (s : Nat) (q : List Int) : Int := wrap64 (getI 0 (q.take s))
set_option maxHeartbeats 8000000 in
set_option maxRecDepth 100000 in
theorem number_ok {w0 w : World} {g s : Nat} {q : List Int} (h : Rd w0 w g q) (hs1 : 1 ≤ s) (hs8 : s ≤ 8) (hn : s ≤ q.length) (hq : q.length < 140737488355328) :
    Calls Try.prog 64 #[.pointer (some ⟨g, 0, none⟩), .int .i64 (s : Int)] w fun e w' => e = .returned (.int .i64 (num s q)) ∧ KeepBut w w' g none ∧ Rd w0 w' g (q.drop s) := by
  have hget : octet_Get.f (q.take s) (s : Int) = some (getI 0 (q.take s), true) := by
    unfold octet_Get.f
    rw [if_neg (by omega), if_neg (by omega), if_neg (by rw [List.length_take]; omega), Int.toNat_natCast, List.take_take, Nat.min_self]
  go_enter Try.func64, Try.ntmps64
  have hT := take_ok h hn hq
  unfold num
  generalize q.take s = t at *
  generalize q.drop s = r at *
  go_wp2_with (first | (go_at_call 59; refine (octet_Get.calls A1 c1 t (s : Int) _ _ _ hC1 hl1 hget).mono ?_; rintro e w2 ⟨rfl, n, rfl⟩) | (go_at_call 67; refine hT.mono ?_; rintro e w1 ⟨v1, rfl, hv1, hk1, hr1⟩; obtain ⟨A1, c1, rfl, hl1, hC1⟩ := Kd.R_reads hv1))
  go_ret
  exact ⟨rfl, keep_drewN hk1 n, hr1.drewN n⟩
set_option maxHeartbeats 8000000 in
set_option maxRecDepth 100000 in
theorem number_short {w0 w : World} {g s : Nat} {q : List Int} (h : Rd w0 w g q) (hn : q.length < s) :
    Calls Try.prog 64 #[.pointer (some ⟨g, 0, none⟩), .int .i64 (s : Int)] w fun e w' => e = .panicked lacks ∧ KeepBut w w' g none ∧ Rd w0 w' g q := by
  have hT := take_short h hn
  go_enter Try.func64, Try.ntmps64
  go_wp2_with (go_at_call 67; refine hT.mono ?_; rintro e w1 ⟨rfl, hk1, hr1⟩)
  exact ⟨rfl, rfl, hk1, hr1⟩
theorem number_ok' {w0 w : World} {g s : Nat} {q : List Int} (h : Rd w0 w g q) (N : Int) (hN : N = (s : Int)) (hs1 : 1 ≤ s) (hs8 : s ≤ 8) (hn : s ≤ q.length) (hq : q.length < 140737488355328) :
    Calls Try.prog 64 #[.pointer (some ⟨g, 0, none⟩), .int .i64 N] w fun e w' => e = .returned (.int .i64 (num s q)) ∧ KeepBut w w' g none ∧ Rd w0 w' g (q.drop s) := by
  subst hN
  exact number_ok h hs1 hs8 hn hq
theorem number_short' {w0 w : World} {g s : Nat} {q : List Int} (h : Rd w0 w g q) (N : Int) (hN : N = (s : Int)) (hn : q.length < s) :
    Calls Try.prog 64 #[.pointer (some ⟨g, 0, none⟩), .int .i64 N] w fun e w' => e = .panicked lacks ∧ KeepBut w w' g none ∧ Rd w0 w' g q := by
  subst hN
  exact number_short h hn
theorem take_ok' {w0 w : World} {g : Nat} {q : List Int} (h : Rd w0 w g q) (N : Int) (h0 : 0 ≤ N) (hn : ¬ q.length < N.toNat) (hq : q.length < 140737488355328) :
    Calls Try.prog 67 #[.pointer (some ⟨g, 0, none⟩), .int .i64 N] w fun e w' => ∃ v, e = .returned v ∧ Kd.R (Kd.int .u8) 5 w' w.heap.size (fun _ => True) v (q.take N.toNat) ∧ KeepBut w w' g none ∧ Rd w0 w' g (q.drop N.toNat) := by
  obtain ⟨n, rfl⟩ := Int.eq_ofNat_of_zero_le h0
  exact take_ok h (by omega) hq
theorem take_short' {w0 w : World} {g : Nat} {q : List Int} (h : Rd w0 w g q) (N : Int) (h0 : 0 ≤ N) (hn : q.length < N.toNat) :
    Calls Try.prog 67 #[.pointer (some ⟨g, 0, none⟩), .int .i64 N] w fun e w' => e = .panicked lacks ∧ KeepBut w w' g none ∧ Rd w0 w' g q := by
  obtain ⟨n, rfl⟩ := Int.eq_ofNat_of_zero_le h0
  exact take_short h (by omega)
/-- One entry, as it is read: none: not told; some none: bytes lack. -/
def entryI (q : List Int) : Option (Option (S49 × List Int)) :=
  if q.length < 1 then some none else
  if (q.drop 1).length < 1 then some none else
  if 0 ≤ num 1 (q.drop 1) then
  if ((q.drop 1).drop 1).length < (num 1 (q.drop 1)).toNat then some none else
  if num 1 q = 0 then some (some (⟨((q.drop 1).drop 1).take (num 1 (q.drop 1)).toNat, [], true⟩, ((q.drop 1).drop 1).drop (num 1 (q.drop 1)).toNat)) else
  if (((q.drop 1).drop 1).drop (num 1 (q.drop 1)).toNat).length < 2 then some none else
  if 0 ≤ num 2 (((q.drop 1).drop 1).drop (num 1 (q.drop 1)).toNat) then
  if ((((q.drop 1).drop 1).drop (num 1 (q.drop 1)).toNat).drop 2).length < (num 2 (((q.drop 1).drop 1).drop (num 1 (q.drop 1)).toNat)).toNat then some none else
  some (some (⟨((q.drop 1).drop 1).take (num 1 (q.drop 1)).toNat, ((((q.drop 1).drop 1).drop (num 1 (q.drop 1)).toNat).drop 2).take (num 2 (((q.drop 1).drop 1).drop (num 1 (q.drop 1)).toNat)).toNat, false⟩, ((((q.drop 1).drop 1).drop (num 1 (q.drop 1)).toNat).drop 2).drop (num 2 (((q.drop 1).drop 1).drop (num 1 (q.drop 1)).toNat)).toNat)) else none
  else none
/-- What entry tells. -/
def EntryTold (w0 w : World) (g : Nat) (r : Option (S49 × List Int)) (e : Ending) (w' : World) : Prop :=
  KeepBut w w' g none ∧ ((r = none ∧ e = .panicked lacks ∧ Below w0.heap.size w0 w') ∨
    ∃ x q' v0 v1, r = some (x, q') ∧ e = .returned (.agg #[v0, v1, .bool x.f2]) ∧ Kd.R (Kd.int .u8) 5 w' w.heap.size (fun _ => True) v0 x.f0 ∧ Kd.R (Kd.int .u8) 5 w' w.heap.size (fun _ => True) v1 x.f1 ∧ Rd w0 w' g q')
theorem keep_before {w w1 w2 : World} {g : Nat} (h : KeepBut w w1 g none) (k : KeepBut w1 w2 g none) : KeepBut w w2 g none := h.trans k (.inl rfl)
/-- How it stands while an entry is read: its result's block, its own. -/
structure ES (w0 w w' : World) (g e2 : Nat) (q : List Int) (v0 v1 : Value) (x : S49) : Prop where
  res : w'.heap[w.heap.size]? = some (.cells #[.slice none 0 0, .slice none 0 0, .bool false] 49 (0, 0))
  loc : w'.heap[e2]? = some (.cells #[v0, v1, .bool x.f2] 49 (0, 0))
  ne : w.heap.size < e2
  own : g < w.heap.size
  keep : KeepBut w w' g none
  rd : Rd w0 w' g q
  r0 : Kd.R (Kd.int .u8) 5 w' w.heap.size (fun _ => True) v0 x.f0
  r1 : Kd.R (Kd.int .u8) 5 w' w.heap.size (fun _ => True) v1 x.f1
theorem row_kept {W W' : World} {B g : Nat} {v : Value} {xs : List Int} (h : Kd.R (Kd.int .u8) 5 W B (fun _ => True) v xs) (hk : KeepBut W W' g none) (hg : g < B) : Kd.R (Kd.int .u8) 5 W' B (fun _ => True) v xs :=
  Kd.R_mono (Kd.R_keep (Kd.R_bound h) hk (fun k hk' => by have := hk'.2.1; omega)) (fun _ _ => trivial)
theorem ES.call {w0 w w' w'' : World} {g e2 : Nat} {q q' : List Int} {v0 v1 : Value} {x : S49} (h : ES w0 w w' g e2 q v0 v1 x) (hk : KeepBut w' w'' g none) (hr : Rd w0 w'' g q') : ES w0 w w'' g e2 q' v0 v1 x := by
  obtain ⟨h1, h2, h3, h4, h5, h6, h7, h8⟩ := h
  exact ⟨hk.blk h1 (by omega) (by simp), hk.blk h2 (by omega) (by simp), h3, h4, h5.trans hk (.inl rfl), hr, row_kept h7 hk h4, row_kept h8 hk h4⟩
theorem ES.key {w0 w w' : World} {g e2 : Nat} {q : List Int} {v0 v1 v : Value} {x : S49} {k : List Int} (h : ES w0 w w' g e2 q v0 v1 x) (hv : Kd.R (Kd.int .u8) 5 w' w.heap.size (fun _ => True) v k) : ES w0 w (w'.setCell ⟨e2, 0, none⟩ v) g e2 q v v1 ⟨k, x.f1, x.f2⟩ := by
  obtain ⟨h1, h2, h3, h4, h5, h6, h7, h8⟩ := h
  have hw : w0.heap.size ≤ e2 := by have := h6.own; omega
  exact ⟨blk_far (p := ⟨e2, 0, none⟩) h1 (by show w.heap.size ≠ e2; omega) _, blk_put h2 0 _ rfl, h3, h4, keep_far h5 (show w.heap.size ≤ e2 by omega) _, h6.far (by omega) hw _, Kd.R_set hv h2 (by decide) 0 _, Kd.R_set h8 h2 (by decide) 0 _⟩
theorem ES.val {w0 w w' : World} {g e2 : Nat} {q : List Int} {v0 v1 v : Value} {x : S49} {k : List Int} (h : ES w0 w w' g e2 q v0 v1 x) (hv : Kd.R (Kd.int .u8) 5 w' w.heap.size (fun _ => True) v k) : ES w0 w (w'.setCell ⟨e2, 1, none⟩ v) g e2 q v0 v ⟨x.f0, k, x.f2⟩ := by
  obtain ⟨h1, h2, h3, h4, h5, h6, h7, h8⟩ := h
  have hw : w0.heap.size ≤ e2 := by have := h6.own; omega
  exact ⟨blk_far (p := ⟨e2, 1, none⟩) h1 (by show w.heap.size ≠ e2; omega) _, blk_put h2 1 _ rfl, h3, h4, keep_far h5 (show w.heap.size ≤ e2 by omega) _, h6.far (by omega) hw _, Kd.R_set h7 h2 (by decide) 1 _, Kd.R_set hv h2 (by decide) 1 _⟩
set_option maxHeartbeats 8000000 in
set_option maxRecDepth 100000 in
theorem ES.out {w0 w w' : World} {g e2 : Nat} {q : List Int} {v0 v1 : Value} {x : S49} (h : ES w0 w w' g e2 q v0 v1 x) :
    (((w'.setCell ⟨w.heap.size, 0, none⟩ v0).setCell ⟨w.heap.size, 1, none⟩ v1).setCell ⟨w.heap.size, 2, none⟩ (.bool x.f2)).heap[w.heap.size]? = some (.cells #[v0, v1, .bool x.f2] 49 (0, 0)) ∧
      EntryTold w0 w g (some (x, q)) (.returned (.agg #[v0, v1, .bool x.f2])) (((w'.setCell ⟨w.heap.size, 0, none⟩ v0).setCell ⟨w.heap.size, 1, none⟩ v1).setCell ⟨w.heap.size, 2, none⟩ (.bool x.f2)) := by
  obtain ⟨h1, h2, h3, h4, h5, h6, h7, h8⟩ := h
  have hw : w0.heap.size ≤ w.heap.size := by have := h6.own; omega
  have b1 := blk_put h1 0 v0 rfl
  have b2 := blk_put b1 1 v1 rfl
  have b3 := blk_put b2 2 (.bool x.f2) rfl
  refine ⟨b3.trans rfl, keep_far (keep_far (keep_far h5 (Nat.le_refl _) _) (Nat.le_refl _) _) (Nat.le_refl _) _, .inr ⟨x, q, v0, v1, rfl, rfl, ?_, ?_, ((h6.far (by omega) hw _).far (by omega) hw _).far (by omega) hw _⟩⟩
  · exact Kd.R_set (Kd.R_set (Kd.R_set h7 h1 (by decide) 0 _) b1 (by decide) 1 _) b2 (by decide) 2 _
  · exact Kd.R_set (Kd.R_set (Kd.R_set h8 h1 (by decide) 0 _) b1 (by decide) 1 _) b2 (by decide) 2 _
set_option maxHeartbeats 8000000 in
set_option maxRecDepth 100000 in
theorem entry_calls {w0 w : World} {g : Nat} {q : List Int} (h : Rd w0 w g q) (hq : q.length < 140737488355328) {r : Option (S49 × List Int)} (hr : entryI q = some r) :
    Calls Try.prog 65 #[.pointer (some ⟨g, 0, none⟩)] w fun e w' => EntryTold w0 w g r e w' := by
  have hg : g < w.heap.size := by obtain ⟨⟨A, c, hb, -, -⟩, -, -⟩ := h; exact blk_lt hb
  have hg0 := h.own
  have hu49 := Try.underlying49
  have hA := h.alloc (Obj.cells #[Value.slice none 0 0, Value.slice none 0 0, Value.bool false] 49)
  have hkA : KeepBut w (w.alloc (Obj.cells #[Value.slice none 0 0, Value.slice none 0 0, Value.bool false] 49)) g none := keep_alloc (KeepBut.refl _ _ _) _
  have hbA := blk_new w (Obj.cells #[Value.slice none 0 0, Value.slice none 0 0, Value.bool false] 49)
  have hsA : (w.alloc (Obj.cells #[Value.slice none 0 0, Value.slice none 0 0, Value.bool false] 49)).heap.size = w.heap.size + 1 := Array.size_push _
  unfold entryI at hr
  by_cases c1 : q.length < 1
  · rw [if_pos c1] at hr
    obtain rfl := Option.some.inj hr
    go_enter Try.func65, Try.ntmps65
    go_wp2_with (go_at_call 64; refine (number_short' hA 1 rfl c1).mono ?_; rintro e w1 ⟨rfl, hk1, hr1⟩)
    exact ⟨rfl, keep_before hkA hk1, .inl ⟨rfl, rfl, hr1.below⟩⟩
  rw [if_neg c1] at hr
  have hN1 := number_ok' hA 1 rfl (by decide) (by decide) (show 1 ≤ q.length by omega) hq
  have hq1 : (q.drop 1).length < 140737488355328 := by rw [List.length_drop]; omega
  generalize num 1 q = gone at *
  generalize q.drop 1 = q1 at *
  go_enter Try.func65, Try.ntmps65
  go_upto_region 2 with (go_at_call 64; refine hN1.mono ?_; rintro e w1 ⟨rfl, hk1, hr1⟩)
  have hE : ES w0 w (w1.alloc (Obj.cells #[Value.slice none 0 0, Value.slice none 0 0, Value.bool (gone == 0)] 49)) g w1.heap.size q1 (.slice none 0 0) (.slice none 0 0) ⟨[], [], gone == 0⟩ :=
    ⟨blk_alloc (hk1.blk hbA (by omega) (by simp)) _, blk_new _ _, by have := hk1.1; omega, hg, keep_alloc (keep_before hkA hk1) _, hr1.alloc _, Kd.R_nil _ _ _ _ _, Kd.R_nil _ _ _ _ _⟩
  clear hA hkA hbA hsA hN1 hk1 hr1
  generalize (w1.alloc (Obj.cells #[Value.slice none 0 0, Value.slice none 0 0, Value.bool (gone == 0)] 49)) = w2 at hE ⊢
  generalize w1.heap.size = e2 at hE ⊢
  by_cases c2 : q1.length < 1
  · rw [if_pos c2] at hr
    obtain rfl := Option.some.inj hr
    go_wp2_with (go_at_call 64; refine (number_short' hE.rd 1 rfl c2).mono ?_; rintro e w3 ⟨rfl, hk3, hr3⟩)
    exact ⟨rfl, keep_before hE.keep hk3, .inl ⟨rfl, rfl, hr3.below⟩⟩
  rw [if_neg c2] at hr
  have hN2 := number_ok' hE.rd 1 rfl (by decide) (by decide) (show 1 ≤ q1.length by omega) hq1
  have hq2 : (q1.drop 1).length < 140737488355328 := by rw [List.length_drop]; omega
  generalize num 1 q1 = n at *
  generalize q1.drop 1 = q2 at *
  by_cases c3 : 0 ≤ n
  rotate_left
  · rw [if_neg c3] at hr; cases hr
  rw [if_pos c3] at hr
  by_cases c4 : q2.length < n.toNat
  · rw [if_pos c4] at hr
    obtain rfl := Option.some.inj hr
    go_wp2_with (first | (go_at_call 67; refine (take_short' hr3 n c3 c4).mono ?_; rintro e w4 ⟨rfl, hk4, hr4⟩) | (go_at_call 64; refine hN2.mono ?_; rintro e w3 ⟨rfl, hk3, hr3⟩))
    exact ⟨rfl, keep_before (keep_before hE.keep hk3) hk4, .inl ⟨rfl, rfl, hr4.below⟩⟩
  rw [if_neg c4] at hr
  have hT2 := fun (w3 : World) (hr3 : Rd w0 w3 g q2) => take_ok' hr3 n c3 c4 hq2
  have hq3 : (q2.drop n.toNat).length < 140737488355328 := by rw [List.length_drop]; omega
  generalize q2.take n.toNat = key at *
  generalize q2.drop n.toNat = q3 at *
  go_upto_region 3 with (first | (go_at_call 67; refine (hT2 _ hr3).mono ?_; rintro e w4 ⟨v4, rfl, hv4, hk4, hr4⟩; obtain ⟨A4, c4', rfl⟩ := Kd.R_slice hv4; have hE4 := (hE.call hk3 hr3).call hk4 hr4; have hf4 := blk_frozen hE4.loc 0; have hce4 : w4.cell? ⟨e2, 0, none⟩ = _ := (blk_cell hE4.loc 0).trans rfl) | (go_at_call 64; refine hN2.mono ?_; rintro e w3 ⟨rfl, hk3, hr3⟩))
  have hE5 := hE4.key (Kd.R_lower hv4 (hE.call hk3 hr3).keep.1)
  clear hE hE4 hk3 hr3 hk4 hr4 hv4 hT2 hN2 hf4 hce4
  generalize (w4.setCell ⟨e2, 0, none⟩ (Value.slice A4 key.length c4')) = w5 at hE5 ⊢
  have hg2 : w5.cell? ⟨e2, 2, none⟩ = some (.bool (gone == 0)) := (blk_cell hE5.loc 2).trans rfl
  have hf2 := blk_frozen hE5.loc 2
  by_cases c5 : gone = 0
  · rw [if_pos c5] at hr
    obtain rfl := Option.some.inj hr
    subst c5
    have hg0' : w5.cell? ⟨e2, 0, none⟩ = some (.slice A4 key.length c4') := (blk_cell hE5.loc 0).trans rfl
    have hg1 : w5.cell? ⟨e2, 1, none⟩ = some (.slice none 0 0) := (blk_cell hE5.loc 1).trans rfl
    have hs0 : w5.cell? ⟨w.heap.size, 0, none⟩ = some (.slice none 0 0) := (blk_cell hE5.res 0).trans rfl
    have hs1 : w5.cell? ⟨w.heap.size, 1, none⟩ = some (.slice none 0 0) := (blk_cell hE5.res 1).trans rfl
    have hs2 : w5.cell? ⟨w.heap.size, 2, none⟩ = some (.bool false) := (blk_cell hE5.res 2).trans rfl
    have hz0 := blk_frozen hE5.res 0
    have hz1 := blk_frozen hE5.res 1
    have hz2 := blk_frozen hE5.res 2
    go_wp2
    exact bodyPost_ret (results_cell_row (p := 2) (ty := 49) rfl _ _ w.heap.size 49 _ (0, 0) _ rfl hE5.out.1 hu49 rfl (by kernel_rfl)) rfl hE5.out.2
  rw [if_neg c5] at hr
  have hgn : (gone == 0) = false := by simp [c5]
  rw [hgn] at hE5 hg2
  by_cases c6 : q3.length < 2
  · rw [if_pos c6] at hr
    obtain rfl := Option.some.inj hr
    go_wp2_with (go_at_call 64; refine (number_short' hE5.rd 2 rfl c6).mono ?_; rintro e w6 ⟨rfl, hk6, hr6⟩)
    exact ⟨rfl, keep_before hE5.keep hk6, .inl ⟨rfl, rfl, hr6.below⟩⟩
  rw [if_neg c6] at hr
  have hN3 := number_ok' hE5.rd 2 rfl (by decide) (by decide) (show 2 ≤ q3.length by omega) hq3
  have hq4 : (q3.drop 2).length < 140737488355328 := by rw [List.length_drop]; omega
  generalize num 2 q3 = m at *
  generalize q3.drop 2 = q4 at *
  by_cases c7 : 0 ≤ m
  rotate_left
  · rw [if_neg c7] at hr; cases hr
  rw [if_pos c7] at hr
  by_cases c8 : q4.length < m.toNat
  · rw [if_pos c8] at hr
    obtain rfl := Option.some.inj hr
    go_wp2_with (first | (go_at_call 67; refine (take_short' hr6 m c7 c8).mono ?_; rintro e w7 ⟨rfl, hk7, hr7⟩) | (go_at_call 64; refine hN3.mono ?_; rintro e w6 ⟨rfl, hk6, hr6⟩))
    exact ⟨rfl, keep_before (keep_before hE5.keep hk6) hk7, .inl ⟨rfl, rfl, hr7.below⟩⟩
  rw [if_neg c8] at hr
  have hT3 := fun (w3 : World) (hr3 : Rd w0 w3 g q4) => take_ok' hr3 m c7 c8 hq4
  generalize q4.take m.toNat = val at *
  generalize q4.drop m.toNat = q5 at *
  obtain rfl := Option.some.inj hr
  go_upto_region 5 with (first | (go_at_call 67; refine (hT3 _ hr6).mono ?_; rintro e w7 ⟨v7, rfl, hv7, hk7, hr7⟩; obtain ⟨A7, c7', rfl⟩ := Kd.R_slice hv7; have hE7 := (hE5.call hk6 hr6).call hk7 hr7; have hf7 := blk_frozen hE7.loc 1; have hce7 : w7.cell? ⟨e2, 1, none⟩ = _ := (blk_cell hE7.loc 1).trans rfl) | (go_at_call 64; refine hN3.mono ?_; rintro e w6 ⟨rfl, hk6, hr6⟩))
  have hE8 := hE7.val (Kd.R_lower hv7 (hE5.call hk6 hr6).keep.1)
  clear hE5 hE7 hk6 hr6 hk7 hr7 hv7 hT3 hN3 hf7 hce7
  generalize (w7.setCell ⟨e2, 1, none⟩ (Value.slice A7 val.length c7')) = w8 at hE8 ⊢
  have hg0' : w8.cell? ⟨e2, 0, none⟩ = some (.slice A4 key.length c4') := (blk_cell hE8.loc 0).trans rfl
  have hg1 : w8.cell? ⟨e2, 1, none⟩ = some (.slice A7 val.length c7') := (blk_cell hE8.loc 1).trans rfl
  have hg2' : w8.cell? ⟨e2, 2, none⟩ = some (.bool false) := (blk_cell hE8.loc 2).trans rfl
  have hs0 : w8.cell? ⟨w.heap.size, 0, none⟩ = some (.slice none 0 0) := (blk_cell hE8.res 0).trans rfl
  have hs1 : w8.cell? ⟨w.heap.size, 1, none⟩ = some (.slice none 0 0) := (blk_cell hE8.res 1).trans rfl
  have hs2 : w8.cell? ⟨w.heap.size, 2, none⟩ = some (.bool false) := (blk_cell hE8.res 2).trans rfl
  have hz0 := blk_frozen hE8.res 0
  have hz1 := blk_frozen hE8.res 1
  have hz2 := blk_frozen hE8.res 2
  go_wp2
  exact bodyPost_ret (results_cell_row (p := 2) (ty := 49) rfl _ _ w.heap.size 49 _ (0, 0) _ rfl hE8.out.1 hu49 rfl (by kernel_rfl)) rfl hE8.out.2
set_option maxHeartbeats 8000000 in
set_option maxRecDepth 100000 in
theorem catch_panics (p : Addr) (x : Value) (u : TypeId) (pv : Value) (older : List PanicEntry) (w : World) (hc : w.cell? p = some x) (hz : w.frozen? p = false) :
    CallsD Try.prog 63 #[.pointer (some p)] (.panicking ({ v := .iface u pv, recovered := false } :: older)) w fun e u' w' =>
      e = .returned (.tuple #[]) ∧ u' = .panicking ({ v := .iface u pv, recovered := true } :: older) ∧ w' = w.setCell p (.slice none 0 0) := by
  refine callsD_of_wpS Try.func63 rfl fun c₀ cs hu => ?_
  apply wpS_seq
  apply wpS_region
  simp [wpOpsS, go_sem, recoverD, hu, Try.ntmps63, Exit.thenS]
  refine wpS_cond (t := true) (by simp [Act.eval, Array.replicate]) ?_
  simp only [if_true]
  apply wpS_region
  simp [wpOpsS, go_sem, hc, hz, bodyPostS, results, Try.results63]
set_option maxHeartbeats 8000000 in
set_option maxRecDepth 100000 in
theorem catch_idle (p : Addr) (w : World) :
    CallsD Try.prog 63 #[.pointer (some p)] .returning w fun e u' w' => e = .returned (.tuple #[]) ∧ u' = .returning ∧ w' = w := by
  refine callsD_of_wpS Try.func63 rfl fun c₀ cs hu => ?_
  apply wpS_seq
  apply wpS_region
  simp [wpOpsS, go_sem, recoverD, hu, Try.ntmps63, Exit.thenS]
  refine wpS_cond (t := false) (by simp [Act.eval, Array.replicate]) ?_
  simp only [Bool.false_eq_true, if_false]
  refine wpS_of_wp (wp_skip ?_)
  cases c₀
  simp_all [bodyPostS, results, Try.results63]
/-- The entries, one by one; none where bytes lack. -/
def readI : Nat → List Int → List S49 → Option (List S49)
  | 0, _, acc => some acc
  | n + 1, q, acc => if acc.length < 2513169434915 then (match entryI q with
    | none => none
    | some none => some []
    | some (some p) => readI n p.2 (acc ++ [p.1])) else none
def frame_read.f (l0 : List Int) : Option (List S49) :=
  if l0.length < 140737488355328 then (if l0.length < 2 then some [] else if 0 ≤ num 2 l0 then readI (num 2 l0).toNat (l0.drop 2) [] else none) else none
set_option maxHeartbeats 8000000 in
set_option maxRecDepth 100000 in
/-- The way out, by a return: the closure finds nothing to recover; the result is what the variable holds. -/
theorem door_ret {R : Ending → World → Prop} {tmps : Array Value} {p : Addr} {v0 : Value} {w : World} (ht : tmps[2]? = some (.pointer (some p))) (hc : w.cell? p = some v0) (hR : R (.returned v0) w) :
    bodyPostD Try.prog Try.f57 R Exit.ret { tmps := tmps, defers := [{ target := Target.fn (Fn.func 63) #[.pointer (some p)], args := #[] }] } w := by
  refine leaves_cons (f := 63) (args := #[.pointer (some p)]) (by simp) (by simp [go_sem]) ?_
  refine (catch_idle p w).mono ?_
  rintro e u' w'' ⟨rfl, rfl, rfl⟩
  simp [Leaves, settle, results, Try.results57, go_sem, ht, hc, hR]
set_option maxHeartbeats 8000000 in
set_option maxRecDepth 100000 in
/-- The way out, by a panic: the closure recovers, the variable is emptied. -/
theorem door_panic {R : Ending → World → Prop} {tmps : Array Value} {p : Addr} {v0 : Value} {w : World} (ht : tmps[2]? = some (.pointer (some p))) (hc : w.cell? p = some v0) (hz : w.frozen? p = false) (hR : R (.returned (.slice none 0 0)) (w.setCell p (.slice none 0 0))) :
    bodyPostD Try.prog Try.f57 R (Exit.panic lacks) { tmps := tmps, defers := [{ target := Target.fn (Fn.func 63) #[.pointer (some p)], args := #[] }] } w := by
  refine leaves_cons (f := 63) (args := #[.pointer (some p)]) (by simp) (by simp [go_sem]) ?_
  refine (catch_panics p v0 29 _ [] w hc hz).mono ?_
  rintro e u' w'' ⟨rfl, rfl, rfl⟩
  simp [Leaves, settle, results, Try.results57, go_sem, ht, hc, hz, hR]
theorem leaves_res {P : Program} {fn : Func} {t t' : Array Value} {R : Ending → World → Prop} (ht : results fn t = results fn t') : ∀ (ds : List Deferred) (u : FrameMode) (w : World), Leaves P fn t R ds u w → Leaves P fn t' R ds u w := by
  intro ds
  induction ds with
  | nil =>
    intro u w h
    cases u with
    | run => exact h
    | returning => obtain ⟨v, hv, hR⟩ := h; exact ⟨v, ht ▸ hv, hR⟩
    | panicking c => exact h
  | cons d ds ih =>
    intro u w h
    obtain ⟨hu, fv, cap, f, args, h1, h2, h3⟩ := h
    refine ⟨hu, fv, cap, f, args, h1, h2, ?_⟩
    refine h3.mono ?_
    intro e u' w' hh
    cases e with
    | returned v => exact ih _ _ hh
    | panicked c => exact ih _ _ hh
    | outgrown => exact hh
theorem put_res (t : Array Value) (n : Nat) (v : Value) (h : n ≠ 2) : results Try.f57 (t.setIfInBounds n v) = results Try.f57 t := by
  simp [results, Try.results57, go_sem, Array.getElem?_setIfInBounds, h]
theorem panic_put {Q : Exit → Act → World → Prop} {R : Ending → World → Prop} {n : Nat} (h2 : n ≠ 2) (v : Value) (c : List PanicEntry) (a : Act) (w : World)
    (h : Q (.panic c) (a.put (some n) v) w) (hq : ∀ a, Q (.panic c) a w = Leaves Try.prog Try.f57 a.tmps R a.defers (.panicking c) w := by intro a; rfl) : Q (.panic c) a w := by
  rw [hq] at h ⊢
  exact leaves_res (put_res a.tmps n v h2) _ _ _ h
theorem goesP_ {P : Program} {Q : Exit → Act → World → Prop} {ops : Array Oper} {oi : Oper} {N : Option Tmp} {a : Act} {w : World} {K : Act → World → Prop} {f : FuncId} {fn : Func} {xs : Array Operand} {ts : Array TypeId} (hf : P.funcs[f]? = some fn) (hname : (fn.name == "runtime.NumGoroutine") = false) (hb : fn.body.isSome = true) (args : Array Value)
    (hw : Region.wanted oi (yielded ops a.tmps) = true) (hN : oi.dst = N) (hop : oi.op = .call { callee := .value (.func f), args := xs, argTypes := ts }) (hargs : xs.map a.eval = args)
    (h : Calls P f args w fun e w' => ∃ c, e = .panicked c ∧ Q (.panic c) a w') : if Region.wanted oi (yielded ops a.tmps) = true then Oper.wp P oi a w K Q else K (a.put N undef) w := by
  rw [if_pos hw]
  have he := enters_ hf hname hb args w
  have hrun : (execOp a.eval oi).run P w = .ok (.enter f args) w := by
    unfold execOp
    simp [hop, resolve, Deferred.ofValue, invoke, Act.eval, hargs, he]
  unfold Oper.wp
  rw [hrun, Oper.upon_enter]
  refine h.mono fun e w'' hh => ?_
  obtain ⟨c, rfl, hk⟩ := hh
  exact hk
/-- How the two blocks stand: the row so far, the reader. -/
structure RS (w w' : World) (q : List Int) (v0 : Value) (acc : List S49) : Prop where
  row : w'.heap[w.heap.size]? = some (.cells #[v0] 37 (0, 0))
  own : Kd.S k49 49 w' w.heap.size (fun k => k ≠ w.heap.size ∧ k ≠ w.heap.size + 1) v0 acc
  rd : Rd w w' (w.heap.size + 1) q
theorem RS.call {w w' w'' : World} {q q' : List Int} {v0 : Value} {acc : List S49} (h : RS w w' q v0 acc) (hk : KeepBut w' w'' (w.heap.size + 1) none) (hr : Rd w w'' (w.heap.size + 1) q') : RS w w'' q' v0 acc :=
  ⟨hk.blk h.row (by omega) (by simp), Kd.S_keep h.own hk (fun _ hk' => hk'.2), hr⟩
theorem RS.fall {w w' w'' : World} {q : List Int} {v0 : Value} {acc : List S49} (h : RS w w' q v0 acc) (hk : KeepBut w' w'' (w.heap.size + 1) none) : w''.heap[w.heap.size]? = some (.cells #[v0] 37 (0, 0)) := hk.blk h.row (by omega) (by simp)
theorem RS.drew {w w' : World} {q : List Int} {v0 : Value} {acc : List S49} (h : RS w w' q v0 acc) : RS w w'.drew q v0 acc := ⟨blk_drew h.row, Kd.S_drew h.own, h.rd.drew⟩
/-- What read tells. -/
def Told (w : World) (r : List S49) (e : Ending) (w' : World) : Prop :=
  ∃ v0_ : Value, e = .returned (v0_) ∧ Kd.S k49 49 w' w.heap.size (fun _ => True) v0_ r ∧ Below w.heap.size w w'
theorem out_panic {w w' w'' : World} {v0 : Value} {tmps : Array Value} (hb : w''.heap[w.heap.size]? = some (.cells #[v0] 37 (0, 0))) (hB : Below w.heap.size w w'') (ht : tmps[2]? = some (.pointer (some ⟨w.heap.size, 0, none⟩))) :
    bodyPostD Try.prog Try.f57 (Told w []) (Exit.panic lacks) { tmps := tmps, defers := [{ target := Target.fn (Fn.func 63) #[.pointer (some ⟨w.heap.size, 0, none⟩)], args := #[] }] } w'' :=
  door_panic ht ((blk_cell hb 0).trans rfl) (blk_frozen hb 0) ⟨_, rfl, Kd.S_nil _ _ _ _ _, below_set hB (Nat.le_refl _)⟩
theorem num_in (s : Nat) (q : List Int) : num s q ≤ 9223372036854775807 := by unfold num wrap64; omega
set_option maxHeartbeats 8000000 in
set_option maxRecDepth 100000 in
theorem entry_less {q q' : List Int} {x : S49} (hq : q.length < 140737488355328) (h : entryI q = some (some (x, q'))) : q'.length < 140737488355328 := by
  unfold entryI at h
  repeat' split at h
  all_goals first
    | (cases h; done)
    | (injection h with h; cases h; done)
    | (injection h with h; injection h with h; injection h with h1 h2; subst h2; simp only [List.length_drop]; omega)
set_option maxHeartbeats 8000000 in
set_option maxRecDepth 100000 in
theorem frame_read.calls (A0 : Option Addr) (c0 : Nat) (l0 : List Int) (r : List S49) (w : World) (hr0 : Kd.C (Kd.int .u8) w A0 l0.length l0) (hc0 : l0.length ≤ c0) (h : frame_read.f l0 = some r) :
    Calls Try.prog 57 #[.slice A0 l0.length c0] w fun e w' => ∃ v0_ : Value, e = .returned (v0_) ∧ Kd.S k49 49 w' w.heap.size (fun _ => True) v0_ r ∧ Below w.heap.size w w' := by
  have hmf : ∀ (fn : Fn) (first cap : Array Value) (w : World), (Instr.makeFunc fn first cap).run Try.prog w = .ok (.func fn first cap) w := fun _ _ _ _ => rfl
  have hu96 := Try.underlying96
  show Calls Try.prog 57 #[.slice A0 l0.length c0] w (Told w r)
  unfold frame_read.f at h
  by_cases hq : l0.length < 140737488355328
  rotate_left
  · rw [if_neg hq] at h; cases h
  rw [if_pos hq] at h
  have hRS0 : RS w ((w.alloc (Obj.cells #[Value.slice none 0 0] 37)).alloc (Obj.cells #[Value.slice A0 l0.length c0] 96)) l0 (.slice none 0 0) [] := by
    have z1 : (w.alloc (Obj.cells #[Value.slice none 0 0] 37)).heap.size = w.heap.size + 1 := Array.size_push _
    have b0 := blk_alloc (blk_new w (Obj.cells #[Value.slice none 0 0] 37)) (Obj.cells #[Value.slice A0 l0.length c0] 96)
    have b1 := blk_new (w.alloc (Obj.cells #[Value.slice none 0 0] 37)) (Obj.cells #[Value.slice A0 l0.length c0] 96)
    rw [z1] at b1
    exact ⟨b0, Kd.S_nil _ _ _ _ _, ⟨⟨A0, c0, b1, hr0, hc0⟩, below_alloc (below_alloc (Below.refl _ _) _) _, by omega⟩⟩
  go_enter_defers Try.func57, Try.ntmps57
  go_upto_region 3 with (fail)
  generalize ((w.alloc (Obj.cells #[Value.slice none 0 0] 37)).alloc (Obj.cells #[Value.slice A0 l0.length c0] 96)) = w1 at hRS0 ⊢
  by_cases c1 : l0.length < 2
  · rw [if_pos c1] at h
    obtain rfl := Option.some.inj h
    go_wp2_with (go_at_call 64; refine (number_short' hRS0.rd 2 rfl c1).mono ?_; rintro e w2 ⟨rfl, hk2, hr2⟩)
    exact out_panic (w' := w1) (hRS0.fall hk2) hr2.below rfl
  rw [if_neg c1] at h
  by_cases c2 : 0 ≤ num 2 l0
  rotate_left
  · rw [if_neg c2] at h; cases h
  rw [if_pos c2] at h
  have hN := number_ok' hRS0.rd 2 rfl (by decide) (by decide) (show 2 ≤ l0.length by omega) hq
  have hn := num_in 2 l0
  have hq1 : (l0.drop 2).length < 140737488355328 := by rw [List.length_drop]; omega
  generalize num 2 l0 = n at *
  generalize l0.drop 2 = q1 at *
  go_wp2_with (go_at_call 64; refine hN.mono ?_; rintro e w2 ⟨rfl, hk2, hr2⟩; have hRS2 := hRS0.call hk2 hr2)
  clear hN hr0 hc0 hRS0 hk2 hr2
  go_loopg [4] (n.toNat + 1) (fun kq v4 w' => ∃ (N : Int) (q : List Int) (v0 : Value) (acc : List S49), v4 = .int .i64 N ∧ Aside0 (N.toNat < kq ∧ N ≤ 9223372036854775807 ∧ q.length < 140737488355328) ∧ Aside0 (readI N.toNat q acc = some r) ∧ Aside0 (RS w w' q v0 acc))
  case atStart => exact ⟨n, q1, _, [], rfl, ⟨Nat.lt_succ_self _, hn, hq1⟩, ⟨h⟩, ⟨hRS2⟩⟩
  case round =>
    clear hRS2 h c2 hn hq1
    obtain ⟨N, q, v0, acc, rfl, hlt, hr, hrs⟩ := hrel
    have hr := hr.out
    have hrs := hrs.out
    obtain ⟨Ao, co, rfl, hco, hRo⟩ := Kd.S_reads hrs.own
    have hc_ : wr.cell? ⟨w.heap.size, 0, none⟩ = some (.slice Ao acc.length co) := (blk_cell hrs.row 0).trans rfl
    have hz_ := blk_frozen hrs.row 0
    by_cases hN_ : ¬ N > 0
    · have hN0 : N.toNat = 0 := by omega
      rw [hN0] at hr
      simp only [readI, Option.some.injEq] at hr
      subst hr
      go_wp2
      have hb2 := blk_put hrs.row 0 (Value.slice Ao acc.length co) rfl
      exact door_ret rfl ((blk_cell hb2 0).trans rfl) ⟨_, rfl, Kd.S_mono (Kd.S_far (p := ⟨w.heap.size, 0, none⟩) hrs.own (fun _ hk => hk.1) _) (fun _ _ => trivial), below_set hrs.rd.below (Nat.le_refl _)⟩
    · have hN : N > 0 := by omega
      obtain ⟨k, hk⟩ : ∃ k, N.toNat = k + 1 := ⟨N.toNat - 1, by omega⟩
      rw [hk, readI] at hr
      by_cases ha : acc.length < 2513169434915
      rotate_left
      · rw [if_neg ha] at hr; cases hr
      rw [if_pos ha] at hr
      cases he : entryI q with
      | none => rw [he] at hr; cases hr
      | some o =>
      rw [he] at hr
      have hlq := hlt.out.2.2
      have hE := entry_calls hrs.rd.drew hlq he
      have hrs0 := hrs.drew
      go_wp2
      have hS : (fun w' : World => w'.cell? ⟨w.heap.size, 0, none⟩ = some (.slice Ao acc.length co)) wr.drew := hc_
      clear hc_ hz_ hrs hRo
      refine start_ (n := 6) (S := fun w' => w'.cell? ⟨w.heap.size, 0, none⟩ = some (.slice Ao acc.length co)) (ds := [5]) #[false, false, false, false, false, false] (by kernel_rfl) rfl rfl hS (fun _ => ?_)
      generalize wr.drew = w2 at hrs0 hS hE ⊢
      refine take_ (i := 0) (N := some 15) (v := (.slice Ao acc.length co)) (a' := ?b0) #[true, false, false, false, false, false] rfl rfl (by kernel_rfl) (fun c a w h => panic_put (by decide) _ c a w h) (Or.inl ⟨by rfl, ?z0⟩) hS ?q0 ?_
      case z0 =>
        intro w' hs
        go_simp
      case q0 =>
        simp only [Act.put, List.setIfInBounds_toArray, List.set_cons_zero, List.set_cons_succ, i64_w, i32_w]
        rfl
      refine pure_ (i := 1) (N := some 16) (v := (.pointer (some ⟨w.heap.size + 1, 0, none⟩))) (a' := ?b1) #[true, true, false, false, false, false] rfl rfl (by kernel_rfl) (fun c a w h => panic_put (by decide) _ c a w h) (Or.inl ⟨by rfl, ?z1⟩) ?q1 ?_
      case z1 =>
        intro w'
        go_simp
      case q1 =>
        simp only [Act.put, List.setIfInBounds_toArray, List.set_cons_zero, List.set_cons_succ, i64_w, i32_w]
        rfl
      refine one_ (i := 2) (N := some 17) #[true, true, true, false, false, false] rfl rfl (by kernel_rfl) (by decide) (fun K hK => ?_)
      cases o with
      | none =>
        cases hr
        refine goesP_ Try.func65 (by kernel_rfl) rfl #[.pointer (some ⟨w.heap.size + 1, 0, none⟩)] (by rfl) rfl rfl (by simp only [List.map_toArray, List.map_cons, List.map_nil]; rfl) ?_
        refine hE.mono ?_
        rintro e w3 ⟨hk3, ⟨-, rfl, hb3⟩ | ⟨x, q', v0', v1', hx, -⟩⟩
        · refine ⟨_, rfl, ?_⟩
          exact out_panic (w' := w2) (hrs0.fall hk3) hb3 rfl
        · cases hx
      | some p =>
      obtain ⟨x, q'⟩ := p
      have hr2 : readI k q' (acc ++ [x]) = some r := hr
      refine goes_ Try.func65 (by kernel_rfl) rfl #[.pointer (some ⟨w.heap.size + 1, 0, none⟩)] (by rfl) rfl rfl (by simp only [List.map_toArray, List.map_cons, List.map_nil]; rfl) ?_
      refine hE.mono ?_
      rintro e w3 ⟨hk3, ⟨hx, -, -⟩ | ⟨x', q'', v0', v1', hx, rfl, hv0, hv1, hrd3⟩⟩
      · cases hx
      injection hx with hx
      injection hx with e1 e2
      subst e1
      subst e2
      refine ⟨_, rfl, ?_⟩
      have hrs3 := hrs0.call hk3 hrd3
      have hS3 := (blk_cell hrs3.row 0).trans rfl
      refine hK.out _ _ hS3 (fun _ => ?_)
      clear hK K
      refine norm_ (a' := ?_) ?_ ?_
      rotate_left
      · show Act.put _ (some 17) _ = _
        simp only [Act.put, List.setIfInBounds_toArray, List.set_cons_zero, List.set_cons_succ, i64_w, i32_w]
        rfl
      obtain ⟨A0', c0', rfl⟩ := Kd.R_slice hv0
      obtain ⟨A1', c1', rfl⟩ := Kd.R_slice hv1
      refine one_ (i := 3) (N := some 18) #[true, true, true, true, false, false] rfl rfl (by kernel_rfl) (by decide) (fun K hK => ?_)
      refine value_ (w1 := w3.alloc (.cells #[.slice A0' x.f0.length c0', .slice A1' x.f1.length c1', .bool x.f2] 49)) (v := .slice (some ⟨w3.heap.size, 0, none⟩) 1 1) (by rfl) rfl ?rm7 ?_
      case rm7 =>
        go_simp
      have hS7 := (blk_cell (blk_alloc hrs3.row (.cells #[.slice A0' x.f0.length c0', .slice A1' x.f1.length c1', .bool x.f2] 49)) 0).trans rfl
      refine hK.out _ _ hS7 (fun _ => ?_)
      clear hK K
      refine norm_ (a' := ?_) ?_ ?_
      rotate_left
      · show Act.put _ (some 18) _ = _
        simp only [Act.put, List.setIfInBounds_toArray, List.set_cons_zero, List.set_cons_succ, i64_w, i32_w]
        rfl
      refine one_ (i := 4) (N := some 19) #[true, true, true, true, true, false] rfl rfl (by kernel_rfl) (by decide) (fun K hK => ?_)
      have hHlt := blk_lt hrs3.row
      have hglt : w.heap.size + 1 < w2.heap.size := by obtain ⟨⟨A, c, hb, -, -⟩, -, -⟩ := hrs0.rd; exact blk_lt hb
      have hsz := hk3.1
      have hown := Kd.S_lt hrs0.own
      refine Kd.S_append_step k49 (w0 := w) w.heap.size (by rfl) (.tmp 15) (.tmp 18) 37 49 (.agg #[(.slice none 0 0), (.slice none 0 0), (.bool false)]) 56 rfl Try.underlying37 info49 rfl (by decide) (by omega) (.slice Ao acc.length co) acc x [.slice A0' x.f0.length c0', .slice A1' x.f1.length c1', .bool x.f2] (fun k => k ≠ w.heap.size ∧ k ≠ w.heap.size + 1) (fun k => w2.heap.size ≤ k) rfl rfl ?aP ?aK ?aF ?aO hrs3.rd.below ?aS ?aL ?_
      case aP => exact k49_mkM _ _ _ x (Kd.R_mono (Kd.R_lower (Kd.R_bound hv0) (by omega)) (fun k hk => hk.2.1)) (Kd.R_mono (Kd.R_lower (Kd.R_bound hv1) (by omega)) (fun k hk => hk.2.1))
      case aK =>
        intro k hk
        refine ⟨by omega, fun he => ?_⟩
        have := hown k he.symm
        omega
      case aF =>
        intro k hk
        omega
      case aO => exact Kd.S_mono (Kd.S_keep (Kd.S_bound hrs0.own) hk3 (fun k hk => hk.1.2)) (fun k hk => ⟨hk.1, by have := hk.2.2.1; omega⟩)
      case aS => omega
      case aL => omega
      intro v1 w5 ho hb hg4 hat
      have hd1 : ∀ k, Value.ownBlock (.slice Ao acc.length co) = some k → k ≠ w.heap.size ∧ k ≠ w.heap.size + 1 := fun k hk => (Kd.S_R hrs3.own).1 k hk
      have hH4 := blk_grown hrs3.row hg4 (fun e => (hd1 _ e.symm).1 rfl)
      have hr4 := hrs3.rd.grown hg4 (fun e => (hd1 _ e.symm).2 rfl) hb
      obtain ⟨Ao2, co2, ev1, -, -⟩ := Kd.S_reads ho
      subst ev1
      have hS4 := (blk_cell hH4 0).trans rfl
      have hf4 := blk_frozen hH4 0
      refine hK.out _ _ hS4 (fun _ => ?_)
      clear hK K hS7 hat
      refine norm_ (a' := ?_) ?_ ?_
      rotate_left
      · show Act.put _ (some 19) _ = _
        simp only [Act.put, List.setIfInBounds_toArray, List.set_cons_zero, List.set_cons_succ, i64_w, i32_w]
        rfl
      refine last_ (i := 5) (N := none) #[true, true, true, true, true, true] rfl rfl (by kernel_rfl) (by decide) (fun K hK => ?_)
      refine skip_ (w1 := w5.setCell ⟨w.heap.size, 0, none⟩ (.slice Ao2 (acc ++ [x]).length co2)) (by rfl) rfl ?rn11 ?_
      case rn11 => go_simp
      refine hK.out _ _ ?_
      clear hK K
      refine done_ (by kernel_rfl) ?_
      have hRS5 : RS w (w5.setCell ⟨w.heap.size, 0, none⟩ (.slice Ao2 (acc ++ [x]).length co2)) q' (.slice Ao2 (acc ++ [x]).length co2) (acc ++ [x]) :=
        ⟨blk_put hH4 0 _ rfl, Kd.S_far (p := ⟨w.heap.size, 0, none⟩) ho (fun _ hk => hk.1) _, hr4.far (by omega) (Nat.le_refl _) _⟩
      have hlq' : q'.length < 140737488355328 := entry_less hlq he
      have hw : wrap64 (N - 1) = N - 1 := by have := hlt.out.2.1; unfold wrap64; omega
      clear ho hb hg4 hH4 hr4 hS4 hf4 hrs3 hrs0 hS hS3 hv0 hv1 hrd3 hk3 hE hown hHlt hglt hd1
      generalize (w5.setCell ⟨w.heap.size, 0, none⟩ (.slice Ao2 (acc ++ [x]).length co2)) = w6 at hRS5 ⊢
      go_wp2
      go_roundg (k + 1)
      case measure => have := hlt.out.1; omega
      case rel => exact ⟨N - 1, q', _, _, by first | rfl | rw [hw], ⟨by omega, by have := hlt.out.2.1; omega, hlq'⟩, ⟨by rw [show (N - 1).toNat = k by omega]; exact hr2⟩, ⟨hRS5⟩⟩

/-! ### frame_Entries: function 38 -/
def frame_Entries.f (k : Nat) (l0 : List Int) : Option ((List (S49)) × Int) := (frame_read.f l0).bind fun t277 => ((frame_Batch.f k t277).bind fun bt280 => (if bt280.2 = 0 then (if (strOfNums bt280.1).toList = (strOfNums l0).toList then (some (t277, 0)) else (some (([] : List (S49)), 12))) else (some (([] : List (S49)), 12))))
theorem frame_Entries.mono : ∀ a0 k, LeO (frame_Entries.f k a0) (frame_Entries.f (k + 1) a0) := by
 intro a0 k
 unfold frame_Entries.f
 repeat' first
   | (with_reducible exact frame_Batch.mono _ _)
   | (with_reducible exact LeO.refl _)
   | (with_reducible exact LeO.none _)
   | (with_reducible refine LeO.ite ?_ ?_)
   | (with_reducible refine LeO.bind ?_ (fun _ => ?_))
   | exact frame_Batch.mono _ _
   | exact LeO.none _
   | refine LeO.ite ?_ ?_
   | refine LeO.bind ?_ (fun _ => ?_)
set_option maxHeartbeats 8000000 in
set_option maxRecDepth 100000 in
theorem frame_Entries.calls (k : Nat) (A0 : Option Addr) (c0 : Nat) (l0 : List Int) (r1 : List (S49)) (r2 : Int) (w : World) (hr0 : Kd.C (Kd.int .u8) w A0 l0.length l0) (hc0 : l0.length ≤ c0) (h : frame_Entries.f k l0 = some (r1, r2)) :
  Calls Try.prog 38 #[.slice A0 l0.length c0] w fun e w' => ∃ v0_ : Value, e = .returned (.tuple #[v0_, .int .i64 r2]) ∧ Kd.S k49 49 w' w.heap.size (fun _ => True) v0_ r1 ∧ Below w.heap.size w w' := by
 have HR0 := Aside0.mk hr0
 have HC0 := Aside0.mk hc0
 clear hr0 hc0
 have HB := Aside0.mk (Below.refl w.heap.size w)
 have H : ((frame_read.f l0).bind fun t277 => ((frame_Batch.f k t277).bind fun bt280 => (if bt280.2 = 0 then (if (strOfNums bt280.1).toList = (strOfNums l0).toList then (some (t277, 0)) else (some (([] : List (S49)), 12))) else (some (([] : List (S49)), 12))))) = some (r1, r2) := h
 clear h
 replace H := Option.bind_eq_some_iff.mp H
 obtain ⟨t277, A20, H⟩ := H
 replace H : ((frame_Batch.f k t277).bind fun bt280 => (if bt280.2 = 0 then (if (strOfNums bt280.1).toList = (strOfNums l0).toList then (some (t277, 0)) else (some (([] : List (S49)), 12))) else (some (([] : List (S49)), 12)))) = some (r1, r2) := H
 have A2 := Aside0.mk A20
 clear A20
 replace H := Option.bind_eq_some_iff.mp H
 obtain ⟨⟨t280, t281⟩, A30, H⟩ := H
 replace H : (if t281 = 0 then (if (strOfNums t280).toList = (strOfNums l0).toList then (some (t277, 0)) else (some (([] : List (S49)), 12))) else (some (([] : List (S49)), 12))) = some (r1, r2) := H
 have A3 := Aside0.mk A30
 clear A30
 by_cases c4 : t281 = 0
 ·rw [if_pos c4] at H
  have c4b0 : (t281 == 0) = true := beq_iff_eq.mpr c4
  have c4b1 : (t281 != 0) = false := bne_eq_false_iff_eq.mpr c4
  clear c4
  by_cases c5 : (strOfNums t280).toList = (strOfNums l0).toList
  ·rw [if_pos c5] at H
   have c5b0 : ((strOfNums t280).toList == (strOfNums l0).toList) = true := beq_iff_eq.mpr c5
   have c5b1 : ((strOfNums t280).toList != (strOfNums l0).toList) = false := bne_eq_false_iff_eq.mpr c5
   clear c5
   simp only [Option.some.injEq, Prod.mk.injEq] at H
   obtain ⟨rfl, rfl⟩ := H
   go_enter Try.func38, Try.ntmps38
   go_wp2_with (first | ((with_reducible refine gate_callee (f := 57) rfl ?_); refine goesL_ (some 8) rfl rfl Try.func57 (by kernel_rfl) rfl #[.slice A0 l0.length c0] rfl argN ?_; (with_reducible refine (frame_read.calls _ _ l0 t277 _ ?side1 ?side2 A2.out).mono ?_); (case side1 => repeat (first | exact HR0.out | (with_reducible refine Kd.C_alloc ?_ _) | (with_reducible refine Kd.C_drewN ?_ _) | (with_reducible refine Kd.C_drew ?_))); (case side2 => exact HC0.out); rintro e w6 ⟨v278, rfl, ho0, hb⟩; refine ⟨_, rfl, ?_⟩; have n0_ := Aside0.mk (Kd.S_lower ho0 (below_size (belN HB.out))); have n1_ := Aside0.mk (below_step (belN HB.out) hb); clear HB; have HO279 := n0_; have HB := n1_; clear n0_ n1_; (try clear hb); (try clear hk); (try clear ho0); obtain ⟨Ao7, co7, eo7⟩ := Kd.S_slice HO279.out; subst eo7) | ((with_reducible refine gate_callee (f := 22) rfl ?_); refine goesL_ (some 11) rfl rfl Try.func22 (by kernel_rfl) rfl #[.slice Ao7 t277.length co7] rfl argN ?_; (with_reducible refine (frame_Batch.calls k _ _ t277 t280 t281 _ ?side1 ?side2 A3.out).mono ?_); (case side1 => repeat (first | exact (Kd.S_reads' HO279.out).2.2 | (with_reducible refine Kd.C_alloc ?_ _) | (with_reducible refine Kd.C_drewN ?_ _) | (with_reducible refine Kd.C_drew ?_))); (case side2 => exact (Kd.S_reads' HO279.out).2.1); rintro e w8 ⟨v282, rfl, ho0, hb⟩; refine ⟨_, rfl, ?_⟩; have n0_ := Aside0.mk (Kd.S_elder' (by (with_reducible repeat (first | apply Kd.S_alloc | apply Kd.S_drewN | apply Kd.S_drew)); exact HO279.out) (Kd.R_base ho0) hb); have n1_ := Aside0.mk (Kd.R_lower ho0 (below_size (belN HB.out))); have n2_ := Aside0.mk (below_step (belN HB.out) hb); clear HO279; clear HB; have HO279 := n0_; have HO283 := n1_; have HB := n2_; clear n0_ n1_ n2_; (try clear hb); (try clear hk); (try clear ho0); have hcv9 := own_string (P := Try.prog) Try.underlying23 Try.underlying5 Try.underlying9 (Kd.own_of_R HO283.out); have hcv10 := Kd.C_string (P := Try.prog) (A := A0) (c := c0) Try.underlying23 Try.underlying5 Try.underlying9 (Kd.C_below HR0.out HB.out)))
   go_ret2
   exact ⟨_, by first | rfl | (simp [errW_none, errW_some] <;> rfl) | (simp [*, errW_none, errW_some] <;> rfl), by (with_reducible repeat (first | apply Kd.S_alloc | apply Kd.S_drewN | apply Kd.S_drew)); exact Kd.S_mono HO279.out (fun _ hk => trivial), (belN HB.out)⟩
  ·rw [if_neg c5] at H
   have c5b0 : ((strOfNums t280).toList == (strOfNums l0).toList) = false := beq_eq_false_iff_ne.mpr c5
   have c5b1 : ((strOfNums t280).toList != (strOfNums l0).toList) = true := bne_iff_ne.mpr c5
   simp only [Option.some.injEq, Prod.mk.injEq] at H
   obtain ⟨rfl, rfl⟩ := H
   go_enter Try.func38, Try.ntmps38
   go_wp2_with (first | ((with_reducible refine gate_callee (f := 57) rfl ?_); refine goesL_ (some 8) rfl rfl Try.func57 (by kernel_rfl) rfl #[.slice A0 l0.length c0] rfl argN ?_; (with_reducible refine (frame_read.calls _ _ l0 t277 _ ?side1 ?side2 A2.out).mono ?_); (case side1 => repeat (first | exact HR0.out | (with_reducible refine Kd.C_alloc ?_ _) | (with_reducible refine Kd.C_drewN ?_ _) | (with_reducible refine Kd.C_drew ?_))); (case side2 => exact HC0.out); rintro e w11 ⟨v278, rfl, ho0, hb⟩; refine ⟨_, rfl, ?_⟩; have n0_ := Aside0.mk (Kd.S_lower ho0 (below_size (belN HB.out))); have n1_ := Aside0.mk (below_step (belN HB.out) hb); clear HB; have HO279 := n0_; have HB := n1_; clear n0_ n1_; (try clear hb); (try clear hk); (try clear ho0); obtain ⟨Ao12, co12, eo12⟩ := Kd.S_slice HO279.out; subst eo12) | ((with_reducible refine gate_callee (f := 22) rfl ?_); refine goesL_ (some 11) rfl rfl Try.func22 (by kernel_rfl) rfl #[.slice Ao12 t277.length co12] rfl argN ?_; (with_reducible refine (frame_Batch.calls k _ _ t277 t280 t281 _ ?side1 ?side2 A3.out).mono ?_); (case side1 => repeat (first | exact (Kd.S_reads' HO279.out).2.2 | (with_reducible refine Kd.C_alloc ?_ _) | (with_reducible refine Kd.C_drewN ?_ _) | (with_reducible refine Kd.C_drew ?_))); (case side2 => exact (Kd.S_reads' HO279.out).2.1); rintro e w13 ⟨v282, rfl, ho0, hb⟩; refine ⟨_, rfl, ?_⟩; have n0_ := Aside0.mk (Kd.S_elder' (by (with_reducible repeat (first | apply Kd.S_alloc | apply Kd.S_drewN | apply Kd.S_drew)); exact HO279.out) (Kd.R_base ho0) hb); have n1_ := Aside0.mk (Kd.R_lower ho0 (below_size (belN HB.out))); have n2_ := Aside0.mk (below_step (belN HB.out) hb); clear HO279; clear HB; have HO279 := n0_; have HO283 := n1_; have HB := n2_; clear n0_ n1_ n2_; (try clear hb); (try clear hk); (try clear ho0); have hcv14 := own_string (P := Try.prog) Try.underlying23 Try.underlying5 Try.underlying9 (Kd.own_of_R HO283.out); have hcv15 := Kd.C_string (P := Try.prog) (A := A0) (c := c0) Try.underlying23 Try.underlying5 Try.underlying9 (Kd.C_below HR0.out HB.out)))
   go_ret2
   exact ⟨_, by first | rfl | (simp [errW_none, errW_some] <;> rfl) | (simp [*, errW_none, errW_some] <;> rfl), by first | exact Kd.S_nil _ _ _ _ _ | exact Kd.N_nil _ _ _ _ _ | exact Kd.V_nil _ _ _ _ _ | exact Kd.Q_nil _ _ _ _ _ | exact Kd.R_nil _ _ _ _ _, (belN HB.out)⟩
 ·rw [if_neg c4] at H
  have c4b0 : (t281 == 0) = false := beq_eq_false_iff_ne.mpr c4
  have c4b1 : (t281 != 0) = true := bne_iff_ne.mpr c4
  simp only [Option.some.injEq, Prod.mk.injEq] at H
  obtain ⟨rfl, rfl⟩ := H
  go_enter Try.func38, Try.ntmps38
  go_wp2_with (first | ((with_reducible refine gate_callee (f := 57) rfl ?_); refine goesL_ (some 8) rfl rfl Try.func57 (by kernel_rfl) rfl #[.slice A0 l0.length c0] rfl argN ?_; (with_reducible refine (frame_read.calls _ _ l0 t277 _ ?side1 ?side2 A2.out).mono ?_); (case side1 => repeat (first | exact HR0.out | (with_reducible refine Kd.C_alloc ?_ _) | (with_reducible refine Kd.C_drewN ?_ _) | (with_reducible refine Kd.C_drew ?_))); (case side2 => exact HC0.out); rintro e w16 ⟨v278, rfl, ho0, hb⟩; refine ⟨_, rfl, ?_⟩; have n0_ := Aside0.mk (Kd.S_lower ho0 (below_size (belN HB.out))); have n1_ := Aside0.mk (below_step (belN HB.out) hb); clear HB; have HO279 := n0_; have HB := n1_; clear n0_ n1_; (try clear hb); (try clear hk); (try clear ho0); obtain ⟨Ao17, co17, eo17⟩ := Kd.S_slice HO279.out; subst eo17) | ((with_reducible refine gate_callee (f := 22) rfl ?_); refine goesL_ (some 11) rfl rfl Try.func22 (by kernel_rfl) rfl #[.slice Ao17 t277.length co17] rfl argN ?_; (with_reducible refine (frame_Batch.calls k _ _ t277 t280 t281 _ ?side1 ?side2 A3.out).mono ?_); (case side1 => repeat (first | exact (Kd.S_reads' HO279.out).2.2 | (with_reducible refine Kd.C_alloc ?_ _) | (with_reducible refine Kd.C_drewN ?_ _) | (with_reducible refine Kd.C_drew ?_))); (case side2 => exact (Kd.S_reads' HO279.out).2.1); rintro e w18 ⟨v282, rfl, ho0, hb⟩; refine ⟨_, rfl, ?_⟩; have n0_ := Aside0.mk (Kd.S_elder' (by (with_reducible repeat (first | apply Kd.S_alloc | apply Kd.S_drewN | apply Kd.S_drew)); exact HO279.out) (Kd.R_base ho0) hb); have n1_ := Aside0.mk (Kd.R_lower ho0 (below_size (belN HB.out))); have n2_ := Aside0.mk (below_step (belN HB.out) hb); clear HO279; clear HB; have HO279 := n0_; have HO283 := n1_; have HB := n2_; clear n0_ n1_ n2_; (try clear hb); (try clear hk); (try clear ho0)))
  go_ret2
  exact ⟨_, by first | rfl | (simp [errW_none, errW_some] <;> rfl) | (simp [*, errW_none, errW_some] <;> rfl), by first | exact Kd.S_nil _ _ _ _ _ | exact Kd.N_nil _ _ _ _ _ | exact Kd.V_nil _ _ _ _ _ | exact Kd.Q_nil _ _ _ _ _ | exact Kd.R_nil _ _ _ _ _, (belN HB.out)⟩

-- NOT PRINTED: function 61 (marigraphref4_Reader_Num)

-- NOT PRINTED: function 62 (marigraphref4_Reader_Some)

end Go.Proofs.Ytmimfnangdabmaa.PFrameNumbers

/- The walk of the Go functions that a law reaches, told as plain functions; a program of this session has written it. No condition beyond the statement's own. -/
import Derived.Test.YtpcomhliikmjkaaPBlockTellsx0
import Derived.Test.YtpcomhliikmjkaaPBlockTellsx1
import Derived.Test.YtpcomhliikmjkaaPBlockTellsx3
import Derived.Test.YtpcomhliikmjkaaPBlockTellsx4
namespace Go.Proofs.Ytpcomhliikmjkaa.PBlockTells
open Go.RowKit Go.Proofs.YtpcomhliikmjkaaW.PrintWords Go.Proofs.YtpcomhliikmjkaaW.PrintLast Go.Proofs.YtpcomhliikmjkaaW.PrintMore
attribute [local go_sem] max2_int min2_int max_two min_two max_three min_three max_four min_four   -- for this text's walks alone
set_option linter.unusedVariables false
set_option linter.unusedSimpArgs false

/-! ### block_read: function 33, by hand: a reader (take, number, entry, entries), with a way out that gives none -/
/-- The reader: its bytes, and how far it is, in a world that keeps what came in. -/
structure Rb (w0 w : World) (g : Nat) (B : List Int) (p : Nat) : Prop where
  at_ : ∃ A c, w.heap[g]? = some (.cells #[.slice A B.length c, .int .i64 (p : Int)] 79 (0, 0)) ∧ Kd.C (Kd.int .u8) w0 A B.length B ∧ B.length ≤ c
  le : p ≤ B.length
  below : Below w0.heap.size w0 w
  own : w0.heap.size ≤ g
theorem Rb.alloc {w0 w : World} {g : Nat} {B : List Int} {p : Nat} (h : Rb w0 w g B p) (o : Obj) : Rb w0 (w.alloc o) g B p := by
  obtain ⟨⟨A, c, hb, hC, hc⟩, hl, HB, hg⟩ := h
  exact ⟨⟨A, c, blk_alloc hb o, hC, hc⟩, hl, below_alloc HB o, hg⟩
theorem Rb.drewN {w0 w : World} {g : Nat} {B : List Int} {p : Nat} (h : Rb w0 w g B p) (n : Nat) : Rb w0 (w.drewN n) g B p := by
  obtain ⟨⟨A, c, hb, hC, hc⟩, hl, HB, hg⟩ := h
  exact ⟨⟨A, c, blk_drewN hb n, hC, hc⟩, hl, pw_below_drewN HB n, hg⟩
theorem Rb.far {w0 w : World} {g g' j : Nat} {B : List Int} {p : Nat} (h : Rb w0 w g B p) (hne : g ≠ g') (hg' : w0.heap.size ≤ g') (v : Value) : Rb w0 (w.setCell ⟨g', j, none⟩ v) g B p := by
  obtain ⟨⟨A, c, hb, hC, hc⟩, hl, HB, hg⟩ := h
  exact ⟨⟨A, c, blk_far (p := ⟨g', j, none⟩) hb hne v, hC, hc⟩, hl, below_set HB hg', hg⟩
theorem Rb.grown {w0 w w1 : World} {g : Nat} {row : Option Nat} {B : List Int} {p : Nat} (h : Rb w0 w g B p) (hg1 : w.grownBy w1 row) (hne : some g ≠ row) (hB : Below w0.heap.size w0 w1) : Rb w0 w1 g B p := by
  obtain ⟨⟨A, c, hb, hC, hc⟩, hl, HB, hg⟩ := h
  exact ⟨⟨A, c, blk_grown hb hg1 hne, hC, hc⟩, hl, hB, hg⟩
theorem Rb.step {w0 w w1 : World} {g : Nat} {B : List Int} {p : Nat} (h : Rb w0 w g B p) (hb : Below w.heap.size w w1) : Rb w0 w1 g B p := by
  obtain ⟨⟨A, c, hk, hC, hc⟩, hl, HB, hg⟩ := h
  exact ⟨⟨A, c, blk_below hk hb, hC, hc⟩, hl, below_step HB hb, hg⟩
/-- A panic of the reader. -/
def lacks : List PanicEntry := [{ v := .iface 27 (.int .i64 12), recovered := false }]
set_option maxHeartbeats 8000000 in
set_option maxRecDepth 100000 in
theorem take_ok {w0 w : World} {g n p : Nat} {B : List Int} (h : Rb w0 w g B p) (hn : p + n ≤ B.length) (hq : B.length < 140737488355328) :
    Calls Try.prog 69 #[.pointer (some ⟨g, 0, none⟩), .int .i64 (n : Int)] w fun e w' => ∃ v, e = .returned v ∧ Kd.R (Kd.int .u8) 5 w' w.heap.size (fun _ => True) v ((B.drop p).take n) ∧ KeepBut w w' g none ∧ Rb w0 w' g B (p + n) := by
  obtain ⟨⟨A, c, hb, hC, hc⟩, hl, HB, hg⟩ := h
  have hu79 := Try.underlying79
  have hlt := blk_lt hb
  have HS : ∀ w', Below w.heap.size w w' → w'.cell? ⟨g, 0, none⟩ = some (.slice A B.length c) ∧ w'.cell? ⟨g, 1, none⟩ = some (.int .i64 (p : Int)) ∧ w'.heap[g]? = some (.cells #[.slice A B.length c, .int .i64 (p : Int)] 79 (0, 0)) := fun w' hb' => ⟨(blk_cell (blk_below hb hb') 0).trans rfl, (blk_cell (blk_below hb hb') 1).trans rfl, blk_below hb hb'⟩
  obtain ⟨i0, hi0, _, hsz0, _⟩ := info_parts info5
  obtain ⟨A2, hcut, hR2, hc2⟩ := print_mid_of (P := Try.prog) (Value.int .u8) 0 26 5 .i64 .i64 Try.underlying26 hi0 hsz0 A c B (p : Int) ((p : Int) + (n : Int)) (by omega) (by omega) (by omega) hc
  have e1 : ((p : Int) + (n : Int)).toNat = p + n := by omega
  have e2 : (B.take (p + n)).drop p = (B.drop p).take n := by rw [List.drop_take]; congr 1; omega
  rw [e1, Int.toNat_natCast, e2] at hcut hR2 hc2
  have HC : ∀ w', Below w.heap.size w w' → Kd.C (Kd.int .u8) w' A2 ((B.drop p).take n).length ((B.drop p).take n) := fun w' hb' => Kd.C_below (Kd.C_of_reads (hR2 _ (Kd.reads_of_C (d := (0 : Int)) hC))) (below_step HB hb')
  have htl : ((B.drop p).take n).length < 140737488355328 := by rw [List.length_take, List.length_drop]; omega
  have hd : decide ((B.length : Int) - (p : Int) < (n : Int)) = false := decide_eq_false (by omega)
  have hlt2 := Aside0.mk hc2
  have hw1 : IntKind.i64.wrap ((B.length : Int) - (p : Int)) = (B.length : Int) - (p : Int) := by rw [IntKind.wrap_i64]; omega
  have hw2 : IntKind.i64.wrap ((p : Int) + (n : Int)) = (p : Int) + (n : Int) := by rw [IntKind.wrap_i64]; omega
  have hw3 : Aside0 (wrap64 ((p : Int) + (n : Int)) = ((p + n : Nat) : Int)) := ⟨by unfold wrap64; omega⟩
  have hclone : Aside0 (slices_Clone_byte_byte.f ((B.drop p).take n) = some ((B.drop p).take n)) := ⟨by unfold slices_Clone_byte_byte.f; rw [if_pos htl]⟩
  have hle : Aside0 (p + n ≤ B.length) := ⟨hn⟩
  generalize (B.drop p).take n = t at *
  clear hR2 htl hn hl e1 e2 hc2
  generalize hat : p = at_ at *
  clear hat
  go_enter Try.func69, Try.ntmps69
  go_upto_region 1 with (fail)
  refine start_ (n := 12) (S := fun w' => Below w.heap.size w w') (ds := []) (bA 12 0) (by kernel_rfl) rfl rfl (below_drew1 (Below.refl _ _)) (fun hHeld => ?_)
  refine norm_ (by rfl) ?_
  refine pK 0 (some 6) (bA 12 1) ?_
  refine pK 1 (some 7) (bA 12 3) ?_
  refine pK 2 (some 8) (bA 12 7) ?_
  refine pK 3 (some 9) (bA 12 15) ?_
  refine tK 4 (some 10) (bA 12 31) rfl rfl hHeld (by intro w' hb; obtain ⟨s0, s1, -⟩ := HS w' hb; go_simp; with_reducible rfl) ?_
  refine pK 5 (some 11) (bA 12 63) ?_
  refine pK 6 (some 12) (bA 12 127) ?_
  refine pK 7 (some 13) (bA 12 255) ?_
  refine pK 8 (some 14) (bA 12 511) ?_
  refine tK 9 (some 15) (bA 12 1023) rfl rfl hHeld (by intro w' hb; obtain ⟨s0, s1, -⟩ := HS w' hb; go_simp; with_reducible rfl) ?_
  refine pK 10 (some 16) (bA 12 2047) ?_
  refine pK 11 (some 17) (bA 12 4095) ?_
  refine done_ (by kernel_rfl) ?_
  clear hd
  go_upto_region 3 with (fail)
  refine start_ (n := 17) (S := fun w' => Below w.heap.size w w') (ds := []) (bA 17 0) (by kernel_rfl) rfl rfl (below_drew1 hHeld) (fun hHeld => ?_)
  refine norm_ (by rfl) ?_
  refine pK 0 (some 19) (bA 17 1) ?_
  refine pK 1 (some 20) (bA 17 3) ?_
  refine pK 2 (some 21) (bA 17 7) ?_
  refine tK 3 (some 22) (bA 17 15) rfl rfl hHeld (by intro w' hb; obtain ⟨s0, s1, -⟩ := HS w' hb; go_simp; with_reducible rfl) ?_
  refine pK 4 (some 23) (bA 17 31) ?_
  refine pK 5 (some 24) (bA 17 63) ?_
  refine pK 6 (some 25) (bA 17 127) ?_
  refine tK 7 (some 26) (bA 17 255) rfl rfl hHeld (by intro w' hb; obtain ⟨s0, s1, -⟩ := HS w' hb; go_simp; with_reducible rfl) ?_
  refine pK 8 (some 27) (bA 17 511) ?_
  refine pK 9 (some 28) (bA 17 1023) ?_
  refine pK 10 (some 29) (bA 17 2047) ?_
  refine tK 11 (some 30) (bA 17 4095) rfl rfl hHeld (by intro w' hb; obtain ⟨s0, s1, -⟩ := HS w' hb; go_simp; with_reducible rfl) ?_
  refine pK 12 (some 31) (bA 17 8191) ?_
  refine pK 13 (some 32) (bA 17 16383) ?_
  refine pK 14 (some 33) (bA 17 32767) ?_
  refine one_ (i := 15) (N := (some 34)) (bA 17 65535) rfl rfl (by kernel_rfl) (by decide) (fun K hK => ?_)
  have hH2 := Aside0.mk hHeld
  refine goes_ Try.func51 (by kernel_rfl) rfl #[.slice A2 t.length (c - at_)] (by rfl) rfl rfl (by simp only [List.map_toArray, List.map_cons, List.map_nil]; rfl) ?_
  refine (slices_Clone_byte_byte.calls A2 (c - at_) t t _ (HC _ hHeld) hlt2.out hclone.out).mono ?_
  rintro e w3 ⟨v3, rfl, hv3, hb3⟩
  refine ⟨_, rfl, ?_⟩
  have hH3 := below_step hHeld hb3
  refine hK.out _ _ hH3 (fun hHeld => ?_)
  clear hK K
  refine nK (some 34) ?_
  refine pK 16 (some 5) (bA 17 131071) ?_
  refine done_ (by kernel_rfl) ?_
  obtain ⟨s0, s1, sb⟩ := HS _ hHeld
  have f1 := blk_frozen sb 1
  have sb' := Aside0.mk sb
  replace hv3 := Aside0.mk hv3
  obtain ⟨A3, c3, rfl⟩ := Kd.R_slice hv3.out
  clear hw1 hw2 hcut sb
  have hB3 := Aside0.mk hHeld
  clear hHeld HC HS hb
  go_wp2
  go_ret
  refine ⟨_, rfl, ?_, ?_, ?_⟩
  · refine Kd.R_far (p := ⟨g, 1, none⟩) (Kd.R_mono (Kd.R_bound (Kd.R_lower hv3.out (below_size hH2.out))) (ok' := fun k => k ≠ g) (fun k hk => ?_)) (fun _ hk => hk) _ |> fun z => Kd.R_mono z (fun _ _ => trivial)
    have := hk.2.1
    omega
  · exact (KeepBut.of_below hB3.out g none).set_ 1 _
  · exact ⟨⟨A, c, by rw [hw3.out]; exact blk_put sb'.out 1 _ rfl, hC, hc⟩, hle.out, below_set (below_step HB hB3.out) hg, hg⟩
set_option maxHeartbeats 8000000 in
set_option maxRecDepth 100000 in
theorem take_short {w0 w : World} {g n p : Nat} {B : List Int} (h : Rb w0 w g B p) (hn : B.length < p + n) (hq : B.length < 140737488355328) :
    Calls Try.prog 69 #[.pointer (some ⟨g, 0, none⟩), .int .i64 (n : Int)] w fun e w' => e = .panicked lacks ∧ KeepBut w w' g none ∧ Rb w0 w' g B p := by
  have h' := h
  obtain ⟨⟨A, c, hb, hC, hc⟩, hl, HB, hg⟩ := h
  have hu79 := Try.underlying79
  have HS : ∀ w', Below w.heap.size w w' → w'.cell? ⟨g, 0, none⟩ = some (.slice A B.length c) ∧ w'.cell? ⟨g, 1, none⟩ = some (.int .i64 (p : Int)) ∧ w'.heap[g]? = some (.cells #[.slice A B.length c, .int .i64 (p : Int)] 79 (0, 0)) := fun w' hb' => ⟨(blk_cell (blk_below hb hb') 0).trans rfl, (blk_cell (blk_below hb hb') 1).trans rfl, blk_below hb hb'⟩
  have hd : decide ((B.length : Int) - (p : Int) < (n : Int)) = true := decide_eq_true (by omega)
  have hw1 : IntKind.i64.wrap ((B.length : Int) - (p : Int)) = (B.length : Int) - (p : Int) := by rw [IntKind.wrap_i64]; omega
  have hpan : ∀ (w : World), (Instr.panic (.iface 27 (.int .i64 12))).run Try.prog w = .halt (.panic (.iface 27 (.int .i64 12))) w := fun _ => rfl
  clear hn hl
  replace h' := Aside0.mk h'
  generalize hat : p = at_ at *
  clear hat
  go_enter Try.func69, Try.ntmps69
  go_upto_region 1 with (fail)
  refine start_ (n := 12) (S := fun w' => Below w.heap.size w w') (ds := []) (bA 12 0) (by kernel_rfl) rfl rfl (below_drew1 (Below.refl _ _)) (fun hHeld => ?_)
  refine norm_ (by rfl) ?_
  refine pK 0 (some 6) (bA 12 1) ?_
  refine pK 1 (some 7) (bA 12 3) ?_
  refine pK 2 (some 8) (bA 12 7) ?_
  refine pK 3 (some 9) (bA 12 15) ?_
  refine tK 4 (some 10) (bA 12 31) rfl rfl hHeld (by intro w' hb; obtain ⟨s0, s1, -⟩ := HS w' hb; go_simp; with_reducible rfl) ?_
  refine pK 5 (some 11) (bA 12 63) ?_
  refine pK 6 (some 12) (bA 12 127) ?_
  refine pK 7 (some 13) (bA 12 255) ?_
  refine pK 8 (some 14) (bA 12 511) ?_
  refine tK 9 (some 15) (bA 12 1023) rfl rfl hHeld (by intro w' hb; obtain ⟨s0, s1, -⟩ := HS w' hb; go_simp; with_reducible rfl) ?_
  refine pK 10 (some 16) (bA 12 2047) ?_
  refine pK 11 (some 17) (bA 12 4095) ?_
  refine done_ (by kernel_rfl) ?_
  replace hHeld := Aside0.mk hHeld
  clear hb HS
  go_wp2
  exact ⟨rfl, rfl, KeepBut.of_below hHeld.out g none, h'.out.step hHeld.out⟩
/-- A number's value, as the reader tells it. -/
def numB (s : Nat) (B : List Int) (p : Nat) : Int := wrap64 (getI 0 ((B.drop p).take s))
set_option maxHeartbeats 8000000 in
set_option maxRecDepth 100000 in
theorem number_ok' {w0 w : World} {g s p : Nat} {B : List Int} (h : Rb w0 w g B p) (N : Int) (hN : N = (s : Int)) (hs1 : 1 ≤ s) (hs8 : s ≤ 8) (hn : p + s ≤ B.length) (hq : B.length < 140737488355328) :
    Calls Try.prog 57 #[.pointer (some ⟨g, 0, none⟩), .int .i64 N] w fun e w' => e = .returned (.int .i64 (numB s B p)) ∧ KeepBut w w' g none ∧ Rb w0 w' g B (p + s) := by
  subst hN
  have hget : octet_Get.f ((B.drop p).take s) (s : Int) = some (getI 0 ((B.drop p).take s), true) := by
    unfold octet_Get.f
    rw [if_neg (by omega), if_neg (by omega), if_neg (by rw [List.length_take, List.length_drop]; omega), Int.toNat_natCast, List.take_take, Nat.min_self]
  have hT := Aside0.mk (take_ok h hn hq)
  unfold numB
  generalize (B.drop p).take s = t at *
  generalize p + s = p2 at *
  replace hget := Aside0.mk hget
  clear hs1 hs8 hn hq h
  go_enter Try.func57, Try.ntmps57
  go_wp2_with (first | (go_at_call 59; refine (octet_Get.calls A1 c1 t (s : Int) _ _ _ (Kd.R_reads' hv1.out).2.2 (Kd.R_reads' hv1.out).2.1 hget.out).mono ?_; rintro e w2 ⟨rfl, n, rfl⟩) | (go_at_call 69; refine hT.out.mono ?_; rintro e w1 ⟨v1, rfl, hv1, hk1, hr1⟩; obtain ⟨A1, c1, rfl⟩ := Kd.R_slice hv1; replace hv1 := Aside0.mk hv1))
  go_ret
  exact ⟨rfl, keep_drewN hk1 n, hr1.drewN n⟩
set_option maxHeartbeats 8000000 in
set_option maxRecDepth 100000 in
theorem number_short' {w0 w : World} {g s p : Nat} {B : List Int} (h : Rb w0 w g B p) (N : Int) (hN : N = (s : Int)) (hn : B.length < p + s) (hq : B.length < 140737488355328) :
    Calls Try.prog 57 #[.pointer (some ⟨g, 0, none⟩), .int .i64 N] w fun e w' => e = .panicked lacks ∧ KeepBut w w' g none ∧ Rb w0 w' g B p := by
  subst hN
  have hT := Aside0.mk (take_short h hn hq)
  clear hn hq h
  go_enter Try.func57, Try.ntmps57
  go_wp2_with (go_at_call 69; refine hT.out.mono ?_; rintro e w1 ⟨rfl, hk1, hr1⟩)
  exact ⟨rfl, rfl, hk1, hr1⟩
theorem take_ok' {w0 w : World} {g p : Nat} {B : List Int} (h : Rb w0 w g B p) (N : Int) (h0 : 0 ≤ N) (hn : ¬ B.length < p + N.toNat) (hq : B.length < 140737488355328) :
    Calls Try.prog 69 #[.pointer (some ⟨g, 0, none⟩), .int .i64 N] w fun e w' => ∃ v, e = .returned v ∧ Kd.R (Kd.int .u8) 5 w' w.heap.size (fun _ => True) v ((B.drop p).take N.toNat) ∧ KeepBut w w' g none ∧ Rb w0 w' g B (p + N.toNat) := by
  obtain ⟨n, rfl⟩ := Int.eq_ofNat_of_zero_le h0
  exact take_ok h (by omega) hq
theorem take_short' {w0 w : World} {g p : Nat} {B : List Int} (h : Rb w0 w g B p) (N : Int) (h0 : 0 ≤ N) (hn : B.length < p + N.toNat) (hq : B.length < 140737488355328) :
    Calls Try.prog 69 #[.pointer (some ⟨g, 0, none⟩), .int .i64 N] w fun e w' => e = .panicked lacks ∧ KeepBut w w' g none ∧ Rb w0 w' g B p := by
  obtain ⟨n, rfl⟩ := Int.eq_ofNat_of_zero_le h0
  exact take_short h (by omega) hq
/-- One entry, behind one that has a Key, as it is read: none: not told; some none: bytes lack. -/
def entEnd (B key : List Int) (p : Nat) : Option (Option (S34 × Nat)) :=
  if B.length < p + 1 then some none else
  if numB 1 B p = 0 then some (some (⟨key, [], true⟩, p + 1)) else
  if B.length < p + 1 + 2 then some none else
  if 0 ≤ numB 2 B (p + 1) then
  if B.length < p + 1 + 2 + (numB 2 B (p + 1)).toNat then some none else
  some (some (⟨key, (B.drop (p + 1 + 2)).take (numB 2 B (p + 1)).toNat, false⟩, p + 1 + 2 + (numB 2 B (p + 1)).toNat)) else none
def entB (B last : List Int) (p : Nat) : Option (Option (S34 × Nat)) :=
  if B.length < p + 1 then some none else
  if B.length < p + 1 + 1 then some none else
  if numB 1 B p > (last.length : Int) then some none else
  if 0 ≤ numB 1 B p then
  if 0 ≤ numB 1 B (p + 1) then
  if B.length < p + 1 + 1 + (numB 1 B (p + 1)).toNat then some none else
  entEnd B (last.take (numB 1 B p).toNat ++ (B.drop (p + 1 + 1)).take (numB 1 B (p + 1)).toNat) (p + 1 + 1 + (numB 1 B (p + 1)).toNat) else none else none
/-- What entry tells. -/
def EntryTold (w0 w : World) (g : Nat) (B : List Int) (r : Option (S34 × Nat)) (e : Ending) (w' : World) : Prop :=
  KeepBut w w' g none ∧ ((r = none ∧ e = .panicked lacks ∧ Below w0.heap.size w0 w') ∨
    ∃ x p' v0 v1, r = some (x, p') ∧ e = .returned (.agg #[v0, v1, .bool x.f2]) ∧ Kd.R (Kd.int .u8) 5 w' w.heap.size (fun _ => True) v0 x.f0 ∧ Kd.R (Kd.int .u8) 5 w' w.heap.size (fun _ => True) v1 x.f1 ∧ Rb w0 w' g B p')
theorem keep_before {w w1 w2 : World} {g : Nat} (h : KeepBut w w1 g none) (k : KeepBut w1 w2 g none) : KeepBut w w2 g none := h.trans k (.inl rfl)
theorem keep_on {w w1 w2 : World} {g : Nat} (h : KeepBut w w1 g none) (k : Below w.heap.size w1 w2) : KeepBut w w2 g none := ⟨Nat.le_trans h.1 k.size, fun i hi hg hr => (k.block i hi).trans (h.2 i hi hg hr)⟩
/-- How it stands while an entry is read: its result's block, its own. -/
structure ES (w0 w w' : World) (g e2 : Nat) (B : List Int) (p : Nat) (v0 v1 : Value) (x : S34) : Prop where
  res : w'.heap[w.heap.size]? = some (.cells #[.slice none 0 0, .slice none 0 0, .bool false] 34 (0, 0))
  loc : w'.heap[e2]? = some (.cells #[v0, v1, .bool x.f2] 34 (0, 0))
  ne : w.heap.size < e2
  own : g < w.heap.size
  keep : KeepBut w w' g none
  rd : Rb w0 w' g B p
  r0 : Kd.R (Kd.int .u8) 5 w' w.heap.size (fun _ => True) v0 x.f0
  r1 : Kd.R (Kd.int .u8) 5 w' w.heap.size (fun _ => True) v1 x.f1
theorem row_kept {W W' : World} {b g : Nat} {v : Value} {xs : List Int} (h : Kd.R (Kd.int .u8) 5 W b (fun _ => True) v xs) (hk : KeepBut W W' g none) (hg : g < b) : Kd.R (Kd.int .u8) 5 W' b (fun _ => True) v xs :=
  Kd.R_mono (Kd.R_keep (Kd.R_bound h) hk (fun k hk' => by have := hk'.2.1; omega)) (fun _ _ => trivial)
theorem ES.call {w0 w w' w'' : World} {g e2 : Nat} {B : List Int} {p p' : Nat} {v0 v1 : Value} {x : S34} (h : ES w0 w w' g e2 B p v0 v1 x) (hk : KeepBut w' w'' g none) (hr : Rb w0 w'' g B p') : ES w0 w w'' g e2 B p' v0 v1 x := by
  obtain ⟨h1, h2, h3, h4, h5, h6, h7, h8⟩ := h
  exact ⟨hk.blk h1 (by omega) (by simp), hk.blk h2 (by omega) (by simp), h3, h4, h5.trans hk (.inl rfl), hr, row_kept h7 hk h4, row_kept h8 hk h4⟩
theorem ES.gone {w0 w w' : World} {g e2 : Nat} {B : List Int} {p : Nat} {v0 v1 : Value} {x : S34} (h : ES w0 w w' g e2 B p v0 v1 x) (b : Bool) : ES w0 w (w'.setCell ⟨e2, 2, none⟩ (.bool b)) g e2 B p v0 v1 ⟨x.f0, x.f1, b⟩ := by
  obtain ⟨h1, h2, h3, h4, h5, h6, h7, h8⟩ := h
  have hw : w0.heap.size ≤ e2 := by have := h6.own; omega
  exact ⟨blk_far (p := ⟨e2, 2, none⟩) h1 (by show w.heap.size ≠ e2; omega) _, blk_put h2 2 _ rfl, h3, h4, keep_far h5 (show w.heap.size ≤ e2 by omega) _, h6.far (by omega) hw _, Kd.R_set h7 h2 (by decide) 2 _, Kd.R_set h8 h2 (by decide) 2 _⟩
theorem ES.val {w0 w w' : World} {g e2 : Nat} {B : List Int} {p : Nat} {v0 v1 v : Value} {x : S34} {k : List Int} (h : ES w0 w w' g e2 B p v0 v1 x) (hv : Kd.R (Kd.int .u8) 5 w' w.heap.size (fun _ => True) v k) : ES w0 w (w'.setCell ⟨e2, 1, none⟩ v) g e2 B p v0 v ⟨x.f0, k, x.f2⟩ := by
  obtain ⟨h1, h2, h3, h4, h5, h6, h7, h8⟩ := h
  have hw : w0.heap.size ≤ e2 := by have := h6.own; omega
  exact ⟨blk_far (p := ⟨e2, 1, none⟩) h1 (by show w.heap.size ≠ e2; omega) _, blk_put h2 1 _ rfl, h3, h4, keep_far h5 (show w.heap.size ≤ e2 by omega) _, h6.far (by omega) hw _, Kd.R_set h7 h2 (by decide) 1 _, Kd.R_set hv h2 (by decide) 1 _⟩
set_option maxHeartbeats 8000000 in
set_option maxRecDepth 100000 in
theorem ES.out {w0 w w' : World} {g e2 : Nat} {B : List Int} {p : Nat} {v0 v1 : Value} {x : S34} (h : ES w0 w w' g e2 B p v0 v1 x) :
    (((w'.setCell ⟨w.heap.size, 0, none⟩ v0).setCell ⟨w.heap.size, 1, none⟩ v1).setCell ⟨w.heap.size, 2, none⟩ (.bool x.f2)).heap[w.heap.size]? = some (.cells #[v0, v1, .bool x.f2] 34 (0, 0)) ∧
      EntryTold w0 w g B (some (x, p)) (.returned (.agg #[v0, v1, .bool x.f2])) (((w'.setCell ⟨w.heap.size, 0, none⟩ v0).setCell ⟨w.heap.size, 1, none⟩ v1).setCell ⟨w.heap.size, 2, none⟩ (.bool x.f2)) := by
  obtain ⟨h1, h2, h3, h4, h5, h6, h7, h8⟩ := h
  have hw : w0.heap.size ≤ w.heap.size := by have := h6.own; omega
  have b1 := blk_put h1 0 v0 rfl
  have b2 := blk_put b1 1 v1 rfl
  have b3 := blk_put b2 2 (.bool x.f2) rfl
  refine ⟨b3.trans rfl, keep_far (keep_far (keep_far h5 (Nat.le_refl _) _) (Nat.le_refl _) _) (Nat.le_refl _) _, .inr ⟨x, p, v0, v1, rfl, rfl, ?_, ?_, ((h6.far (by omega) hw _).far (by omega) hw _).far (by omega) hw _⟩⟩
  · exact Kd.R_set (Kd.R_set (Kd.R_set h7 h1 (by decide) 0 _) b1 (by decide) 1 _) b2 (by decide) 2 _
  · exact Kd.R_set (Kd.R_set (Kd.R_set h8 h1 (by decide) 0 _) b1 (by decide) 1 _) b2 (by decide) 2 _
set_option maxHeartbeats 8000000 in
set_option maxRecDepth 100000 in
theorem entry_calls {w0 w : World} {g p : Nat} {B last : List Int} {AL : Option Addr} {cL : Nat} (h : Rb w0 w g B p) (hL : ∀ W', KeepBut w W' g none → Kd.C (Kd.int .u8) W' AL last.length last) (hcL : last.length ≤ cL) (hll : last.length ≤ 70000000000000) (hq : B.length < 70000000000000) {r : Option (S34 × Nat)} (hr : entB B last p = some r) :
    Calls Try.prog 67 #[.pointer (some ⟨g, 0, none⟩), .slice AL last.length cL] w fun e w' => EntryTold w0 w g B r e w' := by
  have hg : g < w.heap.size := by obtain ⟨⟨A, c, hb, -, -⟩, -, -, -⟩ := h; exact blk_lt hb
  have hg0 := h.own
  have hq' : B.length < 140737488355328 := by omega
  have hu34 := Try.underlying34
  have hA := h.alloc (Obj.cells #[Value.slice none 0 0, Value.slice none 0 0, Value.bool false] 34)
  have hkA : KeepBut w (w.alloc (Obj.cells #[Value.slice none 0 0, Value.slice none 0 0, Value.bool false] 34)) g none := keep_alloc (KeepBut.refl _ _ _) _
  have hbA := blk_new w (Obj.cells #[Value.slice none 0 0, Value.slice none 0 0, Value.bool false] 34)
  have hsA : (w.alloc (Obj.cells #[Value.slice none 0 0, Value.slice none 0 0, Value.bool false] 34)).heap.size = w.heap.size + 1 := Array.size_push _
  have hpan : ∀ (w : World), (Instr.panic (.iface 27 (.int .i64 12))).run Try.prog w = .halt (.panic (.iface 27 (.int .i64 12))) w := fun _ => rfl
  unfold entB at hr
  go_enter Try.func67, Try.ntmps67
  go_upto_region 1 with (fail)
  generalize (w.alloc (Obj.cells #[Value.slice none 0 0, Value.slice none 0 0, Value.bool false] 34)) = wA at hA hkA hbA hsA ⊢
  by_cases c1 : B.length < p + 1
  · rw [if_pos c1] at hr
    obtain rfl := Option.some.inj hr
    have hN := Aside0.mk (number_short' hA 1 rfl c1 hq')
    clear hr c1 hsA
    go_wp2_with (go_at_call 57; refine hN.out.mono ?_; rintro e w1 ⟨rfl, hk1, hr1⟩)
    exact ⟨rfl, keep_before hkA hk1, .inl ⟨rfl, rfl, hr1.below⟩⟩
  rw [if_neg c1] at hr
  have hN1 := Aside0.mk (number_ok' hA 1 rfl (by decide) (by decide) (show p + 1 ≤ B.length by omega) hq')
  by_cases c2 : B.length < p + 1 + 1
  · rw [if_pos c2] at hr
    obtain rfl := Option.some.inj hr
    have c2' := Aside0.mk c2
    clear hr c1 c2 hsA
    go_wp2_with (first | (go_at_call 57; (with_reducible refine (number_short' hr1 1 rfl c2'.out hq').mono ?_); rintro e w2 ⟨rfl, hk2, hr2⟩) | (go_at_call 57; refine hN1.out.mono ?_; rintro e w1 ⟨rfl, hk1, hr1⟩))
    exact ⟨rfl, keep_before (keep_before hkA hk1) hk2, .inl ⟨rfl, rfl, hr2.below⟩⟩
  rw [if_neg c2] at hr
  have hN2 := Aside0.mk (fun (w1 : World) (hr1 : Rb w0 w1 g B (p + 1)) => number_ok' hr1 1 rfl (by decide) (by decide) (show p + 1 + 1 ≤ B.length by omega) hq')
  have cc2 : p + 1 + 1 ≤ B.length := by omega
  generalize numB 1 B p = n at *
  generalize numB 1 B (p + 1) = more at *
  generalize p + 1 + 1 = p2 at *
  clear c1 c2
  replace cc2 := Aside0.mk cc2
  replace hr := Aside0.mk hr
  go_upto_if 15 with (first | (go_at_call 57; refine (hN2.out _ hr1).mono ?_; rintro e w2 ⟨rfl, hk2, hr2⟩) | (go_at_call 57; refine hN1.out.mono ?_; rintro e w1 ⟨rfl, hk1, hr1⟩))
  have hk3 := keep_before (keep_before hkA hk1) hk2
  have hb3 := hk2.blk (hk1.blk hbA (by omega) (by simp)) (by have := hk1.1; omega) (by simp)
  have hs3 : w.heap.size < w2.heap.size := by have := hk1.1; have := hk2.1; omega
  clear hA hkA hbA hsA hN1 hN2 hk1 hr1 hk2
  have hr' := hr.out
  clear hr
  by_cases c3 : n > (last.length : Int)
  · rw [if_pos c3] at hr'
    obtain rfl := Option.some.inj hr'
    have d1 : decide ((last.length : Int) < n) = true := decide_eq_true c3
    rw [d1]
    clear hr' c3 d1
    go_wp2
    exact ⟨rfl, hk3, .inl ⟨rfl, rfl, hr2.below⟩⟩
  rw [if_neg c3] at hr'
  by_cases c4 : 0 ≤ n
  rotate_left
  · rw [if_neg c4] at hr'; cases hr'
  rw [if_pos c4] at hr'
  by_cases c5 : 0 ≤ more
  rotate_left
  · rw [if_neg c5] at hr'; cases hr'
  rw [if_pos c5] at hr'
  have d1 : decide ((last.length : Int) < n) = false := decide_eq_false (by omega)
  obtain ⟨nn, rfl⟩ := Int.eq_ofNat_of_zero_le c4
  rw [Int.toNat_natCast] at hr'
  have d1' : decide (last.length < nn) = false := decide_eq_false (by omega)
  rw [d1]
  obtain ⟨i0, hi0, _, hsz0, _⟩ := info_parts info5
  have hcut0 := cut_to (P := Try.prog) 26 5 .i64 Try.underlying26 hi0 AL last.length cL (nn : Int) (by omega) (by omega) hcL
  rw [Int.toNat_natCast] at hcut0
  have hln : (last.take nn).length = nn := List.length_take_of_le (by omega)
  have hcut : ∀ W : World, (Instr.slice 26 (.slice AL last.length cL) none (some (.int .i64 (nn : Int))) none).run Try.prog W = .ok (.slice AL (last.take nn).length cL) W := fun W => by rw [hln]; exact hcut0 W
  have hCl : Kd.C (Kd.int .u8) w2 AL (last.take nn).length (last.take nn) := Kd.C_take (hL w2 hk3) (by omega)
  have hcl : (last.take nn).length ≤ cL := by omega
  have hclone : Aside0 (slices_Clone_byte_byte.f (last.take nn) = some (last.take nn)) := ⟨by unfold slices_Clone_byte_byte.f; rw [if_pos (by omega)]⟩
  have hlk : Aside0 ((last.take nn).length ≤ 70000000000000) := ⟨by omega⟩
  clear hcut0 hln c3 c4 hi0 hsz0
  generalize last.take nn = lk at *
  by_cases c6 : B.length < p2 + more.toNat
  · rw [if_pos c6] at hr'
    obtain rfl := Option.some.inj hr'
    have c6' := Aside0.mk c6
    have c5' := Aside0.mk c5
    clear hr' c6 c5
    replace hCl := Aside0.mk hCl
    replace hcl := Aside0.mk hcl
    have hk3' := Aside0.mk hk3
    have hr2' := Aside0.mk hr2
    clear hk3 hr2
    go_wp2_with (first | (go_at_call 69; (with_reducible refine (take_short' (hr2'.out.step hb4) more c5'.out c6'.out hq').mono ?_); rintro e w4 ⟨rfl, hk4, hr4⟩) | (go_at_call 51; refine (slices_Clone_byte_byte.calls AL cL lk lk _ hCl.out hcl.out hclone.out).mono ?_; rintro e w3 ⟨v3, rfl, hv3, hb4⟩))
    exact ⟨rfl, keep_before (keep_before hk3'.out (KeepBut.of_below hb4 g none)) hk4, .inl ⟨rfl, rfl, hr4.below⟩⟩
  rw [if_neg c6] at hr'
  have hT := Aside0.mk (fun (w3 : World) (hr3 : Rb w0 w3 g B p2) => take_ok' hr3 more c5 c6 hq')
  have hml : Aside0 (((B.drop p2).take more.toNat).length ≤ 70000000000000) := ⟨by rw [List.length_take, List.length_drop]; omega⟩
  have hp3 : Aside0 (p2 + more.toNat ≤ B.length) := ⟨by omega⟩
  generalize (B.drop p2).take more.toNat = mk at *
  generalize p2 + more.toNat = p3 at *
  clear c5 c6
  replace hCl := Aside0.mk hCl
  replace hcl := Aside0.mk hcl
  have hk3' := Aside0.mk hk3
  have hr2' := Aside0.mk hr2
  have hb3' := Aside0.mk hb3
  clear hk3 hr2 hb3
  obtain ⟨key, hkey⟩ : ∃ l : List Int, l = lk ++ mk := ⟨_, rfl⟩
  rw [← hkey] at hr'
  replace hkey := Aside0.mk hkey
  replace hr' := Aside0.mk hr'
  go_upto_region 5 with (first
    | ((with_reducible refine gate_builtin (b := .append) (xs := #[.tmp 20, .tmp 23]) rfl ?_); at_builtin; refine Kd.R_append_rows (Kd.int .u8) (w0 := w4) w.heap.size rfl (.tmp 20) (.tmp 23) 26 5 (.int .u8 0) 1 rfl Try.underlying26 info5 rfl (by decide) (by omega) (.slice A3 lk.length c3) lk mk A4 mk.length c4 (fun _ => True) (fun _ => False) rfl rfl (row_kept (Kd.R_lower hv3 hk3'.out.1) hk4 hg) (Kd.R_reads' hv4).2.2 (fun _ _ h => h) (fun _ h => h.elim) (fun _ _ => trivial) (Below.refl _ _) (Nat.le_trans hk3'.out.1 (Nat.le_trans (below_size hb4) hk4.1)) (by have := hlk.out; have := hml.out; omega) ?_; intro v5 w5 ho5 hb5 hg5 hat5; clear hat5; rw [← hkey.out] at ho5; obtain ⟨A5, c5, rfl⟩ := Kd.R_slice ho5)
    | (go_at_call 69; (with_reducible refine (hT.out _ (hr2'.out.step hb4)).mono ?_); rintro e w4 ⟨v4, rfl, hv4, hk4, hr4⟩; obtain ⟨A4, c4, rfl⟩ := Kd.R_slice hv4)
    | (go_at_call 51; refine (slices_Clone_byte_byte.calls AL cL lk lk _ hCl.out hcl.out hclone.out).mono ?_; rintro e w3 ⟨v3, rfl, hv3, hb4⟩; obtain ⟨A3, c3, rfl⟩ := Kd.R_slice hv3))
  have hkw := keep_before (keep_before hk3'.out (KeepBut.of_below hb4 g none)) hk4
  have hne : some g ≠ (Value.slice A3 lk.length c3).ownBlock := fun e => by
    have := Kd.R_base hv3 g e.symm
    have := hk3'.out.1
    omega
  have hE : ES w0 w (w5.alloc (Obj.cells #[Value.slice A5 key.length c5, Value.slice none 0 0, Value.bool false] 34)) g w5.heap.size B p3 (.slice A5 key.length c5) (.slice none 0 0) ⟨key, [], false⟩ := by
    have hk5 := keep_on hkw hb5
    have hb5' := hb5.block w.heap.size
    refine ⟨blk_alloc ?_ _, blk_new _ _, by have := blk_lt hb3'.out; have := below_size hb4; have := hk4.1; have := hb5.size; omega, hg, keep_alloc hk5 _, (hr4.grown hg5 hne (below_weaken hr4.below (by omega) hb5)).alloc _, Kd.R_alloc ho5 _, Kd.R_nil _ _ _ _ _⟩
    have h3 := hk4.blk (blk_below hb3'.out hb4) (by omega) (by simp)
    refine blk_grown h3 hg5 (fun e => ?_)
    have h4 := Kd.R_typed (row_kept (Kd.R_lower hv3 hk3'.out.1) hk4 hg) w.heap.size e.symm
    obtain ⟨cs, hcs⟩ := h4
    rw [h3] at hcs
    injection hcs with hcs
    injection hcs with _ hcs
    cases hcs
  clear hv3 hv4 hk4 hr4 hb4 ho5 hb5 hg5 hkw hne hT hr2' hb3' hk3' hcut hCl hcl hclone hpan
  have hp3' : p3 ≤ B.length := hp3.out
  have hrr := hr'.out
  clear hr' hkey hlk hml hp3 d1'
  unfold entEnd at hrr
  have hg0 := h.own
  generalize w5.heap.size = e2 at hE ⊢
  generalize (w5.alloc (Obj.cells #[Value.slice A5 key.length c5, Value.slice none 0 0, Value.bool false] 34)) = w6 at hE ⊢
  by_cases c7 : B.length < p3 + 1
  · rw [if_pos c7] at hrr
    obtain rfl := Option.some.inj hrr
    have hN := Aside0.mk (number_short' hE.rd 1 rfl c7 hq')
    clear hrr c7
    go_wp2_with (go_at_call 57; refine hN.out.mono ?_; rintro e w7 ⟨rfl, hk7, hr7⟩)
    exact ⟨rfl, keep_before hE.keep hk7, .inl ⟨rfl, rfl, hr7.below⟩⟩
  rw [if_neg c7] at hrr
  have hN := Aside0.mk (number_ok' hE.rd 1 rfl (by decide) (by decide) (show p3 + 1 ≤ B.length by omega) hq')
  have hp4 : Aside0 (p3 + 1 ≤ B.length) := ⟨by omega⟩
  generalize numB 1 B p3 = gn at *
  generalize p3 + 1 = p4 at *
  clear c7 hp3'
  replace hrr := Aside0.mk hrr
  have hE' := Aside0.mk hE
  clear hE
  go_upto_region 6 with (go_at_call 57; refine hN.out.mono ?_; rintro e w7 ⟨rfl, hk7, hr7⟩; have hE7 := hE'.out.call hk7 hr7; have hf7 := blk_frozen hE7.loc 2; have hce7 : w7.cell? ⟨e2, 2, none⟩ = _ := (blk_cell hE7.loc 2).trans rfl)
  have hE8 := hE7.gone (gn == 0)
  clear hE7 hf7 hce7 hk7 hr7 hN hE'
  generalize (w7.setCell ⟨e2, 2, none⟩ (Value.bool (gn == 0))) = w8 at hE8 ⊢
  have hg2 : w8.cell? ⟨e2, 2, none⟩ = some (.bool (gn == 0)) := (blk_cell hE8.loc 2).trans rfl
  have hrr' := hrr.out
  clear hrr
  by_cases c8 : gn = 0
  · rw [if_pos c8] at hrr'
    obtain rfl := Option.some.inj hrr'
    have hgt : (gn == 0) = true := by rw [c8]; rfl
    rw [hgt] at hE8 hg2 ⊢
    have hg0' : w8.cell? ⟨e2, 0, none⟩ = some (.slice A5 key.length c5) := (blk_cell hE8.loc 0).trans rfl
    have hg1 : w8.cell? ⟨e2, 1, none⟩ = some (.slice none 0 0) := (blk_cell hE8.loc 1).trans rfl
    have hs0 : w8.cell? ⟨w.heap.size, 0, none⟩ = some (.slice none 0 0) := (blk_cell hE8.res 0).trans rfl
    have hs1 : w8.cell? ⟨w.heap.size, 1, none⟩ = some (.slice none 0 0) := (blk_cell hE8.res 1).trans rfl
    have hs2 : w8.cell? ⟨w.heap.size, 2, none⟩ = some (.bool false) := (blk_cell hE8.res 2).trans rfl
    have hz0 := blk_frozen hE8.res 0
    have hz1 := blk_frozen hE8.res 1
    have hz2 := blk_frozen hE8.res 2
    clear c8 hrr' hgt
    go_wp2
    exact bodyPost_ret (results_cell_row (p := 4) (ty := 34) rfl _ _ w.heap.size 34 _ (0, 0) _ rfl hE8.out.1 hu34 rfl (by kernel_rfl)) rfl hE8.out.2
  rw [if_neg c8] at hrr'
  have hgn : (gn == 0) = false := by simp [c8]
  rw [hgn] at hE8 hg2 ⊢
  clear c8 hgn
  by_cases c9 : B.length < p4 + 2
  · rw [if_pos c9] at hrr'
    obtain rfl := Option.some.inj hrr'
    have hN := Aside0.mk (number_short' hE8.rd 2 rfl c9 hq')
    clear hrr' c9
    go_wp2_with (go_at_call 57; refine hN.out.mono ?_; rintro e w9 ⟨rfl, hk9, hr9⟩)
    exact ⟨rfl, keep_before hE8.keep hk9, .inl ⟨rfl, rfl, hr9.below⟩⟩
  rw [if_neg c9] at hrr'
  have hN := Aside0.mk (number_ok' hE8.rd 2 rfl (by decide) (by decide) (show p4 + 2 ≤ B.length by omega) hq')
  generalize numB 2 B p4 = m at *
  generalize p4 + 2 = p5 at *
  by_cases c10 : 0 ≤ m
  rotate_left
  · rw [if_neg c10] at hrr'; cases hrr'
  rw [if_pos c10] at hrr'
  by_cases c11 : B.length < p5 + m.toNat
  · rw [if_pos c11] at hrr'
    obtain rfl := Option.some.inj hrr'
    have c10' := Aside0.mk c10
    have c11' := Aside0.mk c11
    clear hrr' c10 c11 c9 hp4
    go_wp2_with (first | (go_at_call 69; (with_reducible refine (take_short' hr9 m c10'.out c11'.out hq').mono ?_); rintro e w10 ⟨rfl, hk10, hr10⟩) | (go_at_call 57; refine hN.out.mono ?_; rintro e w9 ⟨rfl, hk9, hr9⟩))
    exact ⟨rfl, keep_before (keep_before hE8.keep hk9) hk10, .inl ⟨rfl, rfl, hr10.below⟩⟩
  rw [if_neg c11] at hrr'
  have hT := Aside0.mk (fun (w9 : World) (hr9 : Rb w0 w9 g B p5) => take_ok' hr9 m c10 c11 hq')
  generalize (B.drop p5).take m.toNat = val at *
  generalize p5 + m.toNat = p6 at *
  obtain rfl := Option.some.inj hrr'
  have hE8' := Aside0.mk hE8
  clear hrr' c9 c10 c11 hp4 hE8
  go_upto_region 8 with (first | (go_at_call 69; (with_reducible refine (hT.out _ hr9).mono ?_); rintro e w10 ⟨v10, rfl, hv10, hk10, hr10⟩; obtain ⟨A10, c10', rfl⟩ := Kd.R_slice hv10; have hE10 := (hE8'.out.call hk9 hr9).call hk10 hr10; have hf10 := blk_frozen hE10.loc 1; have hce10 : w10.cell? ⟨e2, 1, none⟩ = _ := (blk_cell hE10.loc 1).trans rfl) | (go_at_call 57; refine hN.out.mono ?_; rintro e w9 ⟨rfl, hk9, hr9⟩))
  have hE11 := hE10.val (Kd.R_lower hv10 (hE8'.out.call hk9 hr9).keep.1)
  clear hE8' hE10 hk9 hr9 hk10 hr10 hv10 hT hN hf10 hce10 hg2
  generalize (w10.setCell ⟨e2, 1, none⟩ (Value.slice A10 val.length c10')) = w11 at hE11 ⊢
  have hg0' : w11.cell? ⟨e2, 0, none⟩ = some (.slice A5 key.length c5) := (blk_cell hE11.loc 0).trans rfl
  have hg1 : w11.cell? ⟨e2, 1, none⟩ = some (.slice A10 val.length c10') := (blk_cell hE11.loc 1).trans rfl
  have hg2' : w11.cell? ⟨e2, 2, none⟩ = some (.bool false) := (blk_cell hE11.loc 2).trans rfl
  have hs0 : w11.cell? ⟨w.heap.size, 0, none⟩ = some (.slice none 0 0) := (blk_cell hE11.res 0).trans rfl
  have hs1 : w11.cell? ⟨w.heap.size, 1, none⟩ = some (.slice none 0 0) := (blk_cell hE11.res 1).trans rfl
  have hs2 : w11.cell? ⟨w.heap.size, 2, none⟩ = some (.bool false) := (blk_cell hE11.res 2).trans rfl
  have hz0 := blk_frozen hE11.res 0
  have hz1 := blk_frozen hE11.res 1
  have hz2 := blk_frozen hE11.res 2
  go_wp2
  exact bodyPost_ret (results_cell_row (p := 4) (ty := 34) rfl _ _ w.heap.size 34 _ (0, 0) _ rfl hE11.out.1 hu34 rfl (by kernel_rfl)) rfl hE11.out.2
theorem rb_grown {k : IntKind} {e base : Nat} {W W2 : World} {row : Option Nat} {v : Value} {xs : List Int} (h : Kd.R (Kd.int k) e W base (fun _ => True) v xs) (hg : W.grownBy W2 row) (hS : ∀ g, v.ownBlock = some g → some g ≠ row) : Kd.R (Kd.int k) e W2 base (fun _ => True) v xs :=
  Kd.R_mono (Kd.R_grown (Kd.R_tight rfl h) hg (fun g hg' => hS g hg'.symm)) (fun _ _ => trivial)
/-- Entry, as it panics; as it tells one. -/
theorem entry_falls {w0 w : World} {g p : Nat} {B last : List Int} {AL : Option Addr} {cL : Nat} (h : Rb w0 w g B p) (hL : ∀ W', KeepBut w W' g none → Kd.C (Kd.int .u8) W' AL last.length last) (hcL : last.length ≤ cL) (hll : last.length ≤ 70000000000000) (hq : B.length < 70000000000000) (hr : entB B last p = some none) :
    Calls Try.prog 67 #[.pointer (some ⟨g, 0, none⟩), .slice AL last.length cL] w fun e w' => e = .panicked lacks ∧ KeepBut w w' g none ∧ Below w0.heap.size w0 w' := by
  refine (entry_calls h hL hcL hll hq hr).mono ?_
  rintro e w3 ⟨hk3, ⟨-, rfl, hb3⟩ | ⟨x', p'', v0', v1', hx, -⟩⟩
  · exact ⟨rfl, hk3, hb3⟩
  · cases hx
theorem entry_tells {w0 w : World} {g p p' : Nat} {x : S34} {B last : List Int} {AL : Option Addr} {cL : Nat} (h : Rb w0 w g B p) (hL : ∀ W', KeepBut w W' g none → Kd.C (Kd.int .u8) W' AL last.length last) (hcL : last.length ≤ cL) (hll : last.length ≤ 70000000000000) (hq : B.length < 70000000000000) (hr : entB B last p = some (some (x, p'))) :
    Calls Try.prog 67 #[.pointer (some ⟨g, 0, none⟩), .slice AL last.length cL] w fun e w' => ∃ A0 c0 A1 c1, e = .returned (.agg #[.slice A0 x.f0.length c0, .slice A1 x.f1.length c1, .bool x.f2]) ∧ KeepBut w w' g none ∧ Kd.R (Kd.int .u8) 5 w' w.heap.size (fun _ => True) (.slice A0 x.f0.length c0) x.f0 ∧ Kd.R (Kd.int .u8) 5 w' w.heap.size (fun _ => True) (.slice A1 x.f1.length c1) x.f1 ∧ Rb w0 w' g B p' := by
  refine (entry_calls h hL hcL hll hq hr).mono ?_
  rintro e w3 ⟨hk3, ⟨hx, -, -⟩ | ⟨x', p'', v0', v1', hx, rfl, hv0, hv1, hrd3⟩⟩
  · cases hx
  · injection hx with hx
    injection hx with e1 e2
    subst e1
    subst e2
    obtain ⟨A0, c0, rfl⟩ := Kd.R_slice hv0
    obtain ⟨A1, c1, rfl⟩ := Kd.R_slice hv1
    exact ⟨A0, c0, A1, c1, rfl, hk3, hv0, hv1, hrd3⟩
def entsB (B : List Int) (end_ : Int) : Nat → Nat → List S34 → List Int → Option (Option (List S34))
  | 0, _, _, _ => none
  | k + 1, p, out, last => if (p : Int) < end_ then (if out.length < 2513169434915 ∧ last.length ≤ 70000000000000 then (match entB B (if out.length % 4 = 0 then [] else last) p with
    | none => none
    | some none => some none
    | some (some y) => entsB B end_ k y.2 (out ++ [y.1]) y.1.f0) else none) else some (some out)
def EntsTold (w0 w : World) (g : Nat) (r : Option (List S34)) (e : Ending) (w' : World) : Prop :=
  KeepBut w w' g none ∧ Below w0.heap.size w0 w' ∧ ((r = none ∧ e = .panicked lacks) ∨ ∃ l v, r = some l ∧ e = .returned v ∧ Kd.S k34 34 w' w.heap.size (fun _ => True) v l)
set_option maxHeartbeats 8000000 in
set_option maxRecDepth 100000 in
theorem entries_calls {w0 w : World} {g : Nat} {B : List Int} (h : Rb w0 w g B 0) (hq : B.length < 70000000000000) (E : Int) (K : Nat) {r : Option (List S34)} (hr : entsB B E K 0 [] [] = some r) :
    Calls Try.prog 53 #[.pointer (some ⟨g, 0, none⟩), .int .i64 E] w fun e w' => EntsTold w0 w g r e w' := by
  have hg : g < w.heap.size := by obtain ⟨⟨A, c, hb, -, -⟩, -, -, -⟩ := h; exact blk_lt hb
  have hg0 := h.own
  have hu34 := Try.underlying34
  have hu79 := Try.underlying79
  replace hr := Aside0.mk hr
  have h' := Aside0.mk h
  clear h
  go_enter Try.func53, Try.ntmps53
  go_upto_region 9 with (fail)
  go_loopg [5, 6] (K + 1) (fun kq v5 v6 w' => ∃ (n p : Nat) (out : List S34) (last : List Int), Aside0 (n < kq) ∧ Aside0 (entsB B E n p out last = some r) ∧ Aside0 (Rb w0 w' g B p) ∧ Aside0 (KeepBut w w' g none) ∧ Aside0 (Kd.S k34 34 w' w.heap.size (fun _ => True) v5 out) ∧ Aside0 (Kd.R (Kd.int .u8) 5 w' w.heap.size (fun _ => True) v6 last))
  case atStart => exact ⟨K, 0, [], [], ⟨Nat.lt_succ_self _⟩, hr, h', ⟨KeepBut.refl _ _ _⟩, ⟨Kd.S_nil _ _ _ _ _⟩, ⟨Kd.R_nil _ _ _ _ _⟩⟩
  case round =>
  clear hr h'
  obtain ⟨n, p, out, last, hn, hr, hrd, hkp, hS, hL⟩ := hrel
  obtain ⟨AL, cL, rfl⟩ := Kd.R_slice hL.out
  obtain ⟨Ao, co, rfl, hco, -⟩ := Kd.S_reads hS.out
  cases n with
  | zero => have := hr.out; simp [entsB] at this
  | succ n =>
  have hr' := hr.out
  rw [entsB] at hr'
  obtain ⟨⟨A, c, hb, hC, hc⟩, hl, HB, hg1⟩ := hrd.out
  have hce : wr.cell? ⟨g, 1, none⟩ = some (.int .i64 (p : Int)) := (blk_cell hb 1).trans rfl
  clear hr hb hC hc hl HB hg1
  by_cases hp : (p : Int) < E
  rotate_left
  · rw [if_neg hp] at hr'
    obtain rfl := Option.some.inj hr'
    have d1 : decide ((p : Int) < E) = false := decide_eq_false hp
    clear hp hr'
    go_wp2
    go_ret
    exact ⟨hkp.out, hrd.out.below, .inr ⟨out, _, rfl, rfl, hS.out⟩⟩
  rw [if_pos hp] at hr'
  by_cases ha : out.length < 2513169434915 ∧ last.length ≤ 70000000000000
  rotate_left
  · rw [if_neg ha] at hr'; cases hr'
  rw [if_pos ha] at hr'
  have d1 : decide ((p : Int) < E) = true := decide_eq_true hp
  have hal := Aside0.mk ha.1
  have hll := Aside0.mk ha.2
  have hrem : Int.tmod (out.length : Int) 4 = ((out.length % 4 : Nat) : Int) := by rw [Int.tmod_eq_emod_of_nonneg (by omega)]; omega
  clear hp ha
  go_upto_if 17 with (fail)
  clear d1 hce
  -- what is read behind: nothing, or the last key
  have key : ∃ (A' : Option Addr) (c' : Nat) (l' : List Int), (if out.length % 4 = 0 then [] else last) = l' ∧ (if out.length % 4 = 0 then Value.slice none 0 0 else .slice AL last.length cL) = .slice A' l'.length c' ∧ (∀ W', KeepBut wr W' g none → Kd.C (Kd.int .u8) W' A' l'.length l') ∧ l'.length ≤ c' ∧ l'.length ≤ 70000000000000 := by
    by_cases h4 : out.length % 4 = 0
    · rw [if_pos h4, if_pos h4]
      exact ⟨none, 0, [], rfl, rfl, fun W' _ => Kd.C_nil _ _, Nat.le_refl _, by decide⟩
    · rw [if_neg h4, if_neg h4]
      exact ⟨AL, cL, last, rfl, rfl, fun W' hk => (Kd.R_reads' (row_kept hL.out hk hg)).2.2, (Kd.R_reads' hL.out).2.1, hll.out⟩
  obtain ⟨A', c', l', el, ev, hL', hcl', hll'⟩ := key
  rw [el] at hr'
  replace hr' := Aside0.mk hr'
  replace hL' := Aside0.mk hL'
  replace hcl' := Aside0.mk hcl'
  replace hll' := Aside0.mk hll'
  go_cut [6] (fun v6 wc => ∃ u : Value, v6 = u ∧ Aside0 (u = .slice A' l'.length c') ∧ Aside0 (wc = wr))
  case first =>
    by_cases h4 : out.length % 4 = 0
    · rw [if_pos h4] at ev
      have e4 : (Int.tmod (out.length : Int) 4 == 0) = true := by rw [hrem, h4]; rfl
      have e5 : ((out.length : Int) % 4 == 0) = true := by rw [beq_iff_eq]; omega
      (first | rw [e4] | rw [e5] | skip)
      clear h4
      replace ev := Aside0.mk ev
      go_wp2
      go_meet
      case rel => exact ⟨_, rfl, ev, ⟨rfl⟩⟩
    · rw [if_neg h4] at ev
      have e4 : (Int.tmod (out.length : Int) 4 == 0) = false := by rw [hrem, beq_eq_false_iff_ne]; omega
      have e5 : ((out.length : Int) % 4 == 0) = false := by rw [beq_eq_false_iff_ne]; omega
      (first | rw [e4] | rw [e5] | skip)
      clear h4
      replace ev := Aside0.mk ev
      go_wp2
      go_meet
      case rel => exact ⟨_, rfl, ev, ⟨rfl⟩⟩
  case rest =>
  obtain ⟨u, rfl, hu, hwc⟩ := hcut
  obtain rfl := hu.out
  obtain rfl := hwc.out
  clear hu
  clear hwc ev hL hrem el
  have hS' := hS.out
  have hol : Aside0 (∀ k, (Value.slice Ao out.length co).ownBlock = some k → k < wc.heap.size) := ⟨Kd.S_lt hS'⟩
  cases he : entB B l' p with
  | none => rw [he] at hr'; cases hr'.out
  | some oo =>
  have hr2 := hr'.out
  rw [he] at hr2
  clear hr'
  replace he := Aside0.mk he
  cases oo with
  | none =>
    obtain rfl := Option.some.inj hr2
    clear hr2
    go_wp2_with (go_at_call 67; (with_reducible refine (entry_falls hrd.out hL'.out hcl'.out hll'.out hq he.out).mono ?_); rintro e w3 ⟨rfl, hk3, hb3⟩)
    exact ⟨rfl, keep_before hkp.out hk3, hb3, .inl ⟨rfl, rfl⟩⟩
  | some y =>
  obtain ⟨x, p'⟩ := y
  replace hr2 : entsB B E n p' (out ++ [x]) x.f0 = some r := hr2
  replace hr2 := Aside0.mk hr2
  go_upto_region 7 with (go_at_call 67; (with_reducible refine (entry_tells hrd.out hL'.out hcl'.out hll'.out hq he.out).mono ?_); rintro e w3 ⟨Y0, y0, Y1, y1, rfl, hk3, hv0, hv1, hr3⟩)
  have hS4 := Aside0.mk (Kd.S_alloc (Kd.S_mono (Kd.S_keep (Kd.S_bound hS') hk3 (fun k hk => by have := hk.2.1; omega)) (ok' := fun k => True ∧ ¬ wc.heap.size ≤ k) (fun k hk => ⟨trivial, by have := hk.2.2.1; omega⟩)) (Obj.cells #[Value.slice Y0 x.f0.length y0, Value.slice Y1 x.f1.length y1, Value.bool x.f2] 34))
  have hx7 := blk_new w3 (Obj.cells #[Value.slice Y0 x.f0.length y0, Value.slice Y1 x.f1.length y1, Value.bool x.f2] 34)
  have hk4 : KeepBut w (w3.alloc (Obj.cells #[Value.slice Y0 x.f0.length y0, Value.slice Y1 x.f1.length y1, Value.bool x.f2] 34)) g none := keep_alloc (keep_before hkp.out hk3) _
  have hr4 := hr3.alloc (Obj.cells #[Value.slice Y0 x.f0.length y0, Value.slice Y1 x.f1.length y1, Value.bool x.f2] 34)
  have hv04 := Aside0.mk (Kd.R_alloc hv0 (Obj.cells #[Value.slice Y0 x.f0.length y0, Value.slice Y1 x.f1.length y1, Value.bool x.f2] 34))
  have hv14 := Aside0.mk (Kd.R_alloc hv1 (Obj.cells #[Value.slice Y0 x.f0.length y0, Value.slice Y1 x.f1.length y1, Value.bool x.f2] 34))
  have hN4 : Aside0 (w.heap.size ≤ wc.heap.size ∧ w.heap.size ≤ (w3.alloc (Obj.cells #[Value.slice Y0 x.f0.length y0, Value.slice Y1 x.f1.length y1, Value.bool x.f2] 34)).heap.size) := ⟨hkp.out.1, hk4.1⟩
  clear hv0 hv1 hr3 hS' hS hrd hL' hcl' hll' he hkp
  have hv0 := hv04
  have hv1 := hv14
  clear hv04 hv14
  have he7 : Aside0 (wc.heap.size ≤ w3.heap.size) := ⟨hk3.1⟩
  generalize w3.heap.size = e7 at hx7 he7 ⊢
  generalize (w3.alloc (Obj.cells #[Value.slice Y0 x.f0.length y0, Value.slice Y1 x.f1.length y1, Value.bool x.f2] 34)) = w4 at hS4 hx7 hk4 hr4 hv0 hv1 hN4 ⊢
  have z0 := (blk_cell hx7 0).trans rfl
  have z1 := (blk_cell hx7 1).trans rfl
  have z2 := (blk_cell hx7 2).trans rfl
  replace hx7 := Aside0.mk hx7
  replace hk4 := Aside0.mk hk4
  replace hr4 := Aside0.mk hr4
  go_upto_region 8 with ((with_reducible refine gate_builtin (b := .append) (xs := #[.tmp 21, .tmp 23]) rfl ?_); at_builtin; refine Kd.S_append k34 (w0 := w4) w.heap.size rfl (.tmp 21) (.tmp 23) 22 34 (.agg #[(.slice none 0 0), (.slice none 0 0), (.bool false)]) 56 rfl Try.underlying22 info34 rfl (by decide) (by omega) (.slice Ao out.length co) out x [.slice Y0 x.f0.length y0, .slice Y1 x.f1.length y1, .bool x.f2] (fun _ => True) (fun k => wc.heap.size ≤ k) rfl rfl ?aP ?aK ?aF ?aO ?aB ?aS ?aL ?_; (case aP => exact k34_mkM _ _ _ x (Kd.R_mono (Kd.R_lower (Kd.R_bound hv0.out) hN4.out.1) (fun k hk => hk.2.1)) (Kd.R_mono (Kd.R_lower (Kd.R_bound hv1.out) hN4.out.1) (fun k hk => hk.2.1))); (case aK => exact fun k hk => ⟨trivial, fun he => Nat.lt_irrefl _ (Nat.lt_of_lt_of_le (hol.out k he.symm) hk)⟩); (case aF => exact (fun _ _ => trivial)); (case aO => exact hS4.out); (case aB => exact Below.refl _ _); (case aS => exact hN4.out.2); (case aL => have := hal.out; omega); intro v5' w5 ho5 hb5 hg5 hat5; clear hat5)
  have hlo : ∀ k, (Value.slice Ao out.length co).ownBlock = some k → w.heap.size ≤ k := fun k hk => Kd.R_base (Kd.S_R hS4.out) k hk
  have hne : some g ≠ (Value.slice Ao out.length co).ownBlock := fun e => by have := hlo g e.symm; omega
  have hx75 := blk_grown hx7.out hg5 (fun e => by
    obtain ⟨cs, hcs⟩ := Kd.R_typed (Kd.S_R hS4.out) e7 e.symm
    have h1 := hol.out e7 e.symm
    have h2 := he7.out
    omega)
  have z0' := (blk_cell hx75 0).trans rfl
  have hL5 := Aside0.mk (rb_grown (Kd.R_lower hv0.out hN4.out.1) hg5 (fun k hk e => by
    have h1 := hol.out k e.symm
    have h2 := Kd.R_base hv0.out k hk
    omega))
  have hr5 := Aside0.mk (hr4.out.grown hg5 hne (below_weaken hr4.out.below (by omega) hb5))
  have hk5 := Aside0.mk (keep_on hk4.out hb5)
  have hS5 := Aside0.mk ho5
  clear hx7 hk4 hr4 hv0 hv1 hS4 hol hlo hne hg5 hb5 ho5 hx75 z0 z1 z2
  go_wp2
  go_roundg (n + 1)
  case measure => exact hn.out
  case rel => exact ⟨n, p', out ++ [x], x.f0, ⟨Nat.lt_succ_self _⟩, hr2, hr5, hk5, hS5, hL5⟩
set_option maxHeartbeats 8000000 in
set_option maxRecDepth 100000 in
theorem catch_panics (p : Addr) (x : Value) (u : TypeId) (pv : Value) (older : List PanicEntry) (w : World) (hc : w.cell? p = some x) (hz : w.frozen? p = false) :
    CallsD Try.prog 52 #[.pointer (some p)] (.panicking ({ v := .iface u pv, recovered := false } :: older)) w fun e u' w' =>
      e = .returned (.tuple #[]) ∧ u' = .panicking ({ v := .iface u pv, recovered := true } :: older) ∧ w' = w.setCell p (.slice none 0 0) := by
  refine callsD_of_wpS Try.func52 rfl fun c₀ cs hu => ?_
  apply wpS_seq
  apply wpS_region
  simp [wpOpsS, go_sem, recoverD, hu, Try.ntmps52, Exit.thenS]
  refine wpS_cond (t := true) (by simp [Act.eval, Array.replicate]) ?_
  simp only [if_true]
  apply wpS_region
  simp [wpOpsS, go_sem, hc, hz, bodyPostS, results, Try.results52]
set_option maxHeartbeats 8000000 in
set_option maxRecDepth 100000 in
theorem catch_idle (p : Addr) (w : World) :
    CallsD Try.prog 52 #[.pointer (some p)] .returning w fun e u' w' => e = .returned (.tuple #[]) ∧ u' = .returning ∧ w' = w := by
  refine callsD_of_wpS Try.func52 rfl fun c₀ cs hu => ?_
  apply wpS_seq
  apply wpS_region
  simp [wpOpsS, go_sem, recoverD, hu, Try.ntmps52, Exit.thenS]
  refine wpS_cond (t := false) (by simp [Act.eval, Array.replicate]) ?_
  simp only [Bool.false_eq_true, if_false]
  refine wpS_of_wp (wp_skip ?_)
  cases c₀
  simp_all [bodyPostS, results, Try.results52]
set_option maxHeartbeats 8000000 in
set_option maxRecDepth 100000 in
/-- The way out, by a return: the closure finds nothing to recover; the result is what the variable holds. -/
theorem door_ret {R : Ending → World → Prop} {tmps : Array Value} {p : Addr} {v0 : Value} {w : World} (ht : tmps[2]? = some (.pointer (some p))) (hc : w.cell? p = some v0) (hR : R (.returned v0) w) :
    bodyPostD Try.prog Try.f33 R Exit.ret { tmps := tmps, defers := [{ target := Target.fn (Fn.func 52) #[.pointer (some p)], args := #[] }] } w := by
  refine leaves_cons (f := 52) (args := #[.pointer (some p)]) (by simp) (by simp [go_sem]) ?_
  refine (catch_idle p w).mono ?_
  rintro e u' w'' ⟨rfl, rfl, rfl⟩
  simp [Leaves, settle, results, Try.results33, go_sem, ht, hc, hR]
set_option maxHeartbeats 8000000 in
set_option maxRecDepth 100000 in
/-- The way out, by a panic: the closure recovers, the variable is emptied. -/
theorem door_panic {R : Ending → World → Prop} {tmps : Array Value} {p : Addr} {v0 : Value} {w : World} (ht : tmps[2]? = some (.pointer (some p))) (hc : w.cell? p = some v0) (hz : w.frozen? p = false) (hR : R (.returned (.slice none 0 0)) (w.setCell p (.slice none 0 0))) :
    bodyPostD Try.prog Try.f33 R (Exit.panic lacks) { tmps := tmps, defers := [{ target := Target.fn (Fn.func 52) #[.pointer (some p)], args := #[] }] } w := by
  refine leaves_cons (f := 52) (args := #[.pointer (some p)]) (by simp) (by simp [go_sem]) ?_
  refine (catch_panics p v0 27 _ [] w hc hz).mono ?_
  rintro e u' w'' ⟨rfl, rfl, rfl⟩
  simp [Leaves, settle, results, Try.results33, go_sem, ht, hc, hz, hR]
theorem entries_falls {w0 w : World} {g : Nat} {B : List Int} (h : Rb w0 w g B 0) (hq : B.length < 70000000000000) (E : Int) (K : Nat) (hr : entsB B E K 0 [] [] = some none) :
    Calls Try.prog 53 #[.pointer (some ⟨g, 0, none⟩), .int .i64 E] w fun e w' => e = .panicked lacks ∧ KeepBut w w' g none ∧ Below w0.heap.size w0 w' := by
  refine (entries_calls h hq E K hr).mono ?_
  rintro e w3 ⟨hk3, hb3, ⟨-, rfl⟩ | ⟨l, v, hl, -⟩⟩
  · exact ⟨rfl, hk3, hb3⟩
  · cases hl
theorem entries_tells {w0 w : World} {g : Nat} {B : List Int} {l : List S34} (h : Rb w0 w g B 0) (hq : B.length < 70000000000000) (E : Int) (K : Nat) (hr : entsB B E K 0 [] [] = some (some l)) :
    Calls Try.prog 53 #[.pointer (some ⟨g, 0, none⟩), .int .i64 E] w fun e w' => ∃ v, e = .returned v ∧ KeepBut w w' g none ∧ Below w0.heap.size w0 w' ∧ Kd.S k34 34 w' w.heap.size (fun _ => True) v l := by
  refine (entries_calls h hq E K hr).mono ?_
  rintro e w3 ⟨hk3, hb3, ⟨hl, -⟩ | ⟨l', v, hl, rfl, hS⟩⟩
  · cases hl
  · cases hl
    exact ⟨v, rfl, hk3, hb3, hS⟩
def rbEnd (l : List Int) : Int := wrap64 ((l.length : Int) - 1 - wrap64 (2 * wrap64 (rd l ((l.length : Int) - 1))))
def block_read.f (l0 : List Int) : Option (List S34) :=
  if l0.length < 70000000000000 then (if l0.length = 0 then some [] else (entsB l0 (rbEnd l0) (l0.length + 2) 0 [] []).bind fun o => some (o.getD [])) else none
set_option maxHeartbeats 8000000 in
set_option maxRecDepth 100000 in
theorem block_read.calls (A0 : Option Addr) (c0 : Nat) (l0 : List Int) (r : List S34) (w : World) (hr0 : Kd.C (Kd.int .u8) w A0 l0.length l0) (hc0 : l0.length ≤ c0) (h : block_read.f l0 = some r) :
    Calls Try.prog 33 #[.slice A0 l0.length c0] w fun e w' => ∃ v0_ : Value, e = .returned (v0_) ∧ Kd.S k34 34 w' w.heap.size (fun _ => True) v0_ r ∧ Below w.heap.size w w' := by
  have hmf : ∀ (fn : Fn) (first cap : Array Value) (w : World), (Instr.makeFunc fn first cap).run Try.prog w = .ok (.func fn first cap) w := fun _ _ _ _ => rfl
  have hu79 := Try.underlying79
  unfold block_read.f at h
  by_cases hq : l0.length < 70000000000000
  rotate_left
  · rw [if_neg hq] at h; cases h
  rw [if_pos hq] at h
  have hb0 := blk_new w (Obj.cells #[Value.slice none 0 0] 22)
  have hB0 : Below w.heap.size w (w.alloc (Obj.cells #[Value.slice none 0 0] 22)) := below_alloc (Below.refl _ _) _
  have hs0 : (w.alloc (Obj.cells #[Value.slice none 0 0] 22)).heap.size = w.heap.size + 1 := Array.size_push _
  go_enter_defers Try.func33, Try.ntmps33
  go_upto_region 2 with (fail)
  generalize (w.alloc (Obj.cells #[Value.slice none 0 0] 22)) = w1 at hb0 hB0 hs0 ⊢
  by_cases c1 : l0.length = 0
  · rw [if_pos c1] at h
    obtain rfl := Option.some.inj h
    have d1 : ((l0.length : Int) == 0) = true := by rw [c1]; rfl
    have d2 : (l0.length == 0) = true := by rw [c1]; rfl
    have hce : w1.cell? ⟨w.heap.size, 0, none⟩ = some (.slice none 0 0) := (blk_cell hb0 0).trans rfl
    have hf := blk_frozen hb0 0
    go_upto_if 7 with (fail)
    (first | rw [d1] | rw [d2] | skip)
    clear d1 d2
    go_wp2
    have hb2 := blk_put hb0 0 (Value.slice none 0 0) rfl
    exact door_ret rfl ((blk_cell hb2 0).trans rfl) ⟨_, rfl, Kd.S_nil _ _ _ _ _, below_set hB0 (Nat.le_refl _)⟩
  rw [if_neg c1] at h
  have d1 : ((l0.length : Int) == 0) = false := by rw [beq_eq_false_iff_ne]; omega
  obtain ⟨o, ho, h⟩ := Option.bind_eq_some_iff.1 h
  obtain rfl := Option.some.inj h
  obtain ⟨ad, ead, hx⟩ := Kd.at_int (Kd.C_below hr0 hB0) ((l0.length : Int) - 1) (by omega) (by omega)
  have ht : ((l0.length : Int) - 1).toNat = l0.length - 1 := by omega
  unfold rbEnd at ho
  generalize hz : rd l0 ((l0.length : Int) - 1) = z at hx ho
  cases ead
  rw [ht] at hx
  have p1 : (0 ≤ (l0.length : Int) - 1) = True := eq_true (by omega)
  have p2 : ((l0.length : Int) - 1 < (l0.length : Int)) = True := eq_true (by omega)
  have hlw : Aside0 (wrap64 ((l0.length : Int) - 1) = (l0.length : Int) - 1) := ⟨by unfold wrap64; omega⟩
  replace ho := Aside0.mk ho
  go_upto_if 7 with (fail)
  (first | rw [d1] | skip)
  clear d1 hz
  go_upto_region 5 with (fail)
  clear p1 p2 hlw hx ht c1 h
  have hrd : Rb w (w1.alloc (Obj.cells #[Value.slice (some ad) l0.length c0, Value.int .i64 0] 79)) w1.heap.size l0 0 :=
    ⟨⟨some ad, c0, blk_new _ _, hr0, hc0⟩, Nat.zero_le _, below_alloc hB0 _, below_size hB0⟩
  have hb2 := blk_alloc hb0 (Obj.cells #[Value.slice (some ad) l0.length c0, Value.int .i64 0] 79)
  have hs2 : (w1.alloc (Obj.cells #[Value.slice (some ad) l0.length c0, Value.int .i64 0] 79)).heap.size = w1.heap.size + 1 := Array.size_push _
  generalize (wrap64 ((l0.length : Int) - 1 - wrap64 (2 * wrap64 z))) = E at ho ⊢
  replace hrd := Aside0.mk hrd
  replace hb2 := Aside0.mk hb2
  replace hs2 := Aside0.mk hs2
  replace hs0 := Aside0.mk hs0
  replace hB0 := Aside0.mk hB0
  clear hb0
  cases o with
  | none =>
    go_wp2_with (go_at_call 53; refine (entries_falls hrd.out hq E _ ho.out).mono ?_; rintro e w3 ⟨rfl, hk3, hb3⟩)
    have hb4 := hk3.blk hb2.out (by have := hs0.out; have := hs2.out; omega) (by simp)
    exact door_panic rfl ((blk_cell hb4 0).trans rfl) (blk_frozen hb4 0) ⟨_, rfl, Kd.S_nil _ _ _ _ _, below_set hb3 (Nat.le_refl _)⟩
  | some l =>
    go_wp2_with (go_at_call 53; refine (entries_tells hrd.out hq E _ ho.out).mono ?_; rintro e w3 ⟨v, rfl, hk3, hb3, hS⟩; obtain ⟨Ao, co, rfl, -, -⟩ := Kd.S_reads hS; have hb4 := hk3.blk hb2.out (by have := hs0.out; have := hs2.out; omega) (by simp); have hce := (blk_cell hb4 0).trans rfl; have hf := blk_frozen hb4 0)
    have hb5 := blk_put hb4 0 (Value.slice Ao l.length co) rfl
    refine door_ret rfl ((blk_cell hb5 0).trans rfl) ⟨_, rfl, ?_, below_set hb3 (Nat.le_refl _)⟩
    have h1 := hs2.out
    have h2 := hs0.out
    exact Kd.S_mono (Kd.S_far (p := ⟨w.heap.size, 0, none⟩) (Kd.S_mono (Kd.S_lower (Kd.S_bound hS) (by omega)) (ok' := fun k => k ≠ w.heap.size) (fun k hk => by have := hk.2.1; omega)) (fun _ hk => hk) _) (fun _ _ => trivial)

/-! ### block_All: function 14 -/
def block_All.f (k : Nat) (l0 : List Int) : Option ((List (S34)) × Int) := (block_read.f l0).bind fun t178 => ((block_Build.f k t178).bind fun bt181 => (if bt181.2 = 0 then (if (strOfNums bt181.1).toList = (strOfNums l0).toList then (some (t178, 0)) else (some (([] : List (S34)), 12))) else (some (([] : List (S34)), 12))))
theorem block_All.mono : ∀ a0 k, LeO (block_All.f k a0) (block_All.f (k + 1) a0) := by
 intro a0 k
 unfold block_All.f
 repeat' first
   | (with_reducible exact block_Build.mono _ _)
   | (with_reducible exact LeO.refl _)
   | (with_reducible exact LeO.none _)
   | (with_reducible refine LeO.ite ?_ ?_)
   | (with_reducible refine LeO.bind ?_ (fun _ => ?_))
   | exact block_Build.mono _ _
   | exact LeO.none _
   | refine LeO.ite ?_ ?_
   | refine LeO.bind ?_ (fun _ => ?_)
set_option maxHeartbeats 8000000 in
set_option maxRecDepth 100000 in
theorem block_All.calls (k : Nat) (A0 : Option Addr) (c0 : Nat) (l0 : List Int) (r1 : List (S34)) (r2 : Int) (w : World) (hr0 : Kd.C (Kd.int .u8) w A0 l0.length l0) (hc0 : l0.length ≤ c0) (h : block_All.f k l0 = some (r1, r2)) :
  Calls Try.prog 14 #[.slice A0 l0.length c0] w fun e w' => ∃ v0_ : Value, e = .returned (.tuple #[v0_, .int .i64 r2]) ∧ Kd.S k34 34 w' w.heap.size (fun _ => True) v0_ r1 ∧ Below w.heap.size w w' := by
 have HR0 := Aside0.mk hr0
 have HC0 := Aside0.mk hc0
 clear hr0 hc0
 have HB := Aside0.mk (Below.refl w.heap.size w)
 have H : ((block_read.f l0).bind fun t178 => ((block_Build.f k t178).bind fun bt181 => (if bt181.2 = 0 then (if (strOfNums bt181.1).toList = (strOfNums l0).toList then (some (t178, 0)) else (some (([] : List (S34)), 12))) else (some (([] : List (S34)), 12))))) = some (r1, r2) := h
 clear h
 replace H := Option.bind_eq_some_iff.mp H
 obtain ⟨t178, A20, H⟩ := H
 replace H : ((block_Build.f k t178).bind fun bt181 => (if bt181.2 = 0 then (if (strOfNums bt181.1).toList = (strOfNums l0).toList then (some (t178, 0)) else (some (([] : List (S34)), 12))) else (some (([] : List (S34)), 12)))) = some (r1, r2) := H
 have A2 := Aside0.mk A20
 clear A20
 replace H := Option.bind_eq_some_iff.mp H
 obtain ⟨⟨t181, t182⟩, A30, H⟩ := H
 replace H : (if t182 = 0 then (if (strOfNums t181).toList = (strOfNums l0).toList then (some (t178, 0)) else (some (([] : List (S34)), 12))) else (some (([] : List (S34)), 12))) = some (r1, r2) := H
 have A3 := Aside0.mk A30
 clear A30
 by_cases c4 : t182 = 0
 ·rw [if_pos c4] at H
  have c4b0 : (t182 == 0) = true := beq_iff_eq.mpr c4
  have c4b1 : (t182 != 0) = false := bne_eq_false_iff_eq.mpr c4
  clear c4
  by_cases c5 : (strOfNums t181).toList = (strOfNums l0).toList
  ·rw [if_pos c5] at H
   have c5b0 : ((strOfNums t181).toList == (strOfNums l0).toList) = true := beq_iff_eq.mpr c5
   have c5b1 : ((strOfNums t181).toList != (strOfNums l0).toList) = false := bne_eq_false_iff_eq.mpr c5
   clear c5
   simp only [Option.some.injEq, Prod.mk.injEq] at H
   obtain ⟨rfl, rfl⟩ := H
   go_enter Try.func14, Try.ntmps14
   go_wp2_with (first | ((with_reducible refine gate_callee (f := 33) rfl ?_); refine goesL_ (some 8) rfl rfl Try.func33 (by kernel_rfl) rfl #[.slice A0 l0.length c0] rfl argN ?_; (with_reducible refine (block_read.calls _ _ l0 t178 _ ?side1 ?side2 A2.out).mono ?_); (case side1 => repeat (first | exact HR0.out | (with_reducible refine Kd.C_alloc ?_ _) | (with_reducible refine Kd.C_drewN ?_ _) | (with_reducible refine Kd.C_drew ?_))); (case side2 => exact HC0.out); rintro e w6 ⟨v179, rfl, ho0, hb⟩; refine ⟨_, rfl, ?_⟩; have n0_ := Aside0.mk (Kd.S_lower ho0 (below_size (belN HB.out))); have n1_ := Aside0.mk (below_step (belN HB.out) hb); clear HB; have HO180 := n0_; have HB := n1_; clear n0_ n1_; (try clear hb); (try clear hk); (try clear ho0); obtain ⟨Ao7, co7, eo7⟩ := Kd.S_slice HO180.out; subst eo7) | ((with_reducible refine gate_callee (f := 13) rfl ?_); refine goesL_ (some 11) rfl rfl Try.func13 (by kernel_rfl) rfl #[.slice Ao7 t178.length co7] rfl argN ?_; (with_reducible refine (block_Build.calls k _ _ t178 t181 t182 _ ?side1 ?side2 A3.out).mono ?_); (case side1 => repeat (first | exact (Kd.S_reads' HO180.out).2.2 | (with_reducible refine Kd.C_alloc ?_ _) | (with_reducible refine Kd.C_drewN ?_ _) | (with_reducible refine Kd.C_drew ?_))); (case side2 => exact (Kd.S_reads' HO180.out).2.1); rintro e w8 ⟨v183, rfl, ho0, hb⟩; refine ⟨_, rfl, ?_⟩; have n0_ := Aside0.mk (Kd.S_elder' (by (with_reducible repeat (first | apply Kd.S_alloc | apply Kd.S_drewN | apply Kd.S_drew)); exact HO180.out) (Kd.R_base ho0) hb); have n1_ := Aside0.mk (Kd.R_lower ho0 (below_size (belN HB.out))); have n2_ := Aside0.mk (below_step (belN HB.out) hb); clear HO180; clear HB; have HO180 := n0_; have HO184 := n1_; have HB := n2_; clear n0_ n1_ n2_; (try clear hb); (try clear hk); (try clear ho0); have hcv9 := own_string (P := Try.prog) Try.underlying26 Try.underlying5 Try.underlying9 (Kd.own_of_R HO184.out); have hcv10 := Kd.C_string (P := Try.prog) (A := A0) (c := c0) Try.underlying26 Try.underlying5 Try.underlying9 (Kd.C_below HR0.out HB.out)))
   go_ret2
   exact ⟨_, by first | rfl | (simp [errW_none, errW_some] <;> rfl) | (simp [*, errW_none, errW_some] <;> rfl), by (with_reducible repeat (first | apply Kd.S_alloc | apply Kd.S_drewN | apply Kd.S_drew)); exact Kd.S_mono HO180.out (fun _ hk => trivial), (belN HB.out)⟩
  ·rw [if_neg c5] at H
   have c5b0 : ((strOfNums t181).toList == (strOfNums l0).toList) = false := beq_eq_false_iff_ne.mpr c5
   have c5b1 : ((strOfNums t181).toList != (strOfNums l0).toList) = true := bne_iff_ne.mpr c5
   simp only [Option.some.injEq, Prod.mk.injEq] at H
   obtain ⟨rfl, rfl⟩ := H
   go_enter Try.func14, Try.ntmps14
   go_wp2_with (first | ((with_reducible refine gate_callee (f := 33) rfl ?_); refine goesL_ (some 8) rfl rfl Try.func33 (by kernel_rfl) rfl #[.slice A0 l0.length c0] rfl argN ?_; (with_reducible refine (block_read.calls _ _ l0 t178 _ ?side1 ?side2 A2.out).mono ?_); (case side1 => repeat (first | exact HR0.out | (with_reducible refine Kd.C_alloc ?_ _) | (with_reducible refine Kd.C_drewN ?_ _) | (with_reducible refine Kd.C_drew ?_))); (case side2 => exact HC0.out); rintro e w11 ⟨v179, rfl, ho0, hb⟩; refine ⟨_, rfl, ?_⟩; have n0_ := Aside0.mk (Kd.S_lower ho0 (below_size (belN HB.out))); have n1_ := Aside0.mk (below_step (belN HB.out) hb); clear HB; have HO180 := n0_; have HB := n1_; clear n0_ n1_; (try clear hb); (try clear hk); (try clear ho0); obtain ⟨Ao12, co12, eo12⟩ := Kd.S_slice HO180.out; subst eo12) | ((with_reducible refine gate_callee (f := 13) rfl ?_); refine goesL_ (some 11) rfl rfl Try.func13 (by kernel_rfl) rfl #[.slice Ao12 t178.length co12] rfl argN ?_; (with_reducible refine (block_Build.calls k _ _ t178 t181 t182 _ ?side1 ?side2 A3.out).mono ?_); (case side1 => repeat (first | exact (Kd.S_reads' HO180.out).2.2 | (with_reducible refine Kd.C_alloc ?_ _) | (with_reducible refine Kd.C_drewN ?_ _) | (with_reducible refine Kd.C_drew ?_))); (case side2 => exact (Kd.S_reads' HO180.out).2.1); rintro e w13 ⟨v183, rfl, ho0, hb⟩; refine ⟨_, rfl, ?_⟩; have n0_ := Aside0.mk (Kd.S_elder' (by (with_reducible repeat (first | apply Kd.S_alloc | apply Kd.S_drewN | apply Kd.S_drew)); exact HO180.out) (Kd.R_base ho0) hb); have n1_ := Aside0.mk (Kd.R_lower ho0 (below_size (belN HB.out))); have n2_ := Aside0.mk (below_step (belN HB.out) hb); clear HO180; clear HB; have HO180 := n0_; have HO184 := n1_; have HB := n2_; clear n0_ n1_ n2_; (try clear hb); (try clear hk); (try clear ho0); have hcv14 := own_string (P := Try.prog) Try.underlying26 Try.underlying5 Try.underlying9 (Kd.own_of_R HO184.out); have hcv15 := Kd.C_string (P := Try.prog) (A := A0) (c := c0) Try.underlying26 Try.underlying5 Try.underlying9 (Kd.C_below HR0.out HB.out)))
   go_ret2
   exact ⟨_, by first | rfl | (simp [errW_none, errW_some] <;> rfl) | (simp [*, errW_none, errW_some] <;> rfl), by first | exact Kd.S_nil _ _ _ _ _ | exact Kd.N_nil _ _ _ _ _ | exact Kd.V_nil _ _ _ _ _ | exact Kd.Q_nil _ _ _ _ _ | exact Kd.R_nil _ _ _ _ _, (belN HB.out)⟩
 ·rw [if_neg c4] at H
  have c4b0 : (t182 == 0) = false := beq_eq_false_iff_ne.mpr c4
  have c4b1 : (t182 != 0) = true := bne_iff_ne.mpr c4
  simp only [Option.some.injEq, Prod.mk.injEq] at H
  obtain ⟨rfl, rfl⟩ := H
  go_enter Try.func14, Try.ntmps14
  go_wp2_with (first | ((with_reducible refine gate_callee (f := 33) rfl ?_); refine goesL_ (some 8) rfl rfl Try.func33 (by kernel_rfl) rfl #[.slice A0 l0.length c0] rfl argN ?_; (with_reducible refine (block_read.calls _ _ l0 t178 _ ?side1 ?side2 A2.out).mono ?_); (case side1 => repeat (first | exact HR0.out | (with_reducible refine Kd.C_alloc ?_ _) | (with_reducible refine Kd.C_drewN ?_ _) | (with_reducible refine Kd.C_drew ?_))); (case side2 => exact HC0.out); rintro e w16 ⟨v179, rfl, ho0, hb⟩; refine ⟨_, rfl, ?_⟩; have n0_ := Aside0.mk (Kd.S_lower ho0 (below_size (belN HB.out))); have n1_ := Aside0.mk (below_step (belN HB.out) hb); clear HB; have HO180 := n0_; have HB := n1_; clear n0_ n1_; (try clear hb); (try clear hk); (try clear ho0); obtain ⟨Ao17, co17, eo17⟩ := Kd.S_slice HO180.out; subst eo17) | ((with_reducible refine gate_callee (f := 13) rfl ?_); refine goesL_ (some 11) rfl rfl Try.func13 (by kernel_rfl) rfl #[.slice Ao17 t178.length co17] rfl argN ?_; (with_reducible refine (block_Build.calls k _ _ t178 t181 t182 _ ?side1 ?side2 A3.out).mono ?_); (case side1 => repeat (first | exact (Kd.S_reads' HO180.out).2.2 | (with_reducible refine Kd.C_alloc ?_ _) | (with_reducible refine Kd.C_drewN ?_ _) | (with_reducible refine Kd.C_drew ?_))); (case side2 => exact (Kd.S_reads' HO180.out).2.1); rintro e w18 ⟨v183, rfl, ho0, hb⟩; refine ⟨_, rfl, ?_⟩; have n0_ := Aside0.mk (Kd.S_elder' (by (with_reducible repeat (first | apply Kd.S_alloc | apply Kd.S_drewN | apply Kd.S_drew)); exact HO180.out) (Kd.R_base ho0) hb); have n1_ := Aside0.mk (Kd.R_lower ho0 (below_size (belN HB.out))); have n2_ := Aside0.mk (below_step (belN HB.out) hb); clear HO180; clear HB; have HO180 := n0_; have HO184 := n1_; have HB := n2_; clear n0_ n1_ n2_; (try clear hb); (try clear hk); (try clear ho0)))
  go_ret2
  exact ⟨_, by first | rfl | (simp [errW_none, errW_some] <;> rfl) | (simp [*, errW_none, errW_some] <;> rfl), by first | exact Kd.S_nil _ _ _ _ _ | exact Kd.N_nil _ _ _ _ _ | exact Kd.V_nil _ _ _ _ _ | exact Kd.Q_nil _ _ _ _ _ | exact Kd.R_nil _ _ _ _ _, (belN HB.out)⟩

/-! ### a constant's bytes -/
theorem constb_lit {P : Program} {ops : Array Oper} {rest : List Oper} {o : Oper} {a : Act} {Q : Exit → Act → World → Prop} {W : World} {n E : Nat} {inner : List Value} (hgd : o.guard = none)
    (hrun : (execOp a.eval o).run P W = .ok (.value (.slice (some ⟨W.heap.size, 0, none⟩) n n)) (W.alloc (.cells inner.toArray E)))
    (h : wpList P ops Q rest (a.put o.dst (.slice (some ⟨W.heap.size, 0, none⟩) n n)) (W.alloc (.cells inner.toArray E))) : wpList P ops Q (o :: rest) a W := Kd.event_run hgd hrun h
theorem constb_conv {P : Program} {ops : Array Oper} {rest : List Oper} {o : Oper} {a : Act} {Q : Exit → Act → World → Prop} {W : World} (T E : TypeId) {N1 N2 : Tmp} {xs : List Int} {C : Array Value} (hgd : o.guard = none) (hd : o.dst = some N2)
    (ho : o.op = .convert T T (.tmp N1)) (hC : C = (xs.map (Value.int .u8)).toArray) (hv : a.eval (.tmp N1) = .slice (some ⟨W.heap.size, 0, none⟩) xs.length xs.length) (ht : P.underlying T = some (.slice E)) (he : P.underlying E = some (.int .u8)) (hm : xs.length ≤ 9223372036854775807)
    (h : ∀ v1 w1, Kd.V (Kd.int .u8) E w1 W.heap.size (fun k_ => W.heap.size ≤ k_) v1 xs → Below W.heap.size W w1 → wpList P ops Q rest (a.put (some N2) v1) w1) : wpList P ops Q (o :: rest) a (W.alloc (.cells C E)) := by
  have hrun : (execOp a.eval o).run P (W.alloc (.cells C E)) = .ok (.value (.slice (some ⟨W.heap.size, 0, none⟩) xs.length xs.length)) (W.alloc (.cells C E (C.size, C.size + 1))) := by
    unfold execOp
    rw [ho]
    simp only [hv, Sem.run_bind, Sem.run_pure, Lib.run_convert_bytes_const W T E C xs.length xs.length ht he, Result.andThen_ok]
  refine Kd.event_run hgd hrun ?_
  rw [hd]
  refine h _ _ ⟨_, _, rfl, Nat.le_refl _, ?_⟩ (below_alloc (Below.refl _ _) _)
  intro W' hW
  have hlt : W.heap.size < (W.alloc (.cells C E (C.size, C.size + 1))).heap.size := by simp
  have hb : W'.heap[W.heap.size]? = some (.cells C E (C.size, C.size + 1)) := by
    rw [hW W.heap.size (Nat.le_refl _) hlt]
    show (W.heap.push _)[W.heap.size]? = _
    simp
  refine ⟨rfl, hm, fun _ => ⟨_, rfl, fun j p hj => ⟨[Value.int .u8 p], rfl, rfl, fun i u hu => ?_⟩⟩⟩
  have hi : i = 0 := by
    rcases i with _ | i
    · rfl
    · simp at hu
  subst hi
  obtain rfl : Value.int .u8 p = u := by simpa using hu
  rw [add_plain]
  have hj2 : C[j]? = some (Value.int .u8 p) := by
    rw [hC]
    simp [hj]
  simp only [World.cell?, hb]
  simpa [Kd.int, Kd.scalar] using hj2

end Go.Proofs.Ytpcomhliikmjkaa.PBlockTells

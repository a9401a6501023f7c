/- The walk of the Go functions that a law reaches, told as plain functions; a program of this session has written it. No condition beyond the statement's own. -/
import Derived.Test.YtbgghcifpephgaaPRowkeyTellsx0
import Derived.Test.YtbgghcifpephgaaPRowkeyTellsx1
import Derived.Test.YtbgghcifpephgaaPRowkeyTellsx2
import Derived.Test.YtbgghcifpephgaaPRowkeyTellsx3
import Derived.Test.YtbgghcifpephgaaPRowkeyTellsx4
import Derived.Test.YtbgghcifpephgaaPRowkeyTellsx5
import Derived.Test.YtbgghcifpephgaaPRowkeyTellsx6
import Derived.Test.YtbgghcifpephgaaPRowkeyTellsx7
import Derived.Test.YtbgghcifpephgaaPRowkeyTellsx8
import Derived.Test.YtbgghcifpephgaaPRowkeyTellsx9
namespace Go.Proofs.Ytbgghcifpephgaa.PRowkeyTells
open Go.RowKit Go.Proofs.YtbgghcifpephgaaW.PrintWords Go.Proofs.YtbgghcifpephgaaW.PrintLast Go.Proofs.YtbgghcifpephgaaW.PrintMore
attribute [local go_sem] max2_int min2_int max_two min_two max_three min_three max_four min_four   -- for this text's walks alone
set_option linter.unusedVariables false
set_option linter.unusedSimpArgs false
/-! ### marigraphlaw14.RowkeyTells: function 4, by hand -/
theorem rkt_decodes_at (k : Nat) (A : Option Addr) (c n : Nat) (l : List Int) (w : World) (hn : l.length = n) (hr : Kd.C (Kd.int .u8) w A n l) (hc : n ≤ c) (h : marigraphlaw14_decodes.f k l = some true) :
    Calls Try.prog 9 #[.slice A n c] w fun e w' => e = .returned (.bool true) ∧ Below w.heap.size w w' := by
  subst hn
  exact marigraphlaw14_decodes.calls k A c l true w hr hc h
theorem rkt_cut_le (l : List Int) (n : Nat) : (cutI l n).length ≤ n := by
  unfold cutI
  split
  · rw [List.length_take]; omega
  · omega
theorem rkt_app {w : World} {base : Nat} {ok : Nat → Prop} {A : Option Addr} {c : Nat} {xs ys : List Int} (h : Kd.R (Kd.int .u8) 5 w base ok (.slice A (xs ++ ys).length c) (xs ++ ys)) : Kd.C (Kd.int .u8) w A (xs.length + ys.length) (xs ++ ys) ∧ xs.length + ys.length ≤ c := by
  have h1 := (Kd.R_reads' h).2.2
  have h2 := (Kd.R_reads' h).2.1
  rw [List.length_append] at h1 h2
  exact ⟨h1, h2⟩
set_option maxHeartbeats 8000000 in
set_option maxRecDepth 100000 in
theorem rowkeyTells_at (k : Nat) (m hour : Int) (A2 : Option Addr) (c2 : Nat) (l : List Int) (r0 r1 : Int) (A3 : Option Addr) (c3 : Nat) (t : List S23) (A4 : Option Addr) (c4 : Nat) (bs : List Int) (at_ turn : Int) (m1 b1 : Int) (t1 : List S23) (x : List Int) (j : Nat) (w : World)
    (hr2 : Kd.C (Kd.int .i64) w A2 l.length l) (hc2 : l.length ≤ c2) (hr3 : Kd.C k23 w A3 t.length t) (hc3 : t.length ≤ c3) (hr4 : Kd.C (Kd.int .u8) w A4 bs.length bs) (hc4 : bs.length ≤ c4)
    (q1 : marigraphlaw14_made.f k m hour l = some (m1, b1, t1)) (q2 : marigraphlaw14_encodes.f k m1 b1 t1 = some true) (q3 : marigraphlaw14_encodes.f k r0 r1 (t.take 6) = some true) (q4 : marigraphref14_Encode.f k m1 b1 t1 = some x) (q5 : marigraphbook_Within.f k at_ 0 ((x.length : Int) - 1) = some (j : Int)) (q6 : j < x.length) (q6' : x.length < 1000)
    (q7 : marigraphlaw14_decodes.f k x = some true) (q8 : marigraphlaw14_decodes.f k (x.set j (bits .xor .u8 (rd x (j : Int)) turn)) = some true) (q9 : marigraphlaw14_decodes.f k (x.set j (bits .xor .u8 (rd x (j : Int)) turn) ++ cutI bs 10) = some true) (q10 : marigraphlaw14_decodes.f k (cutI bs 60) = some true) (q11 : marigraphlaw14_known.f k = some true) :
    Calls Try.prog 4 #[.int .i64 m, .int .i64 hour, .slice A2 l.length c2, .agg #[.int .i64 r0, .int .i64 r1, .slice A3 t.length c3], .slice A4 bs.length c4, .int .i64 at_, .int .u8 turn] w fun e w' => e = .returned (.bool true) ∧ Below w.heap.size w w' := by
  have hu26 := Try.underlying26
  have hb0 := blk_new w (Obj.cells #[Value.int .i64 r0, Value.int .i64 r1, Value.slice A3 t.length c3] 26)
  have hB0 : Below w.heap.size w (w.alloc (Obj.cells #[Value.int .i64 r0, Value.int .i64 r1, Value.slice A3 t.length c3] 26)) := below_alloc (Below.refl _ _) _
  have hsz0 : (w.alloc (Obj.cells #[Value.int .i64 r0, Value.int .i64 r1, Value.slice A3 t.length c3] 26)).heap.size = w.heap.size + 1 := by simp
  go_enter Try.func4, Try.ntmps4
  go_upto_region 1 with (fail)
  generalize (w.alloc (Obj.cells #[Value.int .i64 r0, Value.int .i64 r1, Value.slice A3 t.length c3] 26)) = w1 at hb0 hB0 hsz0 ⊢
  go_upto_region 2 with (go_at_call 12; refine (marigraphlaw14_made.calls k m hour A2 c2 l m1 b1 t1 w1 (Kd.C_below hr2 hB0) hc2 q1).mono ?_; rintro e w2 ⟨v, rfl, hv, hb2⟩; obtain ⟨At, ct, rfl⟩ := Kd.R_slice hv)
  have HB3 : Below w.heap.size w (w2.alloc (Obj.cells #[Value.int IntKind.i64 m1, Value.int IntKind.i64 b1, Value.slice At t1.length ct] 26)) := below_alloc (below_step hB0 hb2) _
  have hb1 := blk_new w2 (Obj.cells #[Value.int IntKind.i64 m1, Value.int IntKind.i64 b1, Value.slice At t1.length ct] 26)
  have hb0' := blk_alloc (blk_below hb0 hb2) (Obj.cells #[Value.int IntKind.i64 m1, Value.int IntKind.i64 b1, Value.slice At t1.length ct] 26)
  have hne : w2.heap.size ≠ w.heap.size := by have := below_size hb2; omega
  have hR1 := (Kd.R_alloc hv (Obj.cells #[Value.int IntKind.i64 m1, Value.int IntKind.i64 b1, Value.slice At t1.length ct] 26))
  generalize hG : w2.heap.size = g1 at hne hb1 ⊢
  generalize (w2.alloc (Obj.cells #[Value.int IntKind.i64 m1, Value.int IntKind.i64 b1, Value.slice At t1.length ct] 26)) = w3 at HB3 hb1 hb0' hR1 ⊢
  clear hv hb2 hG hb0 hB0 hsz0
  have z0 := (blk_cell hb0' 0).trans rfl
  have z1 := (blk_cell hb0' 1).trans rfl
  have z2 := (blk_cell hb0' 2).trans rfl
  have zf := blk_frozen hb0' 2
  go_upto_if 25 with (fail)
  go_cut [] (fun wc => Aside0 (Below w.heap.size w wc) ∧ Aside0 (wc.heap[w.heap.size]? = some (Obj.cells #[Value.int IntKind.i64 r0, Value.int IntKind.i64 r1, Value.slice A3 (t.take 6).length c3] 26)) ∧ Aside0 (wc.heap[g1]? = some (Obj.cells #[Value.int IntKind.i64 m1, Value.int IntKind.i64 b1, Value.slice At t1.length ct] 26)) ∧ Aside0 (Kd.R k23 23 wc w1.heap.size (fun _ => True) (.slice At t1.length ct) t1))
  case first =>
    by_cases h6 : 6 < t.length
    · have d1 : decide ((6 : Int) < (t.length : Int)) = true := decide_eq_true (by omega)
      have d2 : decide (6 < t.length) = true := decide_eq_true h6
      have d3 : ((6 : Int) ≤ (c3 : Int)) = True := eq_true (by omega)
      have d4 : (6 ≤ c3) = True := eq_true (by omega)
      have e6 : (t.take 6).length = 6 := List.length_take_of_le (by omega)
      have s1 := blk_put hb0' 2 (Value.slice A3 (t.take 6).length c3) rfl
      have s2 := blk_far (p := ⟨w.heap.size, 2, none⟩) hb1 hne (Value.slice A3 (t.take 6).length c3)
      have s3 := Kd.R_set hR1 hb0' (by decide) 2 (Value.slice A3 (t.take 6).length c3)
      have s4 := below_set (j := 2) (v := Value.slice A3 (t.take 6).length c3) HB3 (Nat.le_refl _)
      rw [e6] at s1 s2 s3 s4
      replace s1 := Aside0.mk s1
      replace s2 := Aside0.mk s2
      replace s3 := Aside0.mk s3
      replace s4 := Aside0.mk s4
      replace e6 := Aside0.mk e6
      clear h6 HB3 hb1 hb0' hR1
      (first | rw [d1] | rw [d2])
      go_wp2
      go_meet
      case rel => exact ⟨s4, by rw [e6.out]; exact s1, s2, s3⟩
    · have d1 : decide ((6 : Int) < (t.length : Int)) = false := decide_eq_false (by omega)
      have d2 : decide (6 < t.length) = false := decide_eq_false h6
      have e6 : t.take 6 = t := List.take_of_length_le (by omega)
      replace e6 := Aside0.mk e6
      replace HB3 := Aside0.mk HB3
      replace hb1 := Aside0.mk hb1
      replace hb0' := Aside0.mk hb0'
      replace hR1 := Aside0.mk hR1
      clear h6
      (first | rw [d1] | rw [d2])
      go_wp2
      go_meet
      case rel => exact ⟨HB3, by rw [e6.out]; exact hb0', hb1, hR1⟩
  case rest =>
  clear z0 z1 z2 zf hb0' HB3 hb1 hR1
  obtain ⟨HB4, hk0, hk1, hR1⟩ := hcut
  replace HB4 := HB4.out
  replace hk0 := hk0.out
  replace hk1 := hk1.out
  replace hR1 := hR1.out
  have hct := (Kd.R_reads' hR1).2.1
  have hC1 := (Kd.R_reads' hR1).2.2
  have m0 := (blk_cell hk1 0).trans rfl
  have m1_ := (blk_cell hk1 1).trans rfl
  have m2 := (blk_cell hk1 2).trans rfl
  replace hk0 := Aside0.mk hk0
  replace hk1 := Aside0.mk hk1
  replace HB4 := Aside0.mk HB4
  replace q1 := Aside0.mk q1
  replace q2 := Aside0.mk q2
  replace q3 := Aside0.mk q3
  replace q4 := Aside0.mk q4
  replace q5 := Aside0.mk q5
  replace q7 := Aside0.mk q7
  replace q8 := Aside0.mk q8
  replace q9 := Aside0.mk q9
  replace q10 := Aside0.mk q10
  replace q11 := Aside0.mk q11
  clear hR1
  go_upto_region 5 with (go_at_call 8; refine (marigraphref14_Encode.calls k m1 b1 At ct t1 x wc hC1 hct q4.out).mono ?_; rintro e w5 ⟨vx, rfl, hx, hb5⟩; obtain ⟨Ax, cx, rfl⟩ := Kd.R_slice hx)
  clear m0 m1_ m2
  have HB5 := Aside0.mk (below_step HB4.out hb5)
  have hcx := (Kd.R_reads' hx).2.1
  have hCX := (Kd.R_reads' hx).2.2
  have row0 : ∀ w', Below w5.heap.size w5 w' → w'.heap[w.heap.size]? = some (Obj.cells #[Value.int IntKind.i64 r0, Value.int IntKind.i64 r1, Value.slice A3 (t.take 6).length c3] 26) := fun w' hb => blk_below (blk_below hk0.out hb5) hb
  have row1 : ∀ w', Below w5.heap.size w5 w' → w'.heap[g1]? = some (Obj.cells #[Value.int IntKind.i64 m1, Value.int IntKind.i64 b1, Value.slice At t1.length ct] 26) := fun w' hb => blk_below (blk_below hk1.out hb5) hb
  have cell1 : ∀ w', Below w5.heap.size w5 w' → Kd.C k23 w' At t1.length t1 := fun w' hb => Kd.C_below (Kd.C_below hC1 hb5) hb
  have cellx : ∀ w', Below w5.heap.size w5 w' → Kd.C (Kd.int .u8) w' Ax x.length x := fun w' hb => Kd.C_below hCX hb
  have cell0 : ∀ w', Below w5.heap.size w5 w' → Kd.C k23 w' A3 (t.take 6).length (t.take 6) := fun w' hb => by
    have h := Kd.C_below hr3 (below_step HB5.out hb)
    rcases Nat.lt_or_ge 6 t.length with h6 | h6
    · exact Kd.C_take h (by omega)
    · rw [List.take_of_length_le h6]; exact h
  have cellb : ∀ w', Below w5.heap.size w5 w' → Kd.C (Kd.int .u8) w' A4 bs.length bs := fun w' hb => Kd.C_below hr4 (below_step HB5.out hb)
  have hc0 : (t.take 6).length ≤ c3 := by rw [List.length_take]; omega
  clear hk0 hk1 hC1 hx hCX hb5 hr3 hr4 hr2 q1 q4
  replace row0 := Aside0.mk row0
  replace row1 := Aside0.mk row1
  replace cell1 := Aside0.mk cell1
  replace cell0 := Aside0.mk cell0
  replace cellx := Aside0.mk cellx
  replace cellb := Aside0.mk cellb
  go_upto_region 6 with (first
    | ((with_reducible refine gate_dst (N := 32) rfl ?_); refine Kd.R_lit (Kd.int .u8) (w0 := w5) w5.heap.size 5 ?hg (N := 32) ?hd (xs := ([] : List Int)) (inner := []) (ok := fun _ => True) (okp := fun _ => True) ?hr ?hp (fun _ hk => hk) trivial (Below.refl _ _) (Nat.le_refl _) (by simp) ?_; (case hd => rfl); (case hg => rfl); (case hr => first | (go_simp; done) | (go_simp; rfl)); (case hp => exact (Reps.none _ _)); intro v6 w6 ho6 hb6 hg_ hnew_; clear hg_ hnew_)
    | ((with_reducible refine gate_builtin (b := .append) (xs := #[.tmp 32, .tmp 33]) rfl ?_); at_builtin; refine Kd.R_append_rows (Kd.int .u8) (w0 := w5) w5.heap.size rfl (.tmp 32) (.tmp 33) 29 5 (.int .u8 0) 1 rfl Try.underlying29 info5 rfl (by decide) (by omega) v6 ([] : List Int) x _ _ _ (fun _ => True) (fun _ => False) rfl rfl ?aO ?aR (fun _ _ h => h) (fun _ h => h.elim) ?aF ?aB ?aS ?aL ?_; (case aR => exact cellx.out _ hb6); (case aB => exact hb6); (case aF => exact (fun _ _ => trivial)); (case aO => exact ho6); (case aS => exact below_size hb6); (case aL => simp only [List.length_nil]; omega); intro v7 w7 ho7 hb7 hg7 hat7; rw [List.nil_append] at ho7))
  obtain ⟨gy, cy, rfl, hgy, hlt, cs, hcs⟩ := Kd.R_form ho7 (by omega)
  clear ho6 hb6 hg7 hat7
  have zf := blk_frozen hcs j
  obtain ⟨ad, ead, hyj⟩ := Kd.at_int (Kd.R_reads' ho7).2.2 (j : Int) (Int.natCast_nonneg j) (by omega)
  cases ead
  rw [Int.toNat_natCast] at hyj
  have hyj' : w7.cell? ⟨gy, j, none⟩ = some (.int .u8 (rd x (j : Int))) := by
    by_cases h0 : j = 0
    · subst h0; simpa [Addr.add] using hyj
    · simpa [Addr.add, h0] using hyj
  have p1 : ((j : Int) < (x.length : Int)) = True := eq_true (by omega)
  have p2 : (j < x.length) = True := eq_true q6
  have p3 : (0 ≤ (j : Int)) = True := eq_true (by omega)
  have hput := Kd.R_put ho7 (j : Int) (bits .xor .u8 (rd x (j : Int)) turn)
  rw [Int.toNat_natCast] at hput
  have hbp := below_set (j := j) (v := .int .u8 (bits .xor .u8 (rd x (j : Int)) turn)) hb7 hgy
  replace hput := Aside0.mk hput.1
  replace hbp := Aside0.mk hbp
  replace ho7 := Aside0.mk ho7
  replace hb7 := Aside0.mk hb7
  clear hyj hcs
  go_upto_region 7 with (go_at_call 13; refine (marigraphbook_Within.calls k at_ 0 ((x.length : Int) - 1) (j : Int) _ q5.out).mono ?_; rintro e w8 ⟨rfl, ⟨nd, rfl⟩⟩)
  have hYR := Kd.R_put (Kd.R_drewN ho7.out nd) (j : Int) (bits .xor .u8 (rd x (j : Int)) turn)
  rw [Int.toNat_natCast] at hYR
  have hB8 := below_set (j := j) (v := .int .u8 (bits .xor .u8 (rd x (j : Int)) turn)) (pw_below_drewN hb7.out nd) hgy
  have hY : Kd.R (Kd.int .u8) 5 ((w7.drewN nd).setCell ⟨gy, j, none⟩ (.int .u8 (bits .xor .u8 (rd x (j : Int)) turn))) w5.heap.size (fun _ => True) (.slice (some ⟨gy, 0, none⟩) x.length cy) (x.set j (bits .xor .u8 (rd x (j : Int)) turn)) := hYR.1
  generalize ((w7.drewN nd).setCell ⟨gy, j, none⟩ (.int .u8 (bits .xor .u8 (rd x (j : Int)) turn))) = w8 at hB8 hY ⊢
  have hyl : (x.set j (bits .xor .u8 (rd x (j : Int)) turn)).length = x.length := List.length_set
  generalize (x.set j (bits .xor .u8 (rd x (j : Int)) turn)) = ys at q8 q9 hY hyl
  clear hYR hput hbp hyj' zf ho7 hb7 p1 p2 p3 q5
  have hcy : x.length ≤ cy := by have := (Kd.R_reads' hY).2.1; omega
  replace hY := Aside0.mk hY
  replace hyl := Aside0.mk hyl
  have load0 : Aside0 (∀ w', Below w8.heap.size w8 w' → w'.cell? ⟨w.heap.size, 0, none⟩ = some (.int .i64 r0) ∧ w'.cell? ⟨w.heap.size, 1, none⟩ = some (.int .i64 r1) ∧ w'.cell? ⟨w.heap.size, 2, none⟩ = some (.slice A3 (t.take 6).length c3)) := ⟨fun w' hb => have h := row0.out w' (below_step hB8 hb); ⟨(blk_cell h 0).trans rfl, (blk_cell h 1).trans rfl, (blk_cell h 2).trans rfl⟩⟩
  have load1 : Aside0 (∀ w', Below w8.heap.size w8 w' → w'.cell? ⟨g1, 0, none⟩ = some (.int .i64 m1) ∧ w'.cell? ⟨g1, 1, none⟩ = some (.int .i64 b1) ∧ w'.cell? ⟨g1, 2, none⟩ = some (.slice At t1.length ct)) := ⟨fun w' hb => have h := row1.out w' (below_step hB8 hb); ⟨(blk_cell h 0).trans rfl, (blk_cell h 1).trans rfl, (blk_cell h 2).trans rfl⟩⟩
  have CY : Aside0 (∀ w', Below w8.heap.size w8 w' → Kd.C (Kd.int .u8) w' (some ⟨gy, 0, none⟩) x.length ys) := ⟨fun w' hb => by have h := (Kd.R_reads' (Kd.R_below hY.out hb)).2.2; rwa [hyl.out] at h⟩
  replace hB8 := Aside0.mk hB8
  generalize hT : t.take 6 = t6 at q3 load0 cell0 hc0
  clear hT row0 row1 hlt hgy hne
  obtain ⟨y0, y1, y2⟩ := load1.out w8 (Below.refl _ _)
  have hcut := rkt_cut_le bs 10
  replace hcut := Aside0.mk hcut
  go_wp2_with (first
    | (go_at_call 11; (with_reducible refine (marigraphlaw14_known.calls k true _ q11.out).mono ?_); rintro e w17 ⟨rfl, hb17⟩; have E17 := below_step E16 hb17; clear hb17)
    | (go_at_call 9; (with_reducible refine (rkt_decodes_at k A4 c4 _ (cutI bs 60) _ rfl (cutI_C (cellb.out _ E15)) (cutI_le hc4) q10.out).mono ?_); rintro e w16 ⟨rfl, hb16⟩; have E16 := below_step E15 hb16; clear hb16)
    | (go_at_call 14; (with_reducible refine (marigraphkeep_Cut.callsR A4 c4 bs 60 60 _ hc4 rfl).mono ?_); rintro e w15 ⟨rfl, hd15⟩; have E15 := below_step E14 hd15.below; clear hd15)
    | (go_at_call 9; (with_reducible refine (rkt_decodes_at k Az cz (ys.length + (cutI bs 10).length) (ys ++ cutI bs 10) _ List.length_append hZ.out.1 hZ.out.2 q9.out).mono ?_); rintro e w14 ⟨rfl, hb14⟩; have E14 := below_step E13 hb14; clear hb14)
    | ((with_reducible refine gate_builtin (b := .append) (xs := #[.tmp 61, .tmp 63]) rfl ?_); at_builtin; (try (refine gate_guard (by rfl) ?_; dsimp only)); refine Kd.R_append_rows (Kd.int .u8) (w0 := w5) w5.heap.size rfl (.tmp 61) (.tmp 63) 29 5 (.int .u8 0) 1 rfl Try.underlying29 info5 rfl (by decide) (by omega) (.slice (some ⟨gy, 0, none⟩) x.length cy) ys (cutI bs 10) _ _ _ (fun _ => True) (fun _ => False) rfl rfl ?aO ?aR (fun _ _ h => h) (fun _ h => h.elim) ?aF ?aB ?aS ?aL ?_; (case aR => exact cutI_C (cellb.out _ (below_step hB8.out F13))); (case aB => exact below_step hB8.out F13); (case aF => exact (fun _ _ => trivial)); (case aO => exact Kd.R_below hY.out F13); (case aS => exact below_size (below_step hB8.out F13)); (case aL => rw [hyl.out]; have := hcut.out; omega); intro v13 w14 ho13 E13 hg13 hat13; obtain ⟨Az, cz, rfl⟩ := Kd.R_slice ho13; have hZ := Aside0.mk (rkt_app ho13); clear hg13 hat13 ho13)
    | (go_at_call 14; (with_reducible refine (marigraphkeep_Cut.callsR A4 c4 bs 10 10 _ hc4 rfl).mono ?_); rintro e w13 ⟨rfl, hd13⟩; have F13 := below_step F12 hd13.below; clear hd13)
    | (go_at_call 9; (with_reducible refine (rkt_decodes_at k (some ⟨gy, 0, none⟩) cy x.length ys _ hyl.out (CY.out _ F11) hcy q8.out).mono ?_); rintro e w12 ⟨rfl, hb12⟩; have F12 := below_step F11 hb12; clear hb12)
    | (go_at_call 9; (with_reducible refine (rkt_decodes_at k Ax cx x.length x _ rfl (cellx.out _ (below_step hB8.out F10)) hcx q7.out).mono ?_); rintro e w11 ⟨rfl, hb11⟩; have F11 := below_step F10 hb11; clear hb11)
    | (go_at_call 5; (with_reducible refine (marigraphlaw14_encodes.calls k r0 r1 A3 c3 t6 true _ (cell0.out _ (below_step hB8.out F9)) hc0 q3.out).mono ?_); rintro e w10 ⟨rfl, hb10⟩; have F10 := below_step F9 hb10; clear hb10)
    | (go_at_call 5; (with_reducible refine (marigraphlaw14_encodes.calls k m1 b1 At ct t1 true _ (cell1.out _ hB8.out) hct q2.out).mono ?_); rintro e w9 ⟨rfl, F9⟩; obtain ⟨x0, x1, x2⟩ := load0.out w9 F9))
  go_ret
  exact ⟨rfl, below_step HB5.out E17⟩

end Go.Proofs.Ytbgghcifpephgaa.PRowkeyTells

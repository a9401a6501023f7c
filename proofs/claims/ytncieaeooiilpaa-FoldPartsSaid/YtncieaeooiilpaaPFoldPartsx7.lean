/- The walk of the Go functions that a law reaches, told as plain functions; a program of this session has written it. No condition beyond the statement's own. -/
import Derived.Test.YtncieaeooiilpaaPFoldPartsx0
import Derived.Test.YtncieaeooiilpaaPFoldPartsx1
import Derived.Test.YtncieaeooiilpaaPFoldPartsx2
import Derived.Test.YtncieaeooiilpaaPFoldPartsx3
import Derived.Test.YtncieaeooiilpaaPFoldPartsx4
import Derived.Test.YtncieaeooiilpaaPFoldPartsx5
import Derived.Test.YtncieaeooiilpaaPFoldPartsx6
namespace Go.Proofs.Ytncieaeooiilpaa.PFoldParts
open Go.RowKit Go.Proofs.YtncieaeooiilpaaW.PrintWords Go.Proofs.YtncieaeooiilpaaW.PrintLast Go.Proofs.YtncieaeooiilpaaW.PrintMore
attribute [local go_sem] max2_int min2_int max_two min_two max_three min_three max_four min_four   -- for this text's walks alone
set_option linter.unusedVariables false
set_option linter.unusedSimpArgs false

attribute [local go_sem high] eqA23
/-! ### marigraphlaw20_FoldParts: function 4, by hand -/
set_option maxHeartbeats 8000000
set_option maxRecDepth 100000
theorem foldParts_small (k : Nat) (A0 : Option Addr) (c0 : Nat) (l0 : List Int) (cut : Int) (m : List S23) (w : World) (hr0 : Kd.C (Kd.int .i64) w A0 l0.length l0) (hc0 : l0.length ≤ c0) (hm : marigraphlaw20_rats.f k l0 6 = some m) (hs : m.length < 2) (hk : marigraphlaw20_known.f k = some true) :
    Calls Try.prog 4 #[.slice A0 l0.length c0, .int .i64 cut] w fun e w' => e = .returned (.bool true) ∧ Below w.heap.size w w' := by
  have HB := Below.refl w.heap.size w
  have hm := Aside0.mk hm
  have hk := Aside0.mk hk
  have hd : decide (m.length < 2) = true := decide_eq_true hs
  have hd2 : decide ((m.length : Int) < 2) = true := decide_eq_true (by omega)
  go_enter Try.func4, Try.ntmps4
  go_wp2_with (first
    | (go_at_call 10; (with_reducible refine (marigraphlaw20_known.calls k true _ hk.out).mono ?_); rintro e3 w3 ⟨rfl, hb⟩; have HB3 := below_step HB2 hb; clear hb)
    | (go_at_call 11; (with_reducible refine (marigraphlaw20_rats.calls k A0 c0 l0 6 m _ hr0 hc0 hm.out).mono ?_); rintro e2 w2 ⟨v, rfl, hR, hb⟩; obtain ⟨Am, cm, rfl⟩ := Kd.R_slice hR; have HB2 := below_step HB hb; clear hb hR))
  go_ret
  exact ⟨rfl, HB3⟩
theorem C_of_below {α : Type} {d : Kd α} {w w1 : World} {A : Option Addr} {n : Nat} {xs : List α} (h : d.C w A n xs) (hb : Below w.heap.size w w1) : d.C w1 A n xs := Kd.C_below h hb
theorem do2_calls (k : Nat) (how : Int) (A : Option Addr) (c : Nat) (x y : S23) (r1 r2 r3 : Int) (w : World) (hr : Kd.C k23 w A ([x, y] : List S23).length [x, y]) (hc : ([x, y] : List S23).length ≤ c) (h : fold_Do.f k how [x, y] = some (r1, r2, r3)) :
    Calls Try.prog 13 #[.int .i64 how, .slice A 2 c] w fun e w' => e = .returned (.tuple #[.agg #[.int .i64 r1, .int .i64 r2], .int .i64 r3]) ∧ Below w.heap.size w w' :=
  fold_Do.calls k how A c [x, y] r1 r2 r3 w hr hc h
theorem foldParts_at (k : Nat) (A0 : Option Addr) (c0 : Nat) (l0 : List Int) (cut : Int) (m lA lB : List S23) (p : Nat) (w : World) (hr0 : Kd.C (Kd.int .i64) w A0 l0.length l0) (hc0 : l0.length ≤ c0) (hm : marigraphlaw20_rats.f k l0 6 = some m) (hml : m.length ≤ 6) (hs : 2 ≤ m.length) (hp1 : 1 ≤ p) (hp2 : p < m.length)
    (hlA : Aside0 (lA = m.take p)) (hlB : Aside0 (lB = m.drop p)) (hW : marigraphbook_Within.f k cut 1 ((m.length : Int) - 1) = some (p : Int))
    (hall : ∀ how : Int, (how = 1 ∨ how = 2 ∨ how = 3 ∨ how = 5) → ∃ a1 a2 b1 b2 w1 w2, fold_Do.f k how lA = some (a1, a2, 0) ∧ fold_Do.f k how lB = some (b1, b2, 0) ∧ fold_Do.f k how m = some (w1, w2, 0) ∧ fold_Do.f k (if how = 5 then 1 else how) [⟨a1, a2⟩, ⟨b1, b2⟩] = some (w1, w2, 0)) (hk : marigraphlaw20_known.f k = some true) :
    Calls Try.prog 4 #[.slice A0 l0.length c0, .int .i64 cut] w fun e w' => e = .returned (.bool true) ∧ Below w.heap.size w w' := by
  have HB := Below.refl w.heap.size w
  have hm := Aside0.mk hm
  have hk := Aside0.mk hk
  have hW := Aside0.mk hW
  have hall := Aside0.mk hall
  have hd : decide (m.length < 2) = false := decide_eq_false (by omega)
  have hd2 : decide ((m.length : Int) < 2) = false := decide_eq_false (by omega)
  have elA : Aside0 (lA.length = p) := ⟨by rw [hlA.out, List.length_take]; omega⟩
  have elB : Aside0 (lB.length = m.length - p) := ⟨by rw [hlB.out, List.length_drop]⟩
  have hsub : IntKind.i64.wrap ((m.length : Int) - 1) = (m.length : Int) - 1 := by rw [i64_w]; unfold wrap64; omega
  go_enter Try.func4, Try.ntmps4
  go_wp2_with (first
    | ((with_reducible refine gate_dst (N := 28) rfl ?_); refine Kd.R_lit (Kd.int .i64) (w0 := w) w.heap.size 3 ?hgL (N := 28) ?hdL (xs := ([1, 2, 3, 5] : List Int)) (inner := [.int .i64 1, .int .i64 2, .int .i64 3, .int .i64 5]) (ok := fun _ => True) (okp := fun _ => True) ?hrL ?hpL (fun _ hk => hk) trivial HB4 (below_size HB4) (by simp) ?_; (case hdL => rfl); (case hgL => rfl); (case hrL => first | (go_simp; done) | (go_simp; rfl)); (case hpL => exact (Reps.one (show Kd.M (Kd.int .i64) _ _ _ (1 : Int) [.int .i64 1] from rfl) (Reps.one (show Kd.M (Kd.int .i64) _ _ _ (2 : Int) [.int .i64 2] from rfl) (Reps.one (show Kd.M (Kd.int .i64) _ _ _ (3 : Int) [.int .i64 3] from rfl) (Reps.one (show Kd.M (Kd.int .i64) _ _ _ (5 : Int) [.int .i64 5] from rfl) (Reps.none _ _)))))); intro vL w5 HL HB5 hg5 _; obtain ⟨Al, cl, rfl⟩ := Kd.R_slice HL; have HM5 := Kd.C_below HM4 (⟨hg5.os, hg5.tape, hg5.output, hg5.size, fun k hk => hg5.block k hk (by simp)⟩ : Below _ _ _); have HL5 := (Kd.R_reads' HL).2.2; clear hg5 HL)
    | (go_at_call 12; (with_reducible refine (marigraphbook_Within.calls k cut 1 ((m.length : Int) - 1) (p : Int) _ hW.out).mono ?_); rintro e3 w3 ⟨rfl, ⟨nn, rfl⟩⟩; have HM4 := Kd.C_drewN HM3 nn; have HB4 := pw_below_drewN HB3 nn)
    | (go_at_call 11; (with_reducible refine (marigraphlaw20_rats.calls k A0 c0 l0 6 m _ hr0 hc0 hm.out).mono ?_); rintro e2 w2 ⟨v, rfl, hR, hb⟩; obtain ⟨Am, cm, rfl⟩ := Kd.R_slice hR; have HM3 := (Kd.R_reads' hR).2.2; have hcm := (Kd.R_reads' hR).2.1; have HB3 := below_step HB hb; clear hb hR))
  obtain ⟨i0, hi0, _, hsz, _⟩ := info_parts info23
  have hcA := cut_to (P := Try.prog) 24 23 .i64 Try.underlying24 hi0 Am m.length cm (p : Int) (by omega) (by omega) hcm
  have hcB := cut_from (P := Try.prog) 24 23 .i64 Try.underlying24 hi0 2 hsz Am m.length cm (p : Int) (by omega) (by omega)
  have HA5 := Kd.C_take (m := p) HM5 (by omega)
  have HBB5 := Kd.C_drop (m := p) HM5 (by omega) hcm
  rw [Int.toNat_natCast] at hcA hcB
  rw [← hlA.out] at HA5
  rw [← hlB.out] at HBB5
  rw [show (k23).sz = 2 from rfl] at HBB5
  generalize (if cm = p then Am else Am.map (·.add (p * 2))) = AB at hcB HBB5
  have hcA_ : ∀ W : World, (Instr.slice 24 (.slice Am m.length cm) none (some (.int .i64 (p : Int))) none).run Try.prog W = .ok (.slice Am lA.length cm) W := by intro W; rw [elA.out]; exact hcA W
  have hcB_ : ∀ W : World, (Instr.slice 24 (.slice Am m.length cm) (some (.int .i64 (p : Int))) none none).run Try.prog W = .ok (.slice AB lB.length (cm - p)) W := by intro W; rw [elB.out]; exact hcB W
  have hcA0 : lA.length ≤ cm := by have := elA.out; omega
  have hcB0 : lB.length ≤ cm - p := by have := elB.out; omega
  clear hi0 hsz hsub HM3 HB3 HM4 HB4 hcA hcB
  go_loopg [30] 5 (fun kq v30 w' => ∃ j : Nat, v30 = .int .i64 (j : Int) ∧ Aside0 (4 - j < kq ∧ j ≤ 4) ∧ Aside0 (Kd.C (Kd.int .i64) w' Al ([1, 2, 3, 5] : List Int).length [1, 2, 3, 5]) ∧ Aside0 (Kd.C k23 w' Am lA.length lA) ∧ Aside0 (Kd.C k23 w' AB lB.length lB) ∧ Aside0 (Kd.C k23 w' Am m.length m) ∧ Aside0 (Below w.heap.size w w'))
  case atStart => exact ⟨0, rfl, ⟨by omega⟩, ⟨HL5⟩, ⟨HA5⟩, ⟨HBB5⟩, ⟨HM5⟩, ⟨HB5⟩⟩
  case round =>
    clear HL5 HA5 HBB5 HM5 HB5
    obtain ⟨j, rfl, hj, hL, hA, hX, hM, hb⟩ := hrel
    have hj := hj.out
    have HL0 := hL.out
    have HA0 := hA.out
    have HX0 := hX.out
    have HM0 := hM.out
    have HB0 := hb.out
    clear hL hA hX hM hb
    by_cases hlt : j < 4
    · have hle : decide ((j : Int) < 4) = true := decide_eq_true (by omega)
      have hle2 : decide (j < 4) = true := decide_eq_true hlt
      have hm3 : 4 - j < gk := hj.1
      have hj2 := Aside0.mk hj.2
      obtain ⟨adL, rfl, hL0⟩ := Kd.at_int HL0 (j : Int) (by omega) (by show (j : Int) < 4; omega)
      rw [Int.toNat_natCast] at hL0
      obtain ⟨how, hrd, hhow⟩ : ∃ how : Int, rd [1, 2, 3, 5] (j : Int) = how ∧ (how = 1 ∨ how = 2 ∨ how = 3 ∨ how = 5) := by
        have : j = 0 ∨ j = 1 ∨ j = 2 ∨ j = 3 := by omega
        rcases this with h | h | h | h <;> (subst h)
        · exact ⟨1, rfl, by decide⟩
        · exact ⟨2, rfl, by decide⟩
        · exact ⟨3, rfl, by decide⟩
        · exact ⟨5, rfl, by decide⟩
      rw [hrd] at hL0
      obtain ⟨a1, a2, b1, b2, w1, w2, e1, e2, e3, e4⟩ := hall.out how hhow
      have e1 := Aside0.mk e1
      have e2 := Aside0.mk e2
      have e3 := Aside0.mk e3
      clear hrd hhow hj
      have hlt4 := Aside0.mk hlt
      by_cases h5 : how = 5
      · rw [if_pos h5] at e4
        have h5b : (how == 5) = true := by simpa using h5
        have e4 := Aside0.mk e4
        clear h5
        go_wp2_with (first
          | ((with_reducible refine gate_dst (N := 15) rfl ?_); refine box_event ?hgx15 (N := 15) ?hdx15 (cs := #[.int .i64 0, .int .i64 0]) (t := 23) ?hrx15 ?_; (case hdx15 => rfl); (case hgx15 => rfl); (case hrx15 => first | (go_simp; done) | (go_simp; rfl)); intro gGC hg w9_ hbox hb0; have hb_ := below_set (j := 1) (v := .int .i64 w2) (below_set (j := 0) (v := .int .i64 w1) hb0 (Nat.le_of_eq hg.symm)) (Nat.le_of_eq hg.symm); have GC9 := blk_put (blk_put hbox 0 (.int .i64 w1) rfl) 1 (.int .i64 w2) rfl; have HL9 := Kd.C_below HL8 hb_; have HA9 := Kd.C_below HA8 hb_; have HX9 := Kd.C_below HX8 hb_; have HM9 := Kd.C_below HM8 hb_; have GA9 := blk_below GA8 hb_; have GB9 := blk_below GB8 hb_; have GW9 := blk_below GW8 hb_; have HB9 := below_step HB8 hb_; obtain ⟨nc0, nc1, nf0, nf1⟩ := blk2 hbox; obtain ⟨cGW0, cGW1, _, _⟩ := blk2 GW9; obtain ⟨cGC0, cGC1, _, _⟩ := blk2 GC9; clear hb_ hb0 hbox hg)
          | (go_at_call 13; (with_reducible refine (do2_calls k 1 Aq cq ⟨a1, a2⟩ ⟨b1, b2⟩ w1 w2 0 _ HQ0 hcq e4.out).mono ?_); rintro e8 w8_ ⟨rfl, hb⟩; have HL8 := Kd.C_below HL7 hb; have HA8 := Kd.C_below HA7 hb; have HX8 := Kd.C_below HX7 hb; have HM8 := Kd.C_below HM7 hb; have GA8 := blk_below GA7 hb; have GB8 := blk_below GB7 hb; have GW8 := blk_below GW7 hb; have HB8 := below_step HB7 hb; clear hb)
          | ((with_reducible refine gate_dst (N := 62) rfl ?_); refine Kd.R_lit k23 (w0 := w) w.heap.size 23 ?hgx62 (N := 62) ?hdx62 (xs := ([⟨a1, a2⟩, ⟨b1, b2⟩] : List S23)) (inner := [.int .i64 a1, .int .i64 a2, .int .i64 b1, .int .i64 b2]) (ok := fun _ => True) (okp := fun _ => True) ?hrx62 ?hpx62 (fun _ hk => hk) trivial HB6 (below_size HB6) (by simp) ?_; (case hdx62 => rfl); (case hgx62 => rfl); (case hrx62 => first | (go_simp; done) | (go_simp; rfl)); (case hpx62 => exact (Reps.c2 (show Kd.M k23 _ _ _ (⟨a1, a2⟩ : S23) [.int .i64 a1, .int .i64 a2] from (k23_mkM _ _ _ (⟨a1, a2⟩ : S23))) (Reps.c2 (show Kd.M k23 _ _ _ (⟨b1, b2⟩ : S23) [.int .i64 b1, .int .i64 b2] from (k23_mkM _ _ _ (⟨b1, b2⟩ : S23))) (Reps.none _ _)))); intro vq w7_ HQ HBn hgq _; obtain ⟨Aq, cq, rfl⟩ := Kd.R_slice HQ; have hbl : Below _ _ _ := ⟨hgq.os, hgq.tape, hgq.output, hgq.size, fun k hk => hgq.block k hk (by simp)⟩; have HL7 := Kd.C_below HL6 hbl; have HA7 := Kd.C_below HA6 hbl; have HX7 := Kd.C_below HX6 hbl; have HM7 := Kd.C_below HM6 hbl; have GA7 := blk_below GA6 hbl; have GB7 := blk_below GB6 hbl; have GW7 := blk_below GW6 hbl; have HB7 := HBn; have HQ0 := (Kd.R_reads' HQ).2.2; have hcq := (Kd.R_reads' HQ).2.1; clear hbl HBn hgq HQ)
          | ((with_reducible refine gate_dst (N := 13) rfl ?_); refine box_event ?hgx13 (N := 13) ?hdx13 (cs := #[.int .i64 0, .int .i64 0]) (t := 23) ?hrx13 ?_; (case hdx13 => rfl); (case hgx13 => rfl); (case hrx13 => first | (go_simp; done) | (go_simp; rfl)); intro gGW hg w6_ hbox hb0; have hb_ := below_set (j := 1) (v := .int .i64 w2) (below_set (j := 0) (v := .int .i64 w1) hb0 (Nat.le_of_eq hg.symm)) (Nat.le_of_eq hg.symm); have GW6 := blk_put (blk_put hbox 0 (.int .i64 w1) rfl) 1 (.int .i64 w2) rfl; have HL6 := Kd.C_below HL5 hb_; have HA6 := Kd.C_below HA5 hb_; have HX6 := Kd.C_below HX5 hb_; have HM6 := Kd.C_below HM5 hb_; have GA6 := blk_below GA5 hb_; have GB6 := blk_below GB5 hb_; have HB6 := below_step HB5 hb_; obtain ⟨nc0, nc1, nf0, nf1⟩ := blk2 hbox; obtain ⟨cGA0, cGA1, _, _⟩ := blk2 GA6; obtain ⟨cGB0, cGB1, _, _⟩ := blk2 GB6; clear hb_ hb0 hbox hg)
          | (go_at_call 13; (with_reducible refine (fold_Do.calls k how Am cm m w1 w2 0 _ HM4 hcm e3.out).mono ?_); rintro e5 w5_ ⟨rfl, hb⟩; have HL5 := Kd.C_below HL4 hb; have HA5 := Kd.C_below HA4 hb; have HX5 := Kd.C_below HX4 hb; have HM5 := Kd.C_below HM4 hb; have GA5 := blk_below GA4 hb; have GB5 := blk_below GB4 hb; have HB5 := below_step HB4 hb; clear hb)
          | ((with_reducible refine gate_dst (N := 11) rfl ?_); refine box_event ?hgx11 (N := 11) ?hdx11 (cs := #[.int .i64 0, .int .i64 0]) (t := 23) ?hrx11 ?_; (case hdx11 => rfl); (case hgx11 => rfl); (case hrx11 => first | (go_simp; done) | (go_simp; rfl)); intro gGB hg w4_ hbox hb0; have hb_ := below_set (j := 1) (v := .int .i64 b2) (below_set (j := 0) (v := .int .i64 b1) hb0 (Nat.le_of_eq hg.symm)) (Nat.le_of_eq hg.symm); have GB4 := blk_put (blk_put hbox 0 (.int .i64 b1) rfl) 1 (.int .i64 b2) rfl; have HL4 := Kd.C_below HL3 hb_; have HA4 := Kd.C_below HA3 hb_; have HX4 := Kd.C_below HX3 hb_; have HM4 := Kd.C_below HM3 hb_; have GA4 := blk_below GA3 hb_; have HB4 := below_step HB3 hb_; obtain ⟨nc0, nc1, nf0, nf1⟩ := blk2 hbox; clear hb_ hb0 hbox hg)
          | (go_at_call 13; (with_reducible refine (fold_Do.calls k how AB (cm - p) lB b1 b2 0 _ HX2 hcB0 e2.out).mono ?_); rintro e3 w3_ ⟨rfl, hb⟩; have HL3 := Kd.C_below HL2 hb; have HA3 := Kd.C_below HA2 hb; have HX3 := Kd.C_below HX2 hb; have HM3 := Kd.C_below HM2 hb; have GA3 := blk_below GA2 hb; have HB3 := below_step HB2 hb; clear hb)
          | ((with_reducible refine gate_dst (N := 9) rfl ?_); refine box_event ?hgx9 (N := 9) ?hdx9 (cs := #[.int .i64 0, .int .i64 0]) (t := 23) ?hrx9 ?_; (case hdx9 => rfl); (case hgx9 => rfl); (case hrx9 => first | (go_simp; done) | (go_simp; rfl)); intro gGA hg w2_ hbox hb0; have hb_ := below_set (j := 1) (v := .int .i64 a2) (below_set (j := 0) (v := .int .i64 a1) hb0 (Nat.le_of_eq hg.symm)) (Nat.le_of_eq hg.symm); have GA2 := blk_put (blk_put hbox 0 (.int .i64 a1) rfl) 1 (.int .i64 a2) rfl; have HL2 := Kd.C_below HL1 hb_; have HA2 := Kd.C_below HA1 hb_; have HX2 := Kd.C_below HX1 hb_; have HM2 := Kd.C_below HM1 hb_; have HB2 := below_step HB1 hb_; obtain ⟨nc0, nc1, nf0, nf1⟩ := blk2 hbox; clear hb_ hb0 hbox hg)
          | (go_at_call 13; (with_reducible refine (fold_Do.calls k how Am cm lA a1 a2 0 _ HA0 hcA0 e1.out).mono ?_); rintro e1 w1_ ⟨rfl, hb⟩; have HL1 := Kd.C_below HL0 hb; have HA1 := Kd.C_below HA0 hb; have HX1 := Kd.C_below HX0 hb; have HM1 := Kd.C_below HM0 hb; have HB1 := below_step HB0 hb; clear hb))
        go_roundg (4 - j)
        case measure => exact hm3
        case rel => exact ⟨j + 1, (congrArg (Value.int .i64) (by first | rfl | (unfold wrap64; have := hlt4.out; omega))), ⟨by have := hlt4.out; omega⟩, ⟨HL9⟩, ⟨HA9⟩, ⟨HX9⟩, ⟨HM9⟩, ⟨HB9⟩⟩
      · rw [if_neg h5] at e4
        have h5b : (how == 5) = false := by simpa using h5
        have e4 := Aside0.mk e4
        clear h5
        go_wp2_with (first
          | ((with_reducible refine gate_dst (N := 15) rfl ?_); refine box_event ?hgy15 (N := 15) ?hdy15 (cs := #[.int .i64 0, .int .i64 0]) (t := 23) ?hry15 ?_; (case hdy15 => rfl); (case hgy15 => rfl); (case hry15 => first | (go_simp; done) | (go_simp; rfl)); intro gGC hg w9_ hbox hb0; have hb_ := below_set (j := 1) (v := .int .i64 w2) (below_set (j := 0) (v := .int .i64 w1) hb0 (Nat.le_of_eq hg.symm)) (Nat.le_of_eq hg.symm); have GC9 := blk_put (blk_put hbox 0 (.int .i64 w1) rfl) 1 (.int .i64 w2) rfl; have HL9 := Kd.C_below HL8 hb_; have HA9 := Kd.C_below HA8 hb_; have HX9 := Kd.C_below HX8 hb_; have HM9 := Kd.C_below HM8 hb_; have GA9 := blk_below GA8 hb_; have GB9 := blk_below GB8 hb_; have GW9 := blk_below GW8 hb_; have HB9 := below_step HB8 hb_; obtain ⟨nc0, nc1, nf0, nf1⟩ := blk2 hbox; obtain ⟨cGW0, cGW1, _, _⟩ := blk2 GW9; obtain ⟨cGC0, cGC1, _, _⟩ := blk2 GC9; clear hb_ hb0 hbox hg)
          | (go_at_call 13; (with_reducible refine (do2_calls k how Aq cq ⟨a1, a2⟩ ⟨b1, b2⟩ w1 w2 0 _ HQ0 hcq e4.out).mono ?_); rintro e8 w8_ ⟨rfl, hb⟩; have HL8 := Kd.C_below HL7 hb; have HA8 := Kd.C_below HA7 hb; have HX8 := Kd.C_below HX7 hb; have HM8 := Kd.C_below HM7 hb; have GA8 := blk_below GA7 hb; have GB8 := blk_below GB7 hb; have GW8 := blk_below GW7 hb; have HB8 := below_step HB7 hb; clear hb)
          | ((with_reducible refine gate_dst (N := 62) rfl ?_); refine Kd.R_lit k23 (w0 := w) w.heap.size 23 ?hgy62 (N := 62) ?hdy62 (xs := ([⟨a1, a2⟩, ⟨b1, b2⟩] : List S23)) (inner := [.int .i64 a1, .int .i64 a2, .int .i64 b1, .int .i64 b2]) (ok := fun _ => True) (okp := fun _ => True) ?hry62 ?hpy62 (fun _ hk => hk) trivial HB6 (below_size HB6) (by simp) ?_; (case hdy62 => rfl); (case hgy62 => rfl); (case hry62 => first | (go_simp; done) | (go_simp; rfl)); (case hpy62 => exact (Reps.c2 (show Kd.M k23 _ _ _ (⟨a1, a2⟩ : S23) [.int .i64 a1, .int .i64 a2] from (k23_mkM _ _ _ (⟨a1, a2⟩ : S23))) (Reps.c2 (show Kd.M k23 _ _ _ (⟨b1, b2⟩ : S23) [.int .i64 b1, .int .i64 b2] from (k23_mkM _ _ _ (⟨b1, b2⟩ : S23))) (Reps.none _ _)))); intro vq w7_ HQ HBn hgq _; obtain ⟨Aq, cq, rfl⟩ := Kd.R_slice HQ; have hbl : Below _ _ _ := ⟨hgq.os, hgq.tape, hgq.output, hgq.size, fun k hk => hgq.block k hk (by simp)⟩; have HL7 := Kd.C_below HL6 hbl; have HA7 := Kd.C_below HA6 hbl; have HX7 := Kd.C_below HX6 hbl; have HM7 := Kd.C_below HM6 hbl; have GA7 := blk_below GA6 hbl; have GB7 := blk_below GB6 hbl; have GW7 := blk_below GW6 hbl; have HB7 := HBn; have HQ0 := (Kd.R_reads' HQ).2.2; have hcq := (Kd.R_reads' HQ).2.1; clear hbl HBn hgq HQ)
          | ((with_reducible refine gate_dst (N := 13) rfl ?_); refine box_event ?hgy13 (N := 13) ?hdy13 (cs := #[.int .i64 0, .int .i64 0]) (t := 23) ?hry13 ?_; (case hdy13 => rfl); (case hgy13 => rfl); (case hry13 => first | (go_simp; done) | (go_simp; rfl)); intro gGW hg w6_ hbox hb0; have hb_ := below_set (j := 1) (v := .int .i64 w2) (below_set (j := 0) (v := .int .i64 w1) hb0 (Nat.le_of_eq hg.symm)) (Nat.le_of_eq hg.symm); have GW6 := blk_put (blk_put hbox 0 (.int .i64 w1) rfl) 1 (.int .i64 w2) rfl; have HL6 := Kd.C_below HL5 hb_; have HA6 := Kd.C_below HA5 hb_; have HX6 := Kd.C_below HX5 hb_; have HM6 := Kd.C_below HM5 hb_; have GA6 := blk_below GA5 hb_; have GB6 := blk_below GB5 hb_; have HB6 := below_step HB5 hb_; obtain ⟨nc0, nc1, nf0, nf1⟩ := blk2 hbox; obtain ⟨cGA0, cGA1, _, _⟩ := blk2 GA6; obtain ⟨cGB0, cGB1, _, _⟩ := blk2 GB6; clear hb_ hb0 hbox hg)
          | (go_at_call 13; (with_reducible refine (fold_Do.calls k how Am cm m w1 w2 0 _ HM4 hcm e3.out).mono ?_); rintro e5 w5_ ⟨rfl, hb⟩; have HL5 := Kd.C_below HL4 hb; have HA5 := Kd.C_below HA4 hb; have HX5 := Kd.C_below HX4 hb; have HM5 := Kd.C_below HM4 hb; have GA5 := blk_below GA4 hb; have GB5 := blk_below GB4 hb; have HB5 := below_step HB4 hb; clear hb)
          | ((with_reducible refine gate_dst (N := 11) rfl ?_); refine box_event ?hgy11 (N := 11) ?hdy11 (cs := #[.int .i64 0, .int .i64 0]) (t := 23) ?hry11 ?_; (case hdy11 => rfl); (case hgy11 => rfl); (case hry11 => first | (go_simp; done) | (go_simp; rfl)); intro gGB hg w4_ hbox hb0; have hb_ := below_set (j := 1) (v := .int .i64 b2) (below_set (j := 0) (v := .int .i64 b1) hb0 (Nat.le_of_eq hg.symm)) (Nat.le_of_eq hg.symm); have GB4 := blk_put (blk_put hbox 0 (.int .i64 b1) rfl) 1 (.int .i64 b2) rfl; have HL4 := Kd.C_below HL3 hb_; have HA4 := Kd.C_below HA3 hb_; have HX4 := Kd.C_below HX3 hb_; have HM4 := Kd.C_below HM3 hb_; have GA4 := blk_below GA3 hb_; have HB4 := below_step HB3 hb_; obtain ⟨nc0, nc1, nf0, nf1⟩ := blk2 hbox; clear hb_ hb0 hbox hg)
          | (go_at_call 13; (with_reducible refine (fold_Do.calls k how AB (cm - p) lB b1 b2 0 _ HX2 hcB0 e2.out).mono ?_); rintro e3 w3_ ⟨rfl, hb⟩; have HL3 := Kd.C_below HL2 hb; have HA3 := Kd.C_below HA2 hb; have HX3 := Kd.C_below HX2 hb; have HM3 := Kd.C_below HM2 hb; have GA3 := blk_below GA2 hb; have HB3 := below_step HB2 hb; clear hb)
          | ((with_reducible refine gate_dst (N := 9) rfl ?_); refine box_event ?hgy9 (N := 9) ?hdy9 (cs := #[.int .i64 0, .int .i64 0]) (t := 23) ?hry9 ?_; (case hdy9 => rfl); (case hgy9 => rfl); (case hry9 => first | (go_simp; done) | (go_simp; rfl)); intro gGA hg w2_ hbox hb0; have hb_ := below_set (j := 1) (v := .int .i64 a2) (below_set (j := 0) (v := .int .i64 a1) hb0 (Nat.le_of_eq hg.symm)) (Nat.le_of_eq hg.symm); have GA2 := blk_put (blk_put hbox 0 (.int .i64 a1) rfl) 1 (.int .i64 a2) rfl; have HL2 := Kd.C_below HL1 hb_; have HA2 := Kd.C_below HA1 hb_; have HX2 := Kd.C_below HX1 hb_; have HM2 := Kd.C_below HM1 hb_; have HB2 := below_step HB1 hb_; obtain ⟨nc0, nc1, nf0, nf1⟩ := blk2 hbox; clear hb_ hb0 hbox hg)
          | (go_at_call 13; (with_reducible refine (fold_Do.calls k how Am cm lA a1 a2 0 _ HA0 hcA0 e1.out).mono ?_); rintro e1 w1_ ⟨rfl, hb⟩; have HL1 := Kd.C_below HL0 hb; have HA1 := Kd.C_below HA0 hb; have HX1 := Kd.C_below HX0 hb; have HM1 := Kd.C_below HM0 hb; have HB1 := below_step HB0 hb; clear hb))
        go_roundg (4 - j)
        case measure => exact hm3
        case rel => exact ⟨j + 1, (congrArg (Value.int .i64) (by first | rfl | (unfold wrap64; have := hlt4.out; omega))), ⟨by have := hlt4.out; omega⟩, ⟨HL9⟩, ⟨HA9⟩, ⟨HX9⟩, ⟨HM9⟩, ⟨HB9⟩⟩
    · have hj4 : j = 4 := by omega
      subst hj4
      clear hlt hj
      have hle : decide (((4 : Nat) : Int) < 4) = false := by decide
      go_wp2_with (go_at_call 10; (with_reducible refine (marigraphlaw20_known.calls k true _ hk.out).mono ?_); rintro e9 w9 ⟨rfl, hb⟩; have HB9_ := below_step HB0 hb; clear hb)
      go_ret
      exact ⟨rfl, HB9_⟩
/-- THE ONE PURE STATEMENT of FoldParts. -/
def FoldParts.Pure : Prop := ∀ (l0 : List Int) (cut : Int), (∀ x ∈ l0, (Lit.int .i64 x).wf = true) → (Lit.int .i64 cut).wf = true →
  ∃ k m, marigraphlaw20_rats.f k l0 6 = some m ∧ m.length ≤ 6 ∧ marigraphlaw20_known.f k = some true ∧ (m.length < 2 ∨ (2 ≤ m.length ∧ ∃ p : Nat, 1 ≤ p ∧ p < m.length ∧ marigraphbook_Within.f k cut 1 ((m.length : Int) - 1) = some (p : Int) ∧
    ∀ how : Int, (how = 1 ∨ how = 2 ∨ how = 3 ∨ how = 5) → ∃ a1 a2 b1 b2 w1 w2, fold_Do.f k how (m.take p) = some (a1, a2, 0) ∧ fold_Do.f k how (m.drop p) = some (b1, b2, 0) ∧ fold_Do.f k how m = some (w1, w2, 0) ∧ fold_Do.f k (if how = 5 then 1 else how) [⟨a1, a2⟩, ⟨b1, b2⟩] = some (w1, w2, 0)))
theorem foldParts_walk (P : FoldParts.Pure) (a1 : Option Addr) (len1 cap1 : Nat) (z1 : List Int) (cut : Int) (w : World)
    (w1 : (a1 = none ∧ len1 = 0 ∧ cap1 = 0 ∧ z1 = []) ∨ ∃ x, a1 = some x ∧ len1 ≤ cap1 ∧ cap1 ≤ maxLen ∧ z1.length = cap1 ∧ (∀ i, i < z1.length → w.cell? (x.add i) = some (.int .i64 (z1.getD i 0))) ∧ ∀ n ∈ z1, (Lit.int .i64 n).wf = true) (wc : (Lit.int .i64 cut).wf = true) :
    Calls Try.prog 4 #[.slice a1 len1 cap1, .int .i64 cut] w fun e w' => e = .returned (.bool true) ∧ Below w.heap.size w w' := by
  obtain ⟨l1, rfl, hr1, hm1, hw1, hc1⟩ := ReadsInt.ofRowC w1
  have hC := Kd.C_of_reads (d := (0 : Int)) (h1 := fun _ => rfl) hr1
  obtain ⟨k, m, e1, e2, e3, e4⟩ := P l1 cut hw1 wc
  rcases e4 with hs | ⟨h2, p, p1, p2, hW, hall⟩
  · exact foldParts_small k _ _ l1 cut m w hC hc1 e1 hs e3
  · exact foldParts_at k _ _ l1 cut m (m.take p) (m.drop p) p w hC hc1 e1 e2 h2 p1 p2 ⟨rfl⟩ ⟨rfl⟩ hW hall e3
end Go.Proofs.Ytncieaeooiilpaa.PFoldParts

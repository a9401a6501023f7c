/- The walk of the Go functions that a law reaches, told as plain functions; a program of this session has written it. No condition beyond the statement's own. -/
import Derived.Test.YtlmhgjnlbokceaaPDownTellsx0
import Derived.Test.YtlmhgjnlbokceaaPDownTellsx1
import Derived.Test.YtlmhgjnlbokceaaPDownTellsx2
import Derived.Test.YtlmhgjnlbokceaaPDownTellsx3
import Derived.Test.YtlmhgjnlbokceaaPDownTellsx17
namespace Go.Proofs.Ytlmhgjnlbokceaa.PDownTells
open Go.RowKit Go.Proofs.YtlmhgjnlbokceaaW.PrintWords Go.Proofs.YtlmhgjnlbokceaaW.PrintLast Go.Proofs.YtlmhgjnlbokceaaW.PrintMore
attribute [local go_sem] max2_int min2_int max_two min_two max_three min_three max_four min_four   -- for this text's walks alone
set_option linter.unusedVariables false
set_option linter.unusedSimpArgs false

set_option maxHeartbeats 8000000
set_option maxRecDepth 100000
/-! ### marigraphlaw21.DownTells: function 4, by hand -/
theorem same_at (k : Nat) (A : Option Addr) (c n : Nat) (ys : List S31) (a1 a2 a3 a4 : Int) (a5 : Bool) (r : Bool) (w : World) (hn : ys.length = n) (hr : Kd.C k31 w A n ys) (hc : n ≤ c) (h : marigraphlaw21_same.f k ys a1 a2 a3 a4 a5 = some r) :
    Calls Try.prog 8 #[.slice A n c, .int .i64 a1, .int .i64 a2, .int .i64 a3, .int .i64 a4, .bool a5] w fun e w' => e = .returned (.bool r) ∧ Below w.heap.size w w' := by
  subst hn
  exact marigraphlaw21_same.calls k A c ys a1 a2 a3 a4 a5 r w hr hc h
theorem downTells_at (k : Nat) (A0 : Option Addr) (c0 : Nat) (l0 : List Int) (A1 : Option Addr) (c1 : Nat) (l1 : List Int) (fr tw ev how : Int) (zero : Bool) (AR : Option Addr) (cR : Nat) (lR : List S31) (l : List S31) (p q r s hw : Int) (w : World)
    (hr0 : Kd.C (Kd.int .i64) w A0 l0.length l0) (hc0 : l0.length ≤ c0) (hr1 : Kd.C (Kd.int .i64) w A1 l1.length l1) (hc1 : l1.length ≤ c1) (hrR : Kd.C k31 w AR lR.length lR) (hcR : lR.length ≤ cR)
    (hS : marigraphkeep_Samples.f k l0 l1 30 = some l) (hp : marigraphbook_Within.f k fr 0 400 = some p) (hq : marigraphbook_Within.f k tw 0 700 = some q) (hr : marigraphbook_Within.f k ev 1 100 = some r) (hs : marigraphbook_Within.f k how 0 1048576 = some s)
    (hs0 : 0 ≤ s) (hs1 : s ≤ 1048576) (hhw : hw = 1 + Int.tmod s 7)
    (h1 : marigraphlaw21_same.f k l p q r hw zero = some true) (h2 : marigraphlaw21_same.f k l 0 2000 r hw zero = some true) (h3 : marigraphlaw21_same.f k l fr tw ev how zero = some true) (h4 : marigraphlaw21_same.f k (lR.take 8) p q r hw zero = some true)
    (hk : marigraphlaw21_known.f k = some true) :
    Calls Try.prog 4 #[.slice A0 l0.length c0, .slice A1 l1.length c1, .int .i64 fr, .int .i64 tw, .int .i64 ev, .int .i64 how, .bool zero, .slice AR lR.length cR] w fun e w' => e = .returned (.bool true) ∧ Below w.heap.size w w' := by
  have hu31 := Try.underlying31
  have hm0 : 0 ≤ Int.tmod s 7 := Int.tmod_nonneg _ hs0
  have hm1 : Int.tmod s 7 < 7 := Int.tmod_lt_of_pos _ (by decide)
  obtain ⟨mq, hmq⟩ : ∃ mq, Int.tmod s 7 = mq := ⟨_, rfl⟩
  rw [hmq] at hhw hm0 hm1
  have hw1 : wrap64 (1 + mq) = hw := by rw [hhw]; unfold wrap64; omega
  clear hm0 hm1 hhw hs0 hs1
  replace hS := Aside0.mk hS
  replace hp := Aside0.mk hp
  replace hq := Aside0.mk hq
  replace hr := Aside0.mk hr
  replace hs := Aside0.mk hs
  replace h1 := Aside0.mk h1
  replace h2 := Aside0.mk h2
  replace h3 := Aside0.mk h3
  replace h4 := Aside0.mk h4
  replace hk := Aside0.mk hk
  replace hr0 := Aside0.mk hr0
  replace hr1 := Aside0.mk hr1
  replace hc0 := Aside0.mk hc0
  replace hc1 := Aside0.mk hc1
  by_cases h8 : 8 < lR.length
  · have q1 : decide ((8 : Int) < (lR.length : Int)) = true := decide_eq_true (by omega)
    have q2 : decide (8 < lR.length) = true := decide_eq_true h8
    have q3 : (8 ≤ cR) = True := eq_true (by omega)
    have q4 : ((8 : Int) ≤ (cR : Int)) = True := eq_true (by omega)
    have hr8 : Aside0 (Kd.C k31 w AR 8 (lR.take 8)) := ⟨by have := Kd.C_take hrR (m := 8) (by omega); rwa [List.length_take_of_le (by omega)] at this⟩
    have hl8 : Aside0 ((lR.take 8).length = 8) := ⟨List.length_take_of_le (by omega)⟩
    have hcc : Aside0 (8 ≤ cR) := ⟨by omega⟩
    generalize lR.take 8 = ys at h4 hr8 hl8
    clear h8 hrR hcR
    go_enter Try.func4, Try.ntmps4
    go_wp2_with (first
        | (go_at_call 7; (with_reducible refine (marigraphkeep_Samples.calls k A0 c0 l0 A1 c1 l1 30 l _ hr0.out hc0.out hr1.out hc1.out hS.out).mono ?_); rintro e w2 ⟨vt, rfl, hT, hb2⟩; obtain ⟨At, ct, rfl⟩ := Kd.R_slice hT; have hB := Aside0.mk hb2; clear hb2)
        | (go_at_call 11; (with_reducible refine (marigraphbook_Within.calls k fr 0 400 p _ hp.out).mono ?_); rintro e w3 ⟨rfl, hd⟩; replace hT := Kd.R_below hT hd.below; replace hB := Aside0.mk (below_step (belN hB.out) hd.below); clear hd)
        | (go_at_call 11; (with_reducible refine (marigraphbook_Within.calls k tw 0 700 q _ hq.out).mono ?_); rintro e w3 ⟨rfl, hd⟩; replace hT := Kd.R_below hT hd.below; replace hB := Aside0.mk (below_step (belN hB.out) hd.below); clear hd)
        | (go_at_call 11; (with_reducible refine (marigraphbook_Within.calls k ev 1 100 r _ hr.out).mono ?_); rintro e w3 ⟨rfl, hd⟩; replace hT := Kd.R_below hT hd.below; replace hB := Aside0.mk (below_step (belN hB.out) hd.below); clear hd)
        | (go_at_call 11; (with_reducible refine (marigraphbook_Within.calls k how 0 1048576 s _ hs.out).mono ?_); rintro e w3 ⟨rfl, hd⟩; replace hT := Kd.R_below hT hd.below; replace hB := Aside0.mk (below_step (belN hB.out) hd.below); clear hd)
        | (go_at_call 8; (with_reducible refine (same_at k At ct l.length l p q r hw zero true _ rfl (Kd.R_reads' hT).2.2 (Kd.R_reads' hT).2.1 h1.out).mono ?_); rintro e w4 ⟨rfl, hb⟩; replace hT := Kd.R_below hT hb; replace hB := Aside0.mk (below_step (belN hB.out) hb); clear hb)
        | (go_at_call 8; (with_reducible refine (same_at k At ct l.length l 0 2000 r hw zero true _ rfl (Kd.R_reads' hT).2.2 (Kd.R_reads' hT).2.1 h2.out).mono ?_); rintro e w4 ⟨rfl, hb⟩; replace hT := Kd.R_below hT hb; replace hB := Aside0.mk (below_step (belN hB.out) hb); clear hb)
        | (go_at_call 8; (with_reducible refine (same_at k At ct l.length l fr tw ev how zero true _ rfl (Kd.R_reads' hT).2.2 (Kd.R_reads' hT).2.1 h3.out).mono ?_); rintro e w4 ⟨rfl, hb⟩; replace hT := Kd.R_below hT hb; replace hB := Aside0.mk (below_step (belN hB.out) hb); clear hb)
        | (go_at_call 8; (with_reducible refine (same_at k AR cR 8 ys p q r hw zero true _ hl8.out (Kd.C_below hr8.out hB.out) hcc.out h4.out).mono ?_); rintro e w5 ⟨rfl, hb⟩; replace hT := Kd.R_below hT hb; replace hB := Aside0.mk (below_step (belN hB.out) hb); clear hb)
        | (go_at_call 10; (with_reducible refine (marigraphlaw21_known.calls k true _ hk.out).mono ?_); rintro e w9 ⟨rfl, hb9⟩; have HB9 := below_step (belN hB.out) hb9; clear hb9))
    go_ret
    exact ⟨rfl, HB9⟩
  · have q1 : decide ((8 : Int) < (lR.length : Int)) = false := decide_eq_false (by omega)
    have q2 : decide (8 < lR.length) = false := decide_eq_false h8
    have hr8 : Aside0 (Kd.C k31 w AR lR.length (lR.take 8)) := ⟨by rw [List.take_of_length_le (by omega)]; exact hrR⟩
    have hl8 : Aside0 ((lR.take 8).length = lR.length) := ⟨by rw [List.take_of_length_le (by omega)]⟩
    have hcc : Aside0 (lR.length ≤ cR) := ⟨by omega⟩
    generalize lR.take 8 = ys at h4 hr8 hl8
    clear h8 hrR hcR
    go_enter Try.func4, Try.ntmps4
    go_wp2_with (first
        | (go_at_call 7; (with_reducible refine (marigraphkeep_Samples.calls k A0 c0 l0 A1 c1 l1 30 l _ hr0.out hc0.out hr1.out hc1.out hS.out).mono ?_); rintro e w2 ⟨vt, rfl, hT, hb2⟩; obtain ⟨At, ct, rfl⟩ := Kd.R_slice hT; have hB := Aside0.mk hb2; clear hb2)
        | (go_at_call 11; (with_reducible refine (marigraphbook_Within.calls k fr 0 400 p _ hp.out).mono ?_); rintro e w3 ⟨rfl, hd⟩; replace hT := Kd.R_below hT hd.below; replace hB := Aside0.mk (below_step (belN hB.out) hd.below); clear hd)
        | (go_at_call 11; (with_reducible refine (marigraphbook_Within.calls k tw 0 700 q _ hq.out).mono ?_); rintro e w3 ⟨rfl, hd⟩; replace hT := Kd.R_below hT hd.below; replace hB := Aside0.mk (below_step (belN hB.out) hd.below); clear hd)
        | (go_at_call 11; (with_reducible refine (marigraphbook_Within.calls k ev 1 100 r _ hr.out).mono ?_); rintro e w3 ⟨rfl, hd⟩; replace hT := Kd.R_below hT hd.below; replace hB := Aside0.mk (below_step (belN hB.out) hd.below); clear hd)
        | (go_at_call 11; (with_reducible refine (marigraphbook_Within.calls k how 0 1048576 s _ hs.out).mono ?_); rintro e w3 ⟨rfl, hd⟩; replace hT := Kd.R_below hT hd.below; replace hB := Aside0.mk (below_step (belN hB.out) hd.below); clear hd)
        | (go_at_call 8; (with_reducible refine (same_at k At ct l.length l p q r hw zero true _ rfl (Kd.R_reads' hT).2.2 (Kd.R_reads' hT).2.1 h1.out).mono ?_); rintro e w4 ⟨rfl, hb⟩; replace hT := Kd.R_below hT hb; replace hB := Aside0.mk (below_step (belN hB.out) hb); clear hb)
        | (go_at_call 8; (with_reducible refine (same_at k At ct l.length l 0 2000 r hw zero true _ rfl (Kd.R_reads' hT).2.2 (Kd.R_reads' hT).2.1 h2.out).mono ?_); rintro e w4 ⟨rfl, hb⟩; replace hT := Kd.R_below hT hb; replace hB := Aside0.mk (below_step (belN hB.out) hb); clear hb)
        | (go_at_call 8; (with_reducible refine (same_at k At ct l.length l fr tw ev how zero true _ rfl (Kd.R_reads' hT).2.2 (Kd.R_reads' hT).2.1 h3.out).mono ?_); rintro e w4 ⟨rfl, hb⟩; replace hT := Kd.R_below hT hb; replace hB := Aside0.mk (below_step (belN hB.out) hb); clear hb)
        | (go_at_call 8; (with_reducible refine (same_at k AR cR lR.length ys p q r hw zero true _ hl8.out (Kd.C_below hr8.out hB.out) hcc.out h4.out).mono ?_); rintro e w5 ⟨rfl, hb⟩; replace hT := Kd.R_below hT hb; replace hB := Aside0.mk (below_step (belN hB.out) hb); clear hb)
        | (go_at_call 10; (with_reducible refine (marigraphlaw21_known.calls k true _ hk.out).mono ?_); rintro e w9 ⟨rfl, hb9⟩; have HB9 := below_step (belN hB.out) hb9; clear hb9))
    go_ret
    exact ⟨rfl, HB9⟩
end Go.Proofs.Ytlmhgjnlbokceaa.PDownTells

/- The walk of the Go functions that a law reaches, told as plain functions; a program of this session has written it. No condition beyond the statement's own. -/
import Derived.Test.YtfijbkabjmgomaaPNameTellsx0
import Derived.Test.YtfijbkabjmgomaaPNameTellsx2
import Derived.Test.YtfijbkabjmgomaaPNameTellsx3
import Derived.Test.YtfijbkabjmgomaaPNameTellsx7
import Derived.Test.YtfijbkabjmgomaaPNameTellsx8
import Derived.Test.YtfijbkabjmgomaaPNameTellsx9
namespace Go.Proofs.Ytfijbkabjmgomaa.PNameTells
open Go.RowKit Go.Proofs.YtfijbkabjmgomaaW.PrintWords Go.Proofs.YtfijbkabjmgomaaW.PrintLast Go.Proofs.YtfijbkabjmgomaaW.PrintMore
attribute [local go_sem] max2_int min2_int max_two min_two max_three min_three max_four min_four   -- for this text's walks alone
set_option linter.unusedVariables false
set_option linter.unusedSimpArgs false

set_option maxHeartbeats 8000000
set_option maxRecDepth 100000
/-! ### marigraphlaw12.NameTells: function 4, by hand -/
theorem rdT34_nat {l : List S34} {j : Nat} (h : j < l.length) : rd_T34 l (j : Int) = l[j] := by
  unfold rd_T34
  rw [Int.toNat_natCast, List.getD_eq_getElem?_getD, List.getElem?_eq_getElem h]
  rfl
theorem takes_at (k : Nat) (A : Option Addr) (c n : Nat) (ys : List S25) (r : Bool) (w : World) (hn : ys.length = n) (hr : Kd.C k25 w A n ys) (hc : n ≤ c) (h : marigraphlaw12_takes.f k ys = some r) :
    Calls Try.prog 9 #[.slice A n c] w fun e w' => e = .returned (.bool r) ∧ Below w.heap.size w w' := by
  subst hn
  exact marigraphlaw12_takes.calls k A c ys r w hr hc h
theorem same_at (k : Nat) (A : Option Addr) (c n : Nat) (ys : List S25) (A2 : Option Addr) (c2 n2 : Nat) (zs : List S25) (r : Bool) (w : World) (hn : ys.length = n) (hn2 : zs.length = n2) (hr : Kd.C k25 w A n ys) (hc : n ≤ c) (hr2 : Kd.C k25 w A2 n2 zs) (hc2 : n2 ≤ c2) (h : name_Same.f k ys zs = some r) :
    Calls Try.prog 12 #[.slice A n c, .slice A2 n2 c2] w fun e w' => e = .returned (.bool r) ∧ Drawn0 w w' := by
  subst hn
  subst hn2
  exact name_Same.calls k A c ys A2 c2 zs r w hr hc hr2 hc2 h
theorem nameTells_at (k : Nat) (s : ByteArray) (A : Option Addr) (c : Nat) (l : List S25) (AM : Option Addr) (cM : Nat) (lM : List S34) (rs : Bool) (w : World)
    (hr : Kd.C k25 w A l.length l) (hc : l.length ≤ c) (hrM : Kd.C k34 w AM lM.length lM) (hcM : lM.length ≤ cM)
    (hF : ∀ x ∈ lM, ∃ m ts tm v, marigraphkeep_Of.f k x.f0 x.f1 x.f2 x.f3 x.f4 x.f5 x.f6 x.f7 = some (m, ts, tm, v) ∧ marigraphlaw12_takes.f k ts = some true)
    (hR1 : name_Right.f k s = some rs) (hR2 : marigraphref12_Right.f k s = some rs)
    (hT : marigraphlaw12_takes.f k (l.take 7) = some true)
    (hS1 : name_Same.f k (l.take 7) (l.take 7) = some true) (hS2 : name_Same.f k (l.take 7) ((l.take 7).take ((l.take 7).length / 2)) = some (decide ((l.take 7).length / 2 = (l.take 7).length)))
    (hk : marigraphlaw12_known.f k = some true) :
    Calls Try.prog 4 #[.string s, .slice A l.length c, .slice AM lM.length cM] w fun e w' => e = .returned (.bool true) ∧ Below w.heap.size w w' := by
  have hu25 := Try.underlying25
  have hu27 := Try.underlying27
  have hu34 := Try.underlying34
  replace hF := Aside0.mk hF
  replace hR1 := Aside0.mk hR1
  replace hR2 := Aside0.mk hR2
  replace hT := Aside0.mk hT
  replace hS1 := Aside0.mk hS1
  replace hS2 := Aside0.mk hS2
  replace hk := Aside0.mk hk
  have hfd : ∀ (x y z u : Value) (w : World), (Instr.field 31 (.agg #[x, y, z, u]) 1).run Try.prog w = .ok y w := by intros; kernel_rfl
  by_cases h7 : 7 < l.length
  · have q1 : decide ((7 : Int) < (l.length : Int)) = true := decide_eq_true (by omega)
    have q2 : decide (7 < l.length) = true := decide_eq_true h7
    have q3 : (7 ≤ c) = True := eq_true (by omega)
    have q4 : ((7 : Int) ≤ (c : Int)) = True := eq_true (by omega)
    have hr7 : Aside0 (Kd.C k25 w A 7 (l.take 7)) := ⟨by have := Kd.C_take hr (m := 7) (by omega); rwa [List.length_take_of_le (by omega)] at this⟩
    have hl7 : Aside0 ((l.take 7).length = 7) := ⟨List.length_take_of_le (by omega)⟩
    have hcc : Aside0 (7 ≤ c) := ⟨by omega⟩
    generalize l.take 7 = ys at hT hS1 hS2 hr7 hl7
    clear h7 hr hc
    go_enter Try.func4, Try.ntmps4
    go_wp2
    clear q1 q2 q3 q4
    go_loopg [7] 7 (fun kq v7 w' => ∃ j : Nat, v7 = .int .i64 (j : Int) ∧ Aside0 (6 - j < kq ∧ j ≤ 6 ∧ j ≤ lM.length) ∧ Aside0 (Below w.heap.size w w'))
    case atStart => exact ⟨0, rfl, ⟨by omega⟩, ⟨belN (Below.refl _ _)⟩⟩
    case round =>
      obtain ⟨j, rfl, hj, hB⟩ := hrel
      replace hj := hj.out
      by_cases hn : j < lM.length ∧ j < 6
      · have hd1 : decide ((j : Int) < (lM.length : Int)) = true := decide_eq_true (by omega)
        have hd3 : decide (j < lM.length) = true := decide_eq_true hn.1
        have hd5 : decide ((j : Int) < 6) = true := decide_eq_true (by omega)
        have hd6 : decide (j < 6) = true := decide_eq_true hn.2
        obtain ⟨adM, eM, h0, h1, h2, h3_, h4, h5, h6, h7⟩ := at_T34 hrM (j : Int) (Int.natCast_nonneg j) (by omega)
        cases eM
        obtain ⟨mx, tsx, tmx, vx, hofx, htx⟩ := hF.out _ (List.getElem_mem hn.1)
        rw [rdT34_nat hn.1] at h0 h1 h2 h3_ h4 h5 h6 h7
        rw [Int.toNat_natCast] at h0 h1 h2 h3_ h4 h5 h6 h7
        generalize lM[j] = x at h0 h1 h2 h3_ h4 h5 h6 h7 hofx
        replace hofx := Aside0.mk hofx
        replace htx := Aside0.mk htx
        have hp0 : (0 ≤ (j : Int)) = True := eq_true (Int.natCast_nonneg j)
        have hnx : Aside0 (wrap64 ((j : Int) + 1) = ((j + 1 : Nat) : Int)) := ⟨by unfold wrap64; omega⟩
        have h33 : Aside0 ((((j : Int) + 1) : Int) = ((j + 1 : Nat) : Int)) := ⟨by omega⟩
        replace h0 := cellB hB.out h0
        replace h1 := cellB hB.out h1
        replace h2 := cellB hB.out h2
        replace h3_ := cellB hB.out h3_
        replace h4 := cellB hB.out h4
        replace h5 := cellB hB.out h5
        replace h6 := cellB hB.out h6
        replace h7 := cellB hB.out h7
        go_wp2_with (first
          | (go_at_call 11; (with_reducible refine (marigraphkeep_Of.calls k x.f0 x.f1 x.f2 x.f3 x.f4 x.f5 x.f6 x.f7 mx tsx tmx vx _ hofx.out).mono ?_); rintro e w2 ⟨vt, rfl, hTs, hb2⟩; obtain ⟨At, ct, rfl⟩ := Kd.R_slice hTs; replace hB := Aside0.mk (below_step (belN hB.out) hb2); clear hb2)
          | (go_at_call 9; (with_reducible refine (marigraphlaw12_takes.calls k At ct tsx true _ (Kd.R_reads' hTs).2.2 (Kd.R_reads' hTs).2.1 htx.out).mono ?_); rintro e w3 ⟨rfl, hb3⟩; replace hB := Aside0.mk (below_step (belN hB.out) hb3); clear hb3 hTs))
        go_roundg (6 - j)
        case measure => exact hj.1
        case rel => exact ⟨j + 1, (by first | rfl | exact congrArg (Value.int .i64) hnx.out | exact congrArg (Value.int .i64) h33.out), ⟨by omega, by omega⟩, ⟨belN hB.out⟩⟩
      · have hm : (j < lM.length ∧ j = 6) ∨ ¬ j < lM.length := by omega
        replace hm := Aside0.mk hm
        clear hn
        have hl7a := hl7.out
        have g4 : ((3 : Int) ≤ (c : Int)) = True := eq_true (by have := hcc.out; omega)
        have g5 : (3 ≤ c) = True := eq_true (by have := hcc.out; omega)
        replace hS2 : Aside0 (name_Same.f k ys (ys.take 3) = some false) := ⟨by have := hS2.out; rw [hl7a] at this; exact this⟩
        have hte : Aside0 ((ys.take 3).length = 3) := ⟨List.length_take_of_le (by omega)⟩
        have htc : Aside0 (Kd.C k25 w A 3 (ys.take 3)) := ⟨by have := Kd.C_take (xs := ys) (m := 3) (by rw [hl7a]; exact hr7.out) (by omega); rwa [hte.out] at this⟩
        have htcc : Aside0 (3 ≤ c) := ⟨by have := hcc.out; omega⟩
        rcases hm.out with hm' | hm'
        all_goals
          have hd1 : decide ((j : Int) < (lM.length : Int)) = decide (j < lM.length) := by rw [decide_eq_decide]; omega
          first
          | (have hd3 : decide (j < lM.length) = false := decide_eq_false hm')
          | (have hd3 : decide (j < lM.length) = true := decide_eq_true hm'.1
             have hd5 : decide ((j : Int) < 6) = false := decide_eq_false (by omega)
             have hd6 : decide (j < 6) = false := decide_eq_false (by omega))
          clear hm hm' hj hl7a
          go_wp2_with (first
            | (go_at_call 7; (with_reducible refine (name_Right.calls k s rs _ hR1.out).mono ?_); rintro e w3 ⟨rfl, hd⟩; replace hB := Aside0.mk (below_step (belN hB.out) hd.below); clear hd)
            | (go_at_call 8; (with_reducible refine (marigraphref12_Right.calls k s rs _ hR2.out).mono ?_); rintro e w4 ⟨rfl, hd⟩; replace hB := Aside0.mk (below_step (belN hB.out) hd.below); clear hd)
            | (go_at_call 9; (with_reducible refine (takes_at k A c 7 ys true _ hl7.out (Kd.C_below hr7.out hB.out) hcc.out hT.out).mono ?_); rintro e w5 ⟨rfl, hb5⟩; replace hB := Aside0.mk (below_step (belN hB.out) hb5); clear hb5)
            | (go_at_call 12; (with_reducible refine (same_at k A c 7 ys A c 7 ys true _ hl7.out hl7.out (Kd.C_below hr7.out hB.out) hcc.out (Kd.C_below hr7.out hB.out) hcc.out hS1.out).mono ?_); rintro e w6 ⟨rfl, hd⟩; replace hB := Aside0.mk (below_step (belN hB.out) hd.below); clear hd)
            | (go_at_call 12; (with_reducible refine (same_at k A c 7 ys A c 3 (ys.take 3) false _ hl7.out hte.out (Kd.C_below hr7.out hB.out) hcc.out (Kd.C_below htc.out hB.out) htcc.out hS2.out).mono ?_); rintro e w7 ⟨rfl, hd⟩; replace hB := Aside0.mk (below_step (belN hB.out) hd.below); clear hd)
            | (go_at_call 10; (with_reducible refine (marigraphlaw12_known.calls k true _ hk.out).mono ?_); rintro e w9 ⟨rfl, hb9⟩; have HB9 := below_step (belN hB.out) hb9; clear hb9))
          go_ret
          exact ⟨rfl, HB9⟩
  · have q1 : decide ((7 : Int) < (l.length : Int)) = false := decide_eq_false (by omega)
    have q2 : decide (7 < l.length) = false := decide_eq_false h7
    have hr7 : Aside0 (Kd.C k25 w A l.length (l.take 7)) := ⟨by rw [List.take_of_length_le (by omega)]; exact hr⟩
    have hl7 : Aside0 ((l.take 7).length = l.length) := ⟨by rw [List.take_of_length_le (by omega)]⟩
    have hle : Aside0 (l.length ≤ 7) := ⟨by omega⟩
    have hcc : Aside0 (l.length ≤ c) := ⟨by omega⟩
    generalize l.take 7 = ys at hT hS1 hS2 hr7 hl7
    clear h7 hr hc
    go_enter Try.func4, Try.ntmps4
    go_wp2
    clear q1 q2
    go_loopg [7] 7 (fun kq v7 w' => ∃ j : Nat, v7 = .int .i64 (j : Int) ∧ Aside0 (6 - j < kq ∧ j ≤ 6 ∧ j ≤ lM.length) ∧ Aside0 (Below w.heap.size w w'))
    case atStart => exact ⟨0, rfl, ⟨by omega⟩, ⟨belN (Below.refl _ _)⟩⟩
    case round =>
      obtain ⟨j, rfl, hj, hB⟩ := hrel
      replace hj := hj.out
      by_cases hn : j < lM.length ∧ j < 6
      · have hd1 : decide ((j : Int) < (lM.length : Int)) = true := decide_eq_true (by omega)
        have hd3 : decide (j < lM.length) = true := decide_eq_true hn.1
        have hd5 : decide ((j : Int) < 6) = true := decide_eq_true (by omega)
        have hd6 : decide (j < 6) = true := decide_eq_true hn.2
        obtain ⟨adM, eM, h0, h1, h2, h3_, h4, h5, h6, h7⟩ := at_T34 hrM (j : Int) (Int.natCast_nonneg j) (by omega)
        cases eM
        obtain ⟨mx, tsx, tmx, vx, hofx, htx⟩ := hF.out _ (List.getElem_mem hn.1)
        rw [rdT34_nat hn.1] at h0 h1 h2 h3_ h4 h5 h6 h7
        rw [Int.toNat_natCast] at h0 h1 h2 h3_ h4 h5 h6 h7
        generalize lM[j] = x at h0 h1 h2 h3_ h4 h5 h6 h7 hofx
        replace hofx := Aside0.mk hofx
        replace htx := Aside0.mk htx
        have hp0 : (0 ≤ (j : Int)) = True := eq_true (Int.natCast_nonneg j)
        have hnx : Aside0 (wrap64 ((j : Int) + 1) = ((j + 1 : Nat) : Int)) := ⟨by unfold wrap64; omega⟩
        have h33 : Aside0 ((((j : Int) + 1) : Int) = ((j + 1 : Nat) : Int)) := ⟨by omega⟩
        replace h0 := cellB hB.out h0
        replace h1 := cellB hB.out h1
        replace h2 := cellB hB.out h2
        replace h3_ := cellB hB.out h3_
        replace h4 := cellB hB.out h4
        replace h5 := cellB hB.out h5
        replace h6 := cellB hB.out h6
        replace h7 := cellB hB.out h7
        go_wp2_with (first
          | (go_at_call 11; (with_reducible refine (marigraphkeep_Of.calls k x.f0 x.f1 x.f2 x.f3 x.f4 x.f5 x.f6 x.f7 mx tsx tmx vx _ hofx.out).mono ?_); rintro e w2 ⟨vt, rfl, hTs, hb2⟩; obtain ⟨At, ct, rfl⟩ := Kd.R_slice hTs; replace hB := Aside0.mk (below_step (belN hB.out) hb2); clear hb2)
          | (go_at_call 9; (with_reducible refine (marigraphlaw12_takes.calls k At ct tsx true _ (Kd.R_reads' hTs).2.2 (Kd.R_reads' hTs).2.1 htx.out).mono ?_); rintro e w3 ⟨rfl, hb3⟩; replace hB := Aside0.mk (below_step (belN hB.out) hb3); clear hb3 hTs))
        go_roundg (6 - j)
        case measure => exact hj.1
        case rel => exact ⟨j + 1, (by first | rfl | exact congrArg (Value.int .i64) hnx.out | exact congrArg (Value.int .i64) h33.out), ⟨by omega, by omega⟩, ⟨belN hB.out⟩⟩
      · have hm : (j < lM.length ∧ j = 6) ∨ ¬ j < lM.length := by omega
        replace hm := Aside0.mk hm
        clear hn
        obtain ⟨hf, hff⟩ : ∃ hf, hf = ys.length / 2 := ⟨_, rfl⟩
        rw [← hff] at hS2
        have hl7a := hl7.out
        have hl7b := hle.out
        have g1 : (l.length : Int).tdiv 2 = (hf : Int) := by rw [← hl7a, hff]; exact (Int.ofNat_tdiv ys.length 2).symm
        have g3 : (0 ≤ (hf : Int)) = True := eq_true (by omega)
        have g4 : ((hf : Int) ≤ (c : Int)) = True := eq_true (by have := hcc.out; omega)
        have g5 : (hf ≤ c) = True := eq_true (by have := hcc.out; omega)
        have g6 : ((hf : Int) == (l.length : Int)) = decide (hf = ys.length) := by rw [hl7a]; by_cases hh : hf = l.length <;> simp [hh] <;> omega
        have g7 : (hf == l.length) = decide (hf = ys.length) := by rw [hl7a]; by_cases hh : hf = l.length <;> simp [hh]
        have hte : Aside0 ((ys.take hf).length = hf) := ⟨List.length_take_of_le (by omega)⟩
        have htc : Aside0 (Kd.C k25 w A hf (ys.take hf)) := ⟨by have := Kd.C_take (xs := ys) (m := hf) (by rw [hl7a]; exact hr7.out) (by omega); rwa [hte.out] at this⟩
        have htcc : Aside0 (hf ≤ c) := ⟨by have := hcc.out; omega⟩
        have g2 : Aside0 (wrap64 (hf : Int) = (hf : Int)) := ⟨by unfold wrap64; omega⟩
        rcases hm.out with hm' | hm'
        all_goals
          have hd1 : decide ((j : Int) < (lM.length : Int)) = decide (j < lM.length) := by rw [decide_eq_decide]; omega
          first
          | (have hd3 : decide (j < lM.length) = false := decide_eq_false hm')
          | (have hd3 : decide (j < lM.length) = true := decide_eq_true hm'.1
             have hd5 : decide ((j : Int) < 6) = false := decide_eq_false (by omega)
             have hd6 : decide (j < 6) = false := decide_eq_false (by omega))
          clear hm hm' hff hj hl7a hl7b
          replace g2 := g2.out
          go_wp2_with (first
            | (go_at_call 7; (with_reducible refine (name_Right.calls k s rs _ hR1.out).mono ?_); rintro e w3 ⟨rfl, hd⟩; replace hB := Aside0.mk (below_step (belN hB.out) hd.below); clear hd)
            | (go_at_call 8; (with_reducible refine (marigraphref12_Right.calls k s rs _ hR2.out).mono ?_); rintro e w4 ⟨rfl, hd⟩; replace hB := Aside0.mk (below_step (belN hB.out) hd.below); clear hd)
            | (go_at_call 9; (with_reducible refine (takes_at k A c l.length ys true _ hl7.out (Kd.C_below hr7.out hB.out) hcc.out hT.out).mono ?_); rintro e w5 ⟨rfl, hb5⟩; replace hB := Aside0.mk (below_step (belN hB.out) hb5); clear hb5)
            | (go_at_call 12; (with_reducible refine (same_at k A c l.length ys A c l.length ys true _ hl7.out hl7.out (Kd.C_below hr7.out hB.out) hcc.out (Kd.C_below hr7.out hB.out) hcc.out hS1.out).mono ?_); rintro e w6 ⟨rfl, hd⟩; replace hB := Aside0.mk (below_step (belN hB.out) hd.below); clear hd)
            | (go_at_call 12; (with_reducible refine (same_at k A c l.length ys A c hf (ys.take hf) (decide (hf = ys.length)) _ hl7.out hte.out (Kd.C_below hr7.out hB.out) hcc.out (Kd.C_below htc.out hB.out) htcc.out hS2.out).mono ?_); rintro e w7 ⟨rfl, hd⟩; replace hB := Aside0.mk (below_step (belN hB.out) hd.below); clear hd)
            | (go_at_call 10; (with_reducible refine (marigraphlaw12_known.calls k true _ hk.out).mono ?_); rintro e w9 ⟨rfl, hb9⟩; have HB9 := below_step (belN hB.out) hb9; clear hb9))
          go_ret
          exact ⟨rfl, HB9⟩
end Go.Proofs.Ytfijbkabjmgomaa.PNameTells

/- The walk of the Go functions that a law reaches, told as plain functions; a program of this session has written it. No condition beyond the statement's own. -/
import Derived.Test.YtlmcnlaopolinaaPRateTellsx0
import Derived.Test.YtlmcnlaopolinaaPRateTellsx1
import Derived.Test.YtlmcnlaopolinaaPRateTellsx2
import Derived.Test.YtlmcnlaopolinaaPRateTellsx3
import Derived.Test.YtlmcnlaopolinaaPRateTellsx8
import Derived.Test.YtlmcnlaopolinaaPRateTellsx14
namespace Go.Proofs.Ytlmcnlaopolinaa.PRateTells
open Go.RowKit Go.Proofs.YtlmcnlaopolinaaW.PrintWords Go.Proofs.YtlmcnlaopolinaaW.PrintLast Go.Proofs.YtlmcnlaopolinaaW.PrintMore
attribute [local go_sem] max2_int min2_int max_two min_two max_three min_three max_four min_four   -- for this text's walks alone
set_option linter.unusedVariables false
set_option linter.unusedSimpArgs false

attribute [local go_sem high] eqA24 eqA26
/-! ### marigraphlaw24_RateTells: function 4, by hand -/
theorem rateTells_at (k : Nat) (A0 : Option Addr) (c0 : Nat) (l0 : List Int) (A1 : Option Addr) (c1 : Nat) (l1 : List Int) (b : Bool) (m q : Int) (A4 : Option Addr) (c4 : Nat) (l4 l6 s : List S26) (w : World)
    (hr0 : Kd.C (Kd.int .i64) w A0 l0.length l0) (hc0 : l0.length ≤ c0) (hr1 : Kd.C (Kd.int .i64) w A1 l1.length l1) (hc1 : l1.length ≤ c1) (hr6 : Kd.C k26 w A4 l6.length l6) (hc6 : l6.length ≤ c4)
    (hcut : (decide (6 < l4.length) = true ∧ ∀ W : World, (Instr.slice 27 (.slice A4 l4.length c4) none (some (.int .i64 6)) none).run Try.prog W = .ok (.slice A4 l6.length c4) W) ∨ (decide (6 < l4.length) = false ∧ l6 = l4))
    (hS : marigraphkeep_Samples.f k l0 l1 20 = some s) (h1 : marigraphlaw24_same.f k s b m = some true) (hW : marigraphbook_Within.f k m 1 1000 = some q) (h2 : marigraphlaw24_same.f k s true q = some true) (h3 : marigraphlaw24_same.f k l6 b m = some true) (hk : marigraphlaw24_known.f k = some true) :
    Calls Try.prog 4 #[.slice A0 l0.length c0, .slice A1 l1.length c1, .bool b, .int .i64 m, .slice A4 l4.length c4] w fun e w' => e = .returned (.bool true) ∧ Below w.heap.size w w' := by
  have HB := Below.refl w.heap.size w
  have hS := Aside0.mk hS
  have h1 := Aside0.mk h1
  have hW := Aside0.mk hW
  have h2 := Aside0.mk h2
  have h3 := Aside0.mk h3
  have hk := Aside0.mk hk
  rcases hcut with ⟨hd, hcut⟩ | ⟨hd, rfl⟩
  · have hd2 : decide ((6 : Int) < (l4.length : Int)) = true := decide_eq_true (by have := of_decide_eq_true hd; omega)
    go_enter Try.func4, Try.ntmps4
    go_wp2_with (first
      | (go_at_call 12; (with_reducible refine (marigraphlaw24_known.calls k true _ hk.out).mono ?_); rintro e w6 ⟨rfl, hb⟩; have HB6 := below_step HB5 hb; clear hb)
      | (go_at_call 11; (with_reducible refine (marigraphlaw24_same.calls k A4 c4 l6 b m true _ (Kd.C_below hr6 HB4) hc6 h3.out).mono ?_); rintro e w5 ⟨rfl, hb⟩; have HB5 := below_step HB4 hb; clear hb)
      | (go_at_call 11; (with_reducible refine (marigraphlaw24_same.calls k As cs s true q true _ (Kd.C_drewN (Kd.C_below hCs hb3) nn) hcs h2.out).mono ?_); rintro e w4 ⟨rfl, hb⟩; have HB4 := below_step (pw_below_drewN HB3 nn) hb; clear hb)
      | (go_at_call 7; (with_reducible refine (marigraphbook_Within.calls k m 1 1000 q _ hW.out).mono ?_); rintro e w ⟨rfl, ⟨nn, rfl⟩⟩)
      | (go_at_call 11; (with_reducible refine (marigraphlaw24_same.calls k As cs s b m true _ hCs hcs h1.out).mono ?_); rintro e w3 ⟨rfl, hb3⟩; have HB3 := below_step HB2 hb3)
      | (go_at_call 6; (with_reducible refine (marigraphkeep_Samples.calls k A0 c0 l0 A1 c1 l1 20 s _ hr0 hc0 hr1 hc1 hS.out).mono ?_); rintro e w2 ⟨v, rfl, hR, hb⟩; obtain ⟨As, cs, rfl⟩ := Kd.R_slice hR; have hCs := (Kd.R_reads' hR).2.2; have hcs := (Kd.R_reads' hR).2.1; have HB2 := below_step HB hb; clear hb hR))
    go_ret
    exact ⟨rfl, HB6⟩
  · have hd2 : decide ((6 : Int) < (l6.length : Int)) = false := decide_eq_false (by have := of_decide_eq_false hd; omega)
    go_enter Try.func4, Try.ntmps4
    go_wp2_with (first
      | (go_at_call 12; (with_reducible refine (marigraphlaw24_known.calls k true _ hk.out).mono ?_); rintro e w6 ⟨rfl, hb⟩; have HB6 := below_step HB5 hb; clear hb)
      | (go_at_call 11; (with_reducible refine (marigraphlaw24_same.calls k A4 c4 l6 b m true _ (Kd.C_below hr6 HB4) hc6 h3.out).mono ?_); rintro e w5 ⟨rfl, hb⟩; have HB5 := below_step HB4 hb; clear hb)
      | (go_at_call 11; (with_reducible refine (marigraphlaw24_same.calls k As cs s true q true _ (Kd.C_drewN (Kd.C_below hCs hb3) nn) hcs h2.out).mono ?_); rintro e w4 ⟨rfl, hb⟩; have HB4 := below_step (pw_below_drewN HB3 nn) hb; clear hb)
      | (go_at_call 7; (with_reducible refine (marigraphbook_Within.calls k m 1 1000 q _ hW.out).mono ?_); rintro e w ⟨rfl, ⟨nn, rfl⟩⟩)
      | (go_at_call 11; (with_reducible refine (marigraphlaw24_same.calls k As cs s b m true _ hCs hcs h1.out).mono ?_); rintro e w3 ⟨rfl, hb3⟩; have HB3 := below_step HB2 hb3)
      | (go_at_call 6; (with_reducible refine (marigraphkeep_Samples.calls k A0 c0 l0 A1 c1 l1 20 s _ hr0 hc0 hr1 hc1 hS.out).mono ?_); rintro e w2 ⟨v, rfl, hR, hb⟩; obtain ⟨As, cs, rfl⟩ := Kd.R_slice hR; have hCs := (Kd.R_reads' hR).2.2; have hcs := (Kd.R_reads' hR).2.1; have HB2 := below_step HB hb; clear hb hR))
    go_ret
    exact ⟨rfl, HB6⟩
/-- Samples out of their numbers. -/
def smps (f : Nat → Int × Int × Int) (n : Nat) : List S26 := (List.range n).map fun i => ⟨(f i).1, ⟨(f i).2.1, (f i).2.2⟩⟩
theorem smps_len (f : Nat → Int × Int × Int) (n : Nat) : (smps f n).length = n := by unfold smps; rw [List.length_map, List.length_range]
theorem smps_C {w : World} {a : Option Addr} {len cap : Nat} {f : Nat → Int × Int × Int} (hl : len ≤ cap) (hm : cap ≤ maxLen) (h : 0 < len → ∃ ad, a = some ad ∧ ∀ i, i < len → w.cell? (ad.add (i * 3)) = some (.int .i64 (f i).1) ∧ w.cell? (ad.add (i * 3 + 1)) = some (.int .i64 (f i).2.1) ∧ w.cell? (ad.add (i * 3 + 2)) = some (.int .i64 (f i).2.2)) :
    Kd.C k26 w a (smps f len).length (smps f len) := by
  refine ⟨rfl, by rw [smps_len]; unfold maxLen at hm; omega, fun hp => ?_⟩
  rw [smps_len] at hp
  obtain ⟨ad, ha, hc⟩ := h hp
  refine ⟨ad, ha, fun j p hj => ?_⟩
  have hlt : j < len := by
    have := (List.getElem?_eq_some_iff.1 hj).1
    rwa [smps_len] at this
  obtain ⟨e0, e1, e2⟩ := hc j hlt
  have hp2 : p = ⟨(f j).1, ⟨(f j).2.1, (f j).2.2⟩⟩ := by
    unfold smps at hj
    rw [List.getElem?_map, List.getElem?_range hlt] at hj
    exact (Option.some.inj hj).symm
  subst hp2
  refine ⟨[.int .i64 (f j).1, .int .i64 (f j).2.1, .int .i64 (f j).2.2], rfl, k26_mk w _, fun i u hu => ?_⟩
  match i, hu with
  | 0, hu => cases hu; exact e0
  | 1, hu => cases hu; exact e1
  | 2, hu => cases hu; exact e2
/-- THE ONE PURE STATEMENT of RateTells. -/
def RateTells.Pure : Prop := ∀ (l0 : List Int) (l1 : List Int) (b : Bool) (m : Int) (l6 : List S26), (∀ x ∈ l0, (Lit.int .i64 x).wf = true) → (∀ x ∈ l1, (Lit.int .i64 x).wf = true) → (Lit.int .i64 m).wf = true → l6.length ≤ 6 → (∀ x ∈ l6, (Lit.int .i64 x.f0).wf = true ∧ (Lit.int .i64 x.f1.f0).wf = true ∧ (Lit.int .i64 x.f1.f1).wf = true) →
  ∃ k s q, marigraphkeep_Samples.f k l0 l1 20 = some s ∧ marigraphlaw24_same.f k s b m = some true ∧ marigraphbook_Within.f k m 1 1000 = some q ∧ marigraphlaw24_same.f k s true q = some true ∧ marigraphlaw24_same.f k l6 b m = some true ∧ marigraphlaw24_known.f k = some true
theorem rateTells_walk (P : RateTells.Pure) (a0 : Option Addr) (len0 cap0 : Nat) (z0 : List Int) (a1 : Option Addr) (len1 cap1 : Nat) (z1 : List Int) (b : Bool) (m : Int) (a4 : Option Addr) (len4 cap4 : Nat) (f : Nat → Int × Int × Int) (w : World)
    (w0 : (a0 = none ∧ len0 = 0 ∧ cap0 = 0 ∧ z0 = []) ∨ ∃ x, a0 = some x ∧ len0 ≤ cap0 ∧ cap0 ≤ maxLen ∧ z0.length = cap0 ∧ (∀ i, i < z0.length → w.cell? (x.add i) = some (.int .i64 (z0.getD i 0))) ∧ ∀ n ∈ z0, (Lit.int .i64 n).wf = true) (y0 : len0 * 8 ≤ 140737488351232)
    (w1 : (a1 = none ∧ len1 = 0 ∧ cap1 = 0 ∧ z1 = []) ∨ ∃ x, a1 = some x ∧ len1 ≤ cap1 ∧ cap1 ≤ maxLen ∧ z1.length = cap1 ∧ (∀ i, i < z1.length → w.cell? (x.add i) = some (.int .i64 (z1.getD i 0))) ∧ ∀ n ∈ z1, (Lit.int .i64 n).wf = true) (y1 : len1 * 8 ≤ 140737488351232)
    (wm : (Lit.int .i64 m).wf = true) (hl4 : len4 ≤ cap4) (hm4 : cap4 ≤ maxLen) (hc4 : 0 < len4 → ∃ ad, a4 = some ad ∧ ∀ i, i < len4 → w.cell? (ad.add (i * 3)) = some (.int .i64 (f i).1) ∧ w.cell? (ad.add (i * 3 + 1)) = some (.int .i64 (f i).2.1) ∧ w.cell? (ad.add (i * 3 + 2)) = some (.int .i64 (f i).2.2))
    (hw4 : ∀ i, i < len4 → (Lit.int .i64 (f i).1).wf = true ∧ (Lit.int .i64 (f i).2.1).wf = true ∧ (Lit.int .i64 (f i).2.2).wf = true) :
    Calls Try.prog 4 #[.slice a0 len0 cap0, .slice a1 len1 cap1, .bool b, .int .i64 m, .slice a4 len4 cap4] w fun e w' => e = .returned (.bool true) ∧ Below w.heap.size w w' := by
  obtain ⟨l0, rfl, hr0, hm0, hw0, hc0⟩ := ReadsInt.ofRowC w0
  obtain ⟨l1, rfl, hr1, hm1, hw1, hc1⟩ := ReadsInt.ofRowC w1
  have hC := smps_C (f := f) hl4 hm4 hc4
  have hlen := smps_len f len4
  have hwf : ∀ x ∈ smps f len4, (Lit.int .i64 x.f0).wf = true ∧ (Lit.int .i64 x.f1.f0).wf = true ∧ (Lit.int .i64 x.f1.f1).wf = true := by
    intro x hx
    unfold smps at hx
    obtain ⟨i, hi, rfl⟩ := List.mem_map.1 hx
    exact hw4 i (List.mem_range.1 hi)
  generalize smps f len4 = l4 at hC hlen hwf
  subst hlen
  obtain ⟨i0, hi0, _, hsz, _⟩ := info_parts info26
  by_cases h6 : 6 < l4.length
  · have e6 : (l4.take 6).length = 6 := by rw [List.length_take]; omega
    obtain ⟨k, s, q, e1, e2, e3, e4, e5, e7⟩ := P l0 l1 b m (l4.take 6) hw0 hw1 wm (by omega) (fun x hx => hwf x (List.mem_of_mem_take hx))
    have hcut := cut_to (P := Try.prog) 27 26 .i64 Try.underlying27 hi0 a4 l4.length cap4 6 (by omega) (by omega) hl4
    exact rateTells_at k _ _ l0 _ _ l1 b m q a4 cap4 l4 (l4.take 6) s w (Kd.C_of_reads (d := (0 : Int)) (h1 := fun _ => rfl) hr0) hc0 (Kd.C_of_reads (d := (0 : Int)) (h1 := fun _ => rfl) hr1) hc1 (Kd.C_take hC (by omega)) (by omega) (Or.inl ⟨decide_eq_true h6, by rw [e6]; exact hcut⟩) e1 e2 e3 e4 e5 e7
  · obtain ⟨k, s, q, e1, e2, e3, e4, e5, e7⟩ := P l0 l1 b m l4 hw0 hw1 wm (by omega) hwf
    exact rateTells_at k _ _ l0 _ _ l1 b m q a4 cap4 l4 l4 s w (Kd.C_of_reads (d := (0 : Int)) (h1 := fun _ => rfl) hr0) hc0 (Kd.C_of_reads (d := (0 : Int)) (h1 := fun _ => rfl) hr1) hc1 hC hl4 (Or.inr ⟨decide_eq_false h6, rfl⟩) e1 e2 e3 e4 e5 e7
end Go.Proofs.Ytlmcnlaopolinaa.PRateTells

/- RowkeyNumbers: chapter 14's runs are as they are told, reckoned over the plain functions. No condition beyond the statement's own. -/
import Derived.Test.YtbgghcifpephgaaPRowkeyTellsx11
import Derived.Test.YtbgghcifpephgaaPureRowkeyTells
namespace Go.Proofs.Ytbgghcifpephgaa.Pure
open Go.RowKit Go.Proofs.Ytbgghcifpephgaa.PRowkeyTells Go.Proofs.YtbgghcifpephgaaW.PrintWords Go.Proofs.YtbgghcifpephgaaW.PrintLast
set_option linter.unusedVariables false
set_option linter.unusedSimpArgs false

/-! ### RowkeyNumbers: chapter 14's runs -/
theorem ev_all {P : Nat → Nat → Prop} : ∀ n : Nat, (∀ h, h < n → ∃ K, ∀ k, K ≤ k → P k h) → ∃ K, ∀ k, K ≤ k → ∀ h, h < n → P k h
  | 0, _ => ⟨0, fun _ _ h hh => absurd hh (Nat.not_lt_zero h)⟩
  | n + 1, H => by
    obtain ⟨K1, h1⟩ := ev_all n (fun h hh => H h (by omega))
    obtain ⟨K2, h2⟩ := H n (by omega)
    refine ⟨K1 + K2, fun k hk h hh => ?_⟩
    by_cases e : h = n
    · subst e; exact h2 k (by omega)
    · exact h1 k (by omega) h (by omega)
theorem rn_same : ∀ h, h < 14 → ∃ s, rowkey_Same.f 20 (rnM h) (rnB h) (rnT h) 258 7200 rnGood = some s ∧ marigraphref14_Same.f 20 (rnM h) (rnB h) (rnT h) 258 7200 rnGood = some s := by
  have e : ∀ h, h < 14 → rowkey_Same.f 20 (rnM h) (rnB h) (rnT h) 258 7200 rnGood = marigraphref14_Same.f 20 (rnM h) (rnB h) (rnT h) 258 7200 rnGood ∧ (rowkey_Same.f 20 (rnM h) (rnB h) (rnT h) 258 7200 rnGood).isSome = true := by decide +kernel
  intro h hh
  obtain ⟨e1, e2⟩ := e h hh
  obtain ⟨s, hs⟩ := Option.isSome_iff_exists.1 e2
  exact ⟨s, hs, by rw [← e1]; exact hs⟩
theorem rn_may : MayR 258 7200 rnGood := ⟨by decide, by decide, by decide, ⟨by decide, by decide, by decide, by decide, trivial⟩⟩
theorem RowkeyNumbers : ∃ (k : Nat) (x pp : List Int), (∀ h, h < 14 → rnP k h) ∧ marigraphref14_Encode.f k 258 7200 rnGood = some x ∧ x.length < 1000 ∧
    (∀ n, n ≤ x.length → marigraphlaw14_decodes.f k (x.take n) = some true ∧ marigraphlaw14_decodes.f k (x ++ x.take n) = some true) ∧
    rowkey_Prefix.f k (-1) 16777221 4294967303 = some pp ∧ (strOfNums pp).toList = [255, 0, 0, 5, 0, 0, 0, 7] ∧ marigraphlaw14_known.f k = some true := by
  obtain ⟨K1, g1⟩ := ev_all (P := rnP) 14 (fun h hh => by
    obtain ⟨K, hK⟩ := encodes_tells (rnM h) (rnB h) (rnT h)
    obtain ⟨s, s1, s2⟩ := rn_same h hh
    obtain ⟨K2, hK2⟩ := Ev.of (g := fun k => rowkey_Same.f k (rnM h) (rnB h) (rnT h) 258 7200 rnGood) (fun k => rowkey_Same.mono _ _ _ _ _ _ k) s1
    obtain ⟨K3, hK3⟩ := Ev.of (g := fun k => marigraphref14_Same.f k (rnM h) (rnB h) (rnT h) 258 7200 rnGood) (fun k => marigraphref14_Same.mono _ _ _ _ _ _ k) s2
    exact ⟨K + K2 + K3, fun k hk => ⟨hK k (by omega), s, hK2 k (by omega), hK3 k (by omega)⟩⟩)
  obtain ⟨K2, g2⟩ := REncode_tells rn_may
  have hx := key_byt (saltI 258 7200 rnGood) 258 7200 rnGood
  have hxl := key_len (saltI 258 7200 rnGood) 258 7200 rnGood
  have hn : rnGood.length = 2 := rfl
  rw [hn] at hxl
  generalize key (saltI 258 7200 rnGood) 258 7200 rnGood = x at *
  obtain ⟨K3, g3⟩ := ev_all (P := fun k n => marigraphlaw14_decodes.f k (x.take n) = some true ∧ marigraphlaw14_decodes.f k (x ++ x.take n) = some true) (x.length + 1) (fun n hn => by
    have ht : Byt (x.take n) := fun y hy => hx y (List.mem_of_mem_take hy)
    obtain ⟨K, hK⟩ := decodes_tells ht (by rw [List.length_take]; omega)
    obtain ⟨K', hK'⟩ := decodes_tells (hx.append ht) (by rw [List.length_append, List.length_take]; omega)
    exact ⟨K + K', fun k hk => ⟨hK k (by omega), hK' k (by omega)⟩⟩)
  obtain ⟨K4, g4⟩ := Ev.of (g := fun k => rowkey_Prefix.f k (-1) 16777221 4294967303) (fun k => rowkey_Prefix.mono _ _ _ k) (k := 20) (r := [255, 0, 0, 5, 0, 0, 0, 7]) (by decide +kernel)
  obtain ⟨K5, g5⟩ := known_ev
  exact ⟨K1 + K2 + K3 + K4 + K5, x, _, g1 _ (by omega), g2 _ (by omega), by omega, fun n hn => g3 _ (by omega) n (by omega), g4 _ (by omega), by decide +kernel, g5 _ (by omega)⟩

end Go.Proofs.Ytbgghcifpephgaa.Pure

/- The walk of the Go functions that a law reaches, told as plain functions; a program of this session has written it. No condition beyond the statement's own. -/
import Derived.Test.YtlmhgjnlbokceaaPDownTellsx0
import Derived.Test.YtlmhgjnlbokceaaPDownTellsx3
import Derived.Test.YtlmhgjnlbokceaaPDownTellsx5
import Derived.Test.YtlmhgjnlbokceaaPDownTellsx7
import Derived.Test.YtlmhgjnlbokceaaPDownTellsx8
namespace Go.Proofs.Ytlmhgjnlbokceaa.PDownTells
open Go.RowKit Go.Proofs.YtlmhgjnlbokceaaW.PrintWords Go.Proofs.YtlmhgjnlbokceaaW.PrintLast Go.Proofs.YtlmhgjnlbokceaaW.PrintMore
attribute [local go_sem] max2_int min2_int max_two min_two max_three min_three max_four min_four   -- for this text's walks alone
set_option linter.unusedVariables false
set_option linter.unusedSimpArgs false

/-! ### fold_Do: function 24 -/
/-! ### slices.IndexFunc of fold.Do's closure (a number that isn't right) -/
set_option maxHeartbeats 8000000
set_option maxRecDepth 100000
def badI (k : Nat) : List S29 → Option Bool
  | [] => some false
  | x :: l => (fold_Do_1.f k x.f0 x.f1).bind fun t => if t = true then some true else badI k l
theorem index_calls (k : Nat) (A0 : Option Addr) (c0 : Nat) (l0 : List S29) (b : Bool) (w : World) (hr0 : Kd.C k29 w A0 l0.length l0) (hc0 : l0.length ≤ c0) (hl : l0.length < 4611686014132420609) (h : badI k l0 = some b) :
    Calls Try.prog 39 #[.slice A0 l0.length c0, .func (.func 33) #[] #[]] w fun e w' => (∃ i : Int, e = .returned (.int .i64 i) ∧ (0 ≤ i ↔ b = true)) ∧ Below w.heap.size w w' := by
  have hu_ := Try.underlying29
  have HB := Below.refl w.heap.size w
  go_enter Try.func39, Try.ntmps39
  go_wp2
  go_loopg [8] (l0.length + 1) (fun kq v8 w' => ∃ j : Nat, v8 = .int .i64 (j : Int) ∧ Aside0 (l0.length - j < kq ∧ j ≤ l0.length) ∧ Aside0 (badI k (l0.drop j) = some b) ∧ Aside0 (Below w.heap.size w w'))
  case atStart => exact ⟨0, rfl, ⟨by omega⟩, ⟨h⟩, ⟨HB⟩⟩
  case round =>
    clear h HB
    obtain ⟨j, rfl, hj, hbad, hb⟩ := hrel
    have hj := hj.out
    have hbad := hbad.out
    have hb := hb.out
    by_cases hlt_ : ¬ j < l0.length
    · have hjl : j = l0.length := by omega
      rw [hjl, List.drop_length] at hbad
      obtain rfl : b = false := (Option.some.inj hbad).symm
      have hd0 : decide ((j : Int) < (l0.length : Int)) = false := decide_eq_false (by omega)
      go_wp2
      repeat (go_quiet (fail); try go_wp2)
      exact ⟨rfl, _, results_tmp (t := 4) rfl _ _ _, ⟨⟨-1, rfl, by simp⟩, hb⟩⟩
    · have hlt : j < l0.length := by omega
      clear hlt_
      obtain ⟨ad, rfl, hx0, hx1⟩ := at_T29 (Kd.C_below hr0 hb) (j : Int) (Int.natCast_nonneg j) (by omega)
      have hrd : rd_T29 l0 (j : Int) = l0[j] := by
        unfold rd_T29
        rw [Int.toNat_natCast, List.getD_eq_getElem?_getD, List.getElem?_eq_getElem hlt]
        rfl
      rw [hrd] at hx0 hx1
      rw [Int.toNat_natCast] at hx0 hx1
      rw [List.drop_eq_getElem_cons hlt, badI] at hbad
      obtain ⟨t, ht, hbad⟩ := Option.bind_eq_some_iff.mp hbad
      have hm3 : l0.length - j < gk := hj.1
      have hm1 : l0.length - (j + 1) < l0.length - j := by omega
      have hnx : wrap64 ((j : Int) + 1) = ((j + 1 : Nat) : Int) := by unfold wrap64; omega
      have hd1 : decide ((j : Int) < (l0.length : Int)) = true := decide_eq_true (by clear hnx; omega)
      cases t with
      | true =>
        rw [if_pos rfl] at hbad
        obtain rfl : b = true := (Option.some.inj hbad).symm
        go_wp2_with (go_at_call 33; refine (fold_Do_1.calls k _ _ true _ ht).mono ?_; rintro e w2 ⟨rfl, hb2⟩)
        repeat (go_quiet (fail); try go_wp2)
        exact ⟨rfl, _, results_tmp (t := 4) rfl _ _ _, ⟨⟨_, rfl, by simp⟩, below_step hb hb2⟩⟩
      | false =>
        rw [if_neg (by decide)] at hbad
        go_wp2_with (go_at_call 33; refine (fold_Do_1.calls k _ _ false _ ht).mono ?_; rintro e w2 ⟨rfl, hb2⟩)
        go_roundg (l0.length - j)
        case measure => exact hm3
        case rel => exact ⟨j + 1, (by first | rfl | exact congrArg (Value.int .i64) (by clear hnx; omega)), ⟨hm1, hlt⟩, ⟨hbad⟩, ⟨below_step hb hb2⟩⟩
theorem contains_calls (k : Nat) (A0 : Option Addr) (c0 : Nat) (l0 : List S29) (b : Bool) (w : World) (hr0 : Kd.C k29 w A0 l0.length l0) (hc0 : l0.length ≤ c0) (hl : l0.length < 4611686014132420609) (h : badI k l0 = some b) :
    Calls Try.prog 32 #[.slice A0 l0.length c0, .func (.func 33) #[] #[]] w fun e w' => e = .returned (.bool b) ∧ Below w.heap.size w w' := by
  go_enter Try.func32, Try.ntmps32
  go_wp2_with (go_at_call 39; refine (index_calls k A0 c0 l0 b _ hr0 hc0 hl h).mono ?_; rintro e w2 ⟨⟨i, rfl, hi⟩, hb2⟩)
  have hd : decide (0 ≤ i) = b := by
    cases b with
    | true => exact decide_eq_true (hi.2 rfl)
    | false => exact decide_eq_false (fun h0 => by have := hi.1 h0; cases this)
  subst hd
  exact ⟨rfl, _, results_tmp rfl _ _ _, ⟨rfl, hb2⟩⟩
/-! ### fold.steps: what is done at each number but the first one -/
theorem pick_calls (f : Nat) (w : World) (hf : f = 42 ∨ f = 44 ∨ f = 45 ∨ f = 46) :
    Calls Try.prog 40 #[.func (.func f) #[] #[]] w fun e w' => ∃ g : Nat, e = .returned (.func (.func 41) #[] #[.pointer (some ⟨g, 0, none⟩)]) ∧ w'.heap[g]? = some (.cells #[.func (.func f) #[] #[]] 67 (0, 0)) ∧ w.heap.size ≤ g ∧ Below w.heap.size w w' := by
  have hmf : ∀ (fn : Fn) (first cap : Array Value) (w : World), (Instr.makeFunc fn first cap).run Try.prog w = .ok (.func fn first cap) w := fun _ _ _ _ => rfl
  have HB := Below.refl w.heap.size w
  go_enter Try.func40, Try.ntmps40
  go_wp2
  exact ⟨rfl, _, results_tmp rfl _ _ _, ⟨w.heap.size, rfl, blk_new _ _, Nat.le_refl _, below_alloc HB _⟩⟩
theorem inner_calls38 (g : Nat) (x y u v : Int) (b : Bool) (w : World) (hg : w.heap[g]? = some (.cells #[.func (.func 42) #[] #[]] 67 (0, 0))) (hf : ∀ w : World, Calls Try.prog 42 #[.agg #[.int .i64 x, .int .i64 y], .agg #[.int .i64 u, .int .i64 v]] w fun e w' => e = .returned (.bool b) ∧ Below w.heap.size w w') :
    Calls Try.prog 41 #[.agg #[.int .i64 x, .int .i64 y], .agg #[.int .i64 u, .int .i64 v], .pointer (some ⟨g, 0, none⟩)] w fun e w' => e = .returned (.tuple #[if b then .agg #[.int .i64 u, .int .i64 v] else .agg #[.int .i64 x, .int .i64 y], .int .i64 0]) ∧ Below w.heap.size w w' := by
  have hu_ := Try.underlying29
  have HB := Below.refl w.heap.size w
  have hg3 := blk_alloc (blk_alloc (blk_alloc hg (Obj.cells #[Value.int .i64 x, Value.int .i64 y] 29)) (Obj.cells #[Value.int .i64 u, Value.int .i64 v] 29)) (Obj.cells #[Value.int .i64 0, Value.int .i64 0] 29)
  have hc : _ = some (Value.func (.func 42) #[] #[]) := (blk_cell hg3 0).trans rfl
  have z1 : (w.alloc (Obj.cells #[Value.int .i64 x, Value.int .i64 y] 29)).heap.size = w.heap.size + 1 := Array.size_push _
  have z2 : ((w.alloc (Obj.cells #[Value.int .i64 x, Value.int .i64 y] 29)).alloc (Obj.cells #[Value.int .i64 u, Value.int .i64 v] 29)).heap.size = w.heap.size + 1 + 1 := by rw [← z1]; exact Array.size_push _
  have p0 := blk_alloc (blk_alloc (blk_new w (Obj.cells #[Value.int .i64 x, Value.int .i64 y] 29)) (Obj.cells #[Value.int .i64 u, Value.int .i64 v] 29)) (Obj.cells #[Value.int .i64 0, Value.int .i64 0] 29)
  have p1 := blk_alloc (blk_new (w.alloc (Obj.cells #[Value.int .i64 x, Value.int .i64 y] 29)) (Obj.cells #[Value.int .i64 u, Value.int .i64 v] 29)) (Obj.cells #[Value.int .i64 0, Value.int .i64 0] 29)
  have p2 := blk_new ((w.alloc (Obj.cells #[Value.int .i64 x, Value.int .i64 y] 29)).alloc (Obj.cells #[Value.int .i64 u, Value.int .i64 v] 29)) (Obj.cells #[Value.int .i64 0, Value.int .i64 0] 29)
  rw [z1] at p1
  rw [z2] at p2
  clear z1 z2 hg3
  go_enter Try.func41, Try.ntmps41
  go_wp2_with (go_at_call 42; refine (hf _).mono ?_; rintro e w2 ⟨rfl, hb2⟩; have q0 := blk_below p0 hb2; have q1 := blk_below p1 hb2; have q2 := blk_below p2 hb2; have c00 : w2.cell? ⟨w.heap.size, 0, none⟩ = some (.int .i64 x) := (blk_cell q0 0).trans rfl; have c01 : w2.cell? ⟨w.heap.size, 1, none⟩ = some (.int .i64 y) := (blk_cell q0 1).trans rfl; have c10 : w2.cell? ⟨w.heap.size + 1, 0, none⟩ = some (.int .i64 u) := (blk_cell q1 0).trans rfl; have c11 : w2.cell? ⟨w.heap.size + 1, 1, none⟩ = some (.int .i64 v) := (blk_cell q1 1).trans rfl; have c20 : w2.cell? ⟨w.heap.size + 1 + 1, 0, none⟩ = some (.int .i64 0) := (blk_cell q2 0).trans rfl; have c21 : w2.cell? ⟨w.heap.size + 1 + 1, 1, none⟩ = some (.int .i64 0) := (blk_cell q2 1).trans rfl; have f20 := blk_frozen q2 0; have f21 := blk_frozen q2 1; have HB2 := below_step (below_alloc (below_alloc (below_alloc HB (Obj.cells #[Value.int .i64 x, Value.int .i64 y] 29)) (Obj.cells #[Value.int .i64 u, Value.int .i64 v] 29)) (Obj.cells #[Value.int .i64 0, Value.int .i64 0] 29)) hb2; clear p0 p1 p2 hb2)
  · have b2 := blk_put (blk_put q2 0 (.int .i64 u) rfl) 1 (.int .i64 v) rfl
    have d0 := (blk_cell b2 0).trans rfl
    have d1 := (blk_cell b2 1).trans rfl
    simp [bodyPost, results, Try.results41, go_sem, d0, d1]
    exact below_set (below_set HB2 (Nat.le_succ_of_le (Nat.le_succ _))) (Nat.le_succ_of_le (Nat.le_succ _))
  · have b2 := blk_put (blk_put q2 0 (.int .i64 x) rfl) 1 (.int .i64 y) rfl
    have d0 := (blk_cell b2 0).trans rfl
    have d1 := (blk_cell b2 1).trans rfl
    simp [bodyPost, results, Try.results41, go_sem, d0, d1]
    exact below_set (below_set HB2 (Nat.le_succ_of_le (Nat.le_succ _))) (Nat.le_succ_of_le (Nat.le_succ _))
  · have b2 := blk_put (blk_put q2 0 (.int .i64 x) rfl) 1 (.int .i64 y) rfl
    have d0 := (blk_cell b2 0).trans rfl
    have d1 := (blk_cell b2 1).trans rfl
    simp [bodyPost, results, Try.results41, go_sem, d0, d1]
    exact below_set (below_set HB2 (Nat.le_succ_of_le (Nat.le_succ _))) (Nat.le_succ_of_le (Nat.le_succ _))
theorem inner_calls40 (g : Nat) (x y u v : Int) (b : Bool) (w : World) (hg : w.heap[g]? = some (.cells #[.func (.func 44) #[] #[]] 67 (0, 0))) (hf : ∀ w : World, Calls Try.prog 44 #[.agg #[.int .i64 x, .int .i64 y], .agg #[.int .i64 u, .int .i64 v]] w fun e w' => e = .returned (.bool b) ∧ Below w.heap.size w w') :
    Calls Try.prog 41 #[.agg #[.int .i64 x, .int .i64 y], .agg #[.int .i64 u, .int .i64 v], .pointer (some ⟨g, 0, none⟩)] w fun e w' => e = .returned (.tuple #[if b then .agg #[.int .i64 u, .int .i64 v] else .agg #[.int .i64 x, .int .i64 y], .int .i64 0]) ∧ Below w.heap.size w w' := by
  have hu_ := Try.underlying29
  have HB := Below.refl w.heap.size w
  have hg3 := blk_alloc (blk_alloc (blk_alloc hg (Obj.cells #[Value.int .i64 x, Value.int .i64 y] 29)) (Obj.cells #[Value.int .i64 u, Value.int .i64 v] 29)) (Obj.cells #[Value.int .i64 0, Value.int .i64 0] 29)
  have hc : _ = some (Value.func (.func 44) #[] #[]) := (blk_cell hg3 0).trans rfl
  have z1 : (w.alloc (Obj.cells #[Value.int .i64 x, Value.int .i64 y] 29)).heap.size = w.heap.size + 1 := Array.size_push _
  have z2 : ((w.alloc (Obj.cells #[Value.int .i64 x, Value.int .i64 y] 29)).alloc (Obj.cells #[Value.int .i64 u, Value.int .i64 v] 29)).heap.size = w.heap.size + 1 + 1 := by rw [← z1]; exact Array.size_push _
  have p0 := blk_alloc (blk_alloc (blk_new w (Obj.cells #[Value.int .i64 x, Value.int .i64 y] 29)) (Obj.cells #[Value.int .i64 u, Value.int .i64 v] 29)) (Obj.cells #[Value.int .i64 0, Value.int .i64 0] 29)
  have p1 := blk_alloc (blk_new (w.alloc (Obj.cells #[Value.int .i64 x, Value.int .i64 y] 29)) (Obj.cells #[Value.int .i64 u, Value.int .i64 v] 29)) (Obj.cells #[Value.int .i64 0, Value.int .i64 0] 29)
  have p2 := blk_new ((w.alloc (Obj.cells #[Value.int .i64 x, Value.int .i64 y] 29)).alloc (Obj.cells #[Value.int .i64 u, Value.int .i64 v] 29)) (Obj.cells #[Value.int .i64 0, Value.int .i64 0] 29)
  rw [z1] at p1
  rw [z2] at p2
  clear z1 z2 hg3
  go_enter Try.func41, Try.ntmps41
  go_wp2_with (go_at_call 44; refine (hf _).mono ?_; rintro e w2 ⟨rfl, hb2⟩; have q0 := blk_below p0 hb2; have q1 := blk_below p1 hb2; have q2 := blk_below p2 hb2; have c00 : w2.cell? ⟨w.heap.size, 0, none⟩ = some (.int .i64 x) := (blk_cell q0 0).trans rfl; have c01 : w2.cell? ⟨w.heap.size, 1, none⟩ = some (.int .i64 y) := (blk_cell q0 1).trans rfl; have c10 : w2.cell? ⟨w.heap.size + 1, 0, none⟩ = some (.int .i64 u) := (blk_cell q1 0).trans rfl; have c11 : w2.cell? ⟨w.heap.size + 1, 1, none⟩ = some (.int .i64 v) := (blk_cell q1 1).trans rfl; have c20 : w2.cell? ⟨w.heap.size + 1 + 1, 0, none⟩ = some (.int .i64 0) := (blk_cell q2 0).trans rfl; have c21 : w2.cell? ⟨w.heap.size + 1 + 1, 1, none⟩ = some (.int .i64 0) := (blk_cell q2 1).trans rfl; have f20 := blk_frozen q2 0; have f21 := blk_frozen q2 1; have HB2 := below_step (below_alloc (below_alloc (below_alloc HB (Obj.cells #[Value.int .i64 x, Value.int .i64 y] 29)) (Obj.cells #[Value.int .i64 u, Value.int .i64 v] 29)) (Obj.cells #[Value.int .i64 0, Value.int .i64 0] 29)) hb2; clear p0 p1 p2 hb2)
  · have b2 := blk_put (blk_put q2 0 (.int .i64 u) rfl) 1 (.int .i64 v) rfl
    have d0 := (blk_cell b2 0).trans rfl
    have d1 := (blk_cell b2 1).trans rfl
    simp [bodyPost, results, Try.results41, go_sem, d0, d1]
    exact below_set (below_set HB2 (Nat.le_succ_of_le (Nat.le_succ _))) (Nat.le_succ_of_le (Nat.le_succ _))
  · have b2 := blk_put (blk_put q2 0 (.int .i64 x) rfl) 1 (.int .i64 y) rfl
    have d0 := (blk_cell b2 0).trans rfl
    have d1 := (blk_cell b2 1).trans rfl
    simp [bodyPost, results, Try.results41, go_sem, d0, d1]
    exact below_set (below_set HB2 (Nat.le_succ_of_le (Nat.le_succ _))) (Nat.le_succ_of_le (Nat.le_succ _))
  · have b2 := blk_put (blk_put q2 0 (.int .i64 x) rfl) 1 (.int .i64 y) rfl
    have d0 := (blk_cell b2 0).trans rfl
    have d1 := (blk_cell b2 1).trans rfl
    simp [bodyPost, results, Try.results41, go_sem, d0, d1]
    exact below_set (below_set HB2 (Nat.le_succ_of_le (Nat.le_succ _))) (Nat.le_succ_of_le (Nat.le_succ _))
theorem inner_calls41 (g : Nat) (x y u v : Int) (b : Bool) (w : World) (hg : w.heap[g]? = some (.cells #[.func (.func 45) #[] #[]] 67 (0, 0))) (hf : ∀ w : World, Calls Try.prog 45 #[.agg #[.int .i64 x, .int .i64 y], .agg #[.int .i64 u, .int .i64 v]] w fun e w' => e = .returned (.bool b) ∧ Below w.heap.size w w') :
    Calls Try.prog 41 #[.agg #[.int .i64 x, .int .i64 y], .agg #[.int .i64 u, .int .i64 v], .pointer (some ⟨g, 0, none⟩)] w fun e w' => e = .returned (.tuple #[if b then .agg #[.int .i64 u, .int .i64 v] else .agg #[.int .i64 x, .int .i64 y], .int .i64 0]) ∧ Below w.heap.size w w' := by
  have hu_ := Try.underlying29
  have HB := Below.refl w.heap.size w
  have hg3 := blk_alloc (blk_alloc (blk_alloc hg (Obj.cells #[Value.int .i64 x, Value.int .i64 y] 29)) (Obj.cells #[Value.int .i64 u, Value.int .i64 v] 29)) (Obj.cells #[Value.int .i64 0, Value.int .i64 0] 29)
  have hc : _ = some (Value.func (.func 45) #[] #[]) := (blk_cell hg3 0).trans rfl
  have z1 : (w.alloc (Obj.cells #[Value.int .i64 x, Value.int .i64 y] 29)).heap.size = w.heap.size + 1 := Array.size_push _
  have z2 : ((w.alloc (Obj.cells #[Value.int .i64 x, Value.int .i64 y] 29)).alloc (Obj.cells #[Value.int .i64 u, Value.int .i64 v] 29)).heap.size = w.heap.size + 1 + 1 := by rw [← z1]; exact Array.size_push _
  have p0 := blk_alloc (blk_alloc (blk_new w (Obj.cells #[Value.int .i64 x, Value.int .i64 y] 29)) (Obj.cells #[Value.int .i64 u, Value.int .i64 v] 29)) (Obj.cells #[Value.int .i64 0, Value.int .i64 0] 29)
  have p1 := blk_alloc (blk_new (w.alloc (Obj.cells #[Value.int .i64 x, Value.int .i64 y] 29)) (Obj.cells #[Value.int .i64 u, Value.int .i64 v] 29)) (Obj.cells #[Value.int .i64 0, Value.int .i64 0] 29)
  have p2 := blk_new ((w.alloc (Obj.cells #[Value.int .i64 x, Value.int .i64 y] 29)).alloc (Obj.cells #[Value.int .i64 u, Value.int .i64 v] 29)) (Obj.cells #[Value.int .i64 0, Value.int .i64 0] 29)
  rw [z1] at p1
  rw [z2] at p2
  clear z1 z2 hg3
  go_enter Try.func41, Try.ntmps41
  go_wp2_with (go_at_call 45; refine (hf _).mono ?_; rintro e w2 ⟨rfl, hb2⟩; have q0 := blk_below p0 hb2; have q1 := blk_below p1 hb2; have q2 := blk_below p2 hb2; have c00 : w2.cell? ⟨w.heap.size, 0, none⟩ = some (.int .i64 x) := (blk_cell q0 0).trans rfl; have c01 : w2.cell? ⟨w.heap.size, 1, none⟩ = some (.int .i64 y) := (blk_cell q0 1).trans rfl; have c10 : w2.cell? ⟨w.heap.size + 1, 0, none⟩ = some (.int .i64 u) := (blk_cell q1 0).trans rfl; have c11 : w2.cell? ⟨w.heap.size + 1, 1, none⟩ = some (.int .i64 v) := (blk_cell q1 1).trans rfl; have c20 : w2.cell? ⟨w.heap.size + 1 + 1, 0, none⟩ = some (.int .i64 0) := (blk_cell q2 0).trans rfl; have c21 : w2.cell? ⟨w.heap.size + 1 + 1, 1, none⟩ = some (.int .i64 0) := (blk_cell q2 1).trans rfl; have f20 := blk_frozen q2 0; have f21 := blk_frozen q2 1; have HB2 := below_step (below_alloc (below_alloc (below_alloc HB (Obj.cells #[Value.int .i64 x, Value.int .i64 y] 29)) (Obj.cells #[Value.int .i64 u, Value.int .i64 v] 29)) (Obj.cells #[Value.int .i64 0, Value.int .i64 0] 29)) hb2; clear p0 p1 p2 hb2)
  · have b2 := blk_put (blk_put q2 0 (.int .i64 u) rfl) 1 (.int .i64 v) rfl
    have d0 := (blk_cell b2 0).trans rfl
    have d1 := (blk_cell b2 1).trans rfl
    simp [bodyPost, results, Try.results41, go_sem, d0, d1]
    exact below_set (below_set HB2 (Nat.le_succ_of_le (Nat.le_succ _))) (Nat.le_succ_of_le (Nat.le_succ _))
  · have b2 := blk_put (blk_put q2 0 (.int .i64 x) rfl) 1 (.int .i64 y) rfl
    have d0 := (blk_cell b2 0).trans rfl
    have d1 := (blk_cell b2 1).trans rfl
    simp [bodyPost, results, Try.results41, go_sem, d0, d1]
    exact below_set (below_set HB2 (Nat.le_succ_of_le (Nat.le_succ _))) (Nat.le_succ_of_le (Nat.le_succ _))
  · have b2 := blk_put (blk_put q2 0 (.int .i64 x) rfl) 1 (.int .i64 y) rfl
    have d0 := (blk_cell b2 0).trans rfl
    have d1 := (blk_cell b2 1).trans rfl
    simp [bodyPost, results, Try.results41, go_sem, d0, d1]
    exact below_set (below_set HB2 (Nat.le_succ_of_le (Nat.le_succ _))) (Nat.le_succ_of_le (Nat.le_succ _))
theorem inner_calls42 (g : Nat) (x y u v : Int) (b : Bool) (w : World) (hg : w.heap[g]? = some (.cells #[.func (.func 46) #[] #[]] 67 (0, 0))) (hf : ∀ w : World, Calls Try.prog 46 #[.agg #[.int .i64 x, .int .i64 y], .agg #[.int .i64 u, .int .i64 v]] w fun e w' => e = .returned (.bool b) ∧ Below w.heap.size w w') :
    Calls Try.prog 41 #[.agg #[.int .i64 x, .int .i64 y], .agg #[.int .i64 u, .int .i64 v], .pointer (some ⟨g, 0, none⟩)] w fun e w' => e = .returned (.tuple #[if b then .agg #[.int .i64 u, .int .i64 v] else .agg #[.int .i64 x, .int .i64 y], .int .i64 0]) ∧ Below w.heap.size w w' := by
  have hu_ := Try.underlying29
  have HB := Below.refl w.heap.size w
  have hg3 := blk_alloc (blk_alloc (blk_alloc hg (Obj.cells #[Value.int .i64 x, Value.int .i64 y] 29)) (Obj.cells #[Value.int .i64 u, Value.int .i64 v] 29)) (Obj.cells #[Value.int .i64 0, Value.int .i64 0] 29)
  have hc : _ = some (Value.func (.func 46) #[] #[]) := (blk_cell hg3 0).trans rfl
  have z1 : (w.alloc (Obj.cells #[Value.int .i64 x, Value.int .i64 y] 29)).heap.size = w.heap.size + 1 := Array.size_push _
  have z2 : ((w.alloc (Obj.cells #[Value.int .i64 x, Value.int .i64 y] 29)).alloc (Obj.cells #[Value.int .i64 u, Value.int .i64 v] 29)).heap.size = w.heap.size + 1 + 1 := by rw [← z1]; exact Array.size_push _
  have p0 := blk_alloc (blk_alloc (blk_new w (Obj.cells #[Value.int .i64 x, Value.int .i64 y] 29)) (Obj.cells #[Value.int .i64 u, Value.int .i64 v] 29)) (Obj.cells #[Value.int .i64 0, Value.int .i64 0] 29)
  have p1 := blk_alloc (blk_new (w.alloc (Obj.cells #[Value.int .i64 x, Value.int .i64 y] 29)) (Obj.cells #[Value.int .i64 u, Value.int .i64 v] 29)) (Obj.cells #[Value.int .i64 0, Value.int .i64 0] 29)
  have p2 := blk_new ((w.alloc (Obj.cells #[Value.int .i64 x, Value.int .i64 y] 29)).alloc (Obj.cells #[Value.int .i64 u, Value.int .i64 v] 29)) (Obj.cells #[Value.int .i64 0, Value.int .i64 0] 29)
  rw [z1] at p1
  rw [z2] at p2
  clear z1 z2 hg3
  go_enter Try.func41, Try.ntmps41
  go_wp2_with (go_at_call 46; refine (hf _).mono ?_; rintro e w2 ⟨rfl, hb2⟩; have q0 := blk_below p0 hb2; have q1 := blk_below p1 hb2; have q2 := blk_below p2 hb2; have c00 : w2.cell? ⟨w.heap.size, 0, none⟩ = some (.int .i64 x) := (blk_cell q0 0).trans rfl; have c01 : w2.cell? ⟨w.heap.size, 1, none⟩ = some (.int .i64 y) := (blk_cell q0 1).trans rfl; have c10 : w2.cell? ⟨w.heap.size + 1, 0, none⟩ = some (.int .i64 u) := (blk_cell q1 0).trans rfl; have c11 : w2.cell? ⟨w.heap.size + 1, 1, none⟩ = some (.int .i64 v) := (blk_cell q1 1).trans rfl; have c20 : w2.cell? ⟨w.heap.size + 1 + 1, 0, none⟩ = some (.int .i64 0) := (blk_cell q2 0).trans rfl; have c21 : w2.cell? ⟨w.heap.size + 1 + 1, 1, none⟩ = some (.int .i64 0) := (blk_cell q2 1).trans rfl; have f20 := blk_frozen q2 0; have f21 := blk_frozen q2 1; have HB2 := below_step (below_alloc (below_alloc (below_alloc HB (Obj.cells #[Value.int .i64 x, Value.int .i64 y] 29)) (Obj.cells #[Value.int .i64 u, Value.int .i64 v] 29)) (Obj.cells #[Value.int .i64 0, Value.int .i64 0] 29)) hb2; clear p0 p1 p2 hb2)
  · have b2 := blk_put (blk_put q2 0 (.int .i64 u) rfl) 1 (.int .i64 v) rfl
    have d0 := (blk_cell b2 0).trans rfl
    have d1 := (blk_cell b2 1).trans rfl
    simp [bodyPost, results, Try.results41, go_sem, d0, d1]
    exact below_set (below_set HB2 (Nat.le_succ_of_le (Nat.le_succ _))) (Nat.le_succ_of_le (Nat.le_succ _))
  · have b2 := blk_put (blk_put q2 0 (.int .i64 x) rfl) 1 (.int .i64 y) rfl
    have d0 := (blk_cell b2 0).trans rfl
    have d1 := (blk_cell b2 1).trans rfl
    simp [bodyPost, results, Try.results41, go_sem, d0, d1]
    exact below_set (below_set HB2 (Nat.le_succ_of_le (Nat.le_succ _))) (Nat.le_succ_of_le (Nat.le_succ _))
  · have b2 := blk_put (blk_put q2 0 (.int .i64 x) rfl) 1 (.int .i64 y) rfl
    have d0 := (blk_cell b2 0).trans rfl
    have d1 := (blk_cell b2 1).trans rfl
    simp [bodyPost, results, Try.results41, go_sem, d0, d1]
    exact below_set (below_set HB2 (Nat.le_succ_of_le (Nat.le_succ _))) (Nat.le_succ_of_le (Nat.le_succ _))
/-- A step, as a function value: rat.Add, or a pick by a test. -/
def IsStep (how : Int) (w : World) (v : Value) : Prop :=
  if how = 2 then ∃ g, v = .func (.func 41) #[] #[.pointer (some ⟨g, 0, none⟩)] ∧ w.heap[g]? = some (.cells #[.func (.func 42) #[] #[]] 67 (0, 0))
  else if how = 3 then ∃ g, v = .func (.func 41) #[] #[.pointer (some ⟨g, 0, none⟩)] ∧ w.heap[g]? = some (.cells #[.func (.func 44) #[] #[]] 67 (0, 0))
  else if how = 6 ∨ how = 5 then ∃ g, v = .func (.func 41) #[] #[.pointer (some ⟨g, 0, none⟩)] ∧ w.heap[g]? = some (.cells #[.func (.func 45) #[] #[]] 67 (0, 0))
  else if how = 7 then ∃ g, v = .func (.func 41) #[] #[.pointer (some ⟨g, 0, none⟩)] ∧ w.heap[g]? = some (.cells #[.func (.func 46) #[] #[]] 67 (0, 0))
  else v = .func (.func 47) #[] #[]
theorem steps_calls2 (w : World) : Calls Try.prog 34 #[.int .i64 2] w fun e w' => ∃ v, e = .returned v ∧ IsStep 2 w' v ∧ Below w.heap.size w w' := by
  have hmf : ∀ (fn : Fn) (first cap : Array Value) (w : World), (Instr.makeFunc fn first cap).run Try.prog w = .ok (.func fn first cap) w := fun _ _ _ _ => rfl
  go_enter Try.func34, Try.ntmps34
  go_wp2_with (go_at_call 40; refine (pick_calls 42 _ (Or.inl rfl)).mono ?_; rintro e w2 ⟨g, rfl, hg, hge, hb⟩)
  exact ⟨rfl, _, results_tmp rfl _ _ _, ⟨_, rfl, by unfold IsStep; exact ⟨g, rfl, hg⟩, hb⟩⟩
theorem steps_calls3 (w : World) : Calls Try.prog 34 #[.int .i64 3] w fun e w' => ∃ v, e = .returned v ∧ IsStep 3 w' v ∧ Below w.heap.size w w' := by
  have hmf : ∀ (fn : Fn) (first cap : Array Value) (w : World), (Instr.makeFunc fn first cap).run Try.prog w = .ok (.func fn first cap) w := fun _ _ _ _ => rfl
  go_enter Try.func34, Try.ntmps34
  go_wp2_with (go_at_call 40; refine (pick_calls 44 _ (Or.inr (Or.inl rfl))).mono ?_; rintro e w2 ⟨g, rfl, hg, hge, hb⟩)
  exact ⟨rfl, _, results_tmp rfl _ _ _, ⟨_, rfl, by unfold IsStep; exact ⟨g, rfl, hg⟩, hb⟩⟩
theorem steps_calls5 (w : World) : Calls Try.prog 34 #[.int .i64 5] w fun e w' => ∃ v, e = .returned v ∧ IsStep 5 w' v ∧ Below w.heap.size w w' := by
  have hmf : ∀ (fn : Fn) (first cap : Array Value) (w : World), (Instr.makeFunc fn first cap).run Try.prog w = .ok (.func fn first cap) w := fun _ _ _ _ => rfl
  go_enter Try.func34, Try.ntmps34
  go_wp2_with (go_at_call 40; refine (pick_calls 45 _ (Or.inr (Or.inr (Or.inl rfl)))).mono ?_; rintro e w2 ⟨g, rfl, hg, hge, hb⟩)
  exact ⟨rfl, _, results_tmp rfl _ _ _, ⟨_, rfl, by unfold IsStep; exact ⟨g, rfl, hg⟩, hb⟩⟩
theorem steps_calls6 (w : World) : Calls Try.prog 34 #[.int .i64 6] w fun e w' => ∃ v, e = .returned v ∧ IsStep 6 w' v ∧ Below w.heap.size w w' := by
  have hmf : ∀ (fn : Fn) (first cap : Array Value) (w : World), (Instr.makeFunc fn first cap).run Try.prog w = .ok (.func fn first cap) w := fun _ _ _ _ => rfl
  go_enter Try.func34, Try.ntmps34
  go_wp2_with (go_at_call 40; refine (pick_calls 45 _ (Or.inr (Or.inr (Or.inl rfl)))).mono ?_; rintro e w2 ⟨g, rfl, hg, hge, hb⟩)
  exact ⟨rfl, _, results_tmp rfl _ _ _, ⟨_, rfl, by unfold IsStep; exact ⟨g, rfl, hg⟩, hb⟩⟩
theorem steps_calls7 (w : World) : Calls Try.prog 34 #[.int .i64 7] w fun e w' => ∃ v, e = .returned v ∧ IsStep 7 w' v ∧ Below w.heap.size w w' := by
  have hmf : ∀ (fn : Fn) (first cap : Array Value) (w : World), (Instr.makeFunc fn first cap).run Try.prog w = .ok (.func fn first cap) w := fun _ _ _ _ => rfl
  go_enter Try.func34, Try.ntmps34
  go_wp2_with (go_at_call 40; refine (pick_calls 46 _ (Or.inr (Or.inr (Or.inr rfl)))).mono ?_; rintro e w2 ⟨g, rfl, hg, hge, hb⟩)
  exact ⟨rfl, _, results_tmp rfl _ _ _, ⟨_, rfl, by unfold IsStep; exact ⟨g, rfl, hg⟩, hb⟩⟩
theorem steps_callsE (how : Int) (w : World) (h2 : how ≠ 2) (h3 : how ≠ 3) (h5 : how ≠ 5) (h6 : how ≠ 6) (h7 : how ≠ 7) : Calls Try.prog 34 #[.int .i64 how] w fun e w' => ∃ v, e = .returned v ∧ IsStep how w' v ∧ Below w.heap.size w w' := by
  have hmf : ∀ (fn : Fn) (first cap : Array Value) (w : World), (Instr.makeFunc fn first cap).run Try.prog w = .ok (.func fn first cap) w := fun _ _ _ _ => rfl
  have HB := Below.refl w.heap.size w
  have e2 : (how == 2) = false := by simp [h2]
  have e3 : (how == 3) = false := by simp [h3]
  have e5 : (how == 5) = false := by simp [h5]
  have e6 : (how == 6) = false := by simp [h6]
  have e7 : (how == 7) = false := by simp [h7]
  go_enter Try.func34, Try.ntmps34
  go_wp2
  exact ⟨rfl, _, results_tmp rfl _ _ _, ⟨_, rfl, by unfold IsStep; rw [if_neg h2, if_neg h3, if_neg (fun h => h.elim h6 h5), if_neg h7]; rfl, HB⟩⟩
theorem steps_calls (how : Int) (w : World) : Calls Try.prog 34 #[.int .i64 how] w fun e w' => ∃ v, e = .returned v ∧ IsStep how w' v ∧ Below w.heap.size w w' := by
  by_cases h2 : how = 2
  · subst h2; exact steps_calls2 w
  by_cases h3 : how = 3
  · subst h3; exact steps_calls3 w
  by_cases h5 : how = 5
  · subst h5; exact steps_calls5 w
  by_cases h6 : how = 6
  · subst h6; exact steps_calls6 w
  by_cases h7 : how = 7
  · subst h7; exact steps_calls7 w
  exact steps_callsE how w h2 h3 h5 h6 h7
/-! ### a step, called -/
set_option maxHeartbeats 8000000
set_option maxRecDepth 100000
def stepF (how : Int) : Option Nat := if how = 2 then some 42 else if how = 3 then some 44 else if how = 6 ∨ how = 5 then some 45 else if how = 7 then some 46 else none
def IsS (f : Option Nat) (w : World) (v : Value) : Prop :=
  match f with
  | some f => ∃ g, v = .func (.func 41) #[] #[.pointer (some ⟨g, 0, none⟩)] ∧ w.heap[g]? = some (.cells #[.func (.func f) #[] #[]] 67 (0, 0))
  | none => v = .func (.func 47) #[] #[]
theorem IsS_of {how : Int} {w : World} {v : Value} (h : IsStep how w v) : IsS (stepF how) w v := by
  unfold IsStep at h
  unfold stepF IsS
  by_cases h2 : how = 2
  · rw [if_pos h2] at h ⊢; exact h
  rw [if_neg h2] at h ⊢
  by_cases h3 : how = 3
  · rw [if_pos h3] at h ⊢; exact h
  rw [if_neg h3] at h ⊢
  by_cases h6 : how = 6 ∨ how = 5
  · rw [if_pos h6] at h ⊢; exact h
  rw [if_neg h6] at h ⊢
  by_cases h7 : how = 7
  · rw [if_pos h7] at h ⊢; exact h
  rw [if_neg h7] at h ⊢; exact h
theorem IsS_heap {f : Option Nat} {w w1 : World} {v : Value} (h : IsS f w v) (k : ∀ (g : Nat) (fv : Value), w.heap[g]? = some (Obj.cells #[fv] 67 (0, 0)) → w1.heap[g]? = some (Obj.cells #[fv] 67 (0, 0))) : IsS f w1 v := by
  cases f with
  | none => exact h
  | some f => obtain ⟨g, hv, hg⟩ := h; exact ⟨g, hv, k g _ hg⟩
theorem IsS_below {f : Option Nat} {w w1 : World} {v : Value} (h : IsS f w v) (hb : Below w.heap.size w w1) : IsS f w1 v := IsS_heap h fun _ _ hg => blk_below hg hb
theorem IsS_alloc {f : Option Nat} {w : World} {v : Value} (h : IsS f w v) (o : Obj) : IsS f (w.alloc o) v := IsS_heap h fun _ _ hg => blk_alloc hg o
theorem IsS_set {f : Option Nat} {w : World} {v u : Value} {g i : Nat} {cs : Array Value} (h : IsS f w v) (hg : w.heap[g]? = some (.cells cs 29 (0, 0))) : IsS f (w.setCell ⟨g, i, none⟩ u) v :=
  IsS_heap h fun g' _ hg' => blk_far (p := ⟨g, i, none⟩) hg' (blk_ne hg' hg (by decide)) u
def pickI (b : Bool) (x y u v : Int) : Int × Int × Int := if b then (u, v, 0) else (x, y, 0)
def stepI (k : Nat) (how x y u v : Int) : Option (Int × Int × Int) :=
  if how = 2 then (fold_steps_2.f k x y u v).bind fun b => some (pickI b x y u v)
  else if how = 3 then (fold_steps_3.f k x y u v).bind fun b => some (pickI b x y u v)
  else if how = 6 ∨ how = 5 then (fold_steps_4.f x y u v).bind fun b => some (pickI b x y u v)
  else if how = 7 then (fold_steps_5.f x y u v).bind fun b => some (pickI b x y u v)
  else rat_Add.f k x y u v
theorem stepI.mono (how x y u v : Int) (k : Nat) : LeO (stepI k how x y u v) (stepI (k + 1) how x y u v) := by
  unfold stepI
  refine LeO.ite (LeO.bind (fold_steps_2.mono _ _ _ _ _) fun _ => LeO.refl _) ?_
  refine LeO.ite (LeO.bind (fold_steps_3.mono _ _ _ _ _) fun _ => LeO.refl _) ?_
  refine LeO.ite (LeO.refl _) ?_
  exact LeO.ite (LeO.refl _) (rat_Add.mono _ _ _ _ _)
theorem pickI_val {b : Bool} {x y u v r1 r2 r3 : Int} (h : pickI b x y u v = (r1, r2, r3)) : (Value.tuple #[if b then .agg #[.int .i64 u, .int .i64 v] else .agg #[.int .i64 x, .int .i64 y], .int .i64 0]) = .tuple #[.agg #[.int .i64 r1, .int .i64 r2], .int .i64 r3] := by
  unfold pickI at h
  cases b <;> (simp at h; obtain ⟨rfl, rfl, rfl⟩ := h; rfl)
/-- A call of the step that a variable holds. -/
theorem step_goes {k : Nat} {how x y u s r1 r2 r3 : Int} {v : Value} {ops : Array Oper} {Q : Exit → Act → World → Prop} {rest : List Oper} {oi : Oper} {a : Act} {w : World} {xs_ : Array Operand} {ts : Array TypeId} {X : Operand} (N : Option Tmp)
    (hv : IsS (stepF how) w v) (h : stepI k how x y u s = some (r1, r2, r3)) (hd : oi.dst = N) (hg : oi.guard = none) (hop : oi.op = .call { callee := .value X, args := xs_, argTypes := ts }) (hX : a.eval X = v) (hargs : xs_.map a.eval = #[.agg #[.int .i64 x, .int .i64 y], .agg #[.int .i64 u, .int .i64 s]])
    (hk : ∀ w1, Below w.heap.size w w1 → wpList Try.prog ops Q rest (a.put N (.tuple #[.agg #[.int .i64 r1, .int .i64 r2], .int .i64 r3])) w1) : wpList Try.prog ops Q (oi :: rest) a w := by
  have key : ∀ (f : FuncId) (args : Array Value), (execOp a.eval oi).run Try.prog w = .ok (.enter f args) w → (Calls Try.prog f args w fun e w' => e = .returned (.tuple #[.agg #[.int .i64 r1, .int .i64 r2], .int .i64 r3]) ∧ Below w.heap.size w w') → wpList Try.prog ops Q (oi :: rest) a w := by
    intro f args hrun hc
    refine wpList_plain hg fun K hK => ?_
    unfold Oper.wp
    rw [hrun, Oper.upon_enter]
    refine hc.mono fun e w'' hh => ?_
    obtain ⟨rfl, hb⟩ := hh
    subst hd
    exact hK _ _ (hk _ hb)
  have pick : ∀ (f : Nat) (g : Nat), v = .func (.func 41) #[] #[.pointer (some ⟨g, 0, none⟩)] → (Calls Try.prog 41 #[.agg #[.int .i64 x, .int .i64 y], .agg #[.int .i64 u, .int .i64 s], .pointer (some ⟨g, 0, none⟩)] w fun e w' => e = .returned (.tuple #[.agg #[.int .i64 r1, .int .i64 r2], .int .i64 r3]) ∧ Below w.heap.size w w') → wpList Try.prog ops Q (oi :: rest) a w := by
    intro f g hv' hc
    refine key 41 _ ?_ hc
    have he := enters_ Try.func41 (by kernel_rfl) rfl #[.agg #[.int .i64 x, .int .i64 y], .agg #[.int .i64 u, .int .i64 s], .pointer (some ⟨g, 0, none⟩)] w
    unfold execOp
    simp [hop, resolve, Deferred.ofValue, invoke, hX, hv', hargs, he]
  unfold stepF at hv
  unfold stepI at h
  by_cases h2 : how = 2
  · rw [if_pos h2] at h hv
    obtain ⟨b, hb, h⟩ := Option.bind_eq_some_iff.mp h
    obtain ⟨g, hv', hg'⟩ := hv
    refine pick 42 g hv' ((inner_calls38 g x y u s b w hg' fun w => fold_steps_2.calls k x y u s b w hb).mono ?_)
    rintro e w' ⟨rfl, hb⟩
    exact ⟨congrArg _ (pickI_val (Option.some.inj h)), hb⟩
  rw [if_neg h2] at h hv
  by_cases h3 : how = 3
  · rw [if_pos h3] at h hv
    obtain ⟨b, hb, h⟩ := Option.bind_eq_some_iff.mp h
    obtain ⟨g, hv', hg'⟩ := hv
    refine pick 44 g hv' ((inner_calls40 g x y u s b w hg' fun w => fold_steps_3.calls k x y u s b w hb).mono ?_)
    rintro e w' ⟨rfl, hb⟩
    exact ⟨congrArg _ (pickI_val (Option.some.inj h)), hb⟩
  rw [if_neg h3] at h hv
  by_cases h6 : how = 6 ∨ how = 5
  · rw [if_pos h6] at h hv
    obtain ⟨b, hb, h⟩ := Option.bind_eq_some_iff.mp h
    obtain ⟨g, hv', hg'⟩ := hv
    refine pick 45 g hv' ((inner_calls41 g x y u s b w hg' fun w => fold_steps_4.calls x y u s b w hb).mono ?_)
    rintro e w' ⟨rfl, hb⟩
    exact ⟨congrArg _ (pickI_val (Option.some.inj h)), hb⟩
  rw [if_neg h6] at h hv
  by_cases h7 : how = 7
  · rw [if_pos h7] at h hv
    obtain ⟨b, hb, h⟩ := Option.bind_eq_some_iff.mp h
    obtain ⟨g, hv', hg'⟩ := hv
    refine pick 46 g hv' ((inner_calls42 g x y u s b w hg' fun w => fold_steps_5.calls x y u s b w hb).mono ?_)
    rintro e w' ⟨rfl, hb⟩
    exact ⟨congrArg _ (pickI_val (Option.some.inj h)), hb⟩
  rw [if_neg h7] at h hv
  refine key 47 #[.agg #[.int .i64 x, .int .i64 y], .agg #[.int .i64 u, .int .i64 s]] ?_ (rat_Add.calls k x y u s r1 r2 r3 w h)
  have hv' : v = .func (.func 47) #[] #[] := hv
  have he := enters_ Try.func47 (by kernel_rfl) rfl #[.agg #[.int .i64 x, .int .i64 y], .agg #[.int .i64 u, .int .i64 s]] w
  unfold execOp
  simp [hop, resolve, Deferred.ofValue, invoke, hX, hv', hargs, he]
def foldI (k : Nat) (how : Int) : List S29 → Int → Int → Option (Int × Int × Int)
  | [], n, d => some (n, d, 0)
  | x :: l, n, d => (stepI k how n d x.f0 x.f1).bind fun r => if r.2.2 = 0 then foldI k how l r.1 r.2.1 else some (0, 0, r.2.2)
def fold_Do.rest (k : Nat) (a0 : Int) (len : Nat) (n d : Int) : Option (Int × Int × Int) :=
  (rat_Of.f k (len : Int)).bind fun q => if q.2.2 = 0 then (if a0 = 5 then some q else (if a0 = 4 then rat_Div.f k n d q.1 q.2.1 else some (n, d, 0))) else some (0, 0, q.2.2)
def fold_Do.f (k : Nat) (a0 : Int) (l1 : List S29) : Option (Int × Int × Int) :=
  if l1.length < 4611686014132420609 then ((fold_Right.f a0).bind fun t => if t = true then (match l1 with
    | [] => some (0, 0, 1)
    | x :: xs => (badI k (x :: xs)).bind fun b => if b = true then some (0, 0, 1) else (foldI k a0 xs x.f0 x.f1).bind fun r => if r.2.2 = 0 then fold_Do.rest k a0 (x :: xs).length r.1 r.2.1 else some (0, 0, r.2.2)) else some (0, 0, 1)) else none
/-- What Do tells. -/
def DoTold (w : World) (r1 r2 r3 : Int) (e : Ending) (w' : World) : Prop := e = .returned (.tuple #[.agg #[.int .i64 r1, .int .i64 r2], .int .i64 r3]) ∧ Below w.heap.size w w'
set_option maxHeartbeats 8000000
set_option maxRecDepth 100000
theorem blk2 {w : World} {g : Nat} {t : TypeId} {x y : Value} (h : w.heap[g]? = some (.cells #[x, y] t (0, 0))) : w.cell? ⟨g, 0, none⟩ = some x ∧ w.cell? ⟨g, 1, none⟩ = some y ∧ w.frozen? ⟨g, 0, none⟩ = false ∧ w.frozen? ⟨g, 1, none⟩ = false :=
  ⟨(blk_cell h 0).trans rfl, (blk_cell h 1).trans rfl, blk_frozen h 0, blk_frozen h 1⟩
theorem do_end {w w' : World} {a : Act} {n d e : Int} (h4 : a.tmps[4]? = some (.pointer (some ⟨w.heap.size, 0, none⟩))) (h5 : a.tmps[5]? = some (.int .i64 e)) (hd : a.defers = []) (hb : w'.heap[w.heap.size]? = some (.cells #[.int .i64 n, .int .i64 d] 29 (0, 0))) (HB : Below w.heap.size w w') :
    bodyPost Try.prog Try.f24 (DoTold w n d e) .ret a w' := by
  obtain ⟨d0, d1, -, -⟩ := blk2 hb
  have hu_ := Try.underlying29
  refine bodyPost_ret (v := .tuple #[.agg #[.int .i64 n, .int .i64 d], .int .i64 e]) ?_ hd ⟨rfl, HB⟩
  have hz4 := h4
  have hz5 := h5
  simp [results, Try.results24, go_sem, h4, h5, d0, d1]
theorem do_wrong (a0 : Int) (A1 : Option Addr) (c1 : Nat) (l1 : List S29) (w : World) (h : fold_Right.f a0 = some false) :
    Calls Try.prog 24 #[.int .i64 a0, .slice A1 l1.length c1] w (DoTold w 0 0 1) := by
  have hu_ := Try.underlying29
  have p0 := blk_new w (Obj.cells #[Value.int .i64 0, Value.int .i64 0] 29)
  have HB := below_alloc (Below.refl w.heap.size w) (Obj.cells #[Value.int .i64 0, Value.int .i64 0] 29)
  go_enter Try.func24, Try.ntmps24
  go_wp2_with (go_at_call 21; go_loud (refine (fold_Right.calls a0 false _ h).mono ?_; rintro e w2 ⟨rfl, ⟨n, rfl⟩⟩; have q0 := blk_drewN p0 n; obtain ⟨c00, c01, f0, f1⟩ := blk2 q0; have HB2 := pw_below_drewN HB n; clear p0 HB))
  refine do_end rfl rfl rfl ?_ ?_
  · exact blk_put (blk_put q0 0 (.int .i64 0) rfl) 1 (.int .i64 0) rfl
  · exact below_set (below_set HB2 (Nat.le_refl _)) (Nat.le_refl _)
theorem do_none (a0 : Int) (A1 : Option Addr) (c1 : Nat) (w : World) (h : fold_Right.f a0 = some true) :
    Calls Try.prog 24 #[.int .i64 a0, .slice A1 0 c1] w (DoTold w 0 0 1) := by
  have hu_ := Try.underlying29
  have p0 := blk_new w (Obj.cells #[Value.int .i64 0, Value.int .i64 0] 29)
  have HB := below_alloc (Below.refl w.heap.size w) (Obj.cells #[Value.int .i64 0, Value.int .i64 0] 29)
  go_enter Try.func24, Try.ntmps24
  go_wp2_with (go_at_call 21; go_loud (refine (fold_Right.calls a0 true _ h).mono ?_; rintro e w2 ⟨rfl, ⟨n, rfl⟩⟩; have q0 := blk_drewN p0 n; obtain ⟨c00, c01, f0, f1⟩ := blk2 q0; have HB2 := pw_below_drewN HB n; clear p0 HB))
  refine do_end rfl rfl rfl ?_ ?_
  · exact blk_put (blk_put q0 0 (.int .i64 0) rfl) 1 (.int .i64 0) rfl
  · exact below_set (below_set HB2 (Nat.le_refl _)) (Nat.le_refl _)
theorem do_bad (k : Nat) (a0 : Int) (A1 : Option Addr) (c1 : Nat) (l1 : List S29) (w : World) (hr1 : Kd.C k29 w A1 l1.length l1) (hc1 : l1.length ≤ c1) (hl : l1.length < 4611686014132420609) (h0 : 0 < l1.length) (h : fold_Right.f a0 = some true) (hbad : badI k l1 = some true) :
    Calls Try.prog 24 #[.int .i64 a0, .slice A1 l1.length c1] w (DoTold w 0 0 1) := by
  have hu_ := Try.underlying29
  have p0 := blk_new w (Obj.cells #[Value.int .i64 0, Value.int .i64 0] 29)
  have HB := below_alloc (Below.refl w.heap.size w) (Obj.cells #[Value.int .i64 0, Value.int .i64 0] 29)
  have hz : ((l1.length : Int) == 0) = false := by simp; intro e; rw [e] at h0; exact absurd h0 (by simp)
  have hz2 : (l1.length == 0) = false := by simp; intro e; rw [e] at h0; exact absurd h0 (by simp)
  go_enter Try.func24, Try.ntmps24
  go_wp2_with (first | (go_at_call 21; go_loud (refine (fold_Right.calls a0 true _ h).mono ?_; rintro e w2 ⟨rfl, ⟨n, rfl⟩⟩)) | (go_at_call 32; go_loud (refine (contains_calls k A1 c1 l1 true _ (Kd.C_drewN (Kd.C_alloc hr1 _) n) hc1 hl hbad).mono ?_; rintro e w3 ⟨rfl, hb⟩; have q0 := blk_below (blk_drewN p0 n) hb; obtain ⟨c00, c01, f0, f1⟩ := blk2 q0; have HB2 := below_step (pw_below_drewN HB n) hb; clear p0 HB hb)))
  refine do_end rfl rfl rfl ?_ ?_
  · exact blk_put (blk_put q0 0 (.int .i64 0) rfl) 1 (.int .i64 0) rfl
  · exact below_set (below_set HB2 (Nat.le_refl _)) (Nat.le_refl _)
set_option maxHeartbeats 8000000
set_option maxRecDepth 100000
/-- How the blocks stand in the loop: what is told, what is folded so far, the step. -/
structure DS (a0 : Int) (g6 : Nat) (v : Value) (w w' : World) (n d : Int) : Prop where
  res : w'.heap[w.heap.size]? = some (.cells #[.int .i64 0, .int .i64 0] 29 (0, 0))
  out : w'.heap[g6]? = some (.cells #[.int .i64 n, .int .i64 d] 29 (0, 0))
  step : IsS (stepF a0) w' v
  below : Below w.heap.size w w'
theorem do_main (k : Nat) (a0 r1 r2 r3 n d e : Int) (ad : Addr) (A2 : Option Addr) (c1 c2 : Nat) (l1 xs : List S29) (x : S29) (w : World) (hr1 : Kd.C k29 w (some ad) l1.length l1) (hc1 : l1.length ≤ c1) (hl : l1.length < 4611686014132420609) (hxl : Aside0 (xs.length < 4611686014132420609)) (h0 : 0 < l1.length)
    (hx : Aside0 (w.cell? ad = some (.int .i64 x.f0) ∧ w.cell? ⟨ad.block, ad.off + 1, none⟩ = some (.int .i64 x.f1))) (had : Aside0 (ad.add 0 = ad)) (hr2 : Kd.C k29 w A2 xs.length xs) (hcut : ∀ W : World, (Instr.slice 43 (.slice (some ad) l1.length c1) (some (.int .i64 1)) none none).run Try.prog W = .ok (.slice A2 xs.length c2) W)
    (hR : fold_Right.f a0 = some true) (hbad : badI k l1 = some false) (hf : foldI k a0 xs x.f0 x.f1 = some (n, d, e)) (h : (if e = 0 then fold_Do.rest k a0 l1.length n d else some (0, 0, e)) = some (r1, r2, r3)) :
    Calls Try.prog 24 #[.int .i64 a0, .slice (some ad) l1.length c1] w (DoTold w r1 r2 r3) := by
  have hu_ := Try.underlying29
  have p0 := blk_new w (Obj.cells #[Value.int .i64 0, Value.int .i64 0] 29)
  have HB := below_alloc (Below.refl w.heap.size w) (Obj.cells #[Value.int .i64 0, Value.int .i64 0] 29)
  have hz : ((l1.length : Int) == 0) = false := by simp; intro e; rw [e] at h0; exact absurd h0 (by simp)
  have hz2 : (l1.length == 0) = false := by simp; intro e; rw [e] at h0; exact absurd h0 (by simp)
  have hf := Aside0.mk hf
  have h := Aside0.mk h
  go_enter Try.func24, Try.ntmps24
  go_wp2_with (first | (go_at_call 21; go_loud (refine (fold_Right.calls a0 true _ hR).mono ?_; rintro e2 w2 ⟨rfl, ⟨nn, rfl⟩⟩)) | (go_at_call 32; go_loud (refine (contains_calls k (some ad) c1 l1 false _ (Kd.C_drewN (Kd.C_alloc hr1 _) nn) hc1 hl hbad).mono ?_; rintro e3 w3 ⟨rfl, hb⟩; have q0 := blk_below (blk_drewN p0 nn) hb; have HB2 := below_step (pw_below_drewN HB nn) hb; clear p0 HB hb)))
  have hS : w3.drew.cell? ad = some (.int .i64 x.f0) ∧ w3.drew.cell? ⟨ad.block, ad.off + 1, none⟩ = some (.int .i64 x.f1) := ⟨cellB (below_drew1 HB2) hx.out.1, cellB (below_drew1 HB2) hx.out.2⟩
  refine start_ (n := 8) (S := fun w' => w'.cell? ad = some (.int .i64 x.f0) ∧ w'.cell? ⟨ad.block, ad.off + 1, none⟩ = some (.int .i64 x.f1)) (ds := [6]) #[false, false, false, false, false, false, false, false] (by kernel_rfl) rfl rfl hS (fun _ => ?_)
  have q0 := blk_drew q0
  have HB2 := below_drew1 HB2
  generalize w3.drew = w4 at q0 HB2 hS ⊢
  have h0i : (0 : Int) < (l1.length : Int) := by omega
  refine pure_ (i := 0) (N := some 26) (v := .slice (some ad) l1.length c1) (a' := ?a0) #[true, false, false, false, false, false, false, false] rfl rfl (by kernel_rfl) (fun _ _ _ h => h) (Or.inl ⟨by rfl, ?y0⟩) ?p0 ?_
  case y0 =>
    intro w'
    go_simp
  case p0 =>
    simp only [Act.put, List.setIfInBounds_toArray, List.set_cons_zero, List.set_cons_succ, i64_w, i32_w]
    rfl
  refine pure_ (i := 1) (N := some 27) (v := .pointer (some ad)) (a' := ?a1) #[true, true, false, false, false, false, false, false] rfl rfl (by kernel_rfl) (fun _ _ _ h => h) (Or.inl ⟨by rfl, ?y1⟩) ?p1 ?_
  case y1 =>
    intro w'
    go_simp
  case p1 =>
    simp only [Act.put, List.setIfInBounds_toArray, List.set_cons_zero, List.set_cons_succ, i64_w, i32_w]
    rfl
  refine take_ (i := 2) (N := some 28) (v := .agg #[.int .i64 x.f0, .int .i64 x.f1]) (a' := ?a2) #[true, true, true, false, false, false, false, false] rfl rfl (by kernel_rfl) (fun _ _ _ h => h) (Or.inl ⟨by rfl, ?y2⟩) hS ?p2 ?_
  case y2 =>
    intro w' hs
    obtain ⟨hs0, hs1⟩ := hs
    go_simp
  case p2 =>
    simp only [Act.put, List.setIfInBounds_toArray, List.set_cons_zero, List.set_cons_succ, i64_w, i32_w]
    rfl
  refine pure_ (i := 3) (N := some 29) (v := .int .i64 a0) (a' := ?a3) #[true, true, true, true, false, false, false, false] rfl rfl (by kernel_rfl) (fun _ _ _ h => h) (Or.inl ⟨by rfl, ?y3⟩) ?p3 ?_
  case y3 =>
    intro w'
    go_simp
  case p3 =>
    simp only [Act.put, List.setIfInBounds_toArray, List.set_cons_zero, List.set_cons_succ, i64_w, i32_w]
    rfl
  refine join_ (σ := Nat × Value) 2 #[true, true, true, true, true, true, false, false] (fun s_ => [(30, s_.2), (6, .pointer (some ⟨s_.1, 0, none⟩))]) (fun s_ w' => w'.heap[w.heap.size]? = some (.cells #[.int .i64 0, .int .i64 0] 29 (0, 0)) ∧ w'.heap[s_.1]? = some (.cells #[.int .i64 0, .int .i64 0] 29 (0, 0)) ∧ s_.1 ≠ w.heap.size ∧ w.heap.size ≤ s_.1 ∧ IsS (stepF a0) w' s_.2 ∧ Below w.heap.size w w') ?_ ?_
  rotate_left
  · intro hCont
    refine two_ (i := 4) (j := 5) (Ni := some 30) (Nj := some 6) #[true, true, true, true, true, false, false, false] #[true, true, true, true, false, true, false, false] rfl rfl rfl rfl (by kernel_rfl) (by decide) (by decide) (fun K hK => ?_) (fun K hK => ?_)
    · refine goes_ Try.func34 (by kernel_rfl) rfl #[.int .i64 a0] (by rfl) rfl rfl (by simp only [List.map_toArray, List.map_cons, List.map_nil]; rfl) ?_
      refine (steps_calls a0 w4).mono ?_
      rintro e5 w5 ⟨v, rfl, hv, hb⟩
      refine ⟨_, rfl, ?_⟩
      have hv := IsS_of hv
      have q1 := blk_below q0 hb
      have HB3 := below_step HB2 hb
      refine hK.out _ _ ⟨cellB HB3 hx.out.1, cellB HB3 hx.out.2⟩ (fun _ => ?_)
      clear hK K
      refine norm_ (a' := ?_) ?_ ?_
      rotate_left
      · show Act.put _ (some 30) _ = _
        simp only [Act.put, List.setIfInBounds_toArray, List.set_cons_zero, List.set_cons_succ, i64_w, i32_w]
        rfl
      refine one_ (i := 5) (N := some 6) #[true, true, true, true, true, true, false, false] rfl rfl (by kernel_rfl) (by decide) (fun K hK => ?_)
      refine box_step ?hg (N := 6) ?hd (cs := #[.int .i64 0, .int .i64 0]) (t := 29) ?hr ?_; (case hd => rfl); (case hg => rfl); (case hr => first | (go_simp; done) | (go_simp; rfl))
      intro g6 hg w6 hbox hb6
      have q2 := blk_below q1 hb6
      have HB4 := below_step HB3 hb6
      refine hK.out _ _ ⟨cellB HB4 hx.out.1, cellB HB4 hx.out.2⟩ (fun _ => ?_)
      clear hK K
      refine norm_ (a' := ?_) ?_ ?_
      rotate_left
      · show Act.put _ (some 6) _ = _
        simp only [Act.put, List.setIfInBounds_toArray, List.set_cons_zero, List.set_cons_succ, i64_w, i32_w]
        rfl
      exact norm_ (by simp only [putAll, Act.put, List.setIfInBounds_toArray, List.set_cons_zero, List.set_cons_succ]) (hCont (g6, v) _ ⟨q2, hbox, Ne.symm (blk_ne1 hg q1), by rw [hg]; exact below_size HB3, IsS_below hv hb6, HB4⟩)
    · refine box_step ?hg2 (N := 6) ?hd2 (cs := #[.int .i64 0, .int .i64 0]) (t := 29) ?hr2 ?_; (case hd2 => rfl); (case hg2 => rfl); (case hr2 => first | (go_simp; done) | (go_simp; rfl))
      intro g6 hg w5 hbox hb6
      have q1 := blk_below q0 hb6
      have HB3 := below_step HB2 hb6
      refine hK.out _ _ ⟨cellB HB3 hx.out.1, cellB HB3 hx.out.2⟩ (fun _ => ?_)
      clear hK K
      refine norm_ (a' := ?_) ?_ ?_
      rotate_left
      · show Act.put _ (some 6) _ = _
        simp only [Act.put, List.setIfInBounds_toArray, List.set_cons_zero, List.set_cons_succ, i64_w, i32_w]
        rfl
      refine one_ (i := 4) (N := some 30) #[true, true, true, true, true, true, false, false] rfl rfl (by kernel_rfl) (by decide) (fun K hK => ?_)
      refine goes_ Try.func34 (by kernel_rfl) rfl #[.int .i64 a0] (by rfl) rfl rfl (by simp only [List.map_toArray, List.map_cons, List.map_nil]; rfl) ?_
      refine (steps_calls a0 w5).mono ?_
      rintro e6 w6 ⟨v, rfl, hv, hb⟩
      refine ⟨_, rfl, ?_⟩
      have hv := IsS_of hv
      have q2 := blk_below q1 hb
      have HB4 := below_step HB3 hb
      refine hK.out _ _ ⟨cellB HB4 hx.out.1, cellB HB4 hx.out.2⟩ (fun _ => ?_)
      clear hK K
      refine norm_ (a' := ?_) ?_ ?_
      rotate_left
      · show Act.put _ (some 30) _ = _
        simp only [Act.put, List.setIfInBounds_toArray, List.set_cons_zero, List.set_cons_succ, i64_w, i32_w]
        rfl
      exact norm_ (by simp only [putAll, Act.put, List.setIfInBounds_toArray, List.set_cons_zero, List.set_cons_succ]) (hCont (g6, v) _ ⟨q2, blk_below hbox hb, Ne.symm (blk_ne1 hg q0), by rw [hg]; exact below_size HB2, hv, HB4⟩)
  rintro ⟨g6, v⟩ w5 ⟨q1, o1, hne, hge, hv, HB3⟩
  clear hS q0 HB2 w4 hbad
  refine norm_ (a' := ?_) ?_ ?_
  rotate_left
  · simp only [putAll, Act.put, List.setIfInBounds_toArray, List.set_cons_zero, List.set_cons_succ]
    rfl
  refine last_ (i := 6) (N := none) #[true, true, true, true, true, true, true, false] rfl rfl (by kernel_rfl) (by decide) (fun K hK => ?_)
  obtain ⟨oc0, oc1, of0, of1⟩ := blk2 o1
  refine skip_ (w1 := (w5.setCell ⟨g6, 0, none⟩ (.int .i64 x.f0)).setCell ⟨g6, 1, none⟩ (.int .i64 x.f1)) (by rfl) rfl ?rn6 ?_
  case rn6 => go_simp
  refine hK.out _ _ ?_
  clear hK K oc0 oc1 of0 of1
  have o2 := blk_put (blk_put o1 0 (.int .i64 x.f0) rfl) 1 (.int .i64 x.f1) rfl
  have q2 := blk_far (p := ⟨g6, 1, none⟩) (blk_far (p := ⟨g6, 0, none⟩) q1 (Ne.symm hne) (.int .i64 x.f0)) (Ne.symm hne) (.int .i64 x.f1)
  have hv2 := IsS_set (i := 1) (u := .int .i64 x.f1) (IsS_set (i := 0) (u := .int .i64 x.f0) hv o1) (blk_put o1 0 (.int .i64 x.f0) rfl)
  have HB4 := below_set (j := 1) (v := .int .i64 x.f1) (below_set (j := 0) (v := .int .i64 x.f0) HB3 hge) hge
  clear q1 o1 hv HB3
  generalize (w5.setCell ⟨g6, 0, none⟩ (.int .i64 x.f0)).setCell ⟨g6, 1, none⟩ (.int .i64 x.f1) = w6 at o2 q2 hv2 HB4 ⊢
  refine pure_ (i := 7) (N := some 7) (v := v) (a' := ?a7) #[true, true, true, true, true, true, true, true] rfl rfl (by kernel_rfl) (fun _ _ _ h => h) (Or.inl ⟨by rfl, ?y7⟩) ?p7 ?_
  case y7 =>
    intro w'
    go_simp
  case p7 =>
    simp only [Act.put, List.setIfInBounds_toArray, List.set_cons_zero, List.set_cons_succ, i64_w, i32_w]
    rfl
  refine done_ (by kernel_rfl) ?_
  go_wp2
  have hDS : DS a0 g6 v w w6 x.f0 x.f1 := ⟨q2, o2, hv2, HB4⟩
  clear q2 o2 hv2 HB4 hx had hr1 hcut hz hz2 hl hc1 hR
  go_loopg [34] (xs.length + 1) (fun kq v34 w' => ∃ (j : Nat) (cn cd : Int), v34 = .int .i64 (j : Int) ∧ Aside0 (xs.length - j < kq ∧ j ≤ xs.length) ∧ Aside0 (foldI k a0 (xs.drop j) cn cd = some (n, d, e)) ∧ Aside0 (DS a0 g6 v w w' cn cd))
  case atStart => exact ⟨0, x.f0, x.f1, rfl, ⟨by omega⟩, hf, ⟨hDS⟩⟩
  case round =>
    clear hDS hf
    obtain ⟨j, cn, cd, rfl, hj, hfo, hds⟩ := hrel
    have hj := hj.out
    have hfo := hfo.out
    obtain ⟨q0, o0, hv, HB⟩ := hds.out
    clear hds
    by_cases hlt_ : ¬ j < xs.length
    · have hjl : j = xs.length := by omega
      rw [hjl, List.drop_length] at hfo
      unfold foldI at hfo
      obtain ⟨rfl, rfl, rfl⟩ : cn = n ∧ cd = d ∧ 0 = e := by simpa using hfo
      have h := h.out
      rw [if_pos rfl] at h
      unfold fold_Do.rest at h
      obtain ⟨⟨t1, t2, t3⟩, ht, h⟩ := Option.bind_eq_some_iff.mp h
      have hd0 : decide ((j : Int) < (xs.length : Int)) = false := decide_eq_false (by omega)
      have hd1 : decide (j < xs.length) = false := decide_eq_false (by omega)
      clear hfo hjl
      have hne' := Ne.symm hne
      by_cases ht3 : t3 = 0
      · subst ht3
        replace h : (if a0 = 5 then some (t1, t2, (0 : Int)) else (if a0 = 4 then rat_Div.f k cn cd t1 t2 else some (cn, cd, 0))) = some (r1, r2, r3) := by simpa using h
        by_cases h5 : a0 = 5
        · subst h5
          obtain ⟨rfl, rfl, rfl⟩ : t1 = r1 ∧ t2 = r2 ∧ 0 = r3 := by simpa using h
          clear h
          go_wp2_with (first | (go_at_call 35; go_loud ((with_reducible refine (rat_Of.calls k (l1.length : Int) t1 t2 _ _ ht).mono ?_); rintro e7 w7 ⟨rfl, hb⟩; have o1 := blk_below o0 hb; have q1 := blk_below q0 hb; have HB1 := below_step HB hb; clear hb o0 q0 HB)) | ((with_reducible refine gate_dst (N := 11) rfl ?_); refine box_event ?hg (N := 11) ?hd (cs := #[.int .i64 0, .int .i64 0]) (t := 29) ?hr ?_; (case hd => rfl); (case hg => rfl); (case hr => first | (go_simp; done) | (go_simp; rfl)); intro g9 hg w9 hbox hb; have o2 := blk_below o1 hb; have q2 := blk_below q1 hb; have HB2 := below_step HB1 hb; have hn1 : g6 ≠ g9 := blk_ne1 hg o1; have hn1' := Ne.symm hn1; have hn2 : w.heap.size ≠ g9 := blk_ne1 hg q1; have hn2' := Ne.symm hn2; have hge9 : w.heap.size ≤ g9 := (by rw [hg]; exact below_size HB1); obtain ⟨oc0, oc1, of0, of1⟩ := blk2 o2; obtain ⟨bc0, bc1, bf0, bf1⟩ := blk2 hbox; obtain ⟨qc0, qc1, qf0, qf1⟩ := blk2 q2; have o3 := blk_far (p := ⟨g9, 1, none⟩) (blk_far (p := ⟨g9, 0, none⟩) o2 hn1 (.int .i64 t1)) hn1 (.int .i64 t2); have q3 := blk_far (p := ⟨g9, 1, none⟩) (blk_far (p := ⟨g9, 0, none⟩) q2 hn2 (.int .i64 t1)) hn2 (.int .i64 t2); have HB3 := below_set (j := 1) (v := .int .i64 t2) (below_set (j := 0) (v := .int .i64 t1) HB2 hge9) hge9; clear hb hg o1 q1 HB1))
          refine do_end rfl rfl rfl ?_ ?_
          · exact blk_put (blk_put q3 0 (.int .i64 t1) rfl) 1 (.int .i64 t2) rfl
          · exact below_set (below_set HB3 (Nat.le_refl _)) (Nat.le_refl _)
        · rw [if_neg h5] at h
          have h5b : (a0 == 5) = false := by simpa using h5
          by_cases h4 : a0 = 4
          · rw [if_pos h4] at h
            have h4b : (a0 == 4) = true := by simpa using h4
            have hdiv := Aside0.mk h
            clear h4 h
            go_wp2_with (first | (go_at_call 35; go_loud ((with_reducible refine (rat_Of.calls k (l1.length : Int) t1 t2 _ _ ht).mono ?_); rintro e7 w7 ⟨rfl, hb⟩; have o1 := blk_below o0 hb; have q1 := blk_below q0 hb; have HB1 := below_step HB hb; clear hb o0 q0 HB)) | ((with_reducible refine gate_dst (N := 11) rfl ?_); refine box_event ?hg (N := 11) ?hd (cs := #[.int .i64 0, .int .i64 0]) (t := 29) ?hr ?_; (case hd => rfl); (case hg => rfl); (case hr => first | (go_simp; done) | (go_simp; rfl)); intro g9 hg w9 hbox hb; have o2 := blk_below o1 hb; have q2 := blk_below q1 hb; have HB2 := below_step HB1 hb; have hn1 : g6 ≠ g9 := blk_ne1 hg o1; have hn1' := Ne.symm hn1; have hn2 : w.heap.size ≠ g9 := blk_ne1 hg q1; have hn2' := Ne.symm hn2; have hge9 : w.heap.size ≤ g9 := (by rw [hg]; exact below_size HB1); obtain ⟨oc0, oc1, of0, of1⟩ := blk2 o2; obtain ⟨bc0, bc1, bf0, bf1⟩ := blk2 hbox; obtain ⟨qc0, qc1, qf0, qf1⟩ := blk2 q2; have o3 := blk_far (p := ⟨g9, 1, none⟩) (blk_far (p := ⟨g9, 0, none⟩) o2 hn1 (.int .i64 t1)) hn1 (.int .i64 t2); have q3 := blk_far (p := ⟨g9, 1, none⟩) (blk_far (p := ⟨g9, 0, none⟩) q2 hn2 (.int .i64 t1)) hn2 (.int .i64 t2); have HB3 := below_set (j := 1) (v := .int .i64 t2) (below_set (j := 0) (v := .int .i64 t1) HB2 hge9) hge9; clear hb hg o1 q1 HB1) | (go_at_call 36; go_loud ((with_reducible refine (rat_Div.calls k cn cd t1 t2 r1 r2 r3 _ hdiv.out).mono ?_); rintro e10 w10 ⟨rfl, hb⟩; have q4 := blk_below q3 hb; have HB4 := below_step HB3 hb; obtain ⟨qc0, qc1, qf0, qf1⟩ := blk2 q4; clear hb)))
            refine do_end rfl rfl rfl ?_ ?_
            · exact blk_put (blk_put q4 0 (.int .i64 r1) rfl) 1 (.int .i64 r2) rfl
            · exact below_set (below_set HB4 (Nat.le_refl _)) (Nat.le_refl _)
          · rw [if_neg h4] at h
            obtain ⟨rfl, rfl, rfl⟩ : cn = r1 ∧ cd = r2 ∧ 0 = r3 := by simpa using h
            have h4b : (a0 == 4) = false := by simpa using h4
            clear h
            go_wp2_with (first | (go_at_call 35; go_loud ((with_reducible refine (rat_Of.calls k (l1.length : Int) t1 t2 _ _ ht).mono ?_); rintro e7 w7 ⟨rfl, hb⟩; have o1 := blk_below o0 hb; have q1 := blk_below q0 hb; have HB1 := below_step HB hb; clear hb o0 q0 HB)) | ((with_reducible refine gate_dst (N := 11) rfl ?_); refine box_event ?hg (N := 11) ?hd (cs := #[.int .i64 0, .int .i64 0]) (t := 29) ?hr ?_; (case hd => rfl); (case hg => rfl); (case hr => first | (go_simp; done) | (go_simp; rfl)); intro g9 hg w9 hbox hb; have o2 := blk_below o1 hb; have q2 := blk_below q1 hb; have HB2 := below_step HB1 hb; have hn1 : g6 ≠ g9 := blk_ne1 hg o1; have hn1' := Ne.symm hn1; have hn2 : w.heap.size ≠ g9 := blk_ne1 hg q1; have hn2' := Ne.symm hn2; have hge9 : w.heap.size ≤ g9 := (by rw [hg]; exact below_size HB1); obtain ⟨oc0, oc1, of0, of1⟩ := blk2 o2; obtain ⟨bc0, bc1, bf0, bf1⟩ := blk2 hbox; obtain ⟨qc0, qc1, qf0, qf1⟩ := blk2 q2; have o3 := blk_far (p := ⟨g9, 1, none⟩) (blk_far (p := ⟨g9, 0, none⟩) o2 hn1 (.int .i64 t1)) hn1 (.int .i64 t2); have q3 := blk_far (p := ⟨g9, 1, none⟩) (blk_far (p := ⟨g9, 0, none⟩) q2 hn2 (.int .i64 t1)) hn2 (.int .i64 t2); have HB3 := below_set (j := 1) (v := .int .i64 t2) (below_set (j := 0) (v := .int .i64 t1) HB2 hge9) hge9; clear hb hg o1 q1 HB1))
            refine do_end rfl rfl rfl ?_ ?_
            · exact blk_put (blk_put q3 0 (.int .i64 cn) rfl) 1 (.int .i64 cd) rfl
            · exact below_set (below_set HB3 (Nat.le_refl _)) (Nat.le_refl _)
      · replace h : some ((0 : Int), (0 : Int), t3) = some (r1, r2, r3) := by simpa [ht3] using h
        obtain ⟨rfl, rfl, rfl⟩ : 0 = r1 ∧ 0 = r2 ∧ t3 = r3 := by simpa using h
        have ht3b : (t3 == 0) = false := by simpa using ht3
        have ht3c : (t3 != 0) = true := by simpa using ht3
        clear h
        go_wp2_with (first | (go_at_call 35; go_loud ((with_reducible refine (rat_Of.calls k (l1.length : Int) t1 t2 _ _ ht).mono ?_); rintro e7 w7 ⟨rfl, hb⟩; have o1 := blk_below o0 hb; have q1 := blk_below q0 hb; have HB1 := below_step HB hb; clear hb o0 q0 HB)) | ((with_reducible refine gate_dst (N := 11) rfl ?_); refine box_event ?hg (N := 11) ?hd (cs := #[.int .i64 0, .int .i64 0]) (t := 29) ?hr ?_; (case hd => rfl); (case hg => rfl); (case hr => first | (go_simp; done) | (go_simp; rfl)); intro g9 hg w9 hbox hb; have o2 := blk_below o1 hb; have q2 := blk_below q1 hb; have HB2 := below_step HB1 hb; have hn1 : g6 ≠ g9 := blk_ne1 hg o1; have hn1' := Ne.symm hn1; have hn2 : w.heap.size ≠ g9 := blk_ne1 hg q1; have hn2' := Ne.symm hn2; have hge9 : w.heap.size ≤ g9 := (by rw [hg]; exact below_size HB1); obtain ⟨oc0, oc1, of0, of1⟩ := blk2 o2; obtain ⟨bc0, bc1, bf0, bf1⟩ := blk2 hbox; obtain ⟨qc0, qc1, qf0, qf1⟩ := blk2 q2; have o3 := blk_far (p := ⟨g9, 1, none⟩) (blk_far (p := ⟨g9, 0, none⟩) o2 hn1 (.int .i64 t1)) hn1 (.int .i64 t2); have q3 := blk_far (p := ⟨g9, 1, none⟩) (blk_far (p := ⟨g9, 0, none⟩) q2 hn2 (.int .i64 t1)) hn2 (.int .i64 t2); have HB3 := below_set (j := 1) (v := .int .i64 t2) (below_set (j := 0) (v := .int .i64 t1) HB2 hge9) hge9; clear hb hg o1 q1 HB1))
        refine do_end rfl rfl rfl ?_ ?_
        · exact blk_put (blk_put q3 0 (.int .i64 0) rfl) 1 (.int .i64 0) rfl
        · exact below_set (below_set HB3 (Nat.le_refl _)) (Nat.le_refl _)
    · have hlt : j < xs.length := by omega
      clear hlt_
      obtain ⟨ad', rfl, hx0, hx1⟩ := at_T29 (Kd.C_below hr2 HB) (j : Int) (Int.natCast_nonneg j) (by omega)
      have hrd : rd_T29 xs (j : Int) = xs[j] := by
        unfold rd_T29
        rw [Int.toNat_natCast, List.getD_eq_getElem?_getD, List.getElem?_eq_getElem hlt]
        rfl
      rw [hrd] at hx0 hx1
      rw [Int.toNat_natCast] at hx0 hx1
      rw [List.drop_eq_getElem_cons hlt, foldI] at hfo
      generalize xs[j] = y at hx0 hx1 hfo
      obtain ⟨⟨t1, t2, t3⟩, ht, hfo⟩ := Option.bind_eq_some_iff.mp hfo
      have hm3 : xs.length - j < gk := hj.1
      have hm1 : xs.length - (j + 1) < xs.length - j := by omega
      have hnx := Aside0.mk (show wrap64 ((j : Int) + 1) = ((j + 1 : Nat) : Int) by have := hxl.out; unfold wrap64; omega)
      have hd1 : decide ((j : Int) < (xs.length : Int)) = true := decide_eq_true (by omega)
      have hd2 : decide (j < xs.length) = true := decide_eq_true (by omega)
      clear hrd hr2
      by_cases ht3 : t3 = 0
      · subst ht3
        replace hfo : foldI k a0 (xs.drop (j + 1)) t1 t2 = some (n, d, e) := by simpa using hfo
        have hne' := Ne.symm hne
        go_wp2_with (first | ((with_reducible refine gate_dst (N := 9) rfl ?_); refine box_event ?hg (N := 9) ?hd (cs := #[.int .i64 0, .int .i64 0]) (t := 29) ?hr ?_; (case hd => rfl); (case hg => rfl); (case hr => first | (go_simp; done) | (go_simp; rfl)); intro g9 hg w7 hbox hb; have o1 := blk_below o0 hb; have q1 := blk_below q0 hb; have hv1 := IsS_below hv hb; have HB1 := below_step HB hb; have hn1 : g6 ≠ g9 := blk_ne1 hg o0; have hn1' := Ne.symm hn1; have hn2 : w.heap.size ≠ g9 := blk_ne1 hg q0; have hn2' := Ne.symm hn2; have hge9 : w.heap.size ≤ g9 := (by rw [hg]; exact below_size HB); obtain ⟨oc0, oc1, of0, of1⟩ := blk2 o1; obtain ⟨bc0, bc1, bf0, bf1⟩ := blk2 hbox; have o2 := blk_far (p := ⟨g9, 1, none⟩) (blk_far (p := ⟨g9, 0, none⟩) o1 hn1 (.int .i64 y.f0)) hn1 (.int .i64 y.f1); have q2 := blk_far (p := ⟨g9, 1, none⟩) (blk_far (p := ⟨g9, 0, none⟩) q1 hn2 (.int .i64 y.f0)) hn2 (.int .i64 y.f1); have hv2 := IsS_set (i := 1) (u := .int .i64 y.f1) (IsS_set (i := 0) (u := .int .i64 y.f0) hv1 hbox) (blk_put hbox 0 (.int .i64 y.f0) rfl); have HB2 := below_set (j := 1) (v := .int .i64 y.f1) (below_set (j := 0) (v := .int .i64 y.f0) HB1 hge9) hge9; clear hb hg o0 q0 hv HB) | ((with_reducible refine gate_dst (N := 42) rfl ?_); go_loud (refine step_goes (some 42) hv2 ht rfl rfl rfl rfl argN ?_; intro w8 hb8; have o3 := blk_below o2 hb8; have q3 := blk_below q2 hb8; have hv3 := IsS_below hv2 hb8; have HB3 := below_step HB2 hb8; obtain ⟨oc0, oc1, of0, of1⟩ := blk2 o3; obtain ⟨qc0, qc1, qf0, qf1⟩ := blk2 q3; clear hb8 o2 q2 hv2 HB2 o1 q1 hv1 HB1 hbox)))
        go_roundg (xs.length - j)
        case measure => exact hm3
        case rel => exact ⟨j + 1, t1, t2, congrArg (Value.int .i64) hnx.out, ⟨hm1, hlt⟩, ⟨hfo⟩, ⟨⟨blk_far (p := ⟨g6, 1, none⟩) (blk_far (p := ⟨g6, 0, none⟩) q3 hne' _) hne' _, blk_put (blk_put o3 0 (.int .i64 t1) rfl) 1 (.int .i64 t2) rfl, IsS_set (IsS_set hv3 o3) (blk_put o3 0 (.int .i64 t1) rfl), below_set (below_set HB3 hge) hge⟩⟩⟩
      · replace hfo : some ((0 : Int), (0 : Int), t3) = some (n, d, e) := by simpa [ht3] using hfo
        obtain ⟨rfl, rfl, rfl⟩ : 0 = n ∧ 0 = d ∧ t3 = e := by simpa using hfo
        have h := h.out
        rw [if_neg ht3] at h
        obtain ⟨rfl, rfl, rfl⟩ : 0 = r1 ∧ 0 = r2 ∧ t3 = r3 := by simpa using h
        have ht3b : (t3 == 0) = false := by simpa using ht3
        have ht3c : (t3 != 0) = true := by simpa using ht3
        clear h hfo
        obtain ⟨oc0, oc1, of0, of1⟩ := blk2 o0
        clear oc0 oc1 of0 of1
        have hne' := Ne.symm hne
        go_wp2_with (first | ((with_reducible refine gate_dst (N := 9) rfl ?_); refine box_event ?hg (N := 9) ?hd (cs := #[.int .i64 0, .int .i64 0]) (t := 29) ?hr ?_; (case hd => rfl); (case hg => rfl); (case hr => first | (go_simp; done) | (go_simp; rfl)); intro g9 hg w7 hbox hb; have o1 := blk_below o0 hb; have q1 := blk_below q0 hb; have hv1 := IsS_below hv hb; have HB1 := below_step HB hb; have hn1 : g6 ≠ g9 := blk_ne1 hg o0; have hn1' := Ne.symm hn1; have hn2 : w.heap.size ≠ g9 := blk_ne1 hg q0; have hn2' := Ne.symm hn2; have hge9 : w.heap.size ≤ g9 := (by rw [hg]; exact below_size HB); obtain ⟨oc0, oc1, of0, of1⟩ := blk2 o1; obtain ⟨bc0, bc1, bf0, bf1⟩ := blk2 hbox; have o2 := blk_far (p := ⟨g9, 1, none⟩) (blk_far (p := ⟨g9, 0, none⟩) o1 hn1 (.int .i64 y.f0)) hn1 (.int .i64 y.f1); have q2 := blk_far (p := ⟨g9, 1, none⟩) (blk_far (p := ⟨g9, 0, none⟩) q1 hn2 (.int .i64 y.f0)) hn2 (.int .i64 y.f1); have hv2 := IsS_set (i := 1) (u := .int .i64 y.f1) (IsS_set (i := 0) (u := .int .i64 y.f0) hv1 hbox) (blk_put hbox 0 (.int .i64 y.f0) rfl); have HB2 := below_set (j := 1) (v := .int .i64 y.f1) (below_set (j := 0) (v := .int .i64 y.f0) HB1 hge9) hge9; clear hb hg o0 q0 hv HB) | ((with_reducible refine gate_dst (N := 42) rfl ?_); go_loud (refine step_goes (some 42) hv2 ht rfl rfl rfl rfl argN ?_; intro w8 hb8; have o3 := blk_below o2 hb8; have q3 := blk_below q2 hb8; have hv3 := IsS_below hv2 hb8; have HB3 := below_step HB2 hb8; obtain ⟨oc0, oc1, of0, of1⟩ := blk2 o3; obtain ⟨qc0, qc1, qf0, qf1⟩ := blk2 q3; clear hb8 o2 q2 hv2 HB2 o1 q1 hv1 HB1 hbox)))
        refine do_end rfl rfl rfl ?_ ?_
        · exact blk_put (blk_put (blk_far (p := ⟨g6, 1, none⟩) (blk_far (p := ⟨g6, 0, none⟩) q3 hne' _) hne' _) 0 (.int .i64 0) rfl) 1 (.int .i64 0) rfl
        · exact below_set (below_set (below_set (below_set HB3 hge) hge) (Nat.le_refl _)) (Nat.le_refl _)

theorem badI_mono (l : List S29) (k : Nat) : LeO (badI k l) (badI (k + 1) l) := by
  induction l with
  | nil => exact LeO.refl _
  | cons x l ih =>
    unfold badI
    exact LeO.bind (fold_Do_1.mono _ _ _) fun _ => LeO.ite (LeO.refl _) ih
theorem foldI_mono (how : Int) (l : List S29) (k : Nat) : ∀ n d, LeO (foldI k how l n d) (foldI (k + 1) how l n d) := by
  induction l with
  | nil => exact fun _ _ => LeO.refl _
  | cons x l ih =>
    intro n d
    unfold foldI
    exact LeO.bind (stepI.mono _ _ _ _ _ _) fun _ => LeO.ite (ih _ _) (LeO.refl _)
theorem fold_Do.rest_mono (a0 : Int) (len : Nat) (n d : Int) (k : Nat) : LeO (fold_Do.rest k a0 len n d) (fold_Do.rest (k + 1) a0 len n d) := by
  unfold fold_Do.rest
  exact LeO.bind (rat_Of.mono _ _) fun _ => LeO.ite (LeO.ite (LeO.refl _) (LeO.ite (rat_Div.mono _ _ _ _ _) (LeO.refl _))) (LeO.refl _)
theorem fold_Do.mono : ∀ a0 l1 k, LeO (fold_Do.f k a0 l1) (fold_Do.f (k + 1) a0 l1) := by
  intro a0 l1 k
  unfold fold_Do.f
  refine LeO.ite (LeO.bind (LeO.refl _) fun _ => LeO.ite ?_ (LeO.refl _)) (LeO.refl _)
  cases l1 with
  | nil => exact LeO.refl _
  | cons x xs => exact LeO.bind (badI_mono _ _) fun _ => LeO.ite (LeO.refl _) (LeO.bind (foldI_mono _ _ _ _ _) fun _ => LeO.ite (fold_Do.rest_mono _ _ _ _ _) (LeO.refl _))
theorem fold_Do.calls (k : Nat) (a0 : Int) (A1 : Option Addr) (c1 : Nat) (l1 : List (S29)) (r1 : Int) (r2 : Int) (r3 : Int) (w : World) (hr1 : Kd.C k29 w A1 l1.length l1) (hc1 : l1.length ≤ c1) (h : fold_Do.f k a0 l1 = some (r1, r2, r3)) :
    Calls Try.prog 24 #[.int .i64 a0, .slice A1 l1.length c1] w fun e w' => e = .returned (.tuple #[.agg #[.int .i64 r1, .int .i64 r2], .int .i64 r3]) ∧ Below w.heap.size w w' := by
  show Calls Try.prog 24 #[.int .i64 a0, .slice A1 l1.length c1] w (DoTold w r1 r2 r3)
  unfold fold_Do.f at h
  by_cases hl : l1.length < 4611686014132420609
  case neg => rw [if_neg hl] at h; cases h
  rw [if_pos hl] at h
  obtain ⟨t, ht, h⟩ := Option.bind_eq_some_iff.mp h
  cases t with
  | false =>
    obtain ⟨rfl, rfl, rfl⟩ : 0 = r1 ∧ 0 = r2 ∧ 1 = r3 := by simpa using h
    exact do_wrong a0 A1 c1 l1 w ht
  | true =>
    rw [if_pos rfl] at h
    cases l1 with
    | nil =>
      obtain ⟨rfl, rfl, rfl⟩ : 0 = r1 ∧ 0 = r2 ∧ 1 = r3 := by simpa using h
      exact do_none a0 A1 c1 w ht
    | cons x xs =>
      obtain ⟨b, hb, h⟩ := Option.bind_eq_some_iff.mp h
      cases b with
      | true =>
        obtain ⟨rfl, rfl, rfl⟩ : 0 = r1 ∧ 0 = r2 ∧ 1 = r3 := by simpa using h
        exact do_bad k a0 A1 c1 (x :: xs) w hr1 hc1 hl (by simp) ht hb
      | false =>
        rw [if_neg (by simp)] at h
        obtain ⟨⟨n, d, e⟩, hf, h⟩ := Option.bind_eq_some_iff.mp h
        obtain ⟨i0, hi0, _, hsz, _⟩ := info_parts info29
        have hcut := cut_from (P := Try.prog) 43 29 .i64 Try.underlying43 hi0 2 hsz A1 (x :: xs).length c1 1 (by omega) (by simp only [List.length_cons]; omega)
        have hd := Kd.C_drop (m := 1) hr1 (by simp) hc1
        obtain ⟨ad, hA, hx0, hx1⟩ := at_T29 hr1 0 (by omega) (by simp only [List.length_cons]; omega)
        subst hA
        have hrd : rd_T29 (x :: xs) 0 = x := rfl
        rw [hrd] at hx0 hx1
        refine do_main k a0 r1 r2 r3 n d e ad _ c1 (c1 - 1) (x :: xs) xs x w hr1 hc1 hl ⟨by simp at hl; omega⟩ (by simp) ⟨hx0, hx1⟩ ⟨rfl⟩ hd hcut ht hb hf h

end Go.Proofs.Ytlmhgjnlbokceaa.PDownTells

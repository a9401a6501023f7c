/- The walk of the Go functions that a law reaches, told as plain functions; a program of this session has written it. No condition beyond the statement's own. -/
import Derived.Test.YtlmhgjnlbokceaaPDownTellsx0
import Derived.Test.YtlmhgjnlbokceaaPDownTellsx1
import Derived.Test.YtlmhgjnlbokceaaPDownTellsx2
import Derived.Test.YtlmhgjnlbokceaaPDownTellsx3
import Derived.Test.YtlmhgjnlbokceaaPDownTellsx17
namespace Go.Proofs.Ytlmhgjnlbokceaa.PDownTells
open Go.RowKit Go.Proofs.YtlmhgjnlbokceaaW.PrintWords Go.Proofs.YtlmhgjnlbokceaaW.PrintLast Go.Proofs.YtlmhgjnlbokceaaW.PrintMore
attribute [local go_sem] max2_int min2_int max_two min_two max_three min_three max_four min_four   -- for this text's walks alone
set_option linter.unusedVariables false
set_option linter.unusedSimpArgs false

set_option maxHeartbeats 8000000
set_option maxRecDepth 100000
/-! ### marigraphlaw21.DownNumbers: function 3, by hand -/
def endsAt (x : Nat) : Int × Int := match x with
  | 0 => (0, 100)
  | 1 => (5, 30)
  | 2 => (14, 14)
  | 3 => (30, 5)
  | 4 => (-1, 50)
  | 5 => (90, 200)
  | _ => (0, 4294967296)
def endCells : Array Value := #[.int .i64 0, .int .i64 100, .int .i64 5, .int .i64 30, .int .i64 14, .int .i64 14, .int .i64 30, .int .i64 5, .int .i64 (-1), .int .i64 50, .int .i64 90, .int .i64 200, .int .i64 0, .int .i64 4294967296]
theorem endCells_at (x : Nat) (h : x < 7) : endCells[x * 2]? = some (.int .i64 (endsAt x).1) ∧ endCells[x * 2 + 1]? = some (.int .i64 (endsAt x).2) := by
  have : x = 0 ∨ x = 1 ∨ x = 2 ∨ x = 3 ∨ x = 4 ∨ x = 5 ∨ x = 6 := by omega
  rcases this with e | e | e | e | e | e | e <;> (subst e; exact ⟨rfl, rfl⟩)
def EndsAt (ad : Addr) (w : World) : Prop := ∀ x : Nat, x < 7 → w.cell? (ad.add (x * 2)) = some (.int .i64 (endsAt x).1) ∧ w.cell? ⟨(ad.add (x * 2)).block, (ad.add (x * 2)).off + 1, none⟩ = some (.int .i64 (endsAt x).2)
theorem EndsAt.below {ad : Addr} {w w1 : World} (h : EndsAt ad w) (hb : Below w.heap.size w w1) : EndsAt ad w1 := fun x hx => ⟨cellB hb (h x hx).1, cellB hb (h x hx).2⟩
theorem addr_add0 (g i : Nat) : (⟨g, 0, none⟩ : Addr).add i = ⟨g, i, none⟩ := by
  cases i with
  | zero => rfl
  | succ i => simp [Addr.add]
theorem lit_event {P : Program} {ops : Array Oper} {o : Oper} {a : Act} {Q : Exit → Act → World → Prop} {rest : List Oper} {W : World} (hgd : o.guard = none) {N : Tmp} (_hd : o.dst = some N) {t : TypeId}
    (hrun : (execOp a.eval o).run P W = .ok (.value (.slice (some ⟨W.heap.size, 0, none⟩) 7 7)) (W.alloc (.cells endCells t (0, 0))))
    (h : ∀ ad w1, EndsAt ad w1 → Below W.heap.size W w1 → wpList P ops Q rest (a.put o.dst (.slice (some ad) 7 7)) w1) : wpList P ops Q (o :: rest) a W :=
  Kd.event_run hgd hrun (h _ _ (fun x hx => by
    have hb := blk_new W (.cells endCells t (0, 0))
    obtain ⟨e1, e2⟩ := endCells_at x hx
    rw [addr_add0]
    exact ⟨(blk_cell hb (x * 2)).trans e1, (blk_cell hb (x * 2 + 1)).trans e2⟩) (below_alloc (Below.refl _ _) _))
theorem same_at (k : Nat) (A : Option Addr) (c n : Nat) (ys : List S31) (a1 a2 a3 a4 : Int) (a5 : Bool) (r : Bool) (w : World) (hn : ys.length = n) (hr : Kd.C k31 w A n ys) (hc : n ≤ c) (h : marigraphlaw21_same.f k ys a1 a2 a3 a4 a5 = some r) :
    Calls Try.prog 8 #[.slice A n c, .int .i64 a1, .int .i64 a2, .int .i64 a3, .int .i64 a4, .bool a5] w fun e w' => e = .returned (.bool r) ∧ Below w.heap.size w w' := by
  subst hn
  exact marigraphlaw21_same.calls k A c ys a1 a2 a3 a4 a5 r w hr hc h
theorem same_nil (k : Nat) (a1 a2 a3 a4 : Int) (a5 : Bool) (r : Bool) (w : World) (h : marigraphlaw21_same.f k [] a1 a2 a3 a4 a5 = some r) :
    Calls Try.prog 8 #[.slice none 0 0, .int .i64 a1, .int .i64 a2, .int .i64 a3, .int .i64 a4, .bool a5] w fun e w' => e = .returned (.bool r) ∧ Below w.heap.size w w' :=
  marigraphlaw21_same.calls k none 0 [] a1 a2 a3 a4 a5 r w (Kd.C_nil _ _) (Nat.le_refl _) h
theorem downNumbers_at (k : Nat) (l : List S31) (w : World)
    (hS : marigraphkeep_Samples.f k [3, 1, 10, 25, 1, 1, 40, 7, 7, 7] [5, -3, 12, 7, 0, 9, -20, 1, 2, 3] 10 = some l)
    (hL : ∀ (i j x : Nat) (zero : Bool), i < 9 → j < 9 → x < 7 → marigraphlaw21_same.f k l (endsAt x).1 (endsAt x).2 (3 * (i : Int) - 1) (j : Int) zero = some true)
    (h1 : marigraphlaw21_same.f k [] 0 4095 1 1 true = some true) (h2 : marigraphlaw21_same.f k [] 0 4096 1 1 true = some true) (h3 : marigraphlaw21_same.f k [] 0 4294967295 1 1 false = some true)
    (h4 : marigraphlaw21_same.f k [⟨5, ⟨0, 1⟩⟩, ⟨5, ⟨0, 1⟩⟩] 0 9 3 1 false = some true) (h5 : marigraphlaw21_same.f k [⟨-1, ⟨0, 1⟩⟩] 0 9 3 1 false = some true) (h6 : marigraphlaw21_same.f k [⟨1, ⟨0, 0⟩⟩] 0 9 3 1 false = some true)
    (hk : marigraphlaw21_known.f k = some true) :
    Calls Try.prog 3 #[] w fun e w' => e = .returned (.bool true) ∧ Below w.heap.size w w' := by
  have hu31 := Try.underlying31
  have hu29 := Try.underlying29
  have hu25 := Try.underlying25
  have hu26 := Try.underlying26
  replace hS := Aside0.mk hS
  replace hL := Aside0.mk hL
  replace h1 := Aside0.mk h1
  replace h2 := Aside0.mk h2
  replace h3 := Aside0.mk h3
  replace h4 := Aside0.mk h4
  replace h5 := Aside0.mk h5
  replace h6 := Aside0.mk h6
  replace hk := Aside0.mk hk
  obtain ⟨y56, hy56⟩ : ∃ y, y = ([(⟨5, (⟨0, 1⟩ : S29)⟩ : S31), (⟨5, (⟨0, 1⟩ : S29)⟩ : S31)] : List S31) := ⟨_, rfl⟩
  obtain ⟨y71, hy71⟩ : ∃ y, y = ([(⟨-1, (⟨0, 1⟩ : S29)⟩ : S31)] : List S31) := ⟨_, rfl⟩
  obtain ⟨y76, hy76⟩ : ∃ y, y = ([(⟨1, (⟨0, 0⟩ : S29)⟩ : S31)] : List S31) := ⟨_, rfl⟩
  rw [← hy56] at h4
  rw [← hy71] at h5
  rw [← hy76] at h6
  replace hy56 := Aside0.mk hy56
  replace hy71 := Aside0.mk hy71
  replace hy76 := Aside0.mk hy76
  have HB0 := Aside0.mk (Below.refl w.heap.size w)
  go_enter Try.func3, Try.ntmps3
  go_wp2_with (first
    | ((with_reducible refine gate_dst (N := 7) rfl ?_); refine Kd.R_lit (Kd.int .i64) _ 3 ?hg (N := 7) ?hd (xs := ([3, 1, 10, 25, 1, 1, 40, 7, 7, 7] : List Int)) (inner := [.int .i64 3, .int .i64 1, .int .i64 10, .int .i64 25, .int .i64 1, .int .i64 1, .int .i64 40, .int .i64 7, .int .i64 7, .int .i64 7]) (ok := fun _ => True) (okp := fun _ => True) ?hr ?hp (fun _ hk => hk) trivial (Below.refl _ _) (Nat.le_refl _) (by simp) ?_; (case hd => rfl); (case hg => rfl); (case hr => first | (go_simp; done) | (go_simp; rfl)); (case hp => exact (Reps.one (show Kd.M (Kd.int .i64) _ _ _ (3 : Int) [.int .i64 (3)] from rfl) (Reps.one (show Kd.M (Kd.int .i64) _ _ _ (1 : Int) [.int .i64 (1)] from rfl) (Reps.one (show Kd.M (Kd.int .i64) _ _ _ (10 : Int) [.int .i64 (10)] from rfl) (Reps.one (show Kd.M (Kd.int .i64) _ _ _ (25 : Int) [.int .i64 (25)] from rfl) (Reps.one (show Kd.M (Kd.int .i64) _ _ _ (1 : Int) [.int .i64 (1)] from rfl) (Reps.one (show Kd.M (Kd.int .i64) _ _ _ (1 : Int) [.int .i64 (1)] from rfl) (Reps.one (show Kd.M (Kd.int .i64) _ _ _ (40 : Int) [.int .i64 (40)] from rfl) (Reps.one (show Kd.M (Kd.int .i64) _ _ _ (7 : Int) [.int .i64 (7)] from rfl) (Reps.one (show Kd.M (Kd.int .i64) _ _ _ (7 : Int) [.int .i64 (7)] from rfl) (Reps.one (show Kd.M (Kd.int .i64) _ _ _ (7 : Int) [.int .i64 (7)] from rfl) (Reps.none _ _)))))))))))); intro v7 w7 ho7 hb7 hg_ hnew_; clear hg_ hnew_)
    | (((with_reducible refine gate_dst (N := 8) rfl ?_); refine Kd.R_lit (Kd.int .i64) _ 3 ?hg (N := 8) ?hd (xs := ([5, -3, 12, 7, 0, 9, -20, 1, 2, 3] : List Int)) (inner := [.int .i64 5, .int .i64 (-3), .int .i64 12, .int .i64 7, .int .i64 0, .int .i64 9, .int .i64 (-20), .int .i64 1, .int .i64 2, .int .i64 3]) (ok := fun _ => True) (okp := fun _ => True) ?hr ?hp (fun _ hk => hk) trivial (Below.refl _ _) (Nat.le_refl _) (by simp) ?_; (case hd => rfl); (case hg => rfl); (case hr => first | (go_simp; done) | (go_simp; rfl)); (case hp => exact (Reps.one (show Kd.M (Kd.int .i64) _ _ _ (5 : Int) [.int .i64 (5)] from rfl) (Reps.one (show Kd.M (Kd.int .i64) _ _ _ (-3 : Int) [.int .i64 (-3)] from rfl) (Reps.one (show Kd.M (Kd.int .i64) _ _ _ (12 : Int) [.int .i64 (12)] from rfl) (Reps.one (show Kd.M (Kd.int .i64) _ _ _ (7 : Int) [.int .i64 (7)] from rfl) (Reps.one (show Kd.M (Kd.int .i64) _ _ _ (0 : Int) [.int .i64 (0)] from rfl) (Reps.one (show Kd.M (Kd.int .i64) _ _ _ (9 : Int) [.int .i64 (9)] from rfl) (Reps.one (show Kd.M (Kd.int .i64) _ _ _ (-20 : Int) [.int .i64 (-20)] from rfl) (Reps.one (show Kd.M (Kd.int .i64) _ _ _ (1 : Int) [.int .i64 (1)] from rfl) (Reps.one (show Kd.M (Kd.int .i64) _ _ _ (2 : Int) [.int .i64 (2)] from rfl) (Reps.one (show Kd.M (Kd.int .i64) _ _ _ (3 : Int) [.int .i64 (3)] from rfl) (Reps.none _ _)))))))))))); intro v8 w8 ho8 hb8 hg_ hnew_; clear hg_ hnew_); replace ho7 := Kd.R_below ho7 hb8)
    | (go_at_call 7; obtain ⟨A7, c7, e7⟩ := Kd.R_slice ho7; obtain ⟨A8, c8, e8⟩ := Kd.R_slice ho8; subst e7; subst e8; (with_reducible refine (marigraphkeep_Samples.calls k A7 c7 _ A8 c8 _ 10 l _ (Kd.R_reads' ho7).2.2 (Kd.R_reads' ho7).2.1 (Kd.R_reads' ho8).2.2 (Kd.R_reads' ho8).2.1 hS.out).mono ?_); rintro e w9 ⟨vt, rfl, hT, hb9⟩; obtain ⟨At, ct, rfl⟩ := Kd.R_slice hT; have HB := Aside0.mk (below_step (below_step (below_step HB0.out hb7) hb8) hb9); clear hb7 hb8 hb9 ho7 ho8 HB0))
  have hCc := Aside0.mk (Kd.R_reads' hT).2.1
  have hCr := Aside0.mk (Kd.R_reads' hT).2.2
  clear hT
  go_loopg [2] 10 (fun kq v2 w' => ∃ i : Nat, v2 = .int .i64 (3 * (i : Int) - 1) ∧ Aside0 (9 - i < kq ∧ i ≤ 9) ∧ Aside0 (Below w9.heap.size w9 w'))
  case atStart => exact ⟨0, rfl, ⟨by omega⟩, ⟨Below.refl _ _⟩⟩
  case round =>
    obtain ⟨i, rfl, hi, hA⟩ := hrel
    replace hi := hi.out
    by_cases hi9 : i < 9
    · have q1 : decide ((3 * (i : Int) - 1) < 25) = true := decide_eq_true (by omega)
      obtain ⟨ei, hei⟩ : ∃ e : Int, e = 3 * (i : Int) - 1 := ⟨_, rfl⟩
      rw [← hei] at q1 ⊢
      have hnx : Aside0 (wrap64 (ei + 3) = 3 * ((i + 1 : Nat) : Int) - 1 ∧ ei + 3 = 3 * ((i + 1 : Nat) : Int) - 1) := ⟨by rw [hei]; unfold wrap64; omega, by rw [hei]; omega⟩
      replace hei := Aside0.mk hei
      replace hi9 := Aside0.mk hi9
      replace hi := Aside0.mk hi
      go_wp2
      clear q1
      generalize wr = wA at hA ⊢
      go_loopg [3] 10 (fun kq v3 w' => ∃ j : Nat, v3 = .int .i64 (j : Int) ∧ Aside0 (9 - j < kq ∧ j ≤ 9) ∧ Aside0 (Below w9.heap.size w9 w'))
      case atStart => exact ⟨0, rfl, ⟨by omega⟩, hA⟩
      case round =>
        clear hA
        obtain ⟨j, rfl, hj, hBj⟩ := hrel
        replace hj := hj.out
        by_cases hj9 : j < 9
        · have q1 : decide ((j : Int) < 9) = true := decide_eq_true (by omega)
          have q2 : decide (j < 9) = true := decide_eq_true hj9
          have hnj : Aside0 (wrap64 ((j : Int) + 1) = ((j + 1 : Nat) : Int) ∧ (j : Int) + 1 = ((j + 1 : Nat) : Int)) := ⟨by unfold wrap64; omega, by omega⟩
          replace hj := Aside0.mk hj
          replace hj9 := Aside0.mk hj9
          go_wp2_with ((with_reducible refine gate_dst (N := 25) rfl ?_); refine lit_event ?hgP (N := 25) ?hdP (t := 25) ?hrP ?_; (case hdP => rfl); (case hgP => rfl); (case hrP => first | (go_simp; done) | (go_simp; rfl)); intro adE wE hE hbE; have hBE := Aside0.mk (below_step (belN hBj.out) hbE); clear hbE)
          clear q1 q2 hBj
          go_loopg [27] 8 (fun kq v27 w' => ∃ x : Nat, v27 = .int .i64 (x : Int) ∧ Aside0 (7 - x < kq ∧ x ≤ 7) ∧ Aside0 (EndsAt adE w') ∧ Aside0 (Below w9.heap.size w9 w'))
          case atStart => exact ⟨0, rfl, ⟨by omega⟩, ⟨hE⟩, hBE⟩
          case round =>
            clear hE hBE
            obtain ⟨x, rfl, hx, hE, hBx⟩ := hrel
            replace hx := hx.out
            by_cases hx7 : x < 7
            · have q1 : decide ((x : Int) < 7) = true := decide_eq_true (by omega)
              have q2 : decide (x < 7) = true := decide_eq_true hx7
              have q3 : (0 ≤ (x : Int)) = True := eq_true (Int.natCast_nonneg x)
              have q4 : ((x : Int) < 7) = True := eq_true (by omega)
              have hnx_ : Aside0 (wrap64 ((x : Int) + 1) = ((x + 1 : Nat) : Int) ∧ (x : Int) + 1 = ((x + 1 : Nat) : Int)) := ⟨by unfold wrap64; omega, by omega⟩
              obtain ⟨c0, c1⟩ := hE.out x hx7
              have s1 : Aside0 (marigraphlaw21_same.f k l (endsAt x).1 (endsAt x).2 ei (j : Int) false = some true) := ⟨by rw [hei.out]; exact hL.out i j x false hi9.out hj9.out hx7⟩
              have s2 : Aside0 (marigraphlaw21_same.f k l (endsAt x).1 (endsAt x).2 ei (j : Int) true = some true) := ⟨by rw [hei.out]; exact hL.out i j x true hi9.out hj9.out hx7⟩
              obtain ⟨ea, hea⟩ : ∃ e : Int, e = (endsAt x).1 := ⟨_, rfl⟩
              obtain ⟨eb, heb⟩ : ∃ e : Int, e = (endsAt x).2 := ⟨_, rfl⟩
              rw [← hea, ← heb] at s1 s2
              rw [← hea] at c0
              rw [← heb] at c1
              clear hea heb
              replace hx := Aside0.mk hx
              replace hx7 := Aside0.mk hx7
              go_upto_region 11 with (first
                | ((with_reducible refine gate_dst (N := 5) rfl ?_); refine box_event ?hgP (N := 5) ?hdP (cs := #[.int .i64 0, .int .i64 0]) (t := 25) ?hrP ?_; (case hdP => rfl); (case hgP => rfl); (case hrP => first | (go_simp; done) | (go_simp; rfl)); intro gP hg w1 hbox hb0; have hb_ := below_set (j := 1) (v := .int .i64 eb) (below_set (j := 0) (v := .int .i64 ea) hb0 (Nat.le_of_eq hg.symm)) (Nat.le_of_eq hg.symm); have hG := blk_put (blk_put hbox 0 (.int .i64 ea) rfl) 1 (.int .i64 eb) rfl; obtain ⟨nc0, nc1, nf0, nf1⟩ := blk2 hbox; have hBP := Aside0.mk (below_step (belN hBx.out) hb_); have hEP := Aside0.mk (hE.out.below hb_); clear hb_ hb0 hbox hg hBx hE c0 c1))
              generalize (w1.setCell ⟨gP, 0, none⟩ (.int .i64 ea)).setCell ⟨gP, 1, none⟩ (.int .i64 eb) = wP at hG hBP hEP ⊢
              clear nc0 nc1 nf0 nf1
              obtain ⟨c0, c1, f0, f1⟩ := blk2 hG
              clear f0 f1 hG
              go_wp2_with (first
                | (go_at_call 8; (with_reducible refine (same_at k At ct l.length l ea eb ei (j : Int) false true _ rfl (Kd.C_below hCr.out hBP.out) hCc.out s1.out).mono ?_); rintro e w11 ⟨rfl, hb⟩; replace c0 := cellB hb c0; replace c1 := cellB hb c1; replace hEP := Aside0.mk (hEP.out.below hb); replace hBP := Aside0.mk (below_step (belN hBP.out) hb); clear hb)
                | (go_at_call 8; (with_reducible refine (same_at k At ct l.length l ea eb ei (j : Int) true true _ rfl (Kd.C_below hCr.out hBP.out) hCc.out s2.out).mono ?_); rintro e w12 ⟨rfl, hb⟩; replace hEP := Aside0.mk (hEP.out.below hb); replace hBP := Aside0.mk (below_step (belN hBP.out) hb); clear hb))
              go_roundg (7 - x)
              case measure => exact hx.out.1
              case rel => exact ⟨x + 1, (by first | rfl | exact congrArg (Value.int .i64) hnx_.out.1 | exact congrArg (Value.int .i64) hnx_.out.2), ⟨by have := hx.out; have := hx7.out; omega, by have := hx7.out; omega⟩, ⟨hEP.out.below (belN (Below.refl _ _))⟩, ⟨belN hBP.out⟩⟩
            · have q1 : decide ((x : Int) < 7) = false := decide_eq_false (by omega)
              have q2 : decide (x < 7) = false := decide_eq_false hx7
              clear hx hx7
              go_wp2
              go_roundg (9 - j)
              case measure => exact hj.out.1
              case rel => exact ⟨j + 1, (by first | rfl | exact congrArg (Value.int .i64) hnj.out.1 | exact congrArg (Value.int .i64) hnj.out.2), ⟨by have := hj.out; have := hj9.out; omega, by have := hj9.out; omega⟩, ⟨belN hBx.out⟩⟩
        · have q1 : decide ((j : Int) < 9) = false := decide_eq_false (by omega)
          have q2 : decide (j < 9) = false := decide_eq_false hj9
          clear hj hj9
          go_wp2
          go_roundg (9 - i)
          case measure => exact hi.out.1
          case rel => exact ⟨i + 1, (by first | rfl | exact congrArg (Value.int .i64) hnx.out.1 | exact congrArg (Value.int .i64) hnx.out.2), ⟨by have := hi.out; have := hi9.out; omega, by have := hi9.out; omega⟩, ⟨belN hBj.out⟩⟩
    · have hi0 : i = 9 := by omega
      subst hi0
      have q1 : decide ((26 : Int) < 25) = false := by decide
      clear hi hi9 hL hCc hCr hS
      replace hA := Aside0.mk (below_step (belN HB.out) hA.out)
      clear HB
      go_wp2_with (first
        | ((with_reducible refine gate_dst (N := 56) rfl ?_); (try (refine gate_guard (by rfl) ?_; dsimp only)); refine Kd.R_lit k31 _ 31 ?hg (N := 56) ?hd (xs := ([(⟨5, (⟨0, 1⟩ : S29)⟩ : S31), (⟨5, (⟨0, 1⟩ : S29)⟩ : S31)] : List S31)) (inner := [.int .i64 5, .int .i64 0, .int .i64 1, .int .i64 5, .int .i64 0, .int .i64 1]) (ok := fun _ => True) (okp := fun _ => True) ?hr ?hp (fun _ hk => hk) trivial (Below.refl _ _) (Nat.le_refl _) (by simp) ?_; (case hd => rfl); (case hg => rfl); (case hr => first | (go_simp; done) | (go_simp; rfl)); (case hp => exact (Reps.c3 (show Kd.M k31 _ _ _ (⟨5, (⟨0, 1⟩ : S29)⟩ : S31) [.int .i64 5, .int .i64 0, .int .i64 1] from (k31_mkM _ _ _ (⟨5, (⟨0, 1⟩ : S29)⟩ : S31))) (Reps.c3 (show Kd.M k31 _ _ _ (⟨5, (⟨0, 1⟩ : S29)⟩ : S31) [.int .i64 5, .int .i64 0, .int .i64 1] from (k31_mkM _ _ _ (⟨5, (⟨0, 1⟩ : S29)⟩ : S31))) (Reps.none _ _)))); intro v56 w56 h56 hb hg_ hnew_; clear hg_ hnew_; rw [← hy56.out] at h56; obtain ⟨A56, c56, e56⟩ := Kd.R_slice h56; subst e56; replace hA := Aside0.mk (below_step (belN hA.out) hb); clear hb)
        | (go_at_call 8; (with_reducible refine (same_nil k 0 4095 1 1 true true _ h1.out).mono ?_); rintro e w11 ⟨rfl, hb⟩; replace h56 := Kd.R_below h56 hb; replace hA := Aside0.mk (below_step (belN hA.out) hb); clear hb)
        | (go_at_call 8; (with_reducible refine (same_nil k 0 4096 1 1 true true _ h2.out).mono ?_); rintro e w11 ⟨rfl, hb⟩; replace h56 := Kd.R_below h56 hb; replace hA := Aside0.mk (below_step (belN hA.out) hb); clear hb)
        | (go_at_call 8; (with_reducible refine (same_nil k 0 4294967295 1 1 false true _ h3.out).mono ?_); rintro e w11 ⟨rfl, hb⟩; replace h56 := Kd.R_below h56 hb; replace hA := Aside0.mk (below_step (belN hA.out) hb); clear hb)
        | (go_at_call 8; (with_reducible refine (marigraphlaw21_same.calls k A56 c56 y56 0 9 3 1 false true _ (Kd.R_reads' h56).2.2 (Kd.R_reads' h56).2.1 h4.out).mono ?_); rintro e w11 ⟨rfl, hb⟩; replace hA := Aside0.mk (below_step (belN hA.out) hb); clear hb)
        | ((with_reducible refine gate_dst (N := 71) rfl ?_); (try (refine gate_guard (by rfl) ?_; dsimp only)); refine Kd.R_lit k31 _ 31 ?hg (N := 71) ?hd (xs := ([(⟨-1, (⟨0, 1⟩ : S29)⟩ : S31)] : List S31)) (inner := [.int .i64 (-1), .int .i64 0, .int .i64 1]) (ok := fun _ => True) (okp := fun _ => True) ?hr ?hp (fun _ hk => hk) trivial (Below.refl _ _) (Nat.le_refl _) (by simp) ?_; (case hd => rfl); (case hg => rfl); (case hr => first | (go_simp; done) | (go_simp; rfl)); (case hp => exact (Reps.c3 (show Kd.M k31 _ _ _ (⟨-1, (⟨0, 1⟩ : S29)⟩ : S31) [.int .i64 (-1), .int .i64 0, .int .i64 1] from (k31_mkM _ _ _ (⟨-1, (⟨0, 1⟩ : S29)⟩ : S31))) (Reps.none _ _))); intro v71 w71 h71 hb hg_ hnew_; clear hg_ hnew_; rw [← hy71.out] at h71; obtain ⟨A71, c71, e71⟩ := Kd.R_slice h71; subst e71; replace hA := Aside0.mk (below_step (belN hA.out) hb); clear hb)
        | (go_at_call 8; (with_reducible refine (marigraphlaw21_same.calls k A71 c71 y71 0 9 3 1 false true _ (Kd.R_reads' h71).2.2 (Kd.R_reads' h71).2.1 h5.out).mono ?_); rintro e w11 ⟨rfl, hb⟩; replace hA := Aside0.mk (below_step (belN hA.out) hb); clear hb)
        | ((with_reducible refine gate_dst (N := 76) rfl ?_); (try (refine gate_guard (by rfl) ?_; dsimp only)); refine Kd.R_lit k31 _ 31 ?hg (N := 76) ?hd (xs := ([(⟨1, (⟨0, 0⟩ : S29)⟩ : S31)] : List S31)) (inner := [.int .i64 1, .int .i64 0, .int .i64 0]) (ok := fun _ => True) (okp := fun _ => True) ?hr ?hp (fun _ hk => hk) trivial (Below.refl _ _) (Nat.le_refl _) (by simp) ?_; (case hd => rfl); (case hg => rfl); (case hr => first | (go_simp; done) | (go_simp; rfl)); (case hp => exact (Reps.c3 (show Kd.M k31 _ _ _ (⟨1, (⟨0, 0⟩ : S29)⟩ : S31) [.int .i64 1, .int .i64 0, .int .i64 0] from (k31_mkM _ _ _ (⟨1, (⟨0, 0⟩ : S29)⟩ : S31))) (Reps.none _ _))); intro v76 w76 h76 hb hg_ hnew_; clear hg_ hnew_; rw [← hy76.out] at h76; obtain ⟨A76, c76, e76⟩ := Kd.R_slice h76; subst e76; replace hA := Aside0.mk (below_step (belN hA.out) hb); clear hb)
        | (go_at_call 8; (with_reducible refine (marigraphlaw21_same.calls k A76 c76 y76 0 9 3 1 false true _ (Kd.R_reads' h76).2.2 (Kd.R_reads' h76).2.1 h6.out).mono ?_); rintro e w11 ⟨rfl, hb⟩; replace hA := Aside0.mk (below_step (belN hA.out) hb); clear hb)
        | (go_at_call 9; (with_reducible refine (down_Bucket.calls 17 0 17 _ rfl).mono ?_); rintro e w13 ⟨rfl, hd⟩; replace hA := Aside0.mk (below_step (belN hA.out) hd.below); clear hd)
        | (go_at_call 9; (with_reducible refine (down_Bucket.calls 17 (-5) 17 _ rfl).mono ?_); rintro e w13 ⟨rfl, hd⟩; replace hA := Aside0.mk (below_step (belN hA.out) hd.below); clear hd)
        | (go_at_call 9; (with_reducible refine (down_Bucket.calls (-5) 10 (-5) _ rfl).mono ?_); rintro e w13 ⟨rfl, hd⟩; replace hA := Aside0.mk (below_step (belN hA.out) hd.below); clear hd)
        | (go_at_call 10; (with_reducible refine (marigraphlaw21_known.calls k true _ hk.out).mono ?_); rintro e w9 ⟨rfl, hb9⟩; have HB9 := below_step (belN hA.out) hb9; clear hb9))
      go_ret
      exact ⟨rfl, HB9⟩
end Go.Proofs.Ytlmhgjnlbokceaa.PDownTells

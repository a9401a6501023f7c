/- The walk of the Go functions that a law reaches, told as plain functions; a program of this session has written it. No condition beyond the statement's own. -/
import Derived.Test.YtfijbkabjmgomaaPNameTellsx0
import Derived.Test.YtfijbkabjmgomaaPNameTellsx1
import Derived.Test.YtfijbkabjmgomaaPNameTellsx2
import Derived.Test.YtfijbkabjmgomaaPNameTellsx3
import Derived.Test.YtfijbkabjmgomaaPNameTellsx5
namespace Go.Proofs.Ytfijbkabjmgomaa.PNameTells
open Go.RowKit Go.Proofs.YtfijbkabjmgomaaW.PrintWords Go.Proofs.YtfijbkabjmgomaaW.PrintLast Go.Proofs.YtfijbkabjmgomaaW.PrintMore
attribute [local go_sem] max2_int min2_int max_two min_two max_three min_three max_four min_four   -- for this text's walks alone
set_option linter.unusedVariables false
set_option linter.unusedSimpArgs false

attribute [local go_sem high] eqA25
set_option maxHeartbeats 8000000
set_option maxRecDepth 100000
/-! ### marigraphref12_Tags: function 16 -/
def refPos (x : ByteArray) (out : List S25) : Nat → Option Nat
  | 0 => some 0
  | n + 1 => if Op.bytesLess (rd_T25 out (n : Int)).f0.toList x.toList = true then some (n + 1) else if (rd_T25 out (n : Int)).f0.toList = x.toList then none else refPos x out n
def refIns (out : List S25) : List S25 → Option (List S25)
  | [] => some out
  | x :: r => match refPos x.f0 out out.length with
    | none => none
    | some n => refIns (out.take n ++ [x] ++ out.drop n) r
def refNames (k : Nat) : List S25 → Option Bool
  | [] => some true
  | x :: r => (marigraphref12_Right.f k x.f0).bind fun a => if a = true then ((marigraphref12_Right.f k x.f1).bind fun b => if b = true then refNames k r else some false) else some false
def refRes : Option (List S25) → List S25 × Int
  | none => ([], 25)
  | some o => (o, 0)
def marigraphref12_Tags.f (k : Nat) (l0 : List (S25)) : Option ((List (S25)) × Int) := if l0.length < 1 ∨ 4 < l0.length then some ([], 1) else (refNames k l0).bind fun b => some (if b = true then refRes (refIns [] l0) else ([], 26))
theorem refNames_mono (k : Nat) : ∀ l, LeO (refNames k l) (refNames (k + 1) l)
  | [] => LeO.refl _
  | x :: r => by
    unfold refNames
    refine LeO.bind (marigraphref12_Right.mono _ _) (fun a => ?_)
    refine LeO.ite (LeO.bind (marigraphref12_Right.mono _ _) (fun b => LeO.ite (refNames_mono k r) (LeO.refl _))) (LeO.refl _)
theorem marigraphref12_Tags.mono : ∀ a0 k, LeO (marigraphref12_Tags.f k a0) (marigraphref12_Tags.f (k + 1) a0) := by
  intro a0 k
  unfold marigraphref12_Tags.f
  exact LeO.ite (LeO.refl _) (LeO.bind (refNames_mono k a0) (fun _ => LeO.refl _))
theorem ref_rdT {l : List S25} {j : Nat} (h : j < l.length) : rd_T25 l (j : Int) = l[j] := by
  unfold rd_T25
  rw [Int.toNat_natCast, List.getD_eq_getElem?_getD, List.getElem?_eq_getElem h]
  rfl
theorem ref_lit2 {P : Program} {ops : Array Oper} {o : Oper} {a : Act} {Kc : Act → World → Prop} {Q : Exit → Act → World → Prop} {W : World} {c0 c1 : Value} {t : TypeId} (hw : Region.wanted o (yielded ops a.tmps) = true) (hrun : (execOp a.eval o).run P W = .ok (.value (.slice (some ⟨W.heap.size, 0, none⟩) 1 1)) (W.alloc (.cells #[c0, c1] t)))
    (h : ∀ g, g = W.heap.size → ∀ w1, w1.heap[g]? = some (.cells #[c0, c1] t (0, 0)) → Below W.heap.size W w1 → Kc (a.put o.dst (.slice (some ⟨g, 0, none⟩) 1 1)) w1) : if Region.wanted o (yielded ops a.tmps) = true then Oper.wp P o a W Kc Q else Kc (a.put o.dst undef) W :=
  event_step hw hrun (h _ rfl _ (blk_new W _) (below_alloc (Below.refl _ _) _))
theorem ref_addr0 (g i : Nat) : (⟨g, 0, none⟩ : Addr).add i = ⟨g, i, none⟩ := by
  cases i with
  | zero => rfl
  | succ i => simp [Addr.add]
theorem ref_one {W : World} {g : Nat} {y : S25} (hb : W.heap[g]? = some (.cells #[.string y.f0, .string y.f1] 25 (0, 0))) : Kd.C k25 W (some ⟨g, 0, none⟩) 1 [y] := by
  refine ⟨rfl, by decide, fun _ => ⟨_, rfl, fun j p hj => ?_⟩⟩
  match j, hj with
  | 0, hj =>
    obtain rfl : y = p := by simpa using hj
    refine ⟨[.string y.f0, .string y.f1], rfl, k25_mk W y, fun i u hu => ?_⟩
    have := blk_cell hb i
    rw [show (⟨g, 0, none⟩ : Addr).add (0 * k25.sz + i) = ⟨g, i, none⟩ from by rw [Nat.zero_mul, Nat.zero_add]; exact ref_addr0 g i]
    rw [this]
    simpa using hu
theorem marigraphref12_Tags.calls (k : Nat) (A0 : Option Addr) (c0 : Nat) (l0 : List (S25)) (r1 : List (S25)) (r2 : Int) (w : World) (hr0 : Kd.C k25 w A0 l0.length l0) (hc0 : l0.length ≤ c0) (h : marigraphref12_Tags.f k l0 = some (r1, r2)) :
  Calls Try.prog 16 #[.slice A0 l0.length c0] w fun e w' => ∃ v0_ : Value, e = .returned (.tuple #[v0_, .int .i64 r2]) ∧ Kd.R k25 25 w' w.heap.size (fun _ => True) v0_ r1 ∧ Below w.heap.size w w' := by
  have hu25 := Try.underlying25
  have hu27 := Try.underlying27
  unfold marigraphref12_Tags.f at h
  by_cases hlen : l0.length < 1 ∨ 4 < l0.length
  · rw [if_pos hlen] at h
    simp only [Option.some.injEq, Prod.mk.injEq] at h
    obtain ⟨rfl, rfl⟩ := h
    by_cases h1 : l0.length < 1
    · have q1 : decide ((l0.length : Int) < 1) = true := decide_eq_true (by omega)
      go_enter Try.func16, Try.ntmps16
      go_wp2
      go_ret2
      exact ⟨_, rfl, Kd.R_nil _ _ _ _ _, Below.refl _ _⟩
    · have q1 : decide ((l0.length : Int) < 1) = false := decide_eq_false (by omega)
      have q2 : decide ((4 : Int) < (l0.length : Int)) = true := decide_eq_true (by omega)
      have q3 : decide (4 < l0.length) = true := decide_eq_true (by omega)
      go_enter Try.func16, Try.ntmps16
      go_wp2
      go_ret2
      exact ⟨_, rfl, Kd.R_nil _ _ _ _ _, Below.refl _ _⟩
  · rw [if_neg hlen] at h
    have q1 : decide ((l0.length : Int) < 1) = false := decide_eq_false (by omega)
    have q2 : decide ((4 : Int) < (l0.length : Int)) = false := decide_eq_false (by omega)
    have q3 : decide (4 < l0.length) = false := decide_eq_false (by omega)
    have hln : Aside0 (1 ≤ l0.length ∧ l0.length ≤ 4) := ⟨by omega, by omega⟩
    replace h := Aside0.mk h
    clear hlen
    go_enter Try.func16, Try.ntmps16
    go_wp2
    clear q1 q2 q3
    go_loopg [4] 6 (fun kq v4 w' => ∃ j : Nat, v4 = .int .i64 (j : Int) ∧ Aside0 (4 - j < kq ∧ j ≤ l0.length) ∧ Aside0 (((refNames k (l0.drop j)).bind fun b => some (if b = true then refRes (refIns [] l0) else ([], 26))) = some (r1, r2)) ∧ Aside0 (Below w.heap.size w w'))
    case atStart => exact ⟨0, rfl, ⟨by omega, Nat.zero_le _⟩, ⟨by rw [List.drop_zero]; exact h.out⟩, ⟨belN (Below.refl _ _)⟩⟩
    case round =>
      clear h
      obtain ⟨j, rfl, hj, h, hB⟩ := hrel
      replace hj := hj.out
      by_cases hjl : j < l0.length
      · have q1 : decide ((j : Int) < (l0.length : Int)) = true := decide_eq_true (by omega)
        have q2 : decide (j < l0.length) = true := decide_eq_true hjl
        have q3 : (0 ≤ (j : Int)) = True := eq_true (Int.natCast_nonneg j)
        obtain ⟨ad, eA, hx0, hx1⟩ := at_T25 hr0 (j : Int) (Int.natCast_nonneg j) (by omega)
        cases eA
        have h2 := h.out
        rw [List.drop_eq_getElem_cons hjl] at h2
        rw [ref_rdT hjl] at hx0 hx1
        rw [Int.toNat_natCast] at hx0 hx1
        replace hx0 := cellB hB.out hx0
        replace hx1 := cellB hB.out hx1
        generalize l0[j] = x at hx0 hx1 h2
        unfold refNames at h2
        replace h2 := Option.bind_eq_some_iff.mp h2
        obtain ⟨b, h2, h3⟩ := h2
        replace h2 := Option.bind_eq_some_iff.mp h2
        obtain ⟨b1, h2, h4⟩ := h2
        replace h2 := Aside0.mk h2
        clear h
        cases b1
        · simp only [Bool.false_eq_true, if_false, Option.some.injEq] at h4
          subst h4
          simp only [Bool.false_eq_true, if_false, Option.some.injEq, Prod.mk.injEq] at h3
          obtain ⟨rfl, rfl⟩ := h3
          go_wp2_with (go_at_call 8; (with_reducible refine (marigraphref12_Right.calls k x.f0 false _ h2.out).mono ?_); rintro e w3 ⟨rfl, hd⟩; replace hB := Aside0.mk (below_step (belN hB.out) hd.below); clear hd)
          go_ret2
          exact ⟨_, rfl, Kd.R_nil _ _ _ _ _, belN hB.out⟩
        · simp only [if_true] at h4
          replace h4 := Option.bind_eq_some_iff.mp h4
          obtain ⟨b2, h4, h5⟩ := h4
          replace h4 := Aside0.mk h4
          have hnx : Aside0 (wrap64 ((j : Int) + 1) = ((j + 1 : Nat) : Int)) := ⟨by have := hln.out; unfold wrap64; omega⟩
          have h33 : Aside0 ((((j : Int) + 1) : Int) = ((j + 1 : Nat) : Int)) := ⟨by omega⟩
          replace h5 := Aside0.mk h5
          replace h3 := Aside0.mk h3
          cases b2
          all_goals
            go_wp2_with (first
              | (go_at_call 8; (with_reducible refine (marigraphref12_Right.calls k x.f0 true _ h2.out).mono ?_); rintro e w3 ⟨rfl, hd⟩; replace hB := Aside0.mk (below_step (belN hB.out) hd.below); replace hx0 := cellB hd.below hx0; replace hx1 := cellB hd.below hx1; clear hd)
              | (go_at_call 8; (with_reducible refine (marigraphref12_Right.calls k x.f1 _ _ h4.out).mono ?_); rintro e w4 ⟨rfl, hd⟩; replace hB := Aside0.mk (below_step (belN hB.out) hd.below); replace hx0 := cellB hd.below hx0; replace hx1 := cellB hd.below hx1; clear hd))
          · replace h5 := h5.out
            simp only [Bool.false_eq_true, if_false, Option.some.injEq] at h5
            subst h5
            replace h3 := h3.out
            simp only [Bool.false_eq_true, if_false, Option.some.injEq, Prod.mk.injEq] at h3
            obtain ⟨rfl, rfl⟩ := h3
            go_ret2
            exact ⟨_, rfl, Kd.R_nil _ _ _ _ _, belN hB.out⟩
          · replace h5 := h5.out
            simp only [if_true] at h5
            go_roundg (4 - j)
            case measure => exact hj.1
            case rel => exact ⟨j + 1, (by first | rfl | exact congrArg (Value.int .i64) hnx.out | exact congrArg (Value.int .i64) h33.out), ⟨by have := hln.out; omega, by omega⟩, ⟨by rw [h5]; exact h3.out⟩, ⟨belN hB.out⟩⟩
      · have q1 : decide ((j : Int) < (l0.length : Int)) = false := decide_eq_false (by omega)
        have q2 : decide (j < l0.length) = false := decide_eq_false hjl
        have h2 := h.out
        rw [List.drop_of_length_le (by omega)] at h2
        have h3 : refRes (refIns [] l0) = (r1, r2) := by
          have h4 : some (refRes (refIns [] l0)) = some (r1, r2) := h2
          exact Option.some.inj h4
        replace h3 := Aside0.mk h3
        go_wp2
        clear h h2 q1 q2 hjl
        go_loopg [5, 6] 6 (fun kq v5 v6 w' => ∃ (i : Nat) (out : List S25), v6 = .int .i64 (i : Int) ∧ Aside0 (4 - i < kq ∧ i ≤ l0.length ∧ out.length = i) ∧ Aside0 (refRes (refIns out (l0.drop i)) = (r1, r2)) ∧ Aside0 (Kd.R k25 25 w' w.heap.size (fun _ => True) v5 out) ∧ Aside0 (Below w.heap.size w w'))
        case atStart => exact ⟨0, [], rfl, ⟨by omega, Nat.zero_le _, rfl⟩, ⟨by rw [List.drop_zero]; exact h3.out⟩, ⟨Kd.R_nil _ _ _ _ _⟩, ⟨belN hB.out⟩⟩
        case round =>
          clear h3 hB
          obtain ⟨i, out, rfl, hi, h3, hR, hB⟩ := hrel
          replace hR := hR.out
          obtain ⟨Ao, co, rfl⟩ := Kd.R_slice hR
          by_cases hil : i < l0.length
          · have q1 : decide ((i : Int) < (l0.length : Int)) = true := decide_eq_true (by omega)
            have q2 : decide (i < l0.length) = true := decide_eq_true hil
            have q3 : (0 ≤ (i : Int)) = True := eq_true (Int.natCast_nonneg i)
            obtain ⟨ad, eA, hx0, hx1⟩ := at_T25 hr0 (i : Int) (Int.natCast_nonneg i) (by omega)
            cases eA
            rw [ref_rdT hil] at hx0 hx1
            rw [Int.toNat_natCast] at hx0 hx1
            have h4 := h3.out
            rw [List.drop_eq_getElem_cons hil] at h4
            have hnx : Aside0 (wrap64 ((i : Int) + 1) = ((i + 1 : Nat) : Int)) := ⟨by have := hln.out; have := hi.out; unfold wrap64; omega⟩
            have h33 : Aside0 ((((i : Int) + 1) : Int) = ((i + 1 : Nat) : Int)) := ⟨by omega⟩
            generalize l0[i] = x at hx0 hx1 h4
            replace h4 := Aside0.mk h4
            clear h3
            go_wp2
            generalize wr = wA at hR hB ⊢
            clear q1 q2
            have hco := (Kd.R_reads' hR).2.1
            have hy0_ := cellB hB.out hx0
            have hy1_ := cellB hB.out hx1
            clear hx0 hx1
            go_loopg [7] 6 (fun kq v7 w' => ∃ n : Nat, v7 = .int .i64 (n : Int) ∧ Aside0 (n ≤ out.length ∧ n < kq) ∧ Aside0 (refPos x.f0 out n = refPos x.f0 out out.length) ∧ Aside0 (Below wA.heap.size wA w'))
            case atStart => exact ⟨out.length, (by first | rfl | exact congrArg (Value.int .i64) (by have := hi.out; omega)), ⟨Nat.le_refl _, by have := hln.out; have := hi.out; omega⟩, ⟨rfl⟩, ⟨belN (Below.refl _ _)⟩⟩
            case round =>
              obtain ⟨n, rfl, hn, hp, hB2⟩ := hrel
              replace hn := hn.out
              have hx0 := cellB hB2.out hy0_
              have hx1 := cellB hB2.out hy1_
              by_cases hn0 : 0 < n
              · obtain ⟨q, rfl⟩ : ∃ q, n = q + 1 := ⟨n - 1, by omega⟩
                have hp2 : (if Op.bytesLess (rd_T25 out (q : Int)).f0.toList x.f0.toList = true then some (q + 1) else if (rd_T25 out (q : Int)).f0.toList = x.f0.toList then none else refPos x.f0 out q) = refPos x.f0 out out.length := hp.out
                obtain ⟨y, hyv⟩ : ∃ y : Int, ((q + 1 : Nat) : Int) = y := ⟨_, rfl⟩
                obtain ⟨jx, hjx⟩ : ∃ j_ : Int, wrap64 (y - 1) = j_ := ⟨_, rfl⟩
                have hjxw : (IntKind.i64.wrap (y - 1)) = jx := (i64_w _).trans hjx
                have hje : jx = (q : Int) := by have h9 := hjx; have := hln.out; have := hi.out; unfold wrap64 at h9; omega
                have q1 : decide (0 < y) = true := decide_eq_true (by omega)
                have q4 : (0 ≤ jx) = True := eq_true (by omega)
                have q5 : (jx < (out.length : Int)) = True := eq_true (by omega)
                obtain ⟨ad8, e8, g0, g1⟩ := at_T25 (Kd.R_reads' (Kd.R_below hR hB2.out)).2.2 jx (by omega) (by omega)
                rw [← hje] at hp2
                rw [hyv]
                have hyA := Aside0.mk hyv
                have hjA := Aside0.mk hje
                clear hyv hje
                by_cases hls : Op.bytesLess (rd_T25 out jx).f0.toList x.f0.toList = true
                · rw [if_pos hls] at hp2
                  have hpos : refPos x.f0 out out.length = some (q + 1) := by rw [← hp2]
                  clear hp2
                  subst e8
                  go_wp2
                  refine start_ (n := 16) (S := fun w' => w'.cell? (ad8.add (jx.toNat * 2)) = some (.string (rd_T25 out jx).f0) ∧ w'.cell? (ad.add (i * 2)) = some (.string x.f0)) (ds := []) (bA 16 0) (by kernel_rfl) rfl rfl ⟨g0, hx0⟩ (fun hHeld => ?_)
                  refine norm_ (by rfl) ?_
                  refine pK 0 (some 46) (bA 16 1) ?_
                  refine pK 1 (some 47) (bA 16 3) ?_
                  refine pK 2 (some 48) (bA 16 7) ?_
                  refine pK 3 (some 49) (bA 16 15) ?_
                  refine pK 4 (some 50) (bA 16 31) ?_
                  refine pK 5 (some 51) (bA 16 63) ?_
                  refine pK 6 (some 52) (bA 16 127) ?_
                  refine pK 7 (some 53) (bA 16 255) ?_
                  refine tK 8 (some 54) (bA 16 511) rfl rfl hHeld (by rintro w' ⟨s0, s1⟩; go_simp; with_reducible rfl) ?_
                  refine pK 9 (some 55) (bA 16 1023) ?_
                  refine pK 10 (some 56) (bA 16 2047) ?_
                  refine pK 11 (some 57) (bA 16 4095) ?_
                  refine pK 12 (some 58) (bA 16 8191) ?_
                  refine tK 13 (some 59) (bA 16 16383) rfl rfl hHeld (by rintro w' ⟨s0, s1⟩; go_simp; with_reducible rfl) ?_
                  refine pK 14 (some 60) (bA 16 32767) ?_
                  refine pK 15 (some 61) (bA 16 65535) ?_
                  refine done_ (by kernel_rfl) ?_
                  clear hHeld
                  go_wp2
                  obtain ⟨n, hnv⟩ : ∃ n, n = q + 1 := ⟨_, rfl⟩
                  have hyn : y = (n : Int) := by rw [hnv]; exact hyA.out.symm
                  rw [hyn]
                  rw [← hnv] at hpos hn
                  clear hyn hnv q1 q4 q5 hjx hjxw hls g0 g1 hyA hjA
                  have hnl : n ≤ out.length := by omega
                  have hres : Aside0 (refRes (refIns (out.take n ++ [x] ++ out.drop n) (l0.drop (i + 1))) = (r1, r2)) := ⟨by have h6 := h4.out; unfold refIns at h6; rw [hpos] at h6; exact h6⟩
                  have hs1 : (0 ≤ (n : Int)) = True := eq_true (Int.natCast_nonneg n)
                  have hs2 : ((n : Int) ≤ (co : Int)) = True := eq_true (by omega)
                  have hs3 : ((n : Int) ≤ (out.length : Int)) = True := eq_true (by omega)
                  have hs4 : n ≤ co := by omega
                  have hs5 : n ≤ out.length := by omega
                  refine start_ (n := 16) (S := fun w' => Below wA.heap.size wA w') (ds := []) (bA 16 0) (by kernel_rfl) rfl rfl (belN hB2.out) (fun hS => ?_)
                  refine norm_ (by rfl) ?_
                  clear hx0 hx1
                  refine pK 1 (some 77) (bA 16 2) ?_
                  refine pK 2 (some 78) (bA 16 6) ?_
                  refine pK 3 (some 79) (bA 16 14) ?_
                  refine pK 5 (some 81) (bA 16 46) ?_
                  refine pK 6 (some 82) (bA 16 110) ?_
                  refine pK 7 (some 83) (bA 16 238) ?_
                  refine tK 8 (some 84) (bA 16 494) rfl rfl hS (by rintro w' hS'; have hS' : Below wA.heap.size wA w' := hS'; have q8 := cellB hS' hy0_; have q9 := cellB hS' hy1_; go_simp; with_reducible rfl) ?_
                  refine pK 11 (some 87) (bA 16 2542) ?_
                  refine pK 12 (some 88) (bA 16 6638) ?_
                  refine pK 13 (some 89) (bA 16 14830) ?_
                  refine two_ (i := 0) (j := 9) (Ni := some 76) (Nj := some 85) (bA 16 14831) (bA 16 15342) rfl rfl rfl rfl (by kernel_rfl) (by decide) (by decide) (fun K hK => ?_) (fun K hK => ?_)
                  · refine Kd.R_lit_step k25 (w0 := wA) wA.heap.size 25 (by rfl) (N := 76) rfl (xs := ([] : List S25)) (inner := []) (ok := fun _ => True) (okp := fun _ => True) ?hrL_1 ?hpL_1 (fun _ hk => hk) trivial hS (below_size hS) (by simp) ?_
                    case hrL_1 => first | (go_simp; done) | (go_simp; rfl)
                    case hpL_1 => exact Reps.none _ _
                    intro vl wl hl hbl hgl hnw
                    clear hgl hnw
                    refine hK.out _ _ hbl (fun hS => ?_)
                    clear hK K hbl
                    refine nK (some 76) ?_
                    refine two_ (i := 4) (j := 9) (Ni := some 80) (Nj := some 85) (bA 16 14847) (bA 16 15343) rfl rfl rfl rfl (by kernel_rfl) (by decide) (by decide) (fun K hK => ?_) (fun K hK => ?_)
                    · refine Kd.R_append_rows_step k25 (w0 := wA) wA.heap.size (by rfl) (.tmp 76) (.tmp 79) 27 25 (.agg #[(.string ⟨#[]⟩), (.string ⟨#[]⟩)]) 32 rfl Try.underlying27 info25 rfl (by decide) (by omega) vl ([] : List S25) (out.take n) _ (out.take n).length co (fun _ => True) (fun _ => False) (by rfl) ?hx4_2 hl (Kd.C_take (Kd.C_below (Kd.R_reads' hR).2.2 hS) hnl) (fun _ _ h => h) (fun _ h => h.elim) (fun _ _ => trivial) hS (below_size hS) (by rw [List.length_take]; have := hln.out; have := hi.out; simp only [List.length_nil]; omega) ?_
                      case hx4_2 => (rw [List.length_take, Nat.min_eq_left hnl]; first | rfl | (go_simp; done) | (go_simp; rfl))
                      intro v2 w2 h2 hb2 hg2 hat2
                      rw [List.nil_append] at h2
                      clear hg2 hat2 hl
                      refine hK.out _ _ hb2 (fun hS => ?_)
                      clear hK K hb2
                      refine nK (some 80) ?_
                      refine one_ (i := 9) (N := some 85) (bA 16 15359) rfl rfl (by kernel_rfl) (by decide) (fun K hK => ?_)
                      refine ref_lit2 (c0 := .string x.f0) (c1 := .string x.f1) (t := 25) (by rfl) (by first | (go_simp; done) | (go_simp; rfl)) ?_
                      intro gX hg w9 bX hb9
                      replace h2 := Kd.R_below h2 hb9
                      clear hg
                      refine hK.out _ _ (below_step hS hb9) (fun hS => ?_)
                      clear hK K hb9
                      refine nK (some 85) ?_
                      refine one_ (i := 10) (N := some 86) (bA 16 16383) rfl rfl (by kernel_rfl) (by decide) (fun K hK => ?_)
                      refine Kd.R_append_rows_step k25 (w0 := wA) wA.heap.size (by rfl) (.tmp 80) (.tmp 85) 27 25 (.agg #[(.string ⟨#[]⟩), (.string ⟨#[]⟩)]) 32 rfl Try.underlying27 info25 rfl (by decide) (by omega) v2 (out.take n) [x] (some ⟨gX, 0, none⟩) 1 1 (fun _ => True) (fun _ => False) (by rfl) (by rfl) h2 (ref_one bX) (fun _ _ h => h) (fun _ h => h.elim) (fun _ _ => trivial) hS (below_size hS) (by rw [List.length_take]; have := hln.out; have := hi.out; omega) ?_
                      intro v3 w3 h3r hb3 hq1_ hq2_
                      clear hq1_ hq2_ h2 bX
                      refine hK.out _ _ hb3 (fun hS => ?_)
                      clear hK K hb3
                      refine nK (some 86) ?_
                      refine one_ (i := 14) (N := some 90) (bA 16 32767) rfl rfl (by kernel_rfl) (by decide) (fun K hK => ?_)
                      refine Kd.R_append_rows_step k25 (w0 := wA) wA.heap.size (by rfl) (.tmp 86) (.tmp 89) 27 25 (.agg #[(.string ⟨#[]⟩), (.string ⟨#[]⟩)]) 32 rfl Try.underlying27 info25 rfl (by decide) (by omega) v3 (out.take n ++ [x]) (out.drop n) _ (out.drop n).length (co - n) (fun _ => True) (fun _ => False) (by rfl) ?hx14_3 h3r (Kd.C_drop (c := co) (Kd.C_below (Kd.R_reads' hR).2.2 hS) hnl hco) (fun _ _ h => h) (fun _ h => h.elim) (fun _ _ => trivial) hS (below_size hS) (by rw [List.length_append, List.length_take, List.length_drop]; have := hln.out; have := hi.out; simp only [List.length_cons, List.length_nil]; omega) ?_
                      case hx14_3 => (rw [List.length_drop]; first | rfl | (go_simp; done) | (go_simp; rfl))
                      intro v4 w4 h4r hb4 hq1_ hq2_
                      clear hq1_ hq2_ h3r
                      refine hK.out _ _ hb4 (fun hS => ?_)
                      clear hK K hb4
                      refine nK (some 90) ?_
                      refine pK 15 (some 5) (bA 16 65535) ?_
                      refine done_ (by kernel_rfl) ?_
                      go_wp2
                      all_goals
                        go_roundg (4 - i)
                        case measure => exact hi.out.1
                        case rel => exact ⟨i + 1, out.take n ++ [x] ++ out.drop n, (by first | rfl | exact congrArg (Value.int .i64) hnx.out | exact congrArg (Value.int .i64) h33.out), ⟨by have := hln.out; have := hi.out; omega, by omega, by rw [List.length_append, List.length_append, List.length_take, List.length_drop]; simp only [List.length_cons, List.length_nil]; have := hi.out; omega⟩, ⟨hres.out⟩, ⟨Kd.R_lower h4r (below_size hB.out)⟩, ⟨below_step hB.out hS⟩⟩
                    · refine ref_lit2 (c0 := .string x.f0) (c1 := .string x.f1) (t := 25) (by rfl) (by first | (go_simp; done) | (go_simp; rfl)) ?_
                      intro gX hg w9 bX hb9
                      have hne : some gX ≠ vl.ownBlock := fun he => by have := Kd.R_lt hl _ he.symm; omega
                      replace hl := Kd.R_below hl hb9
                      clear hg
                      refine hK.out _ _ (below_step hS hb9) (fun hS => ?_)
                      clear hK K hb9
                      refine nK (some 85) ?_
                      refine one_ (i := 4) (N := some 80) (bA 16 15359) rfl rfl (by kernel_rfl) (by decide) (fun K hK => ?_)
                      refine Kd.R_append_rows_step k25 (w0 := wA) wA.heap.size (by rfl) (.tmp 76) (.tmp 79) 27 25 (.agg #[(.string ⟨#[]⟩), (.string ⟨#[]⟩)]) 32 rfl Try.underlying27 info25 rfl (by decide) (by omega) vl ([] : List S25) (out.take n) _ (out.take n).length co (fun _ => True) (fun _ => False) (by rfl) ?hx4_4 hl (Kd.C_take (Kd.C_below (Kd.R_reads' hR).2.2 hS) hnl) (fun _ _ h => h) (fun _ h => h.elim) (fun _ _ => trivial) hS (below_size hS) (by rw [List.length_take]; have := hln.out; have := hi.out; simp only [List.length_nil]; omega) ?_
                      case hx4_4 => (rw [List.length_take, Nat.min_eq_left hnl]; first | rfl | (go_simp; done) | (go_simp; rfl))
                      intro v2 w2 h2 hb2 hg2 hat2
                      rw [List.nil_append] at h2
                      replace bX := blk_grown bX hg2 hne
                      clear hne
                      clear hg2 hat2 hl
                      refine hK.out _ _ hb2 (fun hS => ?_)
                      clear hK K hb2
                      refine nK (some 80) ?_
                      refine one_ (i := 10) (N := some 86) (bA 16 16383) rfl rfl (by kernel_rfl) (by decide) (fun K hK => ?_)
                      refine Kd.R_append_rows_step k25 (w0 := wA) wA.heap.size (by rfl) (.tmp 80) (.tmp 85) 27 25 (.agg #[(.string ⟨#[]⟩), (.string ⟨#[]⟩)]) 32 rfl Try.underlying27 info25 rfl (by decide) (by omega) v2 (out.take n) [x] (some ⟨gX, 0, none⟩) 1 1 (fun _ => True) (fun _ => False) (by rfl) (by rfl) h2 (ref_one bX) (fun _ _ h => h) (fun _ h => h.elim) (fun _ _ => trivial) hS (below_size hS) (by rw [List.length_take]; have := hln.out; have := hi.out; omega) ?_
                      intro v3 w3 h3r hb3 hq1_ hq2_
                      clear hq1_ hq2_ h2 bX
                      refine hK.out _ _ hb3 (fun hS => ?_)
                      clear hK K hb3
                      refine nK (some 86) ?_
                      refine one_ (i := 14) (N := some 90) (bA 16 32767) rfl rfl (by kernel_rfl) (by decide) (fun K hK => ?_)
                      refine Kd.R_append_rows_step k25 (w0 := wA) wA.heap.size (by rfl) (.tmp 86) (.tmp 89) 27 25 (.agg #[(.string ⟨#[]⟩), (.string ⟨#[]⟩)]) 32 rfl Try.underlying27 info25 rfl (by decide) (by omega) v3 (out.take n ++ [x]) (out.drop n) _ (out.drop n).length (co - n) (fun _ => True) (fun _ => False) (by rfl) ?hx14_5 h3r (Kd.C_drop (c := co) (Kd.C_below (Kd.R_reads' hR).2.2 hS) hnl hco) (fun _ _ h => h) (fun _ h => h.elim) (fun _ _ => trivial) hS (below_size hS) (by rw [List.length_append, List.length_take, List.length_drop]; have := hln.out; have := hi.out; simp only [List.length_cons, List.length_nil]; omega) ?_
                      case hx14_5 => (rw [List.length_drop]; first | rfl | (go_simp; done) | (go_simp; rfl))
                      intro v4 w4 h4r hb4 hq1_ hq2_
                      clear hq1_ hq2_ h3r
                      refine hK.out _ _ hb4 (fun hS => ?_)
                      clear hK K hb4
                      refine nK (some 90) ?_
                      refine pK 15 (some 5) (bA 16 65535) ?_
                      refine done_ (by kernel_rfl) ?_
                      go_wp2
                      all_goals
                        go_roundg (4 - i)
                        case measure => exact hi.out.1
                        case rel => exact ⟨i + 1, out.take n ++ [x] ++ out.drop n, (by first | rfl | exact congrArg (Value.int .i64) hnx.out | exact congrArg (Value.int .i64) h33.out), ⟨by have := hln.out; have := hi.out; omega, by omega, by rw [List.length_append, List.length_append, List.length_take, List.length_drop]; simp only [List.length_cons, List.length_nil]; have := hi.out; omega⟩, ⟨hres.out⟩, ⟨Kd.R_lower h4r (below_size hB.out)⟩, ⟨below_step hB.out hS⟩⟩
                  · refine ref_lit2 (c0 := .string x.f0) (c1 := .string x.f1) (t := 25) (by rfl) (by first | (go_simp; done) | (go_simp; rfl)) ?_
                    intro gX hg w9 bX hb9
                    clear hg
                    refine hK.out _ _ (below_step hS hb9) (fun hS => ?_)
                    clear hK K hb9
                    refine nK (some 85) ?_
                    refine one_ (i := 0) (N := some 76) (bA 16 15343) rfl rfl (by kernel_rfl) (by decide) (fun K hK => ?_)
                    refine Kd.R_lit_step k25 (w0 := wA) wA.heap.size 25 (by rfl) (N := 76) rfl (xs := ([] : List S25)) (inner := []) (ok := fun _ => True) (okp := fun _ => True) ?hrL_6 ?hpL_6 (fun _ hk => hk) trivial hS (below_size hS) (by simp) ?_
                    case hrL_6 => first | (go_simp; done) | (go_simp; rfl)
                    case hpL_6 => exact Reps.none _ _
                    intro vl wl hl hbl hgl hnw
                    have hne : some gX ≠ vl.ownBlock := by obtain ⟨b_, e_, f_⟩ := hnw; rw [e_]; intro he; injection he with he; have := blk_lt bX; omega
                    replace bX := blk_grown bX hgl (by simp)
                    clear hgl hnw
                    refine hK.out _ _ hbl (fun hS => ?_)
                    clear hK K hbl
                    refine nK (some 76) ?_
                    refine one_ (i := 4) (N := some 80) (bA 16 15359) rfl rfl (by kernel_rfl) (by decide) (fun K hK => ?_)
                    refine Kd.R_append_rows_step k25 (w0 := wA) wA.heap.size (by rfl) (.tmp 76) (.tmp 79) 27 25 (.agg #[(.string ⟨#[]⟩), (.string ⟨#[]⟩)]) 32 rfl Try.underlying27 info25 rfl (by decide) (by omega) vl ([] : List S25) (out.take n) _ (out.take n).length co (fun _ => True) (fun _ => False) (by rfl) ?hx4_7 hl (Kd.C_take (Kd.C_below (Kd.R_reads' hR).2.2 hS) hnl) (fun _ _ h => h) (fun _ h => h.elim) (fun _ _ => trivial) hS (below_size hS) (by rw [List.length_take]; have := hln.out; have := hi.out; simp only [List.length_nil]; omega) ?_
                    case hx4_7 => (rw [List.length_take, Nat.min_eq_left hnl]; first | rfl | (go_simp; done) | (go_simp; rfl))
                    intro v2 w2 h2 hb2 hg2 hat2
                    rw [List.nil_append] at h2
                    replace bX := blk_grown bX hg2 hne
                    clear hne
                    clear hg2 hat2 hl
                    refine hK.out _ _ hb2 (fun hS => ?_)
                    clear hK K hb2
                    refine nK (some 80) ?_
                    refine one_ (i := 10) (N := some 86) (bA 16 16383) rfl rfl (by kernel_rfl) (by decide) (fun K hK => ?_)
                    refine Kd.R_append_rows_step k25 (w0 := wA) wA.heap.size (by rfl) (.tmp 80) (.tmp 85) 27 25 (.agg #[(.string ⟨#[]⟩), (.string ⟨#[]⟩)]) 32 rfl Try.underlying27 info25 rfl (by decide) (by omega) v2 (out.take n) [x] (some ⟨gX, 0, none⟩) 1 1 (fun _ => True) (fun _ => False) (by rfl) (by rfl) h2 (ref_one bX) (fun _ _ h => h) (fun _ h => h.elim) (fun _ _ => trivial) hS (below_size hS) (by rw [List.length_take]; have := hln.out; have := hi.out; omega) ?_
                    intro v3 w3 h3r hb3 hq1_ hq2_
                    clear hq1_ hq2_ h2 bX
                    refine hK.out _ _ hb3 (fun hS => ?_)
                    clear hK K hb3
                    refine nK (some 86) ?_
                    refine one_ (i := 14) (N := some 90) (bA 16 32767) rfl rfl (by kernel_rfl) (by decide) (fun K hK => ?_)
                    refine Kd.R_append_rows_step k25 (w0 := wA) wA.heap.size (by rfl) (.tmp 86) (.tmp 89) 27 25 (.agg #[(.string ⟨#[]⟩), (.string ⟨#[]⟩)]) 32 rfl Try.underlying27 info25 rfl (by decide) (by omega) v3 (out.take n ++ [x]) (out.drop n) _ (out.drop n).length (co - n) (fun _ => True) (fun _ => False) (by rfl) ?hx14_8 h3r (Kd.C_drop (c := co) (Kd.C_below (Kd.R_reads' hR).2.2 hS) hnl hco) (fun _ _ h => h) (fun _ h => h.elim) (fun _ _ => trivial) hS (below_size hS) (by rw [List.length_append, List.length_take, List.length_drop]; have := hln.out; have := hi.out; simp only [List.length_cons, List.length_nil]; omega) ?_
                    case hx14_8 => (rw [List.length_drop]; first | rfl | (go_simp; done) | (go_simp; rfl))
                    intro v4 w4 h4r hb4 hq1_ hq2_
                    clear hq1_ hq2_ h3r
                    refine hK.out _ _ hb4 (fun hS => ?_)
                    clear hK K hb4
                    refine nK (some 90) ?_
                    refine pK 15 (some 5) (bA 16 65535) ?_
                    refine done_ (by kernel_rfl) ?_
                    go_wp2
                    all_goals
                      go_roundg (4 - i)
                      case measure => exact hi.out.1
                      case rel => exact ⟨i + 1, out.take n ++ [x] ++ out.drop n, (by first | rfl | exact congrArg (Value.int .i64) hnx.out | exact congrArg (Value.int .i64) h33.out), ⟨by have := hln.out; have := hi.out; omega, by omega, by rw [List.length_append, List.length_append, List.length_take, List.length_drop]; simp only [List.length_cons, List.length_nil]; have := hi.out; omega⟩, ⟨hres.out⟩, ⟨Kd.R_lower h4r (below_size hB.out)⟩, ⟨below_step hB.out hS⟩⟩
                · rw [if_neg hls] at hp2
                  have hls2 : Op.bytesLess (rd_T25 out jx).f0.toList x.f0.toList = false := by simpa using hls
                  cases e8
                  by_cases heq : (rd_T25 out jx).f0.toList = x.f0.toList
                  · rw [if_pos heq] at hp2
                    have h6 := h4.out
                    unfold refIns at h6
                    rw [← hp2] at h6
                    have h7 : (([] : List S25), (25 : Int)) = (r1, r2) := h6
                    simp only [Prod.mk.injEq] at h7
                    obtain ⟨rfl, rfl⟩ := h7
                    have q6 : ((rd_T25 out jx).f0.toList == x.f0.toList) = true := beq_iff_eq.mpr heq
                    clear heq hp2 h6 hls
                    go_wp2
                    refine start_ (n := 16) (S := fun w' => w'.cell? (ad8.add (jx.toNat * 2)) = some (.string (rd_T25 out jx).f0) ∧ w'.cell? (ad.add (i * 2)) = some (.string x.f0)) (ds := []) (bA 16 0) (by kernel_rfl) rfl rfl ⟨g0, hx0⟩ (fun hHeld => ?_)
                    refine norm_ (by rfl) ?_
                    refine pK 0 (some 46) (bA 16 1) ?_
                    refine pK 1 (some 47) (bA 16 3) ?_
                    refine pK 2 (some 48) (bA 16 7) ?_
                    refine pK 3 (some 49) (bA 16 15) ?_
                    refine pK 4 (some 50) (bA 16 31) ?_
                    refine pK 5 (some 51) (bA 16 63) ?_
                    refine pK 6 (some 52) (bA 16 127) ?_
                    refine pK 7 (some 53) (bA 16 255) ?_
                    refine tK 8 (some 54) (bA 16 511) rfl rfl hHeld (by rintro w' ⟨s0, s1⟩; go_simp; with_reducible rfl) ?_
                    refine pK 9 (some 55) (bA 16 1023) ?_
                    refine pK 10 (some 56) (bA 16 2047) ?_
                    refine pK 11 (some 57) (bA 16 4095) ?_
                    refine pK 12 (some 58) (bA 16 8191) ?_
                    refine tK 13 (some 59) (bA 16 16383) rfl rfl hHeld (by rintro w' ⟨s0, s1⟩; go_simp; with_reducible rfl) ?_
                    refine pK 14 (some 60) (bA 16 32767) ?_
                    refine pK 15 (some 61) (bA 16 65535) ?_
                    refine done_ (by kernel_rfl) ?_
                    clear hHeld
                    go_wp2
                    repeat (go_quiet (fail); try go_wp2)
                    go_ret2
                    exact ⟨_, rfl, Kd.R_nil _ _ _ _ _, belN (below_step hB.out hB2.out)⟩
                  · rw [if_neg heq] at hp2
                    have q6 : ((rd_T25 out jx).f0.toList == x.f0.toList) = false := beq_eq_false_iff_ne.mpr heq
                    replace hp2 := Aside0.mk hp2
                    clear heq hls
                    go_wp2
                    refine start_ (n := 16) (S := fun w' => w'.cell? (ad8.add (jx.toNat * 2)) = some (.string (rd_T25 out jx).f0) ∧ w'.cell? (ad.add (i * 2)) = some (.string x.f0)) (ds := []) (bA 16 0) (by kernel_rfl) rfl rfl ⟨g0, hx0⟩ (fun hHeld => ?_)
                    refine norm_ (by rfl) ?_
                    refine pK 0 (some 46) (bA 16 1) ?_
                    refine pK 1 (some 47) (bA 16 3) ?_
                    refine pK 2 (some 48) (bA 16 7) ?_
                    refine pK 3 (some 49) (bA 16 15) ?_
                    refine pK 4 (some 50) (bA 16 31) ?_
                    refine pK 5 (some 51) (bA 16 63) ?_
                    refine pK 6 (some 52) (bA 16 127) ?_
                    refine pK 7 (some 53) (bA 16 255) ?_
                    refine tK 8 (some 54) (bA 16 511) rfl rfl hHeld (by rintro w' ⟨s0, s1⟩; go_simp; with_reducible rfl) ?_
                    refine pK 9 (some 55) (bA 16 1023) ?_
                    refine pK 10 (some 56) (bA 16 2047) ?_
                    refine pK 11 (some 57) (bA 16 4095) ?_
                    refine pK 12 (some 58) (bA 16 8191) ?_
                    refine tK 13 (some 59) (bA 16 16383) rfl rfl hHeld (by rintro w' ⟨s0, s1⟩; go_simp; with_reducible rfl) ?_
                    refine pK 14 (some 60) (bA 16 32767) ?_
                    refine pK 15 (some 61) (bA 16 65535) ?_
                    refine done_ (by kernel_rfl) ?_
                    clear hHeld
                    go_wp2
                    repeat (go_quiet (fail); try go_wp2)
                    go_roundg (q + 1)
                    case measure => exact hn.2
                    case rel => exact ⟨q, (by first | rfl | exact congrArg (Value.int .i64) hjA.out | exact congrArg (Value.int .i64) (hjx.trans hjA.out)), ⟨by omega, by omega⟩, ⟨hp2.out⟩, ⟨belN hB2.out⟩⟩
              · have hn1 : n = 0 := by omega
                have hpos : refPos x.f0 out out.length = some n := by rw [← hp.out, hn1]; rfl
                have q1 : decide (0 < (n : Int)) = false := decide_eq_false (by omega)
                have q2 : decide (0 < n) = false := decide_eq_false hn0
                go_wp2
                refine start_ (n := 16) (S := fun w' => True) (ds := []) (bA 16 0) (by kernel_rfl) rfl rfl trivial (fun hHeld => ?_)
                refine norm_ (by rfl) ?_
                refine pK 0 (some 46) (bA 16 1) ?_
                refine pK 1 (some 47) (bA 16 3) ?_
                refine pK 2 (some 48) (bA 16 7) ?_
                refine uK 3 (some 49) (bA 16 15) ?_
                refine uK 4 (some 50) (bA 16 31) ?_
                refine uK 5 (some 51) (bA 16 63) ?_
                refine uK 6 (some 52) (bA 16 127) ?_
                refine uK 7 (some 53) (bA 16 255) ?_
                refine uK 8 (some 54) (bA 16 511) ?_
                refine uK 9 (some 55) (bA 16 1023) ?_
                refine uK 10 (some 56) (bA 16 2047) ?_
                refine uK 11 (some 57) (bA 16 4095) ?_
                refine uK 12 (some 58) (bA 16 8191) ?_
                refine uK 13 (some 59) (bA 16 16383) ?_
                refine uK 14 (some 60) (bA 16 32767) ?_
                refine pK 15 (some 61) (bA 16 65535) ?_
                refine done_ (by kernel_rfl) ?_
                clear hHeld
                go_wp2
                clear q1 q2
                have hnl : n ≤ out.length := by omega
                have hres : Aside0 (refRes (refIns (out.take n ++ [x] ++ out.drop n) (l0.drop (i + 1))) = (r1, r2)) := ⟨by have h6 := h4.out; unfold refIns at h6; rw [hpos] at h6; exact h6⟩
                have hs1 : (0 ≤ (n : Int)) = True := eq_true (Int.natCast_nonneg n)
                have hs2 : ((n : Int) ≤ (co : Int)) = True := eq_true (by omega)
                have hs3 : ((n : Int) ≤ (out.length : Int)) = True := eq_true (by omega)
                have hs4 : n ≤ co := by omega
                have hs5 : n ≤ out.length := by omega
                refine start_ (n := 16) (S := fun w' => Below wA.heap.size wA w') (ds := []) (bA 16 0) (by kernel_rfl) rfl rfl (belN hB2.out) (fun hS => ?_)
                refine norm_ (by rfl) ?_
                clear hx0 hx1
                refine pK 1 (some 77) (bA 16 2) ?_
                refine pK 2 (some 78) (bA 16 6) ?_
                refine pK 3 (some 79) (bA 16 14) ?_
                refine pK 5 (some 81) (bA 16 46) ?_
                refine pK 6 (some 82) (bA 16 110) ?_
                refine pK 7 (some 83) (bA 16 238) ?_
                refine tK 8 (some 84) (bA 16 494) rfl rfl hS (by rintro w' hS'; have hS' : Below wA.heap.size wA w' := hS'; have q8 := cellB hS' hy0_; have q9 := cellB hS' hy1_; go_simp; with_reducible rfl) ?_
                refine pK 11 (some 87) (bA 16 2542) ?_
                refine pK 12 (some 88) (bA 16 6638) ?_
                refine pK 13 (some 89) (bA 16 14830) ?_
                refine two_ (i := 0) (j := 9) (Ni := some 76) (Nj := some 85) (bA 16 14831) (bA 16 15342) rfl rfl rfl rfl (by kernel_rfl) (by decide) (by decide) (fun K hK => ?_) (fun K hK => ?_)
                · refine Kd.R_lit_step k25 (w0 := wA) wA.heap.size 25 (by rfl) (N := 76) rfl (xs := ([] : List S25)) (inner := []) (ok := fun _ => True) (okp := fun _ => True) ?hrL_9 ?hpL_9 (fun _ hk => hk) trivial hS (below_size hS) (by simp) ?_
                  case hrL_9 => first | (go_simp; done) | (go_simp; rfl)
                  case hpL_9 => exact Reps.none _ _
                  intro vl wl hl hbl hgl hnw
                  clear hgl hnw
                  refine hK.out _ _ hbl (fun hS => ?_)
                  clear hK K hbl
                  refine nK (some 76) ?_
                  refine two_ (i := 4) (j := 9) (Ni := some 80) (Nj := some 85) (bA 16 14847) (bA 16 15343) rfl rfl rfl rfl (by kernel_rfl) (by decide) (by decide) (fun K hK => ?_) (fun K hK => ?_)
                  · refine Kd.R_append_rows_step k25 (w0 := wA) wA.heap.size (by rfl) (.tmp 76) (.tmp 79) 27 25 (.agg #[(.string ⟨#[]⟩), (.string ⟨#[]⟩)]) 32 rfl Try.underlying27 info25 rfl (by decide) (by omega) vl ([] : List S25) (out.take n) _ (out.take n).length co (fun _ => True) (fun _ => False) (by rfl) ?hx4_10 hl (Kd.C_take (Kd.C_below (Kd.R_reads' hR).2.2 hS) hnl) (fun _ _ h => h) (fun _ h => h.elim) (fun _ _ => trivial) hS (below_size hS) (by rw [List.length_take]; have := hln.out; have := hi.out; simp only [List.length_nil]; omega) ?_
                    case hx4_10 => (rw [List.length_take, Nat.min_eq_left hnl]; first | rfl | (go_simp; done) | (go_simp; rfl))
                    intro v2 w2 h2 hb2 hg2 hat2
                    rw [List.nil_append] at h2
                    clear hg2 hat2 hl
                    refine hK.out _ _ hb2 (fun hS => ?_)
                    clear hK K hb2
                    refine nK (some 80) ?_
                    refine one_ (i := 9) (N := some 85) (bA 16 15359) rfl rfl (by kernel_rfl) (by decide) (fun K hK => ?_)
                    refine ref_lit2 (c0 := .string x.f0) (c1 := .string x.f1) (t := 25) (by rfl) (by first | (go_simp; done) | (go_simp; rfl)) ?_
                    intro gX hg w9 bX hb9
                    replace h2 := Kd.R_below h2 hb9
                    clear hg
                    refine hK.out _ _ (below_step hS hb9) (fun hS => ?_)
                    clear hK K hb9
                    refine nK (some 85) ?_
                    refine one_ (i := 10) (N := some 86) (bA 16 16383) rfl rfl (by kernel_rfl) (by decide) (fun K hK => ?_)
                    refine Kd.R_append_rows_step k25 (w0 := wA) wA.heap.size (by rfl) (.tmp 80) (.tmp 85) 27 25 (.agg #[(.string ⟨#[]⟩), (.string ⟨#[]⟩)]) 32 rfl Try.underlying27 info25 rfl (by decide) (by omega) v2 (out.take n) [x] (some ⟨gX, 0, none⟩) 1 1 (fun _ => True) (fun _ => False) (by rfl) (by rfl) h2 (ref_one bX) (fun _ _ h => h) (fun _ h => h.elim) (fun _ _ => trivial) hS (below_size hS) (by rw [List.length_take]; have := hln.out; have := hi.out; omega) ?_
                    intro v3 w3 h3r hb3 hq1_ hq2_
                    clear hq1_ hq2_ h2 bX
                    refine hK.out _ _ hb3 (fun hS => ?_)
                    clear hK K hb3
                    refine nK (some 86) ?_
                    refine one_ (i := 14) (N := some 90) (bA 16 32767) rfl rfl (by kernel_rfl) (by decide) (fun K hK => ?_)
                    refine Kd.R_append_rows_step k25 (w0 := wA) wA.heap.size (by rfl) (.tmp 86) (.tmp 89) 27 25 (.agg #[(.string ⟨#[]⟩), (.string ⟨#[]⟩)]) 32 rfl Try.underlying27 info25 rfl (by decide) (by omega) v3 (out.take n ++ [x]) (out.drop n) _ (out.drop n).length (co - n) (fun _ => True) (fun _ => False) (by rfl) ?hx14_11 h3r (Kd.C_drop (c := co) (Kd.C_below (Kd.R_reads' hR).2.2 hS) hnl hco) (fun _ _ h => h) (fun _ h => h.elim) (fun _ _ => trivial) hS (below_size hS) (by rw [List.length_append, List.length_take, List.length_drop]; have := hln.out; have := hi.out; simp only [List.length_cons, List.length_nil]; omega) ?_
                    case hx14_11 => (rw [List.length_drop]; first | rfl | (go_simp; done) | (go_simp; rfl))
                    intro v4 w4 h4r hb4 hq1_ hq2_
                    clear hq1_ hq2_ h3r
                    refine hK.out _ _ hb4 (fun hS => ?_)
                    clear hK K hb4
                    refine nK (some 90) ?_
                    refine pK 15 (some 5) (bA 16 65535) ?_
                    refine done_ (by kernel_rfl) ?_
                    go_wp2
                    all_goals
                      go_roundg (4 - i)
                      case measure => exact hi.out.1
                      case rel => exact ⟨i + 1, out.take n ++ [x] ++ out.drop n, (by first | rfl | exact congrArg (Value.int .i64) hnx.out | exact congrArg (Value.int .i64) h33.out), ⟨by have := hln.out; have := hi.out; omega, by omega, by rw [List.length_append, List.length_append, List.length_take, List.length_drop]; simp only [List.length_cons, List.length_nil]; have := hi.out; omega⟩, ⟨hres.out⟩, ⟨Kd.R_lower h4r (below_size hB.out)⟩, ⟨below_step hB.out hS⟩⟩
                  · refine ref_lit2 (c0 := .string x.f0) (c1 := .string x.f1) (t := 25) (by rfl) (by first | (go_simp; done) | (go_simp; rfl)) ?_
                    intro gX hg w9 bX hb9
                    have hne : some gX ≠ vl.ownBlock := fun he => by have := Kd.R_lt hl _ he.symm; omega
                    replace hl := Kd.R_below hl hb9
                    clear hg
                    refine hK.out _ _ (below_step hS hb9) (fun hS => ?_)
                    clear hK K hb9
                    refine nK (some 85) ?_
                    refine one_ (i := 4) (N := some 80) (bA 16 15359) rfl rfl (by kernel_rfl) (by decide) (fun K hK => ?_)
                    refine Kd.R_append_rows_step k25 (w0 := wA) wA.heap.size (by rfl) (.tmp 76) (.tmp 79) 27 25 (.agg #[(.string ⟨#[]⟩), (.string ⟨#[]⟩)]) 32 rfl Try.underlying27 info25 rfl (by decide) (by omega) vl ([] : List S25) (out.take n) _ (out.take n).length co (fun _ => True) (fun _ => False) (by rfl) ?hx4_12 hl (Kd.C_take (Kd.C_below (Kd.R_reads' hR).2.2 hS) hnl) (fun _ _ h => h) (fun _ h => h.elim) (fun _ _ => trivial) hS (below_size hS) (by rw [List.length_take]; have := hln.out; have := hi.out; simp only [List.length_nil]; omega) ?_
                    case hx4_12 => (rw [List.length_take, Nat.min_eq_left hnl]; first | rfl | (go_simp; done) | (go_simp; rfl))
                    intro v2 w2 h2 hb2 hg2 hat2
                    rw [List.nil_append] at h2
                    replace bX := blk_grown bX hg2 hne
                    clear hne
                    clear hg2 hat2 hl
                    refine hK.out _ _ hb2 (fun hS => ?_)
                    clear hK K hb2
                    refine nK (some 80) ?_
                    refine one_ (i := 10) (N := some 86) (bA 16 16383) rfl rfl (by kernel_rfl) (by decide) (fun K hK => ?_)
                    refine Kd.R_append_rows_step k25 (w0 := wA) wA.heap.size (by rfl) (.tmp 80) (.tmp 85) 27 25 (.agg #[(.string ⟨#[]⟩), (.string ⟨#[]⟩)]) 32 rfl Try.underlying27 info25 rfl (by decide) (by omega) v2 (out.take n) [x] (some ⟨gX, 0, none⟩) 1 1 (fun _ => True) (fun _ => False) (by rfl) (by rfl) h2 (ref_one bX) (fun _ _ h => h) (fun _ h => h.elim) (fun _ _ => trivial) hS (below_size hS) (by rw [List.length_take]; have := hln.out; have := hi.out; omega) ?_
                    intro v3 w3 h3r hb3 hq1_ hq2_
                    clear hq1_ hq2_ h2 bX
                    refine hK.out _ _ hb3 (fun hS => ?_)
                    clear hK K hb3
                    refine nK (some 86) ?_
                    refine one_ (i := 14) (N := some 90) (bA 16 32767) rfl rfl (by kernel_rfl) (by decide) (fun K hK => ?_)
                    refine Kd.R_append_rows_step k25 (w0 := wA) wA.heap.size (by rfl) (.tmp 86) (.tmp 89) 27 25 (.agg #[(.string ⟨#[]⟩), (.string ⟨#[]⟩)]) 32 rfl Try.underlying27 info25 rfl (by decide) (by omega) v3 (out.take n ++ [x]) (out.drop n) _ (out.drop n).length (co - n) (fun _ => True) (fun _ => False) (by rfl) ?hx14_13 h3r (Kd.C_drop (c := co) (Kd.C_below (Kd.R_reads' hR).2.2 hS) hnl hco) (fun _ _ h => h) (fun _ h => h.elim) (fun _ _ => trivial) hS (below_size hS) (by rw [List.length_append, List.length_take, List.length_drop]; have := hln.out; have := hi.out; simp only [List.length_cons, List.length_nil]; omega) ?_
                    case hx14_13 => (rw [List.length_drop]; first | rfl | (go_simp; done) | (go_simp; rfl))
                    intro v4 w4 h4r hb4 hq1_ hq2_
                    clear hq1_ hq2_ h3r
                    refine hK.out _ _ hb4 (fun hS => ?_)
                    clear hK K hb4
                    refine nK (some 90) ?_
                    refine pK 15 (some 5) (bA 16 65535) ?_
                    refine done_ (by kernel_rfl) ?_
                    go_wp2
                    all_goals
                      go_roundg (4 - i)
                      case measure => exact hi.out.1
                      case rel => exact ⟨i + 1, out.take n ++ [x] ++ out.drop n, (by first | rfl | exact congrArg (Value.int .i64) hnx.out | exact congrArg (Value.int .i64) h33.out), ⟨by have := hln.out; have := hi.out; omega, by omega, by rw [List.length_append, List.length_append, List.length_take, List.length_drop]; simp only [List.length_cons, List.length_nil]; have := hi.out; omega⟩, ⟨hres.out⟩, ⟨Kd.R_lower h4r (below_size hB.out)⟩, ⟨below_step hB.out hS⟩⟩
                · refine ref_lit2 (c0 := .string x.f0) (c1 := .string x.f1) (t := 25) (by rfl) (by first | (go_simp; done) | (go_simp; rfl)) ?_
                  intro gX hg w9 bX hb9
                  clear hg
                  refine hK.out _ _ (below_step hS hb9) (fun hS => ?_)
                  clear hK K hb9
                  refine nK (some 85) ?_
                  refine one_ (i := 0) (N := some 76) (bA 16 15343) rfl rfl (by kernel_rfl) (by decide) (fun K hK => ?_)
                  refine Kd.R_lit_step k25 (w0 := wA) wA.heap.size 25 (by rfl) (N := 76) rfl (xs := ([] : List S25)) (inner := []) (ok := fun _ => True) (okp := fun _ => True) ?hrL_14 ?hpL_14 (fun _ hk => hk) trivial hS (below_size hS) (by simp) ?_
                  case hrL_14 => first | (go_simp; done) | (go_simp; rfl)
                  case hpL_14 => exact Reps.none _ _
                  intro vl wl hl hbl hgl hnw
                  have hne : some gX ≠ vl.ownBlock := by obtain ⟨b_, e_, f_⟩ := hnw; rw [e_]; intro he; injection he with he; have := blk_lt bX; omega
                  replace bX := blk_grown bX hgl (by simp)
                  clear hgl hnw
                  refine hK.out _ _ hbl (fun hS => ?_)
                  clear hK K hbl
                  refine nK (some 76) ?_
                  refine one_ (i := 4) (N := some 80) (bA 16 15359) rfl rfl (by kernel_rfl) (by decide) (fun K hK => ?_)
                  refine Kd.R_append_rows_step k25 (w0 := wA) wA.heap.size (by rfl) (.tmp 76) (.tmp 79) 27 25 (.agg #[(.string ⟨#[]⟩), (.string ⟨#[]⟩)]) 32 rfl Try.underlying27 info25 rfl (by decide) (by omega) vl ([] : List S25) (out.take n) _ (out.take n).length co (fun _ => True) (fun _ => False) (by rfl) ?hx4_15 hl (Kd.C_take (Kd.C_below (Kd.R_reads' hR).2.2 hS) hnl) (fun _ _ h => h) (fun _ h => h.elim) (fun _ _ => trivial) hS (below_size hS) (by rw [List.length_take]; have := hln.out; have := hi.out; simp only [List.length_nil]; omega) ?_
                  case hx4_15 => (rw [List.length_take, Nat.min_eq_left hnl]; first | rfl | (go_simp; done) | (go_simp; rfl))
                  intro v2 w2 h2 hb2 hg2 hat2
                  rw [List.nil_append] at h2
                  replace bX := blk_grown bX hg2 hne
                  clear hne
                  clear hg2 hat2 hl
                  refine hK.out _ _ hb2 (fun hS => ?_)
                  clear hK K hb2
                  refine nK (some 80) ?_
                  refine one_ (i := 10) (N := some 86) (bA 16 16383) rfl rfl (by kernel_rfl) (by decide) (fun K hK => ?_)
                  refine Kd.R_append_rows_step k25 (w0 := wA) wA.heap.size (by rfl) (.tmp 80) (.tmp 85) 27 25 (.agg #[(.string ⟨#[]⟩), (.string ⟨#[]⟩)]) 32 rfl Try.underlying27 info25 rfl (by decide) (by omega) v2 (out.take n) [x] (some ⟨gX, 0, none⟩) 1 1 (fun _ => True) (fun _ => False) (by rfl) (by rfl) h2 (ref_one bX) (fun _ _ h => h) (fun _ h => h.elim) (fun _ _ => trivial) hS (below_size hS) (by rw [List.length_take]; have := hln.out; have := hi.out; omega) ?_
                  intro v3 w3 h3r hb3 hq1_ hq2_
                  clear hq1_ hq2_ h2 bX
                  refine hK.out _ _ hb3 (fun hS => ?_)
                  clear hK K hb3
                  refine nK (some 86) ?_
                  refine one_ (i := 14) (N := some 90) (bA 16 32767) rfl rfl (by kernel_rfl) (by decide) (fun K hK => ?_)
                  refine Kd.R_append_rows_step k25 (w0 := wA) wA.heap.size (by rfl) (.tmp 86) (.tmp 89) 27 25 (.agg #[(.string ⟨#[]⟩), (.string ⟨#[]⟩)]) 32 rfl Try.underlying27 info25 rfl (by decide) (by omega) v3 (out.take n ++ [x]) (out.drop n) _ (out.drop n).length (co - n) (fun _ => True) (fun _ => False) (by rfl) ?hx14_16 h3r (Kd.C_drop (c := co) (Kd.C_below (Kd.R_reads' hR).2.2 hS) hnl hco) (fun _ _ h => h) (fun _ h => h.elim) (fun _ _ => trivial) hS (below_size hS) (by rw [List.length_append, List.length_take, List.length_drop]; have := hln.out; have := hi.out; simp only [List.length_cons, List.length_nil]; omega) ?_
                  case hx14_16 => (rw [List.length_drop]; first | rfl | (go_simp; done) | (go_simp; rfl))
                  intro v4 w4 h4r hb4 hq1_ hq2_
                  clear hq1_ hq2_ h3r
                  refine hK.out _ _ hb4 (fun hS => ?_)
                  clear hK K hb4
                  refine nK (some 90) ?_
                  refine pK 15 (some 5) (bA 16 65535) ?_
                  refine done_ (by kernel_rfl) ?_
                  go_wp2
                  all_goals
                    go_roundg (4 - i)
                    case measure => exact hi.out.1
                    case rel => exact ⟨i + 1, out.take n ++ [x] ++ out.drop n, (by first | rfl | exact congrArg (Value.int .i64) hnx.out | exact congrArg (Value.int .i64) h33.out), ⟨by have := hln.out; have := hi.out; omega, by omega, by rw [List.length_append, List.length_append, List.length_take, List.length_drop]; simp only [List.length_cons, List.length_nil]; have := hi.out; omega⟩, ⟨hres.out⟩, ⟨Kd.R_lower h4r (below_size hB.out)⟩, ⟨below_step hB.out hS⟩⟩
          · have q1 : decide ((i : Int) < (l0.length : Int)) = false := decide_eq_false (by omega)
            have q2 : decide (i < l0.length) = false := decide_eq_false hil
            have h4 := h3.out
            rw [List.drop_of_length_le (by have := hi.out; omega)] at h4
            have h5 : (out, (0 : Int)) = (r1, r2) := h4
            simp only [Prod.mk.injEq] at h5
            obtain ⟨rfl, rfl⟩ := h5
            go_wp2
            go_ret2
            exact ⟨_, rfl, rowN hR, belN hB.out⟩

/-! ### marigraphref12_Same: function 17 -/
def marigraphref12_Same.l0 : Nat → List (S25) → List (S25) → Int → Option (Bool)
 | 0, _, _, _ => none
 | k + 1, x0, x1, x5 => if x5 < (x0.length : Int) then (if 0 ≤ x5 then (if x5 < (x1.length : Int) then (if (!((((rd_T25 x0 x5).f0).toList) == (((rd_T25 x1 x5).f0).toList)) || (!((((rd_T25 x0 x5).f1).toList) == (((rd_T25 x1 x5).f1).toList)))) = true then (some false) else (marigraphref12_Same.l0 k x0 x1 (wrap64 (x5 + 1)))) else (none)) else (none)) else (some true)
def marigraphref12_Same.f (k : Nat) (l0 : List (S25)) (l1 : List (S25)) : Option (Bool) := if (l0.length : Int) = (l1.length : Int) then (marigraphref12_Same.l0 k l0 l1 0) else (some false)
theorem marigraphref12_Same.mono_l : ∀ k, (∀ y0 y1 y2, LeO (marigraphref12_Same.l0 k y0 y1 y2) (marigraphref12_Same.l0 (k + 1) y0 y1 y2))
 | 0 => fun _ _ _ r h => by simp [marigraphref12_Same.l0] at h
 | k + 1 => by
  have ih0 := marigraphref12_Same.mono_l k
  ·intro y0 y1 y2
   unfold marigraphref12_Same.l0
   repeat' first
   | (with_reducible exact ih0 _ _ _)
   | (with_reducible exact LeO.refl _)
   | (with_reducible exact LeO.none _)
   | (with_reducible refine LeO.ite ?_ ?_)
   | (with_reducible refine LeO.bind ?_ (fun _ => ?_))
   | exact ih0 _ _ _
   | exact LeO.none _
   | refine LeO.ite ?_ ?_
   | refine LeO.bind ?_ (fun _ => ?_)
theorem marigraphref12_Same.mono : ∀ a0 a1 k, LeO (marigraphref12_Same.f k a0 a1) (marigraphref12_Same.f (k + 1) a0 a1) := by
 intro a0 a1 k
 have ih0 := marigraphref12_Same.mono_l k
 unfold marigraphref12_Same.f
 repeat' first
   | (with_reducible exact ih0 _ _ _)
   | (with_reducible exact LeO.refl _)
   | (with_reducible exact LeO.none _)
   | (with_reducible refine LeO.ite ?_ ?_)
   | (with_reducible refine LeO.bind ?_ (fun _ => ?_))
   | exact ih0 _ _ _
   | exact LeO.none _
   | refine LeO.ite ?_ ?_
   | refine LeO.bind ?_ (fun _ => ?_)
set_option maxHeartbeats 8000000 in
set_option maxRecDepth 100000 in
theorem marigraphref12_Same.calls (k : Nat) (A0 : Option Addr) (c0 : Nat) (l0 : List (S25)) (A1 : Option Addr) (c1 : Nat) (l1 : List (S25)) (r : Bool) (w : World) (hr0 : Kd.C k25 w A0 l0.length l0) (hc0 : l0.length ≤ c0) (hr1 : Kd.C k25 w A1 l1.length l1) (hc1 : l1.length ≤ c1) (h : marigraphref12_Same.f k l0 l1 = some r) :
  Calls Try.prog 17 #[.slice A0 l0.length c0, .slice A1 l1.length c1] w fun e w' => e = .returned (.bool r) ∧ Drawn0 w w' := by
 have hu25 := Try.underlying25
 have HR0 := Aside0.mk hr0
 have HC0 := Aside0.mk hc0
 clear hr0 hc0
 have HR1 := Aside0.mk hr1
 have HC1 := Aside0.mk hc1
 clear hr1 hc1
 have H : (if (l0.length : Int) = (l1.length : Int) then (marigraphref12_Same.l0 k l0 l1 0) else (some false)) = some r := h
 clear h
 by_cases c3 : (l0.length : Int) = (l1.length : Int)
 ·rw [if_pos c3] at H
  have c3b0 : ((l0.length : Int) == (l1.length : Int)) = true := beq_iff_eq.mpr c3
  have c3b1 : ((l0.length : Int) != (l1.length : Int)) = false := bne_eq_false_iff_eq.mpr c3
  have c3b2 : (l0.length == l1.length) = true := by first | simpa using c3 | (simp at c3 ⊢; omega)
  clear c3
  have H' := Aside0.mk H
  clear H
  go_enter Try.func17, Try.ntmps17
  go_wp2
  repeat (go_quiet (fail); try go_wp2)
  go_loopg [5] k (fun kq v5 w' => ∃ (x5_1 : Int), v5 = .int .i64 x5_1 ∧ Aside0 (marigraphref12_Same.l0 kq l0 l1 x5_1 = some r) ∧ Aside0 (kq ≤ k) ∧ Drawn0 w w')
  case atStart => exact ⟨(0), (by first | rfl | (simp; done) | (simp [*]; done)), H', ⟨Nat.le_refl _⟩, by repeat (first | exact Drawn0.refl _ | apply Drawn0.step)⟩
  case round =>
   clear H'
   try clear c1
   try clear p2
   try clear c3
   try clear c3b0
   try clear c3b1
   try clear c3b2
   obtain ⟨x5_1, rfl, HA, HK1, ⟨m1, rfl⟩⟩ := hrel
   cases gk with
   | zero => exact absurd HA.out (by simp [marigraphref12_Same.l0])
   | succ k1 =>
    have H := HA.out
    clear HA
    simp only [marigraphref12_Same.l0] at H
    by_cases c4 : x5_1 < (l0.length : Int)
    ·rw [if_pos c4] at H
     have c4b0 : decide (x5_1 < (l0.length : Int)) = true := decide_eq_true c4
     clear c4
     by_cases c5 : 0 ≤ x5_1
     ·rw [if_pos c5] at H
      have c5b0 : decide (0 ≤ x5_1) = true := decide_eq_true c5
      clear c5
      by_cases c6 : x5_1 < (l1.length : Int)
      ·rw [if_pos c6] at H
       have c6b0 : decide (x5_1 < (l1.length : Int)) = true := decide_eq_true c6
       clear c6
       by_cases c7 : (!((((rd_T25 l0 x5_1).f0).toList) == (((rd_T25 l1 x5_1).f0).toList)) || (!((((rd_T25 l0 x5_1).f1).toList) == (((rd_T25 l1 x5_1).f1).toList)))) = true
       ·rw [if_pos c7] at H
        have c7b0 : (!((((rd_T25 l0 x5_1).f0).toList) == (((rd_T25 l1 x5_1).f0).toList)) || (!((((rd_T25 l0 x5_1).f1).toList) == (((rd_T25 l1 x5_1).f1).toList)))) = true := c7
        clear c7
        obtain rfl := Option.some.inj H
        have p124 : 0 ≤ (x5_1 : Int) := of_decide_eq_true (by first | (with_reducible assumption) | assumption)
        have q124 : x5_1 < (l0.length : Int) := of_decide_eq_true (by first | (with_reducible assumption) | assumption)
        obtain ⟨ad124, e124, hx124_0, hx124_1⟩ := at_T25 HR0.out x5_1 p124 q124
        cases e124
        replace p124 := eq_true p124
        replace q124 := eq_true q124
        have p125 : 0 ≤ (x5_1 : Int) := of_decide_eq_true (by first | (with_reducible assumption) | assumption)
        have q125 : x5_1 < (l1.length : Int) := of_decide_eq_true (by first | (with_reducible assumption) | assumption)
        obtain ⟨ad125, e125, hx125_0, hx125_1⟩ := at_T25 HR1.out x5_1 p125 q125
        cases e125
        replace p125 := eq_true p125
        replace q125 := eq_true q125
        go_wp2
        repeat (go_quiet (fail); try go_wp2)
        go_ret
        exact ⟨by first | rfl | (simp; done) | (simp [*]; done), by repeat (first | exact Drawn0.refl _ | apply Drawn0.step)⟩
       ·rw [if_neg c7] at H
        have c7b0 : (!((((rd_T25 l0 x5_1).f0).toList) == (((rd_T25 l1 x5_1).f0).toList)) || (!((((rd_T25 l0 x5_1).f1).toList) == (((rd_T25 l1 x5_1).f1).toList)))) = false := by simpa using c7
        clear c7
        have H' := Aside0.mk H
        clear H
        have p124 : 0 ≤ (x5_1 : Int) := of_decide_eq_true (by first | (with_reducible assumption) | assumption)
        have q124 : x5_1 < (l0.length : Int) := of_decide_eq_true (by first | (with_reducible assumption) | assumption)
        obtain ⟨ad124, e124, hx124_0, hx124_1⟩ := at_T25 HR0.out x5_1 p124 q124
        cases e124
        replace p124 := eq_true p124
        replace q124 := eq_true q124
        have p125 : 0 ≤ (x5_1 : Int) := of_decide_eq_true (by first | (with_reducible assumption) | assumption)
        have q125 : x5_1 < (l1.length : Int) := of_decide_eq_true (by first | (with_reducible assumption) | assumption)
        obtain ⟨ad125, e125, hx125_0, hx125_1⟩ := at_T25 HR1.out x5_1 p125 q125
        cases e125
        replace p125 := eq_true p125
        replace q125 := eq_true q125
        go_wp2
        repeat (go_quiet (fail); try go_wp2)
        go_roundg k1
        case measure => have := HK1.out; omega
        case rel => exact ⟨(wrap64 (x5_1 + 1)), (by first | rfl | (simp; done) | (simp [*]; done)), H', ⟨by have := HK1.out; omega⟩, by repeat (first | exact Drawn0.refl _ | apply Drawn0.step)⟩
      ·rw [if_neg c6] at H
       exact absurd H (by simp)
     ·rw [if_neg c5] at H
      exact absurd H (by simp)
    ·rw [if_neg c4] at H
     have c4b0 : decide (x5_1 < (l0.length : Int)) = false := decide_eq_false c4
     clear c4
     obtain rfl := Option.some.inj H
     go_wp2
     repeat (go_quiet (fail); try go_wp2)
     go_ret
     exact ⟨by first | rfl | (simp; done) | (simp [*]; done), by repeat (first | exact Drawn0.refl _ | apply Drawn0.step)⟩
 ·rw [if_neg c3] at H
  have c3b0 : ((l0.length : Int) == (l1.length : Int)) = false := beq_eq_false_iff_ne.mpr c3
  have c3b1 : ((l0.length : Int) != (l1.length : Int)) = true := bne_iff_ne.mpr c3
  have c3b2 : (l0.length == l1.length) = false := by first | simpa using c3 | (simp at c3 ⊢; omega)
  obtain rfl := Option.some.inj H
  go_enter Try.func17, Try.ntmps17
  go_wp2
  repeat (go_quiet (fail); try go_wp2)
  go_ret
  exact ⟨by first | rfl | (simp; done) | (simp [*]; done), by repeat (first | exact Drawn0.refl _ | apply Drawn0.step)⟩

end Go.Proofs.Ytfijbkabjmgomaa.PNameTells

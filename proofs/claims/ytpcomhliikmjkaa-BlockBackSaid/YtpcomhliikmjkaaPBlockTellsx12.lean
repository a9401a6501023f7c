/- The walk of Seek and of the law BlockBack, by hand: what is sought is found, and what lies between is the next. No condition beyond the statement's own. -/
import Derived.Test.YtpcomhliikmjkaaPBlockTellsx1
import Derived.Test.YtpcomhliikmjkaaPBlockTellsx2
import Derived.Test.YtpcomhliikmjkaaPBlockTellsx3
import Derived.Test.YtpcomhliikmjkaaPBlockTellsx4
import Derived.Test.YtpcomhliikmjkaaPBlockTellsx5
import Derived.Test.YtpcomhliikmjkaaPBlockTellsx6
import Derived.Test.YtpcomhliikmjkaaPBlockTellsx8
import Derived.Outline
namespace Go.Proofs.Ytpcomhliikmjkaa.PBlockTells
open Go.RowKit Go.Proofs.YtpcomhliikmjkaaW.PrintWords Go.Proofs.YtpcomhliikmjkaaW.PrintLast Go.Proofs.YtpcomhliikmjkaaW.PrintMore
attribute [local go_sem] max2_int min2_int max_two min_two max_three min_three max_four min_four   -- for this text's walks alone
set_option linter.unusedVariables false
set_option linter.unusedSimpArgs false

/-! ### block.Seek: functions 16, 34 (slices.IndexFunc), 35 (its closure), by hand -/
def lessB (a b : List Int) : Bool := decide (Lib.compareBytes (Lib.bytesOf a) (Lib.bytesOf b) < 0)
theorem less_f (a b : List Int) : octet_Less.f a b = some (lessB a b) := rfl
/-- The first entry that does not stand ahead of a key: its place, from i on; -1: none. -/
def seekGo (key : List Int) : List S34 → Nat → Int
  | [], _ => -1
  | x :: r, i => if lessB x.f0 key = true then seekGo key r (i + 1) else (i : Int)
theorem drop_rdS {l : List S34} {i : Nat} (h : i < l.length) : l.drop i = rd_T34 l (i : Int) :: l.drop (i + 1) := by
  rw [List.drop_eq_getElem_cons h]
  unfold rd_T34
  rw [Int.toNat_natCast, List.getD_eq_getElem?_getD, List.getElem?_eq_getElem h]
  rfl
set_option maxHeartbeats 8000000 in
set_option maxRecDepth 100000 in
theorem seek1_calls (w : World) (gk : Nat) (AK : Option Addr) (cK : Nat) (key : List Int) (x : S34) (X0 : Option Addr) (y0 : Nat) (X1 : Option Addr) (y1 : Nat)
    (hb : w.heap[gk]? = some (.cells #[.slice AK key.length cK] 26 (0, 0))) (hK : Kd.C (Kd.int .u8) w AK key.length key) (hcK : key.length ≤ cK) (hX : Kd.C (Kd.int .u8) w X0 x.f0.length x.f0) (hcX : x.f0.length ≤ y0) :
    Calls Try.prog 35 #[.agg #[.slice X0 x.f0.length y0, .slice X1 x.f1.length y1, .bool x.f2], .pointer (some ⟨gk, 0, none⟩)] w fun e w' => e = .returned (.bool (!lessB x.f0 key)) ∧ Below w.heap.size w w' := by
  have hu34 := Try.underlying34
  have hb2 := blk_alloc hb (Obj.cells #[Value.slice X0 x.f0.length y0, Value.slice X1 x.f1.length y1, Value.bool x.f2] 34)
  have hn2 := blk_new w (Obj.cells #[Value.slice X0 x.f0.length y0, Value.slice X1 x.f1.length y1, Value.bool x.f2] 34)
  have hB : Below w.heap.size w (w.alloc (Obj.cells #[Value.slice X0 x.f0.length y0, Value.slice X1 x.f1.length y1, Value.bool x.f2] 34)) := below_alloc (Below.refl _ _) _
  have hK2 := Aside0.mk (Kd.C_below hK hB)
  have hX2 := Aside0.mk (Kd.C_below hX hB)
  go_enter Try.func35, Try.ntmps35
  go_upto_region 1 with (fail)
  generalize (w.alloc (Obj.cells #[Value.slice X0 x.f0.length y0, Value.slice X1 x.f1.length y1, Value.bool x.f2] 34)) = w1 at hb2 hn2 hB hK2 hX2 ⊢
  replace hB := Aside0.mk hB
  generalize w.heap.size = gx at hn2 ⊢
  have z0 := (blk_cell hn2 0).trans rfl
  have z1 := (blk_cell hb2 0).trans rfl
  clear hb hK hX hb2 hn2
  go_wp2_with (go_at_call 36; refine (octet_Less.calls X0 y0 x.f0 AK cK key _ _ hX2.out hcX hK2.out hcK (less_f _ _)).mono ?_; rintro e w2 ⟨rfl, n, rfl⟩)
  go_ret
  exact ⟨rfl, pw_below_drewN hB.out n⟩
set_option maxHeartbeats 8000000 in
set_option maxRecDepth 100000 in
theorem index_calls (w : World) (gk : Nat) (AK : Option Addr) (cK : Nat) (key : List Int) (A0 : Option Addr) (c0 : Nat) (l0 : List S34)
    (hb : w.heap[gk]? = some (.cells #[.slice AK key.length cK] 26 (0, 0))) (hK : Kd.C (Kd.int .u8) w AK key.length key) (hcK : key.length ≤ cK) (hr0 : Kd.C k34 w A0 l0.length l0) (hl : l0.length < 1000000000000) :
    Calls Try.prog 34 #[.slice A0 l0.length c0, .func (.func 35) #[] #[.pointer (some ⟨gk, 0, none⟩)]] w fun e w' => e = .returned (.int .i64 (seekGo key l0 0)) ∧ Below w.heap.size w w' := by
  have hu34 := Try.underlying34
  replace hl := Aside0.mk hl
  have hcall : Aside0 (∀ (w' : World) (x : S34) X0 y0 X1 y1, Below w.heap.size w w' → Kd.C (Kd.int .u8) w' X0 x.f0.length x.f0 → x.f0.length ≤ y0 → Calls Try.prog 35 #[.agg #[.slice X0 x.f0.length y0, .slice X1 x.f1.length y1, .bool x.f2], .pointer (some ⟨gk, 0, none⟩)] w' fun e w2 => e = .returned (.bool (!lessB x.f0 key)) ∧ Below w'.heap.size w' w2) :=
    ⟨fun w' x X0 y0 X1 y1 hB hX hy => seek1_calls w' gk AK cK key x X0 y0 X1 y1 (blk_below hb hB) (Kd.C_below hK hB) hcK hX hy⟩
  clear hb hK hcK
  go_enter Try.func34, Try.ntmps34
  go_upto_region 7 with (fail)
  go_loopg [8] (l0.length + 1) (fun kq v8 w' => ∃ i : Nat, v8 = .int .i64 (i : Int) ∧ Aside0 (l0.length - i < kq ∧ i ≤ l0.length) ∧ Aside0 (seekGo key (l0.drop i) i = seekGo key l0 0) ∧ Aside0 (Below w.heap.size w w'))
  case atStart => exact ⟨0, rfl, ⟨by omega⟩, ⟨rfl⟩, ⟨Below.refl _ _⟩⟩
  case round =>
  obtain ⟨i, rfl, hi, hs, hB⟩ := hrel
  by_cases hn : i < l0.length
  · have d1 : decide ((i : Int) < (l0.length : Int)) = true := decide_eq_true (by omega)
    have d2 : decide (i < l0.length) = true := decide_eq_true hn
    have d3 : (i < l0.length) = True := eq_true hn
    have d4 : ((i : Int) < (l0.length : Int)) = True := eq_true (by omega)
    have d5 : (0 ≤ (i : Int)) = True := eq_true (by omega)
    have hs1 := hs.out
    rw [drop_rdS hn] at hs1
    obtain ⟨ad, X0, y0, X1, y1, ead, hx0, hx1, hx2, hl0, hC0, -, -⟩ := at_T34 hr0 (i : Int) (Int.natCast_nonneg i) (by omega)
    rw [Int.toNat_natCast] at hx0 hx1 hx2
    generalize rd_T34 l0 (i : Int) = x at hs1 hx0 hx1 hx2 hl0 hC0
    cases ead
    replace hx0 := cellB hB.out hx0
    replace hx1 := cellB hB.out hx1
    replace hx2 := cellB hB.out hx2
    have hnx : Aside0 (wrap64 ((i : Int) + 1) = ((i + 1 : Nat) : Int)) := ⟨by have := hl.out; unfold wrap64; omega⟩
    have hnx2 : Aside0 ((((i : Int) + 1) : Int) = ((i + 1 : Nat) : Int)) := ⟨by omega⟩
    have hc := Aside0.mk (hcall.out _ x X0 y0 X1 y1 hB.out (Kd.C_below hC0 hB.out) hl0)
    have hin : Aside0 (i < l0.length) := ⟨hn⟩
    clear hn hs hC0 hl0
    have hsg : seekGo key (x :: l0.drop (i + 1)) i = if lessB x.f0 key = true then seekGo key (l0.drop (i + 1)) (i + 1) else (i : Int) := rfl
    rw [hsg] at hs1
    clear hsg
    by_cases hq : lessB x.f0 key = true
    · rw [if_pos hq] at hs1
      rw [hq] at hc
      replace hs1 := Aside0.mk hs1
      clear hq
      go_wp2_with (go_at_call 35; refine hc.out.mono ?_; rintro e w2 ⟨rfl, hb2⟩; have hE := Aside0.mk (below_step hB.out hb2); clear hb2)
      go_roundg (l0.length - i)
      case measure => exact hi.out.1
      case rel => exact ⟨i + 1, (by first | rfl | exact congrArg (Value.int .i64) hnx.out | exact congrArg (Value.int .i64) hnx2.out), ⟨by have := hi.out; have := hin.out; omega⟩, hs1, hE⟩
    · have hq' : lessB x.f0 key = false := by simpa using hq
      rw [if_neg hq] at hs1
      rw [hq'] at hc
      replace hs1 := Aside0.mk hs1
      clear hq hq'
      go_wp2_with (go_at_call 35; refine hc.out.mono ?_; rintro e w2 ⟨rfl, hb2⟩; have hE := Aside0.mk (below_step hB.out hb2); clear hb2)
      go_ret
      exact ⟨by rw [hs1.out]; rfl, hE.out⟩
  · obtain rfl : i = l0.length := by have := hi.out; omega
    have d1 : decide ((l0.length : Int) < (l0.length : Int)) = false := decide_eq_false (Int.lt_irrefl _)
    have d2 : decide (l0.length < l0.length) = false := decide_eq_false (Nat.lt_irrefl _)
    have hs1 : Aside0 ((-1 : Int) = seekGo key l0 0) := ⟨by have h := hs.out; rw [List.drop_length] at h; exact h⟩
    clear hs hn hi
    go_wp2
    go_ret
    exact ⟨by rw [← hs1.out]; rfl, hB.out⟩
/-- Seek. -/
def seekI (l : List S34) (key : List Int) : S34 × Bool := if seekGo key l 0 < 0 then (⟨[], [], false⟩, false) else (rd_T34 l (seekGo key l 0), true)
def block_Seek.f (k : Nat) (l0 key : List Int) : Option (S34 × Bool) := (block_All.f k l0).bind fun p => if p.1.length < 1000000000000 then some (seekI p.1 key) else none
theorem seekGo_in (key : List Int) : ∀ (l : List S34) (i : Nat), -1 ≤ seekGo key l i ∧ seekGo key l i < (i : Int) + l.length
  | [], i => by unfold seekGo; simp; omega
  | x :: r, i => by
    have ih := seekGo_in key r (i + 1)
    unfold seekGo
    split
    · rw [List.length_cons]; omega
    · rw [List.length_cons]; omega
theorem results_cell_row2 {P : Program} {fn : Func} {p u : Tmp} {ty : TypeId} (h : fn.results = #[.cell p ty, .tmp u]) (tmps : Array Value) (w : World) (g : Nat) (t : TypeId) (cs : Array Value) (fr : Nat × Nat) (d : TypeDesc)
    (hp : tmps.getD p undef = .pointer (some ⟨g, 0, none⟩)) (hg : w.heap[g]? = some (.cells cs t fr))
    (hu : P.underlying ty = some d) (hd : (match d with | .struct _ | .array _ _ => true | _ => false) = true) (hi : (P.info? ty).map (·.size) = some cs.size) :
    (results fn tmps).run P w = .ok (.tuple #[.agg cs, tmps.getD u undef]) w := by
  rw [results_cell_tmp h, hp]
  simp only [asAddr, Sem.run_pure, Result.andThen_ok, run_loadVar_row w g t ty cs fr d hg hu hd hi]
set_option maxHeartbeats 8000000 in
set_option maxRecDepth 100000 in
theorem block_Seek.calls (k : Nat) (A0 : Option Addr) (c0 : Nat) (l0 : List Int) (AK : Option Addr) (cK : Nat) (key : List Int) (x : S34) (f : Bool) (w : World) (hr0 : Kd.C (Kd.int .u8) w A0 l0.length l0) (hc0 : l0.length ≤ c0) (hK : Kd.C (Kd.int .u8) w AK key.length key) (hcK : key.length ≤ cK) (h : block_Seek.f k l0 key = some (x, f)) :
    Calls Try.prog 16 #[.slice A0 l0.length c0, .slice AK key.length cK] w fun e w' => ∃ X0 y0 X1 y1, e = .returned (.tuple #[.agg #[.slice X0 x.f0.length y0, .slice X1 x.f1.length y1, .bool x.f2], .bool f]) ∧ Kd.C (Kd.int .u8) w' X0 x.f0.length x.f0 ∧ x.f0.length ≤ y0 ∧ Kd.C (Kd.int .u8) w' X1 x.f1.length x.f1 ∧ x.f1.length ≤ y1 ∧ Below w.heap.size w w' := by
  have hu34 := Try.underlying34
  have hmf : ∀ (fn : Fn) (first cap : Array Value) (w : World), (Instr.makeFunc fn first cap).run Try.prog w = .ok (.func fn first cap) w := fun _ _ _ _ => rfl
  unfold block_Seek.f at h
  obtain ⟨⟨l, er⟩, hA, h⟩ := Option.bind_eq_some_iff.1 h
  by_cases hll : l.length < 1000000000000
  rotate_left
  · simp only [if_neg hll] at h; cases h
  simp only [if_pos hll] at h
  have hkb := blk_alloc (blk_new w (Obj.cells #[Value.slice AK key.length cK] 26)) (Obj.cells #[Value.slice none 0 0, Value.slice none 0 0, Value.bool false] 34)
  have hrb := blk_new (w.alloc (Obj.cells #[Value.slice AK key.length cK] 26)) (Obj.cells #[Value.slice none 0 0, Value.slice none 0 0, Value.bool false] 34)
  have hs1 : (w.alloc (Obj.cells #[Value.slice AK key.length cK] 26)).heap.size = w.heap.size + 1 := Array.size_push _
  have hs2 : ((w.alloc (Obj.cells #[Value.slice AK key.length cK] 26)).alloc (Obj.cells #[Value.slice none 0 0, Value.slice none 0 0, Value.bool false] 34)).heap.size = w.heap.size + 2 := (Array.size_push _).trans (by rw [hs1])
  have hB : Below w.heap.size w ((w.alloc (Obj.cells #[Value.slice AK key.length cK] 26)).alloc (Obj.cells #[Value.slice none 0 0, Value.slice none 0 0, Value.bool false] 34)) := below_alloc (below_alloc (Below.refl _ _) _) _
  rw [hs1] at hrb
  replace hs2 := Aside0.mk hs2
  replace hs1 := Aside0.mk hs1
  go_enter Try.func16, Try.ntmps16
  go_upto_region 1 with (fail)
  generalize ((w.alloc (Obj.cells #[Value.slice AK key.length cK] 26)).alloc (Obj.cells #[Value.slice none 0 0, Value.slice none 0 0, Value.bool false] 34)) = w1 at hkb hrb hs2 hB ⊢
  have hAc := Aside0.mk (block_All.calls k A0 c0 l0 l er w1 (Kd.C_below hr0 hB) hc0 hA)
  replace hkb := Aside0.mk hkb
  replace hrb := Aside0.mk hrb
  replace hB := Aside0.mk hB
  replace hll := Aside0.mk hll
  clear hA hs1
  generalize hH : w.heap.size + 1 = H at hrb ⊢
  generalize hG : w.heap.size = G at hkb hB hs2 hH ⊢
  replace hH := Aside0.mk hH
  replace hG := Aside0.mk hG
  go_upto_region 3 with (first
    | (go_at_call 34; (with_reducible refine (index_calls w2 G AK cK key Al cl l (blk_below hkb.out hb2) (Kd.C_below hK (by have := below_step (w := w) (by rw [hG.out]; exact hB.out) hb2; exact this)) hcK (Kd.S_reads' hS).2.2 hll.out).mono ?_); rintro e w3 ⟨rfl, hb3⟩)
    | (go_at_call 14; refine hAc.out.mono ?_; rintro e w2 ⟨v2, rfl, hS, hb2⟩; obtain ⟨Al, cl, rfl, -, -⟩ := Kd.S_reads hS))
  have hE := Aside0.mk (below_step (w := w) (by rw [hG.out]; exact hB.out) (below_step (below_step (Below.refl _ _) hb2) hb3))
  have hSr := (Kd.S_reads' hS).2.2
  have hNE : Aside0 (H < w1.heap.size) := ⟨by have h1 := hs2.out; have h2 := hH.out; omega⟩
  have hS3 := Aside0.mk (Kd.S_below (Kd.S_mono (Kd.S_bound hS) (ok' := fun k => k ≠ H) (fun k hk => by have h1 := hNE.out; have h2 := hk.2.1; omega)) hb3)
  have hr3 := blk_below (blk_below hrb.out hb2) hb3
  have hz0 := blk_frozen hr3 0
  have hz1 := blk_frozen hr3 1
  have hz2 := blk_frozen hr3 2
  have hg0 : w3.cell? ⟨H, 0, none⟩ = some (.slice none 0 0) := (blk_cell hr3 0).trans rfl
  have hg1 : w3.cell? ⟨H, 1, none⟩ = some (.slice none 0 0) := (blk_cell hr3 1).trans rfl
  have hg2 : w3.cell? ⟨H, 2, none⟩ = some (.bool false) := (blk_cell hr3 2).trans rfl
  have hx := Option.some.inj h
  unfold seekI at hx
  have hin := seekGo_in key l 0
  replace hb3 := Aside0.mk hb3
  clear h hb2 hS hK hr0 hcK hc0 hll
  by_cases hq : seekGo key l 0 < 0
  · rw [if_pos hq] at hx
    obtain ⟨rfl, rfl⟩ := Prod.mk.inj hx
    have d1 : decide (seekGo key l 0 < 0) = true := decide_eq_true hq
    clear hin hx hSr
    generalize seekGo key l 0 = si at *
    replace hr3 := Aside0.mk hr3
    clear hq
    go_wp2
    have hNH := Aside0.mk (show w.heap.size ≤ H by have h1 := hG.out; have h2 := hH.out; omega)
    refine bodyPost_ret (results_cell_row2 (p := 4) (ty := 34) rfl _ _ H 34 #[.slice none 0 0, .slice none 0 0, .bool false] (0, 0) _ rfl (by refine blk_put (cs := #[.slice none 0 0, .slice none 0 0, .bool false]) ?_ 2 _ rfl; refine blk_put (cs := #[.slice none 0 0, .slice none 0 0, .bool false]) ?_ 1 _ rfl; refine blk_put (cs := #[.slice none 0 0, .slice none 0 0, .bool false]) ?_ 0 _ rfl; exact hr3.out) hu34 rfl (by kernel_rfl)) rfl ?_
    have hBe := below_set (j := 2) (v := Value.bool false) (below_set (j := 1) (v := Value.slice none 0 0) (below_set (j := 0) (v := Value.slice none 0 0) hE.out hNH.out) hNH.out) hNH.out
    exact ⟨none, 0, none, ⟨0, rfl⟩, Kd.C_nil _ _, Kd.C_nil _ _, hBe⟩
  rw [if_neg hq] at hx
  obtain ⟨hxe, rfl⟩ := Prod.mk.inj hx
  generalize hsi : seekGo key l 0 = si at *
  obtain ⟨i, rfl⟩ : ∃ i : Nat, si = (i : Int) := ⟨si.toNat, by omega⟩
  have hil : i < l.length := by have := hin.2; simp at this; omega
  have d1 : decide ((i : Int) < 0) = false := decide_eq_false (by omega)
  have d2 : decide ((i : Int) < (l.length : Int)) = true := decide_eq_true (by omega)
  have d3 : (i < l.length) = True := eq_true hil
  have d4 : ((i : Int) < (l.length : Int)) = True := eq_true (by omega)
  have d5 : (0 ≤ (i : Int)) = True := eq_true (by omega)
  obtain ⟨ad, X0, y0, X1, y1, ead, hx0, hX1, hx2, hl0, hC0, hl1, hC1⟩ := at_T34 hSr (i : Int) (Int.natCast_nonneg i) (by omega)
  rw [Int.toNat_natCast] at hx0 hX1 hx2
  rw [hxe] at hx0 hX1 hx2 hl0 hC0 hl1 hC1
  cases ead
  replace hx0 := cellB hb3.out hx0
  replace hX1 := cellB hb3.out hX1
  replace hx2 := cellB hb3.out hx2
  replace hC0 := Aside0.mk (Kd.C_below hC0 hb3.out)
  replace hC1 := Aside0.mk (Kd.C_below hC1 hb3.out)
  replace hr3 := Aside0.mk hr3
  replace hl0 := Aside0.mk hl0
  replace hl1 := Aside0.mk hl1
  replace hxe := Aside0.mk hxe
  have hil' := Aside0.mk hil
  clear hx hin hsi hq hil hb3 hAc hrb hkb hSr
  go_wp2
  have hNH := Aside0.mk (show w.heap.size ≤ H by have h1 := hG.out; have h2 := hH.out; omega)
  refine bodyPost_ret (results_cell_row2 (p := 4) (ty := 34) rfl _ _ H 34 #[.slice X0 x.f0.length y0, .slice X1 x.f1.length y1, .bool x.f2] (0, 0) _ rfl (by refine blk_put (cs := #[.slice X0 x.f0.length y0, .slice X1 x.f1.length y1, .bool false]) ?_ 2 _ rfl; refine blk_put (cs := #[.slice X0 x.f0.length y0, .slice none 0 0, .bool false]) ?_ 1 _ rfl; refine blk_put (cs := #[.slice none 0 0, .slice none 0 0, .bool false]) ?_ 0 _ rfl; exact hr3.out) hu34 rfl (by kernel_rfl)) rfl ?_
  have hBe := below_set (j := 2) (v := Value.bool x.f2) (below_set (j := 1) (v := Value.slice X1 x.f1.length y1) (below_set (j := 0) (v := Value.slice X0 x.f0.length y0) hE.out hNH.out) hNH.out) hNH.out
  have hS4 := Kd.S_far (p := ⟨H, 2, none⟩) (Kd.S_far (p := ⟨H, 1, none⟩) (Kd.S_far (p := ⟨H, 0, none⟩) hS3.out (fun k hk => hk) (Value.slice X0 x.f0.length y0)) (fun k hk => hk) (Value.slice X1 x.f1.length y1)) (fun k hk => hk) (Value.bool x.f2)
  have hne : ad.block ≠ H := by
    obtain ⟨g, rfl⟩ := Kd.R_head (Kd.S_R hS3.out)
    have h1 := Kd.S_base hS3.out g rfl
    have h2 := hNE.out
    exact fun h3 => by have h4 : g = H := h3; omega
  obtain ⟨ad2, Z0, u0, Z1, u1, ead, gx0, gx1, gx2, gl0, gC0, gl1, gC1⟩ := at_T34 (Kd.S_reads' hS4).2.2 (i : Int) (Int.natCast_nonneg i) (by have := hil'.out; omega)
  cases ead
  rw [Int.toNat_natCast] at gx0 gx1 gx2
  rw [hxe.out] at gx0 gx1 gx2 gl0 gC0 gl1 gC1
  have hab : (ad.add (i * 3)).block = ad.block := by unfold Addr.add; split <;> rfl
  have hf0 : ∀ (W : World) (j : Nat) (u : Value), (W.setCell ⟨H, j, none⟩ u).cell? (ad.add (i * 3)) = W.cell? (ad.add (i * 3)) := fun W j u => cell_far (p := ⟨H, j, none⟩) (by rw [hab]; exact hne) u
  have hf1 : ∀ (W : World) (j : Nat) (u : Value), (W.setCell ⟨H, j, none⟩ u).cell? ⟨(ad.add (i * 3)).block, (ad.add (i * 3)).off + 1, none⟩ = W.cell? ⟨(ad.add (i * 3)).block, (ad.add (i * 3)).off + 1, none⟩ := fun W j u => cell_far (p := ⟨H, j, none⟩) (a := ⟨(ad.add (i * 3)).block, (ad.add (i * 3)).off + 1, none⟩) (by show (ad.add (i * 3)).block ≠ H; rw [hab]; exact hne) u
  rw [hf0, hf0, hf0, hx0] at gx0
  rw [hf1, hf1, hf1, hX1] at gx1
  cases gx0
  cases gx1
  exact ⟨X0, y0, X1, y1, rfl, gC0, gl0, gC1, gl1, hBe⟩
/-! ### BlockBack: function 3, by hand, where all is true -/
/-- What the loop wants at its i-th entry. -/
structure BBAt (k : Nat) (b : List Int) (m : List S34) (i : Nat) : Prop where
  found : block_Seek.f k b (rd_T34 m (i : Int)).f0 = some (rd_T34 m (i : Int), true)
  next : ∃ y is, block_Seek.f k b ((rd_T34 m (i : Int)).f0 ++ [0]) = some (y, is) ∧ is = decide (i + 1 < m.length) ∧ (is = true → Op.bytesLess (strOfNums (rd_T34 m (i : Int)).f0).toList (strOfNums y.f0).toList = true)
  short : (rd_T34 m (i : Int)).f0.length ≤ 1000000
set_option maxHeartbeats 8000000 in
set_option maxRecDepth 100000 in
theorem BlockBack_calls (k : Nat) (P0_ : Nat → Prop) (A0 : Option Addr) (c0 : Nat) (l0 e m : List S34) (b : List Int) (w : World) (hs0 : Kd.V k34 34 w w.heap.size (fun k_ => P0_ k_) (.slice A0 l0.length c0) l0)
    (hE : marigraphkeep_Entries.f k l0 40 12 20 = some e) (hR : marigraphkeep_Rise.f e = some m) (hK : marigraphlaw6_known.f k = some true)
    (hm : m.length ≠ 0 → block_Build.f k m = some (b, 0) ∧ block_All.f k b = some (m, 0) ∧ marigraphref8_Same.f k m m = some true ∧ m.length < 1000000 ∧ ∀ i, i < m.length → BBAt k b m i) :
    Calls Try.prog 3 #[.slice A0 l0.length c0] w fun e w' => e = .returned (.bool true) ∧ Below w.heap.size w w' := by
  have hu34 := Try.underlying34
  have hEc := Aside0.mk (marigraphkeep_Entries.calls k P0_ A0 c0 l0 40 12 20 e w hs0 hE)
  replace hK := Aside0.mk (fun w => marigraphlaw6_known.calls k true w hK)
  clear hs0 hE
  go_enter Try.func3, Try.ntmps3
  go_upto_region 2 with (first
    | (go_at_call 10; refine (marigraphkeep_Rise.calls (fun k_ => P0_ k_ ∨ w.heap.size ≤ k_) Ae ce e m w1 (Kd.N_V hN1.out) hR).mono ?_; rintro e2 w2 ⟨v2, rfl, hN2, hb2⟩; obtain ⟨Am, cm, rfl⟩ := Kd.N_slice hN2; replace hN2 := Aside0.mk hN2; replace hb2 := Aside0.mk hb2)
    | (go_at_call 11; refine hEc.out.mono ?_; rintro e1 w1 ⟨v1, rfl, hN1, hb1⟩; obtain ⟨Ae, ce, rfl⟩ := Kd.N_slice hN1; replace hN1 := Aside0.mk hN1; replace hb1 := Aside0.mk hb1))
  have hB2 := Aside0.mk (below_step (below_step (Below.refl _ _) hb1.out) hb2.out)
  have hmC := Aside0.mk (Kd.N_reads' hN2.out)
  clear hEc hN1 hN2 hb1 hb2 hR
  by_cases hz : m.length = 0
  · have d1 : ((m.length : Int) == 0) = true := by rw [hz]; rfl
    have d2 : ((m.length : Int) = 0) = True := eq_true (by rw [hz]; rfl)
    have d3 : decide ((m.length : Int) = 0) = true := decide_eq_true (by rw [hz]; rfl)
    replace hz := Aside0.mk hz
    clear hm
    go_wp2_with (go_at_call 12; refine (hK.out _).mono ?_; rintro e3 w3 ⟨rfl, hb3⟩; replace hb3 := Aside0.mk hb3)
    go_ret
    exact ⟨rfl, below_step hB2.out hb3.out⟩
  obtain ⟨hBd, hAl, hSa, hml, hat⟩ := hm hz
  have d1 : ((m.length : Int) == 0) = false := by simp [hz]
  have d2 : ((m.length : Int) = 0) = False := eq_false (by omega)
  have d3 : decide ((m.length : Int) = 0) = false := decide_eq_false (by omega)
  have hBc := Aside0.mk (block_Build.calls k Am cm m b 0 w2 hmC.out.2.2 hmC.out.2.1 hBd)
  replace hAl := Aside0.mk hAl
  replace hSa := Aside0.mk hSa
  replace hml := Aside0.mk hml
  replace hat := Aside0.mk hat
  replace hz := Aside0.mk hz
  clear hBd hm
  go_upto_region 10 with (first
    | (go_at_call 15; refine (marigraphref8_Same.calls k Ap cp m Am cm m true w4 hp.out.2.2 hp.out.2.1 (Kd.C_below (Kd.C_below hmC.out.2.2 hb3.out) hb4.out) hmC.out.2.1 hSa.out).mono ?_; rintro e5 w5 ⟨rfl, n5, rfl⟩)
    | (go_at_call 14; refine (block_All.calls k Ab cb b m 0 w3 hbC.out.2.2 hbC.out.2.1 hAl.out).mono ?_; rintro e4 w4 ⟨v4, rfl, hp, hb4⟩; obtain ⟨Ap, cp, rfl, -, -⟩ := Kd.S_reads hp; replace hp := Aside0.mk (Kd.S_reads' hp); replace hb4 := Aside0.mk hb4)
    | (go_at_call 13; refine hBc.out.mono ?_; rintro e3 w3 ⟨v3, rfl, hb, hb3⟩; obtain ⟨Ab, cb, rfl⟩ := Kd.R_slice hb; have hbC := Aside0.mk (Kd.R_reads' hb); replace hb3 := Aside0.mk hb3; clear hb))
  have hb5 := pw_below_drewN (below_step (below_step hB2.out hb3.out) hb4.out) n5
  have hmC5 := Aside0.mk (Kd.C_drewN (Kd.C_below (Kd.C_below hmC.out.2.2 hb3.out) hb4.out) n5)
  have hbC5 := Aside0.mk (Kd.C_drewN (Kd.C_below hbC.out.2.2 hb4.out) n5)
  have hmc := Aside0.mk hmC.out.2.1
  have hbc := Aside0.mk hbC.out.2.1
  clear hmC hbC hb3 hb4 hB2 hBc hAl hSa hp
  generalize w4.drewN n5 = w5 at hb5 hmC5 hbC5 ⊢
  replace hb5 := Aside0.mk hb5
  replace hz := hz.out
  go_upto_region 11 with (fail)
  go_loopg [8] (m.length + 1) (fun kq v8 w' => ∃ i : Nat, v8 = .int .i64 (i : Int) ∧ Aside0 (m.length - i < kq ∧ i ≤ m.length) ∧ Aside0 (Below w5.heap.size w5 w'))
  case atStart => exact ⟨0, rfl, ⟨by omega⟩, ⟨Below.refl _ _⟩⟩
  case round =>
  obtain ⟨i, rfl, hi, hB⟩ := hrel
  by_cases hn : i < m.length
  rotate_left
  · obtain rfl : i = m.length := by have := hi.out; omega
    have d1 : decide ((m.length : Int) < (m.length : Int)) = false := decide_eq_false (Int.lt_irrefl _)
    have d2 : decide (m.length < m.length) = false := decide_eq_false (Nat.lt_irrefl _)
    clear hi hn hz
    go_wp2_with (go_at_call 12; refine (hK.out _).mono ?_; rintro e3 w3 ⟨rfl, hb3⟩; replace hb3 := Aside0.mk hb3)
    go_ret
    exact ⟨rfl, below_step (below_step hb5.out hB.out) hb3.out⟩
  have d1 : decide ((i : Int) < (m.length : Int)) = true := decide_eq_true (by omega)
  have d2 : decide (i < m.length) = true := decide_eq_true hn
  have d3 : (i < m.length) = True := eq_true hn
  have d4 : ((i : Int) < (m.length : Int)) = True := eq_true (by omega)
  have d5 : (0 ≤ (i : Int)) = True := eq_true (by omega)
  have hAt := hat.out i hn
  obtain ⟨ad, X0, y0, X1, y1, ead, hx0, hx1, hx2, hl0, hC0, hl1, hC1⟩ := at_T34 hmC5.out (i : Int) (Int.natCast_nonneg i) (by omega)
  rw [Int.toNat_natCast] at hx0 hx1 hx2
  obtain ⟨hF, ⟨yy, is, hN, his, hle⟩, hsh⟩ := hAt
  generalize rd_T34 m (i : Int) = x at hx0 hx1 hx2 hl0 hC0 hl1 hC1 hF hN hle hsh
  cases ead
  replace hx0 := Aside0.mk hx0
  replace hx1 := Aside0.mk hx1
  replace hC0 := Aside0.mk hC0
  replace hC1 := Aside0.mk hC1
  replace hl0 := Aside0.mk hl0
  replace hl1 := Aside0.mk hl1
  replace hN := Aside0.mk hN
  replace hle := Aside0.mk hle
  replace hsh := Aside0.mk hsh
  replace his := Aside0.mk his
  have hin : Aside0 (i < m.length) := ⟨hn⟩
  have hF1 := Aside0.mk (block_Seek.calls k Ab cb b X0 y0 x.f0 x true wr (Kd.C_below hbC5.out hB.out) hbc.out (Kd.C_below hC0.out hB.out) hl0.out hF)
  have g0 := cellB hB.out hx0.out
  clear hn hz hF hx2
  go_upto_region 14 with (go_at_call 16; refine hF1.out.mono ?_; rintro e6 w6 ⟨Z0, u0, Z1, u1, rfl, hc0, hu0, hc1, hu1, hb6⟩; replace hc0 := Aside0.mk hc0; replace hc1 := Aside0.mk hc1; replace hu0 := Aside0.mk hu0; replace hu1 := Aside0.mk hu1; replace hb6 := Aside0.mk hb6)
  have hB7 := Aside0.mk (below_step hB.out (below_alloc hb6.out (Obj.cells #[Value.slice Z0 x.f0.length u0, Value.slice Z1 x.f1.length u1, Value.bool x.f2] 34)))
  have hxb := blk_new w6 (Obj.cells #[Value.slice Z0 x.f0.length u0, Value.slice Z1 x.f1.length u1, Value.bool x.f2] 34)
  have hc0' := Kd.C_alloc hc0.out (Obj.cells #[Value.slice Z0 x.f0.length u0, Value.slice Z1 x.f1.length u1, Value.bool x.f2] 34)
  have hc1' := Kd.C_alloc hc1.out (Obj.cells #[Value.slice Z0 x.f0.length u0, Value.slice Z1 x.f1.length u1, Value.bool x.f2] 34)
  clear hb6 hF1 hc0 hc1 g0
  generalize w6.heap.size = gx at hxb ⊢
  generalize w6.alloc (Obj.cells #[Value.slice Z0 x.f0.length u0, Value.slice Z1 x.f1.length u1, Value.bool x.f2] 34) = w7 at hB7 hxb hc0' hc1' ⊢
  have zx0 : Aside0 (∀ w', Below w7.heap.size w7 w' → w'.cell? ⟨gx, 0, none⟩ = some (.slice Z0 x.f0.length u0)) := ⟨fun w' hb => cellB hb ((blk_cell hxb 0).trans rfl)⟩
  have zx1 : Aside0 (∀ w', Below w7.heap.size w7 w' → w'.cell? ⟨gx, 1, none⟩ = some (.slice Z1 x.f1.length u1)) := ⟨fun w' hb => cellB hb ((blk_cell hxb 1).trans rfl)⟩
  have zc0 : Aside0 (∀ w', Below w7.heap.size w7 w' → Kd.C (Kd.int .u8) w' Z0 x.f0.length x.f0) := ⟨fun w' hb => Kd.C_below hc0' hb⟩
  have zc1 : Aside0 (∀ w', Below w7.heap.size w7 w' → Kd.C (Kd.int .u8) w' Z1 x.f1.length x.f1) := ⟨fun w' hb => Kd.C_below hc1' hb⟩
  have zm0 : Aside0 (∀ w', Below w7.heap.size w7 w' → w'.cell? (ad.add (i * 3)) = some (.slice X0 x.f0.length y0)) := ⟨fun w' hb => cellB (below_step hB7.out hb) hx0.out⟩
  have zm1 : Aside0 (∀ w', Below w7.heap.size w7 w' → w'.cell? ⟨(ad.add (i * 3)).block, (ad.add (i * 3)).off + 1, none⟩ = some (.slice X1 x.f1.length y1)) := ⟨fun w' hb => cellB (below_step hB7.out hb) hx1.out⟩
  have zk0 : Aside0 (∀ w', Below w7.heap.size w7 w' → Kd.C (Kd.int .u8) w' X0 x.f0.length x.f0) := ⟨fun w' hb => Kd.C_below hC0.out (below_step hB7.out hb)⟩
  have zk1 : Aside0 (∀ w', Below w7.heap.size w7 w' → Kd.C (Kd.int .u8) w' X1 x.f1.length x.f1) := ⟨fun w' hb => Kd.C_below hC1.out (below_step hB7.out hb)⟩
  clear hxb hc0' hc1' hx0 hx1 hC0 hC1
  refine start_ (n := 26) (S := fun w' => Below w7.heap.size w7 w') (ds := []) (bA 26 0) (by kernel_rfl) rfl rfl (below_drew1 (Below.refl _ _)) (fun hHeld => ?_)
  refine norm_ (by rfl) ?_
  refine pK 0 (some 56) (bA 26 1) ?_
  refine pK 1 (some 57) (bA 26 3) ?_
  refine pK 2 (some 58) (bA 26 7) ?_
  refine pK 3 (some 59) (bA 26 15) ?_
  refine tK 4 (some 60) (bA 26 31) rfl rfl hHeld (by intro w' hb; have q_ := zx0.out w' hb; go_simp; with_reducible rfl) ?_
  refine tK 5 (some 61) (bA 26 63) rfl rfl hHeld (by intro w' hb; have e_ := Kd.C_string (P := Try.prog) (c := u0) Try.underlying26 Try.underlying5 Try.underlying9 (zc0.out w' hb); go_simp; with_reducible rfl) ?_
  refine pK 6 (some 62) (bA 26 127) ?_
  refine pK 7 (some 63) (bA 26 255) ?_
  refine pK 8 (some 64) (bA 26 511) ?_
  refine pK 9 (some 65) (bA 26 1023) ?_
  refine tK 10 (some 66) (bA 26 2047) rfl rfl hHeld (by intro w' hb; have q_ := zm0.out w' hb; go_simp; with_reducible rfl) ?_
  refine tK 11 (some 67) (bA 26 4095) rfl rfl hHeld (by intro w' hb; have e_ := Kd.C_string (P := Try.prog) (c := y0) Try.underlying26 Try.underlying5 Try.underlying9 (zk0.out w' hb); go_simp; with_reducible rfl) ?_
  refine pK 12 (some 68) (bA 26 8191) ?_
  refine pK 13 (some 69) (bA 26 16383) ?_
  refine pK 14 (some 70) (bA 26 32767) ?_
  refine pK 15 (some 71) (bA 26 65535) ?_
  refine tK 16 (some 72) (bA 26 131071) rfl rfl hHeld (by intro w' hb; have q_ := zx1.out w' hb; go_simp; with_reducible rfl) ?_
  refine tK 17 (some 73) (bA 26 262143) rfl rfl hHeld (by intro w' hb; have e_ := Kd.C_string (P := Try.prog) (c := u1) Try.underlying26 Try.underlying5 Try.underlying9 (zc1.out w' hb); go_simp; with_reducible rfl) ?_
  refine pK 18 (some 74) (bA 26 524287) ?_
  refine pK 19 (some 75) (bA 26 1048575) ?_
  refine pK 20 (some 76) (bA 26 2097151) ?_
  refine pK 21 (some 77) (bA 26 4194303) ?_
  refine tK 22 (some 78) (bA 26 8388607) rfl rfl hHeld (by intro w' hb; have q_ := zm1.out w' hb; go_simp; with_reducible rfl) ?_
  refine tK 23 (some 79) (bA 26 16777215) rfl rfl hHeld (by intro w' hb; have e_ := Kd.C_string (P := Try.prog) (c := y1) Try.underlying26 Try.underlying5 Try.underlying9 (zk1.out w' hb); go_simp; with_reducible rfl) ?_
  refine pK 24 (some 80) (bA 26 33554431) ?_
  refine pK 25 (some 81) (bA 26 67108863) ?_
  refine done_ (by kernel_rfl) ?_
  replace hHeld := Aside0.mk hHeld
  obtain ⟨kz, hkz⟩ : ∃ l : List Int, l = x.f0 ++ [0] := ⟨_, rfl⟩
  rw [← hkz] at hN
  replace hkz := Aside0.mk hkz
  have hbC7 : Aside0 (∀ w', Below w7.heap.size w7 w' → Kd.C (Kd.int .u8) w' Ab b.length b) := ⟨fun w' hb => Kd.C_below hbC5.out (below_step hB7.out hb)⟩
  generalize w7.drew = w8 at hHeld ⊢
  go_upto_region 17 with (first
    | (go_at_call 16; refine (block_Seek.calls k Ab cb b A11 c11 kz yy is w11 (hbC7.out _ (below_step hHeld.out hb11.out)) hbc.out (Kd.R_reads' ho11.out).2.2 (Kd.R_reads' ho11.out).2.1 hN.out).mono ?_; rintro e12 w12 ⟨Z2, u2', Z3, u3', rfl, hc2, hu2, hc3, hu3, hb12⟩; replace hc2 := Aside0.mk hc2; replace hc3 := Aside0.mk hc3; replace hu2 := Aside0.mk hu2; replace hu3 := Aside0.mk hu3; replace hb12 := Aside0.mk hb12)
    | ((with_reducible refine gate_builtin (b := .append) (xs := #[.tmp 90, .tmp 91]) rfl ?_); at_builtin; refine Kd.R_append (Kd.int .u8) (w0 := w8) w8.heap.size rfl (.tmp 90) (.tmp 91) 26 5 (.int .u8 0) 1 rfl Try.underlying26 info5 rfl (by decide) (by omega) (.slice A10 x.f0.length c10) x.f0 0 [.int .u8 0] (fun _ => True) (fun _ => False) rfl rfl ?aP (fun _ hk => hk.elim) ?aF ?aO ?aB ?aS ?aL ?_; (case aP => exact rfl); (case aB => exact hb10.out); (case aF => exact (fun _ _ => trivial)); (case aO => exact ho10.out); (case aS => exact (below_size hb10.out)); (case aL => have := hsh.out; omega); intro v11 w11 ho11 hb11 hg11 hat11; clear hg11 hat11; rw [← hkz.out] at ho11; obtain ⟨A11, c11, rfl⟩ := Kd.R_slice ho11; replace ho11 := Aside0.mk ho11; replace hb11 := Aside0.mk hb11)
    | ((with_reducible refine gate_builtin (b := .append) (xs := #[.tmp 84, .tmp 89]) rfl ?_); at_builtin; refine Kd.R_append_rows (Kd.int .u8) (w0 := w8) w8.heap.size rfl (.tmp 84) (.tmp 89) 26 5 (.int .u8 0) 1 rfl Try.underlying26 info5 rfl (by decide) (by omega) (.slice A9 ([] : List Int).length c9) ([] : List Int) x.f0 X0 x.f0.length y0 (fun _ => True) (fun _ => False) rfl rfl ho9.out (zk0.out _ (below_step hHeld.out hb9.out)) (fun _ _ h => h) (fun _ h => h.elim) (fun _ _ => trivial) hb9.out (below_size hb9.out) (by have := hsh.out; simp only [List.length_nil]; omega) ?_; intro v10 w10 ho10 hb10 hg10 hat10; clear hg10 hat10; rw [List.nil_append] at ho10; obtain ⟨A10, c10, rfl⟩ := Kd.R_slice ho10; replace ho10 := Aside0.mk ho10; replace hb10 := Aside0.mk hb10)
    | ((with_reducible refine gate_dst (N := 84) rfl ?_); refine Kd.R_lit (Kd.int .u8) (w0 := w8) w8.heap.size 5 ?hg (N := 84) ?hd (xs := ([] : List Int)) (inner := []) (ok := fun _ => True) (okp := fun _ => True) ?hr ?hp (fun _ hk => hk) trivial (Below.refl _ _) (Nat.le_refl _) (by simp) ?_; (case hd => rfl); (case hg => rfl); (case hr => first | (go_simp; done) | (go_simp; rfl)); (case hp => exact (Reps.none _ _)); intro v9 w9 ho9 hb9 hg_ hnew_; clear hg_ hnew_; obtain ⟨A9, c9, rfl⟩ := Kd.R_slice ho9; replace ho9 := Aside0.mk ho9; have g9 := zm0.out w9 (below_step hHeld.out hb9); replace hb9 := Aside0.mk hb9))
  have hB13 := Aside0.mk (below_step (below_step hHeld.out hb11.out) (below_alloc hb12.out (Obj.cells #[Value.slice Z2 yy.f0.length u2', Value.slice Z3 yy.f1.length u3', Value.bool yy.f2] 34)))
  have hyb := blk_new w12 (Obj.cells #[Value.slice Z2 yy.f0.length u2', Value.slice Z3 yy.f1.length u3', Value.bool yy.f2] 34)
  have hc2' := Kd.C_alloc hc2.out (Obj.cells #[Value.slice Z2 yy.f0.length u2', Value.slice Z3 yy.f1.length u3', Value.bool yy.f2] 34)
  clear g9 hb12 hb11 hb10 hb9 ho9 ho10 ho11 hc2 hc3
  generalize w12.heap.size = gy at hyb ⊢
  generalize w12.alloc (Obj.cells #[Value.slice Z2 yy.f0.length u2', Value.slice Z3 yy.f1.length u3', Value.bool yy.f2] 34) = w13 at hB13 hyb hc2' ⊢
  have zy0 : Aside0 (∀ w', Below w13.heap.size w13 w' → w'.cell? ⟨gy, 0, none⟩ = some (.slice Z2 yy.f0.length u2')) := ⟨fun w' hb => cellB hb ((blk_cell hyb 0).trans rfl)⟩
  have ze0 : Aside0 (∀ w', Below w13.heap.size w13 w' → Kd.C (Kd.int .u8) w' Z2 yy.f0.length yy.f0) := ⟨fun w' hb => Kd.C_below hc2' hb⟩
  replace zm0 : Aside0 (∀ w', Below w13.heap.size w13 w' → w'.cell? (ad.add (i * 3)) = some (.slice X0 x.f0.length y0)) := ⟨fun w' hb => zm0.out w' (below_step hB13.out hb)⟩
  replace zk0 : Aside0 (∀ w', Below w13.heap.size w13 w' → Kd.C (Kd.int .u8) w' X0 x.f0.length x.f0) := ⟨fun w' hb => zk0.out w' (below_step hB13.out hb)⟩
  have hB13' := Aside0.mk (below_step hB7.out hB13.out)
  have hnx : wrap64 ((i : Int) + 1) = ((i + 1 : Nat) : Int) := by have := hml.out; have := hin.out; unfold wrap64; omega
  clear hyb hc2' zx0 zx1 zc0 zc1 zm1 zk1 hbC7 hB13 hHeld hB7
  cases is
  · have hd : decide (i + 1 < m.length) = false := his.out.symm
    have hdn := of_decide_eq_false hd
    have hd' : decide (((i + 1 : Nat) : Int) < (m.length : Int)) = false := by rw [← hd]; exact decide_eq_decide.2 Int.ofNat_lt
    clear hd his hle
    refine start_ (n := 22) (S := fun w' => Below w13.heap.size w13 w') (ds := []) (bA 22 0) (by kernel_rfl) rfl rfl (below_drew1 (Below.refl _ _)) (fun hHeld => ?_)
    refine norm_ (by rfl) ?_
    refine pK 0 (some 96) (bA 22 1) ?_
    refine pK 1 (some 97) (bA 22 3) ?_
    refine uK 2 (some 98) (bA 22 7) ?_
    refine uK 3 (some 99) (bA 22 15) ?_
    refine uK 4 (some 100) (bA 22 31) ?_
    refine uK 5 (some 101) (bA 22 63) ?_
    refine uK 6 (some 102) (bA 22 127) ?_
    refine uK 7 (some 103) (bA 22 255) ?_
    refine uK 8 (some 104) (bA 22 511) ?_
    refine uK 9 (some 105) (bA 22 1023) ?_
    refine uK 10 (some 106) (bA 22 2047) ?_
    refine uK 11 (some 107) (bA 22 4095) ?_
    refine pK 12 (some 108) (bA 22 8191) ?_
    refine pK 13 (some 109) (bA 22 16383) ?_
    refine pK 14 (some 110) (bA 22 32767) ?_
    refine pK 15 (some 111) (bA 22 65535) ?_
    refine pK 16 (some 112) (v := .int .i64 ((i + 1 : Nat) : Int)) (bA 22 131071) ?_ (hy' := by intro w'; go_simp; (first | done | exact (i64_w _).trans (hnx.trans (Int.natCast_succ i))))
    refine pK 17 (some 113) (bA 22 262143) ?_
    refine pK 18 (some 114) (bA 22 524287) ?_
    refine pK 19 (some 115) (v := .bool false) (bA 22 1048575) ?_ (hy' := by intro w'; go_simp; (first | done | omega))
    refine pK 20 (some 116) (v := .bool false) (bA 22 2097151) ?_ (hy' := by intro w'; go_simp; (try rfl))
    refine pK 21 (some 117) (bA 22 4194303) ?_
    refine done_ (by kernel_rfl) ?_
    replace hHeld := Aside0.mk hHeld
    clear hd'
    generalize w13.drew = w14 at hHeld ⊢
    go_wp2
    go_roundg (m.length - i)
    case measure => exact hi.out.1
    case rel => exact ⟨i + 1, (by first | rfl | exact congrArg (Value.int .i64) hnx | exact congrArg (Value.int .i64) (Int.natCast_succ i).symm), ⟨by have := hi.out; have := hin.out; omega⟩, ⟨below_step hB13'.out hHeld.out⟩⟩
  · have hd : decide (i + 1 < m.length) = true := his.out.symm
    have hdn := of_decide_eq_true hd
    have hd' : decide (((i + 1 : Nat) : Int) < (m.length : Int)) = true := by rw [← hd]; exact decide_eq_decide.2 Int.ofNat_lt
    have hlq := hle.out rfl
    have hlq2 : (Op.bytesLess (strOfNums yy.f0).toList (strOfNums x.f0).toList || (strOfNums yy.f0).toList == (strOfNums x.f0).toList) = false := by
      have h := less_flip (strOfNums yy.f0).toList (strOfNums x.f0).toList
      rw [hlq] at h
      simpa using h
    clear hd his hle
    refine start_ (n := 22) (S := fun w' => Below w13.heap.size w13 w') (ds := []) (bA 22 0) (by kernel_rfl) rfl rfl (below_drew1 (Below.refl _ _)) (fun hHeld => ?_)
    refine norm_ (by rfl) ?_
    refine pK 0 (some 96) (bA 22 1) ?_
    refine pK 1 (some 97) (bA 22 3) ?_
    refine pK 2 (some 98) (bA 22 7) ?_
    refine tK 3 (some 99) (bA 22 15) rfl rfl hHeld (by intro w' hb; have q_ := zy0.out w' hb; go_simp; with_reducible rfl) ?_
    refine tK 4 (some 100) (bA 22 31) rfl rfl hHeld (by intro w' hb; have e_ := Kd.C_string (P := Try.prog) (c := u2') Try.underlying26 Try.underlying5 Try.underlying9 (ze0.out w' hb); go_simp; with_reducible rfl) ?_
    refine pK 5 (some 101) (bA 22 63) ?_
    refine pK 6 (some 102) (bA 22 127) ?_
    refine pK 7 (some 103) (bA 22 255) ?_
    refine pK 8 (some 104) (bA 22 511) ?_
    refine tK 9 (some 105) (bA 22 1023) rfl rfl hHeld (by intro w' hb; have q_ := zm0.out w' hb; go_simp; with_reducible rfl) ?_
    refine tK 10 (some 106) (bA 22 2047) rfl rfl hHeld (by intro w' hb; have e_ := Kd.C_string (P := Try.prog) (c := y0) Try.underlying26 Try.underlying5 Try.underlying9 (zk0.out w' hb); go_simp; with_reducible rfl) ?_
    refine pK 11 (some 107) (v := .bool false) (bA 22 4095) ?_ (hy' := by intro w'; go_simp; (try simp only [hlq, hlq2, Bool.not_true]))
    refine pK 12 (some 108) (bA 22 8191) ?_
    refine pK 13 (some 109) (bA 22 16383) ?_
    refine pK 14 (some 110) (bA 22 32767) ?_
    refine pK 15 (some 111) (bA 22 65535) ?_
    refine pK 16 (some 112) (v := .int .i64 ((i + 1 : Nat) : Int)) (bA 22 131071) ?_ (hy' := by intro w'; go_simp; (first | done | exact (i64_w _).trans (hnx.trans (Int.natCast_succ i))))
    refine pK 17 (some 113) (bA 22 262143) ?_
    refine pK 18 (some 114) (bA 22 524287) ?_
    refine pK 19 (some 115) (v := .bool true) (bA 22 1048575) ?_ (hy' := by intro w'; go_simp; (first | done | omega))
    refine pK 20 (some 116) (v := .bool false) (bA 22 2097151) ?_ (hy' := by intro w'; go_simp; (try rfl))
    refine pK 21 (some 117) (bA 22 4194303) ?_
    refine done_ (by kernel_rfl) ?_
    replace hHeld := Aside0.mk hHeld
    clear hlq hlq2 hd'
    generalize w13.drew = w14 at hHeld ⊢
    go_wp2
    go_roundg (m.length - i)
    case measure => exact hi.out.1
    case rel => exact ⟨i + 1, (by first | rfl | exact congrArg (Value.int .i64) hnx | exact congrArg (Value.int .i64) (Int.natCast_succ i).symm), ⟨by have := hi.out; have := hin.out; omega⟩, ⟨below_step hB13'.out hHeld.out⟩⟩
end Go.Proofs.Ytpcomhliikmjkaa.PBlockTells

/- The walk of the Go functions that a law reaches, told as plain functions; a program of this session has written it. No condition beyond the statement's own. -/
import Derived.Test.YtjafaojmbapkbaaPCellTellsx0
import Derived.Test.YtjafaojmbapkbaaPCellTellsx3
import Derived.Test.YtjafaojmbapkbaaPCellTellsx4
namespace Go.Proofs.Ytjafaojmbapkbaa.PCellTells
open Go.RowKit Go.Proofs.YtjafaojmbapkbaaW.PrintWords Go.Proofs.YtjafaojmbapkbaaW.PrintLast Go.Proofs.YtjafaojmbapkbaaW.PrintMore
attribute [local go_sem] max2_int min2_int max_two min_two max_three min_three max_four min_four   -- for this text's walks alone
set_option linter.unusedVariables false
set_option linter.unusedSimpArgs false

-- NOT PRINTED: function 78 (cell_read_1)

/-! ### octet_Get: function 89 -/
def getI : Int → List Int → Int
  | a, [] => a
  | a, c :: cs => getI (Go.bits .or .u64 (IntKind.u64.wrap (a * 256)) (IntKind.u64.wrap c)) cs
theorem getI_snoc (a : Int) (l : List Int) (c : Int) : getI a (l ++ [c]) = Go.bits .or .u64 (IntKind.u64.wrap (getI a l * 256)) (IntKind.u64.wrap c) := by
  induction l generalizing a with
  | nil => rfl
  | cons x xs ih => exact ih _
theorem intOf_int (k : IntKind) (q : Int) : intOf (Value.int k q) = q := rfl
theorem getI_less (n j : Nat) (h : wrap64 ((j : Int) + 1) = ((j + 1 : Nat) : Int)) (hlt : j < n) :
    n - (intOf (Value.int IntKind.i64 (wrap64 ((j : Int) + 1)))).toNat < n - (intOf (Value.int IntKind.i64 (j : Int))).toNat := by
  rw [intOf_int, intOf_int, h, Int.toNat_natCast, Int.toNat_natCast]
  exact Nat.sub_lt_sub_left hlt (Nat.lt_succ_self j)
def octet_Get.f (l0 : List Int) (a1 : Int) : Option (Int × Bool) := if a1 < 0 then (some (0, false)) else (if a1 > 8 then (some (0, false)) else (if a1 > (l0.length : Int) then (some (0, false)) else (some (getI 0 (l0.take a1.toNat), true))))
set_option maxHeartbeats 8000000 in
set_option maxRecDepth 100000 in
theorem octet_Get.small (A0 : Option Addr) (c0 : Nat) (l0 : List Int) (a1 : Int) (w : World) (c1b : decide (a1 < 0) = true) :
    Calls Try.prog 89 #[.slice A0 l0.length c0, .int .i64 a1] w fun e w' => e = .returned (.tuple #[.int .u64 0, .bool false]) ∧ Drawn0 w w' := by
  go_enter Try.func89, Try.ntmps89
  go_wp2
  repeat (go_quiet (fail); try go_wp2)
  go_ret2
  exact ⟨rfl, by repeat (first | exact Drawn0.refl _ | apply Drawn0.step)⟩
set_option maxHeartbeats 8000000 in
set_option maxRecDepth 100000 in
theorem octet_Get.great (A0 : Option Addr) (c0 : Nat) (l0 : List Int) (a1 : Int) (w : World) (c1b : decide (a1 < 0) = false) (c2b : decide (8 < a1) = true) :
    Calls Try.prog 89 #[.slice A0 l0.length c0, .int .i64 a1] w fun e w' => e = .returned (.tuple #[.int .u64 0, .bool false]) ∧ Drawn0 w w' := by
  go_enter Try.func89, Try.ntmps89
  go_wp2
  repeat (go_quiet (fail); try go_wp2)
  go_ret2
  exact ⟨rfl, by repeat (first | exact Drawn0.refl _ | apply Drawn0.step)⟩
set_option maxHeartbeats 8000000 in
set_option maxRecDepth 100000 in
theorem octet_Get.short (A0 : Option Addr) (c0 : Nat) (l0 : List Int) (a1 : Int) (w : World) (c1b : decide (a1 < 0) = false) (c2b : decide (8 < a1) = false) (c3b : decide ((l0.length : Int) < a1) = true) :
    Calls Try.prog 89 #[.slice A0 l0.length c0, .int .i64 a1] w fun e w' => e = .returned (.tuple #[.int .u64 0, .bool false]) ∧ Drawn0 w w' := by
  go_enter Try.func89, Try.ntmps89
  go_wp2
  repeat (go_quiet (fail); try go_wp2)
  go_ret2
  exact ⟨rfl, by repeat (first | exact Drawn0.refl _ | apply Drawn0.step)⟩
set_option maxHeartbeats 8000000 in
set_option maxRecDepth 100000 in
theorem octet_Get.there (A0 : Option Addr) (c0 : Nat) (l0 : List Int) (n : Nat) (w : World) (HR0 : Aside0 (Kd.C (Kd.int .u8) w A0 l0.length l0)) (HC0 : Aside0 (l0.length ≤ c0)) (HN : Aside0 (n ≤ l0.length)) (hnc : Aside0 (n ≤ 8)) :
    Calls Try.prog 89 #[.slice A0 l0.length c0, .int .i64 (n : Int)] w fun e w' => e = .returned (.tuple #[.int .u64 (getI 0 (l0.take n)), .bool true]) ∧ Drawn0 w w' := by
  have hnl := HN.out
  have hn8 := hnc.out
  have c1b : decide ((n : Int) < 0) = false := decide_eq_false (by omega)
  have c2b : decide (8 < (n : Int)) = false := decide_eq_false (by omega)
  have c3b : decide ((l0.length : Int) < (n : Int)) = false := decide_eq_false (by omega)
  have c4b : decide (l0.length < n) = false := decide_eq_false (by omega)
  have c5b : decide (8 < n) = false := decide_eq_false (by omega)
  obtain ⟨i0, hi0, _, hsz, _⟩ := info_parts info5
  have hcut := cut_to (P := Try.prog) 30 5 .i64 Try.underlying30 hi0 A0 l0.length c0 (n : Int) (by omega) (by omega) HC0.out
  rw [Int.toNat_natCast] at hcut
  clear hi0 hsz hnl hn8
  go_enter Try.func89, Try.ntmps89
  go_wp2
  repeat (go_quiet (fail); try go_wp2)
  go_loop [6, 25] (fun v6 v25 => ∃ j : Nat, j ≤ n ∧ v6 = .int .u64 (getI 0 (l0.take j)) ∧ v25 = .int .i64 (j : Int)) (fun _ v25 => n - (intOf v25).toNat)
  case atStart => exact ⟨0, Nat.zero_le _, by simp [getI], rfl⟩
  case round =>
    obtain ⟨j, hj, rfl, rfl⟩ := hrel
    by_cases hlt : j < n
    · have hln := HN.out
      have hn8 := hnc.out
      have d1 : decide (j < n) = true := decide_eq_true hlt
      have d2 : decide ((j : Int) < (n : Int)) = true := decide_eq_true (by omega)
      obtain ⟨ad, he, hx⟩ := Kd.at_int HR0.out (j : Int) (by omega) (by omega)
      have hsn := getI_snoc 0 (l0.take j) (rd l0 (j : Int))
      have hts : l0.take (j + 1) = l0.take j ++ [rd l0 (j : Int)] := by
        rw [List.take_succ_eq_append_getElem (by omega)]
        simp [rd, List.getD_eq_getElem?_getD, List.getElem?_eq_getElem (show j < l0.length by omega)]
      rw [← hts] at hsn
      have HS := Aside0.mk hsn
      cases he
      have p1 : (0 ≤ (j : Int)) = True := eq_true (by omega)
      have p2 : ((j : Int) < (n : Int)) = True := eq_true (by omega)
      have p3 : (j < n) = True := eq_true hlt
      rw [Int.toNat_natCast] at hx
      have HW := Aside0.mk (show wrap64 ((j : Int) + 1) = ((j + 1 : Nat) : Int) from by unfold wrap64; omega)
      clear hsn hts hln hj hn8 hlt
      go_wp2
      repeat (go_quiet (fail); try go_wp2)
      go_round
      case rel => exact ⟨j + 1, by have := of_eq_true p3; omega, congrArg (Value.int .u64) HS.out.symm, congrArg (Value.int .i64) HW.out⟩
      case measure => exact getI_less n j HW.out (of_eq_true p3)
    · have d1 : decide (j < n) = false := decide_eq_false hlt
      have d2 : decide ((j : Int) < (n : Int)) = false := decide_eq_false (by omega)
      have hjn : j = n := by omega
      subst hjn
      clear hlt hj
      go_wp2
      repeat (go_quiet (fail); try go_wp2)
      go_ret2
      exact ⟨rfl, by repeat (first | exact Drawn0.refl _ | apply Drawn0.step)⟩
theorem octet_Get.calls (A0 : Option Addr) (c0 : Nat) (l0 : List Int) (a1 : Int) (r1 : Int) (r2 : Bool) (w : World) (hr0 : Kd.C (Kd.int .u8) w A0 l0.length l0) (hc0 : l0.length ≤ c0) (h : octet_Get.f l0 a1 = some (r1, r2)) :
    Calls Try.prog 89 #[.slice A0 l0.length c0, .int .i64 a1] w fun e w' => e = .returned (.tuple #[.int .u64 r1, .bool r2]) ∧ Drawn0 w w' := by
  unfold octet_Get.f at h
  by_cases c1 : a1 < 0
  · rw [if_pos c1] at h
    cases h
    exact octet_Get.small A0 c0 l0 a1 w (decide_eq_true c1)
  rw [if_neg c1] at h
  by_cases c2 : a1 > 8
  · rw [if_pos c2] at h
    cases h
    exact octet_Get.great A0 c0 l0 a1 w (decide_eq_false c1) (decide_eq_true c2)
  rw [if_neg c2] at h
  by_cases c3 : a1 > (l0.length : Int)
  · rw [if_pos c3] at h
    cases h
    exact octet_Get.short A0 c0 l0 a1 w (decide_eq_false c1) (decide_eq_false c2) (decide_eq_true c3)
  rw [if_neg c3] at h
  obtain ⟨n, rfl⟩ := Int.eq_ofNat_of_zero_le (show 0 ≤ a1 by omega)
  rw [Int.toNat_natCast] at h
  cases h
  exact octet_Get.there A0 c0 l0 n w ⟨hr0⟩ ⟨hc0⟩ ⟨by omega⟩ ⟨by omega⟩

-- NOT PRINTED: function 79 (cell_reader_number)

-- NOT PRINTED: function 80 (cell_reader_value)

/-! ### cell_read: function 63 -/
set_option maxHeartbeats 8000000
set_option maxRecDepth 100000
/-- A panic of the reader. -/
def lacks : List PanicEntry := [{ v := .iface 42 (.int .i64 12), recovered := false }]
theorem number_ok (A0 : Option Addr) (c0 : Nat) (l0 : List Int) (g s : Nat) (w0 w : World) (hs1 : 1 ≤ s) (hs8 : s ≤ 8) (hsl : s ≤ l0.length) (hr0 : Kd.C (Kd.int .u8) w0 A0 l0.length l0) (hc0 : l0.length ≤ c0) (HB : Below w0.heap.size w0 w)
    (hb : w.heap[g]? = some (.cells #[.slice A0 l0.length c0] 118 (0, 0))) :
    Calls Try.prog 79 #[.pointer (some ⟨g, 0, none⟩), .int .i64 (s : Int)] w fun e w' => e = .returned (.int .u64 (getI 0 (l0.take s))) ∧
      ∃ A1 n, Kd.C (Kd.int .u8) w0 A1 (l0.drop s).length (l0.drop s) ∧ (l0.drop s).length ≤ c0 - s ∧ w' = (w.drewN n).setCell ⟨g, 0, none⟩ (.slice A1 (l0.drop s).length (c0 - s)) := by
  have hdrop := Kd.C_drop hr0 hsl hc0
  have hu118 := Try.underlying118
  have hc := blk_cell hb 0
  have hf := blk_frozen hb 0
  have hget : octet_Get.f l0 (s : Int) = some (getI 0 (l0.take s), true) := by
    unfold octet_Get.f
    rw [if_neg (by omega), if_neg (by omega), if_neg (by omega), Int.toNat_natCast]
  go_enter Try.func79, Try.ntmps79
  go_wp2_with (go_at_call 89; refine (octet_Get.calls A0 c0 l0 (s : Int) _ _ _ (Kd.C_below hr0 HB) hc0 hget).mono ?_; rintro e w' ⟨rfl, n, rfl⟩)
  · rw [if_pos h] at hdrop
    rw [List.length_drop] at hdrop
    go_ret
    exact ⟨rfl, _, hdrop, by omega, n, rfl⟩
  · rw [if_neg h] at hdrop
    simp only [show (Kd.int IntKind.u8).sz = 1 from rfl, Nat.mul_one, List.length_drop] at hdrop
    go_ret
    exact ⟨rfl, _, hdrop, by omega, n, rfl⟩
theorem number_short (A0 : Option Addr) (c0 : Nat) (l0 : List Int) (g s : Nat) (w0 w : World) (hs1 : 1 ≤ s) (hs8 : s ≤ 8) (hsl : l0.length < s) (hr0 : Kd.C (Kd.int .u8) w0 A0 l0.length l0) (hc0 : l0.length ≤ c0) (HB : Below w0.heap.size w0 w)
    (hb : w.heap[g]? = some (.cells #[.slice A0 l0.length c0] 118 (0, 0))) :
    Calls Try.prog 79 #[.pointer (some ⟨g, 0, none⟩), .int .i64 (s : Int)] w fun e w' => e = .panicked lacks ∧ ∃ n, w' = w.drewN n := by
  have hu118 := Try.underlying118
  have hc := blk_cell hb 0
  have hf := blk_frozen hb 0
  have hget : octet_Get.f l0 (s : Int) = some (0, false) := by
    unfold octet_Get.f
    rw [if_neg (by omega), if_neg (by omega), if_pos (by omega)]
  have hpan : ∀ (w : World), (Instr.panic (.iface 42 (.int .i64 12))).run Try.prog w = .halt (.panic (.iface 42 (.int .i64 12))) w := fun _ => rfl
  go_enter Try.func79, Try.ntmps79
  go_wp2_with (go_at_call 89; refine (octet_Get.calls A0 c0 l0 (s : Int) _ _ _ (Kd.C_below hr0 HB) hc0 hget).mono ?_; rintro e w' ⟨rfl, n, rfl⟩)
  exact ⟨rfl, rfl, n, rfl⟩
/-- A number of so many bytes as a value: its sign is its first bit. -/
def sx (s : Nat) (n : Int) : Int := (wrap64 (IntKind.u64.wrap (n * 2 ^ (64 - 8 * s)))) / 2 ^ (64 - 8 * s)
theorem value_ok (A0 : Option Addr) (c0 : Nat) (l0 : List Int) (g s : Nat) (w0 w : World) (hs1 : 1 ≤ s) (hs8 : s ≤ 8) (hsl : s ≤ l0.length) (hr0 : Kd.C (Kd.int .u8) w0 A0 l0.length l0) (hc0 : l0.length ≤ c0) (HB : Below w0.heap.size w0 w)
    (hb : w.heap[g]? = some (.cells #[.slice A0 l0.length c0] 118 (0, 0))) :
    Calls Try.prog 80 #[.pointer (some ⟨g, 0, none⟩), .int .i64 (s : Int)] w fun e w' => e = .returned (.int .i64 (sx s (getI 0 (l0.take s)))) ∧
      ∃ A1 n, Kd.C (Kd.int .u8) w0 A1 (l0.length - s) (l0.drop s) ∧ l0.length - s ≤ c0 - s ∧ w' = (w.drewN n).setCell ⟨g, 0, none⟩ (.slice A1 (l0.length - s) (c0 - s)) := by
  go_enter Try.func80, Try.ntmps80
  go_wp2_with (go_at_call 79; refine (number_ok A0 c0 l0 g s w0 _ hs1 hs8 hsl hr0 hc0 HB hb).mono ?_; rintro e w' ⟨rfl, A1, n, hC, hle, rfl⟩)
  rw [List.length_drop] at hC hle
  go_ret
  exact ⟨rfl, A1, n, hC, hle, rfl⟩
theorem value_short (A0 : Option Addr) (c0 : Nat) (l0 : List Int) (g s : Nat) (w0 w : World) (hs1 : 1 ≤ s) (hs8 : s ≤ 8) (hsl : l0.length < s) (hr0 : Kd.C (Kd.int .u8) w0 A0 l0.length l0) (hc0 : l0.length ≤ c0) (HB : Below w0.heap.size w0 w)
    (hb : w.heap[g]? = some (.cells #[.slice A0 l0.length c0] 118 (0, 0))) :
    Calls Try.prog 80 #[.pointer (some ⟨g, 0, none⟩), .int .i64 (s : Int)] w fun e w' => e = .panicked lacks ∧ ∃ n, w' = w.drewN n := by
  go_enter Try.func80, Try.ntmps80
  go_wp2_with (go_at_call 79; refine (number_short A0 c0 l0 g s w0 _ hs1 hs8 hsl hr0 hc0 HB hb).mono ?_; rintro e w' ⟨rfl, n, rfl⟩)
  exact ⟨rfl, rfl, n, rfl⟩
theorem catch_panics (p : Addr) (x : Value) (u : TypeId) (pv : Value) (older : List PanicEntry) (w : World) (hc : w.cell? p = some x) (hz : w.frozen? p = false) :
    CallsD Try.prog 78 #[.pointer (some p)] (.panicking ({ v := .iface u pv, recovered := false } :: older)) w fun e u' w' =>
      e = .returned (.tuple #[]) ∧ u' = .panicking ({ v := .iface u pv, recovered := true } :: older) ∧ w' = w.setCell p (.slice none 0 0) := by
  refine callsD_of_wpS Try.func78 rfl fun c₀ cs hu => ?_
  apply wpS_seq
  apply wpS_region
  simp [wpOpsS, go_sem, recoverD, hu, Try.ntmps78, Exit.thenS]
  refine wpS_cond (t := true) (by simp [Act.eval, Array.replicate]) ?_
  simp only [if_true]
  apply wpS_region
  simp [wpOpsS, go_sem, hc, hz, bodyPostS, results, Try.results78]
theorem catch_idle (p : Addr) (w : World) :
    CallsD Try.prog 78 #[.pointer (some p)] .returning w fun e u' w' => e = .returned (.tuple #[]) ∧ u' = .returning ∧ w' = w := by
  refine callsD_of_wpS Try.func78 rfl fun c₀ cs hu => ?_
  apply wpS_seq
  apply wpS_region
  simp [wpOpsS, go_sem, recoverD, hu, Try.ntmps78, Exit.thenS]
  refine wpS_cond (t := false) (by simp [Act.eval, Array.replicate]) ?_
  simp only [Bool.false_eq_true, if_false]
  refine wpS_of_wp (wp_skip ?_)
  cases c₀
  simp_all [bodyPostS, results, Try.results78]
def readI : List Int → List Int → List S45 → Option (List S45)
  | [], _, acc => some acc
  | [_], _, _ => some []
  | x :: y :: q, v, acc => if 0 ≤ getI 0 [x, y] then (if getI 0 [x, y] < 65536 then (if acc.length < 8796093022207 then (if v.length < (getI 0 [x, y]).toNat % 8 + 1 then some [] else readI q (v.drop ((getI 0 [x, y]).toNat % 8 + 1)) (acc ++ [⟨((getI 0 [x, y]).toNat / 16 : Nat), sx ((getI 0 [x, y]).toNat % 8 + 1) (getI 0 (v.take ((getI 0 [x, y]).toNat % 8 + 1)))⟩])) else none) else none) else none
def cell_read.f (l0 : List Int) (l1 : List Int) : Option (List S45) := readI l0 l1 []
/-- How the three blocks stand: the row so far, the two readers. -/
structure RS (w w' : World) (ga gb : Nat) (q v : List Int) (acc : List S45) : Prop where
  a : ∃ A c, w'.heap[ga]? = some (.cells #[.slice A q.length c] 118 (0, 0)) ∧ Kd.C (Kd.int .u8) w A q.length q ∧ q.length ≤ c
  b : ∃ A c, w'.heap[gb]? = some (.cells #[.slice A v.length c] 118 (0, 0)) ∧ Kd.C (Kd.int .u8) w A v.length v ∧ v.length ≤ c
  l : ∃ v0, w'.heap[w.heap.size]? = some (.cells #[v0] 40 (0, 0)) ∧ Kd.R k45 45 w' w.heap.size (fun k => (k ≠ w.heap.size ∧ k ≠ ga) ∧ k ≠ gb) v0 acc
  below : Below w.heap.size w w'
/-- The way out, by a return: the closure finds nothing to recover; the result is what the variable holds. -/
theorem door_ret {R : Ending → World → Prop} {tmps : Array Value} {p : Addr} {v0 : Value} {w : World} (ht : tmps[4]? = some (.pointer (some p))) (hc : w.cell? p = some v0) (hR : R (.returned v0) w) :
    bodyPostD Try.prog Try.f63 R Exit.ret { tmps := tmps, defers := [{ target := Target.fn (Fn.func 78) #[.pointer (some p)], args := #[] }] } w := by
  refine leaves_cons (f := 78) (args := #[.pointer (some p)]) (by simp) (by simp [go_sem]) ?_
  refine (catch_idle p w).mono ?_
  rintro e u' w'' ⟨rfl, rfl, rfl⟩
  simp [Leaves, settle, results, Try.results63, go_sem, ht, hc, hR]
/-- The way out, by a panic: the closure recovers, the variable is emptied. -/
theorem door_panic {R : Ending → World → Prop} {tmps : Array Value} {p : Addr} {v0 : Value} {w : World} (ht : tmps[4]? = some (.pointer (some p))) (hc : w.cell? p = some v0) (hz : w.frozen? p = false) (hR : R (.returned (.slice none 0 0)) (w.setCell p (.slice none 0 0))) :
    bodyPostD Try.prog Try.f63 R (Exit.panic lacks) { tmps := tmps, defers := [{ target := Target.fn (Fn.func 78) #[.pointer (some p)], args := #[] }] } w := by
  refine leaves_cons (f := 78) (args := #[.pointer (some p)]) (by simp) (by simp [go_sem]) ?_
  refine (catch_panics p v0 42 _ [] w hc hz).mono ?_
  rintro e u' w'' ⟨rfl, rfl, rfl⟩
  simp [Leaves, settle, results, Try.results63, go_sem, ht, hc, hz, hR]
theorem wrap_quo (n : Nat) (h : n < 65536) : IntKind.i64.wrap ((n : Int) / 16) = (n : Int) / 16 := by
  rw [i64_w]
  unfold wrap64
  omega
theorem wrap_rem (n : Nat) (h : n < 65536) : IntKind.i64.wrap ((n : Int) % 8 + 1) = (n : Int) % 8 + 1 := by
  rw [i64_w]
  unfold wrap64
  omega
theorem wrap64_small (n : Nat) (h : n < 65536) : wrap64 (n : Int) = (n : Int) := by unfold wrap64; omega
theorem leaves_res {P : Program} {fn : Func} {t t' : Array Value} {R : Ending → World → Prop} (ht : results fn t = results fn t') : ∀ (ds : List Deferred) (u : FrameMode) (w : World), Leaves P fn t R ds u w → Leaves P fn t' R ds u w := by
  intro ds
  induction ds with
  | nil =>
    intro u w h
    cases u with
    | run => exact h
    | returning => obtain ⟨v, hv, hR⟩ := h; exact ⟨v, ht ▸ hv, hR⟩
    | panicking c => exact h
  | cons d ds ih =>
    intro u w h
    obtain ⟨hu, fv, cap, f, args, h1, h2, h3⟩ := h
    refine ⟨hu, fv, cap, f, args, h1, h2, ?_⟩
    refine h3.mono ?_
    intro e u' w' hh
    cases e with
    | returned v => exact ih _ _ hh
    | panicked c => exact ih _ _ hh
    | outgrown => exact hh
theorem put_res (t : Array Value) (n : Nat) (v : Value) (h : n ≠ 4) : results Try.f63 (t.setIfInBounds n v) = results Try.f63 t := by
  simp [results, Try.results63, go_sem, Array.getElem?_setIfInBounds, h]
theorem panic_put {K K' : Act → World → Prop} {R : Ending → World → Prop} {n : Nat} (hn : n ≠ 4) (v : Value) (c : List PanicEntry) (a : Act) (w : World)
    (h : (Exit.inBlock 1 (Exit.then K (Exit.inBlock 0 (Exit.then K' (bodyPostD Try.prog Try.f63 R))))) (.panic c) (a.put (some n) v) w) :
    (Exit.inBlock 1 (Exit.then K (Exit.inBlock 0 (Exit.then K' (bodyPostD Try.prog Try.f63 R))))) (.panic c) a w := by
  have h' : Leaves Try.prog Try.f63 (a.put (some n) v).tmps R (a.put (some n) v).defers (.panicking c) w := h
  exact (leaves_res (put_res a.tmps n v hn) _ _ _ h' :)
theorem goesP_ {P : Program} {Q : Exit → Act → World → Prop} {ops : Array Oper} {oi : Oper} {N : Option Tmp} {a : Act} {w : World} {K : Act → World → Prop} {f : FuncId} {fn : Func} {xs : Array Operand} {ts : Array TypeId} (hf : P.funcs[f]? = some fn) (hname : (fn.name == "runtime.NumGoroutine") = false) (hb : fn.body.isSome = true) (args : Array Value)
    (hw : Region.wanted oi (yielded ops a.tmps) = true) (hN : oi.dst = N) (hop : oi.op = .call { callee := .value (.func f), args := xs, argTypes := ts }) (hargs : xs.map a.eval = args)
    (h : Calls P f args w fun e w' => ∃ c, e = .panicked c ∧ Q (.panic c) a w') : if Region.wanted oi (yielded ops a.tmps) = true then Oper.wp P oi a w K Q else K (a.put N undef) w := by
  rw [if_pos hw]
  have he := enters_ hf hname hb args w
  have hrun : (execOp a.eval oi).run P w = .ok (.enter f args) w := by
    unfold execOp
    simp [hop, resolve, Deferred.ofValue, invoke, Act.eval, hargs, he]
  unfold Oper.wp
  rw [hrun, Oper.upon_enter]
  refine h.mono fun e w'' hh => ?_
  obtain ⟨c, rfl, hk⟩ := hh
  exact hk
theorem cell_read.calls (A0 : Option Addr) (c0 : Nat) (l0 : List Int) (A1 : Option Addr) (c1 : Nat) (l1 : List Int) (r : List S45) (w : World) (hr0 : Kd.C (Kd.int .u8) w A0 l0.length l0) (hc0 : l0.length ≤ c0) (hr1 : Kd.C (Kd.int .u8) w A1 l1.length l1) (hc1 : l1.length ≤ c1) (h : cell_read.f l0 l1 = some r) :
    Calls Try.prog 63 #[.slice A0 l0.length c0, .slice A1 l1.length c1] w fun e w' => ∃ v0_ : Value, e = .returned (v0_) ∧ Kd.R k45 45 w' w.heap.size (fun _ => True) v0_ r ∧ Below w.heap.size w w' := by
  have hmf : ∀ (fn : Fn) (first cap : Array Value) (w : World), (Instr.makeFunc fn first cap).run Try.prog w = .ok (.func fn first cap) w := fun _ _ _ _ => rfl
  have hu118 := Try.underlying118
  go_enter_defers Try.func63, Try.ntmps63
  go_wp2
  generalize hga : w.heap.size + 1 = ga
  generalize hgb : ga + 1 = gb
  generalize hW : (((w.alloc (Obj.cells #[Value.slice none 0 0] 40)).alloc (Obj.cells #[Value.slice A0 l0.length c0] 118)).alloc (Obj.cells #[Value.slice A1 l1.length c1] 118)) = W
  have hRS : RS w W ga gb l0 l1 [] := by
    have hz1 : (w.alloc (Obj.cells #[Value.slice none 0 0] 40)).heap.size = ga := by rw [← hga]; exact Array.size_push _
    have hz2 : ((w.alloc (Obj.cells #[Value.slice none 0 0] 40)).alloc (Obj.cells #[Value.slice A0 l0.length c0] 118)).heap.size = gb := by rw [← hgb, ← hz1]; exact Array.size_push _
    have hL := blk_alloc (blk_alloc (blk_new w (Obj.cells #[Value.slice none 0 0] 40)) (Obj.cells #[Value.slice A0 l0.length c0] 118)) (Obj.cells #[Value.slice A1 l1.length c1] 118)
    have hA := blk_alloc (blk_new (w.alloc (Obj.cells #[Value.slice none 0 0] 40)) (Obj.cells #[Value.slice A0 l0.length c0] 118)) (Obj.cells #[Value.slice A1 l1.length c1] 118)
    have hB := blk_new ((w.alloc (Obj.cells #[Value.slice none 0 0] 40)).alloc (Obj.cells #[Value.slice A0 l0.length c0] 118)) (Obj.cells #[Value.slice A1 l1.length c1] 118)
    rw [hz1] at hA
    rw [hz2] at hB
    rw [hW] at hL hA hB
    have hb : Below w.heap.size w W := by
      rw [← hW]
      exact below_alloc (below_alloc (below_alloc (Below.refl _ _) _) _) _
    exact ⟨⟨A0, c0, hA, hr0, hc0⟩, ⟨A1, c1, hB, hr1, hc1⟩, ⟨_, hL, Kd.R_nil _ _ _ _ _⟩, hb⟩
  clear hW
  go_loopg [7] (l0.length + 1) (fun kq v7 w' => ∃ (q v : List Int) (acc : List S45), Aside0 (q.length < kq) ∧ Aside0 (readI q v acc = some r) ∧ Aside0 (RS w w' ga gb q v acc))
  case atStart => exact ⟨l0, l1, [], ⟨Nat.lt_succ_self _⟩, ⟨h⟩, ⟨hRS⟩⟩
  case round =>
    clear hRS h
    obtain ⟨q, v, acc, hlt, hr, hrs⟩ := hrel
    have hr := hr.out
    obtain ⟨⟨A2, c2, hA, hC2, hc2⟩, ⟨A3, c3, hB, hC3, hc3⟩, ⟨v0, hL, hR⟩, HB⟩ := hrs.out
    obtain ⟨Ao, co, rfl, hco, hRo⟩ := Kd.R_reads hR
    have hfA := blk_frozen hA 0
    have hcL : wr.cell? ⟨w.heap.size, 0, none⟩ = some (.slice Ao acc.length co) := (blk_cell hL 0).trans rfl
    have hfL := blk_frozen hL 0
    have hlt := hlt.out
    clear hrs
    rcases q with _ | ⟨x, _ | ⟨y, q⟩⟩
    · obtain rfl := Option.some.inj hr
      have hcA : wr.cell? ⟨ga, 0, none⟩ = some (.slice A2 0 c2) := (blk_cell hA 0).trans rfl
      go_wp2
      have hcL2 : (wr.setCell ⟨w.heap.size, 0, none⟩ (.slice Ao acc.length co)).cell? ⟨w.heap.size, 0, none⟩ = some (.slice Ao acc.length co) := by go_simp
      exact door_ret rfl hcL2 ⟨_, rfl, Kd.R_mono (Kd.R_far (p := ⟨w.heap.size, 0, none⟩) hR (fun _ hk => hk.1.1) _) (fun _ _ => trivial), below_set HB (Nat.le_refl _)⟩
    · obtain rfl := Option.some.inj hr
      have hcA : wr.cell? ⟨ga, 0, none⟩ = some (.slice A2 1 c2) := (blk_cell hA 0).trans rfl
      go_wp2_with (go_at_call 79; refine (number_short A2 c2 [x] ga 2 w _ (by decide) (by decide) (by simp) hC2 hc2 HB hA).mono ?_; rintro e w' ⟨rfl, n, rfl⟩)
      exact door_panic rfl (w := wr.drewN n) (v0 := .slice Ao acc.length co) hcL hfL ⟨_, rfl, Kd.R_nil _ _ _ _ _, below_set (pw_below_drewN HB n) (Nat.le_refl _)⟩
    · have hu : Aside0 (0 ≤ getI 0 [x, y] ∧ getI 0 [x, y] < 65536 ∧ acc.length < 8796093022207 ∧ (if v.length < (getI 0 [x, y]).toNat % 8 + 1 then some [] else readI q (v.drop ((getI 0 [x, y]).toNat % 8 + 1)) (acc ++ [⟨((getI 0 [x, y]).toNat / 16 : Nat), sx ((getI 0 [x, y]).toNat % 8 + 1) (getI 0 (v.take ((getI 0 [x, y]).toNat % 8 + 1)))⟩])) = some r) := by
        rw [readI] at hr
        by_cases h1 : 0 ≤ getI 0 [x, y]
        · rw [if_pos h1] at hr
          by_cases h2 : getI 0 [x, y] < 65536
          · rw [if_pos h2] at hr
            by_cases h3 : acc.length < 8796093022207
            · rw [if_pos h3] at hr
              exact ⟨⟨h1, h2, h3, hr⟩⟩
            · rw [if_neg h3] at hr; cases hr
          · rw [if_neg h2] at hr; cases hr
        · rw [if_neg h1] at hr; cases hr
      clear hr
      have hcA : wr.cell? ⟨ga, 0, none⟩ = some (.slice A2 (x :: y :: q).length c2) := (blk_cell hA 0).trans rfl
      go_wp2_with (go_at_call 79; refine (number_ok A2 c2 (x :: y :: q) ga 2 w _ (by decide) (by decide) (by simp) hC2 hc2 HB hA).mono ?_; rintro e w1 ⟨rfl, A4, n1, hC4, hc4, rfl⟩)
      obtain ⟨hn0, hn1, hg, hr2⟩ := hu.out
      obtain ⟨n, hn⟩ := Int.eq_ofNat_of_zero_le hn0
      have hn16 : n < 65536 := by omega
      have hw : wrap64 (getI 0 [x, y]) = (n : Int) := by rw [hn]; exact wrap64_small n hn16
      rw [hn, Int.toNat_natCast] at hr2
      have hne1 : w.heap.size ≠ ga := by omega
      have hne2 : ga ≠ gb := by omega
      have hne3 : w.heap.size ≠ gb := by omega
      have hL1 := blk_drew (blk_far (p := ⟨ga, 0, none⟩) (blk_drewN hL n1) hne1 (.slice A4 q.length (c2 - 2)))
      have hB1 := blk_drew (blk_far (p := ⟨ga, 0, none⟩) (blk_drewN hB n1) (Ne.symm hne2) (.slice A4 q.length (c2 - 2)))
      have hA1 := blk_drew (blk_put (blk_drewN hA n1) 0 (.slice A4 q.length (c2 - 2)) rfl)
      have HB1 := below_drew1 (below_set (j := 0) (v := .slice A4 q.length (c2 - 2)) (pw_below_drewN HB n1) (show w.heap.size ≤ ga by omega))
      have hR1 := Kd.R_drew (Kd.R_far (p := ⟨ga, 0, none⟩) (Kd.R_drewN hR n1) (fun _ hk => hk.1.2) (.slice A4 q.length (c2 - 2)))
      have hS1 : _ = some (Value.slice Ao acc.length co) := (blk_cell hL1 0).trans rfl
      refine start_ (n := 12) (S := fun w' => w'.cell? ⟨w.heap.size, 0, none⟩ = some (.slice Ao acc.length co)) (ds := [11]) #[false, false, false, false, false, false, false, false, false, false, false, false] (by kernel_rfl) rfl rfl hS1 (fun _ => ?_)
      have hlt' : q.length + 1 + 1 < gk := hlt
      clear hlt hA hB hL hR HB hcA hcL hfA hfL
      generalize (((wr.drewN n1).setCell ⟨ga, 0, none⟩ (.slice A4 q.length (c2 - 2))).drew) = w2 at hL1 hB1 hA1 HB1 hR1 hS1 ⊢
      rw [hw]
      clear hw
      have hcq := hC4
      rw [show List.drop 2 (x :: y :: q) = q from rfl] at hcq
      have hq2 : q.length ≤ c2 - 2 := hc4
      have hlt2 := hlt'
      clear hC4 hc4 hC2 hc2 hu
      clear hn hn0 hn1
      refine take_ (i := 0) (N := some 24) (v := .slice Ao acc.length co) (a' := ?a0) #[true, false, false, false, false, false, false, false, false, false, false, false] rfl rfl (by kernel_rfl) (fun c a w h => panic_put (by decide) _ c a w h) (Or.inl ⟨by rfl, ?y0⟩) hS1 ?p0 ?_
      case y0 =>
        intro w' hs
        go_simp
      case p0 =>
        simp only [Act.put, List.setIfInBounds_toArray, List.set_cons_zero, List.set_cons_succ, i64_w, i32_w]
        rfl
      refine pure_ (i := 1) (N := some 25) (v := .int .i64 (n : Int)) (a' := ?a1) #[true, true, false, false, false, false, false, false, false, false, false, false] rfl rfl (by kernel_rfl) (fun c a w h => panic_put (by decide) _ c a w h) (Or.inl ⟨by rfl, ?y1⟩) ?p1 ?_
      case y1 =>
        intro w'
        go_simp
      case p1 =>
        simp only [Act.put, List.setIfInBounds_toArray, List.set_cons_zero, List.set_cons_succ, i64_w, i32_w]
        rfl
      refine pure_ (i := 2) (N := some 26) (v := .int .i64 ((n / 16 : Nat) : Int)) (a' := ?a2) #[true, true, true, false, false, false, false, false, false, false, false, false] rfl rfl (by kernel_rfl) (fun c a w h => panic_put (by decide) _ c a w h) (Or.inl ⟨by rfl, ?y2⟩) ?p2 ?_
      case y2 =>
        intro w'
        go_simp
        exact wrap_quo n hn16
      case p2 =>
        simp only [Act.put, List.setIfInBounds_toArray, List.set_cons_zero, List.set_cons_succ, i64_w, i32_w]
        rfl
      refine pure_ (i := 3) (N := some 27) (v := .pointer (some ⟨gb, 0, none⟩)) (a' := ?a3) #[true, true, true, true, false, false, false, false, false, false, false, false] rfl rfl (by kernel_rfl) (fun c a w h => panic_put (by decide) _ c a w h) (Or.inl ⟨by rfl, ?y3⟩) ?p3 ?_
      case y3 =>
        intro w'
        go_simp
      case p3 =>
        simp only [Act.put, List.setIfInBounds_toArray, List.set_cons_zero, List.set_cons_succ, i64_w, i32_w]
        rfl
      refine pure_ (i := 4) (N := some 28) (v := .int .i64 (n : Int)) (a' := ?a4) #[true, true, true, true, true, false, false, false, false, false, false, false] rfl rfl (by kernel_rfl) (fun c a w h => panic_put (by decide) _ c a w h) (Or.inl ⟨by rfl, ?y4⟩) ?p4 ?_
      case y4 =>
        intro w'
        go_simp
      case p4 =>
        simp only [Act.put, List.setIfInBounds_toArray, List.set_cons_zero, List.set_cons_succ, i64_w, i32_w]
        rfl
      refine pure_ (i := 5) (N := some 29) (v := .int .i64 ((n % 8 : Nat) : Int)) (a' := ?a5) #[true, true, true, true, true, true, false, false, false, false, false, false] rfl rfl (by kernel_rfl) (fun c a w h => panic_put (by decide) _ c a w h) (Or.inl ⟨by rfl, ?y5⟩) ?p5 ?_
      case y5 =>
        intro w'
        go_simp
        exact Int.tmod_eq_emod_of_nonneg (Int.natCast_nonneg n)
      case p5 =>
        simp only [Act.put, List.setIfInBounds_toArray, List.set_cons_zero, List.set_cons_succ, i64_w, i32_w]
        rfl
      refine pure_ (i := 6) (N := some 30) (v := .int .i64 ((n % 8 + 1 : Nat) : Int)) (a' := ?a6) #[true, true, true, true, true, true, true, false, false, false, false, false] rfl rfl (by kernel_rfl) (fun c a w h => panic_put (by decide) _ c a w h) (Or.inl ⟨by rfl, ?y6⟩) ?p6 ?_
      case y6 =>
        intro w'
        go_simp
        exact wrap_rem n hn16
      case p6 =>
        simp only [Act.put, List.setIfInBounds_toArray, List.set_cons_zero, List.set_cons_succ, i64_w, i32_w]
        rfl
      refine one_ (i := 7) (N := some 31) #[true, true, true, true, true, true, true, true, false, false, false, false] rfl rfl (by kernel_rfl) (by decide) (fun K hK => ?_)
      by_cases hv : v.length < n % 8 + 1
      · rw [if_pos hv] at hr2
        obtain rfl := Option.some.inj hr2
        refine goesP_ Try.func80 (by kernel_rfl) rfl #[.pointer (some ⟨gb, 0, none⟩), .int .i64 ((n % 8 + 1 : Nat) : Int)] (by rfl) rfl rfl (by simp only [List.map_toArray, List.map_cons, List.map_nil]; rfl) ?_
        refine (value_short A3 c3 v gb (n % 8 + 1) w w2 (by omega) (by omega) hv hC3 hc3 HB1 hB1).mono ?_
        rintro e w3 ⟨rfl, n2, rfl⟩
        refine ⟨_, rfl, ?_⟩
        exact door_panic rfl (w := w2.drewN n2) (v0 := .slice Ao acc.length co) hS1 (blk_frozen hL1 0) ⟨_, rfl, Kd.R_nil _ _ _ _ _, below_set (pw_below_drewN HB1 n2) (Nat.le_refl _)⟩
      · rw [if_neg hv] at hr2
        refine goes_ Try.func80 (by kernel_rfl) rfl #[.pointer (some ⟨gb, 0, none⟩), .int .i64 ((n % 8 + 1 : Nat) : Int)] (by rfl) rfl rfl (by simp only [List.map_toArray, List.map_cons, List.map_nil]; rfl) ?_
        refine (value_ok A3 c3 v gb (n % 8 + 1) w w2 (by omega) (by omega) (by omega) hC3 hc3 HB1 hB1).mono ?_
        rintro e w3 ⟨rfl, A5, n2, hC5, hc5, rfl⟩
        refine ⟨_, rfl, ?_⟩
        have hL2 := blk_far (p := ⟨gb, 0, none⟩) (blk_drewN hL1 n2) hne3 (.slice A5 (v.length - (n % 8 + 1)) (c3 - (n % 8 + 1)))
        have hA2 := blk_far (p := ⟨gb, 0, none⟩) (blk_drewN hA1 n2) hne2 (.slice A5 (v.length - (n % 8 + 1)) (c3 - (n % 8 + 1)))
        have hB2 := blk_put (blk_drewN hB1 n2) 0 (.slice A5 (v.length - (n % 8 + 1)) (c3 - (n % 8 + 1))) rfl
        have HB2 := below_set (j := 0) (v := .slice A5 (v.length - (n % 8 + 1)) (c3 - (n % 8 + 1))) (pw_below_drewN HB1 n2) (show w.heap.size ≤ gb by omega)
        have hR2 := Kd.R_far (p := ⟨gb, 0, none⟩) (Kd.R_drewN hR1 n2) (fun _ hk => hk.2) (.slice A5 (v.length - (n % 8 + 1)) (c3 - (n % 8 + 1)))
        have hS2 := (blk_cell hL2 0).trans rfl
        refine hK.out _ _ hS2 (fun _ => ?_)
        clear hK K hL1 hA1 hB1 HB1 hR1 hS1
        generalize ((w2.drewN n2).setCell ⟨gb, 0, none⟩ (.slice A5 (v.length - (n % 8 + 1)) (c3 - (n % 8 + 1)))) = w3 at hL2 hA2 hB2 HB2 hR2 hS2 ⊢
        refine norm_ (a' := ?_) ?_ ?_
        rotate_left
        · show Act.put _ (some 31) _ = _
          simp only [Act.put, List.setIfInBounds_toArray, List.set_cons_zero, List.set_cons_succ, i64_w, i32_w]
          rfl
        generalize hz : sx (n % 8 + 1) (getI 0 (v.take (n % 8 + 1))) = z at hr2 ⊢
        refine pure_ (i := 8) (N := some 32) (v := .agg #[.int .i64 ((n / 16 : Nat) : Int), .int .i64 z]) (a' := ?a8) #[true, true, true, true, true, true, true, true, true, false, false, false] rfl rfl (by kernel_rfl) (fun c a w h => panic_put (by decide) _ c a w h) (Or.inl ⟨by rfl, ?y8⟩) ?p8 ?_
        case y8 =>
          intro w'
          go_simp
          try with_reducible rfl
        case p8 =>
          simp only [Act.put, List.setIfInBounds_toArray, List.set_cons_zero, List.set_cons_succ, i64_w, i32_w]
          rfl
        refine one_ (i := 9) (N := some 33) #[true, true, true, true, true, true, true, true, true, true, false, false] rfl rfl (by kernel_rfl) (by decide) (fun K hK => ?_)
        refine value_ (w1 := w3.alloc (.cells #[.int .i64 ((n / 16 : Nat) : Int), .int .i64 z] 45)) (v := .slice (some ⟨w3.heap.size, 0, none⟩) 1 1) (by rfl) rfl ?rn9 ?_
        case rn9 =>
          go_simp
          try trace_state
        have hS3 := (blk_cell (blk_alloc hL2 (.cells #[.int .i64 ((n / 16 : Nat) : Int), .int .i64 z] 45)) 0).trans rfl
        refine hK.out _ _ hS3 (fun _ => ?_)
        clear hK K
        refine norm_ (a' := ?_) ?_ ?_
        rotate_left
        · show Act.put _ (some 33) _ = _
          simp only [Act.put, List.setIfInBounds_toArray, List.set_cons_zero, List.set_cons_succ, i64_w, i32_w]
          rfl
        refine one_ (i := 10) (N := some 34) #[true, true, true, true, true, true, true, true, true, true, true, false] rfl rfl (by kernel_rfl) (by decide) (fun K hK => ?_)
        refine Kd.R_append_step k45 (w0 := w) w.heap.size (by rfl) (.tmp 24) (.tmp 33) 40 45 (.agg #[(.int .i64 0), (.int .i64 0)]) 16 rfl Try.underlying40 info45 rfl (by decide) (by omega) (.slice Ao acc.length co) acc (⟨((n / 16 : Nat) : Int), z⟩ : S45) [.int .i64 ((n / 16 : Nat) : Int), .int .i64 z] (fun k => (k ≠ w.heap.size ∧ k ≠ ga) ∧ k ≠ gb) (fun _ => False) rfl rfl ?aP (fun _ hk => hk.elim) ?aF ?aO HB2 ?aS ?aL ?_
        case aP => exact k45_mkM _ _ _ (⟨((n / 16 : Nat) : Int), z⟩ : S45)
        case aF =>
          intro k hk
          have h1 := blk_lt hL2
          have h2 := blk_lt hA2
          have h3 := blk_lt hB2
          omega
        case aO => exact hR2
        case aS => exact below_size HB2
        case aL => omega
        intro v1 w4 ho hb hg4 hat
        have hd1 : ∀ k, Value.ownBlock (.slice Ao acc.length co) = some k → (k ≠ w.heap.size ∧ k ≠ ga) ∧ k ≠ gb := fun k hk => hR2.1 k hk
        have hL4 := blk_grown hL2 hg4 (fun e => (hd1 _ e.symm).1.1 rfl)
        have hA4 := blk_grown hA2 hg4 (fun e => (hd1 _ e.symm).1.2 rfl)
        have hB4 := blk_grown hB2 hg4 (fun e => (hd1 _ e.symm).2 rfl)
        obtain ⟨Ao2, co2, ev1, -, -⟩ := Kd.R_reads ho
        subst ev1
        have hS4 : _ = some (Value.slice Ao acc.length co) := (blk_cell hL4 0).trans rfl
        have hfL4 := blk_frozen hL4 0
        refine hK.out _ _ hS4 (fun _ => ?_)
        clear hK K hS3 hS2 hat
        refine norm_ (a' := ?_) ?_ ?_
        rotate_left
        · show Act.put _ (some 34) _ = _
          simp only [Act.put, List.setIfInBounds_toArray, List.set_cons_zero, List.set_cons_succ, i64_w, i32_w]
          rfl
        refine last_ (i := 11) (N := none) #[true, true, true, true, true, true, true, true, true, true, true, true] rfl rfl (by kernel_rfl) (by decide) (fun K hK => ?_)
        refine skip_ (w1 := w4.setCell ⟨w.heap.size, 0, none⟩ (.slice Ao2 (acc ++ [(⟨((n / 16 : Nat) : Int), z⟩ : S45)]).length co2)) (by rfl) rfl ?rn11 ?_
        case rn11 => go_simp
        refine hK.out _ _ ?_
        clear hK K
        refine done_ (by kernel_rfl) ?_
        have hne1' := hne1
        have hRS5 : RS w (w4.setCell ⟨w.heap.size, 0, none⟩ (.slice Ao2 (acc ++ [(⟨((n / 16 : Nat) : Int), z⟩ : S45)]).length co2)) ga gb q (v.drop (n % 8 + 1)) (acc ++ [⟨((n / 16 : Nat) : Int), z⟩]) := by
          refine ⟨⟨A4, c2 - 2, (blk_far (p := ⟨w.heap.size, 0, none⟩) hA4 (Ne.symm hne1) _).trans rfl, hcq, hq2⟩, ⟨A5, c3 - (n % 8 + 1), ?_, ?_, ?_⟩, ⟨_, (blk_put hL4 0 _ rfl).trans rfl, Kd.R_far (p := ⟨w.heap.size, 0, none⟩) ho (fun _ hk => hk.1.1) _⟩, below_set (j := 0) hb (Nat.le_refl _)⟩
          · rw [List.length_drop]
            exact (blk_far (p := ⟨w.heap.size, 0, none⟩) hB4 (Ne.symm hne3) _).trans rfl
          · rw [List.length_drop]
            exact hC5
          · rw [List.length_drop]
            exact hc5
        clear ho hb hg4 hL4 hA4 hB4 hS4 hfL4 hL2 hA2 hB2 HB2 hR2 hd1
        generalize (w4.setCell ⟨w.heap.size, 0, none⟩ (.slice Ao2 (acc ++ [(⟨((n / 16 : Nat) : Int), z⟩ : S45)]).length co2)) = w5 at hRS5 ⊢
        try go_wp2
        go_roundg (q.length + 1)
        case measure => omega
        case rel => exact ⟨q, v.drop (n % 8 + 1), _, ⟨Nat.lt_succ_self _⟩, ⟨hr2⟩, ⟨hRS5⟩⟩

/-! ### cell_Parse: function 29 -/
def cell_Parse.f (k : Nat) (l0 : List Int) (l1 : List Int) : Option ((List (S45)) × Int) := (cell_read.f l0 l1).bind fun t229 => (if (t229.length : Int) = 1 then (if 0 < (t229.length : Int) then ((cell_One.f k ((rd_T45 t229 0).f0) ((rd_T45 t229 0).f1)).bind fun bt233 => (if bt233.2.2 = 0 then (if (strOfNums bt233.1).toList = (strOfNums l0).toList then (if (strOfNums bt233.2.1).toList = (strOfNums l1).toList then (some (t229, 0)) else (some (([] : List (S45)), 12))) else (some (([] : List (S45)), 12))) else (some (([] : List (S45)), 12)))) else (none)) else (if (t229.length : Int) > 1 then ((cell_Many.f k t229).bind fun bt240 => (if bt240.2.2 = 0 then (if (strOfNums bt240.1).toList = (strOfNums l0).toList then (if (strOfNums bt240.2.1).toList = (strOfNums l1).toList then (some (t229, 0)) else (some (([] : List (S45)), 12))) else (some (([] : List (S45)), 12))) else (some (([] : List (S45)), 12)))) else (if 12 = 0 then (if (strOfNums ([] : List Int)).toList = (strOfNums l0).toList then (if (strOfNums ([] : List Int)).toList = (strOfNums l1).toList then (some (t229, 0)) else (some (([] : List (S45)), 12))) else (some (([] : List (S45)), 12))) else (some (([] : List (S45)), 12)))))
theorem cell_Parse.mono : ∀ a0 a1 k, LeO (cell_Parse.f k a0 a1) (cell_Parse.f (k + 1) a0 a1) := by
 intro a0 a1 k
 unfold cell_Parse.f
 repeat' first
   | (with_reducible exact cell_Many.mono _ _)
   | (with_reducible exact cell_One.mono _ _ _)
   | (with_reducible exact LeO.refl _)
   | (with_reducible exact LeO.none _)
   | (with_reducible refine LeO.ite ?_ ?_)
   | (with_reducible refine LeO.bind ?_ (fun _ => ?_))
   | exact cell_Many.mono _ _
   | exact cell_One.mono _ _ _
   | exact LeO.none _
   | refine LeO.ite ?_ ?_
   | refine LeO.bind ?_ (fun _ => ?_)
set_option maxHeartbeats 8000000 in
set_option maxRecDepth 100000 in
theorem cell_Parse.calls (k : Nat) (A0 : Option Addr) (c0 : Nat) (l0 : List Int) (A1 : Option Addr) (c1 : Nat) (l1 : List Int) (r1 : List (S45)) (r2 : Int) (w : World) (hr0 : Kd.C (Kd.int .u8) w A0 l0.length l0) (hc0 : l0.length ≤ c0) (hr1 : Kd.C (Kd.int .u8) w A1 l1.length l1) (hc1 : l1.length ≤ c1) (h : cell_Parse.f k l0 l1 = some (r1, r2)) :
  Calls Try.prog 29 #[.slice A0 l0.length c0, .slice A1 l1.length c1] w fun e w' => ∃ v0_ : Value, e = .returned (.tuple #[v0_, .int .i64 r2]) ∧ Kd.R k45 45 w' w.heap.size (fun _ => True) v0_ r1 ∧ Below w.heap.size w w' := by
 have hu45 := Try.underlying45
 have HR0 := Aside0.mk hr0
 have HC0 := Aside0.mk hc0
 clear hr0 hc0
 have HR1 := Aside0.mk hr1
 have HC1 := Aside0.mk hc1
 clear hr1 hc1
 have HB := Aside0.mk (Below.refl w.heap.size w)
 have H : ((cell_read.f l0 l1).bind fun t229 => (if (t229.length : Int) = 1 then (if 0 < (t229.length : Int) then ((cell_One.f k ((rd_T45 t229 0).f0) ((rd_T45 t229 0).f1)).bind fun bt233 => (if bt233.2.2 = 0 then (if (strOfNums bt233.1).toList = (strOfNums l0).toList then (if (strOfNums bt233.2.1).toList = (strOfNums l1).toList then (some (t229, 0)) else (some (([] : List (S45)), 12))) else (some (([] : List (S45)), 12))) else (some (([] : List (S45)), 12)))) else (none)) else (if (t229.length : Int) > 1 then ((cell_Many.f k t229).bind fun bt240 => (if bt240.2.2 = 0 then (if (strOfNums bt240.1).toList = (strOfNums l0).toList then (if (strOfNums bt240.2.1).toList = (strOfNums l1).toList then (some (t229, 0)) else (some (([] : List (S45)), 12))) else (some (([] : List (S45)), 12))) else (some (([] : List (S45)), 12)))) else (if 12 = 0 then (if (strOfNums ([] : List Int)).toList = (strOfNums l0).toList then (if (strOfNums ([] : List Int)).toList = (strOfNums l1).toList then (some (t229, 0)) else (some (([] : List (S45)), 12))) else (some (([] : List (S45)), 12))) else (some (([] : List (S45)), 12)))))) = some (r1, r2) := h
 clear h
 replace H := Option.bind_eq_some_iff.mp H
 obtain ⟨t229, A30, H⟩ := H
 replace H : (if (t229.length : Int) = 1 then (if 0 < (t229.length : Int) then ((cell_One.f k ((rd_T45 t229 0).f0) ((rd_T45 t229 0).f1)).bind fun bt233 => (if bt233.2.2 = 0 then (if (strOfNums bt233.1).toList = (strOfNums l0).toList then (if (strOfNums bt233.2.1).toList = (strOfNums l1).toList then (some (t229, 0)) else (some (([] : List (S45)), 12))) else (some (([] : List (S45)), 12))) else (some (([] : List (S45)), 12)))) else (none)) else (if (t229.length : Int) > 1 then ((cell_Many.f k t229).bind fun bt240 => (if bt240.2.2 = 0 then (if (strOfNums bt240.1).toList = (strOfNums l0).toList then (if (strOfNums bt240.2.1).toList = (strOfNums l1).toList then (some (t229, 0)) else (some (([] : List (S45)), 12))) else (some (([] : List (S45)), 12))) else (some (([] : List (S45)), 12)))) else (if 12 = 0 then (if (strOfNums ([] : List Int)).toList = (strOfNums l0).toList then (if (strOfNums ([] : List Int)).toList = (strOfNums l1).toList then (some (t229, 0)) else (some (([] : List (S45)), 12))) else (some (([] : List (S45)), 12))) else (some (([] : List (S45)), 12))))) = some (r1, r2) := H
 have A3 := Aside0.mk A30
 clear A30
 by_cases c4 : (t229.length : Int) = 1
 ·rw [if_pos c4] at H
  have c4b0 : ((t229.length : Int) == 1) = true := beq_iff_eq.mpr c4
  have c4b1 : ((t229.length : Int) != 1) = false := bne_eq_false_iff_eq.mpr c4
  clear c4
  by_cases c5 : 0 < (t229.length : Int)
  ·rw [if_pos c5] at H
   have c5b0 : decide (0 < (t229.length : Int)) = true := decide_eq_true c5
   have c5b1 : decide (0 < t229.length) = true := decide_eq_true (by omega)
   clear c5
   replace H := Option.bind_eq_some_iff.mp H
   obtain ⟨⟨t233, t236, t239⟩, A60, H⟩ := H
   replace H : (if t239 = 0 then (if (strOfNums t233).toList = (strOfNums l0).toList then (if (strOfNums t236).toList = (strOfNums l1).toList then (some (t229, 0)) else (some (([] : List (S45)), 12))) else (some (([] : List (S45)), 12))) else (some (([] : List (S45)), 12))) = some (r1, r2) := H
   have A6 := Aside0.mk A60
   clear A60
   by_cases c7 : t239 = 0
   ·rw [if_pos c7] at H
    have c7b0 : (t239 == 0) = true := beq_iff_eq.mpr c7
    have c7b1 : (t239 != 0) = false := bne_eq_false_iff_eq.mpr c7
    clear c7
    by_cases c8 : (strOfNums t233).toList = (strOfNums l0).toList
    ·rw [if_pos c8] at H
     have c8b0 : ((strOfNums t233).toList == (strOfNums l0).toList) = true := beq_iff_eq.mpr c8
     have c8b1 : ((strOfNums t233).toList != (strOfNums l0).toList) = false := bne_eq_false_iff_eq.mpr c8
     clear c8
     by_cases c9 : (strOfNums t236).toList = (strOfNums l1).toList
     ·rw [if_pos c9] at H
      have c9b0 : ((strOfNums t236).toList == (strOfNums l1).toList) = true := beq_iff_eq.mpr c9
      have c9b1 : ((strOfNums t236).toList != (strOfNums l1).toList) = false := bne_eq_false_iff_eq.mpr c9
      clear c9
      simp only [Option.some.injEq, Prod.mk.injEq] at H
      obtain ⟨rfl, rfl⟩ := H
      go_enter Try.func29, Try.ntmps29
      go_wp2_with (first | ((with_reducible refine gate_callee (f := 63) rfl ?_); refine goesL_ (some 12) rfl rfl Try.func63 (by kernel_rfl) rfl #[.slice A0 l0.length c0, .slice A1 l1.length c1] rfl argN ?_; (with_reducible refine (cell_read.calls _ _ l0 _ _ l1 t229 _ ?side1 ?side2 ?side3 ?side4 A3.out).mono ?_); (case side1 => repeat (first | exact HR0.out | (with_reducible refine Kd.C_alloc ?_ _) | (with_reducible refine Kd.C_drewN ?_ _) | (with_reducible refine Kd.C_drew ?_))); (case side2 => exact HC0.out); (case side3 => repeat (first | exact HR1.out | (with_reducible refine Kd.C_alloc ?_ _) | (with_reducible refine Kd.C_drewN ?_ _) | (with_reducible refine Kd.C_drew ?_))); (case side4 => exact HC1.out); rintro e w10 ⟨v230, rfl, ho0, hb⟩; refine ⟨_, rfl, ?_⟩; have n0_ := Aside0.mk (Kd.R_lower ho0 (below_size (belN HB.out))); have n1_ := Aside0.mk (below_step (belN HB.out) hb); clear HB; have HO231 := n0_; have HB := n1_; clear n0_ n1_; (try clear hb); (try clear hb2); (try clear hk); (try clear hi); (try clear ho0); obtain ⟨Ao11, co11, eo11⟩ := Kd.R_slice HO231.out; subst eo11; have p232 : 0 ≤ (0 : Int) := (by omega); have q232 : 0 < (t229.length : Int) := of_decide_eq_true (by first | (with_reducible assumption) | assumption); obtain ⟨ad232, e232, hx232_0, hx232_1⟩ := at_T45 (Kd.R_reads' HO231.out).2.2 0 p232 q232; cases e232; have qi232 : (0 < t229.length) = True := eq_true (by omega); (try rw [show ((0 : Int)).toNat = 0 from rfl] at hx232_0); (try rw [show 0 * 2 = 0 from rfl] at hx232_0); (try rw [Addr.add_zero'] at hx232_0); (try rw [show ((0 : Int)).toNat = 0 from rfl] at hx232_1); (try rw [show 0 * 2 = 0 from rfl] at hx232_1); (try rw [Addr.add_zero'] at hx232_1); replace p232 := eq_true p232; replace q232 := eq_true q232) | ((with_reducible refine gate_callee (f := 28) rfl ?_); refine goesL_ (some 20) rfl rfl Try.func28 (by kernel_rfl) rfl #[.agg #[.int .i64 ((rd_T45 t229 0).f0), .int .i64 ((rd_T45 t229 0).f1)]] rfl argN ?_; (with_reducible refine (cell_One.calls k ((rd_T45 t229 0).f0) ((rd_T45 t229 0).f1) t233 t236 t239 _ A6.out).mono ?_); rintro e w12 ⟨v234, v237, rfl, ho0, ho1, hb⟩; refine ⟨_, rfl, ?_⟩; have n0_ := Aside0.mk (Kd.R_below (rowN HO231.out) hb); have n1_ := Aside0.mk (Kd.R_lower ho0 (below_size (belN HB.out))); have n2_ := Aside0.mk (Kd.R_lower ho1 (below_size (belN HB.out))); have n3_ := Aside0.mk (below_step (belN HB.out) hb); clear HO231; clear HB; have HO231 := n0_; have HO235 := n1_; have HO238 := n2_; have HB := n3_; clear n0_ n1_ n2_ n3_; (try clear hb); (try clear hb2); (try clear hk); (try clear hi); (try clear ho0); (try clear ho1); have hcv13 := own_string (P := Try.prog) Try.underlying30 Try.underlying5 Try.underlying9 (Kd.own_of_R HO235.out); have hcv14 := Kd.C_string (P := Try.prog) (A := A0) (c := c0) Try.underlying30 Try.underlying5 Try.underlying9 (Kd.C_below HR0.out HB.out); have hcv15 := own_string (P := Try.prog) Try.underlying30 Try.underlying5 Try.underlying9 (Kd.own_of_R HO238.out); have hcv16 := Kd.C_string (P := Try.prog) (A := A1) (c := c1) Try.underlying30 Try.underlying5 Try.underlying9 (Kd.C_below HR1.out HB.out)))
      go_ret2
      exact ⟨_, by first | rfl | (simp [errW_none, errW_some] <;> rfl) | (simp [*, errW_none, errW_some] <;> rfl), (rowN HO231.out), (belN HB.out)⟩
     ·rw [if_neg c9] at H
      have c9b0 : ((strOfNums t236).toList == (strOfNums l1).toList) = false := beq_eq_false_iff_ne.mpr c9
      have c9b1 : ((strOfNums t236).toList != (strOfNums l1).toList) = true := bne_iff_ne.mpr c9
      simp only [Option.some.injEq, Prod.mk.injEq] at H
      obtain ⟨rfl, rfl⟩ := H
      go_enter Try.func29, Try.ntmps29
      go_wp2_with (first | ((with_reducible refine gate_callee (f := 63) rfl ?_); refine goesL_ (some 12) rfl rfl Try.func63 (by kernel_rfl) rfl #[.slice A0 l0.length c0, .slice A1 l1.length c1] rfl argN ?_; (with_reducible refine (cell_read.calls _ _ l0 _ _ l1 t229 _ ?side1 ?side2 ?side3 ?side4 A3.out).mono ?_); (case side1 => repeat (first | exact HR0.out | (with_reducible refine Kd.C_alloc ?_ _) | (with_reducible refine Kd.C_drewN ?_ _) | (with_reducible refine Kd.C_drew ?_))); (case side2 => exact HC0.out); (case side3 => repeat (first | exact HR1.out | (with_reducible refine Kd.C_alloc ?_ _) | (with_reducible refine Kd.C_drewN ?_ _) | (with_reducible refine Kd.C_drew ?_))); (case side4 => exact HC1.out); rintro e w17 ⟨v230, rfl, ho0, hb⟩; refine ⟨_, rfl, ?_⟩; have n0_ := Aside0.mk (Kd.R_lower ho0 (below_size (belN HB.out))); have n1_ := Aside0.mk (below_step (belN HB.out) hb); clear HB; have HO231 := n0_; have HB := n1_; clear n0_ n1_; (try clear hb); (try clear hb2); (try clear hk); (try clear hi); (try clear ho0); obtain ⟨Ao18, co18, eo18⟩ := Kd.R_slice HO231.out; subst eo18; have p232 : 0 ≤ (0 : Int) := (by omega); have q232 : 0 < (t229.length : Int) := of_decide_eq_true (by first | (with_reducible assumption) | assumption); obtain ⟨ad232, e232, hx232_0, hx232_1⟩ := at_T45 (Kd.R_reads' HO231.out).2.2 0 p232 q232; cases e232; have qi232 : (0 < t229.length) = True := eq_true (by omega); (try rw [show ((0 : Int)).toNat = 0 from rfl] at hx232_0); (try rw [show 0 * 2 = 0 from rfl] at hx232_0); (try rw [Addr.add_zero'] at hx232_0); (try rw [show ((0 : Int)).toNat = 0 from rfl] at hx232_1); (try rw [show 0 * 2 = 0 from rfl] at hx232_1); (try rw [Addr.add_zero'] at hx232_1); replace p232 := eq_true p232; replace q232 := eq_true q232) | ((with_reducible refine gate_callee (f := 28) rfl ?_); refine goesL_ (some 20) rfl rfl Try.func28 (by kernel_rfl) rfl #[.agg #[.int .i64 ((rd_T45 t229 0).f0), .int .i64 ((rd_T45 t229 0).f1)]] rfl argN ?_; (with_reducible refine (cell_One.calls k ((rd_T45 t229 0).f0) ((rd_T45 t229 0).f1) t233 t236 t239 _ A6.out).mono ?_); rintro e w19 ⟨v234, v237, rfl, ho0, ho1, hb⟩; refine ⟨_, rfl, ?_⟩; have n0_ := Aside0.mk (Kd.R_below (rowN HO231.out) hb); have n1_ := Aside0.mk (Kd.R_lower ho0 (below_size (belN HB.out))); have n2_ := Aside0.mk (Kd.R_lower ho1 (below_size (belN HB.out))); have n3_ := Aside0.mk (below_step (belN HB.out) hb); clear HO231; clear HB; have HO231 := n0_; have HO235 := n1_; have HO238 := n2_; have HB := n3_; clear n0_ n1_ n2_ n3_; (try clear hb); (try clear hb2); (try clear hk); (try clear hi); (try clear ho0); (try clear ho1); have hcv20 := own_string (P := Try.prog) Try.underlying30 Try.underlying5 Try.underlying9 (Kd.own_of_R HO235.out); have hcv21 := Kd.C_string (P := Try.prog) (A := A0) (c := c0) Try.underlying30 Try.underlying5 Try.underlying9 (Kd.C_below HR0.out HB.out); have hcv22 := own_string (P := Try.prog) Try.underlying30 Try.underlying5 Try.underlying9 (Kd.own_of_R HO238.out); have hcv23 := Kd.C_string (P := Try.prog) (A := A1) (c := c1) Try.underlying30 Try.underlying5 Try.underlying9 (Kd.C_below HR1.out HB.out)))
      go_ret2
      exact ⟨_, by first | rfl | (simp [errW_none, errW_some] <;> rfl) | (simp [*, errW_none, errW_some] <;> rfl), by first | exact Kd.R_nil _ _ _ _ _ | exact Kd.N_nil _ _ _ _ _ | exact Kd.V_nil _ _ _ _ _ | exact Kd.Q_nil _ _ _ _ _ | exact Kd.S_nil _ _ _ _ _, (belN HB.out)⟩
    ·rw [if_neg c8] at H
     have c8b0 : ((strOfNums t233).toList == (strOfNums l0).toList) = false := beq_eq_false_iff_ne.mpr c8
     have c8b1 : ((strOfNums t233).toList != (strOfNums l0).toList) = true := bne_iff_ne.mpr c8
     simp only [Option.some.injEq, Prod.mk.injEq] at H
     obtain ⟨rfl, rfl⟩ := H
     go_enter Try.func29, Try.ntmps29
     go_wp2_with (first | ((with_reducible refine gate_callee (f := 63) rfl ?_); refine goesL_ (some 12) rfl rfl Try.func63 (by kernel_rfl) rfl #[.slice A0 l0.length c0, .slice A1 l1.length c1] rfl argN ?_; (with_reducible refine (cell_read.calls _ _ l0 _ _ l1 t229 _ ?side1 ?side2 ?side3 ?side4 A3.out).mono ?_); (case side1 => repeat (first | exact HR0.out | (with_reducible refine Kd.C_alloc ?_ _) | (with_reducible refine Kd.C_drewN ?_ _) | (with_reducible refine Kd.C_drew ?_))); (case side2 => exact HC0.out); (case side3 => repeat (first | exact HR1.out | (with_reducible refine Kd.C_alloc ?_ _) | (with_reducible refine Kd.C_drewN ?_ _) | (with_reducible refine Kd.C_drew ?_))); (case side4 => exact HC1.out); rintro e w24 ⟨v230, rfl, ho0, hb⟩; refine ⟨_, rfl, ?_⟩; have n0_ := Aside0.mk (Kd.R_lower ho0 (below_size (belN HB.out))); have n1_ := Aside0.mk (below_step (belN HB.out) hb); clear HB; have HO231 := n0_; have HB := n1_; clear n0_ n1_; (try clear hb); (try clear hb2); (try clear hk); (try clear hi); (try clear ho0); obtain ⟨Ao25, co25, eo25⟩ := Kd.R_slice HO231.out; subst eo25; have p232 : 0 ≤ (0 : Int) := (by omega); have q232 : 0 < (t229.length : Int) := of_decide_eq_true (by first | (with_reducible assumption) | assumption); obtain ⟨ad232, e232, hx232_0, hx232_1⟩ := at_T45 (Kd.R_reads' HO231.out).2.2 0 p232 q232; cases e232; have qi232 : (0 < t229.length) = True := eq_true (by omega); (try rw [show ((0 : Int)).toNat = 0 from rfl] at hx232_0); (try rw [show 0 * 2 = 0 from rfl] at hx232_0); (try rw [Addr.add_zero'] at hx232_0); (try rw [show ((0 : Int)).toNat = 0 from rfl] at hx232_1); (try rw [show 0 * 2 = 0 from rfl] at hx232_1); (try rw [Addr.add_zero'] at hx232_1); replace p232 := eq_true p232; replace q232 := eq_true q232) | ((with_reducible refine gate_callee (f := 28) rfl ?_); refine goesL_ (some 20) rfl rfl Try.func28 (by kernel_rfl) rfl #[.agg #[.int .i64 ((rd_T45 t229 0).f0), .int .i64 ((rd_T45 t229 0).f1)]] rfl argN ?_; (with_reducible refine (cell_One.calls k ((rd_T45 t229 0).f0) ((rd_T45 t229 0).f1) t233 t236 t239 _ A6.out).mono ?_); rintro e w26 ⟨v234, v237, rfl, ho0, ho1, hb⟩; refine ⟨_, rfl, ?_⟩; have n0_ := Aside0.mk (Kd.R_below (rowN HO231.out) hb); have n1_ := Aside0.mk (Kd.R_lower ho0 (below_size (belN HB.out))); have n2_ := Aside0.mk (Kd.R_lower ho1 (below_size (belN HB.out))); have n3_ := Aside0.mk (below_step (belN HB.out) hb); clear HO231; clear HB; have HO231 := n0_; have HO235 := n1_; have HO238 := n2_; have HB := n3_; clear n0_ n1_ n2_ n3_; (try clear hb); (try clear hb2); (try clear hk); (try clear hi); (try clear ho0); (try clear ho1); have hcv27 := own_string (P := Try.prog) Try.underlying30 Try.underlying5 Try.underlying9 (Kd.own_of_R HO235.out); have hcv28 := Kd.C_string (P := Try.prog) (A := A0) (c := c0) Try.underlying30 Try.underlying5 Try.underlying9 (Kd.C_below HR0.out HB.out)))
     go_ret2
     exact ⟨_, by first | rfl | (simp [errW_none, errW_some] <;> rfl) | (simp [*, errW_none, errW_some] <;> rfl), by first | exact Kd.R_nil _ _ _ _ _ | exact Kd.N_nil _ _ _ _ _ | exact Kd.V_nil _ _ _ _ _ | exact Kd.Q_nil _ _ _ _ _ | exact Kd.S_nil _ _ _ _ _, (belN HB.out)⟩
   ·rw [if_neg c7] at H
    have c7b0 : (t239 == 0) = false := beq_eq_false_iff_ne.mpr c7
    have c7b1 : (t239 != 0) = true := bne_iff_ne.mpr c7
    simp only [Option.some.injEq, Prod.mk.injEq] at H
    obtain ⟨rfl, rfl⟩ := H
    go_enter Try.func29, Try.ntmps29
    go_wp2_with (first | ((with_reducible refine gate_callee (f := 63) rfl ?_); refine goesL_ (some 12) rfl rfl Try.func63 (by kernel_rfl) rfl #[.slice A0 l0.length c0, .slice A1 l1.length c1] rfl argN ?_; (with_reducible refine (cell_read.calls _ _ l0 _ _ l1 t229 _ ?side1 ?side2 ?side3 ?side4 A3.out).mono ?_); (case side1 => repeat (first | exact HR0.out | (with_reducible refine Kd.C_alloc ?_ _) | (with_reducible refine Kd.C_drewN ?_ _) | (with_reducible refine Kd.C_drew ?_))); (case side2 => exact HC0.out); (case side3 => repeat (first | exact HR1.out | (with_reducible refine Kd.C_alloc ?_ _) | (with_reducible refine Kd.C_drewN ?_ _) | (with_reducible refine Kd.C_drew ?_))); (case side4 => exact HC1.out); rintro e w29 ⟨v230, rfl, ho0, hb⟩; refine ⟨_, rfl, ?_⟩; have n0_ := Aside0.mk (Kd.R_lower ho0 (below_size (belN HB.out))); have n1_ := Aside0.mk (below_step (belN HB.out) hb); clear HB; have HO231 := n0_; have HB := n1_; clear n0_ n1_; (try clear hb); (try clear hb2); (try clear hk); (try clear hi); (try clear ho0); obtain ⟨Ao30, co30, eo30⟩ := Kd.R_slice HO231.out; subst eo30; have p232 : 0 ≤ (0 : Int) := (by omega); have q232 : 0 < (t229.length : Int) := of_decide_eq_true (by first | (with_reducible assumption) | assumption); obtain ⟨ad232, e232, hx232_0, hx232_1⟩ := at_T45 (Kd.R_reads' HO231.out).2.2 0 p232 q232; cases e232; have qi232 : (0 < t229.length) = True := eq_true (by omega); (try rw [show ((0 : Int)).toNat = 0 from rfl] at hx232_0); (try rw [show 0 * 2 = 0 from rfl] at hx232_0); (try rw [Addr.add_zero'] at hx232_0); (try rw [show ((0 : Int)).toNat = 0 from rfl] at hx232_1); (try rw [show 0 * 2 = 0 from rfl] at hx232_1); (try rw [Addr.add_zero'] at hx232_1); replace p232 := eq_true p232; replace q232 := eq_true q232) | ((with_reducible refine gate_callee (f := 28) rfl ?_); refine goesL_ (some 20) rfl rfl Try.func28 (by kernel_rfl) rfl #[.agg #[.int .i64 ((rd_T45 t229 0).f0), .int .i64 ((rd_T45 t229 0).f1)]] rfl argN ?_; (with_reducible refine (cell_One.calls k ((rd_T45 t229 0).f0) ((rd_T45 t229 0).f1) t233 t236 t239 _ A6.out).mono ?_); rintro e w31 ⟨v234, v237, rfl, ho0, ho1, hb⟩; refine ⟨_, rfl, ?_⟩; have n0_ := Aside0.mk (Kd.R_below (rowN HO231.out) hb); have n1_ := Aside0.mk (Kd.R_lower ho0 (below_size (belN HB.out))); have n2_ := Aside0.mk (Kd.R_lower ho1 (below_size (belN HB.out))); have n3_ := Aside0.mk (below_step (belN HB.out) hb); clear HO231; clear HB; have HO231 := n0_; have HO235 := n1_; have HO238 := n2_; have HB := n3_; clear n0_ n1_ n2_ n3_; (try clear hb); (try clear hb2); (try clear hk); (try clear hi); (try clear ho0); (try clear ho1)))
    go_ret2
    exact ⟨_, by first | rfl | (simp [errW_none, errW_some] <;> rfl) | (simp [*, errW_none, errW_some] <;> rfl), by first | exact Kd.R_nil _ _ _ _ _ | exact Kd.N_nil _ _ _ _ _ | exact Kd.V_nil _ _ _ _ _ | exact Kd.Q_nil _ _ _ _ _ | exact Kd.S_nil _ _ _ _ _, (belN HB.out)⟩
  ·rw [if_neg c5] at H
   exact absurd H (by simp)
 ·rw [if_neg c4] at H
  have c4b0 : ((t229.length : Int) == 1) = false := beq_eq_false_iff_ne.mpr c4
  have c4b1 : ((t229.length : Int) != 1) = true := bne_iff_ne.mpr c4
  by_cases c32 : (t229.length : Int) > 1
  ·rw [if_pos c32] at H
   have c32b0 : decide (1 < (t229.length : Int)) = true := decide_eq_true c32
   have c32b1 : decide (1 < t229.length) = true := decide_eq_true (by omega)
   clear c32
   replace H := Option.bind_eq_some_iff.mp H
   obtain ⟨⟨t240, t241, t242⟩, A330, H⟩ := H
   replace H : (if t242 = 0 then (if (strOfNums t240).toList = (strOfNums l0).toList then (if (strOfNums t241).toList = (strOfNums l1).toList then (some (t229, 0)) else (some (([] : List (S45)), 12))) else (some (([] : List (S45)), 12))) else (some (([] : List (S45)), 12))) = some (r1, r2) := H
   have A33 := Aside0.mk A330
   clear A330
   by_cases c34 : t242 = 0
   ·rw [if_pos c34] at H
    have c34b0 : (t242 == 0) = true := beq_iff_eq.mpr c34
    have c34b1 : (t242 != 0) = false := bne_eq_false_iff_eq.mpr c34
    clear c34
    by_cases c35 : (strOfNums t240).toList = (strOfNums l0).toList
    ·rw [if_pos c35] at H
     have c35b0 : ((strOfNums t240).toList == (strOfNums l0).toList) = true := beq_iff_eq.mpr c35
     have c35b1 : ((strOfNums t240).toList != (strOfNums l0).toList) = false := bne_eq_false_iff_eq.mpr c35
     clear c35
     by_cases c36 : (strOfNums t241).toList = (strOfNums l1).toList
     ·rw [if_pos c36] at H
      have c36b0 : ((strOfNums t241).toList == (strOfNums l1).toList) = true := beq_iff_eq.mpr c36
      have c36b1 : ((strOfNums t241).toList != (strOfNums l1).toList) = false := bne_eq_false_iff_eq.mpr c36
      clear c36
      simp only [Option.some.injEq, Prod.mk.injEq] at H
      obtain ⟨rfl, rfl⟩ := H
      go_enter Try.func29, Try.ntmps29
      go_wp2_with (first | ((with_reducible refine gate_callee (f := 63) rfl ?_); refine goesL_ (some 12) rfl rfl Try.func63 (by kernel_rfl) rfl #[.slice A0 l0.length c0, .slice A1 l1.length c1] rfl argN ?_; (with_reducible refine (cell_read.calls _ _ l0 _ _ l1 t229 _ ?side1 ?side2 ?side3 ?side4 A3.out).mono ?_); (case side1 => repeat (first | exact HR0.out | (with_reducible refine Kd.C_alloc ?_ _) | (with_reducible refine Kd.C_drewN ?_ _) | (with_reducible refine Kd.C_drew ?_))); (case side2 => exact HC0.out); (case side3 => repeat (first | exact HR1.out | (with_reducible refine Kd.C_alloc ?_ _) | (with_reducible refine Kd.C_drewN ?_ _) | (with_reducible refine Kd.C_drew ?_))); (case side4 => exact HC1.out); rintro e w37 ⟨v230, rfl, ho0, hb⟩; refine ⟨_, rfl, ?_⟩; have n0_ := Aside0.mk (Kd.R_lower ho0 (below_size (belN HB.out))); have n1_ := Aside0.mk (below_step (belN HB.out) hb); clear HB; have HO231 := n0_; have HB := n1_; clear n0_ n1_; (try clear hb); (try clear hb2); (try clear hk); (try clear hi); (try clear ho0); obtain ⟨Ao38, co38, eo38⟩ := Kd.R_slice HO231.out; subst eo38) | ((with_reducible refine gate_callee (f := 30) rfl ?_); refine goesL_ (some 29) rfl rfl Try.func30 (by kernel_rfl) rfl #[.slice Ao38 t229.length co38] rfl argN ?_; (with_reducible refine (cell_Many.calls k _ _ t229 t240 t241 t242 _ ?side1 ?side2 A33.out).mono ?_); (case side1 => repeat (first | exact (Kd.R_reads' HO231.out).2.2 | (with_reducible refine Kd.C_alloc ?_ _) | (with_reducible refine Kd.C_drewN ?_ _) | (with_reducible refine Kd.C_drew ?_))); (case side2 => exact (Kd.R_reads' HO231.out).2.1); rintro e w39 ⟨v243, v245, rfl, ho0, ho1, hb⟩; refine ⟨_, rfl, ?_⟩; have n0_ := Aside0.mk (Kd.R_below (rowN HO231.out) hb); have n1_ := Aside0.mk (Kd.R_lower ho0 (below_size (belN HB.out))); have n2_ := Aside0.mk (Kd.R_lower ho1 (below_size (belN HB.out))); have n3_ := Aside0.mk (below_step (belN HB.out) hb); clear HO231; clear HB; have HO231 := n0_; have HO244 := n1_; have HO246 := n2_; have HB := n3_; clear n0_ n1_ n2_ n3_; (try clear hb); (try clear hb2); (try clear hk); (try clear hi); (try clear ho0); (try clear ho1); have hcv40 := own_string (P := Try.prog) Try.underlying30 Try.underlying5 Try.underlying9 (Kd.own_of_R HO244.out); have hcv41 := Kd.C_string (P := Try.prog) (A := A0) (c := c0) Try.underlying30 Try.underlying5 Try.underlying9 (Kd.C_below HR0.out HB.out); have hcv42 := own_string (P := Try.prog) Try.underlying30 Try.underlying5 Try.underlying9 (Kd.own_of_R HO246.out); have hcv43 := Kd.C_string (P := Try.prog) (A := A1) (c := c1) Try.underlying30 Try.underlying5 Try.underlying9 (Kd.C_below HR1.out HB.out)))
      go_ret2
      exact ⟨_, by first | rfl | (simp [errW_none, errW_some] <;> rfl) | (simp [*, errW_none, errW_some] <;> rfl), (rowN HO231.out), (belN HB.out)⟩
     ·rw [if_neg c36] at H
      have c36b0 : ((strOfNums t241).toList == (strOfNums l1).toList) = false := beq_eq_false_iff_ne.mpr c36
      have c36b1 : ((strOfNums t241).toList != (strOfNums l1).toList) = true := bne_iff_ne.mpr c36
      simp only [Option.some.injEq, Prod.mk.injEq] at H
      obtain ⟨rfl, rfl⟩ := H
      go_enter Try.func29, Try.ntmps29
      go_wp2_with (first | ((with_reducible refine gate_callee (f := 63) rfl ?_); refine goesL_ (some 12) rfl rfl Try.func63 (by kernel_rfl) rfl #[.slice A0 l0.length c0, .slice A1 l1.length c1] rfl argN ?_; (with_reducible refine (cell_read.calls _ _ l0 _ _ l1 t229 _ ?side1 ?side2 ?side3 ?side4 A3.out).mono ?_); (case side1 => repeat (first | exact HR0.out | (with_reducible refine Kd.C_alloc ?_ _) | (with_reducible refine Kd.C_drewN ?_ _) | (with_reducible refine Kd.C_drew ?_))); (case side2 => exact HC0.out); (case side3 => repeat (first | exact HR1.out | (with_reducible refine Kd.C_alloc ?_ _) | (with_reducible refine Kd.C_drewN ?_ _) | (with_reducible refine Kd.C_drew ?_))); (case side4 => exact HC1.out); rintro e w44 ⟨v230, rfl, ho0, hb⟩; refine ⟨_, rfl, ?_⟩; have n0_ := Aside0.mk (Kd.R_lower ho0 (below_size (belN HB.out))); have n1_ := Aside0.mk (below_step (belN HB.out) hb); clear HB; have HO231 := n0_; have HB := n1_; clear n0_ n1_; (try clear hb); (try clear hb2); (try clear hk); (try clear hi); (try clear ho0); obtain ⟨Ao45, co45, eo45⟩ := Kd.R_slice HO231.out; subst eo45) | ((with_reducible refine gate_callee (f := 30) rfl ?_); refine goesL_ (some 29) rfl rfl Try.func30 (by kernel_rfl) rfl #[.slice Ao45 t229.length co45] rfl argN ?_; (with_reducible refine (cell_Many.calls k _ _ t229 t240 t241 t242 _ ?side1 ?side2 A33.out).mono ?_); (case side1 => repeat (first | exact (Kd.R_reads' HO231.out).2.2 | (with_reducible refine Kd.C_alloc ?_ _) | (with_reducible refine Kd.C_drewN ?_ _) | (with_reducible refine Kd.C_drew ?_))); (case side2 => exact (Kd.R_reads' HO231.out).2.1); rintro e w46 ⟨v243, v245, rfl, ho0, ho1, hb⟩; refine ⟨_, rfl, ?_⟩; have n0_ := Aside0.mk (Kd.R_below (rowN HO231.out) hb); have n1_ := Aside0.mk (Kd.R_lower ho0 (below_size (belN HB.out))); have n2_ := Aside0.mk (Kd.R_lower ho1 (below_size (belN HB.out))); have n3_ := Aside0.mk (below_step (belN HB.out) hb); clear HO231; clear HB; have HO231 := n0_; have HO244 := n1_; have HO246 := n2_; have HB := n3_; clear n0_ n1_ n2_ n3_; (try clear hb); (try clear hb2); (try clear hk); (try clear hi); (try clear ho0); (try clear ho1); have hcv47 := own_string (P := Try.prog) Try.underlying30 Try.underlying5 Try.underlying9 (Kd.own_of_R HO244.out); have hcv48 := Kd.C_string (P := Try.prog) (A := A0) (c := c0) Try.underlying30 Try.underlying5 Try.underlying9 (Kd.C_below HR0.out HB.out); have hcv49 := own_string (P := Try.prog) Try.underlying30 Try.underlying5 Try.underlying9 (Kd.own_of_R HO246.out); have hcv50 := Kd.C_string (P := Try.prog) (A := A1) (c := c1) Try.underlying30 Try.underlying5 Try.underlying9 (Kd.C_below HR1.out HB.out)))
      go_ret2
      exact ⟨_, by first | rfl | (simp [errW_none, errW_some] <;> rfl) | (simp [*, errW_none, errW_some] <;> rfl), by first | exact Kd.R_nil _ _ _ _ _ | exact Kd.N_nil _ _ _ _ _ | exact Kd.V_nil _ _ _ _ _ | exact Kd.Q_nil _ _ _ _ _ | exact Kd.S_nil _ _ _ _ _, (belN HB.out)⟩
    ·rw [if_neg c35] at H
     have c35b0 : ((strOfNums t240).toList == (strOfNums l0).toList) = false := beq_eq_false_iff_ne.mpr c35
     have c35b1 : ((strOfNums t240).toList != (strOfNums l0).toList) = true := bne_iff_ne.mpr c35
     simp only [Option.some.injEq, Prod.mk.injEq] at H
     obtain ⟨rfl, rfl⟩ := H
     go_enter Try.func29, Try.ntmps29
     go_wp2_with (first | ((with_reducible refine gate_callee (f := 63) rfl ?_); refine goesL_ (some 12) rfl rfl Try.func63 (by kernel_rfl) rfl #[.slice A0 l0.length c0, .slice A1 l1.length c1] rfl argN ?_; (with_reducible refine (cell_read.calls _ _ l0 _ _ l1 t229 _ ?side1 ?side2 ?side3 ?side4 A3.out).mono ?_); (case side1 => repeat (first | exact HR0.out | (with_reducible refine Kd.C_alloc ?_ _) | (with_reducible refine Kd.C_drewN ?_ _) | (with_reducible refine Kd.C_drew ?_))); (case side2 => exact HC0.out); (case side3 => repeat (first | exact HR1.out | (with_reducible refine Kd.C_alloc ?_ _) | (with_reducible refine Kd.C_drewN ?_ _) | (with_reducible refine Kd.C_drew ?_))); (case side4 => exact HC1.out); rintro e w51 ⟨v230, rfl, ho0, hb⟩; refine ⟨_, rfl, ?_⟩; have n0_ := Aside0.mk (Kd.R_lower ho0 (below_size (belN HB.out))); have n1_ := Aside0.mk (below_step (belN HB.out) hb); clear HB; have HO231 := n0_; have HB := n1_; clear n0_ n1_; (try clear hb); (try clear hb2); (try clear hk); (try clear hi); (try clear ho0); obtain ⟨Ao52, co52, eo52⟩ := Kd.R_slice HO231.out; subst eo52) | ((with_reducible refine gate_callee (f := 30) rfl ?_); refine goesL_ (some 29) rfl rfl Try.func30 (by kernel_rfl) rfl #[.slice Ao52 t229.length co52] rfl argN ?_; (with_reducible refine (cell_Many.calls k _ _ t229 t240 t241 t242 _ ?side1 ?side2 A33.out).mono ?_); (case side1 => repeat (first | exact (Kd.R_reads' HO231.out).2.2 | (with_reducible refine Kd.C_alloc ?_ _) | (with_reducible refine Kd.C_drewN ?_ _) | (with_reducible refine Kd.C_drew ?_))); (case side2 => exact (Kd.R_reads' HO231.out).2.1); rintro e w53 ⟨v243, v245, rfl, ho0, ho1, hb⟩; refine ⟨_, rfl, ?_⟩; have n0_ := Aside0.mk (Kd.R_below (rowN HO231.out) hb); have n1_ := Aside0.mk (Kd.R_lower ho0 (below_size (belN HB.out))); have n2_ := Aside0.mk (Kd.R_lower ho1 (below_size (belN HB.out))); have n3_ := Aside0.mk (below_step (belN HB.out) hb); clear HO231; clear HB; have HO231 := n0_; have HO244 := n1_; have HO246 := n2_; have HB := n3_; clear n0_ n1_ n2_ n3_; (try clear hb); (try clear hb2); (try clear hk); (try clear hi); (try clear ho0); (try clear ho1); have hcv54 := own_string (P := Try.prog) Try.underlying30 Try.underlying5 Try.underlying9 (Kd.own_of_R HO244.out); have hcv55 := Kd.C_string (P := Try.prog) (A := A0) (c := c0) Try.underlying30 Try.underlying5 Try.underlying9 (Kd.C_below HR0.out HB.out)))
     go_ret2
     exact ⟨_, by first | rfl | (simp [errW_none, errW_some] <;> rfl) | (simp [*, errW_none, errW_some] <;> rfl), by first | exact Kd.R_nil _ _ _ _ _ | exact Kd.N_nil _ _ _ _ _ | exact Kd.V_nil _ _ _ _ _ | exact Kd.Q_nil _ _ _ _ _ | exact Kd.S_nil _ _ _ _ _, (belN HB.out)⟩
   ·rw [if_neg c34] at H
    have c34b0 : (t242 == 0) = false := beq_eq_false_iff_ne.mpr c34
    have c34b1 : (t242 != 0) = true := bne_iff_ne.mpr c34
    simp only [Option.some.injEq, Prod.mk.injEq] at H
    obtain ⟨rfl, rfl⟩ := H
    go_enter Try.func29, Try.ntmps29
    go_wp2_with (first | ((with_reducible refine gate_callee (f := 63) rfl ?_); refine goesL_ (some 12) rfl rfl Try.func63 (by kernel_rfl) rfl #[.slice A0 l0.length c0, .slice A1 l1.length c1] rfl argN ?_; (with_reducible refine (cell_read.calls _ _ l0 _ _ l1 t229 _ ?side1 ?side2 ?side3 ?side4 A3.out).mono ?_); (case side1 => repeat (first | exact HR0.out | (with_reducible refine Kd.C_alloc ?_ _) | (with_reducible refine Kd.C_drewN ?_ _) | (with_reducible refine Kd.C_drew ?_))); (case side2 => exact HC0.out); (case side3 => repeat (first | exact HR1.out | (with_reducible refine Kd.C_alloc ?_ _) | (with_reducible refine Kd.C_drewN ?_ _) | (with_reducible refine Kd.C_drew ?_))); (case side4 => exact HC1.out); rintro e w56 ⟨v230, rfl, ho0, hb⟩; refine ⟨_, rfl, ?_⟩; have n0_ := Aside0.mk (Kd.R_lower ho0 (below_size (belN HB.out))); have n1_ := Aside0.mk (below_step (belN HB.out) hb); clear HB; have HO231 := n0_; have HB := n1_; clear n0_ n1_; (try clear hb); (try clear hb2); (try clear hk); (try clear hi); (try clear ho0); obtain ⟨Ao57, co57, eo57⟩ := Kd.R_slice HO231.out; subst eo57) | ((with_reducible refine gate_callee (f := 30) rfl ?_); refine goesL_ (some 29) rfl rfl Try.func30 (by kernel_rfl) rfl #[.slice Ao57 t229.length co57] rfl argN ?_; (with_reducible refine (cell_Many.calls k _ _ t229 t240 t241 t242 _ ?side1 ?side2 A33.out).mono ?_); (case side1 => repeat (first | exact (Kd.R_reads' HO231.out).2.2 | (with_reducible refine Kd.C_alloc ?_ _) | (with_reducible refine Kd.C_drewN ?_ _) | (with_reducible refine Kd.C_drew ?_))); (case side2 => exact (Kd.R_reads' HO231.out).2.1); rintro e w58 ⟨v243, v245, rfl, ho0, ho1, hb⟩; refine ⟨_, rfl, ?_⟩; have n0_ := Aside0.mk (Kd.R_below (rowN HO231.out) hb); have n1_ := Aside0.mk (Kd.R_lower ho0 (below_size (belN HB.out))); have n2_ := Aside0.mk (Kd.R_lower ho1 (below_size (belN HB.out))); have n3_ := Aside0.mk (below_step (belN HB.out) hb); clear HO231; clear HB; have HO231 := n0_; have HO244 := n1_; have HO246 := n2_; have HB := n3_; clear n0_ n1_ n2_ n3_; (try clear hb); (try clear hb2); (try clear hk); (try clear hi); (try clear ho0); (try clear ho1)))
    go_ret2
    exact ⟨_, by first | rfl | (simp [errW_none, errW_some] <;> rfl) | (simp [*, errW_none, errW_some] <;> rfl), by first | exact Kd.R_nil _ _ _ _ _ | exact Kd.N_nil _ _ _ _ _ | exact Kd.V_nil _ _ _ _ _ | exact Kd.Q_nil _ _ _ _ _ | exact Kd.S_nil _ _ _ _ _, (belN HB.out)⟩
  ·rw [if_neg c32] at H
   have c32b0 : decide (1 < (t229.length : Int)) = false := decide_eq_false c32
   have c32b1 : decide (1 < t229.length) = false := decide_eq_false (by omega)
   clear c32
   by_cases c59 : 12 = 0
   ·exact absurd c59 (by decide)
   ·rw [if_neg c59] at H
    have c59b0 : (12 == 0) = false := beq_eq_false_iff_ne.mpr c59
    have c59b1 : (12 != 0) = true := bne_iff_ne.mpr c59
    simp only [Option.some.injEq, Prod.mk.injEq] at H
    obtain ⟨rfl, rfl⟩ := H
    go_enter Try.func29, Try.ntmps29
    go_wp2_with (first | ((with_reducible refine gate_callee (f := 63) rfl ?_); refine goesL_ (some 12) rfl rfl Try.func63 (by kernel_rfl) rfl #[.slice A0 l0.length c0, .slice A1 l1.length c1] rfl argN ?_; (with_reducible refine (cell_read.calls _ _ l0 _ _ l1 t229 _ ?side1 ?side2 ?side3 ?side4 A3.out).mono ?_); (case side1 => repeat (first | exact HR0.out | (with_reducible refine Kd.C_alloc ?_ _) | (with_reducible refine Kd.C_drewN ?_ _) | (with_reducible refine Kd.C_drew ?_))); (case side2 => exact HC0.out); (case side3 => repeat (first | exact HR1.out | (with_reducible refine Kd.C_alloc ?_ _) | (with_reducible refine Kd.C_drewN ?_ _) | (with_reducible refine Kd.C_drew ?_))); (case side4 => exact HC1.out); rintro e w60 ⟨v230, rfl, ho0, hb⟩; refine ⟨_, rfl, ?_⟩; have n0_ := Aside0.mk (Kd.R_lower ho0 (below_size (belN HB.out))); have n1_ := Aside0.mk (below_step (belN HB.out) hb); clear HB; have HO231 := n0_; have HB := n1_; clear n0_ n1_; (try clear hb); (try clear hb2); (try clear hk); (try clear hi); (try clear ho0); obtain ⟨Ao61, co61, eo61⟩ := Kd.R_slice HO231.out; subst eo61))
    go_ret2
    exact ⟨_, by first | rfl | (simp [errW_none, errW_some] <;> rfl) | (simp [*, errW_none, errW_some] <;> rfl), by first | exact Kd.R_nil _ _ _ _ _ | exact Kd.N_nil _ _ _ _ _ | exact Kd.V_nil _ _ _ _ _ | exact Kd.Q_nil _ _ _ _ _ | exact Kd.S_nil _ _ _ _ _, (belN HB.out)⟩

/-! ### marigraphref2_Get: function 76 -/
mutual
def marigraphref2_Get.j0 : Nat → List Int → Int → Bool → Option (Int × Bool)
  | 0, _, _, _ => none
  | k + 1, x0, x1, x19 => if x19 = true then (some (0, false)) else (marigraphref2_Get.l0 k x0 x1 0 0)
def marigraphref2_Get.l0 : Nat → List Int → Int → Int → Int → Option (Int × Bool)
  | 0, _, _, _, _ => none
  | k + 1, x0, x1, x6, x7 => if x7 < x1 then (if 0 ≤ x7 then (if x7 < (x0.length : Int) then (marigraphref2_Get.l0 k x0 x1 (Go.bits .or .u64 (IntKind.u64.wrap (x6 * 256)) (IntKind.u64.wrap (rd x0 x7))) (wrap64 (x7 + 1))) else (none)) else (none)) else (some (x6, true))
end
def marigraphref2_Get.f (k : Nat) (l0 : List Int) (a1 : Int) : Option (Int × Bool) := if a1 < 0 then (marigraphref2_Get.j0 k l0 a1 true) else (if a1 > 8 then (marigraphref2_Get.j0 k l0 a1 true) else (marigraphref2_Get.j0 k l0 a1 (decide ((l0.length : Int) < a1))))
theorem marigraphref2_Get.mono_l : ∀ k, (∀ y0 y1 y2, LeO (marigraphref2_Get.j0 k y0 y1 y2) (marigraphref2_Get.j0 (k + 1) y0 y1 y2)) ∧ (∀ y0 y1 y2 y3, LeO (marigraphref2_Get.l0 k y0 y1 y2 y3) (marigraphref2_Get.l0 (k + 1) y0 y1 y2 y3))
  | 0 => ⟨fun _ _ _ r h => by simp [marigraphref2_Get.j0] at h, fun _ _ _ _ r h => by simp [marigraphref2_Get.l0] at h⟩
  | k + 1 => by
    obtain ⟨ih0, ih1⟩ := marigraphref2_Get.mono_l k
    refine ⟨?_, ?_⟩
    · intro y0 y1 y2
      unfold marigraphref2_Get.j0
      repeat' first
      | (with_reducible exact ih0 _ _ _)
      | (with_reducible exact ih1 _ _ _ _)
      | (with_reducible exact LeO.refl _)
      | (with_reducible exact LeO.none _)
      | (with_reducible refine LeO.ite ?_ ?_)
      | (with_reducible refine LeO.bind ?_ (fun _ => ?_))
      | exact ih0 _ _ _
      | exact ih1 _ _ _ _
      | exact LeO.none _
      | refine LeO.ite ?_ ?_
      | refine LeO.bind ?_ (fun _ => ?_)
    · intro y0 y1 y2 y3
      unfold marigraphref2_Get.l0
      repeat' first
      | (with_reducible exact ih0 _ _ _)
      | (with_reducible exact ih1 _ _ _ _)
      | (with_reducible exact LeO.refl _)
      | (with_reducible exact LeO.none _)
      | (with_reducible refine LeO.ite ?_ ?_)
      | (with_reducible refine LeO.bind ?_ (fun _ => ?_))
      | exact ih0 _ _ _
      | exact ih1 _ _ _ _
      | exact LeO.none _
      | refine LeO.ite ?_ ?_
      | refine LeO.bind ?_ (fun _ => ?_)
theorem marigraphref2_Get.mono : ∀ a0 a1 k, LeO (marigraphref2_Get.f k a0 a1) (marigraphref2_Get.f (k + 1) a0 a1) := by
  intro a0 a1 k
  obtain ⟨ih0, ih1⟩ := marigraphref2_Get.mono_l k
  unfold marigraphref2_Get.f
  repeat' first
      | (with_reducible exact ih0 _ _ _)
      | (with_reducible exact ih1 _ _ _ _)
      | (with_reducible exact LeO.refl _)
      | (with_reducible exact LeO.none _)
      | (with_reducible refine LeO.ite ?_ ?_)
      | (with_reducible refine LeO.bind ?_ (fun _ => ?_))
      | exact ih0 _ _ _
      | exact ih1 _ _ _ _
      | exact LeO.none _
      | refine LeO.ite ?_ ?_
      | refine LeO.bind ?_ (fun _ => ?_)
set_option maxHeartbeats 8000000 in
set_option maxRecDepth 100000 in
theorem marigraphref2_Get.calls (k : Nat) (A0 : Option Addr) (c0 : Nat) (l0 : List Int) (a1 : Int) (r1 : Int) (r2 : Bool) (w : World) (hr0 : Kd.C (Kd.int .u8) w A0 l0.length l0) (hc0 : l0.length ≤ c0) (h : marigraphref2_Get.f k l0 a1 = some (r1, r2)) :
    Calls Try.prog 76 #[.slice A0 l0.length c0, .int .i64 a1] w fun e w' => e = .returned (.tuple #[.int .u64 r1, .bool r2]) ∧ Drawn0 w w' := by
  have HR0 := Aside0.mk hr0
  have HC0 := Aside0.mk hc0
  clear hr0 hc0
  have H : (if a1 < 0 then (marigraphref2_Get.j0 k l0 a1 true) else (if a1 > 8 then (marigraphref2_Get.j0 k l0 a1 true) else (marigraphref2_Get.j0 k l0 a1 (decide ((l0.length : Int) < a1))))) = some (r1, r2) := h
  clear h
  have HC3 := Aside0.mk H
  clear H
  go_enter Try.func76, Try.ntmps76
  go_upto_region 1 with (fail)
  go_cut [19] (fun v19 wc => ∃ (kq : Nat) (x19_2 : Bool), v19 = .bool x19_2 ∧ Aside0 (marigraphref2_Get.j0 kq l0 a1 x19_2 = some (r1, r2)) ∧ Aside0 (kq ≤ k) ∧ Drawn0 w wc)
  case first =>
    have H := HC3.out
    clear HC3
    by_cases c4 : a1 < 0
    · rw [if_pos c4] at H
      have c4b0 : decide (a1 < 0) = true := decide_eq_true c4
      clear c4
      (first | rw [c4b0] | (simp only [i64_w, i32_w]; rw [c4b0]) | skip)
      have H' := Aside0.mk H
      clear H
      go_wp2
      go_meet
      case rel => exact ⟨_, (true), (by first | rfl | (simp; done) | (simp [*]; done)), H', ⟨by first | omega | exact Nat.le_refl _⟩, by repeat (first | exact Drawn0.refl _ | apply Drawn0.step)⟩
    · rw [if_neg c4] at H
      have c4b0 : decide (a1 < 0) = false := decide_eq_false c4
      clear c4
      (first | rw [c4b0] | (simp only [i64_w, i32_w]; rw [c4b0]) | skip)
      by_cases c5 : a1 > 8
      · rw [if_pos c5] at H
        have c5b0 : decide (8 < a1) = true := decide_eq_true c5
        clear c5
        have H' := Aside0.mk H
        clear H
        go_wp2
        go_meet
        case rel => exact ⟨_, (true), (by first | rfl | (simp; done) | (simp [*]; done)), H', ⟨by first | omega | exact Nat.le_refl _⟩, by repeat (first | exact Drawn0.refl _ | apply Drawn0.step)⟩
      · rw [if_neg c5] at H
        have c5b0 : decide (8 < a1) = false := decide_eq_false c5
        clear c5
        have H' := Aside0.mk H
        clear H
        go_wp2
        go_meet
        case rel => exact ⟨_, (decide ((l0.length : Int) < a1)), (by first | rfl | (simp; done) | (simp [*]; done)), H', ⟨by first | omega | exact Nat.le_refl _⟩, by repeat (first | exact Drawn0.refl _ | apply Drawn0.step)⟩
  case rest =>
    clear HC3
    try clear p2
    try clear c4
    try clear c4b0
    try clear c5
    try clear c5b0
    obtain ⟨kq, x19_2, rfl, HA, HJ2, ⟨mc2, rfl⟩⟩ := hcut
    cases kq with
    | zero => exact absurd HA.out (by simp [marigraphref2_Get.j0])
    | succ kj2 =>
      have H := HA.out
      clear HA
      simp only [marigraphref2_Get.j0] at H
      by_cases c6 : x19_2 = true
      · subst c6
        have H1 : (some (0, false)) = some (r1, r2) := by rw [if_pos rfl] at H; exact H
        clear H
        have H := H1
        clear H1
        simp only [Option.some.injEq, Prod.mk.injEq] at H
        obtain ⟨rfl, rfl⟩ := H
        go_wp2
        go_ret2
        exact ⟨by first | rfl | (simp; done) | (simp [*]; done), by repeat (first | exact Drawn0.refl _ | apply Drawn0.step)⟩
      · replace c6 := Bool.eq_false_iff.mpr c6
        subst c6
        have H1 : (marigraphref2_Get.l0 kj2 l0 a1 0 0) = some (r1, r2) := by rw [if_neg (show ¬ (false = true) by decide)] at H; exact H
        clear H
        have H := H1
        clear H1
        have H' := Aside0.mk H
        clear H
        go_wp2
        go_loopg [6, 7] kj2 (fun kq v6 v7 w' => ∃ (x6_2 : Int) (x7_2 : Int), v6 = .int .u64 x6_2 ∧ v7 = .int .i64 x7_2 ∧ Aside0 (marigraphref2_Get.l0 kq l0 a1 x6_2 x7_2 = some (r1, r2)) ∧ Aside0 (kq ≤ kj2) ∧ Drawn0 w w')
        case atStart => exact ⟨(0), (0), (by first | rfl | (simp; done) | (simp [*]; done)), (by first | rfl | (simp; done) | (simp [*]; done)), H', ⟨Nat.le_refl _⟩, by repeat (first | exact Drawn0.refl _ | apply Drawn0.step)⟩
        case round =>
          clear H'
          try clear c2
          try clear p2
          try clear c4
          try clear c4b0
          try clear c5
          try clear c5b0
          try clear c6
          try clear p2
          obtain ⟨x6_2, x7_2, rfl, rfl, HA, HK2, ⟨m2, rfl⟩⟩ := hrel
          cases gk with
          | zero => exact absurd HA.out (by simp [marigraphref2_Get.l0])
          | succ k2 =>
            have H := HA.out
            clear HA
            simp only [marigraphref2_Get.l0] at H
            by_cases c7 : x7_2 < a1
            · rw [if_pos c7] at H
              have c7b0 : decide (x7_2 < a1) = true := decide_eq_true c7
              clear c7
              by_cases c8 : 0 ≤ x7_2
              · rw [if_pos c8] at H
                have c8b0 : decide (0 ≤ x7_2) = true := decide_eq_true c8
                clear c8
                by_cases c9 : x7_2 < (l0.length : Int)
                · rw [if_pos c9] at H
                  have c9b0 : decide (x7_2 < (l0.length : Int)) = true := decide_eq_true c9
                  clear c9
                  have H' := Aside0.mk H
                  clear H
                  have p247 : 0 ≤ (x7_2 : Int) := of_decide_eq_true (by first | (with_reducible assumption) | assumption)
                  have q247 : x7_2 < (l0.length : Int) := of_decide_eq_true (by first | (with_reducible assumption) | assumption)
                  obtain ⟨ad247, e247, hx247_0⟩ := Kd.at_int HR0.out x7_2 p247 q247
                  cases e247
                  replace p247 := eq_true p247
                  replace q247 := eq_true q247
                  go_wp2
                  go_roundg k2
                  case measure => have := HJ2.out; have := HK2.out; omega
                  case rel => exact ⟨(Go.bits .or .u64 (IntKind.u64.wrap (x6_2 * 256)) (IntKind.u64.wrap (rd l0 x7_2))), (wrap64 (x7_2 + 1)), (by first | rfl | (simp; done) | (simp [*]; done)), (by first | rfl | (simp; done) | (simp [*]; done)), H', ⟨by have := HJ2.out; have := HK2.out; omega⟩, by repeat (first | exact Drawn0.refl _ | apply Drawn0.step)⟩
                · rw [if_neg c9] at H
                  exact absurd H (by simp)
              · rw [if_neg c8] at H
                exact absurd H (by simp)
            · rw [if_neg c7] at H
              have c7b0 : decide (x7_2 < a1) = false := decide_eq_false c7
              clear c7
              simp only [Option.some.injEq, Prod.mk.injEq] at H
              obtain ⟨rfl, rfl⟩ := H
              go_wp2
              go_ret2
              exact ⟨by first | rfl | (simp; done) | (simp [*]; done), by repeat (first | exact Drawn0.refl _ | apply Drawn0.step)⟩

end Go.Proofs.Ytjafaojmbapkbaa.PCellTells

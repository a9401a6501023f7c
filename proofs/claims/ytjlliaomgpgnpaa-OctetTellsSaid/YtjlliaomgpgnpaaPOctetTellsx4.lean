/- The walk of the Go functions that a law reaches, told as plain functions; a program of this session has written it. No condition beyond the statement's own. -/
import Derived.Test.YtjlliaomgpgnpaaPOctetTellsx0
import Derived.Test.YtjlliaomgpgnpaaPOctetTellsx1
import Derived.Test.YtjlliaomgpgnpaaPOctetTellsx2
import Derived.Test.YtjlliaomgpgnpaaPOctetTellsx3
namespace Go.Proofs.Ytjlliaomgpgnpaa.POctetTells
open Go.RowKit Go.Proofs.YtjlliaomgpgnpaaW.PrintWords Go.Proofs.YtjlliaomgpgnpaaW.PrintLast Go.Proofs.YtjlliaomgpgnpaaW.PrintMore
attribute [local go_sem] max2_int min2_int max_two min_two max_three min_three max_four min_four   -- for this text's walks alone
set_option linter.unusedVariables false
set_option linter.unusedSimpArgs false

/-! ### marigraphbook_Intact_byte: function 12 -/
mutual
def marigraphbook_Intact_byte.j0 : Nat → List Int → List Int → Int → Bool → Option (Bool)
 | 0, _, _, _, _ => none
 | k + 1, x0, x1, x2, x22 => if x22 = true then (some false) else (marigraphbook_Intact_byte.l0 k x0 x2 (x1.length : Int))
def marigraphbook_Intact_byte.l0 : Nat → List Int → Int → Int → Option (Bool)
 | 0, _, _, _ => none
 | k + 1, x0, x2, x7 => if x7 < (x0.length : Int) then (if 0 ≤ x7 then (if (rd x0 x7) = x2 then (marigraphbook_Intact_byte.l0 k x0 x2 (wrap64 (x7 + 1))) else (some false)) else (none)) else (some true)
end
def marigraphbook_Intact_byte.f (k : Nat) (l0 : List Int) (l1 : List Int) (a2 : Int) : Option (Bool) := if (l0.length : Int) = (wrap64 ((l1.length : Int) + 80)) then (if 0 ≤ (l1.length : Int) then (if (l1.length : Int) ≤ (l0.length : Int) then ((marigraphbook_Same_byte.f k (l0.take ((l1.length : Int) : Int).toNat) l1).bind fun t182 => (marigraphbook_Intact_byte.j0 k l0 l1 a2 (!t182))) else (none)) else (none)) else (marigraphbook_Intact_byte.j0 k l0 l1 a2 true)
theorem marigraphbook_Intact_byte.mono_l : ∀ k, (∀ y0 y1 y2 y3, LeO (marigraphbook_Intact_byte.j0 k y0 y1 y2 y3) (marigraphbook_Intact_byte.j0 (k + 1) y0 y1 y2 y3)) ∧ (∀ y0 y1 y2, LeO (marigraphbook_Intact_byte.l0 k y0 y1 y2) (marigraphbook_Intact_byte.l0 (k + 1) y0 y1 y2))
 | 0 => ⟨fun _ _ _ _ r h => by simp [marigraphbook_Intact_byte.j0] at h, fun _ _ _ r h => by simp [marigraphbook_Intact_byte.l0] at h⟩
 | k + 1 => by
  obtain ⟨ih0, ih1⟩ := marigraphbook_Intact_byte.mono_l k
  refine ⟨?_, ?_⟩
  ·intro y0 y1 y2 y3
   unfold marigraphbook_Intact_byte.j0
   repeat' first
   | (with_reducible exact ih0 _ _ _ _)
   | (with_reducible exact ih1 _ _ _)
   | (with_reducible exact marigraphbook_Same_byte.mono _ _ _)
   | (with_reducible exact LeO.refl _)
   | (with_reducible exact LeO.none _)
   | (with_reducible refine LeO.ite ?_ ?_)
   | (with_reducible refine LeO.bind ?_ (fun _ => ?_))
   | exact ih0 _ _ _ _
   | exact ih1 _ _ _
   | exact marigraphbook_Same_byte.mono _ _ _
   | exact LeO.none _
   | refine LeO.ite ?_ ?_
   | refine LeO.bind ?_ (fun _ => ?_)
  ·intro y0 y1 y2
   unfold marigraphbook_Intact_byte.l0
   repeat' first
   | (with_reducible exact ih0 _ _ _ _)
   | (with_reducible exact ih1 _ _ _)
   | (with_reducible exact marigraphbook_Same_byte.mono _ _ _)
   | (with_reducible exact LeO.refl _)
   | (with_reducible exact LeO.none _)
   | (with_reducible refine LeO.ite ?_ ?_)
   | (with_reducible refine LeO.bind ?_ (fun _ => ?_))
   | exact ih0 _ _ _ _
   | exact ih1 _ _ _
   | exact marigraphbook_Same_byte.mono _ _ _
   | exact LeO.none _
   | refine LeO.ite ?_ ?_
   | refine LeO.bind ?_ (fun _ => ?_)
theorem marigraphbook_Intact_byte.mono : ∀ a0 a1 a2 k, LeO (marigraphbook_Intact_byte.f k a0 a1 a2) (marigraphbook_Intact_byte.f (k + 1) a0 a1 a2) := by
 intro a0 a1 a2 k
 obtain ⟨ih0, ih1⟩ := marigraphbook_Intact_byte.mono_l k
 unfold marigraphbook_Intact_byte.f
 repeat' first
   | (with_reducible exact ih0 _ _ _ _)
   | (with_reducible exact ih1 _ _ _)
   | (with_reducible exact marigraphbook_Same_byte.mono _ _ _)
   | (with_reducible exact LeO.refl _)
   | (with_reducible exact LeO.none _)
   | (with_reducible refine LeO.ite ?_ ?_)
   | (with_reducible refine LeO.bind ?_ (fun _ => ?_))
   | exact ih0 _ _ _ _
   | exact ih1 _ _ _
   | exact marigraphbook_Same_byte.mono _ _ _
   | exact LeO.none _
   | refine LeO.ite ?_ ?_
   | refine LeO.bind ?_ (fun _ => ?_)
set_option maxHeartbeats 8000000 in
set_option maxRecDepth 100000 in
theorem marigraphbook_Intact_byte.calls (k : Nat) (A0 : Option Addr) (c0 : Nat) (l0 : List Int) (A1 : Option Addr) (c1 : Nat) (l1 : List Int) (a2 : Int) (r : Bool) (w : World) (hr0 : Kd.C (Kd.int .u8) w A0 l0.length l0) (hc0 : l0.length ≤ c0) (hr1 : Kd.C (Kd.int .u8) w A1 l1.length l1) (hc1 : l1.length ≤ c1) (h : marigraphbook_Intact_byte.f k l0 l1 a2 = some r) :
  Calls Try.prog 12 #[.slice A0 l0.length c0, .slice A1 l1.length c1, .int .u8 a2] w fun e w' => e = .returned (.bool r) ∧ Drawn0 w w' := by
 have HR0 := Aside0.mk hr0
 have HC0 := Aside0.mk hc0
 clear hr0 hc0
 have HR1 := Aside0.mk hr1
 have HC1 := Aside0.mk hc1
 clear hr1 hc1
 have H : (if (l0.length : Int) = (wrap64 ((l1.length : Int) + 80)) then (if 0 ≤ (l1.length : Int) then (if (l1.length : Int) ≤ (l0.length : Int) then ((marigraphbook_Same_byte.f k (l0.take ((l1.length : Int) : Int).toNat) l1).bind fun t182 => (marigraphbook_Intact_byte.j0 k l0 l1 a2 (!t182))) else (none)) else (none)) else (marigraphbook_Intact_byte.j0 k l0 l1 a2 true)) = some r := h
 clear h
 have HC4 := Aside0.mk H
 clear H
 go_enter Try.func12, Try.ntmps12
 go_upto_region 1 with (fail)
 go_cut [22] (fun v22 wc => ∃ (kq : Nat) (x22_3 : Bool), v22 = .bool x22_3 ∧ Aside0 (marigraphbook_Intact_byte.j0 kq l0 l1 a2 x22_3 = some r) ∧ Aside0 (kq ≤ k) ∧ Drawn0 w wc)
 case first =>
  have H := HC4.out
  clear HC4
  by_cases c5 : (l0.length : Int) = (wrap64 ((l1.length : Int) + 80))
  ·rw [if_pos c5] at H
   have c5b0 : ((l0.length : Int) == (wrap64 ((l1.length : Int) + 80))) = true := beq_iff_eq.mpr c5
   have c5b1 : ((l0.length : Int) != (wrap64 ((l1.length : Int) + 80))) = false := bne_eq_false_iff_eq.mpr c5
   clear c5
   (first | rw [c5b0] | rw [c5b1] | (simp only [i64_w, i32_w]; rw [c5b0]) | skip)
   by_cases c6 : 0 ≤ (l1.length : Int)
   ·rw [if_pos c6] at H
    have c6b0 := eq_true c6
    have c6b1 : decide (0 ≤ (l1.length : Int)) = true := decide_eq_true c6
    clear c6
    by_cases c7 : (l1.length : Int) ≤ (l0.length : Int)
    ·rw [if_pos c7] at H
     have c7b0 := eq_true c7
     have c7b1 : decide ((l1.length : Int) ≤ (l0.length : Int)) = true := decide_eq_true c7
     clear c7
     replace H := Option.bind_eq_some_iff.mp H
     obtain ⟨t182, A80, H⟩ := H
     replace H : (marigraphbook_Intact_byte.j0 k l0 l1 a2 (!t182)) = some r := H
     have A8 := Aside0.mk A80
     clear A80
     have H' := Aside0.mk H
     clear H
     obtain ⟨i09, hi09, _, hsz9, _⟩ := info_parts info5
     obtain ⟨hcut9, hA9, hC9⟩ := print_take_of (P := Try.prog) (Value.int .u8) 0 30 5 .i64 Try.underlying30 hi09 hsz9 A0 c0 l0 (l1.length : Int) (of_decide_eq_true (by first | (with_reducible assumption) | assumption)) (of_decide_eq_true (by first | (with_reducible assumption) | assumption)) HC0.out
     have HR181 := Aside0.mk (Kd.C_of_reads (h1 := fun _ => rfl) (hA9 _ (Kd.reads_of_C HR0.out)))
     have HC181 := Aside0.mk hC9
     clear hA9 hC9 hi09 hsz9
     go_wp2_with (first | (go_at_call 28; (try rw [show min l1.length l0.length = (l0.take ((l1.length : Int) : Int).toNat).length from by rw [List.length_take, Int.toNat_natCast]]); (with_reducible refine (marigraphbook_Same_byte.calls k _ _ (l0.take ((l1.length : Int) : Int).toNat) _ _ l1 t182 _ ?side1 ?side2 ?side3 ?side4 A8.out).mono ?_); (case side1 => repeat (first | exact HR181.out | (with_reducible refine Kd.C_alloc ?_ _) | (with_reducible refine Kd.C_drewN ?_ _) | (with_reducible refine Kd.C_drew ?_))); (case side2 => exact HC181.out); (case side3 => repeat (first | exact HR1.out | (with_reducible refine Kd.C_alloc ?_ _) | (with_reducible refine Kd.C_drewN ?_ _) | (with_reducible refine Kd.C_drew ?_))); (case side4 => exact HC1.out); rintro e w' ⟨rfl, ⟨nd, rfl⟩⟩))
     go_meet
     case rel => exact ⟨_, (!t182), (by first | rfl | (simp; done) | (simp [*]; done)), H', ⟨by first | omega | exact Nat.le_refl _⟩, by repeat (first | exact Drawn0.refl _ | apply Drawn0.step)⟩
    ·rw [if_neg c7] at H
     exact absurd H (by simp)
   ·rw [if_neg c6] at H
    exact absurd H (by simp)
  ·rw [if_neg c5] at H
   have c5b0 : ((l0.length : Int) == (wrap64 ((l1.length : Int) + 80))) = false := beq_eq_false_iff_ne.mpr c5
   have c5b1 : ((l0.length : Int) != (wrap64 ((l1.length : Int) + 80))) = true := bne_iff_ne.mpr c5
   (first | rw [c5b0] | rw [c5b1] | (simp only [i64_w, i32_w]; rw [c5b0]) | skip)
   have H' := Aside0.mk H
   clear H
   go_wp2
   go_meet
   case rel => exact ⟨_, (true), (by first | rfl | (simp; done) | (simp [*]; done)), H', ⟨by first | omega | exact Nat.le_refl _⟩, by repeat (first | exact Drawn0.refl _ | apply Drawn0.step)⟩
 case rest =>
  clear HC4
  try clear c1
  try clear p2
  try clear c5
  try clear c5b0
  try clear c5b1
  try clear c6
  try clear c6b0
  try clear c6b1
  try clear p6
  try clear c7
  try clear c7b0
  try clear c7b1
  obtain ⟨kq, x22_3, rfl, HA, HJ3, ⟨mc3, rfl⟩⟩ := hcut
  cases kq with
  | zero => exact absurd HA.out (by simp [marigraphbook_Intact_byte.j0])
  | succ kj3 =>
   have H := HA.out
   clear HA
   simp only [marigraphbook_Intact_byte.j0] at H
   by_cases c10 : x22_3 = true
   ·subst c10
    have H1 : (some false) = some r := by rw [if_pos rfl] at H; exact H
    clear H
    have H := H1
    clear H1
    obtain rfl := Option.some.inj H
    go_wp2
    go_ret
    exact ⟨by first | rfl | (simp; done) | (simp [*]; done), by repeat (first | exact Drawn0.refl _ | apply Drawn0.step)⟩
   ·replace c10 := Bool.eq_false_iff.mpr c10
    subst c10
    have H1 : (marigraphbook_Intact_byte.l0 kj3 l0 a2 (l1.length : Int)) = some r := by rw [if_neg (show ¬ (false = true) by decide)] at H; exact H
    clear H
    have H := H1
    clear H1
    have H' := Aside0.mk H
    clear H
    go_wp2
    go_loopg [7] kj3 (fun kq v7 w' => ∃ (x7_2 : Int), v7 = .int .i64 x7_2 ∧ Aside0 (marigraphbook_Intact_byte.l0 kq l0 a2 x7_2 = some r) ∧ Aside0 (kq ≤ kj3) ∧ Drawn0 w w')
    case atStart => exact ⟨((l1.length : Int)), (by first | rfl | (simp; done) | (simp [*]; done)), H', ⟨Nat.le_refl _⟩, by repeat (first | exact Drawn0.refl _ | apply Drawn0.step)⟩
    case round =>
     clear H'
     try clear c1
     try clear p2
     try clear c3
     try clear c5
     try clear c5b0
     try clear c5b1
     try clear c6
     try clear c6b0
     try clear c6b1
     try clear p6
     try clear c7
     try clear c7b0
     try clear c7b1
     try clear c10
     try clear p2
     try clear p6
     obtain ⟨x7_2, rfl, HA, HK2, ⟨m2, rfl⟩⟩ := hrel
     cases gk with
     | zero => exact absurd HA.out (by simp [marigraphbook_Intact_byte.l0])
     | succ k2 =>
      have H := HA.out
      clear HA
      simp only [marigraphbook_Intact_byte.l0] at H
      by_cases c11 : x7_2 < (l0.length : Int)
      ·rw [if_pos c11] at H
       have c11b0 : decide (x7_2 < (l0.length : Int)) = true := decide_eq_true c11
       clear c11
       by_cases c12 : 0 ≤ x7_2
       ·rw [if_pos c12] at H
        have c12b0 : decide (0 ≤ x7_2) = true := decide_eq_true c12
        clear c12
        by_cases c13 : (rd l0 x7_2) = a2
        ·rw [if_pos c13] at H
         have c13b0 : ((rd l0 x7_2) == a2) = true := beq_iff_eq.mpr c13
         have c13b1 : ((rd l0 x7_2) != a2) = false := bne_eq_false_iff_eq.mpr c13
         clear c13
         have H' := Aside0.mk H
         clear H
         have p183 : 0 ≤ (x7_2 : Int) := of_decide_eq_true (by first | (with_reducible assumption) | assumption)
         have q183 : x7_2 < (l0.length : Int) := of_decide_eq_true (by first | (with_reducible assumption) | assumption)
         obtain ⟨ad183, e183, hx183_0⟩ := Kd.at_int HR0.out x7_2 p183 q183
         cases e183
         replace p183 := eq_true p183
         replace q183 := eq_true q183
         go_wp2
         go_roundg k2
         case measure => have := HJ3.out; have := HK2.out; omega
         case rel => exact ⟨(wrap64 (x7_2 + 1)), (by first | rfl | (simp; done) | (simp [*]; done)), H', ⟨by have := HJ3.out; have := HK2.out; omega⟩, by repeat (first | exact Drawn0.refl _ | apply Drawn0.step)⟩
        ·rw [if_neg c13] at H
         have c13b0 : ((rd l0 x7_2) == a2) = false := beq_eq_false_iff_ne.mpr c13
         have c13b1 : ((rd l0 x7_2) != a2) = true := bne_iff_ne.mpr c13
         obtain rfl := Option.some.inj H
         have p183 : 0 ≤ (x7_2 : Int) := of_decide_eq_true (by first | (with_reducible assumption) | assumption)
         have q183 : x7_2 < (l0.length : Int) := of_decide_eq_true (by first | (with_reducible assumption) | assumption)
         obtain ⟨ad183, e183, hx183_0⟩ := Kd.at_int HR0.out x7_2 p183 q183
         cases e183
         replace p183 := eq_true p183
         replace q183 := eq_true q183
         go_wp2
         go_ret
         exact ⟨by first | rfl | (simp; done) | (simp [*]; done), by repeat (first | exact Drawn0.refl _ | apply Drawn0.step)⟩
       ·rw [if_neg c12] at H
        exact absurd H (by simp)
      ·rw [if_neg c11] at H
       have c11b0 : decide (x7_2 < (l0.length : Int)) = false := decide_eq_false c11
       clear c11
       obtain rfl := Option.some.inj H
       go_wp2
       go_ret
       exact ⟨by first | rfl | (simp; done) | (simp [*]; done), by repeat (first | exact Drawn0.refl _ | apply Drawn0.step)⟩

/-! ### a constant's bytes -/
theorem constb_lit {P : Program} {ops : Array Oper} {rest : List Oper} {o : Oper} {a : Act} {Q : Exit → Act → World → Prop} {W : World} {n E : Nat} {inner : List Value} (hgd : o.guard = none)
    (hrun : (execOp a.eval o).run P W = .ok (.value (.slice (some ⟨W.heap.size, 0, none⟩) n n)) (W.alloc (.cells inner.toArray E)))
    (h : wpList P ops Q rest (a.put o.dst (.slice (some ⟨W.heap.size, 0, none⟩) n n)) (W.alloc (.cells inner.toArray E))) : wpList P ops Q (o :: rest) a W := Kd.event_run hgd hrun h
theorem constb_conv {P : Program} {ops : Array Oper} {rest : List Oper} {o : Oper} {a : Act} {Q : Exit → Act → World → Prop} {W : World} (T E : TypeId) {N1 N2 : Tmp} {xs : List Int} {C : Array Value} (hgd : o.guard = none) (hd : o.dst = some N2)
    (ho : o.op = .convert T T (.tmp N1)) (hC : C = (xs.map (Value.int .u8)).toArray) (hv : a.eval (.tmp N1) = .slice (some ⟨W.heap.size, 0, none⟩) xs.length xs.length) (ht : P.underlying T = some (.slice E)) (he : P.underlying E = some (.int .u8)) (hm : xs.length ≤ 9223372036854775807)
    (h : ∀ v1 w1, Kd.V (Kd.int .u8) E w1 W.heap.size (fun k_ => W.heap.size ≤ k_) v1 xs → Below W.heap.size W w1 → wpList P ops Q rest (a.put (some N2) v1) w1) : wpList P ops Q (o :: rest) a (W.alloc (.cells C E)) := by
  have hrun : (execOp a.eval o).run P (W.alloc (.cells C E)) = .ok (.value (.slice (some ⟨W.heap.size, 0, none⟩) xs.length xs.length)) (W.alloc (.cells C E (C.size, C.size + 1))) := by
    unfold execOp
    rw [ho]
    simp only [hv, Sem.run_bind, Sem.run_pure, Lib.run_convert_bytes_const W T E C xs.length xs.length ht he, Result.andThen_ok]
  refine Kd.event_run hgd hrun ?_
  rw [hd]
  refine h _ _ ⟨_, _, rfl, Nat.le_refl _, ?_⟩ (below_alloc (Below.refl _ _) _)
  intro W' hW
  have hlt : W.heap.size < (W.alloc (.cells C E (C.size, C.size + 1))).heap.size := by simp
  have hb : W'.heap[W.heap.size]? = some (.cells C E (C.size, C.size + 1)) := by
    rw [hW W.heap.size (Nat.le_refl _) hlt]
    show (W.heap.push _)[W.heap.size]? = _
    simp
  refine ⟨rfl, hm, fun _ => ⟨_, rfl, fun j p hj => ⟨[Value.int .u8 p], rfl, rfl, fun i u hu => ?_⟩⟩⟩
  have hi : i = 0 := by
    rcases i with _ | i
    · rfl
    · simp at hu
  subst hi
  obtain rfl : Value.int .u8 p = u := by simpa using hu
  rw [add_plain]
  have hj2 : C[j]? = some (Value.int .u8 p) := by
    rw [hC]
    simp [hj]
  simp only [World.cell?, hb]
  simpa [Kd.int, Kd.scalar] using hj2

/-! ### marigraphlaw2_known: function 13 -/
def marigraphlaw2_known.f (k : Nat)  : Option (Bool) := (octet_Next.f k (([1, 255] : List Int))).bind fun bt187 => ((octet_Put.f k ([] : List Int) 258 3).bind fun t191 => (if (strOfNums t191).toList = ([0, 1, 2] : List UInt8) then (if bt187.2 = true then (if (strOfNums bt187.1).toList = ([2] : List UInt8) then ((octet_Less.f (([97] : List Int)) (([97, 98] : List Int))).bind fun t200 => (some t200)) else (some false)) else (some false)) else (some false)))
theorem marigraphlaw2_known.mono : ∀ k, LeO (marigraphlaw2_known.f k ) (marigraphlaw2_known.f (k + 1) ) := by
 intro  k
 unfold marigraphlaw2_known.f
 repeat' first
   | (with_reducible exact octet_Next.mono _ _)
   | (with_reducible exact octet_Put.mono _ _ _ _)
   | (with_reducible exact LeO.refl _)
   | (with_reducible exact LeO.none _)
   | (with_reducible refine LeO.ite ?_ ?_)
   | (with_reducible refine LeO.bind ?_ (fun _ => ?_))
   | exact octet_Next.mono _ _
   | exact octet_Put.mono _ _ _ _
   | exact LeO.none _
   | refine LeO.ite ?_ ?_
   | refine LeO.bind ?_ (fun _ => ?_)
set_option maxHeartbeats 8000000 in
set_option maxRecDepth 100000 in
theorem marigraphlaw2_known.calls (k : Nat)  (r : Bool) (w : World) (h : marigraphlaw2_known.f k  = some r) :
  Calls Try.prog 13 #[] w fun e w' => e = .returned (.bool r) ∧ Below w.heap.size w w' := by
 have HB := Aside0.mk (Below.refl w.heap.size w)
 have H : ((octet_Next.f k (([1, 255] : List Int))).bind fun bt187 => ((octet_Put.f k ([] : List Int) 258 3).bind fun t191 => (if (strOfNums t191).toList = ([0, 1, 2] : List UInt8) then (if bt187.2 = true then (if (strOfNums bt187.1).toList = ([2] : List UInt8) then ((octet_Less.f (([97] : List Int)) (([97, 98] : List Int))).bind fun t200 => (some t200)) else (some false)) else (some false)) else (some false)))) = some r := h
 clear h
 obtain ⟨y184, hy184⟩ : ∃ y_ : List Int, y_ = (([1, 255] : List Int)) := ⟨_, rfl⟩
 replace H : ((octet_Next.f k y184).bind fun bt187 => ((octet_Put.f k ([] : List Int) 258 3).bind fun t191 => (if (strOfNums t191).toList = ([0, 1, 2] : List UInt8) then (if bt187.2 = true then (if (strOfNums bt187.1).toList = ([2] : List UInt8) then ((octet_Less.f (([97] : List Int)) (([97, 98] : List Int))).bind fun t200 => (some t200)) else (some false)) else (some false)) else (some false)))) = some r := by first | (rw [hy184]; with_reducible exact H) | (have H2_ := (Option.bind_some _ _).symm.trans H; rw [hy184]; with_reducible exact H2_) | (have H2_ := (Option.bind_some _ _).symm.trans H; with_reducible exact H2_) | with_reducible exact H | (rw [hy184]; exact H) | exact H
 have Ny184 := Aside0.mk hy184
 clear hy184
 replace H := Option.bind_eq_some_iff.mp H
 obtain ⟨⟨t187, t188⟩, A10, H⟩ := H
 replace H : ((octet_Put.f k ([] : List Int) 258 3).bind fun t191 => (if (strOfNums t191).toList = ([0, 1, 2] : List UInt8) then (if t188 = true then (if (strOfNums t187).toList = ([2] : List UInt8) then ((octet_Less.f (([97] : List Int)) (([97, 98] : List Int))).bind fun t200 => (some t200)) else (some false)) else (some false)) else (some false))) = some r := H
 have A1 := Aside0.mk A10
 clear A10
 replace H := Option.bind_eq_some_iff.mp H
 obtain ⟨t191, A20, H⟩ := H
 replace H : (if (strOfNums t191).toList = ([0, 1, 2] : List UInt8) then (if t188 = true then (if (strOfNums t187).toList = ([2] : List UInt8) then ((octet_Less.f (([97] : List Int)) (([97, 98] : List Int))).bind fun t200 => (some t200)) else (some false)) else (some false)) else (some false)) = some r := H
 have A2 := Aside0.mk A20
 clear A20
 by_cases c3 : (strOfNums t191).toList = ([0, 1, 2] : List UInt8)
 ·rw [if_pos c3] at H
  have c3b0 : ((strOfNums t191).toList == ([0, 1, 2] : List UInt8)) = true := beq_iff_eq.mpr c3
  have c3b1 : ((strOfNums t191).toList != ([0, 1, 2] : List UInt8)) = false := bne_eq_false_iff_eq.mpr c3
  clear c3
  by_cases c4 : t188 = true
  ·subst c4
   have H1 : (if (strOfNums t187).toList = ([2] : List UInt8) then ((octet_Less.f (([97] : List Int)) (([97, 98] : List Int))).bind fun t200 => (some t200)) else (some false)) = some r := by rw [if_pos rfl] at H; exact H
   clear H
   have H := H1
   clear H1
   by_cases c5 : (strOfNums t187).toList = ([2] : List UInt8)
   ·rw [if_pos c5] at H
    have c5b0 : ((strOfNums t187).toList == ([2] : List UInt8)) = true := beq_iff_eq.mpr c5
    have c5b1 : ((strOfNums t187).toList != ([2] : List UInt8)) = false := bne_eq_false_iff_eq.mpr c5
    clear c5
    obtain ⟨y194, hy194⟩ : ∃ y_ : List Int, y_ = (([97] : List Int)) := ⟨_, rfl⟩
    replace H : ((octet_Less.f y194 (([97, 98] : List Int))).bind fun t200 => (some t200)) = some r := by first | (rw [hy194]; with_reducible exact H) | (have H2_ := (Option.bind_some _ _).symm.trans H; rw [hy194]; with_reducible exact H2_) | (have H2_ := (Option.bind_some _ _).symm.trans H; with_reducible exact H2_) | with_reducible exact H | (rw [hy194]; exact H) | exact H
    have Ny194 := Aside0.mk hy194
    clear hy194
    obtain ⟨y197, hy197⟩ : ∃ y_ : List Int, y_ = (([97, 98] : List Int)) := ⟨_, rfl⟩
    replace H : ((octet_Less.f y194 y197).bind fun t200 => (some t200)) = some r := by first | (rw [hy197]; with_reducible exact H) | (have H2_ := (Option.bind_some _ _).symm.trans H; rw [hy197]; with_reducible exact H2_) | (have H2_ := (Option.bind_some _ _).symm.trans H; with_reducible exact H2_) | with_reducible exact H | (rw [hy197]; exact H) | exact H
    have Ny197 := Aside0.mk hy197
    clear hy197
    replace H := Option.bind_eq_some_iff.mp H
    obtain ⟨t200, A60, H⟩ := H
    replace H : (some t200) = some r := H
    have A6 := Aside0.mk A60
    clear A60
    obtain rfl := Option.some.inj H
    go_enter Try.func13, Try.ntmps13
    go_wp2_with (first | ((with_reducible refine gate_dst (N := 4) rfl ?_); (try (refine gate_guard (by rfl) ?_; dsimp only)); refine Kd.R_lit (Kd.int .u8) _ 5 ?hg (N := 4) ?hd (xs := ([1, 255] : List Int)) (inner := [.int .u8 1, .int .u8 255]) (ok := fun _ => True) (okp := fun _ => True) ?hr ?hp (fun _ hk => hk) trivial (Below.refl _ _) (Nat.le_refl _) (by simp) ?_; (case hd => rfl); (case hg => rfl); (case hr => first | (go_simp; done) | (go_simp; rfl)); (case hp => exact (Reps.one (show Kd.M (Kd.int .u8) _ _ _ 1 [.int .u8 1] from rfl) (Reps.one (show Kd.M (Kd.int .u8) _ _ _ 255 [.int .u8 255] from rfl) (Reps.none _ _)))); intro v185 w7 ho8 hb hg_ hnew_; clear hg_ hnew_; (first | rw [← Ny184.out] at ho8 | (simp only [Int.reduceToNat] at ho8; rw [← Ny184.out] at ho8)); have n0_ := Aside0.mk (Kd.R_lower ho8 (below_size (belN HB.out))); have n1_ := Aside0.mk (below_step (belN HB.out) hb); clear HB; have HO186 := n0_; have HB := n1_; clear n0_ n1_; clear hb ho8; obtain ⟨Ao9, co9, eo9⟩ := Kd.R_slice HO186.out; subst eo9) | ((with_reducible refine gate_callee (f := 22) rfl ?_); refine goesL_ (some 5) rfl rfl Try.func22 (by kernel_rfl) rfl #[.slice Ao9 y184.length co9] rfl argN ?_; (with_reducible refine (octet_Next.calls k _ _ y184 t187 true _ ?side1 ?side2 A1.out).mono ?_); (case side1 => repeat (first | exact (Kd.R_reads' HO186.out).2.2 | (with_reducible refine Kd.C_alloc ?_ _) | (with_reducible refine Kd.C_drewN ?_ _) | (with_reducible refine Kd.C_drew ?_))); (case side2 => exact (Kd.R_reads' HO186.out).2.1); rintro e w10 ⟨v189, rfl, ho0, hb⟩; refine ⟨_, rfl, ?_⟩; have n0_ := Aside0.mk (Kd.R_elder' (rowN HO186.out) (Kd.R_base ho0) hb); have n1_ := Aside0.mk (Kd.R_lower (Kd.R_new' ho0 (Kd.R_lt (rowN HO186.out))) (below_size (belN HB.out))); have n2_ := Aside0.mk (below_step (belN HB.out) hb); clear HO186; clear HB; have HO186 := n0_; have HO190 := n1_; have HB := n2_; clear n0_ n1_ n2_; (try clear hb); (try clear hk); (try clear ho0)) | ((with_reducible refine gate_callee (f := 20) rfl ?_); refine goesL_ (some 8) rfl rfl Try.func20 (by kernel_rfl) rfl #[.slice none 0 0, .int .u64 258, .int .i64 3] rfl argN ?_; (refine (octet_Put.calls k _ _ ([] : List Int) 258 3 t191 _ ?side1 ?side2 A2.out).mono ?_); (case side1 => exact Kd.C_nil _ _); (case side2 => exact Nat.le_refl _); rintro e w11 ⟨v192, rfl, ho0, hb⟩; refine ⟨_, rfl, ?_⟩; have n0_ := Aside0.mk (Kd.R_elder' (rowN HO186.out) (Kd.R_base ho0) hb); have n1_ := Aside0.mk (Kd.R_elder' (rowN HO190.out) (Kd.R_base ho0) hb); have n2_ := Aside0.mk (Kd.R_lower (Kd.R_new' (Kd.R_new' ho0 (Kd.R_lt (rowN HO186.out))) (Kd.R_lt (rowN HO190.out))) (below_size (belN HB.out))); have n3_ := Aside0.mk (below_step (belN HB.out) hb); clear HO186; clear HO190; clear HB; have HO186 := n0_; have HO190 := n1_; have HO193 := n2_; have HB := n3_; clear n0_ n1_ n2_ n3_; (try clear hb); (try clear hk); (try clear ho0); have hcv12 := own_string (P := Try.prog) Try.underlying30 Try.underlying5 Try.underlying9 (Kd.own_of_R HO193.out); have hcv13 := own_string (P := Try.prog) Try.underlying30 Try.underlying5 Try.underlying9 (Kd.own_of_R HO190.out)) | ((with_reducible refine gate_dst (N := 20) rfl ?_); (try (refine gate_guard (by rfl) ?_; dsimp only)); (try (refine gate_guard (by rfl) ?_; dsimp only)); refine constb_lit (n := 1) (inner := [.int .u8 97]) (E := 5) ?hg ?hr ?_; (case hg => rfl); (case hr => first | (go_simp; done) | (go_simp; rfl)); (with_reducible refine gate_dst (N := 21) rfl ?_); (try (refine gate_guard (by rfl) ?_; dsimp only)); refine constb_conv 30 5 (xs := ([97] : List Int)) rfl rfl rfl rfl (by first | (simp only [Act.put, List.setIfInBounds_toArray, List.set_cons_zero, List.set_cons_succ]; rfl) | rfl | (go_simp; done) | (go_simp; rfl)) Try.underlying30 Try.underlying5 (by simp) ?_; intro v195 w14 ho0 hb; rw [← Ny194.out] at ho0; have n0_ := Aside0.mk (Kd.R_below (rowN HO186.out) hb); have n1_ := Aside0.mk (Kd.R_below (rowN HO190.out) hb); have n2_ := Aside0.mk (Kd.R_below (rowN HO193.out) hb); have n3_ := Aside0.mk (Kd.V_lower (Kd.V_mono (ok' := fun k_ => some k_ ≠ (.slice Ao9 y184.length co9 : Value).ownBlock ∧ some k_ ≠ (v189 : Value).ownBlock ∧ some k_ ≠ (v192 : Value).ownBlock) ho0 (fun k_ hk_ => ⟨(Kd.fresh' (Kd.R_lt (rowN HO186.out)) k_ hk_), (Kd.fresh' (Kd.R_lt (rowN HO190.out)) k_ hk_), (Kd.fresh' (Kd.R_lt (rowN HO193.out)) k_ hk_)⟩)) (below_size (belN HB.out))); have n4_ := Aside0.mk (below_step (belN HB.out) hb); clear HO186; clear HO190; clear HO193; clear HB; have HO186 := n0_; have HO190 := n1_; have HO193 := n2_; have HO196 := n3_; have HB := n4_; clear n0_ n1_ n2_ n3_ n4_; (try clear hb); (try clear ho0)) | ((with_reducible refine gate_dst (N := 22) rfl ?_); (try (refine gate_guard (by rfl) ?_; dsimp only)); (try (refine gate_guard (by rfl) ?_; dsimp only)); refine constb_lit (n := 2) (inner := [.int .u8 97, .int .u8 98]) (E := 5) ?hg ?hr ?_; (case hg => rfl); (case hr => first | (go_simp; done) | (go_simp; rfl)); (with_reducible refine gate_dst (N := 23) rfl ?_); (try (refine gate_guard (by rfl) ?_; dsimp only)); refine constb_conv 30 5 (xs := ([97, 98] : List Int)) rfl rfl rfl rfl (by first | (simp only [Act.put, List.setIfInBounds_toArray, List.set_cons_zero, List.set_cons_succ]; rfl) | rfl | (go_simp; done) | (go_simp; rfl)) Try.underlying30 Try.underlying5 (by simp) ?_; intro v198 w15 ho0 hb; rw [← Ny197.out] at ho0; have n0_ := Aside0.mk (Kd.R_below (rowN HO186.out) hb); have n1_ := Aside0.mk (Kd.R_below (rowN HO190.out) hb); have n2_ := Aside0.mk (Kd.R_below (rowN HO193.out) hb); have n3_ := Aside0.mk (Kd.V_below (by (with_reducible repeat (first | apply Kd.V_alloc | apply Kd.V_drewN | apply Kd.V_drew)); exact HO196.out) hb); have n4_ := Aside0.mk (Kd.V_lower (Kd.V_mono (ok' := fun k_ => some k_ ≠ (.slice Ao9 y184.length co9 : Value).ownBlock ∧ some k_ ≠ (v189 : Value).ownBlock ∧ some k_ ≠ (v192 : Value).ownBlock) ho0 (fun k_ hk_ => ⟨(Kd.fresh' (Kd.R_lt (rowN HO186.out)) k_ hk_), (Kd.fresh' (Kd.R_lt (rowN HO190.out)) k_ hk_), (Kd.fresh' (Kd.R_lt (rowN HO193.out)) k_ hk_)⟩)) (below_size (belN HB.out))); have n5_ := Aside0.mk (below_step (belN HB.out) hb); clear HO186; clear HO190; clear HO193; clear HO196; clear HB; have HO186 := n0_; have HO190 := n1_; have HO193 := n2_; have HO196 := n3_; have HO199 := n4_; have HB := n5_; clear n0_ n1_ n2_ n3_ n4_ n5_; (try clear hb); (try clear ho0); obtain ⟨Ao16, co16, eo16⟩ := Kd.V_slice HO196.out; subst eo16; obtain ⟨Ao17, co17, eo17⟩ := Kd.V_slice HO199.out; subst eo17) | (go_at_call 24; (with_reducible refine (octet_Less.calls _ _ y194 _ _ y197 t200 _ ?side1 ?side2 ?side3 ?side4 A6.out).mono ?_); (case side1 => repeat (first | exact (Kd.V_reads' HO196.out).2.2 | (with_reducible refine Kd.C_alloc ?_ _) | (with_reducible refine Kd.C_drewN ?_ _) | (with_reducible refine Kd.C_drew ?_))); (case side2 => exact (Kd.V_reads' HO196.out).2.1); (case side3 => repeat (first | exact (Kd.V_reads' HO199.out).2.2 | (with_reducible refine Kd.C_alloc ?_ _) | (with_reducible refine Kd.C_drewN ?_ _) | (with_reducible refine Kd.C_drew ?_))); (case side4 => exact (Kd.V_reads' HO199.out).2.1); rintro e w' ⟨rfl, ⟨nd, rfl⟩⟩))
    go_ret
    exact ⟨by first | rfl | (simp [errW_none, errW_some] <;> rfl) | (simp [*, errW_none, errW_some] <;> rfl), (belN HB.out)⟩
   ·rw [if_neg c5] at H
    have c5b0 : ((strOfNums t187).toList == ([2] : List UInt8)) = false := beq_eq_false_iff_ne.mpr c5
    have c5b1 : ((strOfNums t187).toList != ([2] : List UInt8)) = true := bne_iff_ne.mpr c5
    obtain rfl := Option.some.inj H
    go_enter Try.func13, Try.ntmps13
    go_wp2_with (first | ((with_reducible refine gate_dst (N := 4) rfl ?_); (try (refine gate_guard (by rfl) ?_; dsimp only)); refine Kd.R_lit (Kd.int .u8) _ 5 ?hg (N := 4) ?hd (xs := ([1, 255] : List Int)) (inner := [.int .u8 1, .int .u8 255]) (ok := fun _ => True) (okp := fun _ => True) ?hr ?hp (fun _ hk => hk) trivial (Below.refl _ _) (Nat.le_refl _) (by simp) ?_; (case hd => rfl); (case hg => rfl); (case hr => first | (go_simp; done) | (go_simp; rfl)); (case hp => exact (Reps.one (show Kd.M (Kd.int .u8) _ _ _ 1 [.int .u8 1] from rfl) (Reps.one (show Kd.M (Kd.int .u8) _ _ _ 255 [.int .u8 255] from rfl) (Reps.none _ _)))); intro v185 w18 ho19 hb hg_ hnew_; clear hg_ hnew_; (first | rw [← Ny184.out] at ho19 | (simp only [Int.reduceToNat] at ho19; rw [← Ny184.out] at ho19)); have n0_ := Aside0.mk (Kd.R_lower ho19 (below_size (belN HB.out))); have n1_ := Aside0.mk (below_step (belN HB.out) hb); clear HB; have HO186 := n0_; have HB := n1_; clear n0_ n1_; clear hb ho19; obtain ⟨Ao20, co20, eo20⟩ := Kd.R_slice HO186.out; subst eo20) | ((with_reducible refine gate_callee (f := 22) rfl ?_); refine goesL_ (some 5) rfl rfl Try.func22 (by kernel_rfl) rfl #[.slice Ao20 y184.length co20] rfl argN ?_; (with_reducible refine (octet_Next.calls k _ _ y184 t187 true _ ?side1 ?side2 A1.out).mono ?_); (case side1 => repeat (first | exact (Kd.R_reads' HO186.out).2.2 | (with_reducible refine Kd.C_alloc ?_ _) | (with_reducible refine Kd.C_drewN ?_ _) | (with_reducible refine Kd.C_drew ?_))); (case side2 => exact (Kd.R_reads' HO186.out).2.1); rintro e w21 ⟨v189, rfl, ho0, hb⟩; refine ⟨_, rfl, ?_⟩; have n0_ := Aside0.mk (Kd.R_elder' (rowN HO186.out) (Kd.R_base ho0) hb); have n1_ := Aside0.mk (Kd.R_lower (Kd.R_new' ho0 (Kd.R_lt (rowN HO186.out))) (below_size (belN HB.out))); have n2_ := Aside0.mk (below_step (belN HB.out) hb); clear HO186; clear HB; have HO186 := n0_; have HO190 := n1_; have HB := n2_; clear n0_ n1_ n2_; (try clear hb); (try clear hk); (try clear ho0)) | ((with_reducible refine gate_callee (f := 20) rfl ?_); refine goesL_ (some 8) rfl rfl Try.func20 (by kernel_rfl) rfl #[.slice none 0 0, .int .u64 258, .int .i64 3] rfl argN ?_; (refine (octet_Put.calls k _ _ ([] : List Int) 258 3 t191 _ ?side1 ?side2 A2.out).mono ?_); (case side1 => exact Kd.C_nil _ _); (case side2 => exact Nat.le_refl _); rintro e w22 ⟨v192, rfl, ho0, hb⟩; refine ⟨_, rfl, ?_⟩; have n0_ := Aside0.mk (Kd.R_elder' (rowN HO186.out) (Kd.R_base ho0) hb); have n1_ := Aside0.mk (Kd.R_elder' (rowN HO190.out) (Kd.R_base ho0) hb); have n2_ := Aside0.mk (Kd.R_lower (Kd.R_new' (Kd.R_new' ho0 (Kd.R_lt (rowN HO186.out))) (Kd.R_lt (rowN HO190.out))) (below_size (belN HB.out))); have n3_ := Aside0.mk (below_step (belN HB.out) hb); clear HO186; clear HO190; clear HB; have HO186 := n0_; have HO190 := n1_; have HO193 := n2_; have HB := n3_; clear n0_ n1_ n2_ n3_; (try clear hb); (try clear hk); (try clear ho0); have hcv23 := own_string (P := Try.prog) Try.underlying30 Try.underlying5 Try.underlying9 (Kd.own_of_R HO193.out); have hcv24 := own_string (P := Try.prog) Try.underlying30 Try.underlying5 Try.underlying9 (Kd.own_of_R HO190.out)))
    go_ret
    exact ⟨by first | rfl | (simp [errW_none, errW_some] <;> rfl) | (simp [*, errW_none, errW_some] <;> rfl), (belN HB.out)⟩
  ·replace c4 := Bool.eq_false_iff.mpr c4
   subst c4
   have H1 : (some false) = some r := by rw [if_neg (show ¬ (false = true) by decide)] at H; exact H
   clear H
   have H := H1
   clear H1
   obtain rfl := Option.some.inj H
   go_enter Try.func13, Try.ntmps13
   go_wp2_with (first | ((with_reducible refine gate_dst (N := 4) rfl ?_); (try (refine gate_guard (by rfl) ?_; dsimp only)); refine Kd.R_lit (Kd.int .u8) _ 5 ?hg (N := 4) ?hd (xs := ([1, 255] : List Int)) (inner := [.int .u8 1, .int .u8 255]) (ok := fun _ => True) (okp := fun _ => True) ?hr ?hp (fun _ hk => hk) trivial (Below.refl _ _) (Nat.le_refl _) (by simp) ?_; (case hd => rfl); (case hg => rfl); (case hr => first | (go_simp; done) | (go_simp; rfl)); (case hp => exact (Reps.one (show Kd.M (Kd.int .u8) _ _ _ 1 [.int .u8 1] from rfl) (Reps.one (show Kd.M (Kd.int .u8) _ _ _ 255 [.int .u8 255] from rfl) (Reps.none _ _)))); intro v185 w25 ho26 hb hg_ hnew_; clear hg_ hnew_; (first | rw [← Ny184.out] at ho26 | (simp only [Int.reduceToNat] at ho26; rw [← Ny184.out] at ho26)); have n0_ := Aside0.mk (Kd.R_lower ho26 (below_size (belN HB.out))); have n1_ := Aside0.mk (below_step (belN HB.out) hb); clear HB; have HO186 := n0_; have HB := n1_; clear n0_ n1_; clear hb ho26; obtain ⟨Ao27, co27, eo27⟩ := Kd.R_slice HO186.out; subst eo27) | ((with_reducible refine gate_callee (f := 22) rfl ?_); refine goesL_ (some 5) rfl rfl Try.func22 (by kernel_rfl) rfl #[.slice Ao27 y184.length co27] rfl argN ?_; (with_reducible refine (octet_Next.calls k _ _ y184 t187 false _ ?side1 ?side2 A1.out).mono ?_); (case side1 => repeat (first | exact (Kd.R_reads' HO186.out).2.2 | (with_reducible refine Kd.C_alloc ?_ _) | (with_reducible refine Kd.C_drewN ?_ _) | (with_reducible refine Kd.C_drew ?_))); (case side2 => exact (Kd.R_reads' HO186.out).2.1); rintro e w28 ⟨v189, rfl, ho0, hb⟩; refine ⟨_, rfl, ?_⟩; have n0_ := Aside0.mk (Kd.R_elder' (rowN HO186.out) (Kd.R_base ho0) hb); have n1_ := Aside0.mk (Kd.R_lower (Kd.R_new' ho0 (Kd.R_lt (rowN HO186.out))) (below_size (belN HB.out))); have n2_ := Aside0.mk (below_step (belN HB.out) hb); clear HO186; clear HB; have HO186 := n0_; have HO190 := n1_; have HB := n2_; clear n0_ n1_ n2_; (try clear hb); (try clear hk); (try clear ho0)) | ((with_reducible refine gate_callee (f := 20) rfl ?_); refine goesL_ (some 8) rfl rfl Try.func20 (by kernel_rfl) rfl #[.slice none 0 0, .int .u64 258, .int .i64 3] rfl argN ?_; (refine (octet_Put.calls k _ _ ([] : List Int) 258 3 t191 _ ?side1 ?side2 A2.out).mono ?_); (case side1 => exact Kd.C_nil _ _); (case side2 => exact Nat.le_refl _); rintro e w29 ⟨v192, rfl, ho0, hb⟩; refine ⟨_, rfl, ?_⟩; have n0_ := Aside0.mk (Kd.R_elder' (rowN HO186.out) (Kd.R_base ho0) hb); have n1_ := Aside0.mk (Kd.R_elder' (rowN HO190.out) (Kd.R_base ho0) hb); have n2_ := Aside0.mk (Kd.R_lower (Kd.R_new' (Kd.R_new' ho0 (Kd.R_lt (rowN HO186.out))) (Kd.R_lt (rowN HO190.out))) (below_size (belN HB.out))); have n3_ := Aside0.mk (below_step (belN HB.out) hb); clear HO186; clear HO190; clear HB; have HO186 := n0_; have HO190 := n1_; have HO193 := n2_; have HB := n3_; clear n0_ n1_ n2_ n3_; (try clear hb); (try clear hk); (try clear ho0); have hcv30 := own_string (P := Try.prog) Try.underlying30 Try.underlying5 Try.underlying9 (Kd.own_of_R HO193.out)))
   go_ret
   exact ⟨by first | rfl | (simp [errW_none, errW_some] <;> rfl) | (simp [*, errW_none, errW_some] <;> rfl), (belN HB.out)⟩
 ·rw [if_neg c3] at H
  have c3b0 : ((strOfNums t191).toList == ([0, 1, 2] : List UInt8)) = false := beq_eq_false_iff_ne.mpr c3
  have c3b1 : ((strOfNums t191).toList != ([0, 1, 2] : List UInt8)) = true := bne_iff_ne.mpr c3
  obtain rfl := Option.some.inj H
  go_enter Try.func13, Try.ntmps13
  go_wp2_with (first | ((with_reducible refine gate_dst (N := 4) rfl ?_); (try (refine gate_guard (by rfl) ?_; dsimp only)); refine Kd.R_lit (Kd.int .u8) _ 5 ?hg (N := 4) ?hd (xs := ([1, 255] : List Int)) (inner := [.int .u8 1, .int .u8 255]) (ok := fun _ => True) (okp := fun _ => True) ?hr ?hp (fun _ hk => hk) trivial (Below.refl _ _) (Nat.le_refl _) (by simp) ?_; (case hd => rfl); (case hg => rfl); (case hr => first | (go_simp; done) | (go_simp; rfl)); (case hp => exact (Reps.one (show Kd.M (Kd.int .u8) _ _ _ 1 [.int .u8 1] from rfl) (Reps.one (show Kd.M (Kd.int .u8) _ _ _ 255 [.int .u8 255] from rfl) (Reps.none _ _)))); intro v185 w31 ho32 hb hg_ hnew_; clear hg_ hnew_; (first | rw [← Ny184.out] at ho32 | (simp only [Int.reduceToNat] at ho32; rw [← Ny184.out] at ho32)); have n0_ := Aside0.mk (Kd.R_lower ho32 (below_size (belN HB.out))); have n1_ := Aside0.mk (below_step (belN HB.out) hb); clear HB; have HO186 := n0_; have HB := n1_; clear n0_ n1_; clear hb ho32; obtain ⟨Ao33, co33, eo33⟩ := Kd.R_slice HO186.out; subst eo33) | ((with_reducible refine gate_callee (f := 22) rfl ?_); refine goesL_ (some 5) rfl rfl Try.func22 (by kernel_rfl) rfl #[.slice Ao33 y184.length co33] rfl argN ?_; (with_reducible refine (octet_Next.calls k _ _ y184 t187 t188 _ ?side1 ?side2 A1.out).mono ?_); (case side1 => repeat (first | exact (Kd.R_reads' HO186.out).2.2 | (with_reducible refine Kd.C_alloc ?_ _) | (with_reducible refine Kd.C_drewN ?_ _) | (with_reducible refine Kd.C_drew ?_))); (case side2 => exact (Kd.R_reads' HO186.out).2.1); rintro e w34 ⟨v189, rfl, ho0, hb⟩; refine ⟨_, rfl, ?_⟩; have n0_ := Aside0.mk (Kd.R_elder' (rowN HO186.out) (Kd.R_base ho0) hb); have n1_ := Aside0.mk (Kd.R_lower (Kd.R_new' ho0 (Kd.R_lt (rowN HO186.out))) (below_size (belN HB.out))); have n2_ := Aside0.mk (below_step (belN HB.out) hb); clear HO186; clear HB; have HO186 := n0_; have HO190 := n1_; have HB := n2_; clear n0_ n1_ n2_; (try clear hb); (try clear hk); (try clear ho0)) | ((with_reducible refine gate_callee (f := 20) rfl ?_); refine goesL_ (some 8) rfl rfl Try.func20 (by kernel_rfl) rfl #[.slice none 0 0, .int .u64 258, .int .i64 3] rfl argN ?_; (refine (octet_Put.calls k _ _ ([] : List Int) 258 3 t191 _ ?side1 ?side2 A2.out).mono ?_); (case side1 => exact Kd.C_nil _ _); (case side2 => exact Nat.le_refl _); rintro e w35 ⟨v192, rfl, ho0, hb⟩; refine ⟨_, rfl, ?_⟩; have n0_ := Aside0.mk (Kd.R_elder' (rowN HO186.out) (Kd.R_base ho0) hb); have n1_ := Aside0.mk (Kd.R_elder' (rowN HO190.out) (Kd.R_base ho0) hb); have n2_ := Aside0.mk (Kd.R_lower (Kd.R_new' (Kd.R_new' ho0 (Kd.R_lt (rowN HO186.out))) (Kd.R_lt (rowN HO190.out))) (below_size (belN HB.out))); have n3_ := Aside0.mk (below_step (belN HB.out) hb); clear HO186; clear HO190; clear HB; have HO186 := n0_; have HO190 := n1_; have HO193 := n2_; have HB := n3_; clear n0_ n1_ n2_ n3_; (try clear hb); (try clear hk); (try clear ho0); have hcv36 := own_string (P := Try.prog) Try.underlying30 Try.underlying5 Try.underlying9 (Kd.own_of_R HO193.out)))
  go_ret
  exact ⟨by first | rfl | (simp [errW_none, errW_some] <;> rfl) | (simp [*, errW_none, errW_some] <;> rfl), (belN HB.out)⟩

/-! ### marigraphlaw2_OctetTells: function 4 -/
def marigraphlaw2_OctetTells.f (k : Nat) (l0 : List Int) (l1 : List Int) (a2 : Int) (a3 : Int) : Option (Bool) := (marigraphbook_Roomy_byte.f (cutI l0 60) 165).bind fun t203 => (if 0 ≤ ((cutI l0 60).length : Int) then (if ((cutI l0 60).length : Int) ≤ (t203.length : Int) then ((marigraphlaw2_lays.f k (t203.take (((cutI l0 60).length : Int) : Int).toNat) a2 a3).bind fun t210 => (if t210 = true then ((marigraphbook_Within.f k a3 0 8).bind fun t211 => ((marigraphlaw2_lays.f k (cutI l0 60) a2 t211).bind fun t212 => (if t212 = true then ((marigraphlaw2_order.f k (cutI l0 60) (cutI l1 60)).bind fun t213 => (if t213 = true then ((some (([] : List Int) : List Int)).bind fun y214 => (if y214.length + (cutI l0 60).length < 140737488355328 then ((some (y214 ++ (cutI l0 60) : List Int)).bind fun y217 => (if y217.length < 140737488355328 then ((marigraphlaw2_order.f k (y217 ++ [255]) (cutI l0 60)).bind fun t223 => (if t223 = true then ((marigraphbook_Intact_byte.f k t203 (cutI l0 60) 165).bind fun t224 => (if t224 = true then ((marigraphlaw2_known.f k).bind fun t225 => (some t225)) else (some false))) else (some false))) else (none))) else (none))) else (some false))) else (some false)))) else (some false))) else (none)) else (none))
theorem marigraphlaw2_OctetTells.mono : ∀ a0 a1 a2 a3 k, LeO (marigraphlaw2_OctetTells.f k a0 a1 a2 a3) (marigraphlaw2_OctetTells.f (k + 1) a0 a1 a2 a3) := by
 intro a0 a1 a2 a3 k
 unfold marigraphlaw2_OctetTells.f
 repeat' first
   | (with_reducible exact marigraphbook_Intact_byte.mono _ _ _ _)
   | (with_reducible exact marigraphbook_Within.mono _ _ _ _)
   | (with_reducible exact marigraphlaw2_known.mono _)
   | (with_reducible exact marigraphlaw2_lays.mono _ _ _ _)
   | (with_reducible exact marigraphlaw2_order.mono _ _ _)
   | (with_reducible exact LeO.refl _)
   | (with_reducible exact LeO.none _)
   | (with_reducible refine LeO.ite ?_ ?_)
   | (with_reducible refine LeO.bind ?_ (fun _ => ?_))
   | exact marigraphbook_Intact_byte.mono _ _ _ _
   | exact marigraphbook_Within.mono _ _ _ _
   | exact marigraphlaw2_known.mono _
   | exact marigraphlaw2_lays.mono _ _ _ _
   | exact marigraphlaw2_order.mono _ _ _
   | exact LeO.none _
   | refine LeO.ite ?_ ?_
   | refine LeO.bind ?_ (fun _ => ?_)
set_option maxHeartbeats 8000000 in
set_option maxRecDepth 100000 in
theorem marigraphlaw2_OctetTells.calls (k : Nat) (A0 : Option Addr) (c0 : Nat) (l0 : List Int) (A1 : Option Addr) (c1 : Nat) (l1 : List Int) (a2 : Int) (a3 : Int) (r : Bool) (w : World) (hr0 : Kd.C (Kd.int .u8) w A0 l0.length l0) (hc0 : l0.length ≤ c0) (hr1 : Kd.C (Kd.int .u8) w A1 l1.length l1) (hc1 : l1.length ≤ c1) (h : marigraphlaw2_OctetTells.f k l0 l1 a2 a3 = some r) :
  Calls Try.prog 4 #[.slice A0 l0.length c0, .slice A1 l1.length c1, .int .u64 a2, .int .i64 a3] w fun e w' => e = .returned (.bool r) ∧ Below w.heap.size w w' := by
 have HR0 := Aside0.mk hr0
 have HC0 := Aside0.mk hc0
 clear hr0 hc0
 have HR1 := Aside0.mk hr1
 have HC1 := Aside0.mk hc1
 clear hr1 hc1
 have HB := Aside0.mk (Below.refl w.heap.size w)
 have H : ((marigraphbook_Roomy_byte.f (cutI l0 60) 165).bind fun t203 => (if 0 ≤ ((cutI l0 60).length : Int) then (if ((cutI l0 60).length : Int) ≤ (t203.length : Int) then ((marigraphlaw2_lays.f k (t203.take (((cutI l0 60).length : Int) : Int).toNat) a2 a3).bind fun t210 => (if t210 = true then ((marigraphbook_Within.f k a3 0 8).bind fun t211 => ((marigraphlaw2_lays.f k (cutI l0 60) a2 t211).bind fun t212 => (if t212 = true then ((marigraphlaw2_order.f k (cutI l0 60) (cutI l1 60)).bind fun t213 => (if t213 = true then ((some (([] : List Int) : List Int)).bind fun y214 => (if y214.length + (cutI l0 60).length < 140737488355328 then ((some (y214 ++ (cutI l0 60) : List Int)).bind fun y217 => (if y217.length < 140737488355328 then ((marigraphlaw2_order.f k (y217 ++ [255]) (cutI l0 60)).bind fun t223 => (if t223 = true then ((marigraphbook_Intact_byte.f k t203 (cutI l0 60) 165).bind fun t224 => (if t224 = true then ((marigraphlaw2_known.f k).bind fun t225 => (some t225)) else (some false))) else (some false))) else (none))) else (none))) else (some false))) else (some false)))) else (some false))) else (none)) else (none))) = some r := h
 clear h
 replace H := Option.bind_eq_some_iff.mp H
 obtain ⟨t203, A50, H⟩ := H
 replace H : (if 0 ≤ ((cutI l0 60).length : Int) then (if ((cutI l0 60).length : Int) ≤ (t203.length : Int) then ((marigraphlaw2_lays.f k (t203.take (((cutI l0 60).length : Int) : Int).toNat) a2 a3).bind fun t210 => (if t210 = true then ((marigraphbook_Within.f k a3 0 8).bind fun t211 => ((marigraphlaw2_lays.f k (cutI l0 60) a2 t211).bind fun t212 => (if t212 = true then ((marigraphlaw2_order.f k (cutI l0 60) (cutI l1 60)).bind fun t213 => (if t213 = true then ((some (([] : List Int) : List Int)).bind fun y214 => (if y214.length + (cutI l0 60).length < 140737488355328 then ((some (y214 ++ (cutI l0 60) : List Int)).bind fun y217 => (if y217.length < 140737488355328 then ((marigraphlaw2_order.f k (y217 ++ [255]) (cutI l0 60)).bind fun t223 => (if t223 = true then ((marigraphbook_Intact_byte.f k t203 (cutI l0 60) 165).bind fun t224 => (if t224 = true then ((marigraphlaw2_known.f k).bind fun t225 => (some t225)) else (some false))) else (some false))) else (none))) else (none))) else (some false))) else (some false)))) else (some false))) else (none)) else (none)) = some r := H
 have A5 := Aside0.mk A50
 clear A50
 by_cases c6 : 0 ≤ ((cutI l0 60).length : Int)
 ·rw [if_pos c6] at H
  have c6b0 := eq_true c6
  have c6b1 : decide (0 ≤ ((cutI l0 60).length : Int)) = true := decide_eq_true c6
  clear c6
  by_cases c7 : ((cutI l0 60).length : Int) ≤ (t203.length : Int)
  ·rw [if_pos c7] at H
   have c7b0 := eq_true c7
   have c7b1 : decide (((cutI l0 60).length : Int) ≤ (t203.length : Int)) = true := decide_eq_true c7
   clear c7
   obtain ⟨y206, hy206⟩ : ∃ y_ : List Int, y_ = (t203.take (((cutI l0 60).length : Int) : Int).toNat) := ⟨_, rfl⟩
   replace H : ((marigraphlaw2_lays.f k y206 a2 a3).bind fun t210 => (if t210 = true then ((marigraphbook_Within.f k a3 0 8).bind fun t211 => ((marigraphlaw2_lays.f k (cutI l0 60) a2 t211).bind fun t212 => (if t212 = true then ((marigraphlaw2_order.f k (cutI l0 60) (cutI l1 60)).bind fun t213 => (if t213 = true then ((some (([] : List Int) : List Int)).bind fun y214 => (if y214.length + (cutI l0 60).length < 140737488355328 then ((some (y214 ++ (cutI l0 60) : List Int)).bind fun y217 => (if y217.length < 140737488355328 then ((marigraphlaw2_order.f k (y217 ++ [255]) (cutI l0 60)).bind fun t223 => (if t223 = true then ((marigraphbook_Intact_byte.f k t203 (cutI l0 60) 165).bind fun t224 => (if t224 = true then ((marigraphlaw2_known.f k).bind fun t225 => (some t225)) else (some false))) else (some false))) else (none))) else (none))) else (some false))) else (some false)))) else (some false))) = some r := by first | (rw [hy206]; with_reducible exact H) | (have H2_ := (Option.bind_some _ _).symm.trans H; rw [hy206]; with_reducible exact H2_) | (have H2_ := (Option.bind_some _ _).symm.trans H; with_reducible exact H2_) | with_reducible exact H | (rw [hy206]; exact H) | exact H
   have Ny206 := Aside0.mk hy206
   clear hy206
   replace H := Option.bind_eq_some_iff.mp H
   obtain ⟨t210, A80, H⟩ := H
   replace H : (if t210 = true then ((marigraphbook_Within.f k a3 0 8).bind fun t211 => ((marigraphlaw2_lays.f k (cutI l0 60) a2 t211).bind fun t212 => (if t212 = true then ((marigraphlaw2_order.f k (cutI l0 60) (cutI l1 60)).bind fun t213 => (if t213 = true then ((some (([] : List Int) : List Int)).bind fun y214 => (if y214.length + (cutI l0 60).length < 140737488355328 then ((some (y214 ++ (cutI l0 60) : List Int)).bind fun y217 => (if y217.length < 140737488355328 then ((marigraphlaw2_order.f k (y217 ++ [255]) (cutI l0 60)).bind fun t223 => (if t223 = true then ((marigraphbook_Intact_byte.f k t203 (cutI l0 60) 165).bind fun t224 => (if t224 = true then ((marigraphlaw2_known.f k).bind fun t225 => (some t225)) else (some false))) else (some false))) else (none))) else (none))) else (some false))) else (some false)))) else (some false)) = some r := H
   have A8 := Aside0.mk A80
   clear A80
   by_cases c9 : t210 = true
   ·subst c9
    have H1 : ((marigraphbook_Within.f k a3 0 8).bind fun t211 => ((marigraphlaw2_lays.f k (cutI l0 60) a2 t211).bind fun t212 => (if t212 = true then ((marigraphlaw2_order.f k (cutI l0 60) (cutI l1 60)).bind fun t213 => (if t213 = true then ((some (([] : List Int) : List Int)).bind fun y214 => (if y214.length + (cutI l0 60).length < 140737488355328 then ((some (y214 ++ (cutI l0 60) : List Int)).bind fun y217 => (if y217.length < 140737488355328 then ((marigraphlaw2_order.f k (y217 ++ [255]) (cutI l0 60)).bind fun t223 => (if t223 = true then ((marigraphbook_Intact_byte.f k t203 (cutI l0 60) 165).bind fun t224 => (if t224 = true then ((marigraphlaw2_known.f k).bind fun t225 => (some t225)) else (some false))) else (some false))) else (none))) else (none))) else (some false))) else (some false)))) = some r := by rw [if_pos rfl] at H; exact H
    clear H
    have H := H1
    clear H1
    replace H := Option.bind_eq_some_iff.mp H
    obtain ⟨t211, A100, H⟩ := H
    replace H : ((marigraphlaw2_lays.f k (cutI l0 60) a2 t211).bind fun t212 => (if t212 = true then ((marigraphlaw2_order.f k (cutI l0 60) (cutI l1 60)).bind fun t213 => (if t213 = true then ((some (([] : List Int) : List Int)).bind fun y214 => (if y214.length + (cutI l0 60).length < 140737488355328 then ((some (y214 ++ (cutI l0 60) : List Int)).bind fun y217 => (if y217.length < 140737488355328 then ((marigraphlaw2_order.f k (y217 ++ [255]) (cutI l0 60)).bind fun t223 => (if t223 = true then ((marigraphbook_Intact_byte.f k t203 (cutI l0 60) 165).bind fun t224 => (if t224 = true then ((marigraphlaw2_known.f k).bind fun t225 => (some t225)) else (some false))) else (some false))) else (none))) else (none))) else (some false))) else (some false))) = some r := H
    have A10 := Aside0.mk A100
    clear A100
    replace H := Option.bind_eq_some_iff.mp H
    obtain ⟨t212, A110, H⟩ := H
    replace H : (if t212 = true then ((marigraphlaw2_order.f k (cutI l0 60) (cutI l1 60)).bind fun t213 => (if t213 = true then ((some (([] : List Int) : List Int)).bind fun y214 => (if y214.length + (cutI l0 60).length < 140737488355328 then ((some (y214 ++ (cutI l0 60) : List Int)).bind fun y217 => (if y217.length < 140737488355328 then ((marigraphlaw2_order.f k (y217 ++ [255]) (cutI l0 60)).bind fun t223 => (if t223 = true then ((marigraphbook_Intact_byte.f k t203 (cutI l0 60) 165).bind fun t224 => (if t224 = true then ((marigraphlaw2_known.f k).bind fun t225 => (some t225)) else (some false))) else (some false))) else (none))) else (none))) else (some false))) else (some false)) = some r := H
    have A11 := Aside0.mk A110
    clear A110
    by_cases c12 : t212 = true
    ·subst c12
     have H1 : ((marigraphlaw2_order.f k (cutI l0 60) (cutI l1 60)).bind fun t213 => (if t213 = true then ((some (([] : List Int) : List Int)).bind fun y214 => (if y214.length + (cutI l0 60).length < 140737488355328 then ((some (y214 ++ (cutI l0 60) : List Int)).bind fun y217 => (if y217.length < 140737488355328 then ((marigraphlaw2_order.f k (y217 ++ [255]) (cutI l0 60)).bind fun t223 => (if t223 = true then ((marigraphbook_Intact_byte.f k t203 (cutI l0 60) 165).bind fun t224 => (if t224 = true then ((marigraphlaw2_known.f k).bind fun t225 => (some t225)) else (some false))) else (some false))) else (none))) else (none))) else (some false))) = some r := by rw [if_pos rfl] at H; exact H
     clear H
     have H := H1
     clear H1
     replace H := Option.bind_eq_some_iff.mp H
     obtain ⟨t213, A130, H⟩ := H
     replace H : (if t213 = true then ((some (([] : List Int) : List Int)).bind fun y214 => (if y214.length + (cutI l0 60).length < 140737488355328 then ((some (y214 ++ (cutI l0 60) : List Int)).bind fun y217 => (if y217.length < 140737488355328 then ((marigraphlaw2_order.f k (y217 ++ [255]) (cutI l0 60)).bind fun t223 => (if t223 = true then ((marigraphbook_Intact_byte.f k t203 (cutI l0 60) 165).bind fun t224 => (if t224 = true then ((marigraphlaw2_known.f k).bind fun t225 => (some t225)) else (some false))) else (some false))) else (none))) else (none))) else (some false)) = some r := H
     have A13 := Aside0.mk A130
     clear A130
     by_cases c14 : t213 = true
     ·subst c14
      have H1 : ((some (([] : List Int) : List Int)).bind fun y214 => (if y214.length + (cutI l0 60).length < 140737488355328 then ((some (y214 ++ (cutI l0 60) : List Int)).bind fun y217 => (if y217.length < 140737488355328 then ((marigraphlaw2_order.f k (y217 ++ [255]) (cutI l0 60)).bind fun t223 => (if t223 = true then ((marigraphbook_Intact_byte.f k t203 (cutI l0 60) 165).bind fun t224 => (if t224 = true then ((marigraphlaw2_known.f k).bind fun t225 => (some t225)) else (some false))) else (some false))) else (none))) else (none))) = some r := by rw [if_pos rfl] at H; exact H
      clear H
      have H := H1
      clear H1
      obtain ⟨y214, hy214⟩ : ∃ y_ : List Int, y_ = (([] : List Int)) := ⟨_, rfl⟩
      replace H : (if y214.length + (cutI l0 60).length < 140737488355328 then ((some (y214 ++ (cutI l0 60) : List Int)).bind fun y217 => (if y217.length < 140737488355328 then ((marigraphlaw2_order.f k (y217 ++ [255]) (cutI l0 60)).bind fun t223 => (if t223 = true then ((marigraphbook_Intact_byte.f k t203 (cutI l0 60) 165).bind fun t224 => (if t224 = true then ((marigraphlaw2_known.f k).bind fun t225 => (some t225)) else (some false))) else (some false))) else (none))) else (none)) = some r := by first | (rw [hy214]; with_reducible exact H) | (have H2_ := (Option.bind_some _ _).symm.trans H; rw [hy214]; with_reducible exact H2_) | (have H2_ := (Option.bind_some _ _).symm.trans H; with_reducible exact H2_) | with_reducible exact H | (rw [hy214]; exact H) | exact H
      have Ny214 := Aside0.mk hy214
      clear hy214
      by_cases c15 : y214.length + (cutI l0 60).length < 140737488355328
      ·rw [if_pos c15] at H
       have LMc15 := Aside0.mk c15
       clear c15
       obtain ⟨y217, hy217⟩ : ∃ y_ : List Int, y_ = (y214 ++ (cutI l0 60)) := ⟨_, rfl⟩
       replace H : (if y217.length < 140737488355328 then ((marigraphlaw2_order.f k (y217 ++ [255]) (cutI l0 60)).bind fun t223 => (if t223 = true then ((marigraphbook_Intact_byte.f k t203 (cutI l0 60) 165).bind fun t224 => (if t224 = true then ((marigraphlaw2_known.f k).bind fun t225 => (some t225)) else (some false))) else (some false))) else (none)) = some r := by first | (rw [hy217]; with_reducible exact H) | (have H2_ := (Option.bind_some _ _).symm.trans H; rw [hy217]; with_reducible exact H2_) | (have H2_ := (Option.bind_some _ _).symm.trans H; with_reducible exact H2_) | with_reducible exact H | (rw [hy217]; exact H) | exact H
       have Ny217 := Aside0.mk hy217
       clear hy217
       by_cases c16 : y217.length < 140737488355328
       ·rw [if_pos c16] at H
        have LMc16 := Aside0.mk c16
        clear c16
        obtain ⟨y220, hy220⟩ : ∃ y_ : List Int, y_ = (y217 ++ [255]) := ⟨_, rfl⟩
        replace H : ((marigraphlaw2_order.f k y220 (cutI l0 60)).bind fun t223 => (if t223 = true then ((marigraphbook_Intact_byte.f k t203 (cutI l0 60) 165).bind fun t224 => (if t224 = true then ((marigraphlaw2_known.f k).bind fun t225 => (some t225)) else (some false))) else (some false))) = some r := by first | (rw [hy220]; with_reducible exact H) | (have H2_ := (Option.bind_some _ _).symm.trans H; rw [hy220]; with_reducible exact H2_) | (have H2_ := (Option.bind_some _ _).symm.trans H; with_reducible exact H2_) | with_reducible exact H | (rw [hy220]; exact H) | exact H
        have Ny220 := Aside0.mk hy220
        clear hy220
        replace H := Option.bind_eq_some_iff.mp H
        obtain ⟨t223, A170, H⟩ := H
        replace H : (if t223 = true then ((marigraphbook_Intact_byte.f k t203 (cutI l0 60) 165).bind fun t224 => (if t224 = true then ((marigraphlaw2_known.f k).bind fun t225 => (some t225)) else (some false))) else (some false)) = some r := H
        have A17 := Aside0.mk A170
        clear A170
        by_cases c18 : t223 = true
        ·subst c18
         have H1 : ((marigraphbook_Intact_byte.f k t203 (cutI l0 60) 165).bind fun t224 => (if t224 = true then ((marigraphlaw2_known.f k).bind fun t225 => (some t225)) else (some false))) = some r := by rw [if_pos rfl] at H; exact H
         clear H
         have H := H1
         clear H1
         replace H := Option.bind_eq_some_iff.mp H
         obtain ⟨t224, A190, H⟩ := H
         replace H : (if t224 = true then ((marigraphlaw2_known.f k).bind fun t225 => (some t225)) else (some false)) = some r := H
         have A19 := Aside0.mk A190
         clear A190
         by_cases c20 : t224 = true
         ·subst c20
          have H1 : ((marigraphlaw2_known.f k).bind fun t225 => (some t225)) = some r := by rw [if_pos rfl] at H; exact H
          clear H
          have H := H1
          clear H1
          replace H := Option.bind_eq_some_iff.mp H
          obtain ⟨t225, A210, H⟩ := H
          replace H : (some t225) = some r := H
          have A21 := Aside0.mk A210
          clear A210
          obtain rfl := Option.some.inj H
          have HR201 := Aside0.mk (cutI_C (n := 60) HR0.out)
          have HC201 := Aside0.mk (cutI_le (n := 60) HC0.out)
          go_enter Try.func4, Try.ntmps4
          go_wp2_with (first | ((with_reducible refine gate_callee (f := 8) rfl ?_); refine goesL_ (some 11) rfl rfl Try.func8 (by kernel_rfl) rfl #[.slice A0 l0.length c0, .int .i64 60] rfl (by (try simp only [List.map_toArray, List.map_cons, List.map_nil]); first | done | rfl) ?_; (with_reducible refine (marigraphkeep_Cut.callsR A0 c0 l0 60 60 _ HC0.out rfl).mono ?_); rintro e w' ⟨rfl, ⟨nd, rfl⟩⟩; refine ⟨_, rfl, ?_⟩; have HR202 := Aside0.mk (cutI_C (n := 60) HR1.out); have HC202 := Aside0.mk (cutI_le (n := 60) HC1.out)) | ((with_reducible refine gate_callee (f := 8) rfl ?_); refine goesL_ (some 13) rfl rfl Try.func8 (by kernel_rfl) rfl #[.slice A1 l1.length c1, .int .i64 60] rfl (by (try simp only [List.map_toArray, List.map_cons, List.map_nil]); first | done | rfl) ?_; (with_reducible refine (marigraphkeep_Cut.callsR A1 c1 l1 60 60 _ HC1.out rfl).mono ?_); rintro e w' ⟨rfl, ⟨nd, rfl⟩⟩; refine ⟨_, rfl, ?_⟩) | ((with_reducible refine gate_callee (f := 9) rfl ?_); refine goesL_ (some 15) rfl rfl Try.func9 (by kernel_rfl) rfl #[.slice A0 (cutI l0 60).length c0, .int .u8 165] rfl argN ?_; (with_reducible refine (marigraphbook_Roomy_byte.calls _ _ (cutI l0 60) 165 t203 _ ?side1 ?side2 A5.out).mono ?_); (case side1 => repeat (first | exact HR201.out | (with_reducible refine Kd.C_alloc ?_ _) | (with_reducible refine Kd.C_drewN ?_ _) | (with_reducible refine Kd.C_drew ?_))); (case side2 => exact HC201.out); rintro e w22 ⟨v204, rfl, ho0, hb⟩; refine ⟨_, rfl, ?_⟩; have n0_ := Aside0.mk (Kd.R_lower ho0 (below_size (belN HB.out))); have n1_ := Aside0.mk (below_step (belN HB.out) hb); clear HB; have HO205 := n0_; have HB := n1_; clear n0_ n1_; (try clear hb); (try clear hk); (try clear ho0); obtain ⟨Ao24, co24, eo24⟩ := Kd.R_slice HO205.out; subst eo24; have q23 : (((cutI l0 60).length : Int) : Int) ≤ ((t203.length : Int) : Int) := of_decide_eq_true (by first | (with_reducible assumption) | assumption); obtain ⟨i023, hi023, _, hsz23, _⟩ := info_parts info5; have hroom23 : t203.length ≤ co24 := (Kd.R_reads' HO205.out).2.1; have hC23 : Kd.C (Kd.int .u8) _ Ao24 t203.length t203 := (Kd.R_reads' HO205.out).2.2; have hcut23 := cut_to (P := Try.prog) 30 5 .i64 Try.underlying30 hi023 Ao24 t203.length co24 ((cutI l0 60).length : Int) (of_decide_eq_true (by first | (with_reducible assumption) | assumption)) q23 hroom23; have hr23 := Kd.C_take (m := (((cutI l0 60).length : Int) : Int).toNat) hC23 (by omega); have hy23 : y206.length = (((cutI l0 60).length : Int) : Int).toNat := (by rw [Ny206.out, List.length_take]; omega); rw [← Ny206.out] at hr23; rw [← hy23] at hcut23; have HR209 := Aside0.mk hr23; have HC209 := Aside0.mk (show y206.length ≤ co24 from by omega); clear hr23 hC23 hroom23 hi023 hsz23; have KY23 := Aside0.mk hy23; clear hy23; have KL23 := Aside0.mk (show (((cutI l0 60).length : Int) : Int).toNat ≤ t203.length from by omega); replace q23 := eq_true q23) | ((with_reducible refine gate_callee (f := 10) rfl ?_); refine goesL_ (some 22) rfl rfl Try.func10 (by kernel_rfl) rfl #[.slice Ao24 y206.length co24, .int .u64 a2, .int .i64 a3] rfl argN ?_; (with_reducible refine (marigraphlaw2_lays.calls k _ _ y206 a2 a3 true _ ?side1 ?side2 A8.out).mono ?_); (case side1 => repeat (first | exact (by repeat (first | (with_reducible exact HR209.out) | (with_reducible refine Kd.C_alloc ?_ _) | (with_reducible refine Kd.C_drewN ?_ _) | (with_reducible refine Kd.C_drew ?_) | exact HR209.out)) | (with_reducible refine Kd.C_alloc ?_ _) | (with_reducible refine Kd.C_drewN ?_ _) | (with_reducible refine Kd.C_drew ?_))); (case side2 => exact HC209.out); rintro e w25 ⟨rfl, hb⟩; refine ⟨_, rfl, ?_⟩; have n0_ := Aside0.mk (Kd.R_below (rowN HO205.out) hb); have n1_ := Aside0.mk (cbN HR209.out hb); have n2_ := Aside0.mk (below_step (belN HB.out) hb); clear HO205; clear HR209; clear HB; have HO205 := n0_; have HR209 := n1_; have HB := n2_; clear n0_ n1_ n2_; (try clear hb); (try clear hk)) | (go_at_call 5; (with_reducible refine (marigraphbook_Within.calls k a3 0 8 t211 _ A10.out).mono ?_); rintro e w' ⟨rfl, ⟨nd, rfl⟩⟩) | (go_at_call 10; (with_reducible refine (marigraphlaw2_lays.calls k _ _ (cutI l0 60) a2 t211 true _ ?side1 ?side2 A11.out).mono ?_); (case side1 => repeat (first | exact (Kd.C_below HR201.out (belN HB.out)) | (with_reducible refine Kd.C_alloc ?_ _) | (with_reducible refine Kd.C_drewN ?_ _) | (with_reducible refine Kd.C_drew ?_))); (case side2 => exact HC201.out); rintro e w26 ⟨rfl, hb⟩; have n0_ := Aside0.mk (Kd.R_below (rowN HO205.out) hb); have n1_ := Aside0.mk (cbN HR209.out hb); have n2_ := Aside0.mk (below_step (belN HB.out) hb); clear HO205; clear HR209; clear HB; have HO205 := n0_; have HR209 := n1_; have HB := n2_; clear n0_ n1_ n2_; (try clear hb); (try clear hk)) | (go_at_call 11; (with_reducible refine (marigraphlaw2_order.calls k _ _ (cutI l0 60) _ _ (cutI l1 60) true _ ?side1 ?side2 ?side3 ?side4 A13.out).mono ?_); (case side1 => repeat (first | exact (Kd.C_below HR201.out HB.out) | (with_reducible refine Kd.C_alloc ?_ _) | (with_reducible refine Kd.C_drewN ?_ _) | (with_reducible refine Kd.C_drew ?_))); (case side2 => exact HC201.out); (case side3 => repeat (first | exact (Kd.C_below HR202.out HB.out) | (with_reducible refine Kd.C_alloc ?_ _) | (with_reducible refine Kd.C_drewN ?_ _) | (with_reducible refine Kd.C_drew ?_))); (case side4 => exact HC202.out); rintro e w27 ⟨rfl, hb⟩; have n0_ := Aside0.mk (Kd.R_below (rowN HO205.out) hb); have n1_ := Aside0.mk (cbN HR209.out hb); have n2_ := Aside0.mk (below_step (belN HB.out) hb); clear HO205; clear HR209; clear HB; have HO205 := n0_; have HR209 := n1_; have HB := n2_; clear n0_ n1_ n2_; (try clear hb); (try clear hk)) | ((with_reducible refine gate_dst (N := 36) rfl ?_); (try (refine gate_guard (by rfl) ?_; dsimp only)); refine Kd.R_lit (Kd.int .u8) _ 5 ?hg (N := 36) ?hd (xs := ([] : List Int)) (inner := []) (ok := fun _ => True) (okp := fun _ => True) ?hr ?hp (fun _ hk => hk) trivial (Below.refl _ _) (Nat.le_refl _) (by simp) ?_; (case hd => rfl); (case hg => rfl); (case hr => first | (go_simp; done) | (go_simp; rfl)); (case hp => exact (Reps.none _ _)); intro v215 w28 ho29 hb hg_ hnew_; clear hg_ hnew_; (first | rw [← Ny214.out] at ho29 | (simp only [Int.reduceToNat] at ho29; rw [← Ny214.out] at ho29)); have n0_ := Aside0.mk (Kd.R_elder' (rowN HO205.out) (Kd.R_base ho29) hb); have n1_ := Aside0.mk (Kd.R_lower (Kd.R_new' ho29 (Kd.R_lt (rowN HO205.out))) (below_size (belN HB.out))); have n2_ := Aside0.mk (cbN HR209.out hb); have n3_ := Aside0.mk (below_step (belN HB.out) hb); clear HO205; clear HR209; clear HB; have HO205 := n0_; have HO216 := n1_; have HR209 := n2_; have HB := n3_; clear n0_ n1_ n2_ n3_; clear hb ho29) | ((with_reducible refine gate_builtin (b := .append) (xs := #[.tmp 36, .tmp 37]) rfl ?_); (try (refine gate_guard (by rfl) ?_; dsimp only)); at_builtin; refine Kd.R_append_rows (Kd.int .u8) (w0 := w) w.heap.size rfl (.tmp 36) (.tmp 37) 30 5 (.int .u8 0) 1 rfl Try.underlying30 info5 rfl (by decide) (by omega) v215 y214 (cutI l0 60) _ _ _ (fun k_ => some k_ ≠ (.slice Ao24 t203.length co24 : Value).ownBlock) (fun _ => False) rfl rfl ?aO ?aR (fun _ _ h => h) (fun _ h => h.elim) ?aF ?aB ?aS ?aL ?_; (case aR => repeat (first | exact (Kd.C_below HR201.out HB.out) | (with_reducible refine Kd.C_alloc ?_ _) | (with_reducible refine Kd.C_drewN ?_ _) | (with_reducible refine Kd.C_drew ?_))); (case aB => exact (belN HB.out)); (case aF => exact (fun k_ hk => Kd.fresh' (Kd.R_lt (rowN HO205.out)) k_ hk)); (case aO => exact (by (with_reducible repeat (first | apply Kd.R_alloc | apply Kd.R_drewN | apply Kd.R_drew)); exact Kd.R_mono HO216.out (fun _ hk => hk.2))); (case aS => exact (below_size (belN HB.out))); (case aL => have := LMc15.out; omega); intro v218 w30 ho hb hg hat; rw [← Ny217.out] at ho; have n0_ := Aside0.mk (Kd.R_after (ok := (fun _ => True)) (rowN HO205.out) hg hat); have n1_ := Aside0.mk (hb); have n2_ := Aside0.mk ((show Kd.C (Kd.int .u8) w30 Ao24 y206.length y206 from by rw [Ny206.out]; exact Kd.C_take (m := (((cutI l0 60).length : Int) : Int).toNat) ((Kd.R_reads' (Kd.R_after (ok := (fun _ => True)) (rowN HO205.out) hg hat)).2.2) KL23.out)); have n3_ := Aside0.mk (ho); clear HO205; clear HB; clear HR209; clear HO216; have HO205 := n0_; have HB := n1_; have HR209 := n2_; have HO219 := n3_; clear n0_ n1_ n2_ n3_; clear ho hb hg hat) | ((with_reducible refine gate_builtin (b := .append) (xs := #[.tmp 38, .tmp 39]) rfl ?_); (try (refine gate_guard (by rfl) ?_; dsimp only)); at_builtin; refine Kd.R_append (Kd.int .u8) (w0 := w) w.heap.size rfl (.tmp 38) (.tmp 39) 30 5 (.int .u8 0) 1 rfl Try.underlying30 info5 rfl (by decide) (by omega) v218 y217 255 [.int .u8 255] (fun k_ => some k_ ≠ (.slice Ao24 t203.length co24 : Value).ownBlock) (fun _ => False) rfl rfl ?aP (fun _ hk => hk.elim) ?aF ?aO ?aB ?aS ?aL ?_; (case aP => exact rfl); (case aB => exact (belN HB.out)); (case aF => exact (fun k_ hk => Kd.fresh' (Kd.R_lt (rowN HO205.out)) k_ hk)); (case aO => exact (rowN HO219.out)); (case aS => exact (below_size (belN HB.out))); (case aL => have := LMc16.out; omega); intro v221 w31 ho hb hg hat; rw [← Ny220.out] at ho; have n0_ := Aside0.mk (Kd.R_after (ok := (fun _ => True)) (rowN HO205.out) hg hat); have n1_ := Aside0.mk (hb); have n2_ := Aside0.mk ((show Kd.C (Kd.int .u8) w31 Ao24 y206.length y206 from by rw [Ny206.out]; exact Kd.C_take (m := (((cutI l0 60).length : Int) : Int).toNat) ((Kd.R_reads' (Kd.R_after (ok := (fun _ => True)) (rowN HO205.out) hg hat)).2.2) KL23.out)); have n3_ := Aside0.mk (ho); clear HO205; clear HB; clear HR209; clear HO219; have HO205 := n0_; have HB := n1_; have HR209 := n2_; have HO222 := n3_; clear n0_ n1_ n2_ n3_; clear ho hb hg hat; obtain ⟨Ao32, co32, eo32⟩ := Kd.R_slice HO222.out; subst eo32) | (go_at_call 11; (with_reducible refine (marigraphlaw2_order.calls k _ _ y220 _ _ (cutI l0 60) true _ ?side1 ?side2 ?side3 ?side4 A17.out).mono ?_); (case side1 => repeat (first | exact (Kd.R_reads' HO222.out).2.2 | (with_reducible refine Kd.C_alloc ?_ _) | (with_reducible refine Kd.C_drewN ?_ _) | (with_reducible refine Kd.C_drew ?_))); (case side2 => exact (Kd.R_reads' HO222.out).2.1); (case side3 => repeat (first | exact (Kd.C_below HR201.out HB.out) | (with_reducible refine Kd.C_alloc ?_ _) | (with_reducible refine Kd.C_drewN ?_ _) | (with_reducible refine Kd.C_drew ?_))); (case side4 => exact HC201.out); rintro e w33 ⟨rfl, hb⟩; have n0_ := Aside0.mk (Kd.R_below (rowN HO205.out) hb); have n1_ := Aside0.mk (Kd.R_below (rowN HO222.out) hb); have n2_ := Aside0.mk (cbN HR209.out hb); have n3_ := Aside0.mk (below_step (belN HB.out) hb); clear HO205; clear HO222; clear HR209; clear HB; have HO205 := n0_; have HO222 := n1_; have HR209 := n2_; have HB := n3_; clear n0_ n1_ n2_ n3_; (try clear hb); (try clear hk)) | (go_at_call 12; (with_reducible refine (marigraphbook_Intact_byte.calls k _ _ t203 _ _ (cutI l0 60) 165 true _ ?side1 ?side2 ?side3 ?side4 A19.out).mono ?_); (case side1 => repeat (first | exact (Kd.R_reads' HO205.out).2.2 | (with_reducible refine Kd.C_alloc ?_ _) | (with_reducible refine Kd.C_drewN ?_ _) | (with_reducible refine Kd.C_drew ?_))); (case side2 => exact (Kd.R_reads' HO205.out).2.1); (case side3 => repeat (first | exact (Kd.C_below HR201.out HB.out) | (with_reducible refine Kd.C_alloc ?_ _) | (with_reducible refine Kd.C_drewN ?_ _) | (with_reducible refine Kd.C_drew ?_))); (case side4 => exact HC201.out); rintro e w' ⟨rfl, ⟨nd, rfl⟩⟩) | (go_at_call 13; (with_reducible refine (marigraphlaw2_known.calls k  t225 _ A21.out).mono ?_); rintro e w34 ⟨rfl, hb⟩; have n0_ := Aside0.mk (Kd.R_below (rowN HO205.out) hb); have n1_ := Aside0.mk (Kd.R_below (rowN HO222.out) hb); have n2_ := Aside0.mk (cbN HR209.out hb); have n3_ := Aside0.mk (below_step (belN HB.out) hb); clear HO205; clear HO222; clear HR209; clear HB; have HO205 := n0_; have HO222 := n1_; have HR209 := n2_; have HB := n3_; clear n0_ n1_ n2_ n3_; (try clear hb); (try clear hk)))
          go_ret
          exact ⟨by first | rfl | (simp [errW_none, errW_some] <;> rfl) | (simp [*, errW_none, errW_some] <;> rfl), (belN HB.out)⟩
         ·replace c20 := Bool.eq_false_iff.mpr c20
          subst c20
          have H1 : (some false) = some r := by rw [if_neg (show ¬ (false = true) by decide)] at H; exact H
          clear H
          have H := H1
          clear H1
          obtain rfl := Option.some.inj H
          have HR201 := Aside0.mk (cutI_C (n := 60) HR0.out)
          have HC201 := Aside0.mk (cutI_le (n := 60) HC0.out)
          go_enter Try.func4, Try.ntmps4
          go_wp2_with (first | ((with_reducible refine gate_callee (f := 8) rfl ?_); refine goesL_ (some 11) rfl rfl Try.func8 (by kernel_rfl) rfl #[.slice A0 l0.length c0, .int .i64 60] rfl (by (try simp only [List.map_toArray, List.map_cons, List.map_nil]); first | done | rfl) ?_; (with_reducible refine (marigraphkeep_Cut.callsR A0 c0 l0 60 60 _ HC0.out rfl).mono ?_); rintro e w' ⟨rfl, ⟨nd, rfl⟩⟩; refine ⟨_, rfl, ?_⟩; have HR202 := Aside0.mk (cutI_C (n := 60) HR1.out); have HC202 := Aside0.mk (cutI_le (n := 60) HC1.out)) | ((with_reducible refine gate_callee (f := 8) rfl ?_); refine goesL_ (some 13) rfl rfl Try.func8 (by kernel_rfl) rfl #[.slice A1 l1.length c1, .int .i64 60] rfl (by (try simp only [List.map_toArray, List.map_cons, List.map_nil]); first | done | rfl) ?_; (with_reducible refine (marigraphkeep_Cut.callsR A1 c1 l1 60 60 _ HC1.out rfl).mono ?_); rintro e w' ⟨rfl, ⟨nd, rfl⟩⟩; refine ⟨_, rfl, ?_⟩) | ((with_reducible refine gate_callee (f := 9) rfl ?_); refine goesL_ (some 15) rfl rfl Try.func9 (by kernel_rfl) rfl #[.slice A0 (cutI l0 60).length c0, .int .u8 165] rfl argN ?_; (with_reducible refine (marigraphbook_Roomy_byte.calls _ _ (cutI l0 60) 165 t203 _ ?side1 ?side2 A5.out).mono ?_); (case side1 => repeat (first | exact HR201.out | (with_reducible refine Kd.C_alloc ?_ _) | (with_reducible refine Kd.C_drewN ?_ _) | (with_reducible refine Kd.C_drew ?_))); (case side2 => exact HC201.out); rintro e w35 ⟨v204, rfl, ho0, hb⟩; refine ⟨_, rfl, ?_⟩; have n0_ := Aside0.mk (Kd.R_lower ho0 (below_size (belN HB.out))); have n1_ := Aside0.mk (below_step (belN HB.out) hb); clear HB; have HO205 := n0_; have HB := n1_; clear n0_ n1_; (try clear hb); (try clear hk); (try clear ho0); obtain ⟨Ao37, co37, eo37⟩ := Kd.R_slice HO205.out; subst eo37; have q36 : (((cutI l0 60).length : Int) : Int) ≤ ((t203.length : Int) : Int) := of_decide_eq_true (by first | (with_reducible assumption) | assumption); obtain ⟨i036, hi036, _, hsz36, _⟩ := info_parts info5; have hroom36 : t203.length ≤ co37 := (Kd.R_reads' HO205.out).2.1; have hC36 : Kd.C (Kd.int .u8) _ Ao37 t203.length t203 := (Kd.R_reads' HO205.out).2.2; have hcut36 := cut_to (P := Try.prog) 30 5 .i64 Try.underlying30 hi036 Ao37 t203.length co37 ((cutI l0 60).length : Int) (of_decide_eq_true (by first | (with_reducible assumption) | assumption)) q36 hroom36; have hr36 := Kd.C_take (m := (((cutI l0 60).length : Int) : Int).toNat) hC36 (by omega); have hy36 : y206.length = (((cutI l0 60).length : Int) : Int).toNat := (by rw [Ny206.out, List.length_take]; omega); rw [← Ny206.out] at hr36; rw [← hy36] at hcut36; have HR209 := Aside0.mk hr36; have HC209 := Aside0.mk (show y206.length ≤ co37 from by omega); clear hr36 hC36 hroom36 hi036 hsz36; have KY36 := Aside0.mk hy36; clear hy36; have KL36 := Aside0.mk (show (((cutI l0 60).length : Int) : Int).toNat ≤ t203.length from by omega); replace q36 := eq_true q36) | ((with_reducible refine gate_callee (f := 10) rfl ?_); refine goesL_ (some 22) rfl rfl Try.func10 (by kernel_rfl) rfl #[.slice Ao37 y206.length co37, .int .u64 a2, .int .i64 a3] rfl argN ?_; (with_reducible refine (marigraphlaw2_lays.calls k _ _ y206 a2 a3 true _ ?side1 ?side2 A8.out).mono ?_); (case side1 => repeat (first | exact (by repeat (first | (with_reducible exact HR209.out) | (with_reducible refine Kd.C_alloc ?_ _) | (with_reducible refine Kd.C_drewN ?_ _) | (with_reducible refine Kd.C_drew ?_) | exact HR209.out)) | (with_reducible refine Kd.C_alloc ?_ _) | (with_reducible refine Kd.C_drewN ?_ _) | (with_reducible refine Kd.C_drew ?_))); (case side2 => exact HC209.out); rintro e w38 ⟨rfl, hb⟩; refine ⟨_, rfl, ?_⟩; have n0_ := Aside0.mk (Kd.R_below (rowN HO205.out) hb); have n1_ := Aside0.mk (cbN HR209.out hb); have n2_ := Aside0.mk (below_step (belN HB.out) hb); clear HO205; clear HR209; clear HB; have HO205 := n0_; have HR209 := n1_; have HB := n2_; clear n0_ n1_ n2_; (try clear hb); (try clear hk)) | (go_at_call 5; (with_reducible refine (marigraphbook_Within.calls k a3 0 8 t211 _ A10.out).mono ?_); rintro e w' ⟨rfl, ⟨nd, rfl⟩⟩) | (go_at_call 10; (with_reducible refine (marigraphlaw2_lays.calls k _ _ (cutI l0 60) a2 t211 true _ ?side1 ?side2 A11.out).mono ?_); (case side1 => repeat (first | exact (Kd.C_below HR201.out (belN HB.out)) | (with_reducible refine Kd.C_alloc ?_ _) | (with_reducible refine Kd.C_drewN ?_ _) | (with_reducible refine Kd.C_drew ?_))); (case side2 => exact HC201.out); rintro e w39 ⟨rfl, hb⟩; have n0_ := Aside0.mk (Kd.R_below (rowN HO205.out) hb); have n1_ := Aside0.mk (cbN HR209.out hb); have n2_ := Aside0.mk (below_step (belN HB.out) hb); clear HO205; clear HR209; clear HB; have HO205 := n0_; have HR209 := n1_; have HB := n2_; clear n0_ n1_ n2_; (try clear hb); (try clear hk)) | (go_at_call 11; (with_reducible refine (marigraphlaw2_order.calls k _ _ (cutI l0 60) _ _ (cutI l1 60) true _ ?side1 ?side2 ?side3 ?side4 A13.out).mono ?_); (case side1 => repeat (first | exact (Kd.C_below HR201.out HB.out) | (with_reducible refine Kd.C_alloc ?_ _) | (with_reducible refine Kd.C_drewN ?_ _) | (with_reducible refine Kd.C_drew ?_))); (case side2 => exact HC201.out); (case side3 => repeat (first | exact (Kd.C_below HR202.out HB.out) | (with_reducible refine Kd.C_alloc ?_ _) | (with_reducible refine Kd.C_drewN ?_ _) | (with_reducible refine Kd.C_drew ?_))); (case side4 => exact HC202.out); rintro e w40 ⟨rfl, hb⟩; have n0_ := Aside0.mk (Kd.R_below (rowN HO205.out) hb); have n1_ := Aside0.mk (cbN HR209.out hb); have n2_ := Aside0.mk (below_step (belN HB.out) hb); clear HO205; clear HR209; clear HB; have HO205 := n0_; have HR209 := n1_; have HB := n2_; clear n0_ n1_ n2_; (try clear hb); (try clear hk)) | ((with_reducible refine gate_dst (N := 36) rfl ?_); (try (refine gate_guard (by rfl) ?_; dsimp only)); refine Kd.R_lit (Kd.int .u8) _ 5 ?hg (N := 36) ?hd (xs := ([] : List Int)) (inner := []) (ok := fun _ => True) (okp := fun _ => True) ?hr ?hp (fun _ hk => hk) trivial (Below.refl _ _) (Nat.le_refl _) (by simp) ?_; (case hd => rfl); (case hg => rfl); (case hr => first | (go_simp; done) | (go_simp; rfl)); (case hp => exact (Reps.none _ _)); intro v215 w41 ho42 hb hg_ hnew_; clear hg_ hnew_; (first | rw [← Ny214.out] at ho42 | (simp only [Int.reduceToNat] at ho42; rw [← Ny214.out] at ho42)); have n0_ := Aside0.mk (Kd.R_elder' (rowN HO205.out) (Kd.R_base ho42) hb); have n1_ := Aside0.mk (Kd.R_lower (Kd.R_new' ho42 (Kd.R_lt (rowN HO205.out))) (below_size (belN HB.out))); have n2_ := Aside0.mk (cbN HR209.out hb); have n3_ := Aside0.mk (below_step (belN HB.out) hb); clear HO205; clear HR209; clear HB; have HO205 := n0_; have HO216 := n1_; have HR209 := n2_; have HB := n3_; clear n0_ n1_ n2_ n3_; clear hb ho42) | ((with_reducible refine gate_builtin (b := .append) (xs := #[.tmp 36, .tmp 37]) rfl ?_); (try (refine gate_guard (by rfl) ?_; dsimp only)); at_builtin; refine Kd.R_append_rows (Kd.int .u8) (w0 := w) w.heap.size rfl (.tmp 36) (.tmp 37) 30 5 (.int .u8 0) 1 rfl Try.underlying30 info5 rfl (by decide) (by omega) v215 y214 (cutI l0 60) _ _ _ (fun k_ => some k_ ≠ (.slice Ao37 t203.length co37 : Value).ownBlock) (fun _ => False) rfl rfl ?aO ?aR (fun _ _ h => h) (fun _ h => h.elim) ?aF ?aB ?aS ?aL ?_; (case aR => repeat (first | exact (Kd.C_below HR201.out HB.out) | (with_reducible refine Kd.C_alloc ?_ _) | (with_reducible refine Kd.C_drewN ?_ _) | (with_reducible refine Kd.C_drew ?_))); (case aB => exact (belN HB.out)); (case aF => exact (fun k_ hk => Kd.fresh' (Kd.R_lt (rowN HO205.out)) k_ hk)); (case aO => exact (by (with_reducible repeat (first | apply Kd.R_alloc | apply Kd.R_drewN | apply Kd.R_drew)); exact Kd.R_mono HO216.out (fun _ hk => hk.2))); (case aS => exact (below_size (belN HB.out))); (case aL => have := LMc15.out; omega); intro v218 w43 ho hb hg hat; rw [← Ny217.out] at ho; have n0_ := Aside0.mk (Kd.R_after (ok := (fun _ => True)) (rowN HO205.out) hg hat); have n1_ := Aside0.mk (hb); have n2_ := Aside0.mk ((show Kd.C (Kd.int .u8) w43 Ao37 y206.length y206 from by rw [Ny206.out]; exact Kd.C_take (m := (((cutI l0 60).length : Int) : Int).toNat) ((Kd.R_reads' (Kd.R_after (ok := (fun _ => True)) (rowN HO205.out) hg hat)).2.2) KL36.out)); have n3_ := Aside0.mk (ho); clear HO205; clear HB; clear HR209; clear HO216; have HO205 := n0_; have HB := n1_; have HR209 := n2_; have HO219 := n3_; clear n0_ n1_ n2_ n3_; clear ho hb hg hat) | ((with_reducible refine gate_builtin (b := .append) (xs := #[.tmp 38, .tmp 39]) rfl ?_); (try (refine gate_guard (by rfl) ?_; dsimp only)); at_builtin; refine Kd.R_append (Kd.int .u8) (w0 := w) w.heap.size rfl (.tmp 38) (.tmp 39) 30 5 (.int .u8 0) 1 rfl Try.underlying30 info5 rfl (by decide) (by omega) v218 y217 255 [.int .u8 255] (fun k_ => some k_ ≠ (.slice Ao37 t203.length co37 : Value).ownBlock) (fun _ => False) rfl rfl ?aP (fun _ hk => hk.elim) ?aF ?aO ?aB ?aS ?aL ?_; (case aP => exact rfl); (case aB => exact (belN HB.out)); (case aF => exact (fun k_ hk => Kd.fresh' (Kd.R_lt (rowN HO205.out)) k_ hk)); (case aO => exact (rowN HO219.out)); (case aS => exact (below_size (belN HB.out))); (case aL => have := LMc16.out; omega); intro v221 w44 ho hb hg hat; rw [← Ny220.out] at ho; have n0_ := Aside0.mk (Kd.R_after (ok := (fun _ => True)) (rowN HO205.out) hg hat); have n1_ := Aside0.mk (hb); have n2_ := Aside0.mk ((show Kd.C (Kd.int .u8) w44 Ao37 y206.length y206 from by rw [Ny206.out]; exact Kd.C_take (m := (((cutI l0 60).length : Int) : Int).toNat) ((Kd.R_reads' (Kd.R_after (ok := (fun _ => True)) (rowN HO205.out) hg hat)).2.2) KL36.out)); have n3_ := Aside0.mk (ho); clear HO205; clear HB; clear HR209; clear HO219; have HO205 := n0_; have HB := n1_; have HR209 := n2_; have HO222 := n3_; clear n0_ n1_ n2_ n3_; clear ho hb hg hat; obtain ⟨Ao45, co45, eo45⟩ := Kd.R_slice HO222.out; subst eo45) | (go_at_call 11; (with_reducible refine (marigraphlaw2_order.calls k _ _ y220 _ _ (cutI l0 60) true _ ?side1 ?side2 ?side3 ?side4 A17.out).mono ?_); (case side1 => repeat (first | exact (Kd.R_reads' HO222.out).2.2 | (with_reducible refine Kd.C_alloc ?_ _) | (with_reducible refine Kd.C_drewN ?_ _) | (with_reducible refine Kd.C_drew ?_))); (case side2 => exact (Kd.R_reads' HO222.out).2.1); (case side3 => repeat (first | exact (Kd.C_below HR201.out HB.out) | (with_reducible refine Kd.C_alloc ?_ _) | (with_reducible refine Kd.C_drewN ?_ _) | (with_reducible refine Kd.C_drew ?_))); (case side4 => exact HC201.out); rintro e w46 ⟨rfl, hb⟩; have n0_ := Aside0.mk (Kd.R_below (rowN HO205.out) hb); have n1_ := Aside0.mk (Kd.R_below (rowN HO222.out) hb); have n2_ := Aside0.mk (cbN HR209.out hb); have n3_ := Aside0.mk (below_step (belN HB.out) hb); clear HO205; clear HO222; clear HR209; clear HB; have HO205 := n0_; have HO222 := n1_; have HR209 := n2_; have HB := n3_; clear n0_ n1_ n2_ n3_; (try clear hb); (try clear hk)) | (go_at_call 12; (with_reducible refine (marigraphbook_Intact_byte.calls k _ _ t203 _ _ (cutI l0 60) 165 false _ ?side1 ?side2 ?side3 ?side4 A19.out).mono ?_); (case side1 => repeat (first | exact (Kd.R_reads' HO205.out).2.2 | (with_reducible refine Kd.C_alloc ?_ _) | (with_reducible refine Kd.C_drewN ?_ _) | (with_reducible refine Kd.C_drew ?_))); (case side2 => exact (Kd.R_reads' HO205.out).2.1); (case side3 => repeat (first | exact (Kd.C_below HR201.out HB.out) | (with_reducible refine Kd.C_alloc ?_ _) | (with_reducible refine Kd.C_drewN ?_ _) | (with_reducible refine Kd.C_drew ?_))); (case side4 => exact HC201.out); rintro e w' ⟨rfl, ⟨nd, rfl⟩⟩))
          go_ret
          exact ⟨by first | rfl | (simp [errW_none, errW_some] <;> rfl) | (simp [*, errW_none, errW_some] <;> rfl), (belN HB.out)⟩
        ·replace c18 := Bool.eq_false_iff.mpr c18
         subst c18
         have H1 : (some false) = some r := by rw [if_neg (show ¬ (false = true) by decide)] at H; exact H
         clear H
         have H := H1
         clear H1
         obtain rfl := Option.some.inj H
         have HR201 := Aside0.mk (cutI_C (n := 60) HR0.out)
         have HC201 := Aside0.mk (cutI_le (n := 60) HC0.out)
         go_enter Try.func4, Try.ntmps4
         go_wp2_with (first | ((with_reducible refine gate_callee (f := 8) rfl ?_); refine goesL_ (some 11) rfl rfl Try.func8 (by kernel_rfl) rfl #[.slice A0 l0.length c0, .int .i64 60] rfl (by (try simp only [List.map_toArray, List.map_cons, List.map_nil]); first | done | rfl) ?_; (with_reducible refine (marigraphkeep_Cut.callsR A0 c0 l0 60 60 _ HC0.out rfl).mono ?_); rintro e w' ⟨rfl, ⟨nd, rfl⟩⟩; refine ⟨_, rfl, ?_⟩; have HR202 := Aside0.mk (cutI_C (n := 60) HR1.out); have HC202 := Aside0.mk (cutI_le (n := 60) HC1.out)) | ((with_reducible refine gate_callee (f := 8) rfl ?_); refine goesL_ (some 13) rfl rfl Try.func8 (by kernel_rfl) rfl #[.slice A1 l1.length c1, .int .i64 60] rfl (by (try simp only [List.map_toArray, List.map_cons, List.map_nil]); first | done | rfl) ?_; (with_reducible refine (marigraphkeep_Cut.callsR A1 c1 l1 60 60 _ HC1.out rfl).mono ?_); rintro e w' ⟨rfl, ⟨nd, rfl⟩⟩; refine ⟨_, rfl, ?_⟩) | ((with_reducible refine gate_callee (f := 9) rfl ?_); refine goesL_ (some 15) rfl rfl Try.func9 (by kernel_rfl) rfl #[.slice A0 (cutI l0 60).length c0, .int .u8 165] rfl argN ?_; (with_reducible refine (marigraphbook_Roomy_byte.calls _ _ (cutI l0 60) 165 t203 _ ?side1 ?side2 A5.out).mono ?_); (case side1 => repeat (first | exact HR201.out | (with_reducible refine Kd.C_alloc ?_ _) | (with_reducible refine Kd.C_drewN ?_ _) | (with_reducible refine Kd.C_drew ?_))); (case side2 => exact HC201.out); rintro e w47 ⟨v204, rfl, ho0, hb⟩; refine ⟨_, rfl, ?_⟩; have n0_ := Aside0.mk (Kd.R_lower ho0 (below_size (belN HB.out))); have n1_ := Aside0.mk (below_step (belN HB.out) hb); clear HB; have HO205 := n0_; have HB := n1_; clear n0_ n1_; (try clear hb); (try clear hk); (try clear ho0); obtain ⟨Ao49, co49, eo49⟩ := Kd.R_slice HO205.out; subst eo49; have q48 : (((cutI l0 60).length : Int) : Int) ≤ ((t203.length : Int) : Int) := of_decide_eq_true (by first | (with_reducible assumption) | assumption); obtain ⟨i048, hi048, _, hsz48, _⟩ := info_parts info5; have hroom48 : t203.length ≤ co49 := (Kd.R_reads' HO205.out).2.1; have hC48 : Kd.C (Kd.int .u8) _ Ao49 t203.length t203 := (Kd.R_reads' HO205.out).2.2; have hcut48 := cut_to (P := Try.prog) 30 5 .i64 Try.underlying30 hi048 Ao49 t203.length co49 ((cutI l0 60).length : Int) (of_decide_eq_true (by first | (with_reducible assumption) | assumption)) q48 hroom48; have hr48 := Kd.C_take (m := (((cutI l0 60).length : Int) : Int).toNat) hC48 (by omega); have hy48 : y206.length = (((cutI l0 60).length : Int) : Int).toNat := (by rw [Ny206.out, List.length_take]; omega); rw [← Ny206.out] at hr48; rw [← hy48] at hcut48; have HR209 := Aside0.mk hr48; have HC209 := Aside0.mk (show y206.length ≤ co49 from by omega); clear hr48 hC48 hroom48 hi048 hsz48; have KY48 := Aside0.mk hy48; clear hy48; have KL48 := Aside0.mk (show (((cutI l0 60).length : Int) : Int).toNat ≤ t203.length from by omega); replace q48 := eq_true q48) | ((with_reducible refine gate_callee (f := 10) rfl ?_); refine goesL_ (some 22) rfl rfl Try.func10 (by kernel_rfl) rfl #[.slice Ao49 y206.length co49, .int .u64 a2, .int .i64 a3] rfl argN ?_; (with_reducible refine (marigraphlaw2_lays.calls k _ _ y206 a2 a3 true _ ?side1 ?side2 A8.out).mono ?_); (case side1 => repeat (first | exact (by repeat (first | (with_reducible exact HR209.out) | (with_reducible refine Kd.C_alloc ?_ _) | (with_reducible refine Kd.C_drewN ?_ _) | (with_reducible refine Kd.C_drew ?_) | exact HR209.out)) | (with_reducible refine Kd.C_alloc ?_ _) | (with_reducible refine Kd.C_drewN ?_ _) | (with_reducible refine Kd.C_drew ?_))); (case side2 => exact HC209.out); rintro e w50 ⟨rfl, hb⟩; refine ⟨_, rfl, ?_⟩; have n0_ := Aside0.mk (Kd.R_below (rowN HO205.out) hb); have n1_ := Aside0.mk (cbN HR209.out hb); have n2_ := Aside0.mk (below_step (belN HB.out) hb); clear HO205; clear HR209; clear HB; have HO205 := n0_; have HR209 := n1_; have HB := n2_; clear n0_ n1_ n2_; (try clear hb); (try clear hk)) | (go_at_call 5; (with_reducible refine (marigraphbook_Within.calls k a3 0 8 t211 _ A10.out).mono ?_); rintro e w' ⟨rfl, ⟨nd, rfl⟩⟩) | (go_at_call 10; (with_reducible refine (marigraphlaw2_lays.calls k _ _ (cutI l0 60) a2 t211 true _ ?side1 ?side2 A11.out).mono ?_); (case side1 => repeat (first | exact (Kd.C_below HR201.out (belN HB.out)) | (with_reducible refine Kd.C_alloc ?_ _) | (with_reducible refine Kd.C_drewN ?_ _) | (with_reducible refine Kd.C_drew ?_))); (case side2 => exact HC201.out); rintro e w51 ⟨rfl, hb⟩; have n0_ := Aside0.mk (Kd.R_below (rowN HO205.out) hb); have n1_ := Aside0.mk (cbN HR209.out hb); have n2_ := Aside0.mk (below_step (belN HB.out) hb); clear HO205; clear HR209; clear HB; have HO205 := n0_; have HR209 := n1_; have HB := n2_; clear n0_ n1_ n2_; (try clear hb); (try clear hk)) | (go_at_call 11; (with_reducible refine (marigraphlaw2_order.calls k _ _ (cutI l0 60) _ _ (cutI l1 60) true _ ?side1 ?side2 ?side3 ?side4 A13.out).mono ?_); (case side1 => repeat (first | exact (Kd.C_below HR201.out HB.out) | (with_reducible refine Kd.C_alloc ?_ _) | (with_reducible refine Kd.C_drewN ?_ _) | (with_reducible refine Kd.C_drew ?_))); (case side2 => exact HC201.out); (case side3 => repeat (first | exact (Kd.C_below HR202.out HB.out) | (with_reducible refine Kd.C_alloc ?_ _) | (with_reducible refine Kd.C_drewN ?_ _) | (with_reducible refine Kd.C_drew ?_))); (case side4 => exact HC202.out); rintro e w52 ⟨rfl, hb⟩; have n0_ := Aside0.mk (Kd.R_below (rowN HO205.out) hb); have n1_ := Aside0.mk (cbN HR209.out hb); have n2_ := Aside0.mk (below_step (belN HB.out) hb); clear HO205; clear HR209; clear HB; have HO205 := n0_; have HR209 := n1_; have HB := n2_; clear n0_ n1_ n2_; (try clear hb); (try clear hk)) | ((with_reducible refine gate_dst (N := 36) rfl ?_); (try (refine gate_guard (by rfl) ?_; dsimp only)); refine Kd.R_lit (Kd.int .u8) _ 5 ?hg (N := 36) ?hd (xs := ([] : List Int)) (inner := []) (ok := fun _ => True) (okp := fun _ => True) ?hr ?hp (fun _ hk => hk) trivial (Below.refl _ _) (Nat.le_refl _) (by simp) ?_; (case hd => rfl); (case hg => rfl); (case hr => first | (go_simp; done) | (go_simp; rfl)); (case hp => exact (Reps.none _ _)); intro v215 w53 ho54 hb hg_ hnew_; clear hg_ hnew_; (first | rw [← Ny214.out] at ho54 | (simp only [Int.reduceToNat] at ho54; rw [← Ny214.out] at ho54)); have n0_ := Aside0.mk (Kd.R_elder' (rowN HO205.out) (Kd.R_base ho54) hb); have n1_ := Aside0.mk (Kd.R_lower (Kd.R_new' ho54 (Kd.R_lt (rowN HO205.out))) (below_size (belN HB.out))); have n2_ := Aside0.mk (cbN HR209.out hb); have n3_ := Aside0.mk (below_step (belN HB.out) hb); clear HO205; clear HR209; clear HB; have HO205 := n0_; have HO216 := n1_; have HR209 := n2_; have HB := n3_; clear n0_ n1_ n2_ n3_; clear hb ho54) | ((with_reducible refine gate_builtin (b := .append) (xs := #[.tmp 36, .tmp 37]) rfl ?_); (try (refine gate_guard (by rfl) ?_; dsimp only)); at_builtin; refine Kd.R_append_rows (Kd.int .u8) (w0 := w) w.heap.size rfl (.tmp 36) (.tmp 37) 30 5 (.int .u8 0) 1 rfl Try.underlying30 info5 rfl (by decide) (by omega) v215 y214 (cutI l0 60) _ _ _ (fun k_ => some k_ ≠ (.slice Ao49 t203.length co49 : Value).ownBlock) (fun _ => False) rfl rfl ?aO ?aR (fun _ _ h => h) (fun _ h => h.elim) ?aF ?aB ?aS ?aL ?_; (case aR => repeat (first | exact (Kd.C_below HR201.out HB.out) | (with_reducible refine Kd.C_alloc ?_ _) | (with_reducible refine Kd.C_drewN ?_ _) | (with_reducible refine Kd.C_drew ?_))); (case aB => exact (belN HB.out)); (case aF => exact (fun k_ hk => Kd.fresh' (Kd.R_lt (rowN HO205.out)) k_ hk)); (case aO => exact (by (with_reducible repeat (first | apply Kd.R_alloc | apply Kd.R_drewN | apply Kd.R_drew)); exact Kd.R_mono HO216.out (fun _ hk => hk.2))); (case aS => exact (below_size (belN HB.out))); (case aL => have := LMc15.out; omega); intro v218 w55 ho hb hg hat; rw [← Ny217.out] at ho; have n0_ := Aside0.mk (Kd.R_after (ok := (fun _ => True)) (rowN HO205.out) hg hat); have n1_ := Aside0.mk (hb); have n2_ := Aside0.mk ((show Kd.C (Kd.int .u8) w55 Ao49 y206.length y206 from by rw [Ny206.out]; exact Kd.C_take (m := (((cutI l0 60).length : Int) : Int).toNat) ((Kd.R_reads' (Kd.R_after (ok := (fun _ => True)) (rowN HO205.out) hg hat)).2.2) KL48.out)); have n3_ := Aside0.mk (ho); clear HO205; clear HB; clear HR209; clear HO216; have HO205 := n0_; have HB := n1_; have HR209 := n2_; have HO219 := n3_; clear n0_ n1_ n2_ n3_; clear ho hb hg hat) | ((with_reducible refine gate_builtin (b := .append) (xs := #[.tmp 38, .tmp 39]) rfl ?_); (try (refine gate_guard (by rfl) ?_; dsimp only)); at_builtin; refine Kd.R_append (Kd.int .u8) (w0 := w) w.heap.size rfl (.tmp 38) (.tmp 39) 30 5 (.int .u8 0) 1 rfl Try.underlying30 info5 rfl (by decide) (by omega) v218 y217 255 [.int .u8 255] (fun k_ => some k_ ≠ (.slice Ao49 t203.length co49 : Value).ownBlock) (fun _ => False) rfl rfl ?aP (fun _ hk => hk.elim) ?aF ?aO ?aB ?aS ?aL ?_; (case aP => exact rfl); (case aB => exact (belN HB.out)); (case aF => exact (fun k_ hk => Kd.fresh' (Kd.R_lt (rowN HO205.out)) k_ hk)); (case aO => exact (rowN HO219.out)); (case aS => exact (below_size (belN HB.out))); (case aL => have := LMc16.out; omega); intro v221 w56 ho hb hg hat; rw [← Ny220.out] at ho; have n0_ := Aside0.mk (Kd.R_after (ok := (fun _ => True)) (rowN HO205.out) hg hat); have n1_ := Aside0.mk (hb); have n2_ := Aside0.mk ((show Kd.C (Kd.int .u8) w56 Ao49 y206.length y206 from by rw [Ny206.out]; exact Kd.C_take (m := (((cutI l0 60).length : Int) : Int).toNat) ((Kd.R_reads' (Kd.R_after (ok := (fun _ => True)) (rowN HO205.out) hg hat)).2.2) KL48.out)); have n3_ := Aside0.mk (ho); clear HO205; clear HB; clear HR209; clear HO219; have HO205 := n0_; have HB := n1_; have HR209 := n2_; have HO222 := n3_; clear n0_ n1_ n2_ n3_; clear ho hb hg hat; obtain ⟨Ao57, co57, eo57⟩ := Kd.R_slice HO222.out; subst eo57) | (go_at_call 11; (with_reducible refine (marigraphlaw2_order.calls k _ _ y220 _ _ (cutI l0 60) false _ ?side1 ?side2 ?side3 ?side4 A17.out).mono ?_); (case side1 => repeat (first | exact (Kd.R_reads' HO222.out).2.2 | (with_reducible refine Kd.C_alloc ?_ _) | (with_reducible refine Kd.C_drewN ?_ _) | (with_reducible refine Kd.C_drew ?_))); (case side2 => exact (Kd.R_reads' HO222.out).2.1); (case side3 => repeat (first | exact (Kd.C_below HR201.out HB.out) | (with_reducible refine Kd.C_alloc ?_ _) | (with_reducible refine Kd.C_drewN ?_ _) | (with_reducible refine Kd.C_drew ?_))); (case side4 => exact HC201.out); rintro e w58 ⟨rfl, hb⟩; have n0_ := Aside0.mk (Kd.R_below (rowN HO205.out) hb); have n1_ := Aside0.mk (Kd.R_below (rowN HO222.out) hb); have n2_ := Aside0.mk (cbN HR209.out hb); have n3_ := Aside0.mk (below_step (belN HB.out) hb); clear HO205; clear HO222; clear HR209; clear HB; have HO205 := n0_; have HO222 := n1_; have HR209 := n2_; have HB := n3_; clear n0_ n1_ n2_ n3_; (try clear hb); (try clear hk)))
         go_ret
         exact ⟨by first | rfl | (simp [errW_none, errW_some] <;> rfl) | (simp [*, errW_none, errW_some] <;> rfl), (belN HB.out)⟩
       ·rw [if_neg c16] at H
        exact absurd H (by simp)
      ·rw [if_neg c15] at H
       exact absurd H (by simp)
     ·replace c14 := Bool.eq_false_iff.mpr c14
      subst c14
      have H1 : (some false) = some r := by rw [if_neg (show ¬ (false = true) by decide)] at H; exact H
      clear H
      have H := H1
      clear H1
      obtain rfl := Option.some.inj H
      have HR201 := Aside0.mk (cutI_C (n := 60) HR0.out)
      have HC201 := Aside0.mk (cutI_le (n := 60) HC0.out)
      go_enter Try.func4, Try.ntmps4
      go_wp2_with (first | ((with_reducible refine gate_callee (f := 8) rfl ?_); refine goesL_ (some 11) rfl rfl Try.func8 (by kernel_rfl) rfl #[.slice A0 l0.length c0, .int .i64 60] rfl (by (try simp only [List.map_toArray, List.map_cons, List.map_nil]); first | done | rfl) ?_; (with_reducible refine (marigraphkeep_Cut.callsR A0 c0 l0 60 60 _ HC0.out rfl).mono ?_); rintro e w' ⟨rfl, ⟨nd, rfl⟩⟩; refine ⟨_, rfl, ?_⟩; have HR202 := Aside0.mk (cutI_C (n := 60) HR1.out); have HC202 := Aside0.mk (cutI_le (n := 60) HC1.out)) | ((with_reducible refine gate_callee (f := 8) rfl ?_); refine goesL_ (some 13) rfl rfl Try.func8 (by kernel_rfl) rfl #[.slice A1 l1.length c1, .int .i64 60] rfl (by (try simp only [List.map_toArray, List.map_cons, List.map_nil]); first | done | rfl) ?_; (with_reducible refine (marigraphkeep_Cut.callsR A1 c1 l1 60 60 _ HC1.out rfl).mono ?_); rintro e w' ⟨rfl, ⟨nd, rfl⟩⟩; refine ⟨_, rfl, ?_⟩) | ((with_reducible refine gate_callee (f := 9) rfl ?_); refine goesL_ (some 15) rfl rfl Try.func9 (by kernel_rfl) rfl #[.slice A0 (cutI l0 60).length c0, .int .u8 165] rfl argN ?_; (with_reducible refine (marigraphbook_Roomy_byte.calls _ _ (cutI l0 60) 165 t203 _ ?side1 ?side2 A5.out).mono ?_); (case side1 => repeat (first | exact HR201.out | (with_reducible refine Kd.C_alloc ?_ _) | (with_reducible refine Kd.C_drewN ?_ _) | (with_reducible refine Kd.C_drew ?_))); (case side2 => exact HC201.out); rintro e w59 ⟨v204, rfl, ho0, hb⟩; refine ⟨_, rfl, ?_⟩; have n0_ := Aside0.mk (Kd.R_lower ho0 (below_size (belN HB.out))); have n1_ := Aside0.mk (below_step (belN HB.out) hb); clear HB; have HO205 := n0_; have HB := n1_; clear n0_ n1_; (try clear hb); (try clear hk); (try clear ho0); obtain ⟨Ao61, co61, eo61⟩ := Kd.R_slice HO205.out; subst eo61; have q60 : (((cutI l0 60).length : Int) : Int) ≤ ((t203.length : Int) : Int) := of_decide_eq_true (by first | (with_reducible assumption) | assumption); obtain ⟨i060, hi060, _, hsz60, _⟩ := info_parts info5; have hroom60 : t203.length ≤ co61 := (Kd.R_reads' HO205.out).2.1; have hC60 : Kd.C (Kd.int .u8) _ Ao61 t203.length t203 := (Kd.R_reads' HO205.out).2.2; have hcut60 := cut_to (P := Try.prog) 30 5 .i64 Try.underlying30 hi060 Ao61 t203.length co61 ((cutI l0 60).length : Int) (of_decide_eq_true (by first | (with_reducible assumption) | assumption)) q60 hroom60; have hr60 := Kd.C_take (m := (((cutI l0 60).length : Int) : Int).toNat) hC60 (by omega); have hy60 : y206.length = (((cutI l0 60).length : Int) : Int).toNat := (by rw [Ny206.out, List.length_take]; omega); rw [← Ny206.out] at hr60; rw [← hy60] at hcut60; have HR209 := Aside0.mk hr60; have HC209 := Aside0.mk (show y206.length ≤ co61 from by omega); clear hr60 hC60 hroom60 hi060 hsz60; have KY60 := Aside0.mk hy60; clear hy60; have KL60 := Aside0.mk (show (((cutI l0 60).length : Int) : Int).toNat ≤ t203.length from by omega); replace q60 := eq_true q60) | ((with_reducible refine gate_callee (f := 10) rfl ?_); refine goesL_ (some 22) rfl rfl Try.func10 (by kernel_rfl) rfl #[.slice Ao61 y206.length co61, .int .u64 a2, .int .i64 a3] rfl argN ?_; (with_reducible refine (marigraphlaw2_lays.calls k _ _ y206 a2 a3 true _ ?side1 ?side2 A8.out).mono ?_); (case side1 => repeat (first | exact (by repeat (first | (with_reducible exact HR209.out) | (with_reducible refine Kd.C_alloc ?_ _) | (with_reducible refine Kd.C_drewN ?_ _) | (with_reducible refine Kd.C_drew ?_) | exact HR209.out)) | (with_reducible refine Kd.C_alloc ?_ _) | (with_reducible refine Kd.C_drewN ?_ _) | (with_reducible refine Kd.C_drew ?_))); (case side2 => exact HC209.out); rintro e w62 ⟨rfl, hb⟩; refine ⟨_, rfl, ?_⟩; have n0_ := Aside0.mk (Kd.R_below (rowN HO205.out) hb); have n1_ := Aside0.mk (cbN HR209.out hb); have n2_ := Aside0.mk (below_step (belN HB.out) hb); clear HO205; clear HR209; clear HB; have HO205 := n0_; have HR209 := n1_; have HB := n2_; clear n0_ n1_ n2_; (try clear hb); (try clear hk)) | (go_at_call 5; (with_reducible refine (marigraphbook_Within.calls k a3 0 8 t211 _ A10.out).mono ?_); rintro e w' ⟨rfl, ⟨nd, rfl⟩⟩) | (go_at_call 10; (with_reducible refine (marigraphlaw2_lays.calls k _ _ (cutI l0 60) a2 t211 true _ ?side1 ?side2 A11.out).mono ?_); (case side1 => repeat (first | exact (Kd.C_below HR201.out (belN HB.out)) | (with_reducible refine Kd.C_alloc ?_ _) | (with_reducible refine Kd.C_drewN ?_ _) | (with_reducible refine Kd.C_drew ?_))); (case side2 => exact HC201.out); rintro e w63 ⟨rfl, hb⟩; have n0_ := Aside0.mk (Kd.R_below (rowN HO205.out) hb); have n1_ := Aside0.mk (cbN HR209.out hb); have n2_ := Aside0.mk (below_step (belN HB.out) hb); clear HO205; clear HR209; clear HB; have HO205 := n0_; have HR209 := n1_; have HB := n2_; clear n0_ n1_ n2_; (try clear hb); (try clear hk)) | (go_at_call 11; (with_reducible refine (marigraphlaw2_order.calls k _ _ (cutI l0 60) _ _ (cutI l1 60) false _ ?side1 ?side2 ?side3 ?side4 A13.out).mono ?_); (case side1 => repeat (first | exact (Kd.C_below HR201.out HB.out) | (with_reducible refine Kd.C_alloc ?_ _) | (with_reducible refine Kd.C_drewN ?_ _) | (with_reducible refine Kd.C_drew ?_))); (case side2 => exact HC201.out); (case side3 => repeat (first | exact (Kd.C_below HR202.out HB.out) | (with_reducible refine Kd.C_alloc ?_ _) | (with_reducible refine Kd.C_drewN ?_ _) | (with_reducible refine Kd.C_drew ?_))); (case side4 => exact HC202.out); rintro e w64 ⟨rfl, hb⟩; have n0_ := Aside0.mk (Kd.R_below (rowN HO205.out) hb); have n1_ := Aside0.mk (cbN HR209.out hb); have n2_ := Aside0.mk (below_step (belN HB.out) hb); clear HO205; clear HR209; clear HB; have HO205 := n0_; have HR209 := n1_; have HB := n2_; clear n0_ n1_ n2_; (try clear hb); (try clear hk)))
      go_ret
      exact ⟨by first | rfl | (simp [errW_none, errW_some] <;> rfl) | (simp [*, errW_none, errW_some] <;> rfl), (belN HB.out)⟩
    ·replace c12 := Bool.eq_false_iff.mpr c12
     subst c12
     have H1 : (some false) = some r := by rw [if_neg (show ¬ (false = true) by decide)] at H; exact H
     clear H
     have H := H1
     clear H1
     obtain rfl := Option.some.inj H
     have HR201 := Aside0.mk (cutI_C (n := 60) HR0.out)
     have HC201 := Aside0.mk (cutI_le (n := 60) HC0.out)
     go_enter Try.func4, Try.ntmps4
     go_wp2_with (first | ((with_reducible refine gate_callee (f := 8) rfl ?_); refine goesL_ (some 11) rfl rfl Try.func8 (by kernel_rfl) rfl #[.slice A0 l0.length c0, .int .i64 60] rfl (by (try simp only [List.map_toArray, List.map_cons, List.map_nil]); first | done | rfl) ?_; (with_reducible refine (marigraphkeep_Cut.callsR A0 c0 l0 60 60 _ HC0.out rfl).mono ?_); rintro e w' ⟨rfl, ⟨nd, rfl⟩⟩; refine ⟨_, rfl, ?_⟩; have HR202 := Aside0.mk (cutI_C (n := 60) HR1.out); have HC202 := Aside0.mk (cutI_le (n := 60) HC1.out)) | ((with_reducible refine gate_callee (f := 8) rfl ?_); refine goesL_ (some 13) rfl rfl Try.func8 (by kernel_rfl) rfl #[.slice A1 l1.length c1, .int .i64 60] rfl (by (try simp only [List.map_toArray, List.map_cons, List.map_nil]); first | done | rfl) ?_; (with_reducible refine (marigraphkeep_Cut.callsR A1 c1 l1 60 60 _ HC1.out rfl).mono ?_); rintro e w' ⟨rfl, ⟨nd, rfl⟩⟩; refine ⟨_, rfl, ?_⟩) | ((with_reducible refine gate_callee (f := 9) rfl ?_); refine goesL_ (some 15) rfl rfl Try.func9 (by kernel_rfl) rfl #[.slice A0 (cutI l0 60).length c0, .int .u8 165] rfl argN ?_; (with_reducible refine (marigraphbook_Roomy_byte.calls _ _ (cutI l0 60) 165 t203 _ ?side1 ?side2 A5.out).mono ?_); (case side1 => repeat (first | exact HR201.out | (with_reducible refine Kd.C_alloc ?_ _) | (with_reducible refine Kd.C_drewN ?_ _) | (with_reducible refine Kd.C_drew ?_))); (case side2 => exact HC201.out); rintro e w65 ⟨v204, rfl, ho0, hb⟩; refine ⟨_, rfl, ?_⟩; have n0_ := Aside0.mk (Kd.R_lower ho0 (below_size (belN HB.out))); have n1_ := Aside0.mk (below_step (belN HB.out) hb); clear HB; have HO205 := n0_; have HB := n1_; clear n0_ n1_; (try clear hb); (try clear hk); (try clear ho0); obtain ⟨Ao67, co67, eo67⟩ := Kd.R_slice HO205.out; subst eo67; have q66 : (((cutI l0 60).length : Int) : Int) ≤ ((t203.length : Int) : Int) := of_decide_eq_true (by first | (with_reducible assumption) | assumption); obtain ⟨i066, hi066, _, hsz66, _⟩ := info_parts info5; have hroom66 : t203.length ≤ co67 := (Kd.R_reads' HO205.out).2.1; have hC66 : Kd.C (Kd.int .u8) _ Ao67 t203.length t203 := (Kd.R_reads' HO205.out).2.2; have hcut66 := cut_to (P := Try.prog) 30 5 .i64 Try.underlying30 hi066 Ao67 t203.length co67 ((cutI l0 60).length : Int) (of_decide_eq_true (by first | (with_reducible assumption) | assumption)) q66 hroom66; have hr66 := Kd.C_take (m := (((cutI l0 60).length : Int) : Int).toNat) hC66 (by omega); have hy66 : y206.length = (((cutI l0 60).length : Int) : Int).toNat := (by rw [Ny206.out, List.length_take]; omega); rw [← Ny206.out] at hr66; rw [← hy66] at hcut66; have HR209 := Aside0.mk hr66; have HC209 := Aside0.mk (show y206.length ≤ co67 from by omega); clear hr66 hC66 hroom66 hi066 hsz66; have KY66 := Aside0.mk hy66; clear hy66; have KL66 := Aside0.mk (show (((cutI l0 60).length : Int) : Int).toNat ≤ t203.length from by omega); replace q66 := eq_true q66) | ((with_reducible refine gate_callee (f := 10) rfl ?_); refine goesL_ (some 22) rfl rfl Try.func10 (by kernel_rfl) rfl #[.slice Ao67 y206.length co67, .int .u64 a2, .int .i64 a3] rfl argN ?_; (with_reducible refine (marigraphlaw2_lays.calls k _ _ y206 a2 a3 true _ ?side1 ?side2 A8.out).mono ?_); (case side1 => repeat (first | exact (by repeat (first | (with_reducible exact HR209.out) | (with_reducible refine Kd.C_alloc ?_ _) | (with_reducible refine Kd.C_drewN ?_ _) | (with_reducible refine Kd.C_drew ?_) | exact HR209.out)) | (with_reducible refine Kd.C_alloc ?_ _) | (with_reducible refine Kd.C_drewN ?_ _) | (with_reducible refine Kd.C_drew ?_))); (case side2 => exact HC209.out); rintro e w68 ⟨rfl, hb⟩; refine ⟨_, rfl, ?_⟩; have n0_ := Aside0.mk (Kd.R_below (rowN HO205.out) hb); have n1_ := Aside0.mk (cbN HR209.out hb); have n2_ := Aside0.mk (below_step (belN HB.out) hb); clear HO205; clear HR209; clear HB; have HO205 := n0_; have HR209 := n1_; have HB := n2_; clear n0_ n1_ n2_; (try clear hb); (try clear hk)) | (go_at_call 5; (with_reducible refine (marigraphbook_Within.calls k a3 0 8 t211 _ A10.out).mono ?_); rintro e w' ⟨rfl, ⟨nd, rfl⟩⟩) | (go_at_call 10; (with_reducible refine (marigraphlaw2_lays.calls k _ _ (cutI l0 60) a2 t211 false _ ?side1 ?side2 A11.out).mono ?_); (case side1 => repeat (first | exact (Kd.C_below HR201.out (belN HB.out)) | (with_reducible refine Kd.C_alloc ?_ _) | (with_reducible refine Kd.C_drewN ?_ _) | (with_reducible refine Kd.C_drew ?_))); (case side2 => exact HC201.out); rintro e w69 ⟨rfl, hb⟩; have n0_ := Aside0.mk (Kd.R_below (rowN HO205.out) hb); have n1_ := Aside0.mk (cbN HR209.out hb); have n2_ := Aside0.mk (below_step (belN HB.out) hb); clear HO205; clear HR209; clear HB; have HO205 := n0_; have HR209 := n1_; have HB := n2_; clear n0_ n1_ n2_; (try clear hb); (try clear hk)))
     go_ret
     exact ⟨by first | rfl | (simp [errW_none, errW_some] <;> rfl) | (simp [*, errW_none, errW_some] <;> rfl), (belN HB.out)⟩
   ·replace c9 := Bool.eq_false_iff.mpr c9
    subst c9
    have H1 : (some false) = some r := by rw [if_neg (show ¬ (false = true) by decide)] at H; exact H
    clear H
    have H := H1
    clear H1
    obtain rfl := Option.some.inj H
    have HR201 := Aside0.mk (cutI_C (n := 60) HR0.out)
    have HC201 := Aside0.mk (cutI_le (n := 60) HC0.out)
    go_enter Try.func4, Try.ntmps4
    go_wp2_with (first | ((with_reducible refine gate_callee (f := 8) rfl ?_); refine goesL_ (some 11) rfl rfl Try.func8 (by kernel_rfl) rfl #[.slice A0 l0.length c0, .int .i64 60] rfl (by (try simp only [List.map_toArray, List.map_cons, List.map_nil]); first | done | rfl) ?_; (with_reducible refine (marigraphkeep_Cut.callsR A0 c0 l0 60 60 _ HC0.out rfl).mono ?_); rintro e w' ⟨rfl, ⟨nd, rfl⟩⟩; refine ⟨_, rfl, ?_⟩; have HR202 := Aside0.mk (cutI_C (n := 60) HR1.out); have HC202 := Aside0.mk (cutI_le (n := 60) HC1.out)) | ((with_reducible refine gate_callee (f := 8) rfl ?_); refine goesL_ (some 13) rfl rfl Try.func8 (by kernel_rfl) rfl #[.slice A1 l1.length c1, .int .i64 60] rfl (by (try simp only [List.map_toArray, List.map_cons, List.map_nil]); first | done | rfl) ?_; (with_reducible refine (marigraphkeep_Cut.callsR A1 c1 l1 60 60 _ HC1.out rfl).mono ?_); rintro e w' ⟨rfl, ⟨nd, rfl⟩⟩; refine ⟨_, rfl, ?_⟩) | ((with_reducible refine gate_callee (f := 9) rfl ?_); refine goesL_ (some 15) rfl rfl Try.func9 (by kernel_rfl) rfl #[.slice A0 (cutI l0 60).length c0, .int .u8 165] rfl argN ?_; (with_reducible refine (marigraphbook_Roomy_byte.calls _ _ (cutI l0 60) 165 t203 _ ?side1 ?side2 A5.out).mono ?_); (case side1 => repeat (first | exact HR201.out | (with_reducible refine Kd.C_alloc ?_ _) | (with_reducible refine Kd.C_drewN ?_ _) | (with_reducible refine Kd.C_drew ?_))); (case side2 => exact HC201.out); rintro e w70 ⟨v204, rfl, ho0, hb⟩; refine ⟨_, rfl, ?_⟩; have n0_ := Aside0.mk (Kd.R_lower ho0 (below_size (belN HB.out))); have n1_ := Aside0.mk (below_step (belN HB.out) hb); clear HB; have HO205 := n0_; have HB := n1_; clear n0_ n1_; (try clear hb); (try clear hk); (try clear ho0); obtain ⟨Ao72, co72, eo72⟩ := Kd.R_slice HO205.out; subst eo72; have q71 : (((cutI l0 60).length : Int) : Int) ≤ ((t203.length : Int) : Int) := of_decide_eq_true (by first | (with_reducible assumption) | assumption); obtain ⟨i071, hi071, _, hsz71, _⟩ := info_parts info5; have hroom71 : t203.length ≤ co72 := (Kd.R_reads' HO205.out).2.1; have hC71 : Kd.C (Kd.int .u8) _ Ao72 t203.length t203 := (Kd.R_reads' HO205.out).2.2; have hcut71 := cut_to (P := Try.prog) 30 5 .i64 Try.underlying30 hi071 Ao72 t203.length co72 ((cutI l0 60).length : Int) (of_decide_eq_true (by first | (with_reducible assumption) | assumption)) q71 hroom71; have hr71 := Kd.C_take (m := (((cutI l0 60).length : Int) : Int).toNat) hC71 (by omega); have hy71 : y206.length = (((cutI l0 60).length : Int) : Int).toNat := (by rw [Ny206.out, List.length_take]; omega); rw [← Ny206.out] at hr71; rw [← hy71] at hcut71; have HR209 := Aside0.mk hr71; have HC209 := Aside0.mk (show y206.length ≤ co72 from by omega); clear hr71 hC71 hroom71 hi071 hsz71; have KY71 := Aside0.mk hy71; clear hy71; have KL71 := Aside0.mk (show (((cutI l0 60).length : Int) : Int).toNat ≤ t203.length from by omega); replace q71 := eq_true q71) | ((with_reducible refine gate_callee (f := 10) rfl ?_); refine goesL_ (some 22) rfl rfl Try.func10 (by kernel_rfl) rfl #[.slice Ao72 y206.length co72, .int .u64 a2, .int .i64 a3] rfl argN ?_; (with_reducible refine (marigraphlaw2_lays.calls k _ _ y206 a2 a3 false _ ?side1 ?side2 A8.out).mono ?_); (case side1 => repeat (first | exact (by repeat (first | (with_reducible exact HR209.out) | (with_reducible refine Kd.C_alloc ?_ _) | (with_reducible refine Kd.C_drewN ?_ _) | (with_reducible refine Kd.C_drew ?_) | exact HR209.out)) | (with_reducible refine Kd.C_alloc ?_ _) | (with_reducible refine Kd.C_drewN ?_ _) | (with_reducible refine Kd.C_drew ?_))); (case side2 => exact HC209.out); rintro e w73 ⟨rfl, hb⟩; refine ⟨_, rfl, ?_⟩; have n0_ := Aside0.mk (Kd.R_below (rowN HO205.out) hb); have n1_ := Aside0.mk (cbN HR209.out hb); have n2_ := Aside0.mk (below_step (belN HB.out) hb); clear HO205; clear HR209; clear HB; have HO205 := n0_; have HR209 := n1_; have HB := n2_; clear n0_ n1_ n2_; (try clear hb); (try clear hk)))
    go_ret
    exact ⟨by first | rfl | (simp [errW_none, errW_some] <;> rfl) | (simp [*, errW_none, errW_some] <;> rfl), (belN HB.out)⟩
  ·rw [if_neg c7] at H
   exact absurd H (by simp)
 ·rw [if_neg c6] at H
  exact absurd H (by simp)

/-- THE ONE PURE STATEMENT of marigraphlaw2_OctetTells: yours. -/
def marigraphlaw2_OctetTells.Pure : Prop := ∀ (l0 : List Int) (l1 : List Int) (a2 : Int) (a3 : Int), l0.length ≤ maxLen → l0.length * 1 ≤ 140737488351232 → (∀ x ∈ l0, (Lit.int .u8 x).wf = true) → l1.length ≤ maxLen → l1.length * 1 ≤ 140737488351232 → (∀ x ∈ l1, (Lit.int .u8 x).wf = true) → (Lit.int .u64 a2).wf = true → (Lit.int .i64 a3).wf = true → ∃ k, marigraphlaw2_OctetTells.f k l0 l1 a2 a3 = some true
theorem marigraphlaw2_OctetTells.walk (P : marigraphlaw2_OctetTells.Pure) (a0 : Option Addr) (len0 cap0 : Nat) (z0 : List Int) (a1 : Option Addr) (len1 cap1 : Nat) (z1 : List Int) (a2 : Int) (a3 : Int) (w : World) (w0 : (a0 = none ∧ len0 = 0 ∧ cap0 = 0 ∧ z0 = []) ∨ ∃ x, a0 = some x ∧ len0 ≤ cap0 ∧ cap0 ≤ maxLen ∧ z0.length = cap0 ∧ (∀ i, i < z0.length → w.cell? (x.add i) = some (.int .u8 (z0.getD i 0))) ∧ ∀ n ∈ z0, (Lit.int .u8 n).wf = true) (y0 : len0 * 1 ≤ 140737488351232) (w1 : (a1 = none ∧ len1 = 0 ∧ cap1 = 0 ∧ z1 = []) ∨ ∃ x, a1 = some x ∧ len1 ≤ cap1 ∧ cap1 ≤ maxLen ∧ z1.length = cap1 ∧ (∀ i, i < z1.length → w.cell? (x.add i) = some (.int .u8 (z1.getD i 0))) ∧ ∀ n ∈ z1, (Lit.int .u8 n).wf = true) (y1 : len1 * 1 ≤ 140737488351232) (w2 : (Lit.int .u64 a2).wf = true) (w3 : (Lit.int .i64 a3).wf = true) :
  Calls Try.prog 4 #[.slice a0 len0 cap0, .slice a1 len1 cap1, .int .u64 a2, .int .i64 a3] w fun e w' => e = .returned (.bool true) ∧ Below w.heap.size w w' := by
 obtain ⟨l0, rfl, hr0, hm0, hw0, hc0⟩ := ReadsInt.ofRowC w0
 obtain ⟨l1, rfl, hr1, hm1, hw1, hc1⟩ := ReadsInt.ofRowC w1
 obtain ⟨k, h⟩ := P l0 l1 a2 a3 hm0 y0 hw0 hm1 y1 hw1 w2 w3
 refine (marigraphlaw2_OctetTells.calls k _ _ l0 _ _ l1 a2 a3 true w (Kd.C_of_reads (d := (0 : Int)) (h1 := fun _ => rfl) hr0) hc0 (Kd.C_of_reads (d := (0 : Int)) (h1 := fun _ => rfl) hr1) hc1 h).mono ?_
 rintro e w' ⟨rfl, hd⟩
 exact ⟨rfl, hd⟩

end Go.Proofs.Ytjlliaomgpgnpaa.POctetTells

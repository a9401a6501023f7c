/- The walk of the Go functions that a law reaches, told as plain functions; a program of this session has written it. No condition beyond the statement's own. -/
import Derived.Test.YtgaikcpmnepegaaPFoldTellsx0
import Derived.Test.YtgaikcpmnepegaaPFoldTellsx1
import Derived.Test.YtgaikcpmnepegaaPFoldTellsx2
import Derived.Test.YtgaikcpmnepegaaPFoldTellsx3
import Derived.Test.YtgaikcpmnepegaaPFoldTellsx4
import Derived.Test.YtgaikcpmnepegaaPFoldTellsx5
import Derived.Test.YtgaikcpmnepegaaPFoldTellsx6
import Derived.Test.YtgaikcpmnepegaaPFoldTellsx7
import Derived.Test.YtgaikcpmnepegaaPFoldTellsx8
import Derived.Test.YtgaikcpmnepegaaPFoldTellsx9
namespace Go.Proofs.Ytgaikcpmnepegaa.PFoldTells
open Go.RowKit Go.Proofs.YtgaikcpmnepegaaW.PrintWords Go.Proofs.YtgaikcpmnepegaaW.PrintLast Go.Proofs.YtgaikcpmnepegaaW.PrintMore
attribute [local go_sem] max2_int min2_int max_two min_two max_three min_three max_four min_four   -- for this text's walks alone
set_option linter.unusedVariables false
set_option linter.unusedSimpArgs false

attribute [local go_sem high] eqA33
/-! ### marigraphlaw20_FoldTells: function 3, by hand -/
set_option maxHeartbeats 8000000
set_option maxRecDepth 100000
/-- The fold whose name a text is, as the law's loop finds it. -/
def wantI (s : ByteArray) (nm : Nat → ByteArray) : Nat → Nat → Int → Int
  | 0, _, acc => acc
  | f + 1, i, acc => wantI s nm f (i + 1) (if (nm i).toList = s.toList then (i : Int) else acc)
/-- A row that is read, where a new block has come (nothing else was written). -/
theorem C_grown0 {w w1 : World} {A : Option Addr} {xs : List S33} (h : Kd.C k33 w A xs.length xs) (hg : w.grownBy w1 none) : Kd.C k33 w1 A xs.length xs :=
  Kd.C_below h ⟨hg.os, hg.tape, hg.output, hg.size, fun k hk => hg.block k hk (by simp)⟩
/-- What the law's loop holds. -/
def FTold (w : World) (e : Ending) (w' : World) : Prop := e = .returned (.bool true) ∧ Below w.heap.size w w'
theorem foldTells_at (k : Nat) (how : Int) (A1 : Option Addr) (c1 : Nat) (l1 : List Int) (A2 : Option Addr) (c2 : Nat) (l2 l8 m z : List S33) (hz : Aside0 (z = m ++ l8)) (s : ByteArray) (nm : Nat → ByteArray) (q kk n want : Int) (ok : Bool) (w : World)
    (hr1 : Kd.C (Kd.int .i64) w A1 l1.length l1) (hc1 : l1.length ≤ c1) (hr8 : Kd.C k33 w A2 l8.length l8) (hc8 : l8.length ≤ c2)
    (hcut : (decide (8 < l2.length) = true ∧ decide ((8 : Int) < (l2.length : Int)) = true ∧ ∀ W : World, (Instr.slice 23 (.slice A2 l2.length c2) none (some (.int .i64 8)) none).run Try.prog W = .ok (.slice A2 l8.length c2) W) ∨ (decide (8 < l2.length) = false ∧ decide ((8 : Int) < (l2.length : Int)) = false ∧ l8 = l2))
    (hml : m.length ≤ 12) (hl8 : l8.length ≤ 8) (hW : marigraphbook_Within.f k how 0 1048576 = some q) (hkk : IntKind.i64.wrap (1 + Int.tmod q 7) = kk) (hm : marigraphlaw20_rats.f k l1 12 = some m) (hN : fold_Named.f k s = some (n, ok)) (hnm : ∀ i : Nat, 1 ≤ i → i ≤ 7 → marigraphref20_Name.f (i : Int) = some (nm i))
    (hwant : wantI s nm 7 1 0 = want) (h1 : marigraphlaw20_same.f k how m = some true) (h2 : marigraphlaw20_same.f k kk m = some true) (h3 : marigraphlaw20_same.f k kk l8 = some true) (h4 : marigraphlaw20_same.f k kk z = some true)
    (hn : n = want) (hok : ok = decide (0 < want)) (hk : marigraphlaw20_known.f k = some true) :
    Calls Try.prog 3 #[.int .i64 how, .slice A1 l1.length c1, .slice A2 l2.length c2, .string s] w (FTold w) := by
  have HB := Below.refl w.heap.size w
  have hm := Aside0.mk hm
  have hN := Aside0.mk hN
  have h1 := Aside0.mk h1
  have hW := Aside0.mk hW
  have h2 := Aside0.mk h2
  have h3 := Aside0.mk h3
  have h4 := Aside0.mk h4
  have hk := Aside0.mk hk
  have hnm := Aside0.mk hnm
  have hwant := Aside0.mk hwant
  have hn := Aside0.mk hn
  have hok := Aside0.mk hok
  have hml := Aside0.mk hml
  have hl8 := Aside0.mk hl8
  rcases hcut with ⟨hd, hd2, hcut⟩ | ⟨hd, hd2, rfl⟩
  all_goals
    go_enter Try.func3, Try.ntmps3
    go_wp2_with (first
      | (go_at_call 6; (with_reducible refine (fold_Named.calls k s n ok _ hN.out).mono ?_); rintro e4 w4 ⟨rfl, hb⟩; have HR4 := Kd.R_below HR3 hb; have HB4 := below_step HB3 hb; clear hb)
      | (go_at_call 5; (with_reducible refine (marigraphlaw20_rats.calls k A1 c1 l1 12 m _ (Kd.C_drewN hr1 nn) hc1 hm.out).mono ?_); rintro e3 w3 ⟨v, rfl, hR, hb⟩; obtain ⟨Am, cm, rfl⟩ := Kd.R_slice hR; have HR3 := Kd.R_lower hR (show w.heap.size ≤ (w.drewN nn).heap.size from Nat.le_refl _); have HB3 := below_step (pw_below_drewN HB nn) hb; clear hb hR)
      | (go_at_call 4; (with_reducible refine (marigraphbook_Within.calls k how 0 1048576 q _ hW.out).mono ?_); rintro e2 w2 ⟨rfl, ⟨nn, rfl⟩⟩))
    go_loopg [13, 14] 8 (fun kq v13 v14 w' => ∃ (i : Nat) (acc : Int), v13 = .int .i64 acc ∧ v14 = .int .i64 (i : Int) ∧ Aside0 (8 - i < kq ∧ 1 ≤ i ∧ i ≤ 8) ∧ Aside0 (wantI s nm (8 - i) i acc = want) ∧ Aside0 (Kd.R k33 33 w' w.heap.size (fun _ => True) (.slice Am m.length cm) m) ∧ Aside0 (Below w.heap.size w w'))
    case' atStart => exact ⟨1, 0, rfl, rfl, ⟨by omega⟩, hwant, ⟨HR4⟩, ⟨HB4⟩⟩
    case' round =>
      clear hwant HR4 HB4
      obtain ⟨i, acc, rfl, rfl, hj, hwt, hR, hb⟩ := hrel
      have hj := hj.out
      have hwt := hwt.out
      have HR5 := hR.out
      have HB5 := hb.out
      clear hR hb
      by_cases hi : i ≤ 7
      case' pos =>
        have hle : decide ((i : Int) ≤ 7) = true := decide_eq_true (by omega)
        have hname := Aside0.mk (hnm.out i hj.2.1 hi)
        have hf : 8 - i = (8 - (i + 1)) + 1 := by omega
        have hm3 : 8 - i < gk := hj.1
        have hj2 := Aside0.mk hj.2
        rw [hf, wantI] at hwt
        generalize nm i = t at hname hwt
        clear hf
        by_cases ht : t.toList = s.toList
        case' pos =>
          have htb : (t.toList == s.toList) = true := beq_iff_eq.mpr ht
          rw [if_pos ht] at hwt
          have hwt := Aside0.mk hwt
          clear ht hj
          go_wp2_with (go_at_call 7; (with_reducible refine (marigraphref20_Name.calls (i : Int) t _ hname.out).mono ?_); rintro e6 w6 ⟨rfl, ⟨n6, rfl⟩⟩)
          go_roundg (8 - i)
          case' measure => exact hm3
          case' rel => exact ⟨i + 1, (i : Int), rfl, congrArg (Value.int .i64) (Int.natCast_succ i).symm, ⟨by have := hj2.out; omega⟩, hwt, ⟨Kd.R_drewN HR5 n6⟩, ⟨pw_below_drewN HB5 n6⟩⟩
        case' neg =>
          have htb : (t.toList == s.toList) = false := by simpa using ht
          rw [if_neg ht] at hwt
          have hwt := Aside0.mk hwt
          clear ht hj
          go_wp2_with (go_at_call 7; (with_reducible refine (marigraphref20_Name.calls (i : Int) t _ hname.out).mono ?_); rintro e6 w6 ⟨rfl, ⟨n6, rfl⟩⟩)
          go_roundg (8 - i)
          case' measure => exact hm3
          case' rel => exact ⟨i + 1, acc, rfl, congrArg (Value.int .i64) (Int.natCast_succ i).symm, ⟨by have := hj2.out; omega⟩, hwt, ⟨Kd.R_drewN HR5 n6⟩, ⟨pw_below_drewN HB5 n6⟩⟩
  all_goals
    have hi8 : i = 8 := by omega
    subst hi8
    have hwt : acc = want := hwt
    subst hwt
    clear hi hj
    have hle : decide (((8 : Nat) : Int) ≤ 7) = false := by decide
    have hC5 := (Kd.R_reads' HR5).2.2
    have hcm := (Kd.R_reads' HR5).2.1
    go_wp2_with (first
      | (go_at_call 9; (with_reducible refine (marigraphlaw20_known.calls k true _ hk.out).mono ?_); rintro e15 w15 ⟨rfl, hb⟩; have HB15 := below_step HB14 hb; clear hb)
      | (go_at_call 8; ((with_reducible refine (marigraphlaw20_same.calls k kk Ax cx z true _ (Kd.R_reads' HR13).2.2 (Kd.R_reads' HR13).2.1 h4.out).mono ?_); rintro e14 w14 ⟨rfl, hb⟩; have HB14 := below_step HB13 hb; clear hb))
      | ((with_reducible refine gate_builtin (b := .append) (xs := #[.tmp 57, .tmp 58]) rfl ?_); at_builtin; (try (refine gate_guard (by rfl) ?_; dsimp only)); (refine Kd.R_append_rows k33 (w0 := w) w.heap.size rfl (.tmp 57) (.tmp 58) 23 33 (.agg #[(.int .i64 0), (.int .i64 0)]) 16 rfl Try.underlying23 info33 rfl (by decide) (by omega) (.slice Ay m.length cy) m l8 A2 l8.length c2 (fun _ => True) (fun _ => False) rfl rfl HR12 (Kd.C_below hr8 HB12) (fun x cs h_ => by obtain rfl := k33_open h_; exact k33_mkM _ _ _ x) (fun _ h => h.elim) (fun _ _ => trivial) HB12 (below_size HB12) (by have := hml.out; have := hl8.out; omega) ?_; intro vx w13 HR13 HB13 hg13 _; rw [← hz.out] at HR13; obtain ⟨Ax, cx, rfl⟩ := Kd.R_slice HR13; clear hg13))
      | ((with_reducible refine gate_builtin (b := .append) (xs := #[.tmp 55, .tmp 56]) rfl ?_); at_builtin; (try (refine gate_guard (by rfl) ?_; dsimp only)); (refine Kd.R_append_rows k33 (w0 := w) w.heap.size rfl (.tmp 55) (.tmp 56) 23 33 (.agg #[(.int .i64 0), (.int .i64 0)]) 16 rfl Try.underlying23 info33 rfl (by decide) (by omega) (.slice Az 0 cz) [] m Am m.length cm (fun _ => True) (fun _ => False) rfl rfl HR11 hC11 (fun x cs h_ => by obtain rfl := k33_open h_; exact k33_mkM _ _ _ x) (fun _ h => h.elim) (fun _ _ => trivial) HB11 (below_size HB11) (by have := hml.out; simp only [List.length_nil]; omega) ?_; intro vy w12 HR12 HB12 hg12 _; rw [List.nil_append] at HR12; obtain ⟨Ay, cy, rfl⟩ := Kd.R_slice HR12; clear hg12))
      | ((with_reducible refine gate_dst (N := 55) rfl ?_); (try (refine gate_guard (by rfl) ?_; dsimp only)); (refine Kd.R_lit k33 (w0 := w) w.heap.size 33 ?hg (N := 55) ?hd (xs := ([] : List S33)) (inner := []) (ok := fun _ => True) (okp := fun _ => True) ?hr ?hp (fun _ hk => hk) trivial HB10 (below_size HB10) (by simp) ?_; (case hd => rfl); (case hg => rfl); (case hr => first | (go_simp; done) | (go_simp; rfl)); (case hp => exact (Reps.none _ _)); intro vz w11 HR11 HB11 hg11 _; obtain ⟨Az, cz, rfl⟩ := Kd.R_slice HR11; have hC11 := C_grown0 hC10 hg11; clear hg11))
      | (go_at_call 8; (with_reducible refine (marigraphlaw20_same.calls k kk A2 c2 l8 true _ (Kd.C_below hr8 HB9) hc8 h3.out).mono ?_); rintro e10 w10 ⟨rfl, hb⟩; have HB10 := below_step HB9 hb; have hC10 := Kd.C_below hC9 hb; clear hb)
      | (go_at_call 8; (with_reducible refine (marigraphlaw20_same.calls k kk Am cm m true _ hC8 hcm h2.out).mono ?_); rintro e9 w9 ⟨rfl, hb⟩; have HB9 := below_step HB8 hb; have hC9 := Kd.C_below hC8 hb; clear hb)
      | (go_at_call 8; (with_reducible refine (marigraphlaw20_same.calls k how Am cm m true _ hC5 hcm h1.out).mono ?_); rintro e8 w8 ⟨rfl, hb⟩; have HB8 := below_step HB5 hb; have hC8 := Kd.C_below hC5 hb; clear hb))
    go_ret
    exact ⟨rfl, HB15⟩
/-- Numbers out of their parts. -/
def prs (f : Nat → Int × Int) (n : Nat) : List S33 := (List.range n).map fun i => ⟨(f i).1, (f i).2⟩
theorem prs_len (f : Nat → Int × Int) (n : Nat) : (prs f n).length = n := by unfold prs; rw [List.length_map, List.length_range]
theorem prs_C {w : World} {a : Option Addr} {len cap : Nat} {f : Nat → Int × Int} (hl : len ≤ cap) (hm : cap ≤ maxLen) (h : 0 < len → ∃ ad, a = some ad ∧ ∀ i, i < len → w.cell? (ad.add (i * 2)) = some (.int .i64 (f i).1) ∧ w.cell? (ad.add (i * 2 + 1)) = some (.int .i64 (f i).2)) :
    Kd.C k33 w a (prs f len).length (prs f len) := by
  refine ⟨rfl, by rw [prs_len]; unfold maxLen at hm; omega, fun hp => ?_⟩
  rw [prs_len] at hp
  obtain ⟨ad, ha, hc⟩ := h hp
  refine ⟨ad, ha, fun j p hj => ?_⟩
  have hlt : j < len := by
    have := (List.getElem?_eq_some_iff.1 hj).1
    rwa [prs_len] at this
  obtain ⟨e0, e1⟩ := hc j hlt
  have hp2 : p = ⟨(f j).1, (f j).2⟩ := by
    unfold prs at hj
    rw [List.getElem?_map, List.getElem?_range hlt] at hj
    exact (Option.some.inj hj).symm
  subst hp2
  refine ⟨[.int .i64 (f j).1, .int .i64 (f j).2], rfl, k33_mk w _, fun i u hu => ?_⟩
  match i, hu with
  | 0, hu => cases hu; exact e0
  | 1, hu => cases hu; exact e1
/-- THE ONE PURE STATEMENT of FoldTells. -/
def FoldTells.Pure : Prop := ∀ (how : Int) (l1 : List Int) (l8 : List S33) (s : ByteArray), (Lit.int .i64 how).wf = true → (∀ x ∈ l1, (Lit.int .i64 x).wf = true) → l8.length ≤ 8 → (∀ x ∈ l8, (Lit.int .i64 x.f0).wf = true ∧ (Lit.int .i64 x.f1).wf = true) →
  ∃ k nm q m n ok, m.length ≤ 12 ∧ (∀ i : Nat, 1 ≤ i → i ≤ 7 → marigraphref20_Name.f (i : Int) = some (nm i)) ∧ marigraphbook_Within.f k how 0 1048576 = some q ∧ marigraphlaw20_rats.f k l1 12 = some m ∧ fold_Named.f k s = some (n, ok) ∧ n = wantI s nm 7 1 0 ∧ ok = decide (0 < wantI s nm 7 1 0) ∧
    marigraphlaw20_same.f k how m = some true ∧ marigraphlaw20_same.f k (IntKind.i64.wrap (1 + Int.tmod q 7)) m = some true ∧ marigraphlaw20_same.f k (IntKind.i64.wrap (1 + Int.tmod q 7)) l8 = some true ∧ marigraphlaw20_same.f k (IntKind.i64.wrap (1 + Int.tmod q 7)) (m ++ l8) = some true ∧ marigraphlaw20_known.f k = some true
theorem foldTells_walk (P : FoldTells.Pure) (how : Int) (a1 : Option Addr) (len1 cap1 : Nat) (z1 : List Int) (a4 : Option Addr) (len4 cap4 : Nat) (f : Nat → Int × Int) (s : ByteArray) (w : World) (wh : (Lit.int .i64 how).wf = true)
    (w1 : (a1 = none ∧ len1 = 0 ∧ cap1 = 0 ∧ z1 = []) ∨ ∃ x, a1 = some x ∧ len1 ≤ cap1 ∧ cap1 ≤ maxLen ∧ z1.length = cap1 ∧ (∀ i, i < z1.length → w.cell? (x.add i) = some (.int .i64 (z1.getD i 0))) ∧ ∀ n ∈ z1, (Lit.int .i64 n).wf = true) (y1 : len1 * 8 ≤ 140737488351232)
    (hl4 : len4 ≤ cap4) (hm4 : cap4 ≤ maxLen) (hc4 : 0 < len4 → ∃ ad, a4 = some ad ∧ ∀ i, i < len4 → w.cell? (ad.add (i * 2)) = some (.int .i64 (f i).1) ∧ w.cell? (ad.add (i * 2 + 1)) = some (.int .i64 (f i).2))
    (hw4 : ∀ i, i < len4 → (Lit.int .i64 (f i).1).wf = true ∧ (Lit.int .i64 (f i).2).wf = true) :
    Calls Try.prog 3 #[.int .i64 how, .slice a1 len1 cap1, .slice a4 len4 cap4, .string s] w fun e w' => e = .returned (.bool true) ∧ Below w.heap.size w w' := by
  obtain ⟨l1, rfl, hr1, hm1, hw1, hc1⟩ := ReadsInt.ofRowC w1
  have hC := prs_C (f := f) hl4 hm4 hc4
  have hlen := prs_len f len4
  have hwf : ∀ x ∈ prs f len4, (Lit.int .i64 x.f0).wf = true ∧ (Lit.int .i64 x.f1).wf = true := by
    intro x hx
    unfold prs at hx
    obtain ⟨i, hi, rfl⟩ := List.mem_map.1 hx
    exact hw4 i (List.mem_range.1 hi)
  generalize prs f len4 = l4 at hC hlen hwf
  subst hlen
  obtain ⟨i0, hi0, _, hsz, _⟩ := info_parts info33
  by_cases h8 : 8 < l4.length
  · have e8 : (l4.take 8).length = 8 := by rw [List.length_take]; omega
    obtain ⟨k, nm, q, m, n, ok, g1, g2, g3, g4, g5, g6, g7, g8, g9, g10, g11, g12⟩ := P how l1 (l4.take 8) s wh hw1 (by omega) (fun x hx => hwf x (List.mem_of_mem_take hx))
    have hcut := cut_to (P := Try.prog) 23 33 .i64 Try.underlying23 hi0 a4 l4.length cap4 8 (by omega) (by omega) hl4
    exact foldTells_at k how _ _ l1 a4 cap4 l4 (l4.take 8) m (m ++ l4.take 8) ⟨rfl⟩ s nm q _ n _ ok w (Kd.C_of_reads (d := (0 : Int)) (h1 := fun _ => rfl) hr1) hc1 (Kd.C_take hC (by omega)) (by omega) (Or.inl ⟨decide_eq_true h8, decide_eq_true (by omega), by rw [e8]; exact hcut⟩) g1 (by omega) g3 rfl g4 g5 g2 rfl g8 g9 g10 g11 g6 g7 g12
  · obtain ⟨k, nm, q, m, n, ok, g1, g2, g3, g4, g5, g6, g7, g8, g9, g10, g11, g12⟩ := P how l1 l4 s wh hw1 (by omega) hwf
    exact foldTells_at k how _ _ l1 a4 cap4 l4 l4 m (m ++ l4) ⟨rfl⟩ s nm q _ n _ ok w (Kd.C_of_reads (d := (0 : Int)) (h1 := fun _ => rfl) hr1) hc1 hC hl4 (Or.inr ⟨decide_eq_false h8, decide_eq_false (by omega), rfl⟩) g1 (by omega) g3 rfl g4 g5 g2 rfl g8 g9 g10 g11 g6 g7 g12
end Go.Proofs.Ytgaikcpmnepegaa.PFoldTells

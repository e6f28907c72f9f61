/- The walk of the statement: part 11. -/
import Derived.Test.YtpnbpepkoekkoaaYRSCp8
import Derived.Test.YtpnbpepkoekkoaaZ22
import Derived.Test.YtpnbpepkoekkoaaYRSCp10
import Derived.Test.YtpnbpepkoekkoaaZ29
import Derived.Defers
import Derived.Laws.Pointers
import Derived.Recover
set_option linter.unusedVariables false
set_option linter.unusedSimpArgs false
section
namespace Go.Proofs.Ytpnbpepkoekkoaa
open Go Go.RowKit
open Go.RowKit
theorem atP {w : World} {b o i : Nat} {ts : List Pau} {t : Pau} (h : AtRow encP 4 w b o ts) (ht : ts[i]? = some t) :
  w.cell? ⟨b, o + i * 4, none⟩ = some (.int .i64 t.bar) ∧ w.cell? ⟨b, o + i * 4 + 1, none⟩ = some (.int .i64 t.kind) ∧ w.cell? ⟨b, o + i * 4 + 2, none⟩ = some (.int .i64 t.lo) ∧ w.cell? ⟨b, o + i * 4 + 3, none⟩ = some (.int .i64 t.hi) :=
 ⟨h i t ht 0 _ rfl, h i t ht 1 _ rfl, h i t ht 2 _ rfl, h i t ht 3 _ rfl⟩
theorem atC {w : World} {b o i : Nat} {ts : List Con} {t : Con} (h : AtRow encC 4 w b o ts) (ht : ts[i]? = some t) :
  w.cell? ⟨b, o + i * 4, none⟩ = some (.int .i64 t.frm) ∧ w.cell? ⟨b, o + i * 4 + 1, none⟩ = some (.int .i64 t.to) ∧ w.cell? ⟨b, o + i * 4 + 2, none⟩ = some (.int .i64 t.lo) ∧ w.cell? ⟨b, o + i * 4 + 3, none⟩ = some (.int .i64 t.hi) :=
 ⟨h i t ht 0 _ rfl, h i t ht 1 _ rfl, h i t ht 2 _ rfl, h i t ht 3 _ rfl⟩
def clkEnd (c : Clk) : Ending := if clkE c = 0 then .returned (.tuple #[]) else errPanic (clkE c)
theorem end_lim {c : Clk} (h : clkLim c = false) : errPanic 2 = clkEnd c := by unfold clkEnd clkE; rw [h]; rfl
theorem end_bad {c : Clk} (h1 : clkLim c = true) (h : clkB c = false) : errPanic 130 = clkEnd c := by unfold clkEnd clkE; rw [h1, h]; rfl
theorem end_ok {c : Clk} (h1 : clkLim c = true) (h : clkB c = true) : Ending.returned (.tuple #[]) = clkEnd c := by unfold clkEnd clkE; rw [h1, h]; rfl
theorem bad_head {c : Clk} (h : clkHead c = false) : clkB c = false := by unfold clkB; rw [h]; rfl
theorem bad_tmps {c : Clk} (h : tmpsB c.bars (-1) c.tempos = false) : clkB c = false := by unfold clkB; rw [h]; simp
theorem bad_ticks {c : Clk} (h : ticksB c.tempos c.bars.toNat = false) : clkB c = false := by unfold clkB; rw [h]; simp
theorem bad_paus {c : Clk} (h : pausB c.bars (-1) c.pauses = false) : clkB c = false := by unfold clkB; rw [h]; simp
theorem bad_cons {c : Clk} (h : c.spans.all (conB c.bars) = false) : clkB c = false := by unfold clkB; rw [h]; simp
theorem all_ok {c : Clk} (h1 : clkHead c = true) (h2 : tmpsB c.bars (-1) c.tempos = true) (h3 : ticksB c.tempos c.bars.toNat = true) (h4 : pausB c.bars (-1) c.pauses = true) (h5 : c.spans.all (conB c.bars) = true) : clkB c = true := by
 unfold clkB; rw [h1, h2, h3, h4, h5]; rfl
theorem ticksB_false {l : List Tmp} {k n : Nat} (h : ticksB l (k + 1) = false) (hk : k + 1 ≤ n) : ticksB l n = false := by
 induction n with
 | zero => omega
 | succ n ih =>
  rcases Nat.lt_or_ge n (k + 1) with h1 | h1
  ·have : n = k := by omega
   subst this; exact h
  ·unfold ticksB; rw [ih h1]; rfl
theorem ticksB_succ {l : List Tmp} {k : Nat} {b : Bool} (h : ticksB l k = true) (hb : inB (ticksAt l k) 1 65536 = b) : ticksB l (k + 1) = b := by
 unfold ticksB; rw [h, hb]; rfl
theorem drop_atQ {α : Type} {l : List α} {k : Nat} {x : α} (h : l[k]? = some x) : l.drop k = x :: l.drop (k + 1) := by
 obtain ⟨h1, h2⟩ := List.getElem?_eq_some_iff.1 h
 rw [← h2]; exact List.drop_eq_getElem_cons h1
theorem tmps_sorted {bars : Int} : ∀ {l : List Tmp} {last : Int}, tmpsB bars last l = true → SortedT l ∧ ∀ t ∈ l, last < t.bar ∧ t.bar ≤ bars - 1 ∧ -65536 ≤ t.ticks ∧ t.ticks ≤ 65536 ∧ -65536 ≤ t.step ∧ t.step ≤ 65536
 | [], _, _ => ⟨List.Pairwise.nil, fun _ h => by cases h⟩
 | t :: r, last, h => by
  unfold tmpsB tmpB at h
  simp only [Bool.and_eq_true, inB_iff] at h
  obtain ⟨⟨⟨h1, h2⟩, h3⟩, h4⟩ := h
  obtain ⟨i1, i2⟩ := tmps_sorted h4
  refine ⟨List.pairwise_cons.2 ⟨fun x hx => (i2 x hx).1, i1⟩, fun x hx => ?_⟩
  rcases List.mem_cons.1 hx with rfl | hx
  ·omega
  ·have := i2 x hx; omega
theorem upTo_pos {l : List Tmp} {t : Tmp} {bar : Int} (h : l[0]? = some t) (h0 : t.bar ≤ bar) : 0 < upTo l bar := by
 unfold upTo
 exact List.countP_pos_iff.2 ⟨t, List.mem_of_getElem? h, by simpa using h0⟩
theorem head_bar {c : Clk} {t : Tmp} (h : c.tempos[0]? = some t) (hb : ¬ t.bar = 0) : clkHead c = false := by
 unfold clkHead
 cases hc : c.tempos with
 | nil => simp
 | cons a r => rw [hc] at h; simp at h; subst h; simp [hb]
theorem head_ok {c : Clk} {t : Tmp} (h1 : inB c.bars 1 4096 = true) (h : c.tempos[0]? = some t) (hb : t.bar = 0) : clkHead c = true := by
 unfold clkHead
 rw [h1]
 cases hc : c.tempos with
 | nil => rw [hc] at h; simp at h
 | cons a r => rw [hc] at h; simp at h; subst h; simp [hb]
theorem lim_false {c : Clk} (h : 4096 < c.tempos.length ∨ 4096 < c.pauses.length ∨ 256 < c.spans.length) : clkLim c = false := by
 unfold clkLim
 rcases h with h | h | h
 ·rw [decide_eq_false (by omega : ¬ c.tempos.length ≤ 4096)]; rfl
 ·rw [decide_eq_false (by omega : ¬ c.pauses.length ≤ 4096)]; simp
 ·rw [decide_eq_false (by omega : ¬ c.spans.length ≤ 256)]; simp
theorem lim_true {c : Clk} (h1 : c.tempos.length ≤ 4096) (h2 : c.pauses.length ≤ 4096) (h3 : c.spans.length ≤ 256) : clkLim c = true := by
 unfold clkLim; rw [decide_eq_true h1, decide_eq_true h2, decide_eq_true h3]; rfl
set_option maxRecDepth 100000 in
set_option maxHeartbeats 8000000 in
theorem validate_lim1a (bars : Int) (aT aP aS : Option Addr) (cT cP cS : Nat) (ts : List Tmp) (ps : List Pau) (ss : List Con) (w : World)
  (hT : IsRow encT 3 w (.slice aT ts.length cT) ts) (hP : IsRow encP 4 w (.slice aP ps.length cP) ps) (hS : IsRow encC 4 w (.slice aS ss.length cS) ss) (hTP : ts.length < ps.length) (hbig : 4096 < ps.length) :
  Calls Try.prog 87 #[.agg #[.int .i64 bars, .slice aT ts.length cT, .slice aP ps.length cP, .slice aS ss.length cS]] w fun e w' => e = clkEnd ⟨bars, ts, ps, ss⟩ ∧ Below w.heap.size w w' := by
 generalize hclk : (⟨bars, ts, ps, ss⟩ : Clk) = clk
 have k1 : clk.bars = bars := by rw [← hclk]
 have k2 : clk.tempos = ts := by rw [← hclk]
 have k3 : clk.pauses = ps := by rw [← hclk]
 have k4 : clk.spans = ss := by rw [← hclk]
 have K1 := Lib.hid k1; have K2 := Lib.hid k2; have K3 := Lib.hid k3; have K4 := Lib.hid k4
 clear hclk k1 k2 k3 k4
 obtain ⟨_, _, _, lT, _⟩ := id hT
 obtain ⟨_, _, _, lP, _⟩ := id hP
 obtain ⟨_, _, _, lS, _⟩ := id hS
 unfold maxLen at lT lP lS
 have HT := Lib.hid hT; have HP := Lib.hid hP; have HS := Lib.hid hS
 clear hT hP hS
 generalize hnT : ts.length = nT at *
 generalize hnP : ps.length = nP at *
 generalize hnS : ss.length = nS at *
 have NT := Lib.hid hnT; have NP := Lib.hid hnP; have NS := Lib.hid hnS
 clear hnT hnP hnS
 have b0 : Below w.heap.size w (w.alloc (.cells #[.int .i64 bars, .slice aT nT cT, .slice aP nP cP, .slice aS nS cS] 118)) := (Below.refl _ w).alloc (Nat.le_refl _) _
 have g0 := heap_alloc_new w (.cells #[.int .i64 bars, .slice aT nT cT, .slice aP nP cP, .slice aS nS cS] 118)
 have hz0 : w.heap.size < (w.alloc (.cells #[.int .i64 bars, .slice aT nT cT, .slice aP nP cP, .slice aS nS cS] 118)).heap.size := by simp
 go_enter Try.func87, Try.ntmps87
 go_wp2_with fail
 generalize w.alloc (.cells #[.int .i64 bars, .slice aT nT cT, .slice aP nP cP, .slice aS nS cS] 118) = w0 at *
 have HB := Lib.hid b0; have G0 := Lib.hid g0
 clear b0
 have c0 : w0.cell? ⟨w.heap.size, 0, none⟩ = some (.int .i64 bars) := cell_at g0 0 rfl
 have c1 : w0.cell? ⟨w.heap.size, 1, none⟩ = some (.slice aT nT cT) := cell_at g0 1 rfl
 have c2 : w0.cell? ⟨w.heap.size, 2, none⟩ = some (.slice aP nP cP) := cell_at g0 2 rfl
 have c3 : w0.cell? ⟨w.heap.size, 3, none⟩ = some (.slice aS nS cS) := cell_at g0 3 rfl
 clear g0
 refine (need_badQ 2 _).mono ?_
 rintro e w' ⟨rfl, rfl⟩
 unfold errPanic
 go_wp2_with fail
 exact ⟨rfl, end_lim (lim_false (by rw [K2.out, K3.out, K4.out, NT.out, NP.out, NS.out]; omega)), HB.out⟩
set_option maxRecDepth 100000 in
set_option maxHeartbeats 8000000 in
theorem validate_lim2a (bars : Int) (aT aP aS : Option Addr) (cT cP cS : Nat) (ts : List Tmp) (ps : List Pau) (ss : List Con) (w : World)
  (hT : IsRow encT 3 w (.slice aT ts.length cT) ts) (hP : IsRow encP 4 w (.slice aP ps.length cP) ps) (hS : IsRow encC 4 w (.slice aS ss.length cS) ss) (hTP : ts.length < ps.length) (hok : ps.length ≤ 4096) (hbig : 256 < ss.length) :
  Calls Try.prog 87 #[.agg #[.int .i64 bars, .slice aT ts.length cT, .slice aP ps.length cP, .slice aS ss.length cS]] w fun e w' => e = clkEnd ⟨bars, ts, ps, ss⟩ ∧ Below w.heap.size w w' := by
 generalize hclk : (⟨bars, ts, ps, ss⟩ : Clk) = clk
 have k1 : clk.bars = bars := by rw [← hclk]
 have k2 : clk.tempos = ts := by rw [← hclk]
 have k3 : clk.pauses = ps := by rw [← hclk]
 have k4 : clk.spans = ss := by rw [← hclk]
 have K1 := Lib.hid k1; have K2 := Lib.hid k2; have K3 := Lib.hid k3; have K4 := Lib.hid k4
 clear hclk k1 k2 k3 k4
 obtain ⟨_, _, _, lT, _⟩ := id hT
 obtain ⟨_, _, _, lP, _⟩ := id hP
 obtain ⟨_, _, _, lS, _⟩ := id hS
 unfold maxLen at lT lP lS
 have HT := Lib.hid hT; have HP := Lib.hid hP; have HS := Lib.hid hS
 clear hT hP hS
 generalize hnT : ts.length = nT at *
 generalize hnP : ps.length = nP at *
 generalize hnS : ss.length = nS at *
 have NT := Lib.hid hnT; have NP := Lib.hid hnP; have NS := Lib.hid hnS
 clear hnT hnP hnS
 have b0 : Below w.heap.size w (w.alloc (.cells #[.int .i64 bars, .slice aT nT cT, .slice aP nP cP, .slice aS nS cS] 118)) := (Below.refl _ w).alloc (Nat.le_refl _) _
 have g0 := heap_alloc_new w (.cells #[.int .i64 bars, .slice aT nT cT, .slice aP nP cP, .slice aS nS cS] 118)
 have hz0 : w.heap.size < (w.alloc (.cells #[.int .i64 bars, .slice aT nT cT, .slice aP nP cP, .slice aS nS cS] 118)).heap.size := by simp
 have fS : decide ((nS : Int) ≤ 256) = false := by simpa using by omega
 have fM : ((nP : Nat) : Int) ≤ 4096 := by omega
 go_enter Try.func87, Try.ntmps87
 go_wp2_with fail
 generalize w.alloc (.cells #[.int .i64 bars, .slice aT nT cT, .slice aP nP cP, .slice aS nS cS] 118) = w0 at *
 have HB := Lib.hid b0; have G0 := Lib.hid g0
 clear b0
 have c0 : w0.cell? ⟨w.heap.size, 0, none⟩ = some (.int .i64 bars) := cell_at g0 0 rfl
 have c1 : w0.cell? ⟨w.heap.size, 1, none⟩ = some (.slice aT nT cT) := cell_at g0 1 rfl
 have c2 : w0.cell? ⟨w.heap.size, 2, none⟩ = some (.slice aP nP cP) := cell_at g0 2 rfl
 have c3 : w0.cell? ⟨w.heap.size, 3, none⟩ = some (.slice aS nS cS) := cell_at g0 3 rfl
 clear g0
 refine (need_badQ 2 _).mono ?_
 rintro e w' ⟨rfl, rfl⟩
 unfold errPanic
 go_wp2_with fail
 exact ⟨rfl, end_lim (lim_false (by rw [K2.out, K3.out, K4.out, NT.out, NP.out, NS.out]; omega)), HB.out⟩
set_option maxRecDepth 100000 in
set_option maxHeartbeats 8000000 in
theorem validate_maina (bars : Int) (aT aP aS : Option Addr) (cT cP cS : Nat) (ts : List Tmp) (ps : List Pau) (ss : List Con) (w : World)
  (hT : IsRow encT 3 w (.slice aT ts.length cT) ts) (hP : IsRow encP 4 w (.slice aP ps.length cP) ps) (hS : IsRow encC 4 w (.slice aS ss.length cS) ss) (hTP : ts.length < ps.length) (hok : ps.length ≤ 4096) (hok2 : ss.length ≤ 256) :
  Calls Try.prog 87 #[.agg #[.int .i64 bars, .slice aT ts.length cT, .slice aP ps.length cP, .slice aS ss.length cS]] w fun e w' => e = clkEnd ⟨bars, ts, ps, ss⟩ ∧ Below w.heap.size w w' := by
 generalize hclk : (⟨bars, ts, ps, ss⟩ : Clk) = clk
 have k1 : clk.bars = bars := by rw [← hclk]
 have k2 : clk.tempos = ts := by rw [← hclk]
 have k3 : clk.pauses = ps := by rw [← hclk]
 have k4 : clk.spans = ss := by rw [← hclk]
 have K1 := Lib.hid k1; have K2 := Lib.hid k2; have K3 := Lib.hid k3; have K4 := Lib.hid k4
 clear hclk k1 k2 k3 k4
 obtain ⟨_, _, _, lT, _⟩ := id hT
 obtain ⟨_, _, _, lP, _⟩ := id hP
 obtain ⟨_, _, _, lS, _⟩ := id hS
 unfold maxLen at lT lP lS
 have HT := Lib.hid hT; have HP := Lib.hid hP; have HS := Lib.hid hS
 clear hT hP hS
 generalize hnT : ts.length = nT at *
 generalize hnP : ps.length = nP at *
 generalize hnS : ss.length = nS at *
 have NT := Lib.hid hnT; have NP := Lib.hid hnP; have NS := Lib.hid hnS
 clear hnT hnP hnS
 have b0 : Below w.heap.size w (w.alloc (.cells #[.int .i64 bars, .slice aT nT cT, .slice aP nP cP, .slice aS nS cS] 118)) := (Below.refl _ w).alloc (Nat.le_refl _) _
 have g0 := heap_alloc_new w (.cells #[.int .i64 bars, .slice aT nT cT, .slice aP nP cP, .slice aS nS cS] 118)
 have hz0 : w.heap.size < (w.alloc (.cells #[.int .i64 bars, .slice aT nT cT, .slice aP nP cP, .slice aS nS cS] 118)).heap.size := by simp
 have fS : decide ((nS : Int) ≤ 256) = true := by simpa using by omega
 have fM : ((nP : Nat) : Int) ≤ 4096 := by omega
 have LIM : Hid (clkLim clk = true) := Lib.hid (lim_true (by rw [K2.out, NT.out]; omega) (by rw [K3.out, NP.out]; omega) (by rw [K4.out, NS.out]; omega))
 go_enter Try.func87, Try.ntmps87
 go_wp2_with fail
 generalize w.alloc (.cells #[.int .i64 bars, .slice aT nT cT, .slice aP nP cP, .slice aS nS cS] 118) = w0 at *
 have HB := Lib.hid b0; have G0 := Lib.hid g0
 clear b0
 have c0 : w0.cell? ⟨w.heap.size, 0, none⟩ = some (.int .i64 bars) := cell_at g0 0 rfl
 have c1 : w0.cell? ⟨w.heap.size, 1, none⟩ = some (.slice aT nT cT) := cell_at g0 1 rfl
 have c2 : w0.cell? ⟨w.heap.size, 2, none⟩ = some (.slice aP nP cP) := cell_at g0 2 rfl
 have c3 : w0.cell? ⟨w.heap.size, 3, none⟩ = some (.slice aS nS cS) := cell_at g0 3 rfl
 clear g0
 refine (need_okQ 2 _).mono ?_
 rintro e w' ⟨rfl, rfl⟩
 clear fS fM
 go_wp2_with fail
 refine (tin_any bars 1 4096 _).mono ?_
 rintro e w' ⟨rfl, rfl⟩
 cases h1 : inB bars 1 4096 with
 | false =>
  go_wp2_with fail
  refine (need_badQ 130 _).mono ?_
  rintro e w' ⟨rfl, rfl⟩
  unfold errPanic
  go_wp2_with fail
  exact ⟨rfl, end_bad LIM.out (bad_head (by unfold clkHead; rw [K1.out, h1]; rfl)), HB.out⟩
 | true =>
  have H1 := Lib.hid h1
  obtain ⟨h1a, h1b⟩ := inB_iff.1 h1
  clear h1
  obtain ⟨B, hB⟩ : ∃ B : Nat, bars = (B : Int) := ⟨bars.toNat, by omega⟩
  subst hB
  have hBl : B ≤ 4096 := by omega
  have hBp : 1 ≤ B := by omega
  clear h1a h1b
  by_cases hne : 0 < nT
  rotate_left
  ·have f0 : ¬ (0 : Int) < (nT : Int) := by omega
   have he : ts = [] := List.length_eq_zero_iff.1 (by rw [NT.out]; omega)
   go_wp2_with fail
   refine (need_badQ 130 _).mono ?_
   rintro e w' ⟨rfl, rfl⟩
   unfold errPanic
   go_wp2_with fail
   exact ⟨rfl, end_bad LIM.out (bad_head (by unfold clkHead; rw [K1.out, K2.out, he]; simp)), HB.out⟩
  obtain ⟨t0, ht0⟩ : ∃ t, ts[0]? = some t := ⟨_, List.getElem?_eq_getElem (by rw [NT.out]; exact hne)⟩
  obtain ⟨b, o, hao, hat, hlt⟩ := HT.out.block ht0
  subst hao
  have HAT := Lib.hid hat; clear hat
  have hne' : (0 : Int) < (nT : Int) := by omega
  have p0 : w0.cell? ⟨b, o, none⟩ = some (.int .i64 t0.bar) := by
   have := (atT (HAT.out.below HB.out hlt) ht0).1; simpa using this
  have HT0 := Lib.hid ht0; clear ht0
  by_cases h0 : t0.bar = 0
  rotate_left
  ·have f0 : (t0.bar == 0) = false := by simpa using h0
   have HH := Lib.hid h0; clear h0
   go_wp2_with fail
   refine (need_badQ 130 _).mono ?_
   rintro e w' ⟨rfl, rfl⟩
   unfold errPanic
   go_wp2_with fail
   exact ⟨rfl, end_bad LIM.out (bad_head (head_bar (by rw [K2.out]; exact HT0.out) HH.out)), HB.out⟩
  have f0 : (t0.bar == 0) = true := by simpa using h0
  have HH := Lib.hid h0; clear h0
  have HEAD : Hid (clkHead clk = true) := Lib.hid (head_ok (by rw [K1.out]; exact H1.out) (by rw [K2.out]; exact HT0.out) HH.out)
  go_wp2_with fail
  refine (need_okQ 130 _).mono ?_
  rintro e w' ⟨rfl, rfl⟩
  clear f0 p0
  go_wp2_with fail
  clear c0 c1 c2 c3
  go_loopw [2, 46] (fun lv iv wr => ∃ (k : Nat) (last : Int), k ≤ nT ∧ iv = .int .i64 k ∧ lv = .int .i64 last ∧ -1 ≤ last ∧ last ≤ 4096 ∧ Hid (tmpsB B (-1) ts = tmpsB B last (ts.drop k)) ∧ w.heap.size < wr.heap.size ∧ Hid (wr.heap[w.heap.size]? = some (.cells #[.int .i64 (B : Int), .slice (some ⟨b, o, none⟩) nT cT, .slice aP nP cP, .slice aS nS cS] 118 (0, 0))) ∧ Hid (Below w.heap.size w wr)) (fun _ iv _ => nT - (intOf iv).toNat)
  case atStart => exact ⟨0, -1, Nat.zero_le _, rfl, rfl, by omega, by omega, Lib.hid rfl, hz0, G0, HB⟩
  case round =>
   clear HB G0 hz0
   obtain ⟨k, last, hk, rfl, rfl, hl1, hl2, htm, hsz, hbx, hbw⟩ := hrel
   by_cases hkn : k < nT
   ·obtain ⟨t, ht⟩ : ∃ t, ts[k]? = some t := ⟨_, List.getElem?_eq_getElem (by rw [NT.out]; exact hkn)⟩
    obtain ⟨p0, p1, p2⟩ := atT (HAT.out.below hbw.out hlt) ht
    have hbs : b < wr.heap.size := by have := hbw.out.size; omega
    have HTt := Lib.hid ht; clear ht
    have hkn' : (k : Int) < (nT : Int) := by omega
    have c0 : wr.cell? ⟨w.heap.size, 0, none⟩ = some (.int .i64 (B : Int)) := cell_at hbx.out 0 rfl
    have x0 := (Below.heap_alloc wr (.cells #[.int .i64 t.bar, .int .i64 t.ticks, .int .i64 t.step] 135) w.heap.size hsz).trans hbx.out
    have x2 := heap_alloc_new wr (.cells #[.int .i64 t.bar, .int .i64 t.ticks, .int .i64 t.step] 135)
    have x3 : Below w.heap.size w (wr.alloc (.cells #[.int .i64 t.bar, .int .i64 t.ticks, .int .i64 t.step] 135)) := hbw.out.alloc (by omega) _
    have x4 : w.heap.size < (wr.alloc (.cells #[.int .i64 t.bar, .int .i64 t.ticks, .int .i64 t.step] 135)).heap.size := by simp; omega
    have X0 := Lib.hid x0; have X2 := Lib.hid x2; have HB5 := Lib.hid x3
    clear x0 x2 x3
    go_wp2_with fail
    generalize wr.alloc (.cells #[.int .i64 t.bar, .int .i64 t.ticks, .int .i64 t.step] 135) = w5 at *
    generalize wr.heap.size = gw at *
    clear c0 p0 p1 p2
    have c0 : w5.cell? ⟨w.heap.size, 0, none⟩ = some (.int .i64 (B : Int)) := cell_at X0.out 0 rfl
    have l0 : w5.cell? ⟨gw, 0, none⟩ = some (.int .i64 t.bar) := cell_at X2.out 0 rfl
    have l1 : w5.cell? ⟨gw, 1, none⟩ = some (.int .i64 t.ticks) := cell_at X2.out 1 rfl
    have l2 : w5.cell? ⟨gw, 2, none⟩ = some (.int .i64 t.step) := cell_at X2.out 2 rfl
    clear X2 hbx hbw
    refine (tin_any t.bar (last + 1) ((B : Int) - 1) _).mono ?_
    rintro e w' ⟨rfl, rfl⟩
    cases q0 : inB t.bar (last + 1) ((B : Int) - 1) with
    | false =>
     go_wp2_with fail
     refine (need_badQ 130 _).mono ?_
     rintro e w' ⟨rfl, rfl⟩
     unfold errPanic
     go_wp2_with fail
     exact ⟨rfl, end_bad LIM.out (bad_tmps (by rw [K1.out, K2.out, htm.out, drop_atQ HTt.out]; simp [tmpsB, tmpB, q0])), HB5.out⟩
    | true =>
     have Q0 := Lib.hid q0; clear q0
     go_wp2_with fail
     refine (tin_any t.ticks (-65536) 65536 _).mono ?_
     rintro e w' ⟨rfl, rfl⟩
     cases q1 : inB t.ticks (-65536) 65536 with
     | false =>
      go_wp2_with fail
      refine (need_badQ 130 _).mono ?_
      rintro e w' ⟨rfl, rfl⟩
      unfold errPanic
      go_wp2_with fail
      exact ⟨rfl, end_bad LIM.out (bad_tmps (by rw [K1.out, K2.out, htm.out, drop_atQ HTt.out]; simp [tmpsB, tmpB, Q0.out, q1])), HB5.out⟩
     | true =>
      have Q1 := Lib.hid q1; clear q1
      go_wp2_with fail
      refine (tin_any t.step (-65536) 65536 _).mono ?_
      rintro e w' ⟨rfl, rfl⟩
      cases q2 : inB t.step (-65536) 65536 with
      | false =>
       go_wp2_with fail
       refine (need_badQ 130 _).mono ?_
       rintro e w' ⟨rfl, rfl⟩
       unfold errPanic
       go_wp2_with fail
       exact ⟨rfl, end_bad LIM.out (bad_tmps (by rw [K1.out, K2.out, htm.out, drop_atQ HTt.out]; simp [tmpsB, tmpB, Q0.out, Q1.out, q2])), HB5.out⟩
      | true =>
       have Q2 := Lib.hid q2; clear q2
       go_wp2_with fail
       refine (need_okQ 130 _).mono ?_
       rintro e w' ⟨rfl, rfl⟩
       go_wp2_with fail
       go_roundw
       case rel => exact ⟨k + 1, t.bar, by omega, by go_num, rfl, by have := inB_iff.1 Q0.out; omega, by have := inB_iff.1 Q0.out; omega, Lib.hid (by rw [htm.out, drop_atQ HTt.out]; simp [tmpsB, tmpB, Q0.out, Q1.out, Q2.out]), x4, X0, HB5⟩
       case measure => simp [intOf]; omega
   ·obtain rfl : nT = k := by omega
    have hin : ¬ (nT : Int) < (nT : Int) := by omega
    have TM : Hid (tmpsB B (-1) ts = true) := Lib.hid (by rw [htm.out, List.drop_of_length_le (by rw [NT.out]; exact Nat.le_refl _)]; rfl)
    clear htm hl1 hl2
    have ⟨hso, hall⟩ := tmps_sorted TM.out
    have NW : Hid (∀ j : Nat, j < B → NoWrap ts j) := Lib.hid (fun j hj => ⟨hso, upTo_pos HT0.out (by rw [HH.out]; omega), by omega, by omega, fun t ht => by have := hall t ht; omega⟩)
    clear hso hall
    have c0 : wr.cell? ⟨w.heap.size, 0, none⟩ = some (.int .i64 (B : Int)) := cell_at hbx.out 0 rfl
    go_wp2_with fail
    clear c0 hin
    go_loopw [74] (fun iv wr => ∃ j : Nat, j ≤ B ∧ iv = .int .i64 j ∧ Hid (ticksB ts j = true) ∧ w.heap.size < wr.heap.size ∧ Hid (wr.heap[w.heap.size]? = some (.cells #[.int .i64 (B : Int), .slice (some ⟨b, o, none⟩) nT cT, .slice aP nP cP, .slice aS nS cS] 118 (0, 0))) ∧ Hid (Below w.heap.size w wr)) (fun iv _ => B - (intOf iv).toNat)
    case atStart => exact ⟨0, Nat.zero_le _, rfl, Lib.hid rfl, hsz, hbx, hbw⟩
    case round =>
     clear hbx hbw hsz
     obtain ⟨j, hj, rfl, htk, hsz, hbx, hbw⟩ := hrel
     by_cases hjB : j < B
     ·have hjB' : (j : Int) < (B : Int) := by omega
      have c0 : wr.cell? ⟨w.heap.size, 0, none⟩ = some (.int .i64 (B : Int)) := cell_at hbx.out 0 rfl
      have c1 : wr.cell? ⟨w.heap.size, 1, none⟩ = some (.slice (some ⟨b, o, none⟩) nT cT) := cell_at hbx.out 1 rfl
      have c2 : wr.cell? ⟨w.heap.size, 2, none⟩ = some (.slice aP nP cP) := cell_at hbx.out 2 rfl
      have c3 : wr.cell? ⟨w.heap.size, 3, none⟩ = some (.slice aS nS cS) := cell_at hbx.out 3 rfl
      go_wp2_with fail
      refine (ticks_any B j b o nT cT (.slice aP nP cP) (.slice aS nS cS) ts wr NT.out (by omega) (HAT.out.below hbw.out hlt) (by have := hbw.out.size; omega) (NW.out j hjB)).mono ?_
      rintro e w5 ⟨rfl, b5⟩
      have hz5 := b5.size
      have x0 := (b5.block _ hsz).trans hbx.out
      have HB5 := Lib.hid (hbw.out.trans (b5.mono (by omega)))
      have X0 := Lib.hid x0
      have hsz5 : w.heap.size < w5.heap.size := by omega
      clear x0 b5 c0 c1 c2 c3 hbx hbw hz5
      generalize hg : ticksAt ts j = g
      have HG := Lib.hid hg; clear hg
      go_wp2_with fail
      refine (tin_any g 1 65536 _).mono ?_
      rintro e w' ⟨rfl, rfl⟩
      cases h2 : inB g 1 65536 with
      | false =>
       go_wp2_with fail
       refine (need_badQ 130 _).mono ?_
       rintro e w' ⟨rfl, rfl⟩
       unfold errPanic
       go_wp2_with fail
       exact ⟨rfl, end_bad LIM.out (bad_ticks (by rw [K2.out, K1.out, Int.toNat_natCast]; exact ticksB_false (ticksB_succ htk.out (by rw [HG.out]; exact h2)) (by omega))), HB5.out⟩
      | true =>
       have H2 := Lib.hid h2; clear h2
       go_wp2_with fail
       refine (need_okQ 130 _).mono ?_
       rintro e w' ⟨rfl, rfl⟩
       go_wp2_with fail
       go_roundw
       case rel => exact ⟨j + 1, by omega, by go_num, Lib.hid (ticksB_succ htk.out (by rw [HG.out]; exact H2.out)), hsz5, X0, HB5⟩
       case measure => simp [intOf]; omega
     ·obtain rfl : B = j := by omega
      have hin : ¬ (B : Int) < (B : Int) := by omega
      have c2 : wr.cell? ⟨w.heap.size, 2, none⟩ = some (.slice aP nP cP) := cell_at hbx.out 2 rfl
      go_wp2_with fail
      clear c2 hin
      go_loopw [2, 86] (fun lv iv wr => ∃ (i : Nat) (last : Int), i ≤ nP ∧ iv = .int .i64 i ∧ lv = .int .i64 last ∧ -1 ≤ last ∧ last ≤ 4096 ∧ Hid (pausB B (-1) ps = pausB B last (ps.drop i)) ∧ w.heap.size < wr.heap.size ∧ Hid (wr.heap[w.heap.size]? = some (.cells #[.int .i64 (B : Int), .slice (some ⟨b, o, none⟩) nT cT, .slice aP nP cP, .slice aS nS cS] 118 (0, 0))) ∧ Hid (Below w.heap.size w wr)) (fun _ iv _ => nP - (intOf iv).toNat)
      case atStart => exact ⟨0, -1, Nat.zero_le _, rfl, rfl, by omega, by omega, Lib.hid rfl, hsz, hbx, hbw⟩
      case round =>
       clear hsz hbx hbw
       obtain ⟨i, last, hi, rfl, rfl, hl1, hl2, htm, hsz, hbx, hbw⟩ := hrel
       by_cases hkn : i < nP
       ·obtain ⟨t, ht⟩ : ∃ t, ps[i]? = some t := ⟨_, List.getElem?_eq_getElem (by rw [NP.out]; exact hkn)⟩
        obtain ⟨bp, op, hap, hatp, hltp⟩ := HP.out.block ht
        subst hap
        obtain ⟨p0, p1, p2, p3⟩ := atP (hatp.below hbw.out hltp) ht
        have hbs : bp < wr.heap.size := by have := hbw.out.size; omega
        clear hatp
        have HTt := Lib.hid ht; clear ht
        have hkn' : (i : Int) < (nP : Int) := by omega
        have c0 : wr.cell? ⟨w.heap.size, 0, none⟩ = some (.int .i64 (B : Int)) := cell_at hbx.out 0 rfl
        have x0 := (Below.heap_alloc wr (.cells #[.int .i64 t.bar, .int .i64 t.kind, .int .i64 t.lo, .int .i64 t.hi] 147) w.heap.size hsz).trans hbx.out
        have x2 := heap_alloc_new wr (.cells #[.int .i64 t.bar, .int .i64 t.kind, .int .i64 t.lo, .int .i64 t.hi] 147)
        have x3 : Below w.heap.size w (wr.alloc (.cells #[.int .i64 t.bar, .int .i64 t.kind, .int .i64 t.lo, .int .i64 t.hi] 147)) := hbw.out.alloc (by omega) _
        have x4 : w.heap.size < (wr.alloc (.cells #[.int .i64 t.bar, .int .i64 t.kind, .int .i64 t.lo, .int .i64 t.hi] 147)).heap.size := by simp; omega
        have X0 := Lib.hid x0; have X2 := Lib.hid x2; have HB5 := Lib.hid x3
        clear x0 x2 x3
        go_wp2_with fail
        generalize wr.alloc (.cells #[.int .i64 t.bar, .int .i64 t.kind, .int .i64 t.lo, .int .i64 t.hi] 147) = w5 at *
        generalize wr.heap.size = gw at *
        clear c0 p0 p1 p2 p3
        have c0 : w5.cell? ⟨w.heap.size, 0, none⟩ = some (.int .i64 (B : Int)) := cell_at X0.out 0 rfl
        have l0 : w5.cell? ⟨gw, 0, none⟩ = some (.int .i64 t.bar) := cell_at X2.out 0 rfl
        have l1 : w5.cell? ⟨gw, 1, none⟩ = some (.int .i64 t.kind) := cell_at X2.out 1 rfl
        have l2 : w5.cell? ⟨gw, 2, none⟩ = some (.int .i64 t.lo) := cell_at X2.out 2 rfl
        have l3 : w5.cell? ⟨gw, 3, none⟩ = some (.int .i64 t.hi) := cell_at X2.out 3 rfl
        clear X2 hbx hbw
        refine (tin_any t.bar (last + 1) ((B : Int) - 2) _).mono ?_
        rintro e w' ⟨rfl, rfl⟩
        cases q0 : inB t.bar (last + 1) ((B : Int) - 2) with
        | false =>
         go_wp2_with fail
         refine (need_badQ 130 _).mono ?_
         rintro e w' ⟨rfl, rfl⟩
         unfold errPanic
         go_wp2_with fail
         exact ⟨rfl, end_bad LIM.out (bad_paus (by rw [K1.out, K3.out, htm.out, drop_atQ HTt.out]; simp [pausB, pauB, q0])), HB5.out⟩
        | true =>
         have Q0 := Lib.hid q0; clear q0
         go_wp2_with fail
         refine (tin_any t.kind 1 2 _).mono ?_
         rintro e w' ⟨rfl, rfl⟩
         cases q1 : inB t.kind 1 2 with
         | false =>
          go_wp2_with fail
          refine (need_badQ 130 _).mono ?_
          rintro e w' ⟨rfl, rfl⟩
          unfold errPanic
          go_wp2_with fail
          exact ⟨rfl, end_bad LIM.out (bad_paus (by rw [K1.out, K3.out, htm.out, drop_atQ HTt.out]; simp [pausB, pauB, Q0.out, q1])), HB5.out⟩
         | true =>
          have Q1 := Lib.hid q1; clear q1
          go_wp2_with fail
          refine (tin_any t.lo 0 t.hi _).mono ?_
          rintro e w' ⟨rfl, rfl⟩
          cases q2 : inB t.lo 0 t.hi with
          | false =>
           go_wp2_with fail
           refine (need_badQ 130 _).mono ?_
           rintro e w' ⟨rfl, rfl⟩
           unfold errPanic
           go_wp2_with fail
           exact ⟨rfl, end_bad LIM.out (bad_paus (by rw [K1.out, K3.out, htm.out, drop_atQ HTt.out]; simp [pausB, pauB, Q0.out, Q1.out, q2])), HB5.out⟩
          | true =>
           have Q2 := Lib.hid q2; clear q2
           go_wp2_with fail
           cases q3 : decide (t.hi ≤ 1048576) with
           | false =>
            refine (need_badQ 130 _).mono ?_
            rintro e w' ⟨rfl, rfl⟩
            unfold errPanic
            go_wp2_with fail
            exact ⟨rfl, end_bad LIM.out (bad_paus (by rw [K1.out, K3.out, htm.out, drop_atQ HTt.out]; simp [pausB, pauB, Q0.out, Q1.out, Q2.out, of_decide_eq_false q3])), HB5.out⟩
           | true =>
            have Q3 := Lib.hid (of_decide_eq_true q3); clear q3
            refine (need_okQ 130 _).mono ?_
            rintro e w' ⟨rfl, rfl⟩
            go_wp2_with fail
            go_roundw
            case rel => exact ⟨i + 1, t.bar, by omega, by go_num, rfl, by have := inB_iff.1 Q0.out; omega, by have := inB_iff.1 Q0.out; omega, Lib.hid (by rw [htm.out, drop_atQ HTt.out]; simp [pausB, pauB, Q0.out, Q1.out, Q2.out, Q3.out]), x4, X0, HB5⟩
            case measure => simp [intOf]; omega
       ·obtain rfl : nP = i := by omega
        have hin : ¬ (nP : Int) < (nP : Int) := by omega
        have PM : Hid (pausB B (-1) ps = true) := Lib.hid (by rw [htm.out, List.drop_of_length_le (by rw [NP.out]; exact Nat.le_refl _)]; rfl)
        clear htm hl1 hl2
        have c3 : wr.cell? ⟨w.heap.size, 3, none⟩ = some (.slice aS nS cS) := cell_at hbx.out 3 rfl
        go_wp2_with fail
        clear c3 hin
        go_loopw [122] (fun iv wr => ∃ i : Nat, i ≤ nS ∧ iv = .int .i64 i ∧ Hid (ss.all (conB B) = (ss.drop i).all (conB B)) ∧ w.heap.size < wr.heap.size ∧ Hid (wr.heap[w.heap.size]? = some (.cells #[.int .i64 (B : Int), .slice (some ⟨b, o, none⟩) nT cT, .slice aP nP cP, .slice aS nS cS] 118 (0, 0))) ∧ Hid (Below w.heap.size w wr)) (fun iv _ => nS - (intOf iv).toNat)
        case atStart => exact ⟨0, Nat.zero_le _, rfl, Lib.hid rfl, hsz, hbx, hbw⟩
        case round =>
         clear hsz hbx hbw
         obtain ⟨i, hi, rfl, htm, hsz, hbx, hbw⟩ := hrel
         by_cases hkn : i < nS
         ·obtain ⟨t, ht⟩ : ∃ t, ss[i]? = some t := ⟨_, List.getElem?_eq_getElem (by rw [NS.out]; exact hkn)⟩
          obtain ⟨bp, op, hap, hatp, hltp⟩ := HS.out.block ht
          subst hap
          obtain ⟨p0, p1, p2, p3⟩ := atC (hatp.below hbw.out hltp) ht
          have hbs : bp < wr.heap.size := by have := hbw.out.size; omega
          clear hatp
          have HTt := Lib.hid ht; clear ht
          have hkn' : (i : Int) < (nS : Int) := by omega
          have c0 : wr.cell? ⟨w.heap.size, 0, none⟩ = some (.int .i64 (B : Int)) := cell_at hbx.out 0 rfl
          have x0 := (Below.heap_alloc wr (.cells #[.int .i64 t.frm, .int .i64 t.to, .int .i64 t.lo, .int .i64 t.hi] 149) w.heap.size hsz).trans hbx.out
          have x2 := heap_alloc_new wr (.cells #[.int .i64 t.frm, .int .i64 t.to, .int .i64 t.lo, .int .i64 t.hi] 149)
          have x3 : Below w.heap.size w (wr.alloc (.cells #[.int .i64 t.frm, .int .i64 t.to, .int .i64 t.lo, .int .i64 t.hi] 149)) := hbw.out.alloc (by omega) _
          have x4 : w.heap.size < (wr.alloc (.cells #[.int .i64 t.frm, .int .i64 t.to, .int .i64 t.lo, .int .i64 t.hi] 149)).heap.size := by simp; omega
          have X0 := Lib.hid x0; have X2 := Lib.hid x2; have HB5 := Lib.hid x3
          clear x0 x2 x3
          go_wp2_with fail
          generalize wr.alloc (.cells #[.int .i64 t.frm, .int .i64 t.to, .int .i64 t.lo, .int .i64 t.hi] 149) = w5 at *
          generalize wr.heap.size = gw at *
          clear c0 p0 p1 p2 p3
          have c0 : w5.cell? ⟨w.heap.size, 0, none⟩ = some (.int .i64 (B : Int)) := cell_at X0.out 0 rfl
          have l0 : w5.cell? ⟨gw, 0, none⟩ = some (.int .i64 t.frm) := cell_at X2.out 0 rfl
          have l1 : w5.cell? ⟨gw, 1, none⟩ = some (.int .i64 t.to) := cell_at X2.out 1 rfl
          have l2 : w5.cell? ⟨gw, 2, none⟩ = some (.int .i64 t.lo) := cell_at X2.out 2 rfl
          have l3 : w5.cell? ⟨gw, 3, none⟩ = some (.int .i64 t.hi) := cell_at X2.out 3 rfl
          clear X2 hbx hbw
          refine (tin_any t.frm 0 (B : Int) _).mono ?_
          rintro e w' ⟨rfl, rfl⟩
          cases q0 : inB t.frm 0 (B : Int) with
          | false =>
           go_wp2_with fail
           refine (need_badQ 130 _).mono ?_
           rintro e w' ⟨rfl, rfl⟩
           unfold errPanic
           go_wp2_with fail
           exact ⟨rfl, end_bad LIM.out (bad_cons (by rw [K1.out, K4.out, htm.out, drop_atQ HTt.out]; simp [conB, q0])), HB5.out⟩
          | true =>
           have Q0 := Lib.hid q0; clear q0
           go_wp2_with fail
           refine (tin_any t.to 0 (B : Int) _).mono ?_
           rintro e w' ⟨rfl, rfl⟩
           cases q1 : inB t.to 0 (B : Int) with
           | false =>
            go_wp2_with fail
            refine (need_badQ 130 _).mono ?_
            rintro e w' ⟨rfl, rfl⟩
            unfold errPanic
            go_wp2_with fail
            exact ⟨rfl, end_bad LIM.out (bad_cons (by rw [K1.out, K4.out, htm.out, drop_atQ HTt.out]; simp [conB, Q0.out, q1])), HB5.out⟩
           | true =>
            have Q1 := Lib.hid q1; clear q1
            by_cases q2 : t.frm = t.to
            ·have f2 : (t.frm != t.to) = false := by simpa using q2
             have Q2 := Lib.hid q2; clear q2
             go_wp2_with fail
             refine (need_badQ 130 _).mono ?_
             rintro e w' ⟨rfl, rfl⟩
             unfold errPanic
             go_wp2_with fail
             exact ⟨rfl, end_bad LIM.out (bad_cons (by rw [K1.out, K4.out, htm.out, drop_atQ HTt.out]; simp [conB, Q1.out, Q2.out])), HB5.out⟩
            have f2 : (t.frm != t.to) = true := by simpa using q2
            have Q2 := Lib.hid q2; clear q2
            go_wp2_with fail
            clear f2
            refine (tin_any t.lo (-1099511627776) t.hi _).mono ?_
            rintro e w' ⟨rfl, rfl⟩
            cases q3 : inB t.lo (-1099511627776) t.hi with
            | false =>
             go_wp2_with fail
             refine (need_badQ 130 _).mono ?_
             rintro e w' ⟨rfl, rfl⟩
             unfold errPanic
             go_wp2_with fail
             exact ⟨rfl, end_bad LIM.out (bad_cons (by rw [K1.out, K4.out, htm.out, drop_atQ HTt.out]; simp [conB, Q0.out, Q1.out, Q2.out, q3])), HB5.out⟩
            | true =>
             have Q3 := Lib.hid q3; clear q3
             go_wp2_with fail
             cases q4 : decide (t.hi ≤ 1099511627776) with
             | false =>
              refine (need_badQ 130 _).mono ?_
              rintro e w' ⟨rfl, rfl⟩
              unfold errPanic
              go_wp2_with fail
              exact ⟨rfl, end_bad LIM.out (bad_cons (by rw [K1.out, K4.out, htm.out, drop_atQ HTt.out]; simp [conB, Q0.out, Q1.out, Q2.out, Q3.out, of_decide_eq_false q4])), HB5.out⟩
             | true =>
              have Q4 := Lib.hid (of_decide_eq_true q4); clear q4
              refine (need_okQ 130 _).mono ?_
              rintro e w' ⟨rfl, rfl⟩
              go_wp2_with fail
              go_roundw
              case rel => exact ⟨i + 1, by omega, by go_num, Lib.hid (by rw [htm.out, drop_atQ HTt.out]; simp [conB, Q0.out, Q1.out, Q2.out, Q3.out, Q4.out]), x4, X0, HB5⟩
              case measure => simp [intOf]; omega
         ·obtain rfl : nS = i := by omega
          have hin : ¬ (nS : Int) < (nS : Int) := by omega
          have SM : Hid (ss.all (conB B) = true) := Lib.hid (by rw [htm.out, List.drop_of_length_le (by rw [NS.out]; exact Nat.le_refl _)]; rfl)
          clear htm
          go_wp2_with fail
          go_end0
          exact ⟨end_ok LIM.out (all_ok HEAD.out (by rw [K1.out, K2.out]; exact TM.out) (by rw [K1.out, K2.out, Int.toNat_natCast]; exact htk.out) (by rw [K1.out, K3.out]; exact PM.out) (by rw [K1.out, K4.out]; exact SM.out)), hbw.out⟩
set_option maxRecDepth 100000 in
set_option maxHeartbeats 8000000 in
theorem validate_lim1b (bars : Int) (aT aP aS : Option Addr) (cT cP cS : Nat) (ts : List Tmp) (ps : List Pau) (ss : List Con) (w : World)
  (hT : IsRow encT 3 w (.slice aT ts.length cT) ts) (hP : IsRow encP 4 w (.slice aP ps.length cP) ps) (hS : IsRow encC 4 w (.slice aS ss.length cS) ss) (hTP : ps.length ≤ ts.length) (hbig : 4096 < ts.length) :
  Calls Try.prog 87 #[.agg #[.int .i64 bars, .slice aT ts.length cT, .slice aP ps.length cP, .slice aS ss.length cS]] w fun e w' => e = clkEnd ⟨bars, ts, ps, ss⟩ ∧ Below w.heap.size w w' := by
 generalize hclk : (⟨bars, ts, ps, ss⟩ : Clk) = clk
 have k1 : clk.bars = bars := by rw [← hclk]
 have k2 : clk.tempos = ts := by rw [← hclk]
 have k3 : clk.pauses = ps := by rw [← hclk]
 have k4 : clk.spans = ss := by rw [← hclk]
 have K1 := Lib.hid k1; have K2 := Lib.hid k2; have K3 := Lib.hid k3; have K4 := Lib.hid k4
 clear hclk k1 k2 k3 k4
 obtain ⟨_, _, _, lT, _⟩ := id hT
 obtain ⟨_, _, _, lP, _⟩ := id hP
 obtain ⟨_, _, _, lS, _⟩ := id hS
 unfold maxLen at lT lP lS
 have HT := Lib.hid hT; have HP := Lib.hid hP; have HS := Lib.hid hS
 clear hT hP hS
 generalize hnT : ts.length = nT at *
 generalize hnP : ps.length = nP at *
 generalize hnS : ss.length = nS at *
 have NT := Lib.hid hnT; have NP := Lib.hid hnP; have NS := Lib.hid hnS
 clear hnT hnP hnS
 have b0 : Below w.heap.size w (w.alloc (.cells #[.int .i64 bars, .slice aT nT cT, .slice aP nP cP, .slice aS nS cS] 118)) := (Below.refl _ w).alloc (Nat.le_refl _) _
 have g0 := heap_alloc_new w (.cells #[.int .i64 bars, .slice aT nT cT, .slice aP nP cP, .slice aS nS cS] 118)
 have hz0 : w.heap.size < (w.alloc (.cells #[.int .i64 bars, .slice aT nT cT, .slice aP nP cP, .slice aS nS cS] 118)).heap.size := by simp
 go_enter Try.func87, Try.ntmps87
 go_wp2_with fail
 generalize w.alloc (.cells #[.int .i64 bars, .slice aT nT cT, .slice aP nP cP, .slice aS nS cS] 118) = w0 at *
 have HB := Lib.hid b0; have G0 := Lib.hid g0
 clear b0
 have c0 : w0.cell? ⟨w.heap.size, 0, none⟩ = some (.int .i64 bars) := cell_at g0 0 rfl
 have c1 : w0.cell? ⟨w.heap.size, 1, none⟩ = some (.slice aT nT cT) := cell_at g0 1 rfl
 have c2 : w0.cell? ⟨w.heap.size, 2, none⟩ = some (.slice aP nP cP) := cell_at g0 2 rfl
 have c3 : w0.cell? ⟨w.heap.size, 3, none⟩ = some (.slice aS nS cS) := cell_at g0 3 rfl
 clear g0
 refine (need_badQ 2 _).mono ?_
 rintro e w' ⟨rfl, rfl⟩
 unfold errPanic
 go_wp2_with fail
 exact ⟨rfl, end_lim (lim_false (by rw [K2.out, K3.out, K4.out, NT.out, NP.out, NS.out]; omega)), HB.out⟩
set_option maxRecDepth 100000 in
set_option maxHeartbeats 8000000 in
theorem validate_lim2b (bars : Int) (aT aP aS : Option Addr) (cT cP cS : Nat) (ts : List Tmp) (ps : List Pau) (ss : List Con) (w : World)
  (hT : IsRow encT 3 w (.slice aT ts.length cT) ts) (hP : IsRow encP 4 w (.slice aP ps.length cP) ps) (hS : IsRow encC 4 w (.slice aS ss.length cS) ss) (hTP : ps.length ≤ ts.length) (hok : ts.length ≤ 4096) (hbig : 256 < ss.length) :
  Calls Try.prog 87 #[.agg #[.int .i64 bars, .slice aT ts.length cT, .slice aP ps.length cP, .slice aS ss.length cS]] w fun e w' => e = clkEnd ⟨bars, ts, ps, ss⟩ ∧ Below w.heap.size w w' := by
 generalize hclk : (⟨bars, ts, ps, ss⟩ : Clk) = clk
 have k1 : clk.bars = bars := by rw [← hclk]
 have k2 : clk.tempos = ts := by rw [← hclk]
 have k3 : clk.pauses = ps := by rw [← hclk]
 have k4 : clk.spans = ss := by rw [← hclk]
 have K1 := Lib.hid k1; have K2 := Lib.hid k2; have K3 := Lib.hid k3; have K4 := Lib.hid k4
 clear hclk k1 k2 k3 k4
 obtain ⟨_, _, _, lT, _⟩ := id hT
 obtain ⟨_, _, _, lP, _⟩ := id hP
 obtain ⟨_, _, _, lS, _⟩ := id hS
 unfold maxLen at lT lP lS
 have HT := Lib.hid hT; have HP := Lib.hid hP; have HS := Lib.hid hS
 clear hT hP hS
 generalize hnT : ts.length = nT at *
 generalize hnP : ps.length = nP at *
 generalize hnS : ss.length = nS at *
 have NT := Lib.hid hnT; have NP := Lib.hid hnP; have NS := Lib.hid hnS
 clear hnT hnP hnS
 have b0 : Below w.heap.size w (w.alloc (.cells #[.int .i64 bars, .slice aT nT cT, .slice aP nP cP, .slice aS nS cS] 118)) := (Below.refl _ w).alloc (Nat.le_refl _) _
 have g0 := heap_alloc_new w (.cells #[.int .i64 bars, .slice aT nT cT, .slice aP nP cP, .slice aS nS cS] 118)
 have hz0 : w.heap.size < (w.alloc (.cells #[.int .i64 bars, .slice aT nT cT, .slice aP nP cP, .slice aS nS cS] 118)).heap.size := by simp
 have fS : decide ((nS : Int) ≤ 256) = false := by simpa using by omega
 have fM : ((nT : Nat) : Int) ≤ 4096 := by omega
 go_enter Try.func87, Try.ntmps87
 go_wp2_with fail
 generalize w.alloc (.cells #[.int .i64 bars, .slice aT nT cT, .slice aP nP cP, .slice aS nS cS] 118) = w0 at *
 have HB := Lib.hid b0; have G0 := Lib.hid g0
 clear b0
 have c0 : w0.cell? ⟨w.heap.size, 0, none⟩ = some (.int .i64 bars) := cell_at g0 0 rfl
 have c1 : w0.cell? ⟨w.heap.size, 1, none⟩ = some (.slice aT nT cT) := cell_at g0 1 rfl
 have c2 : w0.cell? ⟨w.heap.size, 2, none⟩ = some (.slice aP nP cP) := cell_at g0 2 rfl
 have c3 : w0.cell? ⟨w.heap.size, 3, none⟩ = some (.slice aS nS cS) := cell_at g0 3 rfl
 clear g0
 refine (need_badQ 2 _).mono ?_
 rintro e w' ⟨rfl, rfl⟩
 unfold errPanic
 go_wp2_with fail
 exact ⟨rfl, end_lim (lim_false (by rw [K2.out, K3.out, K4.out, NT.out, NP.out, NS.out]; omega)), HB.out⟩
set_option maxRecDepth 100000 in
set_option maxHeartbeats 8000000 in
theorem validate_mainb (bars : Int) (aT aP aS : Option Addr) (cT cP cS : Nat) (ts : List Tmp) (ps : List Pau) (ss : List Con) (w : World)
  (hT : IsRow encT 3 w (.slice aT ts.length cT) ts) (hP : IsRow encP 4 w (.slice aP ps.length cP) ps) (hS : IsRow encC 4 w (.slice aS ss.length cS) ss) (hTP : ps.length ≤ ts.length) (hok : ts.length ≤ 4096) (hok2 : ss.length ≤ 256) :
  Calls Try.prog 87 #[.agg #[.int .i64 bars, .slice aT ts.length cT, .slice aP ps.length cP, .slice aS ss.length cS]] w fun e w' => e = clkEnd ⟨bars, ts, ps, ss⟩ ∧ Below w.heap.size w w' := by
 generalize hclk : (⟨bars, ts, ps, ss⟩ : Clk) = clk
 have k1 : clk.bars = bars := by rw [← hclk]
 have k2 : clk.tempos = ts := by rw [← hclk]
 have k3 : clk.pauses = ps := by rw [← hclk]
 have k4 : clk.spans = ss := by rw [← hclk]
 have K1 := Lib.hid k1; have K2 := Lib.hid k2; have K3 := Lib.hid k3; have K4 := Lib.hid k4
 clear hclk k1 k2 k3 k4
 obtain ⟨_, _, _, lT, _⟩ := id hT
 obtain ⟨_, _, _, lP, _⟩ := id hP
 obtain ⟨_, _, _, lS, _⟩ := id hS
 unfold maxLen at lT lP lS
 have HT := Lib.hid hT; have HP := Lib.hid hP; have HS := Lib.hid hS
 clear hT hP hS
 generalize hnT : ts.length = nT at *
 generalize hnP : ps.length = nP at *
 generalize hnS : ss.length = nS at *
 have NT := Lib.hid hnT; have NP := Lib.hid hnP; have NS := Lib.hid hnS
 clear hnT hnP hnS
 have b0 : Below w.heap.size w (w.alloc (.cells #[.int .i64 bars, .slice aT nT cT, .slice aP nP cP, .slice aS nS cS] 118)) := (Below.refl _ w).alloc (Nat.le_refl _) _
 have g0 := heap_alloc_new w (.cells #[.int .i64 bars, .slice aT nT cT, .slice aP nP cP, .slice aS nS cS] 118)
 have hz0 : w.heap.size < (w.alloc (.cells #[.int .i64 bars, .slice aT nT cT, .slice aP nP cP, .slice aS nS cS] 118)).heap.size := by simp
 have fS : decide ((nS : Int) ≤ 256) = true := by simpa using by omega
 have fM : ((nT : Nat) : Int) ≤ 4096 := by omega
 have LIM : Hid (clkLim clk = true) := Lib.hid (lim_true (by rw [K2.out, NT.out]; omega) (by rw [K3.out, NP.out]; omega) (by rw [K4.out, NS.out]; omega))
 go_enter Try.func87, Try.ntmps87
 go_wp2_with fail
 generalize w.alloc (.cells #[.int .i64 bars, .slice aT nT cT, .slice aP nP cP, .slice aS nS cS] 118) = w0 at *
 have HB := Lib.hid b0; have G0 := Lib.hid g0
 clear b0
 have c0 : w0.cell? ⟨w.heap.size, 0, none⟩ = some (.int .i64 bars) := cell_at g0 0 rfl
 have c1 : w0.cell? ⟨w.heap.size, 1, none⟩ = some (.slice aT nT cT) := cell_at g0 1 rfl
 have c2 : w0.cell? ⟨w.heap.size, 2, none⟩ = some (.slice aP nP cP) := cell_at g0 2 rfl
 have c3 : w0.cell? ⟨w.heap.size, 3, none⟩ = some (.slice aS nS cS) := cell_at g0 3 rfl
 clear g0
 refine (need_okQ 2 _).mono ?_
 rintro e w' ⟨rfl, rfl⟩
 clear fS fM
 go_wp2_with fail
 refine (tin_any bars 1 4096 _).mono ?_
 rintro e w' ⟨rfl, rfl⟩
 cases h1 : inB bars 1 4096 with
 | false =>
  go_wp2_with fail
  refine (need_badQ 130 _).mono ?_
  rintro e w' ⟨rfl, rfl⟩
  unfold errPanic
  go_wp2_with fail
  exact ⟨rfl, end_bad LIM.out (bad_head (by unfold clkHead; rw [K1.out, h1]; rfl)), HB.out⟩
 | true =>
  have H1 := Lib.hid h1
  obtain ⟨h1a, h1b⟩ := inB_iff.1 h1
  clear h1
  obtain ⟨B, hB⟩ : ∃ B : Nat, bars = (B : Int) := ⟨bars.toNat, by omega⟩
  subst hB
  have hBl : B ≤ 4096 := by omega
  have hBp : 1 ≤ B := by omega
  clear h1a h1b
  by_cases hne : 0 < nT
  rotate_left
  ·have f0 : ¬ (0 : Int) < (nT : Int) := by omega
   have he : ts = [] := List.length_eq_zero_iff.1 (by rw [NT.out]; omega)
   go_wp2_with fail
   refine (need_badQ 130 _).mono ?_
   rintro e w' ⟨rfl, rfl⟩
   unfold errPanic
   go_wp2_with fail
   exact ⟨rfl, end_bad LIM.out (bad_head (by unfold clkHead; rw [K1.out, K2.out, he]; simp)), HB.out⟩
  obtain ⟨t0, ht0⟩ : ∃ t, ts[0]? = some t := ⟨_, List.getElem?_eq_getElem (by rw [NT.out]; exact hne)⟩
  obtain ⟨b, o, hao, hat, hlt⟩ := HT.out.block ht0
  subst hao
  have HAT := Lib.hid hat; clear hat
  have hne' : (0 : Int) < (nT : Int) := by omega
  have p0 : w0.cell? ⟨b, o, none⟩ = some (.int .i64 t0.bar) := by
   have := (atT (HAT.out.below HB.out hlt) ht0).1; simpa using this
  have HT0 := Lib.hid ht0; clear ht0
  by_cases h0 : t0.bar = 0
  rotate_left
  ·have f0 : (t0.bar == 0) = false := by simpa using h0
   have HH := Lib.hid h0; clear h0
   go_wp2_with fail
   refine (need_badQ 130 _).mono ?_
   rintro e w' ⟨rfl, rfl⟩
   unfold errPanic
   go_wp2_with fail
   exact ⟨rfl, end_bad LIM.out (bad_head (head_bar (by rw [K2.out]; exact HT0.out) HH.out)), HB.out⟩
  have f0 : (t0.bar == 0) = true := by simpa using h0
  have HH := Lib.hid h0; clear h0
  have HEAD : Hid (clkHead clk = true) := Lib.hid (head_ok (by rw [K1.out]; exact H1.out) (by rw [K2.out]; exact HT0.out) HH.out)
  go_wp2_with fail
  refine (need_okQ 130 _).mono ?_
  rintro e w' ⟨rfl, rfl⟩
  clear f0 p0
  go_wp2_with fail
  clear c0 c1 c2 c3
  go_loopw [2, 46] (fun lv iv wr => ∃ (k : Nat) (last : Int), k ≤ nT ∧ iv = .int .i64 k ∧ lv = .int .i64 last ∧ -1 ≤ last ∧ last ≤ 4096 ∧ Hid (tmpsB B (-1) ts = tmpsB B last (ts.drop k)) ∧ w.heap.size < wr.heap.size ∧ Hid (wr.heap[w.heap.size]? = some (.cells #[.int .i64 (B : Int), .slice (some ⟨b, o, none⟩) nT cT, .slice aP nP cP, .slice aS nS cS] 118 (0, 0))) ∧ Hid (Below w.heap.size w wr)) (fun _ iv _ => nT - (intOf iv).toNat)
  case atStart => exact ⟨0, -1, Nat.zero_le _, rfl, rfl, by omega, by omega, Lib.hid rfl, hz0, G0, HB⟩
  case round =>
   clear HB G0 hz0
   obtain ⟨k, last, hk, rfl, rfl, hl1, hl2, htm, hsz, hbx, hbw⟩ := hrel
   by_cases hkn : k < nT
   ·obtain ⟨t, ht⟩ : ∃ t, ts[k]? = some t := ⟨_, List.getElem?_eq_getElem (by rw [NT.out]; exact hkn)⟩
    obtain ⟨p0, p1, p2⟩ := atT (HAT.out.below hbw.out hlt) ht
    have hbs : b < wr.heap.size := by have := hbw.out.size; omega
    have HTt := Lib.hid ht; clear ht
    have hkn' : (k : Int) < (nT : Int) := by omega
    have c0 : wr.cell? ⟨w.heap.size, 0, none⟩ = some (.int .i64 (B : Int)) := cell_at hbx.out 0 rfl
    have x0 := (Below.heap_alloc wr (.cells #[.int .i64 t.bar, .int .i64 t.ticks, .int .i64 t.step] 135) w.heap.size hsz).trans hbx.out
    have x2 := heap_alloc_new wr (.cells #[.int .i64 t.bar, .int .i64 t.ticks, .int .i64 t.step] 135)
    have x3 : Below w.heap.size w (wr.alloc (.cells #[.int .i64 t.bar, .int .i64 t.ticks, .int .i64 t.step] 135)) := hbw.out.alloc (by omega) _
    have x4 : w.heap.size < (wr.alloc (.cells #[.int .i64 t.bar, .int .i64 t.ticks, .int .i64 t.step] 135)).heap.size := by simp; omega
    have X0 := Lib.hid x0; have X2 := Lib.hid x2; have HB5 := Lib.hid x3
    clear x0 x2 x3
    go_wp2_with fail
    generalize wr.alloc (.cells #[.int .i64 t.bar, .int .i64 t.ticks, .int .i64 t.step] 135) = w5 at *
    generalize wr.heap.size = gw at *
    clear c0 p0 p1 p2
    have c0 : w5.cell? ⟨w.heap.size, 0, none⟩ = some (.int .i64 (B : Int)) := cell_at X0.out 0 rfl
    have l0 : w5.cell? ⟨gw, 0, none⟩ = some (.int .i64 t.bar) := cell_at X2.out 0 rfl
    have l1 : w5.cell? ⟨gw, 1, none⟩ = some (.int .i64 t.ticks) := cell_at X2.out 1 rfl
    have l2 : w5.cell? ⟨gw, 2, none⟩ = some (.int .i64 t.step) := cell_at X2.out 2 rfl
    clear X2 hbx hbw
    refine (tin_any t.bar (last + 1) ((B : Int) - 1) _).mono ?_
    rintro e w' ⟨rfl, rfl⟩
    cases q0 : inB t.bar (last + 1) ((B : Int) - 1) with
    | false =>
     go_wp2_with fail
     refine (need_badQ 130 _).mono ?_
     rintro e w' ⟨rfl, rfl⟩
     unfold errPanic
     go_wp2_with fail
     exact ⟨rfl, end_bad LIM.out (bad_tmps (by rw [K1.out, K2.out, htm.out, drop_atQ HTt.out]; simp [tmpsB, tmpB, q0])), HB5.out⟩
    | true =>
     have Q0 := Lib.hid q0; clear q0
     go_wp2_with fail
     refine (tin_any t.ticks (-65536) 65536 _).mono ?_
     rintro e w' ⟨rfl, rfl⟩
     cases q1 : inB t.ticks (-65536) 65536 with
     | false =>
      go_wp2_with fail
      refine (need_badQ 130 _).mono ?_
      rintro e w' ⟨rfl, rfl⟩
      unfold errPanic
      go_wp2_with fail
      exact ⟨rfl, end_bad LIM.out (bad_tmps (by rw [K1.out, K2.out, htm.out, drop_atQ HTt.out]; simp [tmpsB, tmpB, Q0.out, q1])), HB5.out⟩
     | true =>
      have Q1 := Lib.hid q1; clear q1
      go_wp2_with fail
      refine (tin_any t.step (-65536) 65536 _).mono ?_
      rintro e w' ⟨rfl, rfl⟩
      cases q2 : inB t.step (-65536) 65536 with
      | false =>
       go_wp2_with fail
       refine (need_badQ 130 _).mono ?_
       rintro e w' ⟨rfl, rfl⟩
       unfold errPanic
       go_wp2_with fail
       exact ⟨rfl, end_bad LIM.out (bad_tmps (by rw [K1.out, K2.out, htm.out, drop_atQ HTt.out]; simp [tmpsB, tmpB, Q0.out, Q1.out, q2])), HB5.out⟩
      | true =>
       have Q2 := Lib.hid q2; clear q2
       go_wp2_with fail
       refine (need_okQ 130 _).mono ?_
       rintro e w' ⟨rfl, rfl⟩
       go_wp2_with fail
       go_roundw
       case rel => exact ⟨k + 1, t.bar, by omega, by go_num, rfl, by have := inB_iff.1 Q0.out; omega, by have := inB_iff.1 Q0.out; omega, Lib.hid (by rw [htm.out, drop_atQ HTt.out]; simp [tmpsB, tmpB, Q0.out, Q1.out, Q2.out]), x4, X0, HB5⟩
       case measure => simp [intOf]; omega
   ·obtain rfl : nT = k := by omega
    have hin : ¬ (nT : Int) < (nT : Int) := by omega
    have TM : Hid (tmpsB B (-1) ts = true) := Lib.hid (by rw [htm.out, List.drop_of_length_le (by rw [NT.out]; exact Nat.le_refl _)]; rfl)
    clear htm hl1 hl2
    have ⟨hso, hall⟩ := tmps_sorted TM.out
    have NW : Hid (∀ j : Nat, j < B → NoWrap ts j) := Lib.hid (fun j hj => ⟨hso, upTo_pos HT0.out (by rw [HH.out]; omega), by omega, by omega, fun t ht => by have := hall t ht; omega⟩)
    clear hso hall
    have c0 : wr.cell? ⟨w.heap.size, 0, none⟩ = some (.int .i64 (B : Int)) := cell_at hbx.out 0 rfl
    go_wp2_with fail
    clear c0 hin
    go_loopw [74] (fun iv wr => ∃ j : Nat, j ≤ B ∧ iv = .int .i64 j ∧ Hid (ticksB ts j = true) ∧ w.heap.size < wr.heap.size ∧ Hid (wr.heap[w.heap.size]? = some (.cells #[.int .i64 (B : Int), .slice (some ⟨b, o, none⟩) nT cT, .slice aP nP cP, .slice aS nS cS] 118 (0, 0))) ∧ Hid (Below w.heap.size w wr)) (fun iv _ => B - (intOf iv).toNat)
    case atStart => exact ⟨0, Nat.zero_le _, rfl, Lib.hid rfl, hsz, hbx, hbw⟩
    case round =>
     clear hbx hbw hsz
     obtain ⟨j, hj, rfl, htk, hsz, hbx, hbw⟩ := hrel
     by_cases hjB : j < B
     ·have hjB' : (j : Int) < (B : Int) := by omega
      have c0 : wr.cell? ⟨w.heap.size, 0, none⟩ = some (.int .i64 (B : Int)) := cell_at hbx.out 0 rfl
      have c1 : wr.cell? ⟨w.heap.size, 1, none⟩ = some (.slice (some ⟨b, o, none⟩) nT cT) := cell_at hbx.out 1 rfl
      have c2 : wr.cell? ⟨w.heap.size, 2, none⟩ = some (.slice aP nP cP) := cell_at hbx.out 2 rfl
      have c3 : wr.cell? ⟨w.heap.size, 3, none⟩ = some (.slice aS nS cS) := cell_at hbx.out 3 rfl
      go_wp2_with fail
      refine (ticks_any B j b o nT cT (.slice aP nP cP) (.slice aS nS cS) ts wr NT.out (by omega) (HAT.out.below hbw.out hlt) (by have := hbw.out.size; omega) (NW.out j hjB)).mono ?_
      rintro e w5 ⟨rfl, b5⟩
      have hz5 := b5.size
      have x0 := (b5.block _ hsz).trans hbx.out
      have HB5 := Lib.hid (hbw.out.trans (b5.mono (by omega)))
      have X0 := Lib.hid x0
      have hsz5 : w.heap.size < w5.heap.size := by omega
      clear x0 b5 c0 c1 c2 c3 hbx hbw hz5
      generalize hg : ticksAt ts j = g
      have HG := Lib.hid hg; clear hg
      go_wp2_with fail
      refine (tin_any g 1 65536 _).mono ?_
      rintro e w' ⟨rfl, rfl⟩
      cases h2 : inB g 1 65536 with
      | false =>
       go_wp2_with fail
       refine (need_badQ 130 _).mono ?_
       rintro e w' ⟨rfl, rfl⟩
       unfold errPanic
       go_wp2_with fail
       exact ⟨rfl, end_bad LIM.out (bad_ticks (by rw [K2.out, K1.out, Int.toNat_natCast]; exact ticksB_false (ticksB_succ htk.out (by rw [HG.out]; exact h2)) (by omega))), HB5.out⟩
      | true =>
       have H2 := Lib.hid h2; clear h2
       go_wp2_with fail
       refine (need_okQ 130 _).mono ?_
       rintro e w' ⟨rfl, rfl⟩
       go_wp2_with fail
       go_roundw
       case rel => exact ⟨j + 1, by omega, by go_num, Lib.hid (ticksB_succ htk.out (by rw [HG.out]; exact H2.out)), hsz5, X0, HB5⟩
       case measure => simp [intOf]; omega
     ·obtain rfl : B = j := by omega
      have hin : ¬ (B : Int) < (B : Int) := by omega
      have c2 : wr.cell? ⟨w.heap.size, 2, none⟩ = some (.slice aP nP cP) := cell_at hbx.out 2 rfl
      go_wp2_with fail
      clear c2 hin
      go_loopw [2, 86] (fun lv iv wr => ∃ (i : Nat) (last : Int), i ≤ nP ∧ iv = .int .i64 i ∧ lv = .int .i64 last ∧ -1 ≤ last ∧ last ≤ 4096 ∧ Hid (pausB B (-1) ps = pausB B last (ps.drop i)) ∧ w.heap.size < wr.heap.size ∧ Hid (wr.heap[w.heap.size]? = some (.cells #[.int .i64 (B : Int), .slice (some ⟨b, o, none⟩) nT cT, .slice aP nP cP, .slice aS nS cS] 118 (0, 0))) ∧ Hid (Below w.heap.size w wr)) (fun _ iv _ => nP - (intOf iv).toNat)
      case atStart => exact ⟨0, -1, Nat.zero_le _, rfl, rfl, by omega, by omega, Lib.hid rfl, hsz, hbx, hbw⟩
      case round =>
       clear hsz hbx hbw
       obtain ⟨i, last, hi, rfl, rfl, hl1, hl2, htm, hsz, hbx, hbw⟩ := hrel
       by_cases hkn : i < nP
       ·obtain ⟨t, ht⟩ : ∃ t, ps[i]? = some t := ⟨_, List.getElem?_eq_getElem (by rw [NP.out]; exact hkn)⟩
        obtain ⟨bp, op, hap, hatp, hltp⟩ := HP.out.block ht
        subst hap
        obtain ⟨p0, p1, p2, p3⟩ := atP (hatp.below hbw.out hltp) ht
        have hbs : bp < wr.heap.size := by have := hbw.out.size; omega
        clear hatp
        have HTt := Lib.hid ht; clear ht
        have hkn' : (i : Int) < (nP : Int) := by omega
        have c0 : wr.cell? ⟨w.heap.size, 0, none⟩ = some (.int .i64 (B : Int)) := cell_at hbx.out 0 rfl
        have x0 := (Below.heap_alloc wr (.cells #[.int .i64 t.bar, .int .i64 t.kind, .int .i64 t.lo, .int .i64 t.hi] 147) w.heap.size hsz).trans hbx.out
        have x2 := heap_alloc_new wr (.cells #[.int .i64 t.bar, .int .i64 t.kind, .int .i64 t.lo, .int .i64 t.hi] 147)
        have x3 : Below w.heap.size w (wr.alloc (.cells #[.int .i64 t.bar, .int .i64 t.kind, .int .i64 t.lo, .int .i64 t.hi] 147)) := hbw.out.alloc (by omega) _
        have x4 : w.heap.size < (wr.alloc (.cells #[.int .i64 t.bar, .int .i64 t.kind, .int .i64 t.lo, .int .i64 t.hi] 147)).heap.size := by simp; omega
        have X0 := Lib.hid x0; have X2 := Lib.hid x2; have HB5 := Lib.hid x3
        clear x0 x2 x3
        go_wp2_with fail
        generalize wr.alloc (.cells #[.int .i64 t.bar, .int .i64 t.kind, .int .i64 t.lo, .int .i64 t.hi] 147) = w5 at *
        generalize wr.heap.size = gw at *
        clear c0 p0 p1 p2 p3
        have c0 : w5.cell? ⟨w.heap.size, 0, none⟩ = some (.int .i64 (B : Int)) := cell_at X0.out 0 rfl
        have l0 : w5.cell? ⟨gw, 0, none⟩ = some (.int .i64 t.bar) := cell_at X2.out 0 rfl
        have l1 : w5.cell? ⟨gw, 1, none⟩ = some (.int .i64 t.kind) := cell_at X2.out 1 rfl
        have l2 : w5.cell? ⟨gw, 2, none⟩ = some (.int .i64 t.lo) := cell_at X2.out 2 rfl
        have l3 : w5.cell? ⟨gw, 3, none⟩ = some (.int .i64 t.hi) := cell_at X2.out 3 rfl
        clear X2 hbx hbw
        refine (tin_any t.bar (last + 1) ((B : Int) - 2) _).mono ?_
        rintro e w' ⟨rfl, rfl⟩
        cases q0 : inB t.bar (last + 1) ((B : Int) - 2) with
        | false =>
         go_wp2_with fail
         refine (need_badQ 130 _).mono ?_
         rintro e w' ⟨rfl, rfl⟩
         unfold errPanic
         go_wp2_with fail
         exact ⟨rfl, end_bad LIM.out (bad_paus (by rw [K1.out, K3.out, htm.out, drop_atQ HTt.out]; simp [pausB, pauB, q0])), HB5.out⟩
        | true =>
         have Q0 := Lib.hid q0; clear q0
         go_wp2_with fail
         refine (tin_any t.kind 1 2 _).mono ?_
         rintro e w' ⟨rfl, rfl⟩
         cases q1 : inB t.kind 1 2 with
         | false =>
          go_wp2_with fail
          refine (need_badQ 130 _).mono ?_
          rintro e w' ⟨rfl, rfl⟩
          unfold errPanic
          go_wp2_with fail
          exact ⟨rfl, end_bad LIM.out (bad_paus (by rw [K1.out, K3.out, htm.out, drop_atQ HTt.out]; simp [pausB, pauB, Q0.out, q1])), HB5.out⟩
         | true =>
          have Q1 := Lib.hid q1; clear q1
          go_wp2_with fail
          refine (tin_any t.lo 0 t.hi _).mono ?_
          rintro e w' ⟨rfl, rfl⟩
          cases q2 : inB t.lo 0 t.hi with
          | false =>
           go_wp2_with fail
           refine (need_badQ 130 _).mono ?_
           rintro e w' ⟨rfl, rfl⟩
           unfold errPanic
           go_wp2_with fail
           exact ⟨rfl, end_bad LIM.out (bad_paus (by rw [K1.out, K3.out, htm.out, drop_atQ HTt.out]; simp [pausB, pauB, Q0.out, Q1.out, q2])), HB5.out⟩
          | true =>
           have Q2 := Lib.hid q2; clear q2
           go_wp2_with fail
           cases q3 : decide (t.hi ≤ 1048576) with
           | false =>
            refine (need_badQ 130 _).mono ?_
            rintro e w' ⟨rfl, rfl⟩
            unfold errPanic
            go_wp2_with fail
            exact ⟨rfl, end_bad LIM.out (bad_paus (by rw [K1.out, K3.out, htm.out, drop_atQ HTt.out]; simp [pausB, pauB, Q0.out, Q1.out, Q2.out, of_decide_eq_false q3])), HB5.out⟩
           | true =>
            have Q3 := Lib.hid (of_decide_eq_true q3); clear q3
            refine (need_okQ 130 _).mono ?_
            rintro e w' ⟨rfl, rfl⟩
            go_wp2_with fail
            go_roundw
            case rel => exact ⟨i + 1, t.bar, by omega, by go_num, rfl, by have := inB_iff.1 Q0.out; omega, by have := inB_iff.1 Q0.out; omega, Lib.hid (by rw [htm.out, drop_atQ HTt.out]; simp [pausB, pauB, Q0.out, Q1.out, Q2.out, Q3.out]), x4, X0, HB5⟩
            case measure => simp [intOf]; omega
       ·obtain rfl : nP = i := by omega
        have hin : ¬ (nP : Int) < (nP : Int) := by omega
        have PM : Hid (pausB B (-1) ps = true) := Lib.hid (by rw [htm.out, List.drop_of_length_le (by rw [NP.out]; exact Nat.le_refl _)]; rfl)
        clear htm hl1 hl2
        have c3 : wr.cell? ⟨w.heap.size, 3, none⟩ = some (.slice aS nS cS) := cell_at hbx.out 3 rfl
        go_wp2_with fail
        clear c3 hin
        go_loopw [122] (fun iv wr => ∃ i : Nat, i ≤ nS ∧ iv = .int .i64 i ∧ Hid (ss.all (conB B) = (ss.drop i).all (conB B)) ∧ w.heap.size < wr.heap.size ∧ Hid (wr.heap[w.heap.size]? = some (.cells #[.int .i64 (B : Int), .slice (some ⟨b, o, none⟩) nT cT, .slice aP nP cP, .slice aS nS cS] 118 (0, 0))) ∧ Hid (Below w.heap.size w wr)) (fun iv _ => nS - (intOf iv).toNat)
        case atStart => exact ⟨0, Nat.zero_le _, rfl, Lib.hid rfl, hsz, hbx, hbw⟩
        case round =>
         clear hsz hbx hbw
         obtain ⟨i, hi, rfl, htm, hsz, hbx, hbw⟩ := hrel
         by_cases hkn : i < nS
         ·obtain ⟨t, ht⟩ : ∃ t, ss[i]? = some t := ⟨_, List.getElem?_eq_getElem (by rw [NS.out]; exact hkn)⟩
          obtain ⟨bp, op, hap, hatp, hltp⟩ := HS.out.block ht
          subst hap
          obtain ⟨p0, p1, p2, p3⟩ := atC (hatp.below hbw.out hltp) ht
          have hbs : bp < wr.heap.size := by have := hbw.out.size; omega
          clear hatp
          have HTt := Lib.hid ht; clear ht
          have hkn' : (i : Int) < (nS : Int) := by omega
          have c0 : wr.cell? ⟨w.heap.size, 0, none⟩ = some (.int .i64 (B : Int)) := cell_at hbx.out 0 rfl
          have x0 := (Below.heap_alloc wr (.cells #[.int .i64 t.frm, .int .i64 t.to, .int .i64 t.lo, .int .i64 t.hi] 149) w.heap.size hsz).trans hbx.out
          have x2 := heap_alloc_new wr (.cells #[.int .i64 t.frm, .int .i64 t.to, .int .i64 t.lo, .int .i64 t.hi] 149)
          have x3 : Below w.heap.size w (wr.alloc (.cells #[.int .i64 t.frm, .int .i64 t.to, .int .i64 t.lo, .int .i64 t.hi] 149)) := hbw.out.alloc (by omega) _
          have x4 : w.heap.size < (wr.alloc (.cells #[.int .i64 t.frm, .int .i64 t.to, .int .i64 t.lo, .int .i64 t.hi] 149)).heap.size := by simp; omega
          have X0 := Lib.hid x0; have X2 := Lib.hid x2; have HB5 := Lib.hid x3
          clear x0 x2 x3
          go_wp2_with fail
          generalize wr.alloc (.cells #[.int .i64 t.frm, .int .i64 t.to, .int .i64 t.lo, .int .i64 t.hi] 149) = w5 at *
          generalize wr.heap.size = gw at *
          clear c0 p0 p1 p2 p3
          have c0 : w5.cell? ⟨w.heap.size, 0, none⟩ = some (.int .i64 (B : Int)) := cell_at X0.out 0 rfl
          have l0 : w5.cell? ⟨gw, 0, none⟩ = some (.int .i64 t.frm) := cell_at X2.out 0 rfl
          have l1 : w5.cell? ⟨gw, 1, none⟩ = some (.int .i64 t.to) := cell_at X2.out 1 rfl
          have l2 : w5.cell? ⟨gw, 2, none⟩ = some (.int .i64 t.lo) := cell_at X2.out 2 rfl
          have l3 : w5.cell? ⟨gw, 3, none⟩ = some (.int .i64 t.hi) := cell_at X2.out 3 rfl
          clear X2 hbx hbw
          refine (tin_any t.frm 0 (B : Int) _).mono ?_
          rintro e w' ⟨rfl, rfl⟩
          cases q0 : inB t.frm 0 (B : Int) with
          | false =>
           go_wp2_with fail
           refine (need_badQ 130 _).mono ?_
           rintro e w' ⟨rfl, rfl⟩
           unfold errPanic
           go_wp2_with fail
           exact ⟨rfl, end_bad LIM.out (bad_cons (by rw [K1.out, K4.out, htm.out, drop_atQ HTt.out]; simp [conB, q0])), HB5.out⟩
          | true =>
           have Q0 := Lib.hid q0; clear q0
           go_wp2_with fail
           refine (tin_any t.to 0 (B : Int) _).mono ?_
           rintro e w' ⟨rfl, rfl⟩
           cases q1 : inB t.to 0 (B : Int) with
           | false =>
            go_wp2_with fail
            refine (need_badQ 130 _).mono ?_
            rintro e w' ⟨rfl, rfl⟩
            unfold errPanic
            go_wp2_with fail
            exact ⟨rfl, end_bad LIM.out (bad_cons (by rw [K1.out, K4.out, htm.out, drop_atQ HTt.out]; simp [conB, Q0.out, q1])), HB5.out⟩
           | true =>
            have Q1 := Lib.hid q1; clear q1
            by_cases q2 : t.frm = t.to
            ·have f2 : (t.frm != t.to) = false := by simpa using q2
             have Q2 := Lib.hid q2; clear q2
             go_wp2_with fail
             refine (need_badQ 130 _).mono ?_
             rintro e w' ⟨rfl, rfl⟩
             unfold errPanic
             go_wp2_with fail
             exact ⟨rfl, end_bad LIM.out (bad_cons (by rw [K1.out, K4.out, htm.out, drop_atQ HTt.out]; simp [conB, Q1.out, Q2.out])), HB5.out⟩
            have f2 : (t.frm != t.to) = true := by simpa using q2
            have Q2 := Lib.hid q2; clear q2
            go_wp2_with fail
            clear f2
            refine (tin_any t.lo (-1099511627776) t.hi _).mono ?_
            rintro e w' ⟨rfl, rfl⟩
            cases q3 : inB t.lo (-1099511627776) t.hi with
            | false =>
             go_wp2_with fail
             refine (need_badQ 130 _).mono ?_
             rintro e w' ⟨rfl, rfl⟩
             unfold errPanic
             go_wp2_with fail
             exact ⟨rfl, end_bad LIM.out (bad_cons (by rw [K1.out, K4.out, htm.out, drop_atQ HTt.out]; simp [conB, Q0.out, Q1.out, Q2.out, q3])), HB5.out⟩
            | true =>
             have Q3 := Lib.hid q3; clear q3
             go_wp2_with fail
             cases q4 : decide (t.hi ≤ 1099511627776) with
             | false =>
              refine (need_badQ 130 _).mono ?_
              rintro e w' ⟨rfl, rfl⟩
              unfold errPanic
              go_wp2_with fail
              exact ⟨rfl, end_bad LIM.out (bad_cons (by rw [K1.out, K4.out, htm.out, drop_atQ HTt.out]; simp [conB, Q0.out, Q1.out, Q2.out, Q3.out, of_decide_eq_false q4])), HB5.out⟩
             | true =>
              have Q4 := Lib.hid (of_decide_eq_true q4); clear q4
              refine (need_okQ 130 _).mono ?_
              rintro e w' ⟨rfl, rfl⟩
              go_wp2_with fail
              go_roundw
              case rel => exact ⟨i + 1, by omega, by go_num, Lib.hid (by rw [htm.out, drop_atQ HTt.out]; simp [conB, Q0.out, Q1.out, Q2.out, Q3.out, Q4.out]), x4, X0, HB5⟩
              case measure => simp [intOf]; omega
         ·obtain rfl : nS = i := by omega
          have hin : ¬ (nS : Int) < (nS : Int) := by omega
          have SM : Hid (ss.all (conB B) = true) := Lib.hid (by rw [htm.out, List.drop_of_length_le (by rw [NS.out]; exact Nat.le_refl _)]; rfl)
          clear htm
          go_wp2_with fail
          go_end0
          exact ⟨end_ok LIM.out (all_ok HEAD.out (by rw [K1.out, K2.out]; exact TM.out) (by rw [K1.out, K2.out, Int.toNat_natCast]; exact htk.out) (by rw [K1.out, K3.out]; exact PM.out) (by rw [K1.out, K4.out]; exact SM.out)), hbw.out⟩
end Go.Proofs.Ytpnbpepkoekkoaa
end
section
namespace Go.Proofs.Ytpnbpepkoekkoaa
open Go Go.RowKit
open Go.RowKit
theorem validate_any (bars : Int) (aT aP aS : Option Addr) (cT cP cS : Nat) (ts : List Tmp) (ps : List Pau) (ss : List Con) (w : World)
  (hT : IsRow encT 3 w (.slice aT ts.length cT) ts) (hP : IsRow encP 4 w (.slice aP ps.length cP) ps) (hS : IsRow encC 4 w (.slice aS ss.length cS) ss) :
  Calls Try.prog 87 #[.agg #[.int .i64 bars, .slice aT ts.length cT, .slice aP ps.length cP, .slice aS ss.length cS]] w fun e w' => e = clkEnd ⟨bars, ts, ps, ss⟩ ∧ Below w.heap.size w w' := by
 by_cases h : ts.length < ps.length
 ·by_cases h1 : 4096 < ps.length
  ·exact validate_lim1a bars aT aP aS cT cP cS ts ps ss w hT hP hS h h1
  by_cases h2 : 256 < ss.length
  ·exact validate_lim2a bars aT aP aS cT cP cS ts ps ss w hT hP hS h (by omega) h2
  exact validate_maina bars aT aP aS cT cP cS ts ps ss w hT hP hS h (by omega) (by omega)
 ·by_cases h1 : 4096 < ts.length
  ·exact validate_lim1b bars aT aP aS cT cP cS ts ps ss w hT hP hS (by omega) h1
  by_cases h2 : 256 < ss.length
  ·exact validate_lim2b bars aT aP aS cT cP cS ts ps ss w hT hP hS (by omega) (by omega) h2
  exact validate_mainb bars aT aP aS cT cP cS ts ps ss w hT hP hS (by omega) (by omega) (by omega)
theorem tcatch_idle (p : Addr) (w : World) :
  CallsD Try.prog 86 #[.pointer (some p)] .returning w fun e u' w' => e = .returned (.tuple #[]) ∧ u' = .returning ∧ w = w' := by
 refine callsD_of_wpS Try.func86 rfl fun c₀ cs hu => ?_
 apply wpS_seq
 apply wpS_region
 simp [wpOpsS, go_sem, recoverD, hu, Try.ntmps86, Exit.thenS]
 refine wpS_of_wp ?_
 simp only [Array.replicate]
 go_wp2
 cases c₀
 simp_all [bodyPostS, results, Try.results86]
set_option maxHeartbeats 1000000 in
theorem tcatch_panicking (B : Nat) (c : Int) (x : Value) (older : List PanicEntry) (w : World) (h0 : w.heap[B]? = some (.cells #[x] 35 (0, 0))) :
  CallsD Try.prog 86 #[.pointer (some ⟨B, 0, none⟩)] (.panicking ({ v := .iface 35 (.int .i64 c), recovered := false } :: older)) w fun e u' w' =>
   e = .returned (.tuple #[]) ∧ u' = .panicking ({ v := .iface 35 (.int .i64 c), recovered := true } :: older) ∧ w'.heap[B]? = some (.cells #[.int .i64 c] 35 (0, 0)) ∧ Below B w w' := by
 have c0 := cell_of_one h0
 have f0 := free_of_one h0
 have H0 := Lib.hid h0; clear h0
 refine callsD_of_wpS Try.func86 rfl fun c₀ cs hu => ?_
 apply wpS_seq
 apply wpS_region
 simp [wpOpsS, go_sem, recoverD, hu, Try.ntmps86, Exit.thenS]
 refine wpS_of_wp ?_
 have hta := run_errno
 have hnn := run_notnil
 simp only [Array.replicate]
 go_wp2
 exact ⟨rfl, _, rfl, .tuple #[], results_none rfl _ _ _, rfl, rfl, one_setCell H0.out, (Below.refl B w).setCell (p := ⟨B, 0, none⟩) (Nat.le_refl _) _⟩
set_option maxHeartbeats 1000000 in
theorem tdoor_err (t : Array Value) (B : Nat) (c : Int) (R : Ending → World → Prop) (w2 : World) (x : Value) (ht2 : t.getD 2 undef = .pointer (some ⟨B, 0, none⟩))
  (h0 : w2.heap[B]? = some (.cells #[x] 35 (0, 0))) (hR : ∀ w', Below B w2 w' → R (.returned (.int .i64 c)) w') :
  bodyPostD Try.prog Try.f65 R (Exit.panic [{ v := .iface 35 (.int .i64 c), recovered := false }])
   { tmps := t, defers := [{ target := .fn (.func 86) #[.pointer (some ⟨B, 0, none⟩)], args := #[] }] } w2 := by
 have HR := Lib.hid hR; clear hR
 refine leaves_cons (f := 86) (args := #[.pointer (some ⟨B, 0, none⟩)]) (by simp) (by simp [go_sem]) ?_
 refine (tcatch_panicking B c x [] _ h0).mono ?_
 rintro e u' w'' ⟨rfl, rfl, k0, hB⟩
 have c0 := cell_of_one k0
 simp at ht2
 have HB := Lib.hid hB; clear hB k0 h0
 simp [Leaves, settle, results, Try.results65, go_sem, ht2, c0]
 exact HR.out _ HB.out
set_option maxHeartbeats 1000000 in
theorem tdoor_ok (t : Array Value) (B : Nat) (R : Ending → World → Prop) (w2 : World) (x : Value) (ht2 : t.getD 2 undef = .pointer (some ⟨B, 0, none⟩))
  (h0 : w2.cell? ⟨B, 0, none⟩ = some x) (hR : R (.returned x) w2) :
  bodyPostD Try.prog Try.f65 R Exit.ret { tmps := t, defers := [{ target := .fn (.func 86) #[.pointer (some ⟨B, 0, none⟩)], args := #[] }] } w2 := by
 have HR := Lib.hid hR; clear hR
 simp at ht2
 refine leaves_cons (f := 86) (args := #[.pointer (some ⟨B, 0, none⟩)]) (by simp) (by simp [go_sem]) ?_
 refine (tcatch_idle _ _).mono ?_
 rintro e u' w'' ⟨rfl, rfl, rfl⟩
 simp [Leaves, settle, results, Try.results65, go_sem, ht2, h0]
 exact HR.out
set_option maxHeartbeats 1000000 in
theorem tcheck_any (bars : Int) (aT aP aS : Option Addr) (cT cP cS : Nat) (ts : List Tmp) (ps : List Pau) (ss : List Con) (w : World)
  (hT : IsRow encT 3 w (.slice aT ts.length cT) ts) (hP : IsRow encP 4 w (.slice aP ps.length cP) ps) (hS : IsRow encC 4 w (.slice aS ss.length cS) ss) :
  Calls Try.prog 65 #[.agg #[.int .i64 bars, .slice aT ts.length cT, .slice aP ps.length cP, .slice aS ss.length cS]] w fun e w' => e = .returned (.int .i64 (clkE ⟨bars, ts, ps, ss⟩)) ∧ Below w.heap.size w w' := by
 have hmf : ∀ (fn : Fn) (first cap : Array Value) (w : World), (Instr.makeFunc fn first cap).run Try.prog w = .ok (.func fn first cap) w := fun _ _ _ _ => rfl
 have hv := fun (w : World) h1 h2 h3 => validate_any bars aT aP aS cT cP cS ts ps ss w h1 h2 h3
 generalize hclk : (⟨bars, ts, ps, ss⟩ : Clk) = clk at *
 have HT := Lib.hid hT; have HP := Lib.hid hP; have HS := Lib.hid hS; have HV := Lib.hid hv
 clear hT hP hS hclk hv
 generalize ts.length = nT at *
 generalize ps.length = nP at *
 generalize ss.length = nS at *
 have b0 : Below w.heap.size w ((w.alloc (.cells #[.int .i64 bars, .slice aT nT cT, .slice aP nP cP, .slice aS nS cS] 118)).alloc (.cells #[.int .i64 0] 35)) := ((Below.refl _ w).alloc (Nat.le_refl _) _).alloc (by simp) _
 have hz : ((w.alloc (.cells #[.int .i64 bars, .slice aT nT cT, .slice aP nP cP, .slice aS nS cS] 118)).alloc (.cells #[.int .i64 0] 35)).heap.size = w.heap.size + 2 := by simp
 have g0 : ((w.alloc (.cells #[.int .i64 bars, .slice aT nT cT, .slice aP nP cP, .slice aS nS cS] 118)).alloc (.cells #[.int .i64 0] 35)).heap[w.heap.size]? = some (.cells #[.int .i64 bars, .slice aT nT cT, .slice aP nP cP, .slice aS nS cS] 118 (0, 0)) := by
  rw [Below.heap_alloc _ _ _ (by simp)]; exact heap_alloc_new w _
 have g1 : ((w.alloc (.cells #[.int .i64 bars, .slice aT nT cT, .slice aP nP cP, .slice aS nS cS] 118)).alloc (.cells #[.int .i64 0] 35)).heap[w.heap.size + 1]? = some (.cells #[.int .i64 0] 35 (0, 0)) := by
  have := heap_alloc_new (w.alloc (.cells #[.int .i64 bars, .slice aT nT cT, .slice aP nP cP, .slice aS nS cS] 118)) (.cells #[.int .i64 0] 35); simpa using this
 go_enter_defers Try.func65, Try.ntmps65
 go_wp2_with fail
 generalize (w.alloc (.cells #[.int .i64 bars, .slice aT nT cT, .slice aP nP cP, .slice aS nS cS] 118)).alloc (.cells #[.int .i64 0] 35) = w0 at *
 refine (HV.out w0 (HT.out.below b0 (Nat.le_refl _)) (HP.out.below b0 (Nat.le_refl _)) (HS.out.below b0 (Nat.le_refl _))).mono ?_
 rintro e w1 ⟨rfl, b1⟩
 have y1 := (b1.block _ (by omega)).trans g1
 have HB := Lib.hid (b0.trans (b1.mono (by omega)))
 have Y1 := Lib.hid y1
 clear b0 b1 g0 hz y1 g1
 by_cases hc : clkE clk = 0
 ·have HC := Lib.hid hc
  unfold clkEnd
  rw [if_pos hc]
  clear hc
  have c1 := cell_of_one Y1.out
  have f1 := free_of_one Y1.out
  go_wp2_with fail
  refine tdoor_ok _ (w.heap.size + 1) _ _ (.int .i64 0) rfl (cell_of_one (one_setCell Y1.out)) ⟨ret_i64 HC.out.symm, HB.out.setCell (p := ⟨w.heap.size + 1, 0, none⟩) (by show w.heap.size ≤ w.heap.size + 1; omega) _⟩
 ·have HC := Lib.hid hc
  unfold clkEnd
  rw [if_neg hc]
  unfold errPanic
  clear hc
  go_wp2_with fail
  refine tdoor_err _ (w.heap.size + 1) _ _ _ (.int .i64 0) rfl Y1.out (fun w' hb => ⟨rfl, HB.out.trans (hb.mono (by omega))⟩)
end Go.Proofs.Ytpnbpepkoekkoaa
end
section
namespace Go.Proofs.Ytpnbpepkoekkoaa
open Go Go.RowKit
theorem run_wrong (w : World) : (Instr.typeAssert (.iface 113 (.agg #[])) 20 113 true).run Try.prog w = .ok (.tuple #[.agg #[], .bool true]) w := by kernel_rfl
theorem run_notnil3 (w : World) : (binOp .eql 20 (.iface 113 (.agg #[])) .nilIface).run Try.prog w = .ok (.bool false) w := by kernel_rfl
theorem rcatch_idle (p : Addr) (w : World) :
  CallsD Try.prog 62 #[.pointer (some p)] .returning w fun e u' w' => e = .returned (.tuple #[]) ∧ u' = .returning ∧ w = w' := by
 refine callsD_of_wpS Try.func62 rfl fun c₀ cs hu => ?_
 apply wpS_seq
 apply wpS_region
 simp [wpOpsS, go_sem, recoverD, hu, Try.ntmps62, Exit.thenS]
 refine wpS_of_wp ?_
 simp only [Array.replicate]
 go_wp2
 cases c₀
 simp_all [bodyPostS, results, Try.results62]
set_option maxRecDepth 100000 in
set_option maxHeartbeats 1000000 in
theorem rcatch_panicking (B : Nat) (x : Value) (w : World) (h0 : w.heap[B]? = some (.cells #[x] 35 (0, 0))) :
  CallsD Try.prog 62 #[.pointer (some ⟨B, 0, none⟩)] (.panicking [{ v := .iface 113 (.agg #[]), recovered := false }]) w fun e u' w' =>
   e = .returned (.tuple #[]) ∧ u' = .panicking [{ v := .iface 113 (.agg #[]), recovered := true }] ∧ w'.heap[B]? = some (.cells #[.int .i64 180] 35 (0, 0)) ∧ Below B w w' := by
 obtain ⟨V, hV, _, bV, _⟩ := mk_cells w #[] 113
 have h1 := keepO bV h0
 have c0 := cell_of_one h1
 have f0 := free_of_one h1
 have H0 := Lib.hid h1; have HB := Lib.hid bV
 have hlt : Hid (B < w.heap.size) := Lib.hid (Array.getElem?_eq_some_iff.1 h0).1
 clear h0 h1 bV
 refine callsD_of_wpS Try.func62 rfl fun c₀ cs hu => ?_
 apply wpS_seq
 apply wpS_region
 simp [wpOpsS, go_sem, recoverD, hu, Try.ntmps62, Exit.thenS]
 refine wpS_of_wp ?_
 have hta := run_wrong
 have hnn := run_notnil3
 simp only [Array.replicate]
 go_wp2
 exact ⟨rfl, _, rfl, .tuple #[], results_none rfl _ _ _, rfl, rfl, one_setCell H0.out, (HB.out.mono (Nat.le_of_lt hlt.out)).setCell (p := ⟨B, 0, none⟩) (Nat.le_refl _) _⟩
abbrev dfrR (E : Nat) : Deferred := { target := .fn (.func 62) #[.pointer (some ⟨E, 0, none⟩)], args := #[] }
set_option maxRecDepth 100000 in
set_option maxHeartbeats 1000000 in
theorem rdoor_err (t : Array Value) (B : Nat) (R : Ending → World → Prop) (w2 : World) (x : Value) (ht2 : t.getD 2 undef = .pointer (some ⟨B, 0, none⟩))
  (h0 : w2.heap[B]? = some (.cells #[x] 35 (0, 0))) (hR : ∀ w', Below B w2 w' → R (.returned (.int .i64 180)) w') :
  bodyPostD Try.prog Try.f29 R (Exit.panic wrongC)
   { tmps := t, defers := [dfrR B] } w2 := by
 have HR := Lib.hid hR; clear hR
 refine leaves_cons (f := 62) (args := #[.pointer (some ⟨B, 0, none⟩)]) (by simp) (by simp [go_sem]) ?_
 refine (rcatch_panicking B x _ h0).mono ?_
 rintro e u' w'' ⟨rfl, rfl, k0, hB⟩
 have c0 := cell_of_one k0
 simp at ht2
 have HB := Lib.hid hB; clear hB k0 h0
 simp [Leaves, settle, results, Try.results29, go_sem, ht2, c0]
 exact HR.out _ HB.out
set_option maxRecDepth 100000 in
set_option maxHeartbeats 1000000 in
theorem rdoor_ok (t : Array Value) (B : Nat) (R : Ending → World → Prop) (w2 : World) (x : Value) (ht2 : t.getD 2 undef = .pointer (some ⟨B, 0, none⟩))
  (h0 : w2.cell? ⟨B, 0, none⟩ = some x) (hR : R (.returned x) w2) :
  bodyPostD Try.prog Try.f29 R Exit.ret { tmps := t, defers := [dfrR B] } w2 := by
 have HR := Lib.hid hR; clear hR
 simp at ht2
 refine leaves_cons (f := 62) (args := #[.pointer (some ⟨B, 0, none⟩)]) (by simp) (by simp [go_sem]) ?_
 refine (rcatch_idle _ _).mono ?_
 rintro e u' w'' ⟨rfl, rfl, rfl⟩
 simp [Leaves, settle, results, Try.results29, go_sem, ht2, h0]
 exact HR.out
end Go.Proofs.Ytpnbpepkoekkoaa
end

/- Contracts and plain laws on the way to the statement: part 35. -/
import Derived.Test.YtpnbpepkoekkoaaZ33
import Derived.Test.YtpnbpepkoekkoaaZ23
import Derived.Test.YtpnbpepkoekkoaaZ34
import Derived.Test.YtpnbpepkoekkoaaZ28
import Derived.Defers
import Derived.Laws.Pointers
import Derived.Recover
import Derived.Test.YtpnbpepkoekkoaaZ3
set_option linter.unusedVariables false
set_option linter.unusedSimpArgs false
set_option maxRecDepth 100000
set_option maxHeartbeats 16000000
namespace Go.Proofs.Ytpnbpepkoekkoaa
open Go.Value (int)
open Go.IntKind (i64)
section
open Go Go.RowKit
open Go.RowKit
theorem atP {w : World} {b o i : Nat} {ts : List Pau} {t : Pau} (h : AtRow Dk 4 w b o ts) (ht : ts[i]? = some t) :
  w.cell? ⟨b, o + i * 4, none⟩ = some (int i64 t.bar) ∧ w.cell? ⟨b, o + i * 4 + 1, none⟩ = some (int i64 t.kind) ∧ w.cell? ⟨b, o + i * 4 + 2, none⟩ = some (int i64 t.lo) ∧ w.cell? ⟨b, o + i * 4 + 3, none⟩ = some (int i64 t.hi) :=
 ⟨h i t ht 0 _ rfl, h i t ht 1 _ rfl, h i t ht 2 _ rfl, h i t ht 3 _ rfl⟩
theorem atC {w : World} {b o i : Nat} {ts : List Con} {t : Con} (h : AtRow Dj 4 w b o ts) (ht : ts[i]? = some t) :
  w.cell? ⟨b, o + i * 4, none⟩ = some (int i64 t.frm) ∧ w.cell? ⟨b, o + i * 4 + 1, none⟩ = some (int i64 t.to) ∧ w.cell? ⟨b, o + i * 4 + 2, none⟩ = some (int i64 t.lo) ∧ w.cell? ⟨b, o + i * 4 + 3, none⟩ = some (int i64 t.hi) :=
 ⟨h i t ht 0 _ rfl, h i t ht 1 _ rfl, h i t ht 2 _ rfl, h i t ht 3 _ rfl⟩
def BN (c : Clk) : Ending := if BL c = 0 then .returned (.tuple #[]) else Af (BL c)
theorem F3 {c : Clk} (h : BU c = false) : Af 2 = BN c := by unfold BN BL; rw [h]; rfl
theorem AJ {c : Clk} (h1 : BU c = true) (h : CB c = false) : Af 130 = BN c := by unfold BN BL; rw [h1, h]; rfl
theorem Lf {c : Clk} (h1 : BU c = true) (h : CB c = true) : Ending.returned (.tuple #[]) = BN c := by unfold BN BL; rw [h1, h]; rfl
theorem CJ {c : Clk} (h : B9 c = false) : CB c = false := by unfold CB; rw [h]; rfl
theorem CK {c : Clk} (h : BS c.bars (-1) c.tempos = false) : CB c = false := by unfold CB; rw [h]; simp
theorem FT {c : Clk} (h : Ci c.tempos c.bars.toNat = false) : CB c = false := by unfold CB; rw [h]; simp
theorem C9 {c : Clk} (h : Bm c.bars (-1) c.pauses = false) : CB c = false := by unfold CB; rw [h]; simp
theorem BK {c : Clk} (h : c.spans.all (CC c.bars) = false) : CB c = false := by unfold CB; rw [h]; simp
theorem KE {c : Clk} (h1 : B9 c = true) (h2 : BS c.bars (-1) c.tempos = true) (h3 : Ci c.tempos c.bars.toNat = true) (h4 : Bm c.bars (-1) c.pauses = true) (h5 : c.spans.all (CC c.bars) = true) : CB c = true := by
 unfold CB; rw [h1, h2, h3, h4, h5]; rfl
theorem Ek {l : List Tmp} {k n : Nat} (h : Ci l (k + 1) = false) (hk : k + 1 ≤ n) : Ci l n = false := by
 induction n with
 | zero => omega
 | succ n ih =>
  rcases Nat.lt_or_ge n (k + 1) with h1 | h1
  ·have : n = k := by omega
   subst this; exact h
  ·unfold Ci; rw [ih h1]; rfl
theorem CA {l : List Tmp} {k : Nat} {b : Bool} (h : Ci l k = true) (hb : inB (D5 l k) 1 65536 = b) : Ci l (k + 1) = b := by
 unfold Ci; rw [h, hb]; rfl
theorem AD {α : Type} {l : List α} {k : Nat} {x : α} (h : l[k]? = some x) : l.drop k = x :: l.drop (k + 1) := by
 obtain ⟨h1, h2⟩ := ql.1 h; rw [← h2]; exact List.drop_eq_getElem_cons h1
theorem Dx {bars : Int} : ∀ {l : List Tmp} {last : Int}, BS bars last l = true → EZ l ∧ ∀ t ∈ l, last < t.bar ∧ t.bar ≤ bars - 1 ∧ -65536 ≤ t.ticks ∧ t.ticks ≤ 65536 ∧ -65536 ≤ t.step ∧ t.step ≤ 65536
 | [], _, _ => ⟨List.Pairwise.nil, fun _ h => by cases h⟩
 | t :: r, last, h => by
  unfold BS FS at h; simp only [Bool.and_eq_true, AY] at h; obtain ⟨⟨⟨h1, h2⟩, h3⟩, h4⟩ := h; obtain ⟨i1, i2⟩ := Dx h4; refine ⟨List.pairwise_cons.2 ⟨fun x hx => (i2 x hx).1, i1⟩, fun x hx => ?_⟩; rcases List.mem_cons.1 hx with rfl | hx
  ·omega
  ·have := i2 x hx; omega
theorem I9 {l : List Tmp} {t : Tmp} {bar : Int} (h : l[0]? = some t) (h0 : t.bar ≤ bar) : 0 < Cs l bar := by
 unfold Cs; exact List.countP_pos_iff.2 ⟨t, List.mem_of_getElem? h, by simpa using h0⟩
theorem Hd {c : Clk} {t : Tmp} (h : c.tempos[0]? = some t) (hb : ¬ t.bar = 0) : B9 c = false := by
 unfold B9
 cases hc : c.tempos with
 | nil => simp
 | cons a r => rw [hc] at h; simp at h; subst h; simp [hb]
theorem J4 {c : Clk} {t : Tmp} (h1 : inB c.bars 1 4096 = true) (h : c.tempos[0]? = some t) (hb : t.bar = 0) : B9 c = true := by
 unfold B9; rw [h1]
 cases hc : c.tempos with
 | nil => rw [hc] at h; simp at h
 | cons a r => rw [hc] at h; simp at h; subst h; simp [hb]
theorem DB {c : Clk} (h : 4096 < c.tempos.length ∨ 4096 < c.pauses.length ∨ 256 < c.spans.length) : BU c = false := by
 unfold BU; rcases h with h | h | h
 ·rw [decide_eq_false (by omega : ¬ c.tempos.length ≤ 4096)]; rfl
 ·rw [decide_eq_false (by omega : ¬ c.pauses.length ≤ 4096)]; simp
 ·rw [decide_eq_false (by omega : ¬ c.spans.length ≤ 256)]; simp
theorem Hg {c : Clk} (h1 : c.tempos.length ≤ 4096) (h2 : c.pauses.length ≤ 4096) (h3 : c.spans.length ≤ 256) : BU c = true := by
 unfold BU; rw [decide_eq_true h1, decide_eq_true h2, decide_eq_true h3]; rfl
theorem FD (bars : Int) (aT aP aS : Option Addr) (cT cP cS : Nat) (ts : List Tmp) (ps : List Pau) (ss : List Con) (w : World)
  (hT : IsRow CD 3 w (.slice aT ts.length cT) ts) (hP : IsRow Dk 4 w (.slice aP ps.length cP) ps) (hS : IsRow Dj 4 w (.slice aS ss.length cS) ss) (hTP : ts.length < ps.length) (hbig : 4096 < ps.length) :
  Calls Try.prog 87 #[.agg #[int i64 bars, .slice aT ts.length cT, .slice aP ps.length cP, .slice aS ss.length cS]] w fun e w' => e = BN ⟨bars, ts, ps, ss⟩ ∧ Below w.heap.size w w' := by
 generalize hclk : (⟨bars, ts, ps, ss⟩ : Clk) = clk; have k1 : clk.bars = bars := by rw [← hclk]
 have k2 : clk.tempos = ts := by rw [← hclk]
 have k3 : clk.pauses = ps := by rw [← hclk]
 have k4 : clk.spans = ss := by rw [← hclk]
 have K1 := qh k1; have K2 := qh k2; have K3 := qh k3; have K4 := qh k4; clear hclk k1 k2 k3 k4; obtain ⟨_, _, _, lT, _⟩ := id hT; obtain ⟨_, _, _, lP, _⟩ := id hP; obtain ⟨_, _, _, lS, _⟩ := id hS; unfold maxLen at lT lP lS; have HT := qh hT; have HP := qh hP; have HS := qh hS; clear hT hP hS; generalize hnT : ts.length = nT at *; generalize hnP : ps.length = nP at *; generalize hnS : ss.length = nS at *; have NT := qh hnT; have NP := qh hnP; have NS := qh hnS; clear hnT hnP hnS; have b0 : Below w.heap.size w (w.alloc (.cells #[int i64 bars, .slice aT nT cT, .slice aP nP cP, .slice aS nS cS] 118)) := (Below.refl _ w).alloc (qn _) _; have g0 := heap_alloc_new w (.cells #[int i64 bars, .slice aT nT cT, .slice aP nP cP, .slice aS nS cS] 118); have hz0 : w.heap.size < (w.alloc (.cells #[int i64 bars, .slice aT nT cT, .slice aP nP cP, .slice aS nS cS] 118)).heap.size := by simp
 go_enter Try.func87, Try.ntmps87; go_wp2_with fail; generalize w.alloc (.cells #[int i64 bars, .slice aT nT cT, .slice aP nP cP, .slice aS nS cS] 118) = w0 at *; have HB := qh b0; have G0 := qh g0; clear b0; have c0 : w0.cell? ⟨w.heap.size, 0, none⟩ = some (int i64 bars) := Aa g0 0 rfl; have c1 : w0.cell? ⟨w.heap.size, 1, none⟩ = some (.slice aT nT cT) := Aa g0 1 rfl; have c2 : w0.cell? ⟨w.heap.size, 2, none⟩ = some (.slice aP nP cP) := Aa g0 2 rfl; have c3 : w0.cell? ⟨w.heap.size, 3, none⟩ = some (.slice aS nS cS) := Aa g0 3 rfl; clear g0; refine (As 2 _).mono ?_; rintro e w' ⟨rfl, rfl⟩; unfold Af; go_wp2_with fail; exact ⟨rfl, F3 (DB (by rw [K2.out, K3.out, K4.out, NT.out, NP.out, NS.out]; omega)), HB.out⟩
theorem FF (bars : Int) (aT aP aS : Option Addr) (cT cP cS : Nat) (ts : List Tmp) (ps : List Pau) (ss : List Con) (w : World)
  (hT : IsRow CD 3 w (.slice aT ts.length cT) ts) (hP : IsRow Dk 4 w (.slice aP ps.length cP) ps) (hS : IsRow Dj 4 w (.slice aS ss.length cS) ss) (hTP : ts.length < ps.length) (hok : ps.length ≤ 4096) (hbig : 256 < ss.length) :
  Calls Try.prog 87 #[.agg #[int i64 bars, .slice aT ts.length cT, .slice aP ps.length cP, .slice aS ss.length cS]] w fun e w' => e = BN ⟨bars, ts, ps, ss⟩ ∧ Below w.heap.size w w' := by
 generalize hclk : (⟨bars, ts, ps, ss⟩ : Clk) = clk; have k1 : clk.bars = bars := by rw [← hclk]
 have k2 : clk.tempos = ts := by rw [← hclk]
 have k3 : clk.pauses = ps := by rw [← hclk]
 have k4 : clk.spans = ss := by rw [← hclk]
 have K1 := qh k1; have K2 := qh k2; have K3 := qh k3; have K4 := qh k4; clear hclk k1 k2 k3 k4; obtain ⟨_, _, _, lT, _⟩ := id hT; obtain ⟨_, _, _, lP, _⟩ := id hP; obtain ⟨_, _, _, lS, _⟩ := id hS; unfold maxLen at lT lP lS; have HT := qh hT; have HP := qh hP; have HS := qh hS; clear hT hP hS; generalize hnT : ts.length = nT at *; generalize hnP : ps.length = nP at *; generalize hnS : ss.length = nS at *; have NT := qh hnT; have NP := qh hnP; have NS := qh hnS; clear hnT hnP hnS; have b0 : Below w.heap.size w (w.alloc (.cells #[int i64 bars, .slice aT nT cT, .slice aP nP cP, .slice aS nS cS] 118)) := (Below.refl _ w).alloc (qn _) _; have g0 := heap_alloc_new w (.cells #[int i64 bars, .slice aT nT cT, .slice aP nP cP, .slice aS nS cS] 118); have hz0 : w.heap.size < (w.alloc (.cells #[int i64 bars, .slice aT nT cT, .slice aP nP cP, .slice aS nS cS] 118)).heap.size := by simp
 have fS : decide ((nS : Int) ≤ 256) = false := by simpa using by omega
 have fM : ((nP : Nat) : Int) ≤ 4096 := by omega
 go_enter Try.func87, Try.ntmps87; go_wp2_with fail; generalize w.alloc (.cells #[int i64 bars, .slice aT nT cT, .slice aP nP cP, .slice aS nS cS] 118) = w0 at *; have HB := qh b0; have G0 := qh g0; clear b0; have c0 : w0.cell? ⟨w.heap.size, 0, none⟩ = some (int i64 bars) := Aa g0 0 rfl; have c1 : w0.cell? ⟨w.heap.size, 1, none⟩ = some (.slice aT nT cT) := Aa g0 1 rfl; have c2 : w0.cell? ⟨w.heap.size, 2, none⟩ = some (.slice aP nP cP) := Aa g0 2 rfl; have c3 : w0.cell? ⟨w.heap.size, 3, none⟩ = some (.slice aS nS cS) := Aa g0 3 rfl; clear g0; refine (As 2 _).mono ?_; rintro e w' ⟨rfl, rfl⟩; unfold Af; go_wp2_with fail; exact ⟨rfl, F3 (DB (by rw [K2.out, K3.out, K4.out, NT.out, NP.out, NS.out]; omega)), HB.out⟩
theorem FH (bars : Int) (aT aP aS : Option Addr) (cT cP cS : Nat) (ts : List Tmp) (ps : List Pau) (ss : List Con) (w : World)
  (hT : IsRow CD 3 w (.slice aT ts.length cT) ts) (hP : IsRow Dk 4 w (.slice aP ps.length cP) ps) (hS : IsRow Dj 4 w (.slice aS ss.length cS) ss) (hTP : ts.length < ps.length) (hok : ps.length ≤ 4096) (hok2 : ss.length ≤ 256) :
  Calls Try.prog 87 #[.agg #[int i64 bars, .slice aT ts.length cT, .slice aP ps.length cP, .slice aS ss.length cS]] w fun e w' => e = BN ⟨bars, ts, ps, ss⟩ ∧ Below w.heap.size w w' := by
 generalize hclk : (⟨bars, ts, ps, ss⟩ : Clk) = clk; have k1 : clk.bars = bars := by rw [← hclk]
 have k2 : clk.tempos = ts := by rw [← hclk]
 have k3 : clk.pauses = ps := by rw [← hclk]
 have k4 : clk.spans = ss := by rw [← hclk]
 have K1 := qh k1; have K2 := qh k2; have K3 := qh k3; have K4 := qh k4; clear hclk k1 k2 k3 k4; obtain ⟨_, _, _, lT, _⟩ := id hT; obtain ⟨_, _, _, lP, _⟩ := id hP; obtain ⟨_, _, _, lS, _⟩ := id hS; unfold maxLen at lT lP lS; have HT := qh hT; have HP := qh hP; have HS := qh hS; clear hT hP hS; generalize hnT : ts.length = nT at *; generalize hnP : ps.length = nP at *; generalize hnS : ss.length = nS at *; have NT := qh hnT; have NP := qh hnP; have NS := qh hnS; clear hnT hnP hnS; have b0 : Below w.heap.size w (w.alloc (.cells #[int i64 bars, .slice aT nT cT, .slice aP nP cP, .slice aS nS cS] 118)) := (Below.refl _ w).alloc (qn _) _; have g0 := heap_alloc_new w (.cells #[int i64 bars, .slice aT nT cT, .slice aP nP cP, .slice aS nS cS] 118); have hz0 : w.heap.size < (w.alloc (.cells #[int i64 bars, .slice aT nT cT, .slice aP nP cP, .slice aS nS cS] 118)).heap.size := by simp
 have fS : decide ((nS : Int) ≤ 256) = true := by simpa using by omega
 have fM : ((nP : Nat) : Int) ≤ 4096 := by omega
 have LIM : Hid (BU clk = true) := qh (Hg (by rw [K2.out, NT.out]; omega) (by rw [K3.out, NP.out]; omega) (by rw [K4.out, NS.out]; omega)); go_enter Try.func87, Try.ntmps87; go_wp2_with fail; generalize w.alloc (.cells #[int i64 bars, .slice aT nT cT, .slice aP nP cP, .slice aS nS cS] 118) = w0 at *; have HB := qh b0; have G0 := qh g0; clear b0; have c0 : w0.cell? ⟨w.heap.size, 0, none⟩ = some (int i64 bars) := Aa g0 0 rfl; have c1 : w0.cell? ⟨w.heap.size, 1, none⟩ = some (.slice aT nT cT) := Aa g0 1 rfl; have c2 : w0.cell? ⟨w.heap.size, 2, none⟩ = some (.slice aP nP cP) := Aa g0 2 rfl; have c3 : w0.cell? ⟨w.heap.size, 3, none⟩ = some (.slice aS nS cS) := Aa g0 3 rfl; clear g0; refine (Bw 2 _).mono ?_; rintro e w' ⟨rfl, rfl⟩; clear fS fM; go_wp2_with fail; refine (AV bars 1 4096 _).mono ?_; rintro e w' ⟨rfl, rfl⟩
 cases h1 : inB bars 1 4096 with
 | false =>
  go_wp2_with fail; refine (As 130 _).mono ?_; rintro e w' ⟨rfl, rfl⟩; unfold Af; go_wp2_with fail; exact ⟨rfl, AJ LIM.out (CJ (by unfold B9; rw [K1.out, h1]; rfl)), HB.out⟩
 | true =>
  have H1 := qh h1; obtain ⟨h1a, h1b⟩ := AY.1 h1; clear h1; obtain ⟨B, hB⟩ : ∃ B : Nat, bars = (B : Int) := ⟨bars.toNat, by omega⟩; subst hB; have hBl : B ≤ 4096 := by omega
  have hBp : 1 ≤ B := by omega
  clear h1a h1b; by_cases hne : 0 < nT
  rotate_left
  ·have f0 : ¬ (0 : Int) < (nT : Int) := by omega
   have he : ts = [] := List.length_eq_zero_iff.1 (by rw [NT.out]; omega); go_wp2_with fail; refine (As 130 _).mono ?_; rintro e w' ⟨rfl, rfl⟩; unfold Af; go_wp2_with fail; exact ⟨rfl, AJ LIM.out (CJ (by unfold B9; rw [K1.out, K2.out, he]; simp)), HB.out⟩
  obtain ⟨t0, ht0⟩ : ∃ t, ts[0]? = some t := ⟨_, qg (by rw [NT.out]; exact hne)⟩; obtain ⟨b, o, hao, hat, hlt⟩ := HT.out.block ht0; subst hao; have HAT := qh hat; clear hat; have hne' : (0 : Int) < (nT : Int) := by omega
  have p0 : w0.cell? ⟨b, o, none⟩ = some (int i64 t0.bar) := by
   have := (atT (HAT.out.below HB.out hlt) ht0).1; simpa using this
  have HT0 := qh ht0; clear ht0; by_cases h0 : t0.bar = 0
  rotate_left
  ·have f0 : (t0.bar == 0) = false := by simpa using h0
   have HH := qh h0; clear h0; go_wp2_with fail; refine (As 130 _).mono ?_; rintro e w' ⟨rfl, rfl⟩; unfold Af; go_wp2_with fail; exact ⟨rfl, AJ LIM.out (CJ (Hd (by rw [K2.out]; exact HT0.out) HH.out)), HB.out⟩
  have f0 : (t0.bar == 0) = true := by simpa using h0
  have HH := qh h0; clear h0; have HEAD : Hid (B9 clk = true) := qh (J4 (by rw [K1.out]; exact H1.out) (by rw [K2.out]; exact HT0.out) HH.out); go_wp2_with fail; refine (Bw 130 _).mono ?_; rintro e w' ⟨rfl, rfl⟩; clear f0 p0; go_wp2_with fail; clear c0 c1 c2 c3; go_loopw [2, 46] (fun lv iv wr => ∃ (k : Nat) (last : Int), k ≤ nT ∧ iv = int i64 k ∧ lv = int i64 last ∧ -1 ≤ last ∧ last ≤ 4096 ∧ Hid (BS B (-1) ts = BS B last (ts.drop k)) ∧ w.heap.size < wr.heap.size ∧ Hid (wr.heap[w.heap.size]? = some (.cells #[int i64 (B : Int), .slice (some ⟨b, o, none⟩) nT cT, .slice aP nP cP, .slice aS nS cS] 118 (0, 0))) ∧ Hid (Below w.heap.size w wr)) (fun _ iv _ => nT - (intOf iv).toNat)
  case atStart => exact ⟨0, -1, Nat.zero_le _, rfl, rfl, by omega, by omega, qh rfl, hz0, G0, HB⟩
  case round =>
   clear HB G0 hz0; obtain ⟨k, last, hk, rfl, rfl, hl1, hl2, htm, hsz, hbx, hbw⟩ := hrel; by_cases hkn : k < nT
   ·obtain ⟨t, ht⟩ : ∃ t, ts[k]? = some t := ⟨_, qg (by rw [NT.out]; exact hkn)⟩
    obtain ⟨p0, p1, p2⟩ := atT (HAT.out.below hbw.out hlt) ht; have hbs : b < wr.heap.size := by have := hbw.out.size; omega
    have HTt := qh ht; clear ht; have hkn' : (k : Int) < (nT : Int) := by omega
    have c0 : wr.cell? ⟨w.heap.size, 0, none⟩ = some (int i64 (B : Int)) := Aa hbx.out 0 rfl; have x0 := (Below.heap_alloc wr (.cells #[int i64 t.bar, int i64 t.ticks, int i64 t.step] 135) w.heap.size hsz).trans hbx.out; have x2 := heap_alloc_new wr (.cells #[int i64 t.bar, int i64 t.ticks, int i64 t.step] 135); have x3 : Below w.heap.size w (wr.alloc (.cells #[int i64 t.bar, int i64 t.ticks, int i64 t.step] 135)) := hbw.out.alloc (by omega) _; have x4 : w.heap.size < (wr.alloc (.cells #[int i64 t.bar, int i64 t.ticks, int i64 t.step] 135)).heap.size := by simp; omega
    have X0 := qh x0; have X2 := qh x2; have HB5 := qh x3; clear x0 x2 x3; go_wp2_with fail; generalize wr.alloc (.cells #[int i64 t.bar, int i64 t.ticks, int i64 t.step] 135) = w5 at *; generalize wr.heap.size = gw at *; clear c0 p0 p1 p2; have c0 : w5.cell? ⟨w.heap.size, 0, none⟩ = some (int i64 (B : Int)) := Aa X0.out 0 rfl; have l0 : w5.cell? ⟨gw, 0, none⟩ = some (int i64 t.bar) := Aa X2.out 0 rfl; have l1 : w5.cell? ⟨gw, 1, none⟩ = some (int i64 t.ticks) := Aa X2.out 1 rfl; have l2 : w5.cell? ⟨gw, 2, none⟩ = some (int i64 t.step) := Aa X2.out 2 rfl; clear X2 hbx hbw; refine (AV t.bar (last + 1) ((B : Int) - 1) _).mono ?_; rintro e w' ⟨rfl, rfl⟩
    cases q0 : inB t.bar (last + 1) ((B : Int) - 1) with
    | false =>
     go_wp2_with fail; refine (As 130 _).mono ?_; rintro e w' ⟨rfl, rfl⟩; unfold Af; go_wp2_with fail; exact ⟨rfl, AJ LIM.out (CK (by rw [K1.out, K2.out, htm.out, AD HTt.out]; simp [BS, FS, q0])), HB5.out⟩
    | true =>
     have Q0 := qh q0; clear q0; go_wp2_with fail; refine (AV t.ticks (-65536) 65536 _).mono ?_; rintro e w' ⟨rfl, rfl⟩
     cases q1 : inB t.ticks (-65536) 65536 with
     | false =>
      go_wp2_with fail; refine (As 130 _).mono ?_; rintro e w' ⟨rfl, rfl⟩; unfold Af; go_wp2_with fail; exact ⟨rfl, AJ LIM.out (CK (by rw [K1.out, K2.out, htm.out, AD HTt.out]; simp [BS, FS, Q0.out, q1])), HB5.out⟩
     | true =>
      have Q1 := qh q1; clear q1; go_wp2_with fail; refine (AV t.step (-65536) 65536 _).mono ?_; rintro e w' ⟨rfl, rfl⟩
      cases q2 : inB t.step (-65536) 65536 with
      | false =>
       go_wp2_with fail; refine (As 130 _).mono ?_; rintro e w' ⟨rfl, rfl⟩; unfold Af; go_wp2_with fail; exact ⟨rfl, AJ LIM.out (CK (by rw [K1.out, K2.out, htm.out, AD HTt.out]; simp [BS, FS, Q0.out, Q1.out, q2])), HB5.out⟩
      | true =>
       have Q2 := qh q2; clear q2; go_wp2_with fail; refine (Bw 130 _).mono ?_; rintro e w' ⟨rfl, rfl⟩; go_wp2_with fail; go_roundw
       case rel => exact ⟨k + 1, t.bar, by omega, by go_num, rfl, by have := AY.1 Q0.out; omega, by have := AY.1 Q0.out; omega, qh (by rw [htm.out, AD HTt.out]; simp [BS, FS, Q0.out, Q1.out, Q2.out]), x4, X0, HB5⟩
       case measure => simp [intOf]; omega
   ·obtain rfl : nT = k := by omega
    have hin : ¬ (nT : Int) < (nT : Int) := by omega
    have TM : Hid (BS B (-1) ts = true) := qh (by rw [htm.out, List.drop_of_length_le (by rw [NT.out]; exact qn _)]; rfl); clear htm hl1 hl2; have ⟨hso, hall⟩ := Dx TM.out; have NW : Hid (∀ j : Nat, j < B → Ig ts j) := qh (fun j hj => ⟨hso, I9 HT0.out (by rw [HH.out]; omega), by omega, by omega, fun t ht => by have := hall t ht; omega⟩); clear hso hall; have c0 : wr.cell? ⟨w.heap.size, 0, none⟩ = some (int i64 (B : Int)) := Aa hbx.out 0 rfl; go_wp2_with fail; clear c0 hin; go_loopw [74] (fun iv wr => ∃ j : Nat, j ≤ B ∧ iv = int i64 j ∧ Hid (Ci ts j = true) ∧ w.heap.size < wr.heap.size ∧ Hid (wr.heap[w.heap.size]? = some (.cells #[int i64 (B : Int), .slice (some ⟨b, o, none⟩) nT cT, .slice aP nP cP, .slice aS nS cS] 118 (0, 0))) ∧ Hid (Below w.heap.size w wr)) (fun iv _ => B - (intOf iv).toNat)
    case atStart => exact ⟨0, Nat.zero_le _, rfl, qh rfl, hsz, hbx, hbw⟩
    case round =>
     clear hbx hbw hsz; obtain ⟨j, hj, rfl, htk, hsz, hbx, hbw⟩ := hrel; by_cases hjB : j < B
     ·have hjB' : (j : Int) < (B : Int) := by omega
      have c0 : wr.cell? ⟨w.heap.size, 0, none⟩ = some (int i64 (B : Int)) := Aa hbx.out 0 rfl; have c1 : wr.cell? ⟨w.heap.size, 1, none⟩ = some (.slice (some ⟨b, o, none⟩) nT cT) := Aa hbx.out 1 rfl; have c2 : wr.cell? ⟨w.heap.size, 2, none⟩ = some (.slice aP nP cP) := Aa hbx.out 2 rfl; have c3 : wr.cell? ⟨w.heap.size, 3, none⟩ = some (.slice aS nS cS) := Aa hbx.out 3 rfl; go_wp2_with fail; refine (Gj B j b o nT cT (.slice aP nP cP) (.slice aS nS cS) ts wr NT.out (by omega) (HAT.out.below hbw.out hlt) (by have := hbw.out.size; omega) (NW.out j hjB)).mono ?_; rintro e w5 ⟨rfl, b5⟩; have hz5 := b5.size; have x0 := (b5.block _ hsz).trans hbx.out; have HB5 := qh (hbw.out.trans (b5.mono (by omega))); have X0 := qh x0; have hsz5 : w.heap.size < w5.heap.size := by omega
      clear x0 b5 c0 c1 c2 c3 hbx hbw hz5; generalize hg : D5 ts j = g; have HG := qh hg; clear hg; go_wp2_with fail; refine (AV g 1 65536 _).mono ?_; rintro e w' ⟨rfl, rfl⟩
      cases h2 : inB g 1 65536 with
      | false =>
       go_wp2_with fail; refine (As 130 _).mono ?_; rintro e w' ⟨rfl, rfl⟩; unfold Af; go_wp2_with fail; exact ⟨rfl, AJ LIM.out (FT (by rw [K2.out, K1.out, Int.toNat_natCast]; exact Ek (CA htk.out (by rw [HG.out]; exact h2)) (by omega))), HB5.out⟩
      | true =>
       have H2 := qh h2; clear h2; go_wp2_with fail; refine (Bw 130 _).mono ?_; rintro e w' ⟨rfl, rfl⟩; go_wp2_with fail; go_roundw
       case rel => exact ⟨j + 1, by omega, by go_num, qh (CA htk.out (by rw [HG.out]; exact H2.out)), hsz5, X0, HB5⟩
       case measure => simp [intOf]; omega
     ·obtain rfl : B = j := by omega
      have hin : ¬ (B : Int) < (B : Int) := by omega
      have c2 : wr.cell? ⟨w.heap.size, 2, none⟩ = some (.slice aP nP cP) := Aa hbx.out 2 rfl; go_wp2_with fail; clear c2 hin; go_loopw [2, 86] (fun lv iv wr => ∃ (i : Nat) (last : Int), i ≤ nP ∧ iv = int i64 i ∧ lv = int i64 last ∧ -1 ≤ last ∧ last ≤ 4096 ∧ Hid (Bm B (-1) ps = Bm B last (ps.drop i)) ∧ w.heap.size < wr.heap.size ∧ Hid (wr.heap[w.heap.size]? = some (.cells #[int i64 (B : Int), .slice (some ⟨b, o, none⟩) nT cT, .slice aP nP cP, .slice aS nS cS] 118 (0, 0))) ∧ Hid (Below w.heap.size w wr)) (fun _ iv _ => nP - (intOf iv).toNat)
      case atStart => exact ⟨0, -1, Nat.zero_le _, rfl, rfl, by omega, by omega, qh rfl, hsz, hbx, hbw⟩
      case round =>
       clear hsz hbx hbw; obtain ⟨i, last, hi, rfl, rfl, hl1, hl2, htm, hsz, hbx, hbw⟩ := hrel; by_cases hkn : i < nP
       ·obtain ⟨t, ht⟩ : ∃ t, ps[i]? = some t := ⟨_, qg (by rw [NP.out]; exact hkn)⟩
        obtain ⟨bp, op, hap, hatp, hltp⟩ := HP.out.block ht; subst hap; obtain ⟨p0, p1, p2, p3⟩ := atP (hatp.below hbw.out hltp) ht; have hbs : bp < wr.heap.size := by have := hbw.out.size; omega
        clear hatp; have HTt := qh ht; clear ht; have hkn' : (i : Int) < (nP : Int) := by omega
        have c0 : wr.cell? ⟨w.heap.size, 0, none⟩ = some (int i64 (B : Int)) := Aa hbx.out 0 rfl; have x0 := (Below.heap_alloc wr (.cells #[int i64 t.bar, int i64 t.kind, int i64 t.lo, int i64 t.hi] 147) w.heap.size hsz).trans hbx.out; have x2 := heap_alloc_new wr (.cells #[int i64 t.bar, int i64 t.kind, int i64 t.lo, int i64 t.hi] 147); have x3 : Below w.heap.size w (wr.alloc (.cells #[int i64 t.bar, int i64 t.kind, int i64 t.lo, int i64 t.hi] 147)) := hbw.out.alloc (by omega) _; have x4 : w.heap.size < (wr.alloc (.cells #[int i64 t.bar, int i64 t.kind, int i64 t.lo, int i64 t.hi] 147)).heap.size := by simp; omega
        have X0 := qh x0; have X2 := qh x2; have HB5 := qh x3; clear x0 x2 x3; go_wp2_with fail; generalize wr.alloc (.cells #[int i64 t.bar, int i64 t.kind, int i64 t.lo, int i64 t.hi] 147) = w5 at *; generalize wr.heap.size = gw at *; clear c0 p0 p1 p2 p3; have c0 : w5.cell? ⟨w.heap.size, 0, none⟩ = some (int i64 (B : Int)) := Aa X0.out 0 rfl; have l0 : w5.cell? ⟨gw, 0, none⟩ = some (int i64 t.bar) := Aa X2.out 0 rfl; have l1 : w5.cell? ⟨gw, 1, none⟩ = some (int i64 t.kind) := Aa X2.out 1 rfl; have l2 : w5.cell? ⟨gw, 2, none⟩ = some (int i64 t.lo) := Aa X2.out 2 rfl; have l3 : w5.cell? ⟨gw, 3, none⟩ = some (int i64 t.hi) := Aa X2.out 3 rfl; clear X2 hbx hbw; refine (AV t.bar (last + 1) ((B : Int) - 2) _).mono ?_; rintro e w' ⟨rfl, rfl⟩
        cases q0 : inB t.bar (last + 1) ((B : Int) - 2) with
        | false =>
         go_wp2_with fail; refine (As 130 _).mono ?_; rintro e w' ⟨rfl, rfl⟩; unfold Af; go_wp2_with fail; exact ⟨rfl, AJ LIM.out (C9 (by rw [K1.out, K3.out, htm.out, AD HTt.out]; simp [Bm, Et, q0])), HB5.out⟩
        | true =>
         have Q0 := qh q0; clear q0; go_wp2_with fail; refine (AV t.kind 1 2 _).mono ?_; rintro e w' ⟨rfl, rfl⟩
         cases q1 : inB t.kind 1 2 with
         | false =>
          go_wp2_with fail; refine (As 130 _).mono ?_; rintro e w' ⟨rfl, rfl⟩; unfold Af; go_wp2_with fail; exact ⟨rfl, AJ LIM.out (C9 (by rw [K1.out, K3.out, htm.out, AD HTt.out]; simp [Bm, Et, Q0.out, q1])), HB5.out⟩
         | true =>
          have Q1 := qh q1; clear q1; go_wp2_with fail; refine (AV t.lo 0 t.hi _).mono ?_; rintro e w' ⟨rfl, rfl⟩
          cases q2 : inB t.lo 0 t.hi with
          | false =>
           go_wp2_with fail; refine (As 130 _).mono ?_; rintro e w' ⟨rfl, rfl⟩; unfold Af; go_wp2_with fail; exact ⟨rfl, AJ LIM.out (C9 (by rw [K1.out, K3.out, htm.out, AD HTt.out]; simp [Bm, Et, Q0.out, Q1.out, q2])), HB5.out⟩
          | true =>
           have Q2 := qh q2; clear q2; go_wp2_with fail
           cases q3 : decide (t.hi ≤ 1048576) with
           | false =>
            refine (As 130 _).mono ?_; rintro e w' ⟨rfl, rfl⟩; unfold Af; go_wp2_with fail; exact ⟨rfl, AJ LIM.out (C9 (by rw [K1.out, K3.out, htm.out, AD HTt.out]; simp [Bm, Et, Q0.out, Q1.out, Q2.out, of_decide_eq_false q3])), HB5.out⟩
           | true =>
            have Q3 := qh (of_decide_eq_true q3); clear q3; refine (Bw 130 _).mono ?_; rintro e w' ⟨rfl, rfl⟩; go_wp2_with fail; go_roundw
            case rel => exact ⟨i + 1, t.bar, by omega, by go_num, rfl, by have := AY.1 Q0.out; omega, by have := AY.1 Q0.out; omega, qh (by rw [htm.out, AD HTt.out]; simp [Bm, Et, Q0.out, Q1.out, Q2.out, Q3.out]), x4, X0, HB5⟩
            case measure => simp [intOf]; omega
       ·obtain rfl : nP = i := by omega
        have hin : ¬ (nP : Int) < (nP : Int) := by omega
        have PM : Hid (Bm B (-1) ps = true) := qh (by rw [htm.out, List.drop_of_length_le (by rw [NP.out]; exact qn _)]; rfl); clear htm hl1 hl2; have c3 : wr.cell? ⟨w.heap.size, 3, none⟩ = some (.slice aS nS cS) := Aa hbx.out 3 rfl; go_wp2_with fail; clear c3 hin; go_loopw [122] (fun iv wr => ∃ i : Nat, i ≤ nS ∧ iv = int i64 i ∧ Hid (ss.all (CC B) = (ss.drop i).all (CC B)) ∧ w.heap.size < wr.heap.size ∧ Hid (wr.heap[w.heap.size]? = some (.cells #[int i64 (B : Int), .slice (some ⟨b, o, none⟩) nT cT, .slice aP nP cP, .slice aS nS cS] 118 (0, 0))) ∧ Hid (Below w.heap.size w wr)) (fun iv _ => nS - (intOf iv).toNat)
        case atStart => exact ⟨0, Nat.zero_le _, rfl, qh rfl, hsz, hbx, hbw⟩
        case round =>
         clear hsz hbx hbw; obtain ⟨i, hi, rfl, htm, hsz, hbx, hbw⟩ := hrel; by_cases hkn : i < nS
         ·obtain ⟨t, ht⟩ : ∃ t, ss[i]? = some t := ⟨_, qg (by rw [NS.out]; exact hkn)⟩
          obtain ⟨bp, op, hap, hatp, hltp⟩ := HS.out.block ht; subst hap; obtain ⟨p0, p1, p2, p3⟩ := atC (hatp.below hbw.out hltp) ht; have hbs : bp < wr.heap.size := by have := hbw.out.size; omega
          clear hatp; have HTt := qh ht; clear ht; have hkn' : (i : Int) < (nS : Int) := by omega
          have c0 : wr.cell? ⟨w.heap.size, 0, none⟩ = some (int i64 (B : Int)) := Aa hbx.out 0 rfl; have x0 := (Below.heap_alloc wr (.cells #[int i64 t.frm, int i64 t.to, int i64 t.lo, int i64 t.hi] 149) w.heap.size hsz).trans hbx.out; have x2 := heap_alloc_new wr (.cells #[int i64 t.frm, int i64 t.to, int i64 t.lo, int i64 t.hi] 149); have x3 : Below w.heap.size w (wr.alloc (.cells #[int i64 t.frm, int i64 t.to, int i64 t.lo, int i64 t.hi] 149)) := hbw.out.alloc (by omega) _; have x4 : w.heap.size < (wr.alloc (.cells #[int i64 t.frm, int i64 t.to, int i64 t.lo, int i64 t.hi] 149)).heap.size := by simp; omega
          have X0 := qh x0; have X2 := qh x2; have HB5 := qh x3; clear x0 x2 x3; go_wp2_with fail; generalize wr.alloc (.cells #[int i64 t.frm, int i64 t.to, int i64 t.lo, int i64 t.hi] 149) = w5 at *; generalize wr.heap.size = gw at *; clear c0 p0 p1 p2 p3; have c0 : w5.cell? ⟨w.heap.size, 0, none⟩ = some (int i64 (B : Int)) := Aa X0.out 0 rfl; have l0 : w5.cell? ⟨gw, 0, none⟩ = some (int i64 t.frm) := Aa X2.out 0 rfl; have l1 : w5.cell? ⟨gw, 1, none⟩ = some (int i64 t.to) := Aa X2.out 1 rfl; have l2 : w5.cell? ⟨gw, 2, none⟩ = some (int i64 t.lo) := Aa X2.out 2 rfl; have l3 : w5.cell? ⟨gw, 3, none⟩ = some (int i64 t.hi) := Aa X2.out 3 rfl; clear X2 hbx hbw; refine (AV t.frm 0 (B : Int) _).mono ?_; rintro e w' ⟨rfl, rfl⟩
          cases q0 : inB t.frm 0 (B : Int) with
          | false =>
           go_wp2_with fail; refine (As 130 _).mono ?_; rintro e w' ⟨rfl, rfl⟩; unfold Af; go_wp2_with fail; exact ⟨rfl, AJ LIM.out (BK (by rw [K1.out, K4.out, htm.out, AD HTt.out]; simp [CC, q0])), HB5.out⟩
          | true =>
           have Q0 := qh q0; clear q0; go_wp2_with fail; refine (AV t.to 0 (B : Int) _).mono ?_; rintro e w' ⟨rfl, rfl⟩
           cases q1 : inB t.to 0 (B : Int) with
           | false =>
            go_wp2_with fail; refine (As 130 _).mono ?_; rintro e w' ⟨rfl, rfl⟩; unfold Af; go_wp2_with fail; exact ⟨rfl, AJ LIM.out (BK (by rw [K1.out, K4.out, htm.out, AD HTt.out]; simp [CC, Q0.out, q1])), HB5.out⟩
           | true =>
            have Q1 := qh q1; clear q1; by_cases q2 : t.frm = t.to
            ·have f2 : (t.frm != t.to) = false := by simpa using q2
             have Q2 := qh q2; clear q2; go_wp2_with fail; refine (As 130 _).mono ?_; rintro e w' ⟨rfl, rfl⟩; unfold Af; go_wp2_with fail; exact ⟨rfl, AJ LIM.out (BK (by rw [K1.out, K4.out, htm.out, AD HTt.out]; simp [CC, Q1.out, Q2.out])), HB5.out⟩
            have f2 : (t.frm != t.to) = true := by simpa using q2
            have Q2 := qh q2; clear q2; go_wp2_with fail; clear f2; refine (AV t.lo (-1099511627776) t.hi _).mono ?_; rintro e w' ⟨rfl, rfl⟩
            cases q3 : inB t.lo (-1099511627776) t.hi with
            | false =>
             go_wp2_with fail; refine (As 130 _).mono ?_; rintro e w' ⟨rfl, rfl⟩; unfold Af; go_wp2_with fail; exact ⟨rfl, AJ LIM.out (BK (by rw [K1.out, K4.out, htm.out, AD HTt.out]; simp [CC, Q0.out, Q1.out, Q2.out, q3])), HB5.out⟩
            | true =>
             have Q3 := qh q3; clear q3; go_wp2_with fail
             cases q4 : decide (t.hi ≤ 1099511627776) with
             | false =>
              refine (As 130 _).mono ?_; rintro e w' ⟨rfl, rfl⟩; unfold Af; go_wp2_with fail; exact ⟨rfl, AJ LIM.out (BK (by rw [K1.out, K4.out, htm.out, AD HTt.out]; simp [CC, Q0.out, Q1.out, Q2.out, Q3.out, of_decide_eq_false q4])), HB5.out⟩
             | true =>
              have Q4 := qh (of_decide_eq_true q4); clear q4; refine (Bw 130 _).mono ?_; rintro e w' ⟨rfl, rfl⟩; go_wp2_with fail; go_roundw
              case rel => exact ⟨i + 1, by omega, by go_num, qh (by rw [htm.out, AD HTt.out]; simp [CC, Q0.out, Q1.out, Q2.out, Q3.out, Q4.out]), x4, X0, HB5⟩
              case measure => simp [intOf]; omega
         ·obtain rfl : nS = i := by omega
          have hin : ¬ (nS : Int) < (nS : Int) := by omega
          have SM : Hid (ss.all (CC B) = true) := qh (by rw [htm.out, List.drop_of_length_le (by rw [NS.out]; exact qn _)]; rfl); clear htm; go_wp2_with fail; go_end0; exact ⟨Lf LIM.out (KE HEAD.out (by rw [K1.out, K2.out]; exact TM.out) (by rw [K1.out, K2.out, Int.toNat_natCast]; exact htk.out) (by rw [K1.out, K3.out]; exact PM.out) (by rw [K1.out, K4.out]; exact SM.out)), hbw.out⟩
theorem FE (bars : Int) (aT aP aS : Option Addr) (cT cP cS : Nat) (ts : List Tmp) (ps : List Pau) (ss : List Con) (w : World)
  (hT : IsRow CD 3 w (.slice aT ts.length cT) ts) (hP : IsRow Dk 4 w (.slice aP ps.length cP) ps) (hS : IsRow Dj 4 w (.slice aS ss.length cS) ss) (hTP : ps.length ≤ ts.length) (hbig : 4096 < ts.length) :
  Calls Try.prog 87 #[.agg #[int i64 bars, .slice aT ts.length cT, .slice aP ps.length cP, .slice aS ss.length cS]] w fun e w' => e = BN ⟨bars, ts, ps, ss⟩ ∧ Below w.heap.size w w' := by
 generalize hclk : (⟨bars, ts, ps, ss⟩ : Clk) = clk; have k1 : clk.bars = bars := by rw [← hclk]
 have k2 : clk.tempos = ts := by rw [← hclk]
 have k3 : clk.pauses = ps := by rw [← hclk]
 have k4 : clk.spans = ss := by rw [← hclk]
 have K1 := qh k1; have K2 := qh k2; have K3 := qh k3; have K4 := qh k4; clear hclk k1 k2 k3 k4; obtain ⟨_, _, _, lT, _⟩ := id hT; obtain ⟨_, _, _, lP, _⟩ := id hP; obtain ⟨_, _, _, lS, _⟩ := id hS; unfold maxLen at lT lP lS; have HT := qh hT; have HP := qh hP; have HS := qh hS; clear hT hP hS; generalize hnT : ts.length = nT at *; generalize hnP : ps.length = nP at *; generalize hnS : ss.length = nS at *; have NT := qh hnT; have NP := qh hnP; have NS := qh hnS; clear hnT hnP hnS; have b0 : Below w.heap.size w (w.alloc (.cells #[int i64 bars, .slice aT nT cT, .slice aP nP cP, .slice aS nS cS] 118)) := (Below.refl _ w).alloc (qn _) _; have g0 := heap_alloc_new w (.cells #[int i64 bars, .slice aT nT cT, .slice aP nP cP, .slice aS nS cS] 118); have hz0 : w.heap.size < (w.alloc (.cells #[int i64 bars, .slice aT nT cT, .slice aP nP cP, .slice aS nS cS] 118)).heap.size := by simp
 go_enter Try.func87, Try.ntmps87; go_wp2_with fail; generalize w.alloc (.cells #[int i64 bars, .slice aT nT cT, .slice aP nP cP, .slice aS nS cS] 118) = w0 at *; have HB := qh b0; have G0 := qh g0; clear b0; have c0 : w0.cell? ⟨w.heap.size, 0, none⟩ = some (int i64 bars) := Aa g0 0 rfl; have c1 : w0.cell? ⟨w.heap.size, 1, none⟩ = some (.slice aT nT cT) := Aa g0 1 rfl; have c2 : w0.cell? ⟨w.heap.size, 2, none⟩ = some (.slice aP nP cP) := Aa g0 2 rfl; have c3 : w0.cell? ⟨w.heap.size, 3, none⟩ = some (.slice aS nS cS) := Aa g0 3 rfl; clear g0; refine (As 2 _).mono ?_; rintro e w' ⟨rfl, rfl⟩; unfold Af; go_wp2_with fail; exact ⟨rfl, F3 (DB (by rw [K2.out, K3.out, K4.out, NT.out, NP.out, NS.out]; omega)), HB.out⟩
theorem FG (bars : Int) (aT aP aS : Option Addr) (cT cP cS : Nat) (ts : List Tmp) (ps : List Pau) (ss : List Con) (w : World)
  (hT : IsRow CD 3 w (.slice aT ts.length cT) ts) (hP : IsRow Dk 4 w (.slice aP ps.length cP) ps) (hS : IsRow Dj 4 w (.slice aS ss.length cS) ss) (hTP : ps.length ≤ ts.length) (hok : ts.length ≤ 4096) (hbig : 256 < ss.length) :
  Calls Try.prog 87 #[.agg #[int i64 bars, .slice aT ts.length cT, .slice aP ps.length cP, .slice aS ss.length cS]] w fun e w' => e = BN ⟨bars, ts, ps, ss⟩ ∧ Below w.heap.size w w' := by
 generalize hclk : (⟨bars, ts, ps, ss⟩ : Clk) = clk; have k1 : clk.bars = bars := by rw [← hclk]
 have k2 : clk.tempos = ts := by rw [← hclk]
 have k3 : clk.pauses = ps := by rw [← hclk]
 have k4 : clk.spans = ss := by rw [← hclk]
 have K1 := qh k1; have K2 := qh k2; have K3 := qh k3; have K4 := qh k4; clear hclk k1 k2 k3 k4; obtain ⟨_, _, _, lT, _⟩ := id hT; obtain ⟨_, _, _, lP, _⟩ := id hP; obtain ⟨_, _, _, lS, _⟩ := id hS; unfold maxLen at lT lP lS; have HT := qh hT; have HP := qh hP; have HS := qh hS; clear hT hP hS; generalize hnT : ts.length = nT at *; generalize hnP : ps.length = nP at *; generalize hnS : ss.length = nS at *; have NT := qh hnT; have NP := qh hnP; have NS := qh hnS; clear hnT hnP hnS; have b0 : Below w.heap.size w (w.alloc (.cells #[int i64 bars, .slice aT nT cT, .slice aP nP cP, .slice aS nS cS] 118)) := (Below.refl _ w).alloc (qn _) _; have g0 := heap_alloc_new w (.cells #[int i64 bars, .slice aT nT cT, .slice aP nP cP, .slice aS nS cS] 118); have hz0 : w.heap.size < (w.alloc (.cells #[int i64 bars, .slice aT nT cT, .slice aP nP cP, .slice aS nS cS] 118)).heap.size := by simp
 have fS : decide ((nS : Int) ≤ 256) = false := by simpa using by omega
 have fM : ((nT : Nat) : Int) ≤ 4096 := by omega
 go_enter Try.func87, Try.ntmps87; go_wp2_with fail; generalize w.alloc (.cells #[int i64 bars, .slice aT nT cT, .slice aP nP cP, .slice aS nS cS] 118) = w0 at *; have HB := qh b0; have G0 := qh g0; clear b0; have c0 : w0.cell? ⟨w.heap.size, 0, none⟩ = some (int i64 bars) := Aa g0 0 rfl; have c1 : w0.cell? ⟨w.heap.size, 1, none⟩ = some (.slice aT nT cT) := Aa g0 1 rfl; have c2 : w0.cell? ⟨w.heap.size, 2, none⟩ = some (.slice aP nP cP) := Aa g0 2 rfl; have c3 : w0.cell? ⟨w.heap.size, 3, none⟩ = some (.slice aS nS cS) := Aa g0 3 rfl; clear g0; refine (As 2 _).mono ?_; rintro e w' ⟨rfl, rfl⟩; unfold Af; go_wp2_with fail; exact ⟨rfl, F3 (DB (by rw [K2.out, K3.out, K4.out, NT.out, NP.out, NS.out]; omega)), HB.out⟩
theorem FI (bars : Int) (aT aP aS : Option Addr) (cT cP cS : Nat) (ts : List Tmp) (ps : List Pau) (ss : List Con) (w : World)
  (hT : IsRow CD 3 w (.slice aT ts.length cT) ts) (hP : IsRow Dk 4 w (.slice aP ps.length cP) ps) (hS : IsRow Dj 4 w (.slice aS ss.length cS) ss) (hTP : ps.length ≤ ts.length) (hok : ts.length ≤ 4096) (hok2 : ss.length ≤ 256) :
  Calls Try.prog 87 #[.agg #[int i64 bars, .slice aT ts.length cT, .slice aP ps.length cP, .slice aS ss.length cS]] w fun e w' => e = BN ⟨bars, ts, ps, ss⟩ ∧ Below w.heap.size w w' := by
 generalize hclk : (⟨bars, ts, ps, ss⟩ : Clk) = clk; have k1 : clk.bars = bars := by rw [← hclk]
 have k2 : clk.tempos = ts := by rw [← hclk]
 have k3 : clk.pauses = ps := by rw [← hclk]
 have k4 : clk.spans = ss := by rw [← hclk]
 have K1 := qh k1; have K2 := qh k2; have K3 := qh k3; have K4 := qh k4; clear hclk k1 k2 k3 k4; obtain ⟨_, _, _, lT, _⟩ := id hT; obtain ⟨_, _, _, lP, _⟩ := id hP; obtain ⟨_, _, _, lS, _⟩ := id hS; unfold maxLen at lT lP lS; have HT := qh hT; have HP := qh hP; have HS := qh hS; clear hT hP hS; generalize hnT : ts.length = nT at *; generalize hnP : ps.length = nP at *; generalize hnS : ss.length = nS at *; have NT := qh hnT; have NP := qh hnP; have NS := qh hnS; clear hnT hnP hnS; have b0 : Below w.heap.size w (w.alloc (.cells #[int i64 bars, .slice aT nT cT, .slice aP nP cP, .slice aS nS cS] 118)) := (Below.refl _ w).alloc (qn _) _; have g0 := heap_alloc_new w (.cells #[int i64 bars, .slice aT nT cT, .slice aP nP cP, .slice aS nS cS] 118); have hz0 : w.heap.size < (w.alloc (.cells #[int i64 bars, .slice aT nT cT, .slice aP nP cP, .slice aS nS cS] 118)).heap.size := by simp
 have fS : decide ((nS : Int) ≤ 256) = true := by simpa using by omega
 have fM : ((nT : Nat) : Int) ≤ 4096 := by omega
 have LIM : Hid (BU clk = true) := qh (Hg (by rw [K2.out, NT.out]; omega) (by rw [K3.out, NP.out]; omega) (by rw [K4.out, NS.out]; omega)); go_enter Try.func87, Try.ntmps87; go_wp2_with fail; generalize w.alloc (.cells #[int i64 bars, .slice aT nT cT, .slice aP nP cP, .slice aS nS cS] 118) = w0 at *; have HB := qh b0; have G0 := qh g0; clear b0; have c0 : w0.cell? ⟨w.heap.size, 0, none⟩ = some (int i64 bars) := Aa g0 0 rfl; have c1 : w0.cell? ⟨w.heap.size, 1, none⟩ = some (.slice aT nT cT) := Aa g0 1 rfl; have c2 : w0.cell? ⟨w.heap.size, 2, none⟩ = some (.slice aP nP cP) := Aa g0 2 rfl; have c3 : w0.cell? ⟨w.heap.size, 3, none⟩ = some (.slice aS nS cS) := Aa g0 3 rfl; clear g0; refine (Bw 2 _).mono ?_; rintro e w' ⟨rfl, rfl⟩; clear fS fM; go_wp2_with fail; refine (AV bars 1 4096 _).mono ?_; rintro e w' ⟨rfl, rfl⟩
 cases h1 : inB bars 1 4096 with
 | false =>
  go_wp2_with fail; refine (As 130 _).mono ?_; rintro e w' ⟨rfl, rfl⟩; unfold Af; go_wp2_with fail; exact ⟨rfl, AJ LIM.out (CJ (by unfold B9; rw [K1.out, h1]; rfl)), HB.out⟩
 | true =>
  have H1 := qh h1; obtain ⟨h1a, h1b⟩ := AY.1 h1; clear h1; obtain ⟨B, hB⟩ : ∃ B : Nat, bars = (B : Int) := ⟨bars.toNat, by omega⟩; subst hB; have hBl : B ≤ 4096 := by omega
  have hBp : 1 ≤ B := by omega
  clear h1a h1b; by_cases hne : 0 < nT
  rotate_left
  ·have f0 : ¬ (0 : Int) < (nT : Int) := by omega
   have he : ts = [] := List.length_eq_zero_iff.1 (by rw [NT.out]; omega); go_wp2_with fail; refine (As 130 _).mono ?_; rintro e w' ⟨rfl, rfl⟩; unfold Af; go_wp2_with fail; exact ⟨rfl, AJ LIM.out (CJ (by unfold B9; rw [K1.out, K2.out, he]; simp)), HB.out⟩
  obtain ⟨t0, ht0⟩ : ∃ t, ts[0]? = some t := ⟨_, qg (by rw [NT.out]; exact hne)⟩; obtain ⟨b, o, hao, hat, hlt⟩ := HT.out.block ht0; subst hao; have HAT := qh hat; clear hat; have hne' : (0 : Int) < (nT : Int) := by omega
  have p0 : w0.cell? ⟨b, o, none⟩ = some (int i64 t0.bar) := by
   have := (atT (HAT.out.below HB.out hlt) ht0).1; simpa using this
  have HT0 := qh ht0; clear ht0; by_cases h0 : t0.bar = 0
  rotate_left
  ·have f0 : (t0.bar == 0) = false := by simpa using h0
   have HH := qh h0; clear h0; go_wp2_with fail; refine (As 130 _).mono ?_; rintro e w' ⟨rfl, rfl⟩; unfold Af; go_wp2_with fail; exact ⟨rfl, AJ LIM.out (CJ (Hd (by rw [K2.out]; exact HT0.out) HH.out)), HB.out⟩
  have f0 : (t0.bar == 0) = true := by simpa using h0
  have HH := qh h0; clear h0; have HEAD : Hid (B9 clk = true) := qh (J4 (by rw [K1.out]; exact H1.out) (by rw [K2.out]; exact HT0.out) HH.out); go_wp2_with fail; refine (Bw 130 _).mono ?_; rintro e w' ⟨rfl, rfl⟩; clear f0 p0; go_wp2_with fail; clear c0 c1 c2 c3; go_loopw [2, 46] (fun lv iv wr => ∃ (k : Nat) (last : Int), k ≤ nT ∧ iv = int i64 k ∧ lv = int i64 last ∧ -1 ≤ last ∧ last ≤ 4096 ∧ Hid (BS B (-1) ts = BS B last (ts.drop k)) ∧ w.heap.size < wr.heap.size ∧ Hid (wr.heap[w.heap.size]? = some (.cells #[int i64 (B : Int), .slice (some ⟨b, o, none⟩) nT cT, .slice aP nP cP, .slice aS nS cS] 118 (0, 0))) ∧ Hid (Below w.heap.size w wr)) (fun _ iv _ => nT - (intOf iv).toNat)
  case atStart => exact ⟨0, -1, Nat.zero_le _, rfl, rfl, by omega, by omega, qh rfl, hz0, G0, HB⟩
  case round =>
   clear HB G0 hz0; obtain ⟨k, last, hk, rfl, rfl, hl1, hl2, htm, hsz, hbx, hbw⟩ := hrel; by_cases hkn : k < nT
   ·obtain ⟨t, ht⟩ : ∃ t, ts[k]? = some t := ⟨_, qg (by rw [NT.out]; exact hkn)⟩
    obtain ⟨p0, p1, p2⟩ := atT (HAT.out.below hbw.out hlt) ht; have hbs : b < wr.heap.size := by have := hbw.out.size; omega
    have HTt := qh ht; clear ht; have hkn' : (k : Int) < (nT : Int) := by omega
    have c0 : wr.cell? ⟨w.heap.size, 0, none⟩ = some (int i64 (B : Int)) := Aa hbx.out 0 rfl; have x0 := (Below.heap_alloc wr (.cells #[int i64 t.bar, int i64 t.ticks, int i64 t.step] 135) w.heap.size hsz).trans hbx.out; have x2 := heap_alloc_new wr (.cells #[int i64 t.bar, int i64 t.ticks, int i64 t.step] 135); have x3 : Below w.heap.size w (wr.alloc (.cells #[int i64 t.bar, int i64 t.ticks, int i64 t.step] 135)) := hbw.out.alloc (by omega) _; have x4 : w.heap.size < (wr.alloc (.cells #[int i64 t.bar, int i64 t.ticks, int i64 t.step] 135)).heap.size := by simp; omega
    have X0 := qh x0; have X2 := qh x2; have HB5 := qh x3; clear x0 x2 x3; go_wp2_with fail; generalize wr.alloc (.cells #[int i64 t.bar, int i64 t.ticks, int i64 t.step] 135) = w5 at *; generalize wr.heap.size = gw at *; clear c0 p0 p1 p2; have c0 : w5.cell? ⟨w.heap.size, 0, none⟩ = some (int i64 (B : Int)) := Aa X0.out 0 rfl; have l0 : w5.cell? ⟨gw, 0, none⟩ = some (int i64 t.bar) := Aa X2.out 0 rfl; have l1 : w5.cell? ⟨gw, 1, none⟩ = some (int i64 t.ticks) := Aa X2.out 1 rfl; have l2 : w5.cell? ⟨gw, 2, none⟩ = some (int i64 t.step) := Aa X2.out 2 rfl; clear X2 hbx hbw; refine (AV t.bar (last + 1) ((B : Int) - 1) _).mono ?_; rintro e w' ⟨rfl, rfl⟩
    cases q0 : inB t.bar (last + 1) ((B : Int) - 1) with
    | false =>
     go_wp2_with fail; refine (As 130 _).mono ?_; rintro e w' ⟨rfl, rfl⟩; unfold Af; go_wp2_with fail; exact ⟨rfl, AJ LIM.out (CK (by rw [K1.out, K2.out, htm.out, AD HTt.out]; simp [BS, FS, q0])), HB5.out⟩
    | true =>
     have Q0 := qh q0; clear q0; go_wp2_with fail; refine (AV t.ticks (-65536) 65536 _).mono ?_; rintro e w' ⟨rfl, rfl⟩
     cases q1 : inB t.ticks (-65536) 65536 with
     | false =>
      go_wp2_with fail; refine (As 130 _).mono ?_; rintro e w' ⟨rfl, rfl⟩; unfold Af; go_wp2_with fail; exact ⟨rfl, AJ LIM.out (CK (by rw [K1.out, K2.out, htm.out, AD HTt.out]; simp [BS, FS, Q0.out, q1])), HB5.out⟩
     | true =>
      have Q1 := qh q1; clear q1; go_wp2_with fail; refine (AV t.step (-65536) 65536 _).mono ?_; rintro e w' ⟨rfl, rfl⟩
      cases q2 : inB t.step (-65536) 65536 with
      | false =>
       go_wp2_with fail; refine (As 130 _).mono ?_; rintro e w' ⟨rfl, rfl⟩; unfold Af; go_wp2_with fail; exact ⟨rfl, AJ LIM.out (CK (by rw [K1.out, K2.out, htm.out, AD HTt.out]; simp [BS, FS, Q0.out, Q1.out, q2])), HB5.out⟩
      | true =>
       have Q2 := qh q2; clear q2; go_wp2_with fail; refine (Bw 130 _).mono ?_; rintro e w' ⟨rfl, rfl⟩; go_wp2_with fail; go_roundw
       case rel => exact ⟨k + 1, t.bar, by omega, by go_num, rfl, by have := AY.1 Q0.out; omega, by have := AY.1 Q0.out; omega, qh (by rw [htm.out, AD HTt.out]; simp [BS, FS, Q0.out, Q1.out, Q2.out]), x4, X0, HB5⟩
       case measure => simp [intOf]; omega
   ·obtain rfl : nT = k := by omega
    have hin : ¬ (nT : Int) < (nT : Int) := by omega
    have TM : Hid (BS B (-1) ts = true) := qh (by rw [htm.out, List.drop_of_length_le (by rw [NT.out]; exact qn _)]; rfl); clear htm hl1 hl2; have ⟨hso, hall⟩ := Dx TM.out; have NW : Hid (∀ j : Nat, j < B → Ig ts j) := qh (fun j hj => ⟨hso, I9 HT0.out (by rw [HH.out]; omega), by omega, by omega, fun t ht => by have := hall t ht; omega⟩); clear hso hall; have c0 : wr.cell? ⟨w.heap.size, 0, none⟩ = some (int i64 (B : Int)) := Aa hbx.out 0 rfl; go_wp2_with fail; clear c0 hin; go_loopw [74] (fun iv wr => ∃ j : Nat, j ≤ B ∧ iv = int i64 j ∧ Hid (Ci ts j = true) ∧ w.heap.size < wr.heap.size ∧ Hid (wr.heap[w.heap.size]? = some (.cells #[int i64 (B : Int), .slice (some ⟨b, o, none⟩) nT cT, .slice aP nP cP, .slice aS nS cS] 118 (0, 0))) ∧ Hid (Below w.heap.size w wr)) (fun iv _ => B - (intOf iv).toNat)
    case atStart => exact ⟨0, Nat.zero_le _, rfl, qh rfl, hsz, hbx, hbw⟩
    case round =>
     clear hbx hbw hsz; obtain ⟨j, hj, rfl, htk, hsz, hbx, hbw⟩ := hrel; by_cases hjB : j < B
     ·have hjB' : (j : Int) < (B : Int) := by omega
      have c0 : wr.cell? ⟨w.heap.size, 0, none⟩ = some (int i64 (B : Int)) := Aa hbx.out 0 rfl; have c1 : wr.cell? ⟨w.heap.size, 1, none⟩ = some (.slice (some ⟨b, o, none⟩) nT cT) := Aa hbx.out 1 rfl; have c2 : wr.cell? ⟨w.heap.size, 2, none⟩ = some (.slice aP nP cP) := Aa hbx.out 2 rfl; have c3 : wr.cell? ⟨w.heap.size, 3, none⟩ = some (.slice aS nS cS) := Aa hbx.out 3 rfl; go_wp2_with fail; refine (Gj B j b o nT cT (.slice aP nP cP) (.slice aS nS cS) ts wr NT.out (by omega) (HAT.out.below hbw.out hlt) (by have := hbw.out.size; omega) (NW.out j hjB)).mono ?_; rintro e w5 ⟨rfl, b5⟩; have hz5 := b5.size; have x0 := (b5.block _ hsz).trans hbx.out; have HB5 := qh (hbw.out.trans (b5.mono (by omega))); have X0 := qh x0; have hsz5 : w.heap.size < w5.heap.size := by omega
      clear x0 b5 c0 c1 c2 c3 hbx hbw hz5; generalize hg : D5 ts j = g; have HG := qh hg; clear hg; go_wp2_with fail; refine (AV g 1 65536 _).mono ?_; rintro e w' ⟨rfl, rfl⟩
      cases h2 : inB g 1 65536 with
      | false =>
       go_wp2_with fail; refine (As 130 _).mono ?_; rintro e w' ⟨rfl, rfl⟩; unfold Af; go_wp2_with fail; exact ⟨rfl, AJ LIM.out (FT (by rw [K2.out, K1.out, Int.toNat_natCast]; exact Ek (CA htk.out (by rw [HG.out]; exact h2)) (by omega))), HB5.out⟩
      | true =>
       have H2 := qh h2; clear h2; go_wp2_with fail; refine (Bw 130 _).mono ?_; rintro e w' ⟨rfl, rfl⟩; go_wp2_with fail; go_roundw
       case rel => exact ⟨j + 1, by omega, by go_num, qh (CA htk.out (by rw [HG.out]; exact H2.out)), hsz5, X0, HB5⟩
       case measure => simp [intOf]; omega
     ·obtain rfl : B = j := by omega
      have hin : ¬ (B : Int) < (B : Int) := by omega
      have c2 : wr.cell? ⟨w.heap.size, 2, none⟩ = some (.slice aP nP cP) := Aa hbx.out 2 rfl; go_wp2_with fail; clear c2 hin; go_loopw [2, 86] (fun lv iv wr => ∃ (i : Nat) (last : Int), i ≤ nP ∧ iv = int i64 i ∧ lv = int i64 last ∧ -1 ≤ last ∧ last ≤ 4096 ∧ Hid (Bm B (-1) ps = Bm B last (ps.drop i)) ∧ w.heap.size < wr.heap.size ∧ Hid (wr.heap[w.heap.size]? = some (.cells #[int i64 (B : Int), .slice (some ⟨b, o, none⟩) nT cT, .slice aP nP cP, .slice aS nS cS] 118 (0, 0))) ∧ Hid (Below w.heap.size w wr)) (fun _ iv _ => nP - (intOf iv).toNat)
      case atStart => exact ⟨0, -1, Nat.zero_le _, rfl, rfl, by omega, by omega, qh rfl, hsz, hbx, hbw⟩
      case round =>
       clear hsz hbx hbw; obtain ⟨i, last, hi, rfl, rfl, hl1, hl2, htm, hsz, hbx, hbw⟩ := hrel; by_cases hkn : i < nP
       ·obtain ⟨t, ht⟩ : ∃ t, ps[i]? = some t := ⟨_, qg (by rw [NP.out]; exact hkn)⟩
        obtain ⟨bp, op, hap, hatp, hltp⟩ := HP.out.block ht; subst hap; obtain ⟨p0, p1, p2, p3⟩ := atP (hatp.below hbw.out hltp) ht; have hbs : bp < wr.heap.size := by have := hbw.out.size; omega
        clear hatp; have HTt := qh ht; clear ht; have hkn' : (i : Int) < (nP : Int) := by omega
        have c0 : wr.cell? ⟨w.heap.size, 0, none⟩ = some (int i64 (B : Int)) := Aa hbx.out 0 rfl; have x0 := (Below.heap_alloc wr (.cells #[int i64 t.bar, int i64 t.kind, int i64 t.lo, int i64 t.hi] 147) w.heap.size hsz).trans hbx.out; have x2 := heap_alloc_new wr (.cells #[int i64 t.bar, int i64 t.kind, int i64 t.lo, int i64 t.hi] 147); have x3 : Below w.heap.size w (wr.alloc (.cells #[int i64 t.bar, int i64 t.kind, int i64 t.lo, int i64 t.hi] 147)) := hbw.out.alloc (by omega) _; have x4 : w.heap.size < (wr.alloc (.cells #[int i64 t.bar, int i64 t.kind, int i64 t.lo, int i64 t.hi] 147)).heap.size := by simp; omega
        have X0 := qh x0; have X2 := qh x2; have HB5 := qh x3; clear x0 x2 x3; go_wp2_with fail; generalize wr.alloc (.cells #[int i64 t.bar, int i64 t.kind, int i64 t.lo, int i64 t.hi] 147) = w5 at *; generalize wr.heap.size = gw at *; clear c0 p0 p1 p2 p3; have c0 : w5.cell? ⟨w.heap.size, 0, none⟩ = some (int i64 (B : Int)) := Aa X0.out 0 rfl; have l0 : w5.cell? ⟨gw, 0, none⟩ = some (int i64 t.bar) := Aa X2.out 0 rfl; have l1 : w5.cell? ⟨gw, 1, none⟩ = some (int i64 t.kind) := Aa X2.out 1 rfl; have l2 : w5.cell? ⟨gw, 2, none⟩ = some (int i64 t.lo) := Aa X2.out 2 rfl; have l3 : w5.cell? ⟨gw, 3, none⟩ = some (int i64 t.hi) := Aa X2.out 3 rfl; clear X2 hbx hbw; refine (AV t.bar (last + 1) ((B : Int) - 2) _).mono ?_; rintro e w' ⟨rfl, rfl⟩
        cases q0 : inB t.bar (last + 1) ((B : Int) - 2) with
        | false =>
         go_wp2_with fail; refine (As 130 _).mono ?_; rintro e w' ⟨rfl, rfl⟩; unfold Af; go_wp2_with fail; exact ⟨rfl, AJ LIM.out (C9 (by rw [K1.out, K3.out, htm.out, AD HTt.out]; simp [Bm, Et, q0])), HB5.out⟩
        | true =>
         have Q0 := qh q0; clear q0; go_wp2_with fail; refine (AV t.kind 1 2 _).mono ?_; rintro e w' ⟨rfl, rfl⟩
         cases q1 : inB t.kind 1 2 with
         | false =>
          go_wp2_with fail; refine (As 130 _).mono ?_; rintro e w' ⟨rfl, rfl⟩; unfold Af; go_wp2_with fail; exact ⟨rfl, AJ LIM.out (C9 (by rw [K1.out, K3.out, htm.out, AD HTt.out]; simp [Bm, Et, Q0.out, q1])), HB5.out⟩
         | true =>
          have Q1 := qh q1; clear q1; go_wp2_with fail; refine (AV t.lo 0 t.hi _).mono ?_; rintro e w' ⟨rfl, rfl⟩
          cases q2 : inB t.lo 0 t.hi with
          | false =>
           go_wp2_with fail; refine (As 130 _).mono ?_; rintro e w' ⟨rfl, rfl⟩; unfold Af; go_wp2_with fail; exact ⟨rfl, AJ LIM.out (C9 (by rw [K1.out, K3.out, htm.out, AD HTt.out]; simp [Bm, Et, Q0.out, Q1.out, q2])), HB5.out⟩
          | true =>
           have Q2 := qh q2; clear q2; go_wp2_with fail
           cases q3 : decide (t.hi ≤ 1048576) with
           | false =>
            refine (As 130 _).mono ?_; rintro e w' ⟨rfl, rfl⟩; unfold Af; go_wp2_with fail; exact ⟨rfl, AJ LIM.out (C9 (by rw [K1.out, K3.out, htm.out, AD HTt.out]; simp [Bm, Et, Q0.out, Q1.out, Q2.out, of_decide_eq_false q3])), HB5.out⟩
           | true =>
            have Q3 := qh (of_decide_eq_true q3); clear q3; refine (Bw 130 _).mono ?_; rintro e w' ⟨rfl, rfl⟩; go_wp2_with fail; go_roundw
            case rel => exact ⟨i + 1, t.bar, by omega, by go_num, rfl, by have := AY.1 Q0.out; omega, by have := AY.1 Q0.out; omega, qh (by rw [htm.out, AD HTt.out]; simp [Bm, Et, Q0.out, Q1.out, Q2.out, Q3.out]), x4, X0, HB5⟩
            case measure => simp [intOf]; omega
       ·obtain rfl : nP = i := by omega
        have hin : ¬ (nP : Int) < (nP : Int) := by omega
        have PM : Hid (Bm B (-1) ps = true) := qh (by rw [htm.out, List.drop_of_length_le (by rw [NP.out]; exact qn _)]; rfl); clear htm hl1 hl2; have c3 : wr.cell? ⟨w.heap.size, 3, none⟩ = some (.slice aS nS cS) := Aa hbx.out 3 rfl; go_wp2_with fail; clear c3 hin; go_loopw [122] (fun iv wr => ∃ i : Nat, i ≤ nS ∧ iv = int i64 i ∧ Hid (ss.all (CC B) = (ss.drop i).all (CC B)) ∧ w.heap.size < wr.heap.size ∧ Hid (wr.heap[w.heap.size]? = some (.cells #[int i64 (B : Int), .slice (some ⟨b, o, none⟩) nT cT, .slice aP nP cP, .slice aS nS cS] 118 (0, 0))) ∧ Hid (Below w.heap.size w wr)) (fun iv _ => nS - (intOf iv).toNat)
        case atStart => exact ⟨0, Nat.zero_le _, rfl, qh rfl, hsz, hbx, hbw⟩
        case round =>
         clear hsz hbx hbw; obtain ⟨i, hi, rfl, htm, hsz, hbx, hbw⟩ := hrel; by_cases hkn : i < nS
         ·obtain ⟨t, ht⟩ : ∃ t, ss[i]? = some t := ⟨_, qg (by rw [NS.out]; exact hkn)⟩
          obtain ⟨bp, op, hap, hatp, hltp⟩ := HS.out.block ht; subst hap; obtain ⟨p0, p1, p2, p3⟩ := atC (hatp.below hbw.out hltp) ht; have hbs : bp < wr.heap.size := by have := hbw.out.size; omega
          clear hatp; have HTt := qh ht; clear ht; have hkn' : (i : Int) < (nS : Int) := by omega
          have c0 : wr.cell? ⟨w.heap.size, 0, none⟩ = some (int i64 (B : Int)) := Aa hbx.out 0 rfl; have x0 := (Below.heap_alloc wr (.cells #[int i64 t.frm, int i64 t.to, int i64 t.lo, int i64 t.hi] 149) w.heap.size hsz).trans hbx.out; have x2 := heap_alloc_new wr (.cells #[int i64 t.frm, int i64 t.to, int i64 t.lo, int i64 t.hi] 149); have x3 : Below w.heap.size w (wr.alloc (.cells #[int i64 t.frm, int i64 t.to, int i64 t.lo, int i64 t.hi] 149)) := hbw.out.alloc (by omega) _; have x4 : w.heap.size < (wr.alloc (.cells #[int i64 t.frm, int i64 t.to, int i64 t.lo, int i64 t.hi] 149)).heap.size := by simp; omega
          have X0 := qh x0; have X2 := qh x2; have HB5 := qh x3; clear x0 x2 x3; go_wp2_with fail; generalize wr.alloc (.cells #[int i64 t.frm, int i64 t.to, int i64 t.lo, int i64 t.hi] 149) = w5 at *; generalize wr.heap.size = gw at *; clear c0 p0 p1 p2 p3; have c0 : w5.cell? ⟨w.heap.size, 0, none⟩ = some (int i64 (B : Int)) := Aa X0.out 0 rfl; have l0 : w5.cell? ⟨gw, 0, none⟩ = some (int i64 t.frm) := Aa X2.out 0 rfl; have l1 : w5.cell? ⟨gw, 1, none⟩ = some (int i64 t.to) := Aa X2.out 1 rfl; have l2 : w5.cell? ⟨gw, 2, none⟩ = some (int i64 t.lo) := Aa X2.out 2 rfl; have l3 : w5.cell? ⟨gw, 3, none⟩ = some (int i64 t.hi) := Aa X2.out 3 rfl; clear X2 hbx hbw; refine (AV t.frm 0 (B : Int) _).mono ?_; rintro e w' ⟨rfl, rfl⟩
          cases q0 : inB t.frm 0 (B : Int) with
          | false =>
           go_wp2_with fail; refine (As 130 _).mono ?_; rintro e w' ⟨rfl, rfl⟩; unfold Af; go_wp2_with fail; exact ⟨rfl, AJ LIM.out (BK (by rw [K1.out, K4.out, htm.out, AD HTt.out]; simp [CC, q0])), HB5.out⟩
          | true =>
           have Q0 := qh q0; clear q0; go_wp2_with fail; refine (AV t.to 0 (B : Int) _).mono ?_; rintro e w' ⟨rfl, rfl⟩
           cases q1 : inB t.to 0 (B : Int) with
           | false =>
            go_wp2_with fail; refine (As 130 _).mono ?_; rintro e w' ⟨rfl, rfl⟩; unfold Af; go_wp2_with fail; exact ⟨rfl, AJ LIM.out (BK (by rw [K1.out, K4.out, htm.out, AD HTt.out]; simp [CC, Q0.out, q1])), HB5.out⟩
           | true =>
            have Q1 := qh q1; clear q1; by_cases q2 : t.frm = t.to
            ·have f2 : (t.frm != t.to) = false := by simpa using q2
             have Q2 := qh q2; clear q2; go_wp2_with fail; refine (As 130 _).mono ?_; rintro e w' ⟨rfl, rfl⟩; unfold Af; go_wp2_with fail; exact ⟨rfl, AJ LIM.out (BK (by rw [K1.out, K4.out, htm.out, AD HTt.out]; simp [CC, Q1.out, Q2.out])), HB5.out⟩
            have f2 : (t.frm != t.to) = true := by simpa using q2
            have Q2 := qh q2; clear q2; go_wp2_with fail; clear f2; refine (AV t.lo (-1099511627776) t.hi _).mono ?_; rintro e w' ⟨rfl, rfl⟩
            cases q3 : inB t.lo (-1099511627776) t.hi with
            | false =>
             go_wp2_with fail; refine (As 130 _).mono ?_; rintro e w' ⟨rfl, rfl⟩; unfold Af; go_wp2_with fail; exact ⟨rfl, AJ LIM.out (BK (by rw [K1.out, K4.out, htm.out, AD HTt.out]; simp [CC, Q0.out, Q1.out, Q2.out, q3])), HB5.out⟩
            | true =>
             have Q3 := qh q3; clear q3; go_wp2_with fail
             cases q4 : decide (t.hi ≤ 1099511627776) with
             | false =>
              refine (As 130 _).mono ?_; rintro e w' ⟨rfl, rfl⟩; unfold Af; go_wp2_with fail; exact ⟨rfl, AJ LIM.out (BK (by rw [K1.out, K4.out, htm.out, AD HTt.out]; simp [CC, Q0.out, Q1.out, Q2.out, Q3.out, of_decide_eq_false q4])), HB5.out⟩
             | true =>
              have Q4 := qh (of_decide_eq_true q4); clear q4; refine (Bw 130 _).mono ?_; rintro e w' ⟨rfl, rfl⟩; go_wp2_with fail; go_roundw
              case rel => exact ⟨i + 1, by omega, by go_num, qh (by rw [htm.out, AD HTt.out]; simp [CC, Q0.out, Q1.out, Q2.out, Q3.out, Q4.out]), x4, X0, HB5⟩
              case measure => simp [intOf]; omega
         ·obtain rfl : nS = i := by omega
          have hin : ¬ (nS : Int) < (nS : Int) := by omega
          have SM : Hid (ss.all (CC B) = true) := qh (by rw [htm.out, List.drop_of_length_le (by rw [NS.out]; exact qn _)]; rfl); clear htm; go_wp2_with fail; go_end0; exact ⟨Lf LIM.out (KE HEAD.out (by rw [K1.out, K2.out]; exact TM.out) (by rw [K1.out, K2.out, Int.toNat_natCast]; exact htk.out) (by rw [K1.out, K3.out]; exact PM.out) (by rw [K1.out, K4.out]; exact SM.out)), hbw.out⟩
end
section
open Go Go.RowKit
open Go.RowKit
theorem GF (bars : Int) (aT aP aS : Option Addr) (cT cP cS : Nat) (ts : List Tmp) (ps : List Pau) (ss : List Con) (w : World)
  (hT : IsRow CD 3 w (.slice aT ts.length cT) ts) (hP : IsRow Dk 4 w (.slice aP ps.length cP) ps) (hS : IsRow Dj 4 w (.slice aS ss.length cS) ss) :
  Calls Try.prog 87 #[.agg #[int i64 bars, .slice aT ts.length cT, .slice aP ps.length cP, .slice aS ss.length cS]] w fun e w' => e = BN ⟨bars, ts, ps, ss⟩ ∧ Below w.heap.size w w' := by
 by_cases h : ts.length < ps.length
 ·by_cases h1 : 4096 < ps.length
  ·exact FD bars aT aP aS cT cP cS ts ps ss w hT hP hS h h1
  by_cases h2 : 256 < ss.length
  ·exact FF bars aT aP aS cT cP cS ts ps ss w hT hP hS h (by omega) h2
  exact FH bars aT aP aS cT cP cS ts ps ss w hT hP hS h (by omega) (by omega)
 ·by_cases h1 : 4096 < ts.length
  ·exact FE bars aT aP aS cT cP cS ts ps ss w hT hP hS (by omega) h1
  by_cases h2 : 256 < ss.length
  ·exact FG bars aT aP aS cT cP cS ts ps ss w hT hP hS (by omega) (by omega) h2
  exact FI bars aT aP aS cT cP cS ts ps ss w hT hP hS (by omega) (by omega) (by omega)
theorem I7 (p : Addr) (w : World) :
  CallsD Try.prog 86 #[.pointer (some p)] .returning w fun e u' w' => e = .returned (.tuple #[]) ∧ u' = .returning ∧ w = w' := by
 refine callsD_of_wpS Try.func86 rfl fun c₀ cs hu => ?_
 apply wpS_seq; apply wpS_region; simp [wpOpsS, go_sem, recoverD, hu, Try.ntmps86, Exit.thenS]; refine wpS_of_wp ?_; simp only [Array.replicate]; go_wp2; cases c₀
 simp_all [bodyPostS, results, Try.results86]
theorem EA (B : Nat) (c : Int) (x : Value) (older : List PanicEntry) (w : World) (h0 : w.heap[B]? = some (.cells #[x] 35 (0, 0))) :
  CallsD Try.prog 86 #[.pointer (some ⟨B, 0, none⟩)] (.panicking ({ v := .iface 35 (int i64 c), recovered := false } :: older)) w fun e u' w' =>
   e = .returned (.tuple #[]) ∧ u' = .panicking ({ v := .iface 35 (int i64 c), recovered := true } :: older) ∧ w'.heap[B]? = some (.cells #[int i64 c] 35 (0, 0)) ∧ Below B w w' := by
 have c0 := cell_of_one h0; have f0 := free_of_one h0; have H0 := qh h0; clear h0; refine callsD_of_wpS Try.func86 rfl fun c₀ cs hu => ?_
 apply wpS_seq; apply wpS_region; simp [wpOpsS, go_sem, recoverD, hu, Try.ntmps86, Exit.thenS]; refine wpS_of_wp ?_; have hta := Gg; have hnn := FA; simp only [Array.replicate]; go_wp2; exact ⟨rfl, _, rfl, .tuple #[], results_none rfl _ _ _, rfl, rfl, one_setCell H0.out, (Below.refl B w).setCell (p := ⟨B, 0, none⟩) (qn _) _⟩
theorem Kv (t : Array Value) (B : Nat) (c : Int) (R : Ending → World → Prop) (w2 : World) (x : Value) (ht2 : t.getD 2 undef = .pointer (some ⟨B, 0, none⟩))
  (h0 : w2.heap[B]? = some (.cells #[x] 35 (0, 0))) (hR : ∀ w', Below B w2 w' → R (.returned (int i64 c)) w') :
  bodyPostD Try.prog Try.f65 R (Exit.panic [{ v := .iface 35 (int i64 c), recovered := false }])
   { tmps := t, defers := [{ target := .fn (.func 86) #[.pointer (some ⟨B, 0, none⟩)], args := #[] }] } w2 := by
 have HR := qh hR; clear hR; refine leaves_cons (f := 86) (args := #[.pointer (some ⟨B, 0, none⟩)]) (by simp) (by simp [go_sem]) ?_; refine (EA B c x [] _ h0).mono ?_; rintro e u' w'' ⟨rfl, rfl, k0, hB⟩; have c0 := cell_of_one k0; simp at ht2; have HB := qh hB; clear hB k0 h0; simp [Leaves, settle, results, Try.results65, go_sem, ht2, c0]; exact HR.out _ HB.out
theorem M5 (t : Array Value) (B : Nat) (R : Ending → World → Prop) (w2 : World) (x : Value) (ht2 : t.getD 2 undef = .pointer (some ⟨B, 0, none⟩))
  (h0 : w2.cell? ⟨B, 0, none⟩ = some x) (hR : R (.returned x) w2) :
  bodyPostD Try.prog Try.f65 R Exit.ret { tmps := t, defers := [{ target := .fn (.func 86) #[.pointer (some ⟨B, 0, none⟩)], args := #[] }] } w2 := by
 have HR := qh hR; clear hR; simp at ht2; refine leaves_cons (f := 86) (args := #[.pointer (some ⟨B, 0, none⟩)]) (by simp) (by simp [go_sem]) ?_; refine (I7 _ _).mono ?_; rintro e u' w'' ⟨rfl, rfl, rfl⟩; simp [Leaves, settle, results, Try.results65, go_sem, ht2, h0]; exact HR.out
theorem IV (bars : Int) (aT aP aS : Option Addr) (cT cP cS : Nat) (ts : List Tmp) (ps : List Pau) (ss : List Con) (w : World)
  (hT : IsRow CD 3 w (.slice aT ts.length cT) ts) (hP : IsRow Dk 4 w (.slice aP ps.length cP) ps) (hS : IsRow Dj 4 w (.slice aS ss.length cS) ss) :
  Calls Try.prog 65 #[.agg #[int i64 bars, .slice aT ts.length cT, .slice aP ps.length cP, .slice aS ss.length cS]] w fun e w' => e = .returned (int i64 (BL ⟨bars, ts, ps, ss⟩)) ∧ Below w.heap.size w w' := by
 have hmf : ∀ (fn : Fn) (first cap : Array Value) (w : World), (Instr.makeFunc fn first cap).run Try.prog w = .ok (.func fn first cap) w := fun _ _ _ _ => rfl
 have hv := fun (w : World) h1 h2 h3 => GF bars aT aP aS cT cP cS ts ps ss w h1 h2 h3
 generalize hclk : (⟨bars, ts, ps, ss⟩ : Clk) = clk at *; have HT := qh hT; have HP := qh hP; have HS := qh hS; have HV := qh hv; clear hT hP hS hclk hv; generalize ts.length = nT at *; generalize ps.length = nP at *; generalize ss.length = nS at *; have b0 : Below w.heap.size w ((w.alloc (.cells #[int i64 bars, .slice aT nT cT, .slice aP nP cP, .slice aS nS cS] 118)).alloc (.cells #[int i64 0] 35)) := ((Below.refl _ w).alloc (qn _) _).alloc (by simp) _; have hz : ((w.alloc (.cells #[int i64 bars, .slice aT nT cT, .slice aP nP cP, .slice aS nS cS] 118)).alloc (.cells #[int i64 0] 35)).heap.size = w.heap.size + 2 := by simp
 have g0 : ((w.alloc (.cells #[int i64 bars, .slice aT nT cT, .slice aP nP cP, .slice aS nS cS] 118)).alloc (.cells #[int i64 0] 35)).heap[w.heap.size]? = some (.cells #[int i64 bars, .slice aT nT cT, .slice aP nP cP, .slice aS nS cS] 118 (0, 0)) := by
  rw [Below.heap_alloc _ _ _ (by simp)]; exact heap_alloc_new w _
 have g1 : ((w.alloc (.cells #[int i64 bars, .slice aT nT cT, .slice aP nP cP, .slice aS nS cS] 118)).alloc (.cells #[int i64 0] 35)).heap[w.heap.size + 1]? = some (.cells #[int i64 0] 35 (0, 0)) := by
  have := heap_alloc_new (w.alloc (.cells #[int i64 bars, .slice aT nT cT, .slice aP nP cP, .slice aS nS cS] 118)) (.cells #[int i64 0] 35); simpa using this
 go_enter_defers Try.func65, Try.ntmps65; go_wp2_with fail; generalize (w.alloc (.cells #[int i64 bars, .slice aT nT cT, .slice aP nP cP, .slice aS nS cS] 118)).alloc (.cells #[int i64 0] 35) = w0 at *; refine (HV.out w0 (HT.out.below b0 (qn _)) (HP.out.below b0 (qn _)) (HS.out.below b0 (qn _))).mono ?_; rintro e w1 ⟨rfl, b1⟩; have y1 := (b1.block _ (by omega)).trans g1; have HB := qh (b0.trans (b1.mono (by omega))); have Y1 := qh y1; clear b0 b1 g0 hz y1 g1; by_cases hc : BL clk = 0
 ·have HC := qh hc
  unfold BN; rw [if_pos hc]; clear hc; have c1 := cell_of_one Y1.out; have f1 := free_of_one Y1.out; go_wp2_with fail; refine M5 _ (w.heap.size + 1) _ _ (int i64 0) rfl (cell_of_one (one_setCell Y1.out)) ⟨Cy HC.out.symm, HB.out.setCell (p := ⟨w.heap.size + 1, 0, none⟩) (by show w.heap.size ≤ w.heap.size + 1; omega) _⟩
 ·have HC := qh hc
  unfold BN; rw [if_neg hc]; unfold Af; clear hc; go_wp2_with fail; refine Kv _ (w.heap.size + 1) _ _ _ (int i64 0) rfl Y1.out (fun w' hb => ⟨rfl, HB.out.trans (hb.mono (by omega))⟩)
end
section
open Go Go.RowKit
theorem Kj (w : World) : (Instr.typeAssert (.iface 113 (.agg #[])) 20 113 true).run Try.prog w = .ok (.tuple #[.agg #[], .bool true]) w := by kernel_rfl
theorem I3 (w : World) : (binOp .eql 20 (.iface 113 (.agg #[])) .nilIface).run Try.prog w = .ok (.bool false) w := by kernel_rfl
theorem Hw (p : Addr) (w : World) :
  CallsD Try.prog 62 #[.pointer (some p)] .returning w fun e u' w' => e = .returned (.tuple #[]) ∧ u' = .returning ∧ w = w' := by
 refine callsD_of_wpS Try.func62 rfl fun c₀ cs hu => ?_
 apply wpS_seq; apply wpS_region; simp [wpOpsS, go_sem, recoverD, hu, Try.ntmps62, Exit.thenS]; refine wpS_of_wp ?_; simp only [Array.replicate]; go_wp2; cases c₀
 simp_all [bodyPostS, results, Try.results62]
theorem Ev (B : Nat) (x : Value) (w : World) (h0 : w.heap[B]? = some (.cells #[x] 35 (0, 0))) :
  CallsD Try.prog 62 #[.pointer (some ⟨B, 0, none⟩)] (.panicking [{ v := .iface 113 (.agg #[]), recovered := false }]) w fun e u' w' =>
   e = .returned (.tuple #[]) ∧ u' = .panicking [{ v := .iface 113 (.agg #[]), recovered := true }] ∧ w'.heap[B]? = some (.cells #[int i64 180] 35 (0, 0)) ∧ Below B w w' := by
 obtain ⟨V, hV, _, bV, _⟩ := Ai w #[] 113; have h1 := Am bV h0; have c0 := cell_of_one h1; have f0 := free_of_one h1; have H0 := qh h1; have HB := qh bV; have hlt : Hid (B < w.heap.size) := qh (qs.1 h0).1; clear h0 h1 bV; refine callsD_of_wpS Try.func62 rfl fun c₀ cs hu => ?_
 apply wpS_seq; apply wpS_region; simp [wpOpsS, go_sem, recoverD, hu, Try.ntmps62, Exit.thenS]; refine wpS_of_wp ?_; have hta := Kj; have hnn := I3; simp only [Array.replicate]; go_wp2; exact ⟨rfl, _, rfl, .tuple #[], results_none rfl _ _ _, rfl, rfl, one_setCell H0.out, (HB.out.mono (Nat.le_of_lt hlt.out)).setCell (p := ⟨B, 0, none⟩) (qn _) _⟩
abbrev CW (E : Nat) : Deferred := { target := .fn (.func 62) #[.pointer (some ⟨E, 0, none⟩)], args := #[] }
theorem K8 (t : Array Value) (B : Nat) (R : Ending → World → Prop) (w2 : World) (x : Value) (ht2 : t.getD 2 undef = .pointer (some ⟨B, 0, none⟩))
  (h0 : w2.heap[B]? = some (.cells #[x] 35 (0, 0))) (hR : ∀ w', Below B w2 w' → R (.returned (int i64 180)) w') :
  bodyPostD Try.prog Try.f29 R (Exit.panic Bu)
   { tmps := t, defers := [CW B] } w2 := by
 have HR := qh hR; clear hR; refine leaves_cons (f := 62) (args := #[.pointer (some ⟨B, 0, none⟩)]) (by simp) (by simp [go_sem]) ?_; refine (Ev B x _ h0).mono ?_; rintro e u' w'' ⟨rfl, rfl, k0, hB⟩; have c0 := cell_of_one k0; simp at ht2; have HB := qh hB; clear hB k0 h0; simp [Leaves, settle, results, Try.results29, go_sem, ht2, c0]; exact HR.out _ HB.out
theorem LS (t : Array Value) (B : Nat) (R : Ending → World → Prop) (w2 : World) (x : Value) (ht2 : t.getD 2 undef = .pointer (some ⟨B, 0, none⟩))
  (h0 : w2.cell? ⟨B, 0, none⟩ = some x) (hR : R (.returned x) w2) :
  bodyPostD Try.prog Try.f29 R Exit.ret { tmps := t, defers := [CW B] } w2 := by
 have HR := qh hR; clear hR; simp at ht2; refine leaves_cons (f := 62) (args := #[.pointer (some ⟨B, 0, none⟩)]) (by simp) (by simp [go_sem]) ?_; refine (Hw _ _).mono ?_; rintro e u' w'' ⟨rfl, rfl, rfl⟩; simp [Leaves, settle, results, Try.results29, go_sem, ht2, h0]; exact HR.out
end
section
open Go Go.RowKit
theorem F8 {α : Type} {l : List α} {p : α → Prop} {i : Nat} {x : α} (h : ∀ y ∈ l.take i, p y) (hx : l[i]? = some x) (hp : p x) : ∀ y ∈ l.take (i + 1), p y := by
 intro y hy; rw [List.take_add_one, hx] at hy; rcases List.mem_append.1 hy with hy | hy
 ·exact h y hy
 ·simp at hy; subst hy; exact hp
theorem BZ {n lo hi : Int} {v : Bool} (h : inB n lo hi = v) (w : World) : Calls Try.prog 64 #[int i64 n, int i64 lo, int i64 hi] w fun e w' => e = .returned (.bool v) ∧ w = w' := by
 rw [← h]; exact Bg n lo hi w
theorem Kf {s : Ls} {W : World} (h : s.At W) {i : Nat} {x : Rol} (hi : s.roles[i]? = some x) : ∃ b o, s.ra = some ⟨b, o, none⟩ ∧ W.cell? ⟨b, o + i * 4, none⟩ = some (sv x.name) ∧ W.cell? ⟨b, o + i * 4 + 1, none⟩ = some (int i64 x.x) ∧ W.cell? ⟨b, o + i * 4 + 2, none⟩ = some (int i64 x.y) ∧ W.cell? ⟨b, o + i * 4 + 3, none⟩ = some (int i64 x.face) := by
 obtain ⟨b, o, h1, h2, _⟩ := h.roles.block hi; exact ⟨b, o, h1, h2 i x hi 0 _ rfl, h2 i x hi 1 _ rfl, h2 i x hi 2 _ rfl, h2 i x hi 3 _ rfl⟩
noncomputable def AI : Code := (Try.f29.body).getD .skip
noncomputable def KW : Code := match Ab 0 AI with
 | .seq a _ => a
 | c => c
noncomputable def KX : Code := match Ab 1 AI with
 | .seq a _ => a
 | c => c
noncomputable def KY : Code := match Ab 2 AI with
 | .seq a _ => a
 | c => c
noncomputable def elem29n3 : Code := match Ab 3 AI with
 | .seq a _ => a
 | c => c
noncomputable def elem29n4 : Code := match Ab 4 AI with
 | .seq a _ => a
 | c => c
noncomputable def elem29n5 : Code := match Ab 5 AI with
 | .seq a _ => a
 | c => c
noncomputable def elem29n6 : Code := match Ab 6 AI with
 | .seq a _ => a
 | c => c
noncomputable def elem29n7 : Code := match Ab 7 AI with
 | .seq a _ => a
 | c => c
noncomputable def elem29n8 : Code := match Ab 8 AI with
 | .seq a _ => a
 | c => c
noncomputable def elem29n9 : Code := match Ab 9 AI with
 | .seq a _ => a
 | c => c
noncomputable def elem29n10 : Code := match Ab 10 AI with
 | .seq a _ => a
 | c => c
theorem N0 : AI = .seq KW (Ab 1 AI) := rfl
theorem N1 : Ab 1 AI = .seq KX (Ab 2 AI) := rfl
theorem N2 : Ab 2 AI = .seq KY (Ab 3 AI) := rfl
theorem N3 : Ab 3 AI = .seq elem29n3 (Ab 4 AI) := rfl
theorem N4 : Ab 4 AI = .seq elem29n4 (Ab 5 AI) := rfl
theorem N5 : Ab 5 AI = .seq elem29n5 (Ab 6 AI) := rfl
theorem N6 : Ab 6 AI = .seq elem29n6 (Ab 7 AI) := rfl
theorem N7 : Ab 7 AI = .seq elem29n7 (Ab 8 AI) := rfl
theorem N8 : Ab 8 AI = .seq elem29n8 (Ab 9 AI) := rfl
theorem N9 : Ab 9 AI = .seq elem29n9 (Ab 10 AI) := rfl
theorem P0 (s : Ls) (f : Nm → Int) (B E : Nat) (w W : World) (hs : RgS s f B w) (hb : Below w.heap.size w W) (ds : List Deferred) (Q : Exit → Act → World → Prop) (e0 e3 e4 e5 e6 e7 e8 e9 ea eb ec ed ee ef eg eh ei ej ek el em en eo ep eq er es et eu ev ew ex ey ez eA eB eC eD eE eF eG eH eI eJ eK eL eM eN eO eP eQ eR eS eT eU eV eW eX eY eZ aa ab ac ad ae af ag ah ai aj ak al am an ao ap aq ar au av aw ax ay az aA aB aC aD aE aF aG aH aI aJ aK aL aM aN aO aP aQ aR aS aT aU aV aW aX aY aZ ba bb bc bd be bf bg bh bi bj : Value)
  (hN : (inB s.wd 1 1000 && inB s.dp 1 1000) = true → ∀ (x0 x3 x4 x5 x6 x7 x8 x9 bk bl bm bn bo bp bq br bs bt bu bv bw bx bz bA bB bC bD bE bF bG bH bI bJ bK bL bM bN bO bP bQ bR bS bT bU bV bW bX bY bZ ca cb cc cd ce cf cg ch ci cj ck cl cm cn co cp cq cr cs ct cu cv cw cx cy cz cA cB cC cD cE cF cG cH cI cJ cK cL cM cN cO cP cQ cR cS cT cU cV cW cX cY cZ da db dc dd de df dg dh di dj dk dl dm dn dq dr dt du dv : Value) (V : World), Below w.heap.size w V → Q .normal { tmps := #[x0, .pointer (some ⟨B, 0, none⟩), .pointer (some ⟨E, 0, none⟩), x3, x4, x5, x6, x7, x8, x9, bk, bl, bm, bn, bo, bp, bq, br, bs, bt, bu, bv, bw, bx, bz, bA, bB, bC, bD, bE, bF, bG, bH, bI, bJ, bK, bL, bM, bN, bO, bP, bQ, bR, bS, bT, bU, bV, bW, bX, bY, bZ, ca, cb, cc, cd, ce, cf, cg, ch, ci, cj, ck, cl, cm, cn, co, cp, cq, cr, cs, ct, cu, cv, cw, cx, cy, cz, cA, cB, cC, cD, cE, cF, cG, cH, cI, cJ, cK, cL, cM, cN, cO, cP, cQ, cR, cS, cT, cU, cV, cW, cX, cY, cZ, da, db, dc, dd, de, df, dg, dh, di, dj, dk, dl, dm, dn, dq, dr, dt, du, dv], defers := ds } V)
  (hP : (inB s.wd 1 1000 && inB s.dp 1 1000) = false → ∀ (t : Array Value) (V : World), t.getD 2 undef = .pointer (some ⟨E, 0, none⟩) → Below w.heap.size w V → Q (.panic Bu) { tmps := t, defers := ds } V) :
  elem29n3.wp Try.prog Q { tmps := #[e0, .pointer (some ⟨B, 0, none⟩), .pointer (some ⟨E, 0, none⟩), e3, e4, e5, e6, e7, e8, e9, ea, eb, ec, ed, ee, ef, eg, eh, ei, ej, ek, el, em, en, eo, ep, eq, er, es, et, eu, ev, ew, ex, ey, ez, eA, eB, eC, eD, eE, eF, eG, eH, eI, eJ, eK, eL, eM, eN, eO, eP, eQ, eR, eS, eT, eU, eV, eW, eX, eY, eZ, aa, ab, ac, ad, ae, af, ag, ah, ai, aj, ak, al, am, an, ao, ap, aq, ar, au, av, aw, ax, ay, az, aA, aB, aC, aD, aE, aF, aG, aH, aI, aJ, aK, aL, aM, aN, aO, aP, aQ, aR, aS, aT, aU, aV, aW, aX, aY, aZ, ba, bb, bc, bd, be, bf, bg, bh, bi, bj], defers := ds } W := by
 have hS := hs.below hb; have y1 : W.cell? ⟨B, 1, none⟩ = some (int i64 s.wd) := Aa hS.box 1 rfl; have y2 : W.cell? ⟨B, 2, none⟩ = some (int i64 s.dp) := Aa hS.box 2 rfl; have HN := qh hN; have HP := qh hP; have HB := qh hb; clear hN hP hb hS hs
 cases hq0 : inB s.wd 1 1000 with
 | false =>
  have HC : Hid ((inB s.wd 1 1000 && inB s.dp 1 1000) = false) := qh (by rw [hq0]; rfl)
  conv => arg 2; whnf
  go_wp2_with (first | (go_at_call 64; refine (BZ (by assumption) _).mono ?_; rintro e w2 ⟨rfl, rfl⟩) | (go_at_call 63; first | (refine (Aq _).mono ?_; rintro e w2 ⟨rfl, rfl⟩) | (refine (Al _).mono ?_; unfold Ah; rintro e w2 ⟨rfl, rfl⟩))); exact HP.out HC.out _ _ rfl HB.out
 | true =>
  cases hq1 : inB s.dp 1 1000 with
  | false =>
   have HC : Hid ((inB s.wd 1 1000 && inB s.dp 1 1000) = false) := qh (by rw [hq0, hq1]; rfl)
   conv => arg 2; whnf
   go_wp2_with (first | (go_at_call 64; refine (BZ (by assumption) _).mono ?_; rintro e w2 ⟨rfl, rfl⟩) | (go_at_call 63; first | (refine (Aq _).mono ?_; rintro e w2 ⟨rfl, rfl⟩) | (refine (Al _).mono ?_; unfold Ah; rintro e w2 ⟨rfl, rfl⟩))); exact HP.out HC.out _ _ rfl HB.out
  | true =>
   have HC : Hid ((inB s.wd 1 1000 && inB s.dp 1 1000) = true) := qh (by rw [hq0, hq1]; rfl)
   conv => arg 2; whnf
   go_wp2_with (first | (go_at_call 64; refine (BZ (by assumption) _).mono ?_; rintro e w2 ⟨rfl, rfl⟩) | (go_at_call 63; first | (refine (Aq _).mono ?_; rintro e w2 ⟨rfl, rfl⟩) | (refine (Al _).mono ?_; unfold Ah; rintro e w2 ⟨rfl, rfl⟩))); exact HN.out HC.out _ _ _ _ _ _ _ _ _ _ _ _ _ _ _ _ _ _ _ _ _ _ _ _ _ _ _ _ _ _ _ _ _ _ _ _ _ _ _ _ _ _ _ _ _ _ _ _ _ _ _ _ _ _ _ _ _ _ _ _ _ _ _ _ _ _ _ _ _ _ _ _ _ _ _ _ _ _ _ _ _ _ _ _ _ _ _ _ _ _ _ _ _ _ _ _ _ _ _ _ _ _ _ _ _ _ _ _ _ _ _ _ _ _ _ _ _ _ _ _ _ HB.out
theorem P1 (s : Ls) (f : Nm → Int) (B E : Nat) (w W : World) (hs : RgS s f B w) (hb : Below w.heap.size w W) (ds : List Deferred) (Q : Exit → Act → World → Prop) (e0 e3 e4 e5 e6 e7 e8 e9 ea eb ec ed ee ef eg eh ei ej ek el em en eo ep eq er es et eu ev ew ex ey ez eA eB eC eD eE eF eG eH eI eJ eK eL eM eN eO eP eQ eR eS eT eU eV eW eX eY eZ aa ab ac ad ae af ag ah ai aj ak al am an ao ap aq ar au av aw ax ay az aA aB aC aD aE aF aG aH aI aJ aK aL aM aN aO aP aQ aR aS aT aU aV aW aX aY aZ ba bb bc bd be bf bg bh bi bj : Value)
  (hN : (inB s.t0 1 127 && inB s.t1 0 s.t0) = true → ∀ (x0 x3 x4 x5 x6 x7 x8 x9 bk bl bm bn bo bp bq br bs bt bu bv bw bx bz bA bB bC bD bE bF bG bH bI bJ bK bL bM bN bO bP bQ bR bS bT bU bV bW bX bY bZ ca cb cc cd ce cf cg ch ci cj ck cl cm cn co cp cq cr cs ct cu cv cw cx cy cz cA cB cC cD cE cF cG cH cI cJ cK cL cM cN cO cP cQ cR cS cT cU cV cW cX cY cZ da db dc dd de df dg dh di dj dk dl dm dn dp dq dr dt du : Value) (V : World), Below w.heap.size w V → Q .normal { tmps := #[x0, .pointer (some ⟨B, 0, none⟩), .pointer (some ⟨E, 0, none⟩), x3, x4, x5, x6, x7, x8, x9, bk, bl, bm, bn, bo, bp, bq, br, bs, bt, bu, bv, bw, bx, bz, bA, bB, bC, bD, bE, bF, bG, bH, bI, bJ, bK, bL, bM, bN, bO, bP, bQ, bR, bS, bT, bU, bV, bW, bX, bY, bZ, ca, cb, cc, cd, ce, cf, cg, ch, ci, cj, ck, cl, cm, cn, co, cp, cq, cr, cs, ct, cu, cv, cw, cx, cy, cz, cA, cB, cC, cD, cE, cF, cG, cH, cI, cJ, cK, cL, cM, cN, cO, cP, cQ, cR, cS, cT, cU, cV, cW, cX, cY, cZ, da, db, dc, dd, de, df, dg, dh, di, dj, dk, dl, dm, dn, dp, dq, dr, dt, du], defers := ds } V)
  (hP : (inB s.t0 1 127 && inB s.t1 0 s.t0) = false → ∀ (t : Array Value) (V : World), t.getD 2 undef = .pointer (some ⟨E, 0, none⟩) → Below w.heap.size w V → Q (.panic Bu) { tmps := t, defers := ds } V) :
  elem29n4.wp Try.prog Q { tmps := #[e0, .pointer (some ⟨B, 0, none⟩), .pointer (some ⟨E, 0, none⟩), e3, e4, e5, e6, e7, e8, e9, ea, eb, ec, ed, ee, ef, eg, eh, ei, ej, ek, el, em, en, eo, ep, eq, er, es, et, eu, ev, ew, ex, ey, ez, eA, eB, eC, eD, eE, eF, eG, eH, eI, eJ, eK, eL, eM, eN, eO, eP, eQ, eR, eS, eT, eU, eV, eW, eX, eY, eZ, aa, ab, ac, ad, ae, af, ag, ah, ai, aj, ak, al, am, an, ao, ap, aq, ar, au, av, aw, ax, ay, az, aA, aB, aC, aD, aE, aF, aG, aH, aI, aJ, aK, aL, aM, aN, aO, aP, aQ, aR, aS, aT, aU, aV, aW, aX, aY, aZ, ba, bb, bc, bd, be, bf, bg, bh, bi, bj], defers := ds } W := by
 have hS := hs.below hb; have y1 : W.cell? ⟨B, 4, none⟩ = some (int i64 s.t0) := Aa hS.box 4 rfl; have y2 : W.cell? ⟨B, 5, none⟩ = some (int i64 s.t1) := Aa hS.box 5 rfl; have HN := qh hN; have HP := qh hP; have HB := qh hb; clear hN hP hb hS hs
 cases hq0 : inB s.t0 1 127 with
 | false =>
  have HC : Hid ((inB s.t0 1 127 && inB s.t1 0 s.t0) = false) := qh (by rw [hq0]; rfl)
  conv => arg 2; whnf
  go_wp2_with (first | (go_at_call 64; refine (BZ (by assumption) _).mono ?_; rintro e w2 ⟨rfl, rfl⟩) | (go_at_call 63; first | (refine (Aq _).mono ?_; rintro e w2 ⟨rfl, rfl⟩) | (refine (Al _).mono ?_; unfold Ah; rintro e w2 ⟨rfl, rfl⟩))); exact HP.out HC.out _ _ rfl HB.out
 | true =>
  cases hq1 : inB s.t1 0 s.t0 with
  | false =>
   have HC : Hid ((inB s.t0 1 127 && inB s.t1 0 s.t0) = false) := qh (by rw [hq0, hq1]; rfl)
   conv => arg 2; whnf
   go_wp2_with (first | (go_at_call 64; refine (BZ (by assumption) _).mono ?_; rintro e w2 ⟨rfl, rfl⟩) | (go_at_call 63; first | (refine (Aq _).mono ?_; rintro e w2 ⟨rfl, rfl⟩) | (refine (Al _).mono ?_; unfold Ah; rintro e w2 ⟨rfl, rfl⟩))); exact HP.out HC.out _ _ rfl HB.out
  | true =>
   have HC : Hid ((inB s.t0 1 127 && inB s.t1 0 s.t0) = true) := qh (by rw [hq0, hq1]; rfl)
   conv => arg 2; whnf
   go_wp2_with (first | (go_at_call 64; refine (BZ (by assumption) _).mono ?_; rintro e w2 ⟨rfl, rfl⟩) | (go_at_call 63; first | (refine (Aq _).mono ?_; rintro e w2 ⟨rfl, rfl⟩) | (refine (Al _).mono ?_; unfold Ah; rintro e w2 ⟨rfl, rfl⟩))); exact HN.out HC.out _ _ _ _ _ _ _ _ _ _ _ _ _ _ _ _ _ _ _ _ _ _ _ _ _ _ _ _ _ _ _ _ _ _ _ _ _ _ _ _ _ _ _ _ _ _ _ _ _ _ _ _ _ _ _ _ _ _ _ _ _ _ _ _ _ _ _ _ _ _ _ _ _ _ _ _ _ _ _ _ _ _ _ _ _ _ _ _ _ _ _ _ _ _ _ _ _ _ _ _ _ _ _ _ _ _ _ _ _ _ _ _ _ _ _ _ _ _ _ _ _ HB.out
def BD (s : Ls) (x : Rol) : Bool := (inB x.x 0 s.wd && (inB x.y 0 s.dp && inB x.face 0 7))
theorem P2 (s : Ls) (f : Nm → Int) (B E : Nat) (w W : World) (hs : RgS s f B w) (hb : Below w.heap.size w W) (_hl : s.roles.length ≤ 100000) (ds : List Deferred) (Q : Exit → Act → World → Prop) (e0 e3 e4 e5 e6 e7 e8 e9 ea eb ec ed ee ef eg eh ei ej ek el em en eo ep eq er es et eu ev ew ex ey ez eA eB eC eD eE eF eG eH eI eJ eK eL eM eN eO eP eQ eR eS eT eU eV eW eX eY eZ aa ab ac ad ae af ag ah ai aj ak al am an ao ap aq ar au av aw ax ay az aA aB aC aD aE aF aG aH aI aJ aK aL aM aN aO aP aQ aR aS aT aU aV aW aX aY aZ ba bb bc bd be bf bg bh bi bj : Value)
  (hN : s.roles.all (BD s) = true → ∀ (x0 x3 x4 x5 x6 x7 x8 x9 bk bl bm bn bo bp bq br bs bt bu bv bw bx bz bA bB bC bD bE bF bG bH bI bJ bK bL bM bN bO bP bQ bR bS bT bU bV bW bX bY bZ ca cb cc cd ce cf cg ch ci cj ck cl cm cn co cp cq cr cs ct cu cv cw cx cy cz cA cB cC cD cE cF cG cH cI cJ cK cL cM cN cO cP cQ cR cS cT cU cV cW cX cY cZ da db dc dd de df dg dh di dj dk dl dm dn dq dr dt du dv : Value) (V : World), Below w.heap.size w V → Q .normal { tmps := #[x0, .pointer (some ⟨B, 0, none⟩), .pointer (some ⟨E, 0, none⟩), x3, x4, x5, x6, x7, x8, x9, bk, bl, bm, bn, bo, bp, bq, br, bs, bt, bu, bv, bw, bx, bz, bA, bB, bC, bD, bE, bF, bG, bH, bI, bJ, bK, bL, bM, bN, bO, bP, bQ, bR, bS, bT, bU, bV, bW, bX, bY, bZ, ca, cb, cc, cd, ce, cf, cg, ch, ci, cj, ck, cl, cm, cn, co, cp, cq, cr, cs, ct, cu, cv, cw, cx, cy, cz, cA, cB, cC, cD, cE, cF, cG, cH, cI, cJ, cK, cL, cM, cN, cO, cP, cQ, cR, cS, cT, cU, cV, cW, cX, cY, cZ, da, db, dc, dd, de, df, dg, dh, di, dj, dk, dl, dm, dn, dq, dr, dt, du, dv], defers := ds } V)
  (hP : s.roles.all (BD s) = false → ∀ (t : Array Value) (V : World), t.getD 2 undef = .pointer (some ⟨E, 0, none⟩) → Below w.heap.size w V → Q (.panic Bu) { tmps := t, defers := ds } V) :
  elem29n5.wp Try.prog Q { tmps := #[e0, .pointer (some ⟨B, 0, none⟩), .pointer (some ⟨E, 0, none⟩), e3, e4, e5, e6, e7, e8, e9, ea, eb, ec, ed, ee, ef, eg, eh, ei, ej, ek, el, em, en, eo, ep, eq, er, es, et, eu, ev, ew, ex, ey, ez, eA, eB, eC, eD, eE, eF, eG, eH, eI, eJ, eK, eL, eM, eN, eO, eP, eQ, eR, eS, eT, eU, eV, eW, eX, eY, eZ, aa, ab, ac, ad, ae, af, ag, ah, ai, aj, ak, al, am, an, ao, ap, aq, ar, au, av, aw, ax, ay, az, aA, aB, aC, aD, aE, aF, aG, aH, aI, aJ, aK, aL, aM, aN, aO, aP, aQ, aR, aS, aT, aU, aV, aW, aX, aY, aZ, ba, bb, bc, bd, be, bf, bg, bh, bi, bj], defers := ds } W := by
 have hS := hs.below hb; have y6 : W.cell? ⟨B, 6, none⟩ = some (.slice s.ra s.roles.length s.rc) := Aa hS.box 6 rfl; have HN := qh hN; have HP := qh hP; have HB := qh hb; have HS := qh hs; clear hN hP hb hS hs; generalize hn : s.roles.length = n at *; have HLN := qh hn; clear hn
 conv => arg 2; whnf
 go_wp2_with fail; go_loopw [42] (fun iv wr => ∃ i : Nat, iv = int i64 i ∧ i ≤ n ∧ Hid (∀ x ∈ s.roles.take i, BD s x = true) ∧ Hid (Below w.heap.size w wr)) (fun iv _ => n + 1 - (intOf iv).toNat)
 case atStart => exact ⟨0, rfl, Nat.zero_le _, qh (by simp), HB⟩
 case round =>
  obtain ⟨i, rfl, hin, hok, hB⟩ := hrel; by_cases hlt : i < n
  ·have hi : (i : Int) < (n : Int) := by omega
   obtain ⟨x, hx⟩ : ∃ x, s.roles[i]? = some x := ⟨_, qg (by rw [HLN.out]; exact hlt)⟩; have hSr := HS.out.below hB.out; obtain ⟨b, o, e, c0, c1, c2, c3⟩ := Kf hSr.at_ hx; have y1 : wr.cell? ⟨B, 1, none⟩ = some (int i64 s.wd) := Aa hSr.box 1 rfl; have y2 : wr.cell? ⟨B, 2, none⟩ = some (int i64 s.dp) := Aa hSr.box 2 rfl; obtain ⟨W2, hW2, gW2, bW2, sW2⟩ := Ai wr #[sv x.name, int i64 x.x, int i64 x.y, int i64 x.face] 59; have z1 := Aa gW2 1 rfl; have z2 := Aa gW2 2 rfl; have z3 := Aa gW2 3 rfl; have v1 := Ae bW2 y1; have v2 := Ae bW2 y2; have HX := qh hx; have HB2 := qh (Ag hB.out bW2); obtain ⟨r, hr⟩ : ∃ r, BD s x = r := ⟨_, rfl⟩; have HR := qh hr; generalize hra : s.ra = ra at *; subst e; have HRA := qh hra; clear hx hSr gW2 bW2 sW2 hra hr
   cases hq0 : inB x.x 0 s.wd with
   | false =>
    have hc : BD s x = false := by unfold BD; rw [hq0]; rfl
    have hall : s.roles.all (BD s) = false := by
     rw [← Bool.not_eq_true, List.all_eq_true]; intro h; rw [h x (List.mem_of_getElem? HX.out)] at hc; cases hc
    have HC := qh hall; clear hc hall
    go_wp2_with (first | (go_at_call 64; refine (BZ (by assumption) _).mono ?_; rintro e w2 ⟨rfl, rfl⟩) | (go_at_call 63; first | (refine (Aq _).mono ?_; rintro e w2 ⟨rfl, rfl⟩) | (refine (Al _).mono ?_; unfold Ah; rintro e w2 ⟨rfl, rfl⟩))); exact HP.out HC.out _ _ rfl HB2.out
   | true =>
    cases hq1 : inB x.y 0 s.dp with
    | false =>
     have hc : BD s x = false := by unfold BD; rw [hq0, hq1]; rfl
     have hall : s.roles.all (BD s) = false := by
      rw [← Bool.not_eq_true, List.all_eq_true]; intro h; rw [h x (List.mem_of_getElem? HX.out)] at hc; cases hc
     have HC := qh hall; clear hc hall
     go_wp2_with (first | (go_at_call 64; refine (BZ (by assumption) _).mono ?_; rintro e w2 ⟨rfl, rfl⟩) | (go_at_call 63; first | (refine (Aq _).mono ?_; rintro e w2 ⟨rfl, rfl⟩) | (refine (Al _).mono ?_; unfold Ah; rintro e w2 ⟨rfl, rfl⟩))); exact HP.out HC.out _ _ rfl HB2.out
    | true =>
     cases hq2 : inB x.face 0 7 with
     | false =>
      have hc : BD s x = false := by unfold BD; rw [hq0, hq1, hq2]; rfl
      have hall : s.roles.all (BD s) = false := by
       rw [← Bool.not_eq_true, List.all_eq_true]; intro h; rw [h x (List.mem_of_getElem? HX.out)] at hc; cases hc
      have HC := qh hall; clear hc hall
      go_wp2_with (first | (go_at_call 64; refine (BZ (by assumption) _).mono ?_; rintro e w2 ⟨rfl, rfl⟩) | (go_at_call 63; first | (refine (Aq _).mono ?_; rintro e w2 ⟨rfl, rfl⟩) | (refine (Al _).mono ?_; unfold Ah; rintro e w2 ⟨rfl, rfl⟩))); exact HP.out HC.out _ _ rfl HB2.out
     | true =>
      have hc : BD s x = true := by unfold BD; rw [hq0, hq1, hq2]; rfl
      have HC := qh hc; clear hc
      go_wp2_with (first | (go_at_call 64; refine (BZ (by assumption) _).mono ?_; rintro e w2 ⟨rfl, rfl⟩) | (go_at_call 63; first | (refine (Aq _).mono ?_; rintro e w2 ⟨rfl, rfl⟩) | (refine (Al _).mono ?_; unfold Ah; rintro e w2 ⟨rfl, rfl⟩))); go_roundw
      case rel => exact ⟨i + 1, by go_num, by omega, qh (F8 hok.out HX.out HC.out), HB2⟩
      case measure => simp [intOf]; omega
  ·have : i = n := by omega
   subst this; have hz : ¬ (i : Int) < (i : Int) := by omega
   have hall : s.roles.all (BD s) = true := List.all_eq_true.2 (fun x hx => hok.out x (by rw [List.take_of_length_le (by rw [HLN.out]; exact qn _)]; exact hx)); have HC := qh hall; clear hall; go_wp2_with fail; exact HN.out HC.out _ _ _ _ _ _ _ _ _ _ _ _ _ _ _ _ _ _ _ _ _ _ _ _ _ _ _ _ _ _ _ _ _ _ _ _ _ _ _ _ _ _ _ _ _ _ _ _ _ _ _ _ _ _ _ _ _ _ _ _ _ _ _ _ _ _ _ _ _ _ _ _ _ _ _ _ _ _ _ _ _ _ _ _ _ _ _ _ _ _ _ _ _ _ _ _ _ _ _ _ _ _ _ _ _ _ _ _ _ _ _ _ _ _ _ _ _ _ _ _ _ hB.out
end
section
open Go Go.RowKit
theorem Mt (V : World) : (binOp .eql 63 (.slice none 0 0) (.slice none 0 0)).run Try.prog V = .ok (.bool true) V := by kernel_rfl
theorem Lg (g n c : Nat) (V : World) : (binOp .eql 63 (.slice (some ⟨g, 0, none⟩) n c) (.slice none 0 0)).run Try.prog V = .ok (.bool false) V := by kernel_rfl
def Sc.clk (s : Sc) : Clk := ⟨s.bars, s.tempos, s.pauses, s.spans⟩
theorem P3 (s : Ls) (f : Nm → Int) (B E : Nat) (w W : World) (hs : RgS s f B w) (hb : Below w.heap.size w W) (ds : List Deferred) (Q : Exit → Act → World → Prop) (e0 e3 e4 e5 e6 e7 e8 e9 ea eb ec ed ee ef eg eh ei ej ek el em en eo ep eq er es et eu ev ew ex ey ez eA eB eC eD eE eF eG eH eI eJ eK eL eM eN eO eP eQ eR eS eT eU eV eW eX eY eZ aa ab ac ad ae af ag ah ai aj ak al am an ao ap aq ar au av aw ax ay az aA aB aC aD aE aF aG aH aI aJ aK aL aM aN aO aP aQ aR aS aT aU aV aW aX aY aZ ba bb bc bd be bf bg bh bi bj : Value)
  (hN : decide (BL ⟨s.bars, s.tempos, s.pauses, s.spans⟩ = 0) = true → ∀ (x0 x3 x4 x5 x6 x7 x8 x9 bk bl bm bn bo bp bq br bs bt bu bv bw bx bz bA bB bC bD bE bF bG bH bI bJ bK bL bM bN bO bP bQ bR bS bT bU bV bW bX bY bZ ca cb cc cd ce cf cg ch ci cj ck cl cm cn co cp cq cr cs ct cu cv cw cx cy cz cA cB cC cD cE cF cG cH cI cJ cK cL cM cN cO cP cQ cR cS cT cU cV cW cX cY cZ da db dc dd de df dg dh di dj dk dl dm dn dp dq dr dt du : Value) (V : World), Below w.heap.size w V → Q .normal { tmps := #[x0, .pointer (some ⟨B, 0, none⟩), .pointer (some ⟨E, 0, none⟩), x3, x4, x5, x6, x7, x8, x9, bk, bl, bm, bn, bo, bp, bq, br, bs, bt, bu, bv, bw, bx, bz, bA, bB, bC, bD, bE, bF, bG, bH, bI, bJ, bK, bL, bM, bN, bO, bP, bQ, bR, bS, bT, bU, bV, bW, bX, bY, bZ, ca, cb, cc, cd, ce, cf, cg, ch, ci, cj, ck, cl, cm, cn, co, cp, cq, cr, cs, ct, cu, cv, cw, cx, cy, cz, cA, cB, cC, cD, cE, cF, cG, cH, cI, cJ, cK, cL, cM, cN, cO, cP, cQ, cR, cS, cT, cU, cV, cW, cX, cY, cZ, da, db, dc, dd, de, df, dg, dh, di, dj, dk, dl, dm, dn, dp, dq, dr, dt, du], defers := ds } V)
  (hP : decide (BL ⟨s.bars, s.tempos, s.pauses, s.spans⟩ = 0) = false → ∀ (t : Array Value) (V : World), t.getD 2 undef = .pointer (some ⟨E, 0, none⟩) → Below w.heap.size w V → Q (.panic Bu) { tmps := t, defers := ds } V) :
  elem29n6.wp Try.prog Q { tmps := #[e0, .pointer (some ⟨B, 0, none⟩), .pointer (some ⟨E, 0, none⟩), e3, e4, e5, e6, e7, e8, e9, ea, eb, ec, ed, ee, ef, eg, eh, ei, ej, ek, el, em, en, eo, ep, eq, er, es, et, eu, ev, ew, ex, ey, ez, eA, eB, eC, eD, eE, eF, eG, eH, eI, eJ, eK, eL, eM, eN, eO, eP, eQ, eR, eS, eT, eU, eV, eW, eX, eY, eZ, aa, ab, ac, ad, ae, af, ag, ah, ai, aj, ak, al, am, an, ao, ap, aq, ar, au, av, aw, ax, ay, az, aA, aB, aC, aD, aE, aF, aG, aH, aI, aJ, aK, aL, aM, aN, aO, aP, aQ, aR, aS, aT, aU, aV, aW, aX, aY, aZ, ba, bb, bc, bd, be, bf, bg, bh, bi, bj], defers := ds } W := by
 have hS := hs.below hb; have y1 : W.cell? ⟨B, 3, none⟩ = some (int i64 s.bars) := Aa hS.box 3 rfl; have y2 : W.cell? ⟨B, 7, none⟩ = some (.slice s.ta s.tempos.length s.tc) := Aa hS.box 7 rfl; have y3 : W.cell? ⟨B, 8, none⟩ = some (.slice s.ua s.pauses.length s.uc) := Aa hS.box 8 rfl; have y4 : W.cell? ⟨B, 9, none⟩ = some (.slice s.sa s.spans.length s.sc) := Aa hS.box 9 rfl; have C := IV s.bars s.ta s.ua s.sa s.tc s.uc s.sc s.tempos s.pauses s.spans W hS.at_.tempos hS.at_.pauses hS.at_.spans; have HN := qh hN; have HP := qh hP; have HB := qh hb; obtain ⟨c, hc⟩ : ∃ c, BL ⟨s.bars, s.tempos, s.pauses, s.spans⟩ = c := ⟨_, rfl⟩; rw [hc] at C; have HC := qh C; have HK := qh hc; clear hN hP hb hS hs C hc
 conv => arg 2; whnf
 by_cases hz : c = 0
 ·subst hz
  have HD : Hid (decide (BL ⟨s.bars, s.tempos, s.pauses, s.spans⟩ = 0) = true) := qh (decide_eq_true HK.out)
  go_wp2_with (first | (go_at_call 65; refine HC.out.mono ?_; rintro e V ⟨rfl, hv⟩; have HV := qh hv; clear hv) | (first | (go_at_call 64; refine (BZ (by assumption) _).mono ?_; rintro e w2 ⟨rfl, rfl⟩) | (go_at_call 63; first | (refine (Aq _).mono ?_; rintro e w2 ⟨rfl, rfl⟩) | (refine (Al _).mono ?_; unfold Ah; rintro e w2 ⟨rfl, rfl⟩)))); exact HN.out HD.out _ _ _ _ _ _ _ _ _ _ _ _ _ _ _ _ _ _ _ _ _ _ _ _ _ _ _ _ _ _ _ _ _ _ _ _ _ _ _ _ _ _ _ _ _ _ _ _ _ _ _ _ _ _ _ _ _ _ _ _ _ _ _ _ _ _ _ _ _ _ _ _ _ _ _ _ _ _ _ _ _ _ _ _ _ _ _ _ _ _ _ _ _ _ _ _ _ _ _ _ _ _ _ _ _ _ _ _ _ _ _ _ _ _ _ _ _ _ _ _ _ (Ag HB.out HV.out)
 ·have HD : Hid (decide (BL ⟨s.bars, s.tempos, s.pauses, s.spans⟩ = 0) = false) := qh (decide_eq_false (by rw [HK.out]; exact hz))
  go_wp2_with (first | (go_at_call 63; refine (Bv (by simpa using hz) _).mono ?_; unfold Ah; rintro e w2 ⟨rfl, rfl⟩) | (go_at_call 65; refine HC.out.mono ?_; rintro e V ⟨rfl, hv⟩; have HV := qh hv; clear hv) | (first | (go_at_call 64; refine (BZ (by assumption) _).mono ?_; rintro e w2 ⟨rfl, rfl⟩) | (go_at_call 63; first | (refine (Aq _).mono ?_; rintro e w2 ⟨rfl, rfl⟩) | (refine (Al _).mono ?_; unfold Ah; rintro e w2 ⟨rfl, rfl⟩)))); exact HP.out HD.out _ _ rfl (Ag HB.out HV.out)
theorem P4 (s : Ls) (f : Nm → Int) (B E : Nat) (w W : World) (hs : RgS s f B w) (hb : Below w.heap.size w W) (_hl : s.phrases.length ≤ 100000) (ds : List Deferred) (Q : Exit → Act → World → Prop) (e0 e3 e4 e5 e6 e7 e8 e9 ea eb ec ed ee ef eg eh ei ej ek el em en eo ep eq er es et eu ev ew ex ey ez eA eB eC eD eE eF eG eH eI eJ eK eL eM eN eO eP eQ eR eS eT eU eV eW eX eY eZ aa ab ac ad ae af ag ah ai aj ak al am an ao ap aq ar au av aw ax ay az aA aB aC aD aE aF aG aH aI aJ aK aL aM aN aO aP aQ aR aS aT aU aV aW aX aY aZ ba bb bc bd be bf bg bh bi bj : Value)
  (hN : s.phrases.all (fun p => p.its.strip.exB) = true → ∀ (x0 x3 x4 x5 x6 x7 x8 x9 bk bl bm bn bo bp bq br bs bt bu bv bw bx bz bA bB bC bD bE bF bG bH bI bJ bK bL bM bN bO bP bQ bR bS bT bU bV bW bX bY bZ ca cb cc cd ce cf cg ch ci cj ck cl cm cn co cp cq cr cs ct cu cv cw cx cy cz cA cB cC cD cE cF cG cH cI cJ cK cL cM cN cO cP cQ cR cS cT cU cV cW cX cY cZ da db dc dd de df dg dh di dj dk dl dm dn dp dq dr dt du : Value) (V : World), Below w.heap.size w V → Q .normal { tmps := #[x0, .pointer (some ⟨B, 0, none⟩), .pointer (some ⟨E, 0, none⟩), x3, x4, x5, x6, x7, x8, x9, bk, bl, bm, bn, bo, bp, bq, br, bs, bt, bu, bv, bw, bx, bz, bA, bB, bC, bD, bE, bF, bG, bH, bI, bJ, bK, bL, bM, bN, bO, bP, bQ, bR, bS, bT, bU, bV, bW, bX, bY, bZ, ca, cb, cc, cd, ce, cf, cg, ch, ci, cj, ck, cl, cm, cn, co, cp, cq, cr, cs, ct, cu, cv, cw, cx, cy, cz, cA, cB, cC, cD, cE, cF, cG, cH, cI, cJ, cK, cL, cM, cN, cO, cP, cQ, cR, cS, cT, cU, cV, cW, cX, cY, cZ, da, db, dc, dd, de, df, dg, dh, di, dj, dk, dl, dm, dn, dp, dq, dr, dt, du], defers := ds } V)
  (hP : s.phrases.all (fun p => p.its.strip.exB) = false → ∀ (t : Array Value) (V : World), t.getD 2 undef = .pointer (some ⟨E, 0, none⟩) → Below w.heap.size w V → Q (.panic Bu) { tmps := t, defers := ds } V) :
  elem29n7.wp Try.prog Q { tmps := #[e0, .pointer (some ⟨B, 0, none⟩), .pointer (some ⟨E, 0, none⟩), e3, e4, e5, e6, e7, e8, e9, ea, eb, ec, ed, ee, ef, eg, eh, ei, ej, ek, el, em, en, eo, ep, eq, er, es, et, eu, ev, ew, ex, ey, ez, eA, eB, eC, eD, eE, eF, eG, eH, eI, eJ, eK, eL, eM, eN, eO, eP, eQ, eR, eS, eT, eU, eV, eW, eX, eY, eZ, aa, ab, ac, ad, ae, af, ag, ah, ai, aj, ak, al, am, an, ao, ap, aq, ar, au, av, aw, ax, ay, az, aA, aB, aC, aD, aE, aF, aG, aH, aI, aJ, aK, aL, aM, aN, aO, aP, aQ, aR, aS, aT, aU, aV, aW, aX, aY, aZ, ba, bb, bc, bd, be, bf, bg, bh, bi, bj], defers := ds } W := by
 have hS := hs.below hb; have y6 : W.cell? ⟨B, 10, none⟩ = some (.slice s.fa s.phrases.length s.fc) := Aa hS.box 10 rfl; have HN := qh hN; have HP := qh hP; have HB := qh hb; have HS := qh hs; clear hN hP hb hS hs; generalize hn : s.phrases.length = n at *; have HLN := qh hn; clear hn
 conv => arg 2; whnf
 go_wp2_with fail; go_loopw [80] (fun iv wr => ∃ i : Nat, iv = int i64 i ∧ i ≤ n ∧ Hid (∀ p ∈ s.phrases.take i, p.its.strip.exB = true) ∧ Hid (Below w.heap.size w wr)) (fun iv _ => n + 1 - (intOf iv).toNat)
 case atStart => exact ⟨0, rfl, Nat.zero_le _, qh (by simp), HB⟩
 case round =>
  obtain ⟨i, rfl, hin, hok, hB⟩ := hrel; by_cases hlt : i < n
  ·have hi : (i : Int) < (n : Int) := by omega
   obtain ⟨p, hp⟩ : ∃ p, s.phrases[i]? = some p := ⟨_, qg (by rw [HLN.out]; exact hlt)⟩; have hSr := HS.out.below hB.out; obtain ⟨c0, c1⟩ := CO hSr.at_.phrases hp; have hfa := hSr.at_.pform.resolve_left (fun e => by rw [e] at hp; cases hp); obtain ⟨W2, hW2, gW2, bW2, sW2⟩ := Ai wr #[sv p.name, .slice p.ia p.its.len p.ic] 57; have hS2 := hSr.below bW2; obtain ⟨i1, i2, i3⟩ := CQ hS2.at_.phrases hp; have hnum : NumAt f W2 (p.its.refsL (blk p.ia) (off p.ia)) := fun x hx => hS2.nums x (CR hp hx)
   obtain ⟨ns, hns⟩ := hnum.ns; have C := Lh _ p.its (qn _) p.ia p.ic ns W2 i1 i2 i3 hns; have z1 := Aa gW2 1 rfl; unfold Ph.val at c1; have HX := qh hp; have HB2 := qh (Ag hB.out bW2); have HC := qh C; generalize hga : s.fa = fa at *; have HGA := qh hga; clear hga; generalize hbb : blk fa = fb at *; generalize hoo : off fa = fo at *; subst hfa; clear hbb hoo hp hSr hS2 gW2 bW2 sW2 i1 i2 i3 hnum hns C
   go_wp2_with (go_at_call 66; refine HC.out.mono ?_; intro e V he; rcases Iw he with ⟨h1, rfl, hb⟩ | ⟨h1, rfl, hb⟩ <;> clear he)
   ·have HV := qh (Ag HB2.out hb); have H1 := qh h1
    clear hb h1; go_roundw
    case rel => exact ⟨i + 1, by go_num, by omega, qh (F8 hok.out HX.out H1.out), HV⟩
    case measure => simp [intOf]; omega
   ·have hall : s.phrases.all (fun p => p.its.strip.exB) = false := by
     rw [← Bool.not_eq_true, List.all_eq_true]; intro h; have := h p (List.mem_of_getElem? HX.out); rw [h1] at this; cases this
    exact HP.out hall _ _ rfl (Ag HB2.out hb)
  ·have : i = n := by omega
   subst this; have hz : ¬ (i : Int) < (i : Int) := by omega
   have hall : s.phrases.all (fun p => p.its.strip.exB) = true := List.all_eq_true.2 (fun x hx => hok.out x (by rw [List.take_of_length_le (by rw [HLN.out]; exact qn _)]; exact hx)); have HC := qh hall; clear hall; go_wp2_with fail; exact HN.out HC.out _ _ _ _ _ _ _ _ _ _ _ _ _ _ _ _ _ _ _ _ _ _ _ _ _ _ _ _ _ _ _ _ _ _ _ _ _ _ _ _ _ _ _ _ _ _ _ _ _ _ _ _ _ _ _ _ _ _ _ _ _ _ _ _ _ _ _ _ _ _ _ _ _ _ _ _ _ _ _ _ _ _ _ _ _ _ _ _ _ _ _ _ _ _ _ _ _ _ _ _ _ _ _ _ _ _ _ _ _ _ _ _ _ _ _ _ _ _ _ _ _ hB.out
theorem P5 (s : Ls) (f : Nm → Int) (B E : Nat) (w W : World) (hs : RgS s f B w) (hb : Below w.heap.size w W) (hl : s.phrases.length ≤ 999) (ds : List Deferred) (Q : Exit → Act → World → Prop) (e0 e3 e4 e5 e6 e7 e8 e9 ea eb ec ed ee ef eg eh ei ej ek el em en eo ep eq er es et eu ev ew ex ey ez eA eB eC eD eE eF eG eH eI eJ eK eL eM eN eO eP eQ eR eS eT eU eV eW eX eY eZ aa ab ac ad ae af ag ah ai aj ak al am an ao ap aq ar au av aw ax ay az aA aB aC aD aE aF aG aH aI aJ aK aL aM aN aO aP aQ aR aS aT aU aV aW aX aY aZ ba bb bc bd be bf bg bh bi bj : Value)
  (hN : decide (Bf (s.nexts f) = []) = true → ∀ (x0 x3 x4 x5 x6 x7 x8 x9 bk bl bm bn bo bp bq br bs bt bu bv bw bx bz bA bB bC bD bE bF bG bH bI bJ bK bL bM bN bO bP bQ bR bS bT bU bV bW bX bY bZ ca cb cc cd ce cf cg ch ci cj ck cl cm cn co cp cq cr cs ct cu cv cw cx cy cz cA cB cC cD cE cF cG cH cI cJ cK cL cM cN cO cP cQ cR cS cT cU cV cW cX cY cZ da db dc dd de df dg dh di dj dk dl dm dn dp dq dr dt du : Value) (V : World), Below w.heap.size w V → Q .normal { tmps := #[x0, .pointer (some ⟨B, 0, none⟩), .pointer (some ⟨E, 0, none⟩), x3, x4, x5, x6, x7, x8, x9, bk, bl, bm, bn, bo, bp, bq, br, bs, bt, bu, bv, bw, bx, bz, bA, bB, bC, bD, bE, bF, bG, bH, bI, bJ, bK, bL, bM, bN, bO, bP, bQ, bR, bS, bT, bU, bV, bW, bX, bY, bZ, ca, cb, cc, cd, ce, cf, cg, ch, ci, cj, ck, cl, cm, cn, co, cp, cq, cr, cs, ct, cu, cv, cw, cx, cy, cz, cA, cB, cC, cD, cE, cF, cG, cH, cI, cJ, cK, cL, cM, cN, cO, cP, cQ, cR, cS, cT, cU, cV, cW, cX, cY, cZ, da, db, dc, dd, de, df, dg, dh, di, dj, dk, dl, dm, dn, dp, dq, dr, dt, du], defers := ds } V)
  (hP : decide (Bf (s.nexts f) = []) = false → ∀ (t : Array Value) (V : World), t.getD 2 undef = .pointer (some ⟨E, 0, none⟩) → Below w.heap.size w V → Q (.panic Bu) { tmps := t, defers := ds } V) :
  elem29n8.wp Try.prog Q { tmps := #[e0, .pointer (some ⟨B, 0, none⟩), .pointer (some ⟨E, 0, none⟩), e3, e4, e5, e6, e7, e8, e9, ea, eb, ec, ed, ee, ef, eg, eh, ei, ej, ek, el, em, en, eo, ep, eq, er, es, et, eu, ev, ew, ex, ey, ez, eA, eB, eC, eD, eE, eF, eG, eH, eI, eJ, eK, eL, eM, eN, eO, eP, eQ, eR, eS, eT, eU, eV, eW, eX, eY, eZ, aa, ab, ac, ad, ae, af, ag, ah, ai, aj, ak, al, am, an, ao, ap, aq, ar, au, av, aw, ax, ay, az, aA, aB, aC, aD, aE, aF, aG, aH, aI, aJ, aK, aL, aM, aN, aO, aP, aQ, aR, aS, aT, aU, aV, aW, aX, aY, aZ, ba, bb, bc, bd, be, bf, bg, bh, bi, bj], defers := ds } W := by
 have hS := hs.below hb; have C := Hz s f W hS.at_ hS.nums hl; have HN := qh hN; have HP := qh hP; have HB := qh hb; have HC := qh C; have HX := qh hS.box; clear hN hP hb hS hs C
 conv => arg 2; whnf
 have hq1 := Mt; have hq2 := Lg; have st0 : True := trivial; by_cases hz : Bf (s.nexts f) = []
 ·have HD : Hid (decide (Bf (s.nexts f) = []) = true) := qh (decide_eq_true hz)
  go_wp2_with (first | (have q := st0; clear q st0; (refine wpList_load_row rfl 30 _ rfl B rfl 30 s.cells (0, 0) _ HX.out Try.underlying30 rfl (by kernel_rfl) ?_; simp only [Act.put, qD, qE, qF])) | (go_at_call 61; refine HC.out.mono ?_; rintro e V ⟨v, rfl, hv, hr⟩; rcases hr with ⟨_, rfl⟩ | ⟨g, cap, rfl, hne, _⟩; rotate_left; exact absurd hz hne; have HV := qh hv; clear hv) | (first | (go_at_call 64; refine (BZ (by assumption) _).mono ?_; rintro e w2 ⟨rfl, rfl⟩) | (go_at_call 63; first | (refine (Aq _).mono ?_; rintro e w2 ⟨rfl, rfl⟩) | (refine (Al _).mono ?_; unfold Ah; rintro e w2 ⟨rfl, rfl⟩)))); exact HN.out HD.out _ _ _ _ _ _ _ _ _ _ _ _ _ _ _ _ _ _ _ _ _ _ _ _ _ _ _ _ _ _ _ _ _ _ _ _ _ _ _ _ _ _ _ _ _ _ _ _ _ _ _ _ _ _ _ _ _ _ _ _ _ _ _ _ _ _ _ _ _ _ _ _ _ _ _ _ _ _ _ _ _ _ _ _ _ _ _ _ _ _ _ _ _ _ _ _ _ _ _ _ _ _ _ _ _ _ _ _ _ _ _ _ _ _ _ _ _ _ _ _ _ (Ag HB.out HV.out)
 ·have HD : Hid (decide (Bf (s.nexts f) = []) = false) := qh (decide_eq_false hz)
  go_wp2_with (first | (have q := st0; clear q st0; (refine wpList_load_row rfl 30 _ rfl B rfl 30 s.cells (0, 0) _ HX.out Try.underlying30 rfl (by kernel_rfl) ?_; simp only [Act.put, qD, qE, qF])) | (go_at_call 61; refine HC.out.mono ?_; rintro e V ⟨v, rfl, hv, hr⟩; rcases hr with ⟨he, _⟩ | ⟨g, cap, rfl, hne, _⟩; exact absurd he hz; have HV := qh hv; clear hv) | (first | (go_at_call 64; refine (BZ (by assumption) _).mono ?_; rintro e w2 ⟨rfl, rfl⟩) | (go_at_call 63; first | (refine (Aq _).mono ?_; rintro e w2 ⟨rfl, rfl⟩) | (refine (Al _).mono ?_; unfold Ah; rintro e w2 ⟨rfl, rfl⟩)))); exact HP.out HD.out _ _ rfl (Ag HB.out HV.out)
end
section
open Go
def NK (g g' : Int → Option Int) (nn : Int) : Prop := ∀ x, g' x = g x ∨ (g x = none ∧ g' x = some nn)
theorem Lo {g g' : Int → Option Int} {nn i : Int} (h : NK g g' nn) (to : Int) : De i nn g' to = De i nn g to := by
 unfold De
 congr 2
 rcases h to with e | ⟨e1, e2⟩
 ·rw [e]
 ·rw [e1, e2]
  have h1 : ¬ (some nn = some (nn - 1)) := by simp only [Option.some.injEq]; omega
  have h2 : ¬ ((none : Option Int) = some (nn - 1)) := by simp
  rw [decide_eq_false h1, decide_eq_false h2]
theorem JJ {g g' : Int → Option Int} {nn i : Int} (h : NK g g' nn) (ks : List Int) : Cm ks i nn g' = Cm ks i nn g := by
 unfold Cm
 congr 1
 funext to
 exact Lo h to
theorem G6 (kss : List (List Int)) (i nn : Int) (g : Int → Option Int) : ∀ j, NK g (DE kss i nn g j) nn
 | 0 => fun x => Or.inl rfl
 | j + 1 => fun x => by
  have ih := G6 kss i nn g j; unfold DE DN
  split
  ·exact ih x
  ·split
   ·rename_i h1 _
    unfold EX
    split
    ·rename_i hx
     subst hx; rcases ih j with e | ⟨e1, e2⟩
     ·right
      refine ⟨?_, rfl⟩; rw [← e]
      cases h2 : DE kss i nn g j j with
      | none => rfl
      | some v => rw [h2] at h1; simp at h1
     ·rw [e2] at h1; simp at h1
    ·exact ih x
   ·exact ih x
theorem F4 (kss : List (List Int)) (i nn : Int) (g : Int → Option Int) : ∀ (j : Nat) (x : Int), DE kss i nn g j x = if (g x).isSome = true then g x else if 0 ≤ x ∧ x < j ∧ Cm (kss.getD x.toNat []) i nn g = true then some nn else none
 | 0, x => by
  unfold DE
  cases h : g x with
  | some v => simp
  | none =>
   have : ¬ (0 ≤ x ∧ x < ((0 : Nat) : Int) ∧ Cm (kss.getD x.toNat []) i nn g = true) := by rintro ⟨h1, h2, _⟩; omega
   rw [if_neg this]; simp
 | j + 1, x => by
  have ih := F4 kss i nn g j; have hn := G6 kss i nn g j; unfold DE DN; by_cases hx : x = (j : Int)
  ·subst hx
   have ihj := ih j; have hlt : ¬ ((j : Int) < (j : Nat)) := by omega
   split
   ·rename_i h1
    rw [ihj] at h1 ⊢
    split
    ·rfl
    ·rename_i h2
     rw [if_neg h2, if_neg (fun h => hlt h.2.1)] at h1; simp at h1
   ·rename_i h1
    have hgj : (g j).isSome = false := by
     cases h2 : (g j).isSome with
     | false => rfl
     | true => rw [ihj, if_pos h2, h2] at h1; simp at h1
    rw [JJ hn, hgj]; simp only [Bool.false_eq_true, if_false]
    have e : (0 ≤ (j : Int) ∧ (j : Int) < ((j + 1 : Nat) : Int) ∧ Cm (kss.getD (j : Int).toNat []) i nn g = true) ↔ Cm (kss.getD j []) i nn g = true := by
     rw [Int.toNat_natCast]; exact ⟨fun h => h.2.2, fun h => ⟨by omega, by omega, h⟩⟩
    split
    ·rename_i h3
     rw [if_pos (e.2 h3)]; unfold EX; simp
    ·rename_i h3
     rw [ihj, hgj]; simp only [Bool.false_eq_true, if_false]; rw [if_neg (fun h => hlt h.2.1), if_neg (fun h => h3 (e.1 h))]
  ·have e : (0 ≤ x ∧ x < ((j + 1 : Nat) : Int) ∧ Cm (kss.getD x.toNat []) i nn g = true) ↔ (0 ≤ x ∧ x < ((j : Nat) : Int) ∧ Cm (kss.getD x.toNat []) i nn g = true) :=
    ⟨fun h => ⟨h.1, by have := h.2.1; omega, h.2.2⟩, fun h => ⟨h.1, by have := h.2.1; omega, h.2.2⟩⟩
   have e2 : DE kss i nn g j x = if (g x).isSome = true then g x else if 0 ≤ x ∧ x < ((j + 1 : Nat) : Int) ∧ Cm (kss.getD x.toNat []) i nn g = true then some nn else none := by
    rw [ih x]; simp only [e]
   split
   ·exact e2
   ·split
    ·unfold EX
     rw [if_neg hx]; exact e2
    ·exact e2
section
variable {kss : List (List Int)} {i : Int}
theorem DA {m : Nat} {x v : Int} (h : AS kss i m x = some v) : AS kss i (m + 1) x = some v := by
 unfold AS; rw [F4, h]
 rfl
theorem Iy {x v : Int} {m k : Nat} (hk : m ≤ k) (h : AS kss i m x = some v) : AS kss i k x = some v := by
 induction k with
 | zero => rw [show (0 : Nat) = m by omega]; exact h
 | succ k ih =>
  rcases Nat.lt_or_ge m (k + 1) with h1 | h1
  ·exact DA (ih (by omega))
  ·rw [show k + 1 = m by omega]; exact h
theorem E6 {m : Nat} {x v : Int} (h : AS kss i (m + 1) x = some v) : AS kss i m x = some v ∨ (AS kss i m x = none ∧ v = (m + 1 : Nat) ∧ 0 ≤ x ∧ x < kss.length ∧ Cm (kss.getD x.toNat []) i (m + 1 : Nat) (AS kss i m) = true) := by
 unfold AS at h; rw [F4] at h
 cases hg : AS kss i m x with
 | some u => rw [hg] at h; left; simpa using h
 | none =>
  rw [hg] at h; simp only [Option.isSome_none, Bool.false_eq_true, if_false] at h
  split at h
  ·rename_i hc
   right
   cases h; exact ⟨rfl, rfl, hc⟩
  ·cases h
theorem Mu {m : Nat} {x v : Int} : AS kss i m x = some v → 0 ≤ x ∧ x < kss.length := by
 induction m with
 | zero => intro h; cases h
 | succ m ih =>
  intro h; rcases E6 h with h | ⟨_, _, h1, h2, _⟩
  ·exact ih h
  ·exact ⟨h1, h2⟩
theorem Lj {m : Nat} {x : Int} (h0 : 0 ≤ x) (h1 : x < kss.length) (h : Cm (kss.getD x.toNat []) i (m + 1 : Nat) (AS kss i m) = true) : (AS kss i (m + 1) x).isSome = true := by
 unfold AS; rw [F4]
 cases hg : AS kss i m x with
 | some u => rfl
 | none =>
  simp only [Option.isSome_none, Bool.false_eq_true, if_false]; rw [if_pos ⟨h0, h1, h⟩]
  rfl
def Lv (kss : List (List Int)) (i : Int) (m : Nat) : Prop := ∃ x, AS kss i m x = some (m : Int)
theorem Lv.down {m : Nat} (hm : 1 ≤ m) (h : Lv kss i (m + 1)) : Lv kss i m := by
 obtain ⟨x, hx⟩ := h; rcases E6 hx with h | ⟨_, _, _, _, h⟩
 ·have := Dl h; omega
 ·unfold Cm at h
  rw [List.any_eq_true] at h; obtain ⟨to, _, hto⟩ := h; unfold De at hto; rw [Bool.or_eq_true, Bool.and_eq_true, Bool.and_eq_true] at hto; rcases hto with ⟨h1, _⟩ | ⟨_, h2⟩
  ·have := of_decide_eq_true h1; omega
  ·have := of_decide_eq_true h2
   exact ⟨to, by rw [this]; congr 1; omega⟩
def cnt (kss : List (List Int)) (i : Int) (m : Nat) : Nat := ((List.range kss.length).filter fun x : Nat => (AS kss i m x).isSome).length
theorem NV (m : Nat) : cnt kss i m ≤ kss.length := by
 unfold cnt; exact Nat.le_trans (List.length_filter_le _ _) (by simp)
theorem Lv.count : ∀ {m : Nat}, Lv kss i m → m ≤ cnt kss i m
 | 0, _ => Nat.zero_le _
 | m + 1, h => by
  have hm : m ≤ cnt kss i m := by
   rcases Nat.eq_zero_or_pos m with e | e
   ·omega
   ·exact Lv.count (h.down e)
  obtain ⟨x, hx⟩ := h; obtain ⟨h0, h1⟩ := Mu hx; obtain ⟨a, rfl⟩ : ∃ a : Nat, x = a := ⟨x.toNat, by omega⟩
  have hnone : (AS kss i m a).isSome = false := by
   cases hg : AS kss i m a with
   | none => rfl
   | some u =>
    have := Dl hg; rw [DA hg] at hx; cases hx; omega
  have := filter_lt (fun x : Nat => (AS kss i (m + 1) x).isSome) (fun x : Nat => (AS kss i m x).isSome) (fun y hy => by
   cases hg : AS kss i m y with
   | none => rw [hg] at hy; cases hy
   | some u => rw [DA hg]; rfl) a (by rw [hx]; rfl) hnone (List.range kss.length) (by simp; omega)
  unfold cnt at hm ⊢; omega
theorem Lk (x : Int) : AS kss i (kss.length + 1) x = AS kss i kss.length x := by
 cases h : AS kss i (kss.length + 1) x with
 | none =>
  cases h2 : AS kss i kss.length x with
  | none => rfl
  | some v => rw [DA h2] at h; cases h
 | some v =>
  rcases E6 h with h2 | ⟨_, hv, _⟩
  ·exact h2.symm
  ·exfalso
   have hl : Lv kss i (kss.length + 1) := ⟨x, by rw [h, hv]⟩; have := hl.count; have := NV (kss := kss) (i := i) (kss.length + 1); omega
theorem Ha {x u : Int} (h0 : 0 ≤ x) (h1 : x < kss.length) (hu : u ∈ kss.getD x.toNat []) (h : u = i ∨ (AS kss i kss.length u).isSome = true) : (AS kss i kss.length x).isSome = true := by
 have key : ∀ m : Nat, m ≤ kss.length → Cm (kss.getD x.toNat []) i (m + 1 : Nat) (AS kss i m) = true → (AS kss i kss.length x).isSome = true := by
  intro m hm hh; have h2 := Lj h0 h1 hh; rw [← Lk]
  cases hg : AS kss i (m + 1) x with
  | none => rw [hg] at h2; cases h2
  | some v => rw [Iy (by omega) hg]; rfl
 rcases h with rfl | h
 ·refine key 0 (Nat.zero_le _) ?_
  unfold Cm; rw [List.any_eq_true]; exact ⟨u, hu, by unfold De; simp⟩
 ·cases hg : AS kss i kss.length u with
  | none => rw [hg] at h; cases h
  | some v =>
   obtain ⟨hv1, hv2⟩ := Dl hg; obtain ⟨d, rfl⟩ : ∃ d : Nat, v = d := ⟨v.toNat, by omega⟩
   have hd : AS kss i d u = some (d : Int) := by
    have : ∀ k : Nat, AS kss i k u = some (d : Int) → d ≤ k → AS kss i d u = some (d : Int) := by
     intro k
     induction k with
     | zero => intro h; cases h
     | succ k ih =>
      intro h hk; rcases Nat.lt_or_ge d (k + 1) with h3 | h3
      ·rcases E6 h with h4 | ⟨_, h4, _⟩
       ·exact ih h4 (by omega)
       ·omega
      ·rw [show d = k + 1 by omega] at h ⊢; exact h
    exact this _ hg (by omega)
   refine key d (by omega) ?_; unfold Cm; rw [List.any_eq_true]; refine ⟨u, hu, ?_⟩; unfold De; rw [hd]; have e1 : decide (1 < ((d + 1 : Nat) : Int)) = true := decide_eq_true (by omega); have e2 : decide ((some (d : Int)) = some (((d + 1 : Nat) : Int) - 1)) = true := decide_eq_true (by congr 1; omega); rw [e1, e2]; simp
end
def D7 (kss : List (List Int)) (j : Nat) : Nat := ((List.range kss.length).filter fun i : Nat => (AS kss i kss.length j).isSome).length
theorem Gf {kss : List (List Int)} (h : Bf kss = []) {i : Nat} (hi : i < kss.length) : AS kss i kss.length i = none := by
 unfold Bf at h
 split at h
 ·rename_i hf
  rw [List.find?_eq_none] at hf; have := hf i (by simpa using hi); unfold CG at this
  cases hg : AS kss i kss.length i with
  | none => rfl
  | some v => rw [hg] at this; simp at this
 ·cases h
theorem K6 {kss : List (List Int)} (h : Bf kss = []) {j u : Nat} (hj : j < kss.length) (hu : u < kss.length) (hm : (u : Int) ∈ kss.getD j []) : D7 kss u < D7 kss j := by
 unfold D7; refine filter_lt (fun i : Nat => (AS kss i kss.length j).isSome) (fun i : Nat => (AS kss i kss.length u).isSome) (fun i hi => ?_) u ?_ ?_ _ (by simpa using hu)
 ·exact Ha (by omega) (by omega) (by rw [Int.toNat_natCast]; exact hm) (Or.inr hi)
 ·exact Ha (by omega) (by omega) (by rw [Int.toNat_natCast]; exact hm) (Or.inl rfl)
 ·show (AS kss u kss.length u).isSome = false
  rw [Gf h hu]; rfl
theorem MR {kss : List (List Int)} (h : Bf kss = []) {j : Nat} (hj : j < kss.length) : D7 kss j < kss.length := by
 unfold D7; have := filter_lt (fun _ : Nat => true) (fun i : Nat => (AS kss i kss.length j).isSome) (fun _ _ => rfl) j rfl (by rw [Gf h hj]; rfl) (List.range kss.length) (by simpa using hj); have e : (List.range kss.length).filter (fun _ : Nat => true) = List.range kss.length := List.filter_eq_self.2 (fun _ _ => rfl); rw [e, List.length_range] at this; exact this
end
section
open Go
theorem Hj (x : Int) : ∀ (us ks : List Int), x ∈ us.foldl AU ks ↔ x ∈ ks ∨ x ∈ us
 | [], ks => by simp
 | u :: us, ks => by
  rw [List.foldl_cons, Hj x us, IS]; simp only [List.mem_cons]
  constructor
  ·rintro ((h | h) | h)
   ·exact Or.inl h
   ·exact Or.inr (Or.inl h)
   ·exact Or.inr (Or.inr h)
  ·rintro (h | h | h)
   ·exact Or.inl (Or.inl h)
   ·exact Or.inl (Or.inr h)
   ·exact Or.inr h
theorem Its.sumF_congr (f : Nm → Int) (F G : Int → Int) : ∀ (T : Its) (n : Int), (∀ u ∈ T.uses f, F u = G u) → T.sumF f F n = T.sumF f G n
 | .nil, _, _ => rfl
 | .cons k nn un its ms r, n, h => by
  unfold Its.sumF; rw [its.sumF_congr f F G 0 (fun u hu => h u (by simp [Its.uses, hu]))]
  have e : (if k = 4 then F (f un) else 0) = if k = 4 then G (f un) else 0 := by
   split
   ·rename_i hk
    exact h (f un) (by simp [Its.uses, hk])
   ·rfl
  rw [e]; exact r.sumF_congr f F G _ (fun u hu => h u (by simp [Its.uses, hu]))
def Fl (L : List Its) (f : Nm → Int) : Nat → Int → Int
 | 0, _ => 0
 | d + 1, k => if 0 ≤ k then (match L[k.toNat]? with
  | some t => t.sumF f (Fl L f d) 0
  | none => 0) else 0
def C7 (L : List Its) (f : Nm → Int) : Int → Int := Fl L f L.length
theorem E7 {L : List Its} {f : Nm → Int} {d j : Nat} {t : Its} (h : L[j]? = some t) : Fl L f (d + 1) j = t.sumF f (Fl L f d) 0 := by
 unfold Fl; rw [if_pos (by omega), Int.toNat_natCast, h]
theorem JO {L : List Its} {f : Nm → Int} {rk : Nat → Nat} (hd : ∀ (j : Nat) (t : Its), L[j]? = some t → ∀ u ∈ t.uses f, ∃ i : Nat, u = i ∧ i < L.length ∧ rk i < rk j) : ∀ (z j d d' : Nat), rk j ≤ z → rk j < d → rk j < d' → j < L.length → Fl L f d j = Fl L f d' j := by
 intro z
 induction z with
 | zero =>
  intro j d d' hz h1 h2 hj; obtain ⟨t, ht⟩ : ∃ t, L[j]? = some t := ⟨_, qg hj⟩; obtain ⟨d, rfl⟩ : ∃ e, d = e + 1 := ⟨d - 1, by omega⟩; obtain ⟨d', rfl⟩ : ∃ e, d' = e + 1 := ⟨d' - 1, by omega⟩; rw [E7 ht, E7 ht]; exact t.sumF_congr f _ _ 0 (fun u hu => by obtain ⟨i, rfl, hi, hr⟩ := hd j t ht u hu; omega)
 | succ z ih =>
  intro j d d' hz h1 h2 hj; obtain ⟨t, ht⟩ : ∃ t, L[j]? = some t := ⟨_, qg hj⟩; obtain ⟨d, rfl⟩ : ∃ e, d = e + 1 := ⟨d - 1, by omega⟩; obtain ⟨d', rfl⟩ : ∃ e, d' = e + 1 := ⟨d' - 1, by omega⟩; rw [E7 ht, E7 ht]
  exact t.sumF_congr f _ _ 0 (fun u hu => by
   obtain ⟨i, rfl, hi, hr⟩ := hd j t ht u hu
   exact ih i d d' (by omega) (by omega) (by omega) hi)
theorem Fm {L : List Its} {f : Nm → Int} (hx : ∀ t ∈ L, t.exB = true) : ∀ (d : Nat) (k : Int), 0 ≤ Fl L f d k ∧ Fl L f d k ≤ 4097
 | 0, _ => by unfold Fl; omega
 | d + 1, k => by
  unfold Fl
  split
  ·cases h : L[k.toNat]? with
   | none => simp
   | some t => exact t.sumF_bound f _ 0 (hx t (List.mem_of_getElem? h)) (fun u _ => Fm hx d u) (by omega) (by omega)
  ·omega
def Ls.itsL (s : Ls) : List Its := s.phrases.map fun p => p.its.strip
def KD (L : List Its) (f : Nm → Int) : Prop := ∀ t ∈ L, ∀ u ∈ t.uses f, ∃ i : Nat, u = i ∧ i < L.length
theorem JT {s : Ls} {f : Nm → Int} {j : Nat} {p : Ph} (h : s.phrases[j]? = some p) : (s.nexts f).getD j [] = (p.its.strip.uses f).foldl AU [] := by
 unfold Ls.nexts; rw [List.getD_eq_getElem?_getD, List.getElem?_map, h]; rfl
theorem Lw {s : Ls} {f : Nm → Int} (hx : s.phrases.all (fun p => p.its.strip.exB) = true) (hr : Bf (s.nexts f) = []) (hu : KD s.itsL f) : LenOk s.phrases f (D7 (s.nexts f)) (C7 s.itsL f) := by
 have hex : ∀ p ∈ s.phrases, p.its.strip.exB = true := List.all_eq_true.1 hx
 have hexL : ∀ t ∈ s.itsL, t.exB = true := fun t ht => by
  obtain ⟨p, hp, rfl⟩ := List.mem_map.1 ht; exact hex p hp
 have hl : s.itsL.length = s.phrases.length := by simp [Ls.itsL]
 have hk : (s.nexts f).length = s.phrases.length := by simp [Ls.nexts]
 have hget : ∀ (j : Nat) (p : Ph), s.phrases[j]? = some p → s.itsL[j]? = some p.its.strip := fun j p h => by unfold Ls.itsL; rw [List.getElem?_map, h]; rfl
 have hdown : ∀ (j : Nat) (p : Ph), s.phrases[j]? = some p → ∀ u ∈ p.its.strip.uses f, ∃ i : Nat, u = i ∧ i < s.phrases.length ∧ D7 (s.nexts f) i < D7 (s.nexts f) j := fun j p h u hm => by
  obtain ⟨i, rfl, hi⟩ := hu _ (List.mem_of_getElem? (hget j p h)) u hm; rw [hl] at hi; have hj := (ql.1 h).1; refine ⟨i, rfl, hi, K6 hr (by rw [hk]; exact hj) (by rw [hk]; exact hi) ?_⟩; rw [JT h, Hj]; exact Or.inr hm
 have hdL : ∀ (j : Nat) (t : Its), s.itsL[j]? = some t → ∀ u ∈ t.uses f, ∃ i : Nat, u = i ∧ i < s.itsL.length ∧ D7 (s.nexts f) i < D7 (s.nexts f) j := fun j t h u hm => by
  have hj := (ql.1 h).1; obtain ⟨p, hp⟩ : ∃ p, s.phrases[j]? = some p := ⟨_, qg (by rw [← hl]; exact hj)⟩; have := hget j p hp; rw [h] at this; cases this; rw [hl]; exact hdown j p hp u hm
 refine ⟨fun j p h => hex p (List.mem_of_getElem? h), fun j p h => ?_, fun j _ => Fm hexL _ _, hdown⟩; have hj := (ql.1 h).1
 have hrl : ∀ i, i < s.phrases.length → D7 (s.nexts f) i < s.phrases.length := fun i hi => by
  have := MR hr (j := i) (by rw [hk]; exact hi)
  rwa [hk] at this
 unfold C7; obtain ⟨e, he⟩ : ∃ e, s.itsL.length = e + 1 := ⟨s.itsL.length - 1, by omega⟩; rw [he, E7 (hget j p h)]; refine Its.sumF_congr f _ _ _ 0 (fun u hm => ?_); obtain ⟨i, rfl, hi, hri⟩ := hdown j p h u hm; have := hrl j hj; exact JO hdL _ i e (e + 1) (qn _) (by omega) (by omega) (by omega)
end
end Go.Proofs.Ytpnbpepkoekkoaa

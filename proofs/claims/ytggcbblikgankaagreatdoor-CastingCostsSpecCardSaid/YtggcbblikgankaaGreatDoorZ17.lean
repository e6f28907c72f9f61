/- Contracts and plain laws on the way to the statement: part 17. -/
import Derived.Test.YtggcbblikgankaaGreatDoorZ16
import Derived.Test.YtggcbblikgankaaGreatDoorZ3
set_option linter.unusedVariables false
set_option linter.unusedSimpArgs false
set_option maxRecDepth 100000
set_option maxHeartbeats 16000000
namespace Go.Proofs.YtggcbblikgankaaGreatDoor
open Go.Value (int)
open Go.IntKind (i64)
section
open Go.RowKit
def Cl (p : Pau) : List Value := [int i64 p.bar, int i64 p.kind, int i64 p.lo, int i64 p.hi]
def Ck (s : Con) : List Value := [int i64 s.frm, int i64 s.to, int i64 s.lo, int i64 s.hi]
theorem atP {w : World} {b o i : Nat} {ts : List Pau} {t : Pau} (h : AtRow Cl 4 w b o ts) (ht : ts[i]? = some t) :
  w.cell? ⟨b, o + i * 4, none⟩ = some (int i64 t.bar) ∧ w.cell? ⟨b, o + i * 4 + 1, none⟩ = some (int i64 t.kind) ∧ w.cell? ⟨b, o + i * 4 + 2, none⟩ = some (int i64 t.lo) ∧ w.cell? ⟨b, o + i * 4 + 3, none⟩ = some (int i64 t.hi) :=
 ⟨h i t ht 0 _ rfl, h i t ht 1 _ rfl, h i t ht 2 _ rfl, h i t ht 3 _ rfl⟩
theorem atC {w : World} {b o i : Nat} {ts : List Con} {t : Con} (h : AtRow Ck 4 w b o ts) (ht : ts[i]? = some t) :
  w.cell? ⟨b, o + i * 4, none⟩ = some (int i64 t.frm) ∧ w.cell? ⟨b, o + i * 4 + 1, none⟩ = some (int i64 t.to) ∧ w.cell? ⟨b, o + i * 4 + 2, none⟩ = some (int i64 t.lo) ∧ w.cell? ⟨b, o + i * 4 + 3, none⟩ = some (int i64 t.hi) :=
 ⟨h i t ht 0 _ rfl, h i t ht 1 _ rfl, h i t ht 2 _ rfl, h i t ht 3 _ rfl⟩
def C7 (c : Clk) : Ending := if BP c = 0 then .returned (.tuple #[]) else A9 (BP c)
theorem GI {c : Clk} (h : BT c = false) : A9 2 = C7 c := by unfold C7 BP; rw [h]; rfl
theorem Al {c : Clk} (h1 : BT c = true) (h : DB c = false) : A9 130 = C7 c := by unfold C7 BP; rw [h1, h]; rfl
theorem QD {c : Clk} (h1 : BT c = true) (h : DB c = true) : Ending.returned (.tuple #[]) = C7 c := by unfold C7 BP; rw [h1, h]; rfl
theorem Dw {c : Clk} (h : Bv c = false) : DB c = false := by unfold DB; rw [h]; rfl
theorem DI {c : Clk} (h : AK c.bars (-1) c.tempos = false) : DB c = false := by unfold DB; rw [h]; simp
theorem IW {c : Clk} (h : BE c.tempos c.bars.toNat = false) : DB c = false := by unfold DB; rw [h]; simp
theorem CQ {c : Clk} (h : AW c.bars (-1) c.pauses = false) : DB c = false := by unfold DB; rw [h]; simp
theorem BY {c : Clk} (h : c.spans.all (C9 c.bars) = false) : DB c = false := by unfold DB; rw [h]; simp
theorem Qx {c : Clk} (h1 : Bv c = true) (h2 : AK c.bars (-1) c.tempos = true) (h3 : BE c.tempos c.bars.toNat = true) (h4 : AW c.bars (-1) c.pauses = true) (h5 : c.spans.all (C9 c.bars) = true) : DB c = true := by
 unfold DB; rw [h1, h2, h3, h4, h5]; rfl
theorem Fy {l : List Tmp} {k n : Nat} (h : BE l (k + 1) = false) (hk : k + 1 ≤ n) : BE l n = false := by
 induction n with
 | zero => omega
 | succ n ih =>
  rcases Nat.lt_or_ge n (k + 1) with h1 | h1
  ·have : n = k := by omega
   subst this; exact h
  ·unfold BE; rw [ih h1]; rfl
theorem Dp {l : List Tmp} {k : Nat} {b : Bool} (h : BE l k = true) (hb : inB (AH l k) 1 65536 = b) : BE l (k + 1) = b := by
 unfold BE; rw [h, hb]; rfl
theorem Ab {α : Type} {l : List α} {k : Nat} {x : α} (h : l[k]? = some x) : l.drop k = x :: l.drop (k + 1) := by
 obtain ⟨h1, h2⟩ := ql.1 h
 rw [← h2]; exact List.drop_eq_getElem_cons h1
theorem Cj {bars : Int} : ∀ {l : List Tmp} {last : Int}, AK bars last l = true → C0 l ∧ ∀ t ∈ l, last < t.bar ∧ t.bar ≤ bars - 1 ∧ -65536 ≤ t.ticks ∧ t.ticks ≤ 65536 ∧ -65536 ≤ t.step ∧ t.step ≤ 65536
 | [], _, _ => ⟨List.Pairwise.nil, fun _ h => by cases h⟩
 | t :: r, last, h => by
  unfold AK IQ at h
  simp only [Bool.and_eq_true, A4] at h
  obtain ⟨⟨⟨h1, h2⟩, h3⟩, h4⟩ := h
  obtain ⟨i1, i2⟩ := Cj h4
  refine ⟨List.pairwise_cons.2 ⟨fun x hx => (i2 x hx).1, i1⟩, fun x hx => ?_⟩
  rcases List.mem_cons.1 hx with rfl | hx
  ·omega
  ·have := i2 x hx; omega
theorem FE {l : List Tmp} {t : Tmp} {bar : Int} (h : l[0]? = some t) (h0 : t.bar ≤ bar) : 0 < BO l bar := by
 unfold BO
 exact List.countP_pos_iff.2 ⟨t, List.mem_of_getElem? h, by simpa using h0⟩
theorem KR {c : Clk} {t : Tmp} (h : c.tempos[0]? = some t) (hb : ¬ t.bar = 0) : Bv c = false := by
 unfold Bv
 cases hc : c.tempos with
 | nil => simp
 | cons a r => rw [hc] at h; simp at h; subst h; simp [hb]
theorem NJ {c : Clk} {t : Tmp} (h1 : inB c.bars 1 4096 = true) (h : c.tempos[0]? = some t) (hb : t.bar = 0) : Bv c = true := by
 unfold Bv
 rw [h1]
 cases hc : c.tempos with
 | nil => rw [hc] at h; simp at h
 | cons a r => rw [hc] at h; simp at h; subst h; simp [hb]
theorem EH {c : Clk} (h : 4096 < c.tempos.length ∨ 4096 < c.pauses.length ∨ 256 < c.spans.length) : BT c = false := by
 unfold BT
 rcases h with h | h | h
 ·rw [decide_eq_false (by omega : ¬ c.tempos.length ≤ 4096)]; rfl
 ·rw [decide_eq_false (by omega : ¬ c.pauses.length ≤ 4096)]; simp
 ·rw [decide_eq_false (by omega : ¬ c.spans.length ≤ 256)]; simp
theorem KM {c : Clk} (h1 : c.tempos.length ≤ 4096) (h2 : c.pauses.length ≤ 4096) (h3 : c.spans.length ≤ 256) : BT c = true := by
 unfold BT; rw [decide_eq_true h1, decide_eq_true h2, decide_eq_true h3]; rfl
theorem IC (bars : Int) (aT aP aS : Option Addr) (cT cP cS : Nat) (ts : List Tmp) (ps : List Pau) (ss : List Con) (w : World)
  (hT : IsRow Bq 3 w (.slice aT ts.length cT) ts) (hP : IsRow Cl 4 w (.slice aP ps.length cP) ps) (hS : IsRow Ck 4 w (.slice aS ss.length cS) ss) (hTP : ts.length < ps.length) (hbig : 4096 < ps.length) :
  Calls Tryz.prog 113 #[.agg #[int i64 bars, .slice aT ts.length cT, .slice aP ps.length cP, .slice aS ss.length cS]] w fun e w' => e = C7 ⟨bars, ts, ps, ss⟩ ∧ Below w.heap.size w w' := by
 generalize hclk : (⟨bars, ts, ps, ss⟩ : Clk) = clk
 have k1 : clk.bars = bars := by rw [← hclk]
 have k2 : clk.tempos = ts := by rw [← hclk]
 have k3 : clk.pauses = ps := by rw [← hclk]
 have k4 : clk.spans = ss := by rw [← hclk]
 have K1 := qh k1; have K2 := qh k2; have K3 := qh k3; have K4 := qh k4
 clear hclk k1 k2 k3 k4
 obtain ⟨_, _, _, lT, _⟩ := id hT
 obtain ⟨_, _, _, lP, _⟩ := id hP
 obtain ⟨_, _, _, lS, _⟩ := id hS
 unfold maxLen at lT lP lS
 have HT := qh hT; have HP := qh hP; have HS := qh hS
 clear hT hP hS
 generalize hnT : ts.length = nT at *
 generalize hnP : ps.length = nP at *
 generalize hnS : ss.length = nS at *
 have NT := qh hnT; have NP := qh hnP; have NS := qh hnS
 clear hnT hnP hnS
 have b0 : Below w.heap.size w (w.alloc (.cells #[int i64 bars, .slice aT nT cT, .slice aP nP cP, .slice aS nS cS] 29)) := (Below.refl _ w).alloc (qn _) _
 have g0 := heap_alloc_new w (.cells #[int i64 bars, .slice aT nT cT, .slice aP nP cP, .slice aS nS cS] 29)
 have hz0 : w.heap.size < (w.alloc (.cells #[int i64 bars, .slice aT nT cT, .slice aP nP cP, .slice aS nS cS] 29)).heap.size := by simp
 go_enter Tryz.func113, Tryz.ntmps113
 go_wp2_with fail
 generalize w.alloc (.cells #[int i64 bars, .slice aT nT cT, .slice aP nP cP, .slice aS nS cS] 29) = w0 at *
 have HB := qh b0; have G0 := qh g0
 clear b0
 have c0 : w0.cell? ⟨w.heap.size, 0, none⟩ = some (int i64 bars) := A0 g0 0 rfl
 have c1 : w0.cell? ⟨w.heap.size, 1, none⟩ = some (.slice aT nT cT) := A0 g0 1 rfl
 have c2 : w0.cell? ⟨w.heap.size, 2, none⟩ = some (.slice aP nP cP) := A0 g0 2 rfl
 have c3 : w0.cell? ⟨w.heap.size, 3, none⟩ = some (.slice aS nS cS) := A0 g0 3 rfl
 clear g0
 refine (Ae 2 _).mono ?_
 rintro e w' ⟨rfl, rfl⟩
 unfold A9
 go_wp2_with fail
 exact ⟨rfl, GI (EH (by rw [K2.out, K3.out, K4.out, NT.out, NP.out, NS.out]; omega)), HB.out⟩
theorem Hw (bars : Int) (aT aP aS : Option Addr) (cT cP cS : Nat) (ts : List Tmp) (ps : List Pau) (ss : List Con) (w : World)
  (hT : IsRow Bq 3 w (.slice aT ts.length cT) ts) (hP : IsRow Cl 4 w (.slice aP ps.length cP) ps) (hS : IsRow Ck 4 w (.slice aS ss.length cS) ss) (hTP : ts.length < ps.length) (hok : ps.length ≤ 4096) (hbig : 256 < ss.length) :
  Calls Tryz.prog 113 #[.agg #[int i64 bars, .slice aT ts.length cT, .slice aP ps.length cP, .slice aS ss.length cS]] w fun e w' => e = C7 ⟨bars, ts, ps, ss⟩ ∧ Below w.heap.size w w' := by
 generalize hclk : (⟨bars, ts, ps, ss⟩ : Clk) = clk
 have k1 : clk.bars = bars := by rw [← hclk]
 have k2 : clk.tempos = ts := by rw [← hclk]
 have k3 : clk.pauses = ps := by rw [← hclk]
 have k4 : clk.spans = ss := by rw [← hclk]
 have K1 := qh k1; have K2 := qh k2; have K3 := qh k3; have K4 := qh k4
 clear hclk k1 k2 k3 k4
 obtain ⟨_, _, _, lT, _⟩ := id hT
 obtain ⟨_, _, _, lP, _⟩ := id hP
 obtain ⟨_, _, _, lS, _⟩ := id hS
 unfold maxLen at lT lP lS
 have HT := qh hT; have HP := qh hP; have HS := qh hS
 clear hT hP hS
 generalize hnT : ts.length = nT at *
 generalize hnP : ps.length = nP at *
 generalize hnS : ss.length = nS at *
 have NT := qh hnT; have NP := qh hnP; have NS := qh hnS
 clear hnT hnP hnS
 have b0 : Below w.heap.size w (w.alloc (.cells #[int i64 bars, .slice aT nT cT, .slice aP nP cP, .slice aS nS cS] 29)) := (Below.refl _ w).alloc (qn _) _
 have g0 := heap_alloc_new w (.cells #[int i64 bars, .slice aT nT cT, .slice aP nP cP, .slice aS nS cS] 29)
 have hz0 : w.heap.size < (w.alloc (.cells #[int i64 bars, .slice aT nT cT, .slice aP nP cP, .slice aS nS cS] 29)).heap.size := by simp
 have fS : decide ((nS : Int) ≤ 256) = false := by simpa using by omega
 have fM : ((nP : Nat) : Int) ≤ 4096 := by omega
 go_enter Tryz.func113, Tryz.ntmps113
 go_wp2_with fail
 generalize w.alloc (.cells #[int i64 bars, .slice aT nT cT, .slice aP nP cP, .slice aS nS cS] 29) = w0 at *
 have HB := qh b0; have G0 := qh g0
 clear b0
 have c0 : w0.cell? ⟨w.heap.size, 0, none⟩ = some (int i64 bars) := A0 g0 0 rfl
 have c1 : w0.cell? ⟨w.heap.size, 1, none⟩ = some (.slice aT nT cT) := A0 g0 1 rfl
 have c2 : w0.cell? ⟨w.heap.size, 2, none⟩ = some (.slice aP nP cP) := A0 g0 2 rfl
 have c3 : w0.cell? ⟨w.heap.size, 3, none⟩ = some (.slice aS nS cS) := A0 g0 3 rfl
 clear g0
 refine (Ae 2 _).mono ?_
 rintro e w' ⟨rfl, rfl⟩
 unfold A9
 go_wp2_with fail
 exact ⟨rfl, GI (EH (by rw [K2.out, K3.out, K4.out, NT.out, NP.out, NS.out]; omega)), HB.out⟩
theorem Ha (bars : Int) (aT aP aS : Option Addr) (cT cP cS : Nat) (ts : List Tmp) (ps : List Pau) (ss : List Con) (w : World)
  (hT : IsRow Bq 3 w (.slice aT ts.length cT) ts) (hP : IsRow Cl 4 w (.slice aP ps.length cP) ps) (hS : IsRow Ck 4 w (.slice aS ss.length cS) ss) (hTP : ts.length < ps.length) (hok : ps.length ≤ 4096) (hok2 : ss.length ≤ 256) :
  Calls Tryz.prog 113 #[.agg #[int i64 bars, .slice aT ts.length cT, .slice aP ps.length cP, .slice aS ss.length cS]] w fun e w' => e = C7 ⟨bars, ts, ps, ss⟩ ∧ Below w.heap.size w w' := by
 generalize hclk : (⟨bars, ts, ps, ss⟩ : Clk) = clk
 have k1 : clk.bars = bars := by rw [← hclk]
 have k2 : clk.tempos = ts := by rw [← hclk]
 have k3 : clk.pauses = ps := by rw [← hclk]
 have k4 : clk.spans = ss := by rw [← hclk]
 have K1 := qh k1; have K2 := qh k2; have K3 := qh k3; have K4 := qh k4
 clear hclk k1 k2 k3 k4
 obtain ⟨_, _, _, lT, _⟩ := id hT
 obtain ⟨_, _, _, lP, _⟩ := id hP
 obtain ⟨_, _, _, lS, _⟩ := id hS
 unfold maxLen at lT lP lS
 have HT := qh hT; have HP := qh hP; have HS := qh hS
 clear hT hP hS
 generalize hnT : ts.length = nT at *
 generalize hnP : ps.length = nP at *
 generalize hnS : ss.length = nS at *
 have NT := qh hnT; have NP := qh hnP; have NS := qh hnS
 clear hnT hnP hnS
 have b0 : Below w.heap.size w (w.alloc (.cells #[int i64 bars, .slice aT nT cT, .slice aP nP cP, .slice aS nS cS] 29)) := (Below.refl _ w).alloc (qn _) _
 have g0 := heap_alloc_new w (.cells #[int i64 bars, .slice aT nT cT, .slice aP nP cP, .slice aS nS cS] 29)
 have hz0 : w.heap.size < (w.alloc (.cells #[int i64 bars, .slice aT nT cT, .slice aP nP cP, .slice aS nS cS] 29)).heap.size := by simp
 have fS : decide ((nS : Int) ≤ 256) = true := by simpa using by omega
 have fM : ((nP : Nat) : Int) ≤ 4096 := by omega
 have LIM : Hid (BT clk = true) := qh (KM (by rw [K2.out, NT.out]; omega) (by rw [K3.out, NP.out]; omega) (by rw [K4.out, NS.out]; omega))
 go_enter Tryz.func113, Tryz.ntmps113
 go_wp2_with fail
 generalize w.alloc (.cells #[int i64 bars, .slice aT nT cT, .slice aP nP cP, .slice aS nS cS] 29) = w0 at *
 have HB := qh b0; have G0 := qh g0
 clear b0
 have c0 : w0.cell? ⟨w.heap.size, 0, none⟩ = some (int i64 bars) := A0 g0 0 rfl
 have c1 : w0.cell? ⟨w.heap.size, 1, none⟩ = some (.slice aT nT cT) := A0 g0 1 rfl
 have c2 : w0.cell? ⟨w.heap.size, 2, none⟩ = some (.slice aP nP cP) := A0 g0 2 rfl
 have c3 : w0.cell? ⟨w.heap.size, 3, none⟩ = some (.slice aS nS cS) := A0 g0 3 rfl
 clear g0
 refine (C1 2 _).mono ?_
 rintro e w' ⟨rfl, rfl⟩
 clear fS fM
 go_wp2_with fail
 refine (Az bars 1 4096 _).mono ?_
 rintro e w' ⟨rfl, rfl⟩
 cases h1 : inB bars 1 4096 with
 | false =>
  go_wp2_with fail
  refine (Ae 130 _).mono ?_
  rintro e w' ⟨rfl, rfl⟩
  unfold A9
  go_wp2_with fail
  exact ⟨rfl, Al LIM.out (Dw (by unfold Bv; rw [K1.out, h1]; rfl)), HB.out⟩
 | true =>
  have H1 := qh h1
  obtain ⟨h1a, h1b⟩ := A4.1 h1
  clear h1
  obtain ⟨B, hB⟩ : ∃ B : Nat, bars = (B : Int) := ⟨bars.toNat, by omega⟩
  subst hB
  have hBl : B ≤ 4096 := by omega
  have hBp : 1 ≤ B := by omega
  clear h1a h1b
  by_cases hne : 0 < nT
  rotate_left
  ·have f0 : ¬ (0 : Int) < (nT : Int) := by omega
   have he : ts = [] := List.length_eq_zero_iff.1 (by rw [NT.out]; omega)
   go_wp2_with fail
   refine (Ae 130 _).mono ?_
   rintro e w' ⟨rfl, rfl⟩
   unfold A9
   go_wp2_with fail
   exact ⟨rfl, Al LIM.out (Dw (by unfold Bv; rw [K1.out, K2.out, he]; simp)), HB.out⟩
  obtain ⟨t0, ht0⟩ : ∃ t, ts[0]? = some t := ⟨_, qg (by rw [NT.out]; exact hne)⟩
  obtain ⟨b, o, hao, hat, hlt⟩ := HT.out.block ht0
  subst hao
  have HAT := qh hat; clear hat
  have hne' : (0 : Int) < (nT : Int) := by omega
  have p0 : w0.cell? ⟨b, o, none⟩ = some (int i64 t0.bar) := by
   have := (atT (HAT.out.below HB.out hlt) ht0).1; simpa using this
  have HT0 := qh ht0; clear ht0
  by_cases h0 : t0.bar = 0
  rotate_left
  ·have f0 : (t0.bar == 0) = false := by simpa using h0
   have HH := qh h0; clear h0
   go_wp2_with fail
   refine (Ae 130 _).mono ?_
   rintro e w' ⟨rfl, rfl⟩
   unfold A9
   go_wp2_with fail
   exact ⟨rfl, Al LIM.out (Dw (KR (by rw [K2.out]; exact HT0.out) HH.out)), HB.out⟩
  have f0 : (t0.bar == 0) = true := by simpa using h0
  have HH := qh h0; clear h0
  have HEAD : Hid (Bv clk = true) := qh (NJ (by rw [K1.out]; exact H1.out) (by rw [K2.out]; exact HT0.out) HH.out)
  go_wp2_with fail
  refine (C1 130 _).mono ?_
  rintro e w' ⟨rfl, rfl⟩
  clear f0 p0
  go_wp2_with fail
  clear c0 c1 c2 c3
  go_loopw [2, 46] (fun lv iv wr => ∃ (k : Nat) (last : Int), k ≤ nT ∧ iv = int i64 k ∧ lv = int i64 last ∧ -1 ≤ last ∧ last ≤ 4096 ∧ Hid (AK B (-1) ts = AK B last (ts.drop k)) ∧ w.heap.size < wr.heap.size ∧ Hid (wr.heap[w.heap.size]? = some (.cells #[int i64 (B : Int), .slice (some ⟨b, o, none⟩) nT cT, .slice aP nP cP, .slice aS nS cS] 29 (0, 0))) ∧ Hid (Below w.heap.size w wr)) (fun _ iv _ => nT - (intOf iv).toNat)
  case atStart => exact ⟨0, -1, Nat.zero_le _, rfl, rfl, by omega, by omega, qh rfl, hz0, G0, HB⟩
  case round =>
   clear HB G0 hz0
   obtain ⟨k, last, hk, rfl, rfl, hl1, hl2, htm, hsz, hbx, hbw⟩ := hrel
   by_cases hkn : k < nT
   ·obtain ⟨t, ht⟩ : ∃ t, ts[k]? = some t := ⟨_, qg (by rw [NT.out]; exact hkn)⟩
    obtain ⟨p0, p1, p2⟩ := atT (HAT.out.below hbw.out hlt) ht
    have hbs : b < wr.heap.size := by have := hbw.out.size; omega
    have HTt := qh ht; clear ht
    have hkn' : (k : Int) < (nT : Int) := by omega
    have c0 : wr.cell? ⟨w.heap.size, 0, none⟩ = some (int i64 (B : Int)) := A0 hbx.out 0 rfl
    have x0 := (Below.heap_alloc wr (.cells #[int i64 t.bar, int i64 t.ticks, int i64 t.step] 88) w.heap.size hsz).trans hbx.out
    have x2 := heap_alloc_new wr (.cells #[int i64 t.bar, int i64 t.ticks, int i64 t.step] 88)
    have x3 : Below w.heap.size w (wr.alloc (.cells #[int i64 t.bar, int i64 t.ticks, int i64 t.step] 88)) := hbw.out.alloc (by omega) _
    have x4 : w.heap.size < (wr.alloc (.cells #[int i64 t.bar, int i64 t.ticks, int i64 t.step] 88)).heap.size := by simp; omega
    have X0 := qh x0; have X2 := qh x2; have HB5 := qh x3
    clear x0 x2 x3
    go_wp2_with fail
    generalize wr.alloc (.cells #[int i64 t.bar, int i64 t.ticks, int i64 t.step] 88) = w5 at *
    generalize wr.heap.size = gw at *
    clear c0 p0 p1 p2
    have c0 : w5.cell? ⟨w.heap.size, 0, none⟩ = some (int i64 (B : Int)) := A0 X0.out 0 rfl
    have l0 : w5.cell? ⟨gw, 0, none⟩ = some (int i64 t.bar) := A0 X2.out 0 rfl
    have l1 : w5.cell? ⟨gw, 1, none⟩ = some (int i64 t.ticks) := A0 X2.out 1 rfl
    have l2 : w5.cell? ⟨gw, 2, none⟩ = some (int i64 t.step) := A0 X2.out 2 rfl
    clear X2 hbx hbw
    refine (Az t.bar (last + 1) ((B : Int) - 1) _).mono ?_
    rintro e w' ⟨rfl, rfl⟩
    cases q0 : inB t.bar (last + 1) ((B : Int) - 1) with
    | false =>
     go_wp2_with fail
     refine (Ae 130 _).mono ?_
     rintro e w' ⟨rfl, rfl⟩
     unfold A9
     go_wp2_with fail
     exact ⟨rfl, Al LIM.out (DI (by rw [K1.out, K2.out, htm.out, Ab HTt.out]; simp [AK, IQ, q0])), HB5.out⟩
    | true =>
     have Q0 := qh q0; clear q0
     go_wp2_with fail
     refine (Az t.ticks (-65536) 65536 _).mono ?_
     rintro e w' ⟨rfl, rfl⟩
     cases q1 : inB t.ticks (-65536) 65536 with
     | false =>
      go_wp2_with fail
      refine (Ae 130 _).mono ?_
      rintro e w' ⟨rfl, rfl⟩
      unfold A9
      go_wp2_with fail
      exact ⟨rfl, Al LIM.out (DI (by rw [K1.out, K2.out, htm.out, Ab HTt.out]; simp [AK, IQ, Q0.out, q1])), HB5.out⟩
     | true =>
      have Q1 := qh q1; clear q1
      go_wp2_with fail
      refine (Az t.step (-65536) 65536 _).mono ?_
      rintro e w' ⟨rfl, rfl⟩
      cases q2 : inB t.step (-65536) 65536 with
      | false =>
       go_wp2_with fail
       refine (Ae 130 _).mono ?_
       rintro e w' ⟨rfl, rfl⟩
       unfold A9
       go_wp2_with fail
       exact ⟨rfl, Al LIM.out (DI (by rw [K1.out, K2.out, htm.out, Ab HTt.out]; simp [AK, IQ, Q0.out, Q1.out, q2])), HB5.out⟩
      | true =>
       have Q2 := qh q2; clear q2
       go_wp2_with fail
       refine (C1 130 _).mono ?_
       rintro e w' ⟨rfl, rfl⟩
       go_wp2_with fail
       go_roundw
       case rel => exact ⟨k + 1, t.bar, by omega, by go_num, rfl, by have := A4.1 Q0.out; omega, by have := A4.1 Q0.out; omega, qh (by rw [htm.out, Ab HTt.out]; simp [AK, IQ, Q0.out, Q1.out, Q2.out]), x4, X0, HB5⟩
       case measure => simp [intOf]; omega
   ·obtain rfl : nT = k := by omega
    have hin : ¬ (nT : Int) < (nT : Int) := by omega
    have TM : Hid (AK B (-1) ts = true) := qh (by rw [htm.out, List.drop_of_length_le (by rw [NT.out]; exact qn _)]; rfl)
    clear htm hl1 hl2
    have ⟨hso, hall⟩ := Cj TM.out
    have NW : Hid (∀ j : Nat, j < B → GW ts j) := qh (fun j hj => ⟨hso, FE HT0.out (by rw [HH.out]; omega), by omega, by omega, fun t ht => by have := hall t ht; omega⟩)
    clear hso hall
    have c0 : wr.cell? ⟨w.heap.size, 0, none⟩ = some (int i64 (B : Int)) := A0 hbx.out 0 rfl
    go_wp2_with fail
    clear c0 hin
    go_loopw [74] (fun iv wr => ∃ j : Nat, j ≤ B ∧ iv = int i64 j ∧ Hid (BE ts j = true) ∧ w.heap.size < wr.heap.size ∧ Hid (wr.heap[w.heap.size]? = some (.cells #[int i64 (B : Int), .slice (some ⟨b, o, none⟩) nT cT, .slice aP nP cP, .slice aS nS cS] 29 (0, 0))) ∧ Hid (Below w.heap.size w wr)) (fun iv _ => B - (intOf iv).toNat)
    case atStart => exact ⟨0, Nat.zero_le _, rfl, qh rfl, hsz, hbx, hbw⟩
    case round =>
     clear hbx hbw hsz
     obtain ⟨j, hj, rfl, htk, hsz, hbx, hbw⟩ := hrel
     by_cases hjB : j < B
     ·have hjB' : (j : Int) < (B : Int) := by omega
      have c0 : wr.cell? ⟨w.heap.size, 0, none⟩ = some (int i64 (B : Int)) := A0 hbx.out 0 rfl
      have c1 : wr.cell? ⟨w.heap.size, 1, none⟩ = some (.slice (some ⟨b, o, none⟩) nT cT) := A0 hbx.out 1 rfl
      have c2 : wr.cell? ⟨w.heap.size, 2, none⟩ = some (.slice aP nP cP) := A0 hbx.out 2 rfl
      have c3 : wr.cell? ⟨w.heap.size, 3, none⟩ = some (.slice aS nS cS) := A0 hbx.out 3 rfl
      go_wp2_with fail
      refine (J7 B j b o nT cT (.slice aP nP cP) (.slice aS nS cS) ts wr NT.out (by omega) (HAT.out.below hbw.out hlt) (by have := hbw.out.size; omega) (NW.out j hjB)).mono ?_
      rintro e w5 ⟨rfl, b5⟩
      have hz5 := b5.size
      have x0 := (b5.block _ hsz).trans hbx.out
      have HB5 := qh (hbw.out.trans (b5.mono (by omega)))
      have X0 := qh x0
      have hsz5 : w.heap.size < w5.heap.size := by omega
      clear x0 b5 c0 c1 c2 c3 hbx hbw hz5
      generalize hg : AH ts j = g
      have HG := qh hg; clear hg
      go_wp2_with fail
      refine (Az g 1 65536 _).mono ?_
      rintro e w' ⟨rfl, rfl⟩
      cases h2 : inB g 1 65536 with
      | false =>
       go_wp2_with fail
       refine (Ae 130 _).mono ?_
       rintro e w' ⟨rfl, rfl⟩
       unfold A9
       go_wp2_with fail
       exact ⟨rfl, Al LIM.out (IW (by rw [K2.out, K1.out, Int.toNat_natCast]; exact Fy (Dp htk.out (by rw [HG.out]; exact h2)) (by omega))), HB5.out⟩
      | true =>
       have H2 := qh h2; clear h2
       go_wp2_with fail
       refine (C1 130 _).mono ?_
       rintro e w' ⟨rfl, rfl⟩
       go_wp2_with fail
       go_roundw
       case rel => exact ⟨j + 1, by omega, by go_num, qh (Dp htk.out (by rw [HG.out]; exact H2.out)), hsz5, X0, HB5⟩
       case measure => simp [intOf]; omega
     ·obtain rfl : B = j := by omega
      have hin : ¬ (B : Int) < (B : Int) := by omega
      have c2 : wr.cell? ⟨w.heap.size, 2, none⟩ = some (.slice aP nP cP) := A0 hbx.out 2 rfl
      go_wp2_with fail
      clear c2 hin
      go_loopw [2, 86] (fun lv iv wr => ∃ (i : Nat) (last : Int), i ≤ nP ∧ iv = int i64 i ∧ lv = int i64 last ∧ -1 ≤ last ∧ last ≤ 4096 ∧ Hid (AW B (-1) ps = AW B last (ps.drop i)) ∧ w.heap.size < wr.heap.size ∧ Hid (wr.heap[w.heap.size]? = some (.cells #[int i64 (B : Int), .slice (some ⟨b, o, none⟩) nT cT, .slice aP nP cP, .slice aS nS cS] 29 (0, 0))) ∧ Hid (Below w.heap.size w wr)) (fun _ iv _ => nP - (intOf iv).toNat)
      case atStart => exact ⟨0, -1, Nat.zero_le _, rfl, rfl, by omega, by omega, qh rfl, hsz, hbx, hbw⟩
      case round =>
       clear hsz hbx hbw
       obtain ⟨i, last, hi, rfl, rfl, hl1, hl2, htm, hsz, hbx, hbw⟩ := hrel
       by_cases hkn : i < nP
       ·obtain ⟨t, ht⟩ : ∃ t, ps[i]? = some t := ⟨_, qg (by rw [NP.out]; exact hkn)⟩
        obtain ⟨bp, op, hap, hatp, hltp⟩ := HP.out.block ht
        subst hap
        obtain ⟨p0, p1, p2, p3⟩ := atP (hatp.below hbw.out hltp) ht
        have hbs : bp < wr.heap.size := by have := hbw.out.size; omega
        clear hatp
        have HTt := qh ht; clear ht
        have hkn' : (i : Int) < (nP : Int) := by omega
        have c0 : wr.cell? ⟨w.heap.size, 0, none⟩ = some (int i64 (B : Int)) := A0 hbx.out 0 rfl
        have x0 := (Below.heap_alloc wr (.cells #[int i64 t.bar, int i64 t.kind, int i64 t.lo, int i64 t.hi] 171) w.heap.size hsz).trans hbx.out
        have x2 := heap_alloc_new wr (.cells #[int i64 t.bar, int i64 t.kind, int i64 t.lo, int i64 t.hi] 171)
        have x3 : Below w.heap.size w (wr.alloc (.cells #[int i64 t.bar, int i64 t.kind, int i64 t.lo, int i64 t.hi] 171)) := hbw.out.alloc (by omega) _
        have x4 : w.heap.size < (wr.alloc (.cells #[int i64 t.bar, int i64 t.kind, int i64 t.lo, int i64 t.hi] 171)).heap.size := by simp; omega
        have X0 := qh x0; have X2 := qh x2; have HB5 := qh x3
        clear x0 x2 x3
        go_wp2_with fail
        generalize wr.alloc (.cells #[int i64 t.bar, int i64 t.kind, int i64 t.lo, int i64 t.hi] 171) = w5 at *
        generalize wr.heap.size = gw at *
        clear c0 p0 p1 p2 p3
        have c0 : w5.cell? ⟨w.heap.size, 0, none⟩ = some (int i64 (B : Int)) := A0 X0.out 0 rfl
        have l0 : w5.cell? ⟨gw, 0, none⟩ = some (int i64 t.bar) := A0 X2.out 0 rfl
        have l1 : w5.cell? ⟨gw, 1, none⟩ = some (int i64 t.kind) := A0 X2.out 1 rfl
        have l2 : w5.cell? ⟨gw, 2, none⟩ = some (int i64 t.lo) := A0 X2.out 2 rfl
        have l3 : w5.cell? ⟨gw, 3, none⟩ = some (int i64 t.hi) := A0 X2.out 3 rfl
        clear X2 hbx hbw
        refine (Az t.bar (last + 1) ((B : Int) - 2) _).mono ?_
        rintro e w' ⟨rfl, rfl⟩
        cases q0 : inB t.bar (last + 1) ((B : Int) - 2) with
        | false =>
         go_wp2_with fail
         refine (Ae 130 _).mono ?_
         rintro e w' ⟨rfl, rfl⟩
         unfold A9
         go_wp2_with fail
         exact ⟨rfl, Al LIM.out (CQ (by rw [K1.out, K3.out, htm.out, Ab HTt.out]; simp [AW, Hz, q0])), HB5.out⟩
        | true =>
         have Q0 := qh q0; clear q0
         go_wp2_with fail
         refine (Az t.kind 1 2 _).mono ?_
         rintro e w' ⟨rfl, rfl⟩
         cases q1 : inB t.kind 1 2 with
         | false =>
          go_wp2_with fail
          refine (Ae 130 _).mono ?_
          rintro e w' ⟨rfl, rfl⟩
          unfold A9
          go_wp2_with fail
          exact ⟨rfl, Al LIM.out (CQ (by rw [K1.out, K3.out, htm.out, Ab HTt.out]; simp [AW, Hz, Q0.out, q1])), HB5.out⟩
         | true =>
          have Q1 := qh q1; clear q1
          go_wp2_with fail
          refine (Az t.lo 0 t.hi _).mono ?_
          rintro e w' ⟨rfl, rfl⟩
          cases q2 : inB t.lo 0 t.hi with
          | false =>
           go_wp2_with fail
           refine (Ae 130 _).mono ?_
           rintro e w' ⟨rfl, rfl⟩
           unfold A9
           go_wp2_with fail
           exact ⟨rfl, Al LIM.out (CQ (by rw [K1.out, K3.out, htm.out, Ab HTt.out]; simp [AW, Hz, Q0.out, Q1.out, q2])), HB5.out⟩
          | true =>
           have Q2 := qh q2; clear q2
           go_wp2_with fail
           cases q3 : decide (t.hi ≤ 1048576) with
           | false =>
            refine (Ae 130 _).mono ?_
            rintro e w' ⟨rfl, rfl⟩
            unfold A9
            go_wp2_with fail
            exact ⟨rfl, Al LIM.out (CQ (by rw [K1.out, K3.out, htm.out, Ab HTt.out]; simp [AW, Hz, Q0.out, Q1.out, Q2.out, of_decide_eq_false q3])), HB5.out⟩
           | true =>
            have Q3 := qh (of_decide_eq_true q3); clear q3
            refine (C1 130 _).mono ?_
            rintro e w' ⟨rfl, rfl⟩
            go_wp2_with fail
            go_roundw
            case rel => exact ⟨i + 1, t.bar, by omega, by go_num, rfl, by have := A4.1 Q0.out; omega, by have := A4.1 Q0.out; omega, qh (by rw [htm.out, Ab HTt.out]; simp [AW, Hz, Q0.out, Q1.out, Q2.out, Q3.out]), x4, X0, HB5⟩
            case measure => simp [intOf]; omega
       ·obtain rfl : nP = i := by omega
        have hin : ¬ (nP : Int) < (nP : Int) := by omega
        have PM : Hid (AW B (-1) ps = true) := qh (by rw [htm.out, List.drop_of_length_le (by rw [NP.out]; exact qn _)]; rfl)
        clear htm hl1 hl2
        have c3 : wr.cell? ⟨w.heap.size, 3, none⟩ = some (.slice aS nS cS) := A0 hbx.out 3 rfl
        go_wp2_with fail
        clear c3 hin
        go_loopw [122] (fun iv wr => ∃ i : Nat, i ≤ nS ∧ iv = int i64 i ∧ Hid (ss.all (C9 B) = (ss.drop i).all (C9 B)) ∧ w.heap.size < wr.heap.size ∧ Hid (wr.heap[w.heap.size]? = some (.cells #[int i64 (B : Int), .slice (some ⟨b, o, none⟩) nT cT, .slice aP nP cP, .slice aS nS cS] 29 (0, 0))) ∧ Hid (Below w.heap.size w wr)) (fun iv _ => nS - (intOf iv).toNat)
        case atStart => exact ⟨0, Nat.zero_le _, rfl, qh rfl, hsz, hbx, hbw⟩
        case round =>
         clear hsz hbx hbw
         obtain ⟨i, hi, rfl, htm, hsz, hbx, hbw⟩ := hrel
         by_cases hkn : i < nS
         ·obtain ⟨t, ht⟩ : ∃ t, ss[i]? = some t := ⟨_, qg (by rw [NS.out]; exact hkn)⟩
          obtain ⟨bp, op, hap, hatp, hltp⟩ := HS.out.block ht
          subst hap
          obtain ⟨p0, p1, p2, p3⟩ := atC (hatp.below hbw.out hltp) ht
          have hbs : bp < wr.heap.size := by have := hbw.out.size; omega
          clear hatp
          have HTt := qh ht; clear ht
          have hkn' : (i : Int) < (nS : Int) := by omega
          have c0 : wr.cell? ⟨w.heap.size, 0, none⟩ = some (int i64 (B : Int)) := A0 hbx.out 0 rfl
          have x0 := (Below.heap_alloc wr (.cells #[int i64 t.frm, int i64 t.to, int i64 t.lo, int i64 t.hi] 173) w.heap.size hsz).trans hbx.out
          have x2 := heap_alloc_new wr (.cells #[int i64 t.frm, int i64 t.to, int i64 t.lo, int i64 t.hi] 173)
          have x3 : Below w.heap.size w (wr.alloc (.cells #[int i64 t.frm, int i64 t.to, int i64 t.lo, int i64 t.hi] 173)) := hbw.out.alloc (by omega) _
          have x4 : w.heap.size < (wr.alloc (.cells #[int i64 t.frm, int i64 t.to, int i64 t.lo, int i64 t.hi] 173)).heap.size := by simp; omega
          have X0 := qh x0; have X2 := qh x2; have HB5 := qh x3
          clear x0 x2 x3
          go_wp2_with fail
          generalize wr.alloc (.cells #[int i64 t.frm, int i64 t.to, int i64 t.lo, int i64 t.hi] 173) = w5 at *
          generalize wr.heap.size = gw at *
          clear c0 p0 p1 p2 p3
          have c0 : w5.cell? ⟨w.heap.size, 0, none⟩ = some (int i64 (B : Int)) := A0 X0.out 0 rfl
          have l0 : w5.cell? ⟨gw, 0, none⟩ = some (int i64 t.frm) := A0 X2.out 0 rfl
          have l1 : w5.cell? ⟨gw, 1, none⟩ = some (int i64 t.to) := A0 X2.out 1 rfl
          have l2 : w5.cell? ⟨gw, 2, none⟩ = some (int i64 t.lo) := A0 X2.out 2 rfl
          have l3 : w5.cell? ⟨gw, 3, none⟩ = some (int i64 t.hi) := A0 X2.out 3 rfl
          clear X2 hbx hbw
          refine (Az t.frm 0 (B : Int) _).mono ?_
          rintro e w' ⟨rfl, rfl⟩
          cases q0 : inB t.frm 0 (B : Int) with
          | false =>
           go_wp2_with fail
           refine (Ae 130 _).mono ?_
           rintro e w' ⟨rfl, rfl⟩
           unfold A9
           go_wp2_with fail
           exact ⟨rfl, Al LIM.out (BY (by rw [K1.out, K4.out, htm.out, Ab HTt.out]; simp [C9, q0])), HB5.out⟩
          | true =>
           have Q0 := qh q0; clear q0
           go_wp2_with fail
           refine (Az t.to 0 (B : Int) _).mono ?_
           rintro e w' ⟨rfl, rfl⟩
           cases q1 : inB t.to 0 (B : Int) with
           | false =>
            go_wp2_with fail
            refine (Ae 130 _).mono ?_
            rintro e w' ⟨rfl, rfl⟩
            unfold A9
            go_wp2_with fail
            exact ⟨rfl, Al LIM.out (BY (by rw [K1.out, K4.out, htm.out, Ab HTt.out]; simp [C9, Q0.out, q1])), HB5.out⟩
           | true =>
            have Q1 := qh q1; clear q1
            by_cases q2 : t.frm = t.to
            ·have f2 : (t.frm != t.to) = false := by simpa using q2
             have Q2 := qh q2; clear q2
             go_wp2_with fail
             refine (Ae 130 _).mono ?_
             rintro e w' ⟨rfl, rfl⟩
             unfold A9
             go_wp2_with fail
             exact ⟨rfl, Al LIM.out (BY (by rw [K1.out, K4.out, htm.out, Ab HTt.out]; simp [C9, Q1.out, Q2.out])), HB5.out⟩
            have f2 : (t.frm != t.to) = true := by simpa using q2
            have Q2 := qh q2; clear q2
            go_wp2_with fail
            clear f2
            refine (Az t.lo (-1099511627776) t.hi _).mono ?_
            rintro e w' ⟨rfl, rfl⟩
            cases q3 : inB t.lo (-1099511627776) t.hi with
            | false =>
             go_wp2_with fail
             refine (Ae 130 _).mono ?_
             rintro e w' ⟨rfl, rfl⟩
             unfold A9
             go_wp2_with fail
             exact ⟨rfl, Al LIM.out (BY (by rw [K1.out, K4.out, htm.out, Ab HTt.out]; simp [C9, Q0.out, Q1.out, Q2.out, q3])), HB5.out⟩
            | true =>
             have Q3 := qh q3; clear q3
             go_wp2_with fail
             cases q4 : decide (t.hi ≤ 1099511627776) with
             | false =>
              refine (Ae 130 _).mono ?_
              rintro e w' ⟨rfl, rfl⟩
              unfold A9
              go_wp2_with fail
              exact ⟨rfl, Al LIM.out (BY (by rw [K1.out, K4.out, htm.out, Ab HTt.out]; simp [C9, Q0.out, Q1.out, Q2.out, Q3.out, of_decide_eq_false q4])), HB5.out⟩
             | true =>
              have Q4 := qh (of_decide_eq_true q4); clear q4
              refine (C1 130 _).mono ?_
              rintro e w' ⟨rfl, rfl⟩
              go_wp2_with fail
              go_roundw
              case rel => exact ⟨i + 1, by omega, by go_num, qh (by rw [htm.out, Ab HTt.out]; simp [C9, Q0.out, Q1.out, Q2.out, Q3.out, Q4.out]), x4, X0, HB5⟩
              case measure => simp [intOf]; omega
         ·obtain rfl : nS = i := by omega
          have hin : ¬ (nS : Int) < (nS : Int) := by omega
          have SM : Hid (ss.all (C9 B) = true) := qh (by rw [htm.out, List.drop_of_length_le (by rw [NS.out]; exact qn _)]; rfl)
          clear htm
          go_wp2_with fail
          go_end0
          exact ⟨QD LIM.out (Qx HEAD.out (by rw [K1.out, K2.out]; exact TM.out) (by rw [K1.out, K2.out, Int.toNat_natCast]; exact htk.out) (by rw [K1.out, K3.out]; exact PM.out) (by rw [K1.out, K4.out]; exact SM.out)), hbw.out⟩
theorem Ib (bars : Int) (aT aP aS : Option Addr) (cT cP cS : Nat) (ts : List Tmp) (ps : List Pau) (ss : List Con) (w : World)
  (hT : IsRow Bq 3 w (.slice aT ts.length cT) ts) (hP : IsRow Cl 4 w (.slice aP ps.length cP) ps) (hS : IsRow Ck 4 w (.slice aS ss.length cS) ss) (hTP : ps.length ≤ ts.length) (hbig : 4096 < ts.length) :
  Calls Tryz.prog 113 #[.agg #[int i64 bars, .slice aT ts.length cT, .slice aP ps.length cP, .slice aS ss.length cS]] w fun e w' => e = C7 ⟨bars, ts, ps, ss⟩ ∧ Below w.heap.size w w' := by
 generalize hclk : (⟨bars, ts, ps, ss⟩ : Clk) = clk
 have k1 : clk.bars = bars := by rw [← hclk]
 have k2 : clk.tempos = ts := by rw [← hclk]
 have k3 : clk.pauses = ps := by rw [← hclk]
 have k4 : clk.spans = ss := by rw [← hclk]
 have K1 := qh k1; have K2 := qh k2; have K3 := qh k3; have K4 := qh k4
 clear hclk k1 k2 k3 k4
 obtain ⟨_, _, _, lT, _⟩ := id hT
 obtain ⟨_, _, _, lP, _⟩ := id hP
 obtain ⟨_, _, _, lS, _⟩ := id hS
 unfold maxLen at lT lP lS
 have HT := qh hT; have HP := qh hP; have HS := qh hS
 clear hT hP hS
 generalize hnT : ts.length = nT at *
 generalize hnP : ps.length = nP at *
 generalize hnS : ss.length = nS at *
 have NT := qh hnT; have NP := qh hnP; have NS := qh hnS
 clear hnT hnP hnS
 have b0 : Below w.heap.size w (w.alloc (.cells #[int i64 bars, .slice aT nT cT, .slice aP nP cP, .slice aS nS cS] 29)) := (Below.refl _ w).alloc (qn _) _
 have g0 := heap_alloc_new w (.cells #[int i64 bars, .slice aT nT cT, .slice aP nP cP, .slice aS nS cS] 29)
 have hz0 : w.heap.size < (w.alloc (.cells #[int i64 bars, .slice aT nT cT, .slice aP nP cP, .slice aS nS cS] 29)).heap.size := by simp
 go_enter Tryz.func113, Tryz.ntmps113
 go_wp2_with fail
 generalize w.alloc (.cells #[int i64 bars, .slice aT nT cT, .slice aP nP cP, .slice aS nS cS] 29) = w0 at *
 have HB := qh b0; have G0 := qh g0
 clear b0
 have c0 : w0.cell? ⟨w.heap.size, 0, none⟩ = some (int i64 bars) := A0 g0 0 rfl
 have c1 : w0.cell? ⟨w.heap.size, 1, none⟩ = some (.slice aT nT cT) := A0 g0 1 rfl
 have c2 : w0.cell? ⟨w.heap.size, 2, none⟩ = some (.slice aP nP cP) := A0 g0 2 rfl
 have c3 : w0.cell? ⟨w.heap.size, 3, none⟩ = some (.slice aS nS cS) := A0 g0 3 rfl
 clear g0
 refine (Ae 2 _).mono ?_
 rintro e w' ⟨rfl, rfl⟩
 unfold A9
 go_wp2_with fail
 exact ⟨rfl, GI (EH (by rw [K2.out, K3.out, K4.out, NT.out, NP.out, NS.out]; omega)), HB.out⟩
theorem Hn (bars : Int) (aT aP aS : Option Addr) (cT cP cS : Nat) (ts : List Tmp) (ps : List Pau) (ss : List Con) (w : World)
  (hT : IsRow Bq 3 w (.slice aT ts.length cT) ts) (hP : IsRow Cl 4 w (.slice aP ps.length cP) ps) (hS : IsRow Ck 4 w (.slice aS ss.length cS) ss) (hTP : ps.length ≤ ts.length) (hok : ts.length ≤ 4096) (hbig : 256 < ss.length) :
  Calls Tryz.prog 113 #[.agg #[int i64 bars, .slice aT ts.length cT, .slice aP ps.length cP, .slice aS ss.length cS]] w fun e w' => e = C7 ⟨bars, ts, ps, ss⟩ ∧ Below w.heap.size w w' := by
 generalize hclk : (⟨bars, ts, ps, ss⟩ : Clk) = clk
 have k1 : clk.bars = bars := by rw [← hclk]
 have k2 : clk.tempos = ts := by rw [← hclk]
 have k3 : clk.pauses = ps := by rw [← hclk]
 have k4 : clk.spans = ss := by rw [← hclk]
 have K1 := qh k1; have K2 := qh k2; have K3 := qh k3; have K4 := qh k4
 clear hclk k1 k2 k3 k4
 obtain ⟨_, _, _, lT, _⟩ := id hT
 obtain ⟨_, _, _, lP, _⟩ := id hP
 obtain ⟨_, _, _, lS, _⟩ := id hS
 unfold maxLen at lT lP lS
 have HT := qh hT; have HP := qh hP; have HS := qh hS
 clear hT hP hS
 generalize hnT : ts.length = nT at *
 generalize hnP : ps.length = nP at *
 generalize hnS : ss.length = nS at *
 have NT := qh hnT; have NP := qh hnP; have NS := qh hnS
 clear hnT hnP hnS
 have b0 : Below w.heap.size w (w.alloc (.cells #[int i64 bars, .slice aT nT cT, .slice aP nP cP, .slice aS nS cS] 29)) := (Below.refl _ w).alloc (qn _) _
 have g0 := heap_alloc_new w (.cells #[int i64 bars, .slice aT nT cT, .slice aP nP cP, .slice aS nS cS] 29)
 have hz0 : w.heap.size < (w.alloc (.cells #[int i64 bars, .slice aT nT cT, .slice aP nP cP, .slice aS nS cS] 29)).heap.size := by simp
 have fS : decide ((nS : Int) ≤ 256) = false := by simpa using by omega
 have fM : ((nT : Nat) : Int) ≤ 4096 := by omega
 go_enter Tryz.func113, Tryz.ntmps113
 go_wp2_with fail
 generalize w.alloc (.cells #[int i64 bars, .slice aT nT cT, .slice aP nP cP, .slice aS nS cS] 29) = w0 at *
 have HB := qh b0; have G0 := qh g0
 clear b0
 have c0 : w0.cell? ⟨w.heap.size, 0, none⟩ = some (int i64 bars) := A0 g0 0 rfl
 have c1 : w0.cell? ⟨w.heap.size, 1, none⟩ = some (.slice aT nT cT) := A0 g0 1 rfl
 have c2 : w0.cell? ⟨w.heap.size, 2, none⟩ = some (.slice aP nP cP) := A0 g0 2 rfl
 have c3 : w0.cell? ⟨w.heap.size, 3, none⟩ = some (.slice aS nS cS) := A0 g0 3 rfl
 clear g0
 refine (Ae 2 _).mono ?_
 rintro e w' ⟨rfl, rfl⟩
 unfold A9
 go_wp2_with fail
 exact ⟨rfl, GI (EH (by rw [K2.out, K3.out, K4.out, NT.out, NP.out, NS.out]; omega)), HB.out⟩
theorem Iu (bars : Int) (aT aP aS : Option Addr) (cT cP cS : Nat) (ts : List Tmp) (ps : List Pau) (ss : List Con) (w : World)
  (hT : IsRow Bq 3 w (.slice aT ts.length cT) ts) (hP : IsRow Cl 4 w (.slice aP ps.length cP) ps) (hS : IsRow Ck 4 w (.slice aS ss.length cS) ss) (hTP : ps.length ≤ ts.length) (hok : ts.length ≤ 4096) (hok2 : ss.length ≤ 256) :
  Calls Tryz.prog 113 #[.agg #[int i64 bars, .slice aT ts.length cT, .slice aP ps.length cP, .slice aS ss.length cS]] w fun e w' => e = C7 ⟨bars, ts, ps, ss⟩ ∧ Below w.heap.size w w' := by
 generalize hclk : (⟨bars, ts, ps, ss⟩ : Clk) = clk
 have k1 : clk.bars = bars := by rw [← hclk]
 have k2 : clk.tempos = ts := by rw [← hclk]
 have k3 : clk.pauses = ps := by rw [← hclk]
 have k4 : clk.spans = ss := by rw [← hclk]
 have K1 := qh k1; have K2 := qh k2; have K3 := qh k3; have K4 := qh k4
 clear hclk k1 k2 k3 k4
 obtain ⟨_, _, _, lT, _⟩ := id hT
 obtain ⟨_, _, _, lP, _⟩ := id hP
 obtain ⟨_, _, _, lS, _⟩ := id hS
 unfold maxLen at lT lP lS
 have HT := qh hT; have HP := qh hP; have HS := qh hS
 clear hT hP hS
 generalize hnT : ts.length = nT at *
 generalize hnP : ps.length = nP at *
 generalize hnS : ss.length = nS at *
 have NT := qh hnT; have NP := qh hnP; have NS := qh hnS
 clear hnT hnP hnS
 have b0 : Below w.heap.size w (w.alloc (.cells #[int i64 bars, .slice aT nT cT, .slice aP nP cP, .slice aS nS cS] 29)) := (Below.refl _ w).alloc (qn _) _
 have g0 := heap_alloc_new w (.cells #[int i64 bars, .slice aT nT cT, .slice aP nP cP, .slice aS nS cS] 29)
 have hz0 : w.heap.size < (w.alloc (.cells #[int i64 bars, .slice aT nT cT, .slice aP nP cP, .slice aS nS cS] 29)).heap.size := by simp
 have fS : decide ((nS : Int) ≤ 256) = true := by simpa using by omega
 have fM : ((nT : Nat) : Int) ≤ 4096 := by omega
 have LIM : Hid (BT clk = true) := qh (KM (by rw [K2.out, NT.out]; omega) (by rw [K3.out, NP.out]; omega) (by rw [K4.out, NS.out]; omega))
 go_enter Tryz.func113, Tryz.ntmps113
 go_wp2_with fail
 generalize w.alloc (.cells #[int i64 bars, .slice aT nT cT, .slice aP nP cP, .slice aS nS cS] 29) = w0 at *
 have HB := qh b0; have G0 := qh g0
 clear b0
 have c0 : w0.cell? ⟨w.heap.size, 0, none⟩ = some (int i64 bars) := A0 g0 0 rfl
 have c1 : w0.cell? ⟨w.heap.size, 1, none⟩ = some (.slice aT nT cT) := A0 g0 1 rfl
 have c2 : w0.cell? ⟨w.heap.size, 2, none⟩ = some (.slice aP nP cP) := A0 g0 2 rfl
 have c3 : w0.cell? ⟨w.heap.size, 3, none⟩ = some (.slice aS nS cS) := A0 g0 3 rfl
 clear g0
 refine (C1 2 _).mono ?_
 rintro e w' ⟨rfl, rfl⟩
 clear fS fM
 go_wp2_with fail
 refine (Az bars 1 4096 _).mono ?_
 rintro e w' ⟨rfl, rfl⟩
 cases h1 : inB bars 1 4096 with
 | false =>
  go_wp2_with fail
  refine (Ae 130 _).mono ?_
  rintro e w' ⟨rfl, rfl⟩
  unfold A9
  go_wp2_with fail
  exact ⟨rfl, Al LIM.out (Dw (by unfold Bv; rw [K1.out, h1]; rfl)), HB.out⟩
 | true =>
  have H1 := qh h1
  obtain ⟨h1a, h1b⟩ := A4.1 h1
  clear h1
  obtain ⟨B, hB⟩ : ∃ B : Nat, bars = (B : Int) := ⟨bars.toNat, by omega⟩
  subst hB
  have hBl : B ≤ 4096 := by omega
  have hBp : 1 ≤ B := by omega
  clear h1a h1b
  by_cases hne : 0 < nT
  rotate_left
  ·have f0 : ¬ (0 : Int) < (nT : Int) := by omega
   have he : ts = [] := List.length_eq_zero_iff.1 (by rw [NT.out]; omega)
   go_wp2_with fail
   refine (Ae 130 _).mono ?_
   rintro e w' ⟨rfl, rfl⟩
   unfold A9
   go_wp2_with fail
   exact ⟨rfl, Al LIM.out (Dw (by unfold Bv; rw [K1.out, K2.out, he]; simp)), HB.out⟩
  obtain ⟨t0, ht0⟩ : ∃ t, ts[0]? = some t := ⟨_, qg (by rw [NT.out]; exact hne)⟩
  obtain ⟨b, o, hao, hat, hlt⟩ := HT.out.block ht0
  subst hao
  have HAT := qh hat; clear hat
  have hne' : (0 : Int) < (nT : Int) := by omega
  have p0 : w0.cell? ⟨b, o, none⟩ = some (int i64 t0.bar) := by
   have := (atT (HAT.out.below HB.out hlt) ht0).1; simpa using this
  have HT0 := qh ht0; clear ht0
  by_cases h0 : t0.bar = 0
  rotate_left
  ·have f0 : (t0.bar == 0) = false := by simpa using h0
   have HH := qh h0; clear h0
   go_wp2_with fail
   refine (Ae 130 _).mono ?_
   rintro e w' ⟨rfl, rfl⟩
   unfold A9
   go_wp2_with fail
   exact ⟨rfl, Al LIM.out (Dw (KR (by rw [K2.out]; exact HT0.out) HH.out)), HB.out⟩
  have f0 : (t0.bar == 0) = true := by simpa using h0
  have HH := qh h0; clear h0
  have HEAD : Hid (Bv clk = true) := qh (NJ (by rw [K1.out]; exact H1.out) (by rw [K2.out]; exact HT0.out) HH.out)
  go_wp2_with fail
  refine (C1 130 _).mono ?_
  rintro e w' ⟨rfl, rfl⟩
  clear f0 p0
  go_wp2_with fail
  clear c0 c1 c2 c3
  go_loopw [2, 46] (fun lv iv wr => ∃ (k : Nat) (last : Int), k ≤ nT ∧ iv = int i64 k ∧ lv = int i64 last ∧ -1 ≤ last ∧ last ≤ 4096 ∧ Hid (AK B (-1) ts = AK B last (ts.drop k)) ∧ w.heap.size < wr.heap.size ∧ Hid (wr.heap[w.heap.size]? = some (.cells #[int i64 (B : Int), .slice (some ⟨b, o, none⟩) nT cT, .slice aP nP cP, .slice aS nS cS] 29 (0, 0))) ∧ Hid (Below w.heap.size w wr)) (fun _ iv _ => nT - (intOf iv).toNat)
  case atStart => exact ⟨0, -1, Nat.zero_le _, rfl, rfl, by omega, by omega, qh rfl, hz0, G0, HB⟩
  case round =>
   clear HB G0 hz0
   obtain ⟨k, last, hk, rfl, rfl, hl1, hl2, htm, hsz, hbx, hbw⟩ := hrel
   by_cases hkn : k < nT
   ·obtain ⟨t, ht⟩ : ∃ t, ts[k]? = some t := ⟨_, qg (by rw [NT.out]; exact hkn)⟩
    obtain ⟨p0, p1, p2⟩ := atT (HAT.out.below hbw.out hlt) ht
    have hbs : b < wr.heap.size := by have := hbw.out.size; omega
    have HTt := qh ht; clear ht
    have hkn' : (k : Int) < (nT : Int) := by omega
    have c0 : wr.cell? ⟨w.heap.size, 0, none⟩ = some (int i64 (B : Int)) := A0 hbx.out 0 rfl
    have x0 := (Below.heap_alloc wr (.cells #[int i64 t.bar, int i64 t.ticks, int i64 t.step] 88) w.heap.size hsz).trans hbx.out
    have x2 := heap_alloc_new wr (.cells #[int i64 t.bar, int i64 t.ticks, int i64 t.step] 88)
    have x3 : Below w.heap.size w (wr.alloc (.cells #[int i64 t.bar, int i64 t.ticks, int i64 t.step] 88)) := hbw.out.alloc (by omega) _
    have x4 : w.heap.size < (wr.alloc (.cells #[int i64 t.bar, int i64 t.ticks, int i64 t.step] 88)).heap.size := by simp; omega
    have X0 := qh x0; have X2 := qh x2; have HB5 := qh x3
    clear x0 x2 x3
    go_wp2_with fail
    generalize wr.alloc (.cells #[int i64 t.bar, int i64 t.ticks, int i64 t.step] 88) = w5 at *
    generalize wr.heap.size = gw at *
    clear c0 p0 p1 p2
    have c0 : w5.cell? ⟨w.heap.size, 0, none⟩ = some (int i64 (B : Int)) := A0 X0.out 0 rfl
    have l0 : w5.cell? ⟨gw, 0, none⟩ = some (int i64 t.bar) := A0 X2.out 0 rfl
    have l1 : w5.cell? ⟨gw, 1, none⟩ = some (int i64 t.ticks) := A0 X2.out 1 rfl
    have l2 : w5.cell? ⟨gw, 2, none⟩ = some (int i64 t.step) := A0 X2.out 2 rfl
    clear X2 hbx hbw
    refine (Az t.bar (last + 1) ((B : Int) - 1) _).mono ?_
    rintro e w' ⟨rfl, rfl⟩
    cases q0 : inB t.bar (last + 1) ((B : Int) - 1) with
    | false =>
     go_wp2_with fail
     refine (Ae 130 _).mono ?_
     rintro e w' ⟨rfl, rfl⟩
     unfold A9
     go_wp2_with fail
     exact ⟨rfl, Al LIM.out (DI (by rw [K1.out, K2.out, htm.out, Ab HTt.out]; simp [AK, IQ, q0])), HB5.out⟩
    | true =>
     have Q0 := qh q0; clear q0
     go_wp2_with fail
     refine (Az t.ticks (-65536) 65536 _).mono ?_
     rintro e w' ⟨rfl, rfl⟩
     cases q1 : inB t.ticks (-65536) 65536 with
     | false =>
      go_wp2_with fail
      refine (Ae 130 _).mono ?_
      rintro e w' ⟨rfl, rfl⟩
      unfold A9
      go_wp2_with fail
      exact ⟨rfl, Al LIM.out (DI (by rw [K1.out, K2.out, htm.out, Ab HTt.out]; simp [AK, IQ, Q0.out, q1])), HB5.out⟩
     | true =>
      have Q1 := qh q1; clear q1
      go_wp2_with fail
      refine (Az t.step (-65536) 65536 _).mono ?_
      rintro e w' ⟨rfl, rfl⟩
      cases q2 : inB t.step (-65536) 65536 with
      | false =>
       go_wp2_with fail
       refine (Ae 130 _).mono ?_
       rintro e w' ⟨rfl, rfl⟩
       unfold A9
       go_wp2_with fail
       exact ⟨rfl, Al LIM.out (DI (by rw [K1.out, K2.out, htm.out, Ab HTt.out]; simp [AK, IQ, Q0.out, Q1.out, q2])), HB5.out⟩
      | true =>
       have Q2 := qh q2; clear q2
       go_wp2_with fail
       refine (C1 130 _).mono ?_
       rintro e w' ⟨rfl, rfl⟩
       go_wp2_with fail
       go_roundw
       case rel => exact ⟨k + 1, t.bar, by omega, by go_num, rfl, by have := A4.1 Q0.out; omega, by have := A4.1 Q0.out; omega, qh (by rw [htm.out, Ab HTt.out]; simp [AK, IQ, Q0.out, Q1.out, Q2.out]), x4, X0, HB5⟩
       case measure => simp [intOf]; omega
   ·obtain rfl : nT = k := by omega
    have hin : ¬ (nT : Int) < (nT : Int) := by omega
    have TM : Hid (AK B (-1) ts = true) := qh (by rw [htm.out, List.drop_of_length_le (by rw [NT.out]; exact qn _)]; rfl)
    clear htm hl1 hl2
    have ⟨hso, hall⟩ := Cj TM.out
    have NW : Hid (∀ j : Nat, j < B → GW ts j) := qh (fun j hj => ⟨hso, FE HT0.out (by rw [HH.out]; omega), by omega, by omega, fun t ht => by have := hall t ht; omega⟩)
    clear hso hall
    have c0 : wr.cell? ⟨w.heap.size, 0, none⟩ = some (int i64 (B : Int)) := A0 hbx.out 0 rfl
    go_wp2_with fail
    clear c0 hin
    go_loopw [74] (fun iv wr => ∃ j : Nat, j ≤ B ∧ iv = int i64 j ∧ Hid (BE ts j = true) ∧ w.heap.size < wr.heap.size ∧ Hid (wr.heap[w.heap.size]? = some (.cells #[int i64 (B : Int), .slice (some ⟨b, o, none⟩) nT cT, .slice aP nP cP, .slice aS nS cS] 29 (0, 0))) ∧ Hid (Below w.heap.size w wr)) (fun iv _ => B - (intOf iv).toNat)
    case atStart => exact ⟨0, Nat.zero_le _, rfl, qh rfl, hsz, hbx, hbw⟩
    case round =>
     clear hbx hbw hsz
     obtain ⟨j, hj, rfl, htk, hsz, hbx, hbw⟩ := hrel
     by_cases hjB : j < B
     ·have hjB' : (j : Int) < (B : Int) := by omega
      have c0 : wr.cell? ⟨w.heap.size, 0, none⟩ = some (int i64 (B : Int)) := A0 hbx.out 0 rfl
      have c1 : wr.cell? ⟨w.heap.size, 1, none⟩ = some (.slice (some ⟨b, o, none⟩) nT cT) := A0 hbx.out 1 rfl
      have c2 : wr.cell? ⟨w.heap.size, 2, none⟩ = some (.slice aP nP cP) := A0 hbx.out 2 rfl
      have c3 : wr.cell? ⟨w.heap.size, 3, none⟩ = some (.slice aS nS cS) := A0 hbx.out 3 rfl
      go_wp2_with fail
      refine (J7 B j b o nT cT (.slice aP nP cP) (.slice aS nS cS) ts wr NT.out (by omega) (HAT.out.below hbw.out hlt) (by have := hbw.out.size; omega) (NW.out j hjB)).mono ?_
      rintro e w5 ⟨rfl, b5⟩
      have hz5 := b5.size
      have x0 := (b5.block _ hsz).trans hbx.out
      have HB5 := qh (hbw.out.trans (b5.mono (by omega)))
      have X0 := qh x0
      have hsz5 : w.heap.size < w5.heap.size := by omega
      clear x0 b5 c0 c1 c2 c3 hbx hbw hz5
      generalize hg : AH ts j = g
      have HG := qh hg; clear hg
      go_wp2_with fail
      refine (Az g 1 65536 _).mono ?_
      rintro e w' ⟨rfl, rfl⟩
      cases h2 : inB g 1 65536 with
      | false =>
       go_wp2_with fail
       refine (Ae 130 _).mono ?_
       rintro e w' ⟨rfl, rfl⟩
       unfold A9
       go_wp2_with fail
       exact ⟨rfl, Al LIM.out (IW (by rw [K2.out, K1.out, Int.toNat_natCast]; exact Fy (Dp htk.out (by rw [HG.out]; exact h2)) (by omega))), HB5.out⟩
      | true =>
       have H2 := qh h2; clear h2
       go_wp2_with fail
       refine (C1 130 _).mono ?_
       rintro e w' ⟨rfl, rfl⟩
       go_wp2_with fail
       go_roundw
       case rel => exact ⟨j + 1, by omega, by go_num, qh (Dp htk.out (by rw [HG.out]; exact H2.out)), hsz5, X0, HB5⟩
       case measure => simp [intOf]; omega
     ·obtain rfl : B = j := by omega
      have hin : ¬ (B : Int) < (B : Int) := by omega
      have c2 : wr.cell? ⟨w.heap.size, 2, none⟩ = some (.slice aP nP cP) := A0 hbx.out 2 rfl
      go_wp2_with fail
      clear c2 hin
      go_loopw [2, 86] (fun lv iv wr => ∃ (i : Nat) (last : Int), i ≤ nP ∧ iv = int i64 i ∧ lv = int i64 last ∧ -1 ≤ last ∧ last ≤ 4096 ∧ Hid (AW B (-1) ps = AW B last (ps.drop i)) ∧ w.heap.size < wr.heap.size ∧ Hid (wr.heap[w.heap.size]? = some (.cells #[int i64 (B : Int), .slice (some ⟨b, o, none⟩) nT cT, .slice aP nP cP, .slice aS nS cS] 29 (0, 0))) ∧ Hid (Below w.heap.size w wr)) (fun _ iv _ => nP - (intOf iv).toNat)
      case atStart => exact ⟨0, -1, Nat.zero_le _, rfl, rfl, by omega, by omega, qh rfl, hsz, hbx, hbw⟩
      case round =>
       clear hsz hbx hbw
       obtain ⟨i, last, hi, rfl, rfl, hl1, hl2, htm, hsz, hbx, hbw⟩ := hrel
       by_cases hkn : i < nP
       ·obtain ⟨t, ht⟩ : ∃ t, ps[i]? = some t := ⟨_, qg (by rw [NP.out]; exact hkn)⟩
        obtain ⟨bp, op, hap, hatp, hltp⟩ := HP.out.block ht
        subst hap
        obtain ⟨p0, p1, p2, p3⟩ := atP (hatp.below hbw.out hltp) ht
        have hbs : bp < wr.heap.size := by have := hbw.out.size; omega
        clear hatp
        have HTt := qh ht; clear ht
        have hkn' : (i : Int) < (nP : Int) := by omega
        have c0 : wr.cell? ⟨w.heap.size, 0, none⟩ = some (int i64 (B : Int)) := A0 hbx.out 0 rfl
        have x0 := (Below.heap_alloc wr (.cells #[int i64 t.bar, int i64 t.kind, int i64 t.lo, int i64 t.hi] 171) w.heap.size hsz).trans hbx.out
        have x2 := heap_alloc_new wr (.cells #[int i64 t.bar, int i64 t.kind, int i64 t.lo, int i64 t.hi] 171)
        have x3 : Below w.heap.size w (wr.alloc (.cells #[int i64 t.bar, int i64 t.kind, int i64 t.lo, int i64 t.hi] 171)) := hbw.out.alloc (by omega) _
        have x4 : w.heap.size < (wr.alloc (.cells #[int i64 t.bar, int i64 t.kind, int i64 t.lo, int i64 t.hi] 171)).heap.size := by simp; omega
        have X0 := qh x0; have X2 := qh x2; have HB5 := qh x3
        clear x0 x2 x3
        go_wp2_with fail
        generalize wr.alloc (.cells #[int i64 t.bar, int i64 t.kind, int i64 t.lo, int i64 t.hi] 171) = w5 at *
        generalize wr.heap.size = gw at *
        clear c0 p0 p1 p2 p3
        have c0 : w5.cell? ⟨w.heap.size, 0, none⟩ = some (int i64 (B : Int)) := A0 X0.out 0 rfl
        have l0 : w5.cell? ⟨gw, 0, none⟩ = some (int i64 t.bar) := A0 X2.out 0 rfl
        have l1 : w5.cell? ⟨gw, 1, none⟩ = some (int i64 t.kind) := A0 X2.out 1 rfl
        have l2 : w5.cell? ⟨gw, 2, none⟩ = some (int i64 t.lo) := A0 X2.out 2 rfl
        have l3 : w5.cell? ⟨gw, 3, none⟩ = some (int i64 t.hi) := A0 X2.out 3 rfl
        clear X2 hbx hbw
        refine (Az t.bar (last + 1) ((B : Int) - 2) _).mono ?_
        rintro e w' ⟨rfl, rfl⟩
        cases q0 : inB t.bar (last + 1) ((B : Int) - 2) with
        | false =>
         go_wp2_with fail
         refine (Ae 130 _).mono ?_
         rintro e w' ⟨rfl, rfl⟩
         unfold A9
         go_wp2_with fail
         exact ⟨rfl, Al LIM.out (CQ (by rw [K1.out, K3.out, htm.out, Ab HTt.out]; simp [AW, Hz, q0])), HB5.out⟩
        | true =>
         have Q0 := qh q0; clear q0
         go_wp2_with fail
         refine (Az t.kind 1 2 _).mono ?_
         rintro e w' ⟨rfl, rfl⟩
         cases q1 : inB t.kind 1 2 with
         | false =>
          go_wp2_with fail
          refine (Ae 130 _).mono ?_
          rintro e w' ⟨rfl, rfl⟩
          unfold A9
          go_wp2_with fail
          exact ⟨rfl, Al LIM.out (CQ (by rw [K1.out, K3.out, htm.out, Ab HTt.out]; simp [AW, Hz, Q0.out, q1])), HB5.out⟩
         | true =>
          have Q1 := qh q1; clear q1
          go_wp2_with fail
          refine (Az t.lo 0 t.hi _).mono ?_
          rintro e w' ⟨rfl, rfl⟩
          cases q2 : inB t.lo 0 t.hi with
          | false =>
           go_wp2_with fail
           refine (Ae 130 _).mono ?_
           rintro e w' ⟨rfl, rfl⟩
           unfold A9
           go_wp2_with fail
           exact ⟨rfl, Al LIM.out (CQ (by rw [K1.out, K3.out, htm.out, Ab HTt.out]; simp [AW, Hz, Q0.out, Q1.out, q2])), HB5.out⟩
          | true =>
           have Q2 := qh q2; clear q2
           go_wp2_with fail
           cases q3 : decide (t.hi ≤ 1048576) with
           | false =>
            refine (Ae 130 _).mono ?_
            rintro e w' ⟨rfl, rfl⟩
            unfold A9
            go_wp2_with fail
            exact ⟨rfl, Al LIM.out (CQ (by rw [K1.out, K3.out, htm.out, Ab HTt.out]; simp [AW, Hz, Q0.out, Q1.out, Q2.out, of_decide_eq_false q3])), HB5.out⟩
           | true =>
            have Q3 := qh (of_decide_eq_true q3); clear q3
            refine (C1 130 _).mono ?_
            rintro e w' ⟨rfl, rfl⟩
            go_wp2_with fail
            go_roundw
            case rel => exact ⟨i + 1, t.bar, by omega, by go_num, rfl, by have := A4.1 Q0.out; omega, by have := A4.1 Q0.out; omega, qh (by rw [htm.out, Ab HTt.out]; simp [AW, Hz, Q0.out, Q1.out, Q2.out, Q3.out]), x4, X0, HB5⟩
            case measure => simp [intOf]; omega
       ·obtain rfl : nP = i := by omega
        have hin : ¬ (nP : Int) < (nP : Int) := by omega
        have PM : Hid (AW B (-1) ps = true) := qh (by rw [htm.out, List.drop_of_length_le (by rw [NP.out]; exact qn _)]; rfl)
        clear htm hl1 hl2
        have c3 : wr.cell? ⟨w.heap.size, 3, none⟩ = some (.slice aS nS cS) := A0 hbx.out 3 rfl
        go_wp2_with fail
        clear c3 hin
        go_loopw [122] (fun iv wr => ∃ i : Nat, i ≤ nS ∧ iv = int i64 i ∧ Hid (ss.all (C9 B) = (ss.drop i).all (C9 B)) ∧ w.heap.size < wr.heap.size ∧ Hid (wr.heap[w.heap.size]? = some (.cells #[int i64 (B : Int), .slice (some ⟨b, o, none⟩) nT cT, .slice aP nP cP, .slice aS nS cS] 29 (0, 0))) ∧ Hid (Below w.heap.size w wr)) (fun iv _ => nS - (intOf iv).toNat)
        case atStart => exact ⟨0, Nat.zero_le _, rfl, qh rfl, hsz, hbx, hbw⟩
        case round =>
         clear hsz hbx hbw
         obtain ⟨i, hi, rfl, htm, hsz, hbx, hbw⟩ := hrel
         by_cases hkn : i < nS
         ·obtain ⟨t, ht⟩ : ∃ t, ss[i]? = some t := ⟨_, qg (by rw [NS.out]; exact hkn)⟩
          obtain ⟨bp, op, hap, hatp, hltp⟩ := HS.out.block ht
          subst hap
          obtain ⟨p0, p1, p2, p3⟩ := atC (hatp.below hbw.out hltp) ht
          have hbs : bp < wr.heap.size := by have := hbw.out.size; omega
          clear hatp
          have HTt := qh ht; clear ht
          have hkn' : (i : Int) < (nS : Int) := by omega
          have c0 : wr.cell? ⟨w.heap.size, 0, none⟩ = some (int i64 (B : Int)) := A0 hbx.out 0 rfl
          have x0 := (Below.heap_alloc wr (.cells #[int i64 t.frm, int i64 t.to, int i64 t.lo, int i64 t.hi] 173) w.heap.size hsz).trans hbx.out
          have x2 := heap_alloc_new wr (.cells #[int i64 t.frm, int i64 t.to, int i64 t.lo, int i64 t.hi] 173)
          have x3 : Below w.heap.size w (wr.alloc (.cells #[int i64 t.frm, int i64 t.to, int i64 t.lo, int i64 t.hi] 173)) := hbw.out.alloc (by omega) _
          have x4 : w.heap.size < (wr.alloc (.cells #[int i64 t.frm, int i64 t.to, int i64 t.lo, int i64 t.hi] 173)).heap.size := by simp; omega
          have X0 := qh x0; have X2 := qh x2; have HB5 := qh x3
          clear x0 x2 x3
          go_wp2_with fail
          generalize wr.alloc (.cells #[int i64 t.frm, int i64 t.to, int i64 t.lo, int i64 t.hi] 173) = w5 at *
          generalize wr.heap.size = gw at *
          clear c0 p0 p1 p2 p3
          have c0 : w5.cell? ⟨w.heap.size, 0, none⟩ = some (int i64 (B : Int)) := A0 X0.out 0 rfl
          have l0 : w5.cell? ⟨gw, 0, none⟩ = some (int i64 t.frm) := A0 X2.out 0 rfl
          have l1 : w5.cell? ⟨gw, 1, none⟩ = some (int i64 t.to) := A0 X2.out 1 rfl
          have l2 : w5.cell? ⟨gw, 2, none⟩ = some (int i64 t.lo) := A0 X2.out 2 rfl
          have l3 : w5.cell? ⟨gw, 3, none⟩ = some (int i64 t.hi) := A0 X2.out 3 rfl
          clear X2 hbx hbw
          refine (Az t.frm 0 (B : Int) _).mono ?_
          rintro e w' ⟨rfl, rfl⟩
          cases q0 : inB t.frm 0 (B : Int) with
          | false =>
           go_wp2_with fail
           refine (Ae 130 _).mono ?_
           rintro e w' ⟨rfl, rfl⟩
           unfold A9
           go_wp2_with fail
           exact ⟨rfl, Al LIM.out (BY (by rw [K1.out, K4.out, htm.out, Ab HTt.out]; simp [C9, q0])), HB5.out⟩
          | true =>
           have Q0 := qh q0; clear q0
           go_wp2_with fail
           refine (Az t.to 0 (B : Int) _).mono ?_
           rintro e w' ⟨rfl, rfl⟩
           cases q1 : inB t.to 0 (B : Int) with
           | false =>
            go_wp2_with fail
            refine (Ae 130 _).mono ?_
            rintro e w' ⟨rfl, rfl⟩
            unfold A9
            go_wp2_with fail
            exact ⟨rfl, Al LIM.out (BY (by rw [K1.out, K4.out, htm.out, Ab HTt.out]; simp [C9, Q0.out, q1])), HB5.out⟩
           | true =>
            have Q1 := qh q1; clear q1
            by_cases q2 : t.frm = t.to
            ·have f2 : (t.frm != t.to) = false := by simpa using q2
             have Q2 := qh q2; clear q2
             go_wp2_with fail
             refine (Ae 130 _).mono ?_
             rintro e w' ⟨rfl, rfl⟩
             unfold A9
             go_wp2_with fail
             exact ⟨rfl, Al LIM.out (BY (by rw [K1.out, K4.out, htm.out, Ab HTt.out]; simp [C9, Q1.out, Q2.out])), HB5.out⟩
            have f2 : (t.frm != t.to) = true := by simpa using q2
            have Q2 := qh q2; clear q2
            go_wp2_with fail
            clear f2
            refine (Az t.lo (-1099511627776) t.hi _).mono ?_
            rintro e w' ⟨rfl, rfl⟩
            cases q3 : inB t.lo (-1099511627776) t.hi with
            | false =>
             go_wp2_with fail
             refine (Ae 130 _).mono ?_
             rintro e w' ⟨rfl, rfl⟩
             unfold A9
             go_wp2_with fail
             exact ⟨rfl, Al LIM.out (BY (by rw [K1.out, K4.out, htm.out, Ab HTt.out]; simp [C9, Q0.out, Q1.out, Q2.out, q3])), HB5.out⟩
            | true =>
             have Q3 := qh q3; clear q3
             go_wp2_with fail
             cases q4 : decide (t.hi ≤ 1099511627776) with
             | false =>
              refine (Ae 130 _).mono ?_
              rintro e w' ⟨rfl, rfl⟩
              unfold A9
              go_wp2_with fail
              exact ⟨rfl, Al LIM.out (BY (by rw [K1.out, K4.out, htm.out, Ab HTt.out]; simp [C9, Q0.out, Q1.out, Q2.out, Q3.out, of_decide_eq_false q4])), HB5.out⟩
             | true =>
              have Q4 := qh (of_decide_eq_true q4); clear q4
              refine (C1 130 _).mono ?_
              rintro e w' ⟨rfl, rfl⟩
              go_wp2_with fail
              go_roundw
              case rel => exact ⟨i + 1, by omega, by go_num, qh (by rw [htm.out, Ab HTt.out]; simp [C9, Q0.out, Q1.out, Q2.out, Q3.out, Q4.out]), x4, X0, HB5⟩
              case measure => simp [intOf]; omega
         ·obtain rfl : nS = i := by omega
          have hin : ¬ (nS : Int) < (nS : Int) := by omega
          have SM : Hid (ss.all (C9 B) = true) := qh (by rw [htm.out, List.drop_of_length_le (by rw [NS.out]; exact qn _)]; rfl)
          clear htm
          go_wp2_with fail
          go_end0
          exact ⟨QD LIM.out (Qx HEAD.out (by rw [K1.out, K2.out]; exact TM.out) (by rw [K1.out, K2.out, Int.toNat_natCast]; exact htk.out) (by rw [K1.out, K3.out]; exact PM.out) (by rw [K1.out, K4.out]; exact SM.out)), hbw.out⟩
end
end Go.Proofs.YtggcbblikgankaaGreatDoor

/- The walk of the statement: part 2. -/
import Derived.Test.YtggcbblikgankaaGreatDoorYEf6p1
set_option linter.unusedVariables false
set_option linter.unusedSimpArgs false
section
set_option linter.unusedSimpArgs false
set_option linter.unusedVariables false
namespace Go.Proofs.YtggcbblikgankaaGreatDoor
open Go Go.RowKit Go.Deep
def headT (ts : List Tmp) : Bool := match ts with
 | [] => false
 | t :: _ => decide (t.bar = 0)
theorem headT_at {ts : List Tmp} {t : Tmp} (h : ts[0]? = some t) : headT ts = decide (t.bar = 0) := by
 cases ts with
 | nil => simp at h
 | cons a r => simp at h; subst h; rfl
def tmpoB (bars : Int) (ts : List Tmp) : Bool := headT ts && tmpsB bars (-1) ts && ticksB ts bars.toNat
theorem tmpsB_cons (bars last : Int) (t : Tmp) (r : List Tmp) : tmpsB bars last (t :: r) = ((inB t.bar (last + 1) (bars - 1) && inB t.ticks (-65536) 65536 && inB t.step (-65536) 65536) && tmpsB bars t.bar r) := rfl
set_option maxRecDepth 100000 in
set_option maxHeartbeats 8000000 in
theorem rtempos_any (bars : Int) (hb1 : 1 ≤ bars) (hb2 : bars ≤ 4096) (vP vS : Value) (ts : List Tmp) (aT : Option Addr) (nT cT : Nat) (w : World) (hn : ts.length = nT) (hle : nT ≤ 4096) (hX : IsRow encT 3 w (.slice aT nT cT) ts) :
  Calls Tryz.prog 101 #[.agg #[.int .i64 bars, .slice aT nT cT, vP, vS]] w fun e w' => e = .returned (.bool (tmpoB bars ts)) ∧ Below w.heap.size w w' := by
 obtain ⟨r, hr⟩ : ∃ r, tmpoB bars ts = r := ⟨_, rfl⟩
 rw [hr]
 have HR := Lib.hid hr
 clear hr
 have hbx := ClkBox.make w bars (.slice aT nT cT) vP vS
 have hbw : Below w.heap.size w (w.alloc (.cells #[.int .i64 bars, .slice aT nT cT, vP, vS] 29)) := (Below.refl _ w).alloc (Nat.le_refl _) _
 have hsz : w.heap.size < (w.alloc (.cells #[.int .i64 bars, .slice aT nT cT, vP, vS] 29)).heap.size := by simp
 have HN := Lib.hid hn; have HX := Lib.hid hX; have HBW := Lib.hid hbw
 clear hn hX hbw
 by_cases hne : 0 < nT
 case neg =>
  have he : ts = [] := List.length_eq_zero_iff.1 (by rw [HN.out]; omega)
  have hz : nT = 0 := by omega
  subst hz
  have HF : Hid (r = false) := Lib.hid (by rw [← HR.out, he]; rfl)
  clear he hne
  go_enter Tryz.func101, Tryz.ntmps101
  go_wp2_with fail
  generalize w.alloc (.cells #[.int .i64 bars, .slice aT 0 cT, vP, vS] 29) = w0 at *
  try go_wp2_with fail
  go_ret
  exact ⟨by rw [HF.out]; rfl, HBW.out⟩
 obtain ⟨t0, ht0⟩ : ∃ t, ts[0]? = some t := ⟨_, List.getElem?_eq_getElem (by rw [HN.out]; exact hne)⟩
 obtain ⟨b, o, hao, hat, hlt⟩ := HX.out.block ht0
 subst hao
 have HAT := Lib.hid hat
 clear hat
 have hne' : (0 : Int) < (nT : Int) := by omega
 have hne2 : ((nT : Int) == 0) = false := by simp; omega
 have p0 : (w.alloc (.cells #[.int .i64 bars, .slice (some ⟨b, o, none⟩) nT cT, vP, vS] 29)).cell? ⟨b, o, none⟩ = some (.int .i64 t0.bar) := by
  have := (atT (HAT.out.below HBW.out hlt) ht0).1; simpa using this
 have HT0 := Lib.hid ht0
 clear ht0
 have c1 := hbx.c1
 by_cases h0 : t0.bar = 0
 case neg =>
  have f0 : (t0.bar != 0) = true := by simpa using h0
  have HF : Hid (r = false) := Lib.hid (by rw [← HR.out]; unfold tmpoB; rw [headT_at HT0.out, decide_eq_false h0]; rfl)
  clear h0
  go_enter Tryz.func101, Tryz.ntmps101
  go_wp2_with fail
  go_ret
  exact ⟨by rw [HF.out]; rfl, HBW.out⟩
 have f0 : (t0.bar != 0) = false := by simpa using h0
 have HH := Lib.hid (show headT ts = true by rw [headT_at HT0.out, decide_eq_true h0])
 have HZ := Lib.hid h0
 clear h0
 go_enter Tryz.func101, Tryz.ntmps101
 go_wp2_with fail
 generalize w.alloc (.cells #[.int .i64 bars, .slice (some ⟨b, o, none⟩) nT cT, vP, vS] 29) = w0 at *
 have HBX := Lib.hid hbx
 clear hbx p0 f0 c1
 have HA0 : Hid (tmpsB bars (-1) ts = tmpsB bars (-1) (ts.drop 0)) := Lib.hid rfl
 have HP0 : Hid (∀ i0 p, 0 = i0 + 1 → ts[i0]? = some p → p.bar = (-1 : Int)) := Lib.hid fun i0 p h => by omega
 go_loopw [3] (fun iv wr => ∃ (i : Nat) (last : Int), i ≤ nT ∧ iv = .int .i64 i ∧ (i = 0 ∧ last = -1 ∨ 0 < i ∧ 0 ≤ last) ∧ Hid (tmpsB bars (-1) ts = tmpsB bars last (ts.drop i)) ∧ Hid (∀ i0 p, i = i0 + 1 → ts[i0]? = some p → p.bar = last) ∧ Hid (ClkBox w0 w.heap.size bars (.slice (some ⟨b, o, none⟩) nT cT) vP vS wr)) (fun iv _ => nT - (intOf iv).toNat)
 case atStart => exact ⟨0, -1, Nat.zero_le _, rfl, Or.inl ⟨rfl, rfl⟩, HA0, HP0, HBX⟩
 case round =>
  clear HBX HA0 HP0
  obtain ⟨i, last, hi, rfl, hlast, hA, hP, hB⟩ := hrel
  obtain ⟨hbe, c0, c1, c2, c3⟩ := hB.out
  have hbw2 := HBW.out.trans (hbe.mono HBW.out.size)
  have HBE := Lib.hid hbe; have HBW2 := Lib.hid hbw2
  have hsr := hbe.size
  clear hbe hbw2
  by_cases hin : i < nT
  ·have hin' : (i : Int) < (nT : Int) := by omega
   obtain ⟨p, hs⟩ : ∃ s, ts[i]? = some s := ⟨_, List.getElem?_eq_getElem (by rw [HN.out]; exact hin)⟩
   obtain ⟨p0, p1, p2⟩ := atT (HAT.out.below HBW2.out hlt) hs
   have hrr : tmpsB bars (-1) ts = ((inB p.bar (last + 1) (bars - 1) && inB p.ticks (-65536) 65536 && inB p.step (-65536) 65536) && tmpsB bars p.bar (ts.drop (i + 1))) := by
    rw [hA.out, drop_at hs, tmpsB_cons]
   have hz0 : i = 0 → p.bar = 0 := fun h => by
    subst h
    have := hs.symm.trans HT0.out
    cases this; exact HZ.out
   have HRR := Lib.hid hrr
   have HFL : Hid (tmpsB bars (-1) ts = false → r = false) := Lib.hid fun h => by rw [← HR.out]; unfold tmpoB; rw [h]; simp
   have HPN : Hid (∀ i0 q, i + 1 = i0 + 1 → ts[i0]? = some q → q.bar = p.bar) := Lib.hid fun i0 q h1 h2 => by
    obtain rfl : i0 = i := by omega
    rw [hs] at h2; cases h2; rfl
   have hB5 := hB.out.next (w2 := wr.alloc (.cells #[.int .i64 p.bar, .int .i64 p.ticks, .int .i64 p.step] 88)) hsz ((Below.refl _ _).alloc hsr _)
   have x2 := heap_alloc_new wr (.cells #[.int .i64 p.bar, .int .i64 p.ticks, .int .i64 p.step] 88)
   have HPV : Hid (0 < i → ∀ W, Below w.heap.size w W → ∃ i0 : Nat, (i : Int) - 1 = (i0 : Int) ∧ (i0 : Int) < (nT : Int) ∧ W.cell? ⟨b, o + i0 * 3, none⟩ = some (.int .i64 last)) := Lib.hid fun h W hW => by
    obtain ⟨i0, rfl⟩ : ∃ i0, i = i0 + 1 := ⟨i - 1, by omega⟩
    obtain ⟨q, hq⟩ : ∃ s, ts[i0]? = some s := ⟨_, List.getElem?_eq_getElem (by rw [HN.out]; omega)⟩
    refine ⟨i0, by omega, by omega, ?_⟩
    rw [← hP.out i0 q rfl hq]
    exact (atT (HAT.out.below hW hlt) hq).1
   have e0 := hB5.c0
   have e1 := hB5.c1
   clear hs hA hB hrr hP
   go_wp2_with fail
   generalize wr.alloc (.cells #[.int .i64 p.bar, .int .i64 p.ticks, .int .i64 p.step] 88) = w5 at *
   have l0 : w5.cell? ⟨wr.heap.size, 0, none⟩ = some (.int .i64 p.bar) := cell_at x2 0 rfl
   have l1 : w5.cell? ⟨wr.heap.size, 1, none⟩ = some (.int .i64 p.ticks) := cell_at x2 1 rfl
   have l2 : w5.cell? ⟨wr.heap.size, 2, none⟩ = some (.int .i64 p.step) := cell_at x2 2 rfl
   have HB5 := Lib.hid hB5
   have HBW5 := Lib.hid (HBW.out.trans (hB5.below.mono HBW.out.size))
   clear c0 c1 c2 c3 p0 p1 p2 x2 hB5
   generalize wr.heap.size = gw at *
   have hpv : (0 < i ∧ ∃ i0 : Nat, (i : Int) - 1 = (i0 : Int) ∧ (i0 : Int) < (nT : Int) ∧ IntKind.i64.wrap (i0 : Int) = (i0 : Int) ∧ w5.cell? ⟨b, o + i0 * 3, none⟩ = some (.int .i64 last)) ∨ ¬ 0 < i := by
    by_cases h : 0 < i
    ·obtain ⟨i0, a1, a2, a3⟩ := HPV.out h w5 HBW5.out
     exact Or.inl ⟨h, i0, a1, a2, IntWalk.i64_in _ (by omega), a3⟩
    ·exact Or.inr h
   by_cases hbar : inB p.bar (last + 1) (bars - 1) = true
   case neg =>
    rw [Bool.not_eq_true] at hbar
    have hcs : (0 < i ∧ p.bar ≤ last) ∨ (¬ p.bar ≤ last ∧ bars ≤ p.bar) := by
     rw [inB_false] at hbar
     by_cases h : 0 < i
     ·omega
     ·have := hz0 (by omega); omega
    obtain rfl : r = false := HFL.out (by rw [HRR.out, hbar]; rfl)
    clear hbar HRR HFL HPN HPV hz0
    rcases hcs with ⟨hpi, hle2⟩ | ⟨hgt, hge⟩
    ·rcases hpv with ⟨hpi, i0, hi0, hi0n, hwi, pc⟩ | hpi2
     ·clear hlast
      go_quiet (fail)
      go_wp2_with fail
      go_ret
      exact ⟨rfl, bel_dn HBW5.out _⟩
     ·exact absurd hpi hpi2
    ·clear hlast
     rcases hpv with ⟨hpi, i0, hi0, hi0n, hwi, pc⟩ | hpi
     all_goals
      go_quiet (fail)
      go_wp2_with fail
      go_ret
      exact ⟨rfl, bel_dn HBW5.out _⟩
   have hbr := inB_iff.1 hbar
   have hgt : ¬ p.bar ≤ last := by omega
   have hlt2 : ¬ bars ≤ p.bar := by omega
   have hb5 : 0 ≤ p.bar := by omega
   have HBAR := Lib.hid hbar
   have HB6 := Lib.hid (fun q => hB5c HB5.out q)
   clear hbar hbr HPV hz0 hlast HBE
   rcases hpv with ⟨hpi, i0, hi0, hi0n, hwi, pc⟩ | hpi
   all_goals
    go_quiet (fail)
    go_wp2_with fail
    refine (rin13_any p.ticks (-65536) 65536 _).mono ?_
    rintro e w6 ⟨rfl, rfl⟩
    cases q0 : inB p.ticks (-65536) 65536 with
    | false =>
     obtain rfl : r = false := HFL.out (by rw [HRR.out, q0]; simp)
     clear q0
     go_wp2_with fail
     go_ret
     exact ⟨rfl, bel_dn HBW5.out _⟩
    | true =>
     have Q0 := Lib.hid q0
     clear q0
     go_wp2_with fail
     refine (rin13_any p.step (-65536) 65536 _).mono ?_
     rintro e w7 ⟨rfl, rfl⟩
     cases q1 : inB p.step (-65536) 65536 with
     | false =>
      obtain rfl : r = false := HFL.out (by rw [HRR.out, q1]; simp)
      clear q1
      go_wp2_with fail
      go_ret
      exact ⟨rfl, bel_dn HBW5.out _⟩
     | true =>
      have HA2 := Lib.hid (show tmpsB bars (-1) ts = tmpsB bars p.bar (ts.drop (i + 1)) by rw [HRR.out, HBAR.out, Q0.out, q1]; rfl)
      clear q1
      go_wp2_with fail
      go_roundw
      case rel => exact ⟨i + 1, p.bar, by omega, by go_num, Or.inr ⟨by omega, hb5⟩, HA2, HPN, Lib.hid (HB6.out _)⟩
      case measure => simp [intOf] <;> omega
  ·obtain rfl : i = nT := by omega
   have hin' : ¬ (i : Int) < (i : Int) := by omega
   have hTM : tmpsB bars (-1) ts = true := by
    have := hA.out
    rw [List.drop_of_length_le (by rw [HN.out]; exact Nat.le_refl _)] at this
    rw [this]; rfl
   obtain ⟨hso, hall⟩ := tmps_sorted hTM
   have hseg := seg_ticks hTM HT0.out HZ.out
   have hNW : ∀ x : Int, 0 ≤ x → x ≤ bars - 1 → NoWrap ts x := fun x h1 h2 => ⟨hso, upTo_pos HT0.out (by rw [HZ.out]; exact h1), h1, by omega, fun t ht => by have := hall t ht; omega⟩
   have HTM := Lib.hid hTM; have HSEG := Lib.hid hseg; have HNW := Lib.hid hNW; have HALL := Lib.hid hall; have HSO := Lib.hid hso
   have HTK := Lib.hid (fun (W : World) (hb : Below w.heap.size w W) (x : Int) (h1 : 0 ≤ x) (h2 : x ≤ bars - 1) => rticks_any bars x b o i cT vP vS ts W HN.out (by omega) (HAT.out.below hb hlt) (Nat.lt_of_lt_of_le hlt hb.size) (hNW x h1 h2))
   have HFL : Hid (∀ k, k < i → segB bars ts k = false → r = false) := Lib.hid fun k hk h => by
    rw [← HR.out]
    unfold tmpoB
    have : ticksB ts bars.toNat = false := by
     rw [Bool.eq_false_iff]
     intro q
     have := HSEG.out.1 q k (by rw [HN.out]; exact hk)
     rw [h] at this; cases this
    rw [this]; simp
   have HS0 : Hid (∀ k, k < 0 → segB bars ts k = true) := Lib.hid fun k hk => by omega
   clear hA hP hlast hTM hso hall hseg hNW c0 c1 c2 c3 hsr
   have c1 := hB.out.c1
   go_wp2_with fail
   clear c1 HBW2 HBE
   go_loopw [5] (fun jv wr => ∃ j : Nat, j ≤ i ∧ jv = .int .i64 j ∧ Hid (∀ k, k < j → segB bars ts k = true) ∧ Hid (ClkBox w0 w.heap.size bars (.slice (some ⟨b, o, none⟩) i cT) vP vS wr)) (fun jv _ => i - (intOf jv).toNat)
   case atStart => exact ⟨0, Nat.zero_le _, rfl, HS0, hB⟩
   case round =>
    clear hB HS0
    obtain ⟨j, hj, rfl, hS, hB⟩ := hrel
    obtain ⟨hbe, c0, c1, c2, c3⟩ := hB.out
    have hbw2 := HBW.out.trans (hbe.mono HBW.out.size)
    have HBE := Lib.hid hbe; have HBW2 := Lib.hid hbw2
    have hsr := hbe.size
    clear hbe hbw2
    by_cases hji : j < i
    ·have hji' : (j : Int) < (i : Int) := by omega
     obtain ⟨p, hs⟩ : ∃ s, ts[j]? = some s := ⟨_, List.getElem?_eq_getElem (by rw [HN.out]; exact hji)⟩
     obtain ⟨p0, p1, p2⟩ := atT (HAT.out.below HBW2.out hlt) hs
     obtain ⟨j1, hj1⟩ : ∃ x, j + 1 = x := ⟨_, rfl⟩
     have hj1I : (j : Int) + 1 = (j1 : Int) := by omega
     obtain ⟨L, hL⟩ : ∃ x, lastOf bars ts j = x := ⟨_, rfl⟩
     have hlo := lastOf_le HTM.out hs
     rw [hL] at hlo
     have hpb := HALL.out p (List.mem_of_getElem? hs)
     have hcase : (∃ q : Tmp, (j1 : Int) < (i : Int) ∧ wr.cell? ⟨b, o + j1 * 3, none⟩ = some (.int .i64 q.bar) ∧ q.bar - 1 = L ∧ -4096 ≤ q.bar ∧ q.bar ≤ 4096) ∨ (¬ (j1 : Int) < (i : Int) ∧ bars - 1 = L) := by
      by_cases h : j1 < i
      ·obtain ⟨q, hq⟩ : ∃ s, ts[j1]? = some s := ⟨_, List.getElem?_eq_getElem (by rw [HN.out]; exact h)⟩
       have hqb := HALL.out q (List.mem_of_getElem? hq)
       refine Or.inl ⟨q, by omega, (atT (HAT.out.below HBW2.out hlt) hq).1, ?_, by omega, by omega⟩
       rw [← hL]; unfold lastOf; rw [hj1, hq]
      ·refine Or.inr ⟨by omega, ?_⟩
       rw [← hL]; unfold lastOf; rw [hj1, List.getElem?_eq_none (by rw [HN.out]; omega)]
     have hsg : segB bars ts j = (inB (ticksAt ts p.bar) 1 65536 && inB (ticksAt ts L) 1 65536) := by
      unfold segB
      rw [hL, show ts[j]! = p by simp [hs]]
     have HSG := Lib.hid hsg
     have HFJ := Lib.hid (HFL.out j hji)
     have HT1 := Lib.hid (fun (W : World) (hb : Below w.heap.size w W) => HTK.out W hb p.bar (by omega) (by omega))
     have HT2 := Lib.hid (fun (W : World) (hb : Below w.heap.size w W) => HTK.out W hb L (by omega) (by omega))
     have HSN : Hid (segB bars ts j = true → ∀ k, k < j1 → segB bars ts k = true) := Lib.hid fun h k hk => by
      by_cases e : k = j
      ·rw [e]; exact h
      ·exact hS.out k (by omega)
     clear hs hL hsg hS p1 p2
     have KS : Hid (∀ w2, Below wr.heap.size wr w2 → w2.cell? ⟨w.heap.size, 0, none⟩ = some (.int .i64 bars) ∧ w2.cell? ⟨w.heap.size, 1, none⟩ = some (.slice (some ⟨b, o, none⟩) i cT) ∧ w2.cell? ⟨w.heap.size, 2, none⟩ = some vP ∧ w2.cell? ⟨w.heap.size, 3, none⟩ = some vS ∧ w2.cell? ⟨b, o + j * 3, none⟩ = some (.int .i64 p.bar)) := Lib.hid fun w2 h => by
      have hb := hB.out.next hsz (h.mono hsr)
      refine ⟨hb.c0, hb.c1, hb.c2, hb.c3, ?_⟩
      exact (h.cell (p := ⟨b, o + j * 3, none⟩) (Nat.lt_of_lt_of_le hlt HBW2.out.size)).trans p0
     have HBN : Hid (∀ w2, Below wr.heap.size wr w2 → ClkBox w0 w.heap.size bars (.slice (some ⟨b, o, none⟩) i cT) vP vS w2) := Lib.hid fun w2 h => hB.out.next hsz (h.mono hsr)
     have HI1 := Lib.hid (fun W => rin13_any (ticksAt ts p.bar) 1 65536 W)
     have HI2 := Lib.hid (fun W => rin13_any (ticksAt ts L) 1 65536 W)
     clear hB hpb hlo
     obtain ⟨T1, hT1⟩ : ∃ x, ticksAt ts p.bar = x := ⟨_, rfl⟩
     obtain ⟨T2, hT2⟩ : ∃ x, ticksAt ts L = x := ⟨_, rfl⟩
     rw [hT1] at HI1 HT1 HSG
     rw [hT2] at HI2 HT2 HSG
     clear hT1 hT2
     cases q1 : inB T1 1 65536 with
     | false =>
      obtain rfl : r = false := HFJ.out (by rw [HSG.out, q1]; rfl)
      rw [q1] at HI1
      clear q1 HSG HFJ HSN
      rcases hcase with ⟨q, hj1i, q0, hqL, hqa, hqb⟩ | ⟨hj1i, hqL⟩
      all_goals
       go_wp2_with fail
       clear hqL hj1i
       refine wp_region_noPanic ?_
       refine wp_region_held (S := fun w2 => w2.cell? ⟨w.heap.size, 0, none⟩ = some (.int .i64 bars) ∧ w2.cell? ⟨w.heap.size, 1, none⟩ = some (.slice (some ⟨b, o, none⟩) i cT) ∧ w2.cell? ⟨w.heap.size, 2, none⟩ = some vP ∧ w2.cell? ⟨w.heap.size, 3, none⟩ = some vS ∧ w2.cell? ⟨b, o + j * 3, none⟩ = some (.int .i64 p.bar)) (by kernel_rfl) ?_
       change wpAnyH _ _ _ _ _ _ _ _ wr.drew
       have hS := KS.out _ (Below.refl wr.heap.size wr).drew
       refine wpAnyH_take (i := 0) (oi := _) (v := .agg #[.int .i64 bars, .slice (some ⟨b, o, none⟩) i cT, vP, vS]) rfl (by kernel_rfl) (by kernel_rfl) (by kernel_rfl) (fun _ _ _ h => h) (Or.inl ⟨by kernel_rfl, fun w hw => by obtain ⟨h1, h2, h3, h4, h5⟩ := hw; go_simp⟩) hS ?_
       simp only [List.getElem_toArray, List.getElem_cons_zero, List.getElem_cons_succ, Act.put, List.setIfInBounds_toArray, List.set_cons_zero, List.set_cons_succ]
       refine wpAnyH_take (i := 1) (oi := _) (v := .pointer (some ⟨w.heap.size, 1, none⟩)) rfl (by kernel_rfl) (by kernel_rfl) (by kernel_rfl) (fun _ _ _ h => h) (Or.inl ⟨by kernel_rfl, fun w hw => by obtain ⟨h1, h2, h3, h4, h5⟩ := hw; go_simp⟩) hS ?_
       simp only [List.getElem_toArray, List.getElem_cons_zero, List.getElem_cons_succ, Act.put, List.setIfInBounds_toArray, List.set_cons_zero, List.set_cons_succ]
       refine wpAnyH_take (i := 2) (oi := _) (v := .slice (some ⟨b, o, none⟩) i cT) rfl (by kernel_rfl) (by kernel_rfl) (by kernel_rfl) (fun _ _ _ h => h) (Or.inl ⟨by kernel_rfl, fun w hw => by obtain ⟨h1, h2, h3, h4, h5⟩ := hw; go_simp⟩) hS ?_
       simp only [List.getElem_toArray, List.getElem_cons_zero, List.getElem_cons_succ, Act.put, List.setIfInBounds_toArray, List.set_cons_zero, List.set_cons_succ]
       refine wpAnyH_take (i := 3) (oi := _) (v := .int .i64 j) rfl (by kernel_rfl) (by kernel_rfl) (by kernel_rfl) (fun _ _ _ h => h) (Or.inl ⟨by kernel_rfl, fun w hw => by obtain ⟨h1, h2, h3, h4, h5⟩ := hw; go_simp⟩) hS ?_
       simp only [List.getElem_toArray, List.getElem_cons_zero, List.getElem_cons_succ, Act.put, List.setIfInBounds_toArray, List.set_cons_zero, List.set_cons_succ]
       refine wpAnyH_take (i := 4) (oi := _) (v := .pointer (some ⟨b, o + j * 3, none⟩)) rfl (by kernel_rfl) (by kernel_rfl) (by kernel_rfl) (fun _ _ _ h => h) (Or.inl ⟨by kernel_rfl, fun w hw => by obtain ⟨h1, h2, h3, h4, h5⟩ := hw; go_simp⟩) hS ?_
       simp only [List.getElem_toArray, List.getElem_cons_zero, List.getElem_cons_succ, Act.put, List.setIfInBounds_toArray, List.set_cons_zero, List.set_cons_succ]
       refine wpAnyH_take (i := 5) (oi := _) (v := .pointer (some ⟨b, o + j * 3, none⟩)) rfl (by kernel_rfl) (by kernel_rfl) (by kernel_rfl) (fun _ _ _ h => h) (Or.inl ⟨by kernel_rfl, fun w hw => by obtain ⟨h1, h2, h3, h4, h5⟩ := hw; go_simp⟩) hS ?_
       simp only [List.getElem_toArray, List.getElem_cons_zero, List.getElem_cons_succ, Act.put, List.setIfInBounds_toArray, List.set_cons_zero, List.set_cons_succ]
       refine wpAnyH_take (i := 6) (oi := _) (v := .int .i64 p.bar) rfl (by kernel_rfl) (by kernel_rfl) (by kernel_rfl) (fun _ _ _ h => h) (Or.inl ⟨by kernel_rfl, fun w hw => by obtain ⟨h1, h2, h3, h4, h5⟩ := hw; go_simp⟩) hS ?_
       simp only [List.getElem_toArray, List.getElem_cons_zero, List.getElem_cons_succ, Act.put, List.setIfInBounds_toArray, List.set_cons_zero, List.set_cons_succ]
       refine wpAnyH_ready (rs := [7]) (by kernel_rfl) (by simp) ?_
       refine AllReadyH.cons (o := _) rfl (fun K1 hK => ?_) AllReadyH.nil
       go_simp
       refine (HT1.out _ HBW2.out.drew).mono ?_
       rintro e w5 ⟨rfl, hb5⟩
       have hbX : Below wr.heap.size wr w5 := (Below.refl wr.heap.size wr).drew.trans hb5
       have HBX := Lib.hid hbX
       have hS2 := KS.out _ hbX
       refine hK.out _ _ hS2 (fun _ => ?_)
       clear hK K1 hS hb5 hbX
       try simp only [List.getElem_toArray, List.getElem_cons_zero, List.getElem_cons_succ, Act.put, List.setIfInBounds_toArray, List.set_cons_zero, List.set_cons_succ]
       refine wpAnyH_ready (rs := [8]) (by kernel_rfl) (by simp) ?_
       refine AllReadyH.cons (o := _) rfl (fun K1 hK => ?_) AllReadyH.nil
       go_simp
       refine (HI1.out _).mono ?_
       rintro e w6 ⟨rfl, rfl⟩
       refine hK.out _ _ hS2 (fun _ => ?_)
       clear hK K1
       try simp only [List.getElem_toArray, List.getElem_cons_zero, List.getElem_cons_succ, Act.put, List.setIfInBounds_toArray, List.set_cons_zero, List.set_cons_succ]
       refine wpAnyH_take (i := 9) (oi := _) (v := .bool true) rfl (by kernel_rfl) (by kernel_rfl) (by kernel_rfl) (fun _ _ _ h => h) (Or.inl ⟨by kernel_rfl, fun w hw => by obtain ⟨h1, h2, h3, h4, h5⟩ := hw; go_simp⟩) hS2 ?_
       simp only [List.getElem_toArray, List.getElem_cons_zero, List.getElem_cons_succ, Act.put, List.setIfInBounds_toArray, List.set_cons_zero, List.set_cons_succ]
       refine wpAnyH_take (i := 10) (oi := _) (v := .bool true) rfl (by kernel_rfl) (by kernel_rfl) (by kernel_rfl) (fun _ _ _ h => h) (Or.inl ⟨by kernel_rfl, fun w hw => by obtain ⟨h1, h2, h3, h4, h5⟩ := hw; go_simp⟩) hS2 ?_
       simp only [List.getElem_toArray, List.getElem_cons_zero, List.getElem_cons_succ, Act.put, List.setIfInBounds_toArray, List.set_cons_zero, List.set_cons_succ]
       refine wpAnyH_take (i := 11) (oi := _) (v := undef) rfl (by kernel_rfl) (by kernel_rfl) (by kernel_rfl) (fun _ _ _ h => h) (Or.inr ⟨by kernel_rfl, rfl⟩) hS2 ?_
       simp only [List.getElem_toArray, List.getElem_cons_zero, List.getElem_cons_succ, Act.put, List.setIfInBounds_toArray, List.set_cons_zero, List.set_cons_succ]
       refine wpAnyH_take (i := 12) (oi := _) (v := undef) rfl (by kernel_rfl) (by kernel_rfl) (by kernel_rfl) (fun _ _ _ h => h) (Or.inr ⟨by kernel_rfl, rfl⟩) hS2 ?_
       simp only [List.getElem_toArray, List.getElem_cons_zero, List.getElem_cons_succ, Act.put, List.setIfInBounds_toArray, List.set_cons_zero, List.set_cons_succ]
       refine wpAnyH_take (i := 13) (oi := _) (v := undef) rfl (by kernel_rfl) (by kernel_rfl) (by kernel_rfl) (fun _ _ _ h => h) (Or.inr ⟨by kernel_rfl, rfl⟩) hS2 ?_
       simp only [List.getElem_toArray, List.getElem_cons_zero, List.getElem_cons_succ, Act.put, List.setIfInBounds_toArray, List.set_cons_zero, List.set_cons_succ]
       refine wpAnyH_take (i := 14) (oi := _) (v := undef) rfl (by kernel_rfl) (by kernel_rfl) (by kernel_rfl) (fun _ _ _ h => h) (Or.inr ⟨by kernel_rfl, rfl⟩) hS2 ?_
       simp only [List.getElem_toArray, List.getElem_cons_zero, List.getElem_cons_succ, Act.put, List.setIfInBounds_toArray, List.set_cons_zero, List.set_cons_succ]
       refine wpAnyH_take (i := 15) (oi := _) (v := undef) rfl (by kernel_rfl) (by kernel_rfl) (by kernel_rfl) (fun _ _ _ h => h) (Or.inr ⟨by kernel_rfl, rfl⟩) hS2 ?_
       simp only [List.getElem_toArray, List.getElem_cons_zero, List.getElem_cons_succ, Act.put, List.setIfInBounds_toArray, List.set_cons_zero, List.set_cons_succ]
       refine wpAnyH_take (i := 16) (oi := _) (v := .bool true) rfl (by kernel_rfl) (by kernel_rfl) (by kernel_rfl) (fun _ _ _ h => h) (Or.inl ⟨by kernel_rfl, fun w hw => by obtain ⟨h1, h2, h3, h4, h5⟩ := hw; go_simp⟩) hS2 ?_
       simp only [List.getElem_toArray, List.getElem_cons_zero, List.getElem_cons_succ, Act.put, List.setIfInBounds_toArray, List.set_cons_zero, List.set_cons_succ]
       refine wpAnyH_done (by kernel_rfl) ?_ _
       refine NoPanic.normal ?_
       clear hS2
       go_wp2_with fail
       go_ret
       exact ⟨rfl, HBW2.out.trans (HBX.out.mono HBW2.out.size)⟩
     | true =>
      rw [q1] at HI1
      have Q1 := Lib.hid q1
      clear q1
      cases q2 : inB T2 1 65536 with
      | false =>
       obtain rfl : r = false := HFJ.out (by rw [HSG.out, q2]; simp)
       rw [q2] at HI2
       clear q2 HSG HFJ HSN
       rcases hcase with ⟨q, hj1i, q0, hqL, hqa, hqb⟩ | ⟨hj1i, hqL⟩
       all_goals
        go_wp2_with fail
        clear hqL hj1i
        refine wp_region_noPanic ?_
        refine wp_region_held (S := fun w2 => w2.cell? ⟨w.heap.size, 0, none⟩ = some (.int .i64 bars) ∧ w2.cell? ⟨w.heap.size, 1, none⟩ = some (.slice (some ⟨b, o, none⟩) i cT) ∧ w2.cell? ⟨w.heap.size, 2, none⟩ = some vP ∧ w2.cell? ⟨w.heap.size, 3, none⟩ = some vS ∧ w2.cell? ⟨b, o + j * 3, none⟩ = some (.int .i64 p.bar)) (by kernel_rfl) ?_
        change wpAnyH _ _ _ _ _ _ _ _ wr.drew
        have hS := KS.out _ (Below.refl wr.heap.size wr).drew
        refine wpAnyH_take (i := 0) (oi := _) (v := .agg #[.int .i64 bars, .slice (some ⟨b, o, none⟩) i cT, vP, vS]) rfl (by kernel_rfl) (by kernel_rfl) (by kernel_rfl) (fun _ _ _ h => h) (Or.inl ⟨by kernel_rfl, fun w hw => by obtain ⟨h1, h2, h3, h4, h5⟩ := hw; go_simp⟩) hS ?_
        simp only [List.getElem_toArray, List.getElem_cons_zero, List.getElem_cons_succ, Act.put, List.setIfInBounds_toArray, List.set_cons_zero, List.set_cons_succ]
        refine wpAnyH_take (i := 1) (oi := _) (v := .pointer (some ⟨w.heap.size, 1, none⟩)) rfl (by kernel_rfl) (by kernel_rfl) (by kernel_rfl) (fun _ _ _ h => h) (Or.inl ⟨by kernel_rfl, fun w hw => by obtain ⟨h1, h2, h3, h4, h5⟩ := hw; go_simp⟩) hS ?_
        simp only [List.getElem_toArray, List.getElem_cons_zero, List.getElem_cons_succ, Act.put, List.setIfInBounds_toArray, List.set_cons_zero, List.set_cons_succ]
        refine wpAnyH_take (i := 2) (oi := _) (v := .slice (some ⟨b, o, none⟩) i cT) rfl (by kernel_rfl) (by kernel_rfl) (by kernel_rfl) (fun _ _ _ h => h) (Or.inl ⟨by kernel_rfl, fun w hw => by obtain ⟨h1, h2, h3, h4, h5⟩ := hw; go_simp⟩) hS ?_
        simp only [List.getElem_toArray, List.getElem_cons_zero, List.getElem_cons_succ, Act.put, List.setIfInBounds_toArray, List.set_cons_zero, List.set_cons_succ]
        refine wpAnyH_take (i := 3) (oi := _) (v := .int .i64 j) rfl (by kernel_rfl) (by kernel_rfl) (by kernel_rfl) (fun _ _ _ h => h) (Or.inl ⟨by kernel_rfl, fun w hw => by obtain ⟨h1, h2, h3, h4, h5⟩ := hw; go_simp⟩) hS ?_
        simp only [List.getElem_toArray, List.getElem_cons_zero, List.getElem_cons_succ, Act.put, List.setIfInBounds_toArray, List.set_cons_zero, List.set_cons_succ]
        refine wpAnyH_take (i := 4) (oi := _) (v := .pointer (some ⟨b, o + j * 3, none⟩)) rfl (by kernel_rfl) (by kernel_rfl) (by kernel_rfl) (fun _ _ _ h => h) (Or.inl ⟨by kernel_rfl, fun w hw => by obtain ⟨h1, h2, h3, h4, h5⟩ := hw; go_simp⟩) hS ?_
        simp only [List.getElem_toArray, List.getElem_cons_zero, List.getElem_cons_succ, Act.put, List.setIfInBounds_toArray, List.set_cons_zero, List.set_cons_succ]
        refine wpAnyH_take (i := 5) (oi := _) (v := .pointer (some ⟨b, o + j * 3, none⟩)) rfl (by kernel_rfl) (by kernel_rfl) (by kernel_rfl) (fun _ _ _ h => h) (Or.inl ⟨by kernel_rfl, fun w hw => by obtain ⟨h1, h2, h3, h4, h5⟩ := hw; go_simp⟩) hS ?_
        simp only [List.getElem_toArray, List.getElem_cons_zero, List.getElem_cons_succ, Act.put, List.setIfInBounds_toArray, List.set_cons_zero, List.set_cons_succ]
        refine wpAnyH_take (i := 6) (oi := _) (v := .int .i64 p.bar) rfl (by kernel_rfl) (by kernel_rfl) (by kernel_rfl) (fun _ _ _ h => h) (Or.inl ⟨by kernel_rfl, fun w hw => by obtain ⟨h1, h2, h3, h4, h5⟩ := hw; go_simp⟩) hS ?_
        simp only [List.getElem_toArray, List.getElem_cons_zero, List.getElem_cons_succ, Act.put, List.setIfInBounds_toArray, List.set_cons_zero, List.set_cons_succ]
        refine wpAnyH_ready (rs := [7]) (by kernel_rfl) (by simp) ?_
        refine AllReadyH.cons (o := _) rfl (fun K1 hK => ?_) AllReadyH.nil
        go_simp
        refine (HT1.out _ HBW2.out.drew).mono ?_
        rintro e w5 ⟨rfl, hb5⟩
        have hbX : Below wr.heap.size wr w5 := (Below.refl wr.heap.size wr).drew.trans hb5
        have HBX := Lib.hid hbX
        have hS2 := KS.out _ hbX
        refine hK.out _ _ hS2 (fun _ => ?_)
        clear hK K1 hS hb5 hbX
        try simp only [List.getElem_toArray, List.getElem_cons_zero, List.getElem_cons_succ, Act.put, List.setIfInBounds_toArray, List.set_cons_zero, List.set_cons_succ]
        refine wpAnyH_ready (rs := [8]) (by kernel_rfl) (by simp) ?_
        refine AllReadyH.cons (o := _) rfl (fun K1 hK => ?_) AllReadyH.nil
        go_simp
        refine (HI1.out _).mono ?_
        rintro e w6 ⟨rfl, rfl⟩
        refine hK.out _ _ hS2 (fun _ => ?_)
        clear hK K1
        try simp only [List.getElem_toArray, List.getElem_cons_zero, List.getElem_cons_succ, Act.put, List.setIfInBounds_toArray, List.set_cons_zero, List.set_cons_succ]
        refine wpAnyH_take (i := 9) (oi := _) (v := .bool false) rfl (by kernel_rfl) (by kernel_rfl) (by kernel_rfl) (fun _ _ _ h => h) (Or.inl ⟨by kernel_rfl, fun w hw => by obtain ⟨h1, h2, h3, h4, h5⟩ := hw; go_simp⟩) hS2 ?_
        simp only [List.getElem_toArray, List.getElem_cons_zero, List.getElem_cons_succ, Act.put, List.setIfInBounds_toArray, List.set_cons_zero, List.set_cons_succ]
        refine wpAnyH_take (i := 10) (oi := _) (v := .bool false) rfl (by kernel_rfl) (by kernel_rfl) (by kernel_rfl) (fun _ _ _ h => h) (Or.inl ⟨by kernel_rfl, fun w hw => by obtain ⟨h1, h2, h3, h4, h5⟩ := hw; go_simp⟩) hS2 ?_
        simp only [List.getElem_toArray, List.getElem_cons_zero, List.getElem_cons_succ, Act.put, List.setIfInBounds_toArray, List.set_cons_zero, List.set_cons_succ]
        refine wpAnyH_take (i := 11) (oi := _) (v := .agg #[.int .i64 bars, .slice (some ⟨b, o, none⟩) i cT, vP, vS]) rfl (by kernel_rfl) (by kernel_rfl) (by kernel_rfl) (fun _ _ _ h => h) (Or.inl ⟨by kernel_rfl, fun w hw => by obtain ⟨h1, h2, h3, h4, h5⟩ := hw; go_simp⟩) hS2 ?_
        simp only [List.getElem_toArray, List.getElem_cons_zero, List.getElem_cons_succ, Act.put, List.setIfInBounds_toArray, List.set_cons_zero, List.set_cons_succ]
        refine wpAnyH_take (i := 12) (oi := _) (v := .int .i64 L) rfl (by kernel_rfl) (by kernel_rfl) (by kernel_rfl) (fun _ _ _ h => h) (Or.inl ⟨by kernel_rfl, fun w hw => by obtain ⟨h1, h2, h3, h4, h5⟩ := hw; go_simp⟩) hS2 ?_
        simp only [List.getElem_toArray, List.getElem_cons_zero, List.getElem_cons_succ, Act.put, List.setIfInBounds_toArray, List.set_cons_zero, List.set_cons_succ]
        refine wpAnyH_ready (rs := [13]) (by kernel_rfl) (by simp) ?_
        refine AllReadyH.cons (o := _) rfl (fun K1 hK => ?_) AllReadyH.nil
        go_simp
        refine (HT2.out _ (HBW2.out.trans (HBX.out.mono HBW2.out.size))).mono ?_
        rintro e w8 ⟨rfl, hb8⟩
        have hbY : Below wr.heap.size wr w8 := HBX.out.trans (hb8.mono HBX.out.size)
        have HBY := Lib.hid hbY
        have hS3 := KS.out _ hbY
        refine hK.out _ _ hS3 (fun _ => ?_)
        clear hK K1 hS2 hb8 hbY
        try simp only [List.getElem_toArray, List.getElem_cons_zero, List.getElem_cons_succ, Act.put, List.setIfInBounds_toArray, List.set_cons_zero, List.set_cons_succ]
        refine wpAnyH_ready (rs := [14]) (by kernel_rfl) (by simp) ?_
        refine AllReadyH.cons (o := _) rfl (fun K1 hK => ?_) AllReadyH.nil
        go_simp
        refine (HI2.out _).mono ?_
        rintro e w9 ⟨rfl, rfl⟩
        refine hK.out _ _ hS3 (fun _ => ?_)
        clear hK K1
        try simp only [List.getElem_toArray, List.getElem_cons_zero, List.getElem_cons_succ, Act.put, List.setIfInBounds_toArray, List.set_cons_zero, List.set_cons_succ]
        refine wpAnyH_take (i := 15) (oi := _) (v := .bool true) rfl (by kernel_rfl) (by kernel_rfl) (by kernel_rfl) (fun _ _ _ h => h) (Or.inl ⟨by kernel_rfl, fun w hw => by obtain ⟨h1, h2, h3, h4, h5⟩ := hw; go_simp⟩) hS3 ?_
        simp only [List.getElem_toArray, List.getElem_cons_zero, List.getElem_cons_succ, Act.put, List.setIfInBounds_toArray, List.set_cons_zero, List.set_cons_succ]
        refine wpAnyH_take (i := 16) (oi := _) (v := .bool true) rfl (by kernel_rfl) (by kernel_rfl) (by kernel_rfl) (fun _ _ _ h => h) (Or.inl ⟨by kernel_rfl, fun w hw => by obtain ⟨h1, h2, h3, h4, h5⟩ := hw; go_simp⟩) hS3 ?_
        simp only [List.getElem_toArray, List.getElem_cons_zero, List.getElem_cons_succ, Act.put, List.setIfInBounds_toArray, List.set_cons_zero, List.set_cons_succ]
        refine wpAnyH_done (by kernel_rfl) ?_ _
        refine NoPanic.normal ?_
        clear hS3
        go_wp2_with fail
        go_ret
        exact ⟨rfl, HBW2.out.trans (HBY.out.mono HBW2.out.size)⟩
      | true =>
       have HSN2 := Lib.hid (HSN.out (by rw [HSG.out, Q1.out, q2]; rfl))
       rw [q2] at HI2
       clear q2 HSG HFJ HSN
       rcases hcase with ⟨q, hj1i, q0, hqL, hqa, hqb⟩ | ⟨hj1i, hqL⟩
       all_goals
        go_wp2_with fail
        clear hqL hj1i
        refine wp_region_noPanic ?_
        refine wp_region_held (S := fun w2 => w2.cell? ⟨w.heap.size, 0, none⟩ = some (.int .i64 bars) ∧ w2.cell? ⟨w.heap.size, 1, none⟩ = some (.slice (some ⟨b, o, none⟩) i cT) ∧ w2.cell? ⟨w.heap.size, 2, none⟩ = some vP ∧ w2.cell? ⟨w.heap.size, 3, none⟩ = some vS ∧ w2.cell? ⟨b, o + j * 3, none⟩ = some (.int .i64 p.bar)) (by kernel_rfl) ?_
        change wpAnyH _ _ _ _ _ _ _ _ wr.drew
        have hS := KS.out _ (Below.refl wr.heap.size wr).drew
        refine wpAnyH_take (i := 0) (oi := _) (v := .agg #[.int .i64 bars, .slice (some ⟨b, o, none⟩) i cT, vP, vS]) rfl (by kernel_rfl) (by kernel_rfl) (by kernel_rfl) (fun _ _ _ h => h) (Or.inl ⟨by kernel_rfl, fun w hw => by obtain ⟨h1, h2, h3, h4, h5⟩ := hw; go_simp⟩) hS ?_
        simp only [List.getElem_toArray, List.getElem_cons_zero, List.getElem_cons_succ, Act.put, List.setIfInBounds_toArray, List.set_cons_zero, List.set_cons_succ]
        refine wpAnyH_take (i := 1) (oi := _) (v := .pointer (some ⟨w.heap.size, 1, none⟩)) rfl (by kernel_rfl) (by kernel_rfl) (by kernel_rfl) (fun _ _ _ h => h) (Or.inl ⟨by kernel_rfl, fun w hw => by obtain ⟨h1, h2, h3, h4, h5⟩ := hw; go_simp⟩) hS ?_
        simp only [List.getElem_toArray, List.getElem_cons_zero, List.getElem_cons_succ, Act.put, List.setIfInBounds_toArray, List.set_cons_zero, List.set_cons_succ]
        refine wpAnyH_take (i := 2) (oi := _) (v := .slice (some ⟨b, o, none⟩) i cT) rfl (by kernel_rfl) (by kernel_rfl) (by kernel_rfl) (fun _ _ _ h => h) (Or.inl ⟨by kernel_rfl, fun w hw => by obtain ⟨h1, h2, h3, h4, h5⟩ := hw; go_simp⟩) hS ?_
        simp only [List.getElem_toArray, List.getElem_cons_zero, List.getElem_cons_succ, Act.put, List.setIfInBounds_toArray, List.set_cons_zero, List.set_cons_succ]
        refine wpAnyH_take (i := 3) (oi := _) (v := .int .i64 j) rfl (by kernel_rfl) (by kernel_rfl) (by kernel_rfl) (fun _ _ _ h => h) (Or.inl ⟨by kernel_rfl, fun w hw => by obtain ⟨h1, h2, h3, h4, h5⟩ := hw; go_simp⟩) hS ?_
        simp only [List.getElem_toArray, List.getElem_cons_zero, List.getElem_cons_succ, Act.put, List.setIfInBounds_toArray, List.set_cons_zero, List.set_cons_succ]
        refine wpAnyH_take (i := 4) (oi := _) (v := .pointer (some ⟨b, o + j * 3, none⟩)) rfl (by kernel_rfl) (by kernel_rfl) (by kernel_rfl) (fun _ _ _ h => h) (Or.inl ⟨by kernel_rfl, fun w hw => by obtain ⟨h1, h2, h3, h4, h5⟩ := hw; go_simp⟩) hS ?_
        simp only [List.getElem_toArray, List.getElem_cons_zero, List.getElem_cons_succ, Act.put, List.setIfInBounds_toArray, List.set_cons_zero, List.set_cons_succ]
        refine wpAnyH_take (i := 5) (oi := _) (v := .pointer (some ⟨b, o + j * 3, none⟩)) rfl (by kernel_rfl) (by kernel_rfl) (by kernel_rfl) (fun _ _ _ h => h) (Or.inl ⟨by kernel_rfl, fun w hw => by obtain ⟨h1, h2, h3, h4, h5⟩ := hw; go_simp⟩) hS ?_
        simp only [List.getElem_toArray, List.getElem_cons_zero, List.getElem_cons_succ, Act.put, List.setIfInBounds_toArray, List.set_cons_zero, List.set_cons_succ]
        refine wpAnyH_take (i := 6) (oi := _) (v := .int .i64 p.bar) rfl (by kernel_rfl) (by kernel_rfl) (by kernel_rfl) (fun _ _ _ h => h) (Or.inl ⟨by kernel_rfl, fun w hw => by obtain ⟨h1, h2, h3, h4, h5⟩ := hw; go_simp⟩) hS ?_
        simp only [List.getElem_toArray, List.getElem_cons_zero, List.getElem_cons_succ, Act.put, List.setIfInBounds_toArray, List.set_cons_zero, List.set_cons_succ]
        refine wpAnyH_ready (rs := [7]) (by kernel_rfl) (by simp) ?_
        refine AllReadyH.cons (o := _) rfl (fun K1 hK => ?_) AllReadyH.nil
        go_simp
        refine (HT1.out _ HBW2.out.drew).mono ?_
        rintro e w5 ⟨rfl, hb5⟩
        have hbX : Below wr.heap.size wr w5 := (Below.refl wr.heap.size wr).drew.trans hb5
        have HBX := Lib.hid hbX
        have hS2 := KS.out _ hbX
        refine hK.out _ _ hS2 (fun _ => ?_)
        clear hK K1 hS hb5 hbX
        try simp only [List.getElem_toArray, List.getElem_cons_zero, List.getElem_cons_succ, Act.put, List.setIfInBounds_toArray, List.set_cons_zero, List.set_cons_succ]
        refine wpAnyH_ready (rs := [8]) (by kernel_rfl) (by simp) ?_
        refine AllReadyH.cons (o := _) rfl (fun K1 hK => ?_) AllReadyH.nil
        go_simp
        refine (HI1.out _).mono ?_
        rintro e w6 ⟨rfl, rfl⟩
        refine hK.out _ _ hS2 (fun _ => ?_)
        clear hK K1
        try simp only [List.getElem_toArray, List.getElem_cons_zero, List.getElem_cons_succ, Act.put, List.setIfInBounds_toArray, List.set_cons_zero, List.set_cons_succ]
        refine wpAnyH_take (i := 9) (oi := _) (v := .bool false) rfl (by kernel_rfl) (by kernel_rfl) (by kernel_rfl) (fun _ _ _ h => h) (Or.inl ⟨by kernel_rfl, fun w hw => by obtain ⟨h1, h2, h3, h4, h5⟩ := hw; go_simp⟩) hS2 ?_
        simp only [List.getElem_toArray, List.getElem_cons_zero, List.getElem_cons_succ, Act.put, List.setIfInBounds_toArray, List.set_cons_zero, List.set_cons_succ]
        refine wpAnyH_take (i := 10) (oi := _) (v := .bool false) rfl (by kernel_rfl) (by kernel_rfl) (by kernel_rfl) (fun _ _ _ h => h) (Or.inl ⟨by kernel_rfl, fun w hw => by obtain ⟨h1, h2, h3, h4, h5⟩ := hw; go_simp⟩) hS2 ?_
        simp only [List.getElem_toArray, List.getElem_cons_zero, List.getElem_cons_succ, Act.put, List.setIfInBounds_toArray, List.set_cons_zero, List.set_cons_succ]
        refine wpAnyH_take (i := 11) (oi := _) (v := .agg #[.int .i64 bars, .slice (some ⟨b, o, none⟩) i cT, vP, vS]) rfl (by kernel_rfl) (by kernel_rfl) (by kernel_rfl) (fun _ _ _ h => h) (Or.inl ⟨by kernel_rfl, fun w hw => by obtain ⟨h1, h2, h3, h4, h5⟩ := hw; go_simp⟩) hS2 ?_
        simp only [List.getElem_toArray, List.getElem_cons_zero, List.getElem_cons_succ, Act.put, List.setIfInBounds_toArray, List.set_cons_zero, List.set_cons_succ]
        refine wpAnyH_take (i := 12) (oi := _) (v := .int .i64 L) rfl (by kernel_rfl) (by kernel_rfl) (by kernel_rfl) (fun _ _ _ h => h) (Or.inl ⟨by kernel_rfl, fun w hw => by obtain ⟨h1, h2, h3, h4, h5⟩ := hw; go_simp⟩) hS2 ?_
        simp only [List.getElem_toArray, List.getElem_cons_zero, List.getElem_cons_succ, Act.put, List.setIfInBounds_toArray, List.set_cons_zero, List.set_cons_succ]
        refine wpAnyH_ready (rs := [13]) (by kernel_rfl) (by simp) ?_
        refine AllReadyH.cons (o := _) rfl (fun K1 hK => ?_) AllReadyH.nil
        go_simp
        refine (HT2.out _ (HBW2.out.trans (HBX.out.mono HBW2.out.size))).mono ?_
        rintro e w8 ⟨rfl, hb8⟩
        have hbY : Below wr.heap.size wr w8 := HBX.out.trans (hb8.mono HBX.out.size)
        have HBY := Lib.hid hbY
        have hS3 := KS.out _ hbY
        refine hK.out _ _ hS3 (fun _ => ?_)
        clear hK K1 hS2 hb8 hbY
        try simp only [List.getElem_toArray, List.getElem_cons_zero, List.getElem_cons_succ, Act.put, List.setIfInBounds_toArray, List.set_cons_zero, List.set_cons_succ]
        refine wpAnyH_ready (rs := [14]) (by kernel_rfl) (by simp) ?_
        refine AllReadyH.cons (o := _) rfl (fun K1 hK => ?_) AllReadyH.nil
        go_simp
        refine (HI2.out _).mono ?_
        rintro e w9 ⟨rfl, rfl⟩
        refine hK.out _ _ hS3 (fun _ => ?_)
        clear hK K1
        try simp only [List.getElem_toArray, List.getElem_cons_zero, List.getElem_cons_succ, Act.put, List.setIfInBounds_toArray, List.set_cons_zero, List.set_cons_succ]
        refine wpAnyH_take (i := 15) (oi := _) (v := .bool false) rfl (by kernel_rfl) (by kernel_rfl) (by kernel_rfl) (fun _ _ _ h => h) (Or.inl ⟨by kernel_rfl, fun w hw => by obtain ⟨h1, h2, h3, h4, h5⟩ := hw; go_simp⟩) hS3 ?_
        simp only [List.getElem_toArray, List.getElem_cons_zero, List.getElem_cons_succ, Act.put, List.setIfInBounds_toArray, List.set_cons_zero, List.set_cons_succ]
        refine wpAnyH_take (i := 16) (oi := _) (v := .bool false) rfl (by kernel_rfl) (by kernel_rfl) (by kernel_rfl) (fun _ _ _ h => h) (Or.inl ⟨by kernel_rfl, fun w hw => by obtain ⟨h1, h2, h3, h4, h5⟩ := hw; go_simp⟩) hS3 ?_
        simp only [List.getElem_toArray, List.getElem_cons_zero, List.getElem_cons_succ, Act.put, List.setIfInBounds_toArray, List.set_cons_zero, List.set_cons_succ]
        refine wpAnyH_done (by kernel_rfl) ?_ _
        refine NoPanic.normal ?_
        clear hS3
        go_wp2_with fail
        go_roundw
        case rel => exact ⟨j1, by omega, by go_num, HSN2, Lib.hid (HBN.out _ HBY.out)⟩
        case measure => simp [intOf] <;> omega
    ·obtain rfl : j = i := by omega
     have hji' : ¬ (j : Int) < (j : Int) := by omega
     have HF : Hid (r = true) := Lib.hid (by
      rw [← HR.out]
      unfold tmpoB
      rw [HH.out, HTM.out, HSEG.out.2 (fun k hk => hS.out k (by rw [← HN.out]; exact hk))]; rfl)
     clear hB hS
     go_wp2_with fail
     go_ret
     exact ⟨by rw [HF.out]; rfl, HBW2.out⟩
end Go.Proofs.YtggcbblikgankaaGreatDoor
end
section
set_option linter.unusedSimpArgs false
set_option linter.unusedVariables false
namespace Go.Proofs.YtggcbblikgankaaGreatDoor
open Go Go.RowKit Go.Deep
theorem clkB_split (bars : Int) (ts : List Tmp) (ps : List Pau) (ss : List Con) : clkB ⟨bars, ts, ps, ss⟩ = (inB bars 1 4096 && tmpoB bars ts && pausB bars (-1) ps && ss.all (conB bars)) := by
 unfold clkB clkHead tmpoB headT
 cases ts <;> simp [Bool.and_assoc]
set_option maxRecDepth 100000 in
set_option maxHeartbeats 8000000 in
theorem rcheck13_any (bars : Int) (ts : List Tmp) (ps : List Pau) (ss : List Con) (aT aP aS : Option Addr) (nT nP nS cT cP cS : Nat) (w : World) (hnT : ts.length = nT) (hnP : ps.length = nP) (hnS : ss.length = nS)
  (hT : IsRow encT 3 w (.slice aT nT cT) ts) (hP : IsRow encP 4 w (.slice aP nP cP) ps) (hS : IsRow encC 4 w (.slice aS nS cS) ss) :
  Calls Tryz.prog 72 #[.agg #[.int .i64 bars, .slice aT nT cT, .slice aP nP cP, .slice aS nS cS]] w fun e w' => e = .returned (.int .i64 (clkE ⟨bars, ts, ps, ss⟩)) ∧ Below w.heap.size w w' := by
 obtain ⟨r, hr⟩ : ∃ r, clkE ⟨bars, ts, ps, ss⟩ = r := ⟨_, rfl⟩
 rw [hr]
 have hlim : clkLim ⟨bars, ts, ps, ss⟩ = (decide (nT ≤ 4096) && decide (nP ≤ 4096) && decide (nS ≤ 256)) := by unfold clkLim; rw [← hnT, ← hnP, ← hnS]
 have HR := Lib.hid hr; have HLIM := Lib.hid hlim
 have HB0 := Lib.hid (clkB_split bars ts ps ss)
 have hno : clkLim ⟨bars, ts, ps, ss⟩ = false → r = 2 := fun h => by rw [← HR.out]; unfold clkE; rw [h]; rfl
 have hbad : clkLim ⟨bars, ts, ps, ss⟩ = true → clkB ⟨bars, ts, ps, ss⟩ = false → r = 130 := fun h h2 => by rw [← HR.out]; unfold clkE; rw [h, h2]; rfl
 have hok : clkLim ⟨bars, ts, ps, ss⟩ = true → clkB ⟨bars, ts, ps, ss⟩ = true → r = 0 := fun h h2 => by rw [← HR.out]; unfold clkE; rw [h, h2]; rfl
 have HNO := Lib.hid hno; have HBAD := Lib.hid hbad; have HOK := Lib.hid hok
 have hbx := ClkBox.make w bars (.slice aT nT cT) (.slice aP nP cP) (.slice aS nS cS)
 have hbw : Below w.heap.size w (w.alloc (.cells #[.int .i64 bars, .slice aT nT cT, .slice aP nP cP, .slice aS nS cS] 29)) := (Below.refl _ w).alloc (Nat.le_refl _) _
 have hsz : w.heap.size < (w.alloc (.cells #[.int .i64 bars, .slice aT nT cT, .slice aP nP cP, .slice aS nS cS] 29)).heap.size := by simp
 have mT : nT ≤ maxLen := by obtain ⟨_, _, _, h, _⟩ := hT; omega
 have mP : nP ≤ maxLen := by obtain ⟨_, _, _, h, _⟩ := hP; omega
 have mS : nS ≤ maxLen := by obtain ⟨_, _, _, h, _⟩ := hS; omega
 simp only [maxLen] at mT mP mS
 have HBW := Lib.hid hbw; have HBX := Lib.hid hbx
 have HT := Lib.hid (fun (W : World) (hb : Below w.heap.size w W) (h1 : 1 ≤ bars) (h2 : bars ≤ 4096) (h3 : nT ≤ 4096) => rtempos_any bars h1 h2 (.slice aP nP cP) (.slice aS nS cS) ts aT nT cT W hnT h3 (hT.below hb (Nat.le_refl _)))
 have HP := Lib.hid (fun (W : World) (hb : Below w.heap.size w W) (h1 : 1 ≤ bars) (h2 : bars ≤ 4096) => rpauses_any bars h1 h2 (.slice aT nT cT) (.slice aS nS cS) ps aP nP cP W hnP (hP.below hb (Nat.le_refl _)))
 have HS := Lib.hid (fun (W : World) (hb : Below w.heap.size w W) (h1 : 1 ≤ bars) (h2 : bars ≤ 4096) => rspans_any bars h1 h2 (.slice aT nT cT) (.slice aP nP cP) ss aS nS cS W hnS (hS.below hb (Nat.le_refl _)))
 clear hr hlim hno hbad hok hbw hT hP hS hnT hnP hnS
 obtain ⟨_, c0, c1, c2, c3⟩ := hbx
 by_cases q1 : (4096 : Int) < (nT : Int)
 ·have HF := Lib.hid (HNO.out (by rw [HLIM.out, decide_eq_false (show ¬ nT ≤ 4096 by omega)]; rfl))
  go_enter Tryz.func72, Tryz.ntmps72
  go_wp2_with fail
  go_ret
  exact ⟨by rw [HF.out]; rfl, HBW.out⟩
 by_cases q2 : (4096 : Int) < (nP : Int)
 ·have HF := Lib.hid (HNO.out (by rw [HLIM.out, decide_eq_false (show ¬ nP ≤ 4096 by omega)]; simp))
  go_enter Tryz.func72, Tryz.ntmps72
  go_wp2_with fail
  go_ret
  exact ⟨by rw [HF.out]; rfl, HBW.out⟩
 by_cases q3 : (256 : Int) < (nS : Int)
 ·have HF := Lib.hid (HNO.out (by rw [HLIM.out, decide_eq_false (show ¬ nS ≤ 256 by omega)]; simp))
  go_enter Tryz.func72, Tryz.ntmps72
  go_wp2_with fail
  go_ret
  exact ⟨by rw [HF.out]; rfl, HBW.out⟩
 have HL := Lib.hid (show clkLim ⟨bars, ts, ps, ss⟩ = true by rw [HLIM.out, decide_eq_true (show nT ≤ 4096 by omega), decide_eq_true (show nP ≤ 4096 by omega), decide_eq_true (show nS ≤ 256 by omega)]; rfl)
 have hT3 : nT ≤ 4096 := by omega
 go_enter Tryz.func72, Tryz.ntmps72
 go_wp2_with fail
 clear q1 q2 q3
 generalize w.alloc (.cells #[.int .i64 bars, .slice aT nT cT, .slice aP nP cP, .slice aS nS cS] 29) = w0 at *
 refine (rin13_any bars 1 4096 w0).mono ?_
 rintro e w1 ⟨rfl, rfl⟩
 cases b1 : inB bars 1 4096 with
 | false =>
  have HF := Lib.hid (HBAD.out HL.out (by rw [HB0.out, b1]; rfl))
  go_wp2_with fail
  go_ret
  exact ⟨by rw [HF.out]; rfl, HBW.out⟩
 | true =>
 have hbb := inB_iff.1 b1
 have B1 := Lib.hid b1
 have HTT := Lib.hid (HT.out w1 HBW.out hbb.1 hbb.2 hT3)
 clear b1 HT
 go_wp2_with fail
 refine HTT.out.mono ?_
 rintro e w2 ⟨rfl, hb2⟩
 obtain ⟨_, d0, d1, d2, d3⟩ := HBX.out.next (w2 := w2) hsz hb2
 have HX2 := Lib.hid (HBX.out.next (w2 := w2) hsz hb2)
 have HB2 := Lib.hid (HBW.out.trans (hb2.mono HBW.out.size))
 have hs2 := hb2.size
 clear c0 c1 c2 c3 hb2 HTT
 cases b2 : tmpoB bars ts with
 | false =>
  have HF := Lib.hid (HBAD.out HL.out (by rw [HB0.out, b2]; simp))
  go_wp2_with fail
  go_ret
  exact ⟨by rw [HF.out]; rfl, HB2.out⟩
 | true =>
 have B2 := Lib.hid b2
 have HPP := Lib.hid (HP.out w2 HB2.out hbb.1 hbb.2)
 clear b2 HP
 go_wp2_with fail
 refine HPP.out.mono ?_
 rintro e w3 ⟨rfl, hb3⟩
 obtain ⟨_, c0, c1, c2, c3⟩ := HX2.out.next (w2 := w3) hsz (hb3.mono hs2)
 have HB3 := Lib.hid (HB2.out.trans (hb3.mono HB2.out.size))
 clear d0 d1 d2 d3 hb3 HPP
 cases b3 : pausB bars (-1) ps with
 | false =>
  have HF := Lib.hid (HBAD.out HL.out (by rw [HB0.out, b3]; simp))
  go_wp2_with fail
  go_ret
  exact ⟨by rw [HF.out]; rfl, HB3.out⟩
 | true =>
 have B3 := Lib.hid b3
 have HSS := Lib.hid (HS.out w3 HB3.out hbb.1 hbb.2)
 clear b3 HS
 go_wp2_with fail
 refine HSS.out.mono ?_
 rintro e w4 ⟨rfl, hb4⟩
 have HB4 := Lib.hid (HB3.out.trans (hb4.mono HB3.out.size))
 clear c0 c1 c2 c3 hb4 HSS
 cases b4 : ss.all (conB bars) with
 | false =>
  have HF := Lib.hid (HBAD.out HL.out (by rw [HB0.out, b4]; simp))
  go_wp2_with fail
  go_ret
  exact ⟨by rw [HF.out]; rfl, HB4.out⟩
 | true =>
  have HF := Lib.hid (HOK.out HL.out (by rw [HB0.out, B1.out, B2.out, B3.out, b4]; rfl))
  go_wp2_with fail
  go_ret
  exact ⟨by rw [HF.out]; rfl, HB4.out⟩
end Go.Proofs.YtggcbblikgankaaGreatDoor
end
section
set_option linter.unusedSimpArgs false
set_option linter.unusedVariables false
namespace Go.Proofs.YtggcbblikgankaaGreatDoor
open Go Go.RowKit Go.Deep
theorem rin19_t {n lo hi : Int} (h : inB n lo hi = true) (w : World) : Calls Tryz.prog 104 #[.int .i64 n, .int .i64 lo, .int .i64 hi] w fun e w' => e = .returned (.bool true) ∧ w' = w := by
 have := rin19_any n lo hi w; rwa [h] at this
theorem rin19_f {n lo hi : Int} (h : inB n lo hi = false) (w : World) : Calls Tryz.prog 104 #[.int .i64 n, .int .i64 lo, .int .i64 hi] w fun e w' => e = .returned (.bool false) ∧ w' = w := by
 have := rin19_any n lo hi w; rwa [h] at this
theorem eq_sgn0t {s d l z h : Int} (e : zeroF s d l z h = true) (w : World) : (binOp .eql 72 (.agg #[.int .i64 0, .int .i64 0, .int .i64 0, .int .i64 0, .int .i64 0, .int .i64 s, .int .i64 d, .int .i64 l, .int .i64 z, .int .i64 h, .int .i64 0, .int .i64 0, .int .i64 0, .int .i64 0]) (.agg #[.int .i64 0, .int .i64 0, .int .i64 0, .int .i64 0, .int .i64 0, .int .i64 0, .int .i64 0, .int .i64 0, .int .i64 0, .int .i64 0, .int .i64 0, .int .i64 0, .int .i64 0, .int .i64 0])).run Tryz.prog w = .ok (.bool true) w := by
 rw [eq_sgn0, e]
theorem eq_sgn0f {s d l z h : Int} (e : zeroF s d l z h = false) (w : World) : (binOp .eql 72 (.agg #[.int .i64 0, .int .i64 0, .int .i64 0, .int .i64 0, .int .i64 0, .int .i64 s, .int .i64 d, .int .i64 l, .int .i64 z, .int .i64 h, .int .i64 0, .int .i64 0, .int .i64 0, .int .i64 0]) (.agg #[.int .i64 0, .int .i64 0, .int .i64 0, .int .i64 0, .int .i64 0, .int .i64 0, .int .i64 0, .int .i64 0, .int .i64 0, .int .i64 0, .int .i64 0, .int .i64 0, .int .i64 0, .int .i64 0])).run Tryz.prog w = .ok (.bool false) w := by
 rw [eq_sgn0, e]
set_option maxRecDepth 100000 in
set_option maxHeartbeats 8000000 in
theorem rfields_1 (id role bar mark side dir level size wth fn fd tn td roles : Int) (w : World) : Calls Tryz.prog 106 #[.agg #[.int .i64 id, .int .i64 role, .int .i64 bar, .int .i64 mark, .int .i64 1, .int .i64 side, .int .i64 dir, .int .i64 level, .int .i64 size, .int .i64 wth, .int .i64 fn, .int .i64 fd, .int .i64 tn, .int .i64 td], .int .i64 roles] w fun e w' => e = .returned (.bool (fieldsB ⟨id, role, bar, mark, 1, side, dir, level, size, wth, fn, fd, tn, td⟩ roles)) ∧ Below w.heap.size w w' := by
 have hr : fieldsB ⟨id, role, bar, mark, 1, side, dir, level, size, wth, fn, fd, tn, td⟩ roles = (inB side 1 2 && inB dir 1 8 && inB size 1 16 && zeroF 0 0 level 0 wth) := by
  simp only [fieldsB, zeroF]
  by_cases h0 : level = 0 <;> by_cases h1 : wth = 0 <;> cases inB side 1 2 <;> cases inB dir 1 8 <;> cases inB size 1 16 <;> simp [h0, h1]
 rw [hr]
 clear hr
 have hb : ∀ o1 o2, Below w.heap.size w ((w.alloc o1).alloc o2) := fun o1 o2 => ((Below.refl _ w).alloc (Nat.le_refl _) _).alloc (by simp) _
 have HB := Lib.hid hb; clear hb
 cases q0 : inB side 1 2 with
 | false =>
  simp only [Bool.false_and, Bool.true_and]
  go_enter Tryz.func106, Tryz.ntmps106
  go_wp2_with (first | (go_at_call 104; refine (rin19_t (by assumption) _).mono ?_; rintro e w' ⟨rfl, rfl⟩) | (go_at_call 104; refine (rin19_f (by assumption) _).mono ?_; rintro e w' ⟨rfl, rfl⟩))
  go_ret
  exact ⟨by first | rfl | simp, HB.out _ _⟩
 | true =>
 cases q1 : inB dir 1 8 with
 | false =>
  simp only [Bool.false_and, Bool.true_and]
  go_enter Tryz.func106, Tryz.ntmps106
  go_wp2_with (first | (go_at_call 104; refine (rin19_t (by assumption) _).mono ?_; rintro e w' ⟨rfl, rfl⟩) | (go_at_call 104; refine (rin19_f (by assumption) _).mono ?_; rintro e w' ⟨rfl, rfl⟩))
  go_ret
  exact ⟨by first | rfl | simp, HB.out _ _⟩
 | true =>
 cases q2 : inB size 1 16 with
 | false =>
  simp only [Bool.false_and, Bool.true_and]
  go_enter Tryz.func106, Tryz.ntmps106
  go_wp2_with (first | (go_at_call 104; refine (rin19_t (by assumption) _).mono ?_; rintro e w' ⟨rfl, rfl⟩) | (go_at_call 104; refine (rin19_f (by assumption) _).mono ?_; rintro e w' ⟨rfl, rfl⟩))
  go_ret
  exact ⟨by first | rfl | simp, HB.out _ _⟩
 | true =>
 cases q9 : zeroF 0 0 level 0 wth with
 | false =>
  simp only [Bool.true_and]
  have hq := fun w => eq_sgn0f q9 w
  clear q9
  go_enter Tryz.func106, Tryz.ntmps106
  go_wp2_with (first | (go_at_call 104; refine (rin19_t (by assumption) _).mono ?_; rintro e w' ⟨rfl, rfl⟩) | (go_at_call 104; refine (rin19_f (by assumption) _).mono ?_; rintro e w' ⟨rfl, rfl⟩))
  go_ret
  exact ⟨by first | rfl | simp, HB.out _ _⟩
 | true =>
  simp only [Bool.true_and]
  have hq := fun w => eq_sgn0t q9 w
  clear q9
  go_enter Tryz.func106, Tryz.ntmps106
  go_wp2_with (first | (go_at_call 104; refine (rin19_t (by assumption) _).mono ?_; rintro e w' ⟨rfl, rfl⟩) | (go_at_call 104; refine (rin19_f (by assumption) _).mono ?_; rintro e w' ⟨rfl, rfl⟩))
  go_ret
  exact ⟨by first | rfl | simp, HB.out _ _⟩
set_option maxRecDepth 100000 in
set_option maxHeartbeats 8000000 in
theorem rfields_2 (id role bar mark side dir level size wth fn fd tn td roles : Int) (w : World) : Calls Tryz.prog 106 #[.agg #[.int .i64 id, .int .i64 role, .int .i64 bar, .int .i64 mark, .int .i64 2, .int .i64 side, .int .i64 dir, .int .i64 level, .int .i64 size, .int .i64 wth, .int .i64 fn, .int .i64 fd, .int .i64 tn, .int .i64 td], .int .i64 roles] w fun e w' => e = .returned (.bool (fieldsB ⟨id, role, bar, mark, 2, side, dir, level, size, wth, fn, fd, tn, td⟩ roles)) ∧ Below w.heap.size w w' := by
 have hr : fieldsB ⟨id, role, bar, mark, 2, side, dir, level, size, wth, fn, fd, tn, td⟩ roles = (inB dir 1 8 && inB size 1 16 && zeroF side 0 level 0 wth) := by
  simp only [fieldsB, zeroF]
  by_cases h0 : side = 0 <;> by_cases h1 : level = 0 <;> by_cases h2 : wth = 0 <;> cases inB dir 1 8 <;> cases inB size 1 16 <;> simp [h0, h1, h2]
 rw [hr]
 clear hr
 have hb : ∀ o1 o2, Below w.heap.size w ((w.alloc o1).alloc o2) := fun o1 o2 => ((Below.refl _ w).alloc (Nat.le_refl _) _).alloc (by simp) _
 have HB := Lib.hid hb; clear hb
 cases q0 : inB dir 1 8 with
 | false =>
  simp only [Bool.false_and, Bool.true_and]
  go_enter Tryz.func106, Tryz.ntmps106
  go_wp2_with (first | (go_at_call 104; refine (rin19_t (by assumption) _).mono ?_; rintro e w' ⟨rfl, rfl⟩) | (go_at_call 104; refine (rin19_f (by assumption) _).mono ?_; rintro e w' ⟨rfl, rfl⟩))
  go_ret
  exact ⟨by first | rfl | simp, HB.out _ _⟩
 | true =>
 cases q1 : inB size 1 16 with
 | false =>
  simp only [Bool.false_and, Bool.true_and]
  go_enter Tryz.func106, Tryz.ntmps106
  go_wp2_with (first | (go_at_call 104; refine (rin19_t (by assumption) _).mono ?_; rintro e w' ⟨rfl, rfl⟩) | (go_at_call 104; refine (rin19_f (by assumption) _).mono ?_; rintro e w' ⟨rfl, rfl⟩))
  go_ret
  exact ⟨by first | rfl | simp, HB.out _ _⟩
 | true =>
 cases q9 : zeroF side 0 level 0 wth with
 | false =>
  simp only [Bool.true_and]
  have hq := fun w => eq_sgn0f q9 w
  clear q9
  go_enter Tryz.func106, Tryz.ntmps106
  go_wp2_with (first | (go_at_call 104; refine (rin19_t (by assumption) _).mono ?_; rintro e w' ⟨rfl, rfl⟩) | (go_at_call 104; refine (rin19_f (by assumption) _).mono ?_; rintro e w' ⟨rfl, rfl⟩))
  go_ret
  exact ⟨by first | rfl | simp, HB.out _ _⟩
 | true =>
  simp only [Bool.true_and]
  have hq := fun w => eq_sgn0t q9 w
  clear q9
  go_enter Tryz.func106, Tryz.ntmps106
  go_wp2_with (first | (go_at_call 104; refine (rin19_t (by assumption) _).mono ?_; rintro e w' ⟨rfl, rfl⟩) | (go_at_call 104; refine (rin19_f (by assumption) _).mono ?_; rintro e w' ⟨rfl, rfl⟩))
  go_ret
  exact ⟨by first | rfl | simp, HB.out _ _⟩
set_option maxRecDepth 100000 in
set_option maxHeartbeats 8000000 in
theorem rfields_3 (id role bar mark side dir level size wth fn fd tn td roles : Int) (w : World) : Calls Tryz.prog 106 #[.agg #[.int .i64 id, .int .i64 role, .int .i64 bar, .int .i64 mark, .int .i64 3, .int .i64 side, .int .i64 dir, .int .i64 level, .int .i64 size, .int .i64 wth, .int .i64 fn, .int .i64 fd, .int .i64 tn, .int .i64 td], .int .i64 roles] w fun e w' => e = .returned (.bool (fieldsB ⟨id, role, bar, mark, 3, side, dir, level, size, wth, fn, fd, tn, td⟩ roles)) ∧ Below w.heap.size w w' := by
 have hr : fieldsB ⟨id, role, bar, mark, 3, side, dir, level, size, wth, fn, fd, tn, td⟩ roles = (inB side 1 2 && inB dir 0 8 && inB level 1 3 && zeroF 0 0 0 size wth) := by
  simp only [fieldsB, zeroF]
  by_cases h0 : size = 0 <;> by_cases h1 : wth = 0 <;> cases inB side 1 2 <;> cases inB dir 0 8 <;> cases inB level 1 3 <;> simp [h0, h1]
 rw [hr]
 clear hr
 have hb : ∀ o1 o2, Below w.heap.size w ((w.alloc o1).alloc o2) := fun o1 o2 => ((Below.refl _ w).alloc (Nat.le_refl _) _).alloc (by simp) _
 have HB := Lib.hid hb; clear hb
 cases q0 : inB side 1 2 with
 | false =>
  simp only [Bool.false_and, Bool.true_and]
  go_enter Tryz.func106, Tryz.ntmps106
  go_wp2_with (first | (go_at_call 104; refine (rin19_t (by assumption) _).mono ?_; rintro e w' ⟨rfl, rfl⟩) | (go_at_call 104; refine (rin19_f (by assumption) _).mono ?_; rintro e w' ⟨rfl, rfl⟩))
  go_ret
  exact ⟨by first | rfl | simp, HB.out _ _⟩
 | true =>
 cases q1 : inB dir 0 8 with
 | false =>
  simp only [Bool.false_and, Bool.true_and]
  go_enter Tryz.func106, Tryz.ntmps106
  go_wp2_with (first | (go_at_call 104; refine (rin19_t (by assumption) _).mono ?_; rintro e w' ⟨rfl, rfl⟩) | (go_at_call 104; refine (rin19_f (by assumption) _).mono ?_; rintro e w' ⟨rfl, rfl⟩))
  go_ret
  exact ⟨by first | rfl | simp, HB.out _ _⟩
 | true =>
 cases q2 : inB level 1 3 with
 | false =>
  simp only [Bool.false_and, Bool.true_and]
  go_enter Tryz.func106, Tryz.ntmps106
  go_wp2_with (first | (go_at_call 104; refine (rin19_t (by assumption) _).mono ?_; rintro e w' ⟨rfl, rfl⟩) | (go_at_call 104; refine (rin19_f (by assumption) _).mono ?_; rintro e w' ⟨rfl, rfl⟩))
  go_ret
  exact ⟨by first | rfl | simp, HB.out _ _⟩
 | true =>
 cases q9 : zeroF 0 0 0 size wth with
 | false =>
  simp only [Bool.true_and]
  have hq := fun w => eq_sgn0f q9 w
  clear q9
  go_enter Tryz.func106, Tryz.ntmps106
  go_wp2_with (first | (go_at_call 104; refine (rin19_t (by assumption) _).mono ?_; rintro e w' ⟨rfl, rfl⟩) | (go_at_call 104; refine (rin19_f (by assumption) _).mono ?_; rintro e w' ⟨rfl, rfl⟩))
  go_ret
  exact ⟨by first | rfl | simp, HB.out _ _⟩
 | true =>
  simp only [Bool.true_and]
  have hq := fun w => eq_sgn0t q9 w
  clear q9
  go_enter Tryz.func106, Tryz.ntmps106
  go_wp2_with (first | (go_at_call 104; refine (rin19_t (by assumption) _).mono ?_; rintro e w' ⟨rfl, rfl⟩) | (go_at_call 104; refine (rin19_f (by assumption) _).mono ?_; rintro e w' ⟨rfl, rfl⟩))
  go_ret
  exact ⟨by first | rfl | simp, HB.out _ _⟩
set_option maxRecDepth 100000 in
set_option maxHeartbeats 8000000 in
theorem rfields_4 (id role bar mark side dir level size wth fn fd tn td roles : Int) (w : World) : Calls Tryz.prog 106 #[.agg #[.int .i64 id, .int .i64 role, .int .i64 bar, .int .i64 mark, .int .i64 4, .int .i64 side, .int .i64 dir, .int .i64 level, .int .i64 size, .int .i64 wth, .int .i64 fn, .int .i64 fd, .int .i64 tn, .int .i64 td], .int .i64 roles] w fun e w' => e = .returned (.bool (fieldsB ⟨id, role, bar, mark, 4, side, dir, level, size, wth, fn, fd, tn, td⟩ roles)) ∧ Below w.heap.size w w' := by
 have hr : fieldsB ⟨id, role, bar, mark, 4, side, dir, level, size, wth, fn, fd, tn, td⟩ roles = (inB side 1 2 && inB dir 0 8 && inB level 1 3 && zeroF 0 0 0 size wth) := by
  simp only [fieldsB, zeroF]
  by_cases h0 : size = 0 <;> by_cases h1 : wth = 0 <;> cases inB side 1 2 <;> cases inB dir 0 8 <;> cases inB level 1 3 <;> simp [h0, h1]
 rw [hr]
 clear hr
 have hb : ∀ o1 o2, Below w.heap.size w ((w.alloc o1).alloc o2) := fun o1 o2 => ((Below.refl _ w).alloc (Nat.le_refl _) _).alloc (by simp) _
 have HB := Lib.hid hb; clear hb
 cases q0 : inB side 1 2 with
 | false =>
  simp only [Bool.false_and, Bool.true_and]
  go_enter Tryz.func106, Tryz.ntmps106
  go_wp2_with (first | (go_at_call 104; refine (rin19_t (by assumption) _).mono ?_; rintro e w' ⟨rfl, rfl⟩) | (go_at_call 104; refine (rin19_f (by assumption) _).mono ?_; rintro e w' ⟨rfl, rfl⟩))
  go_ret
  exact ⟨by first | rfl | simp, HB.out _ _⟩
 | true =>
 cases q1 : inB dir 0 8 with
 | false =>
  simp only [Bool.false_and, Bool.true_and]
  go_enter Tryz.func106, Tryz.ntmps106
  go_wp2_with (first | (go_at_call 104; refine (rin19_t (by assumption) _).mono ?_; rintro e w' ⟨rfl, rfl⟩) | (go_at_call 104; refine (rin19_f (by assumption) _).mono ?_; rintro e w' ⟨rfl, rfl⟩))
  go_ret
  exact ⟨by first | rfl | simp, HB.out _ _⟩
 | true =>
 cases q2 : inB level 1 3 with
 | false =>
  simp only [Bool.false_and, Bool.true_and]
  go_enter Tryz.func106, Tryz.ntmps106
  go_wp2_with (first | (go_at_call 104; refine (rin19_t (by assumption) _).mono ?_; rintro e w' ⟨rfl, rfl⟩) | (go_at_call 104; refine (rin19_f (by assumption) _).mono ?_; rintro e w' ⟨rfl, rfl⟩))
  go_ret
  exact ⟨by first | rfl | simp, HB.out _ _⟩
 | true =>
 cases q9 : zeroF 0 0 0 size wth with
 | false =>
  simp only [Bool.true_and]
  have hq := fun w => eq_sgn0f q9 w
  clear q9
  go_enter Tryz.func106, Tryz.ntmps106
  go_wp2_with (first | (go_at_call 104; refine (rin19_t (by assumption) _).mono ?_; rintro e w' ⟨rfl, rfl⟩) | (go_at_call 104; refine (rin19_f (by assumption) _).mono ?_; rintro e w' ⟨rfl, rfl⟩))
  go_ret
  exact ⟨by first | rfl | simp, HB.out _ _⟩
 | true =>
  simp only [Bool.true_and]
  have hq := fun w => eq_sgn0t q9 w
  clear q9
  go_enter Tryz.func106, Tryz.ntmps106
  go_wp2_with (first | (go_at_call 104; refine (rin19_t (by assumption) _).mono ?_; rintro e w' ⟨rfl, rfl⟩) | (go_at_call 104; refine (rin19_f (by assumption) _).mono ?_; rintro e w' ⟨rfl, rfl⟩))
  go_ret
  exact ⟨by first | rfl | simp, HB.out _ _⟩
set_option maxRecDepth 100000 in
set_option maxHeartbeats 8000000 in
theorem rfields_5 (id role bar mark side dir level size wth fn fd tn td roles : Int) (w : World) : Calls Tryz.prog 106 #[.agg #[.int .i64 id, .int .i64 role, .int .i64 bar, .int .i64 mark, .int .i64 5, .int .i64 side, .int .i64 dir, .int .i64 level, .int .i64 size, .int .i64 wth, .int .i64 fn, .int .i64 fd, .int .i64 tn, .int .i64 td], .int .i64 roles] w fun e w' => e = .returned (.bool (fieldsB ⟨id, role, bar, mark, 5, side, dir, level, size, wth, fn, fd, tn, td⟩ roles)) ∧ Below w.heap.size w w' := by
 have hr : fieldsB ⟨id, role, bar, mark, 5, side, dir, level, size, wth, fn, fd, tn, td⟩ roles = (inB dir 0 8 && inB level 1 3 && zeroF side 0 0 size wth) := by
  simp only [fieldsB, zeroF]
  by_cases h0 : side = 0 <;> by_cases h1 : size = 0 <;> by_cases h2 : wth = 0 <;> cases inB dir 0 8 <;> cases inB level 1 3 <;> simp [h0, h1, h2]
 rw [hr]
 clear hr
 have hb : ∀ o1 o2, Below w.heap.size w ((w.alloc o1).alloc o2) := fun o1 o2 => ((Below.refl _ w).alloc (Nat.le_refl _) _).alloc (by simp) _
 have HB := Lib.hid hb; clear hb
 cases q0 : inB dir 0 8 with
 | false =>
  simp only [Bool.false_and, Bool.true_and]
  go_enter Tryz.func106, Tryz.ntmps106
  go_wp2_with (first | (go_at_call 104; refine (rin19_t (by assumption) _).mono ?_; rintro e w' ⟨rfl, rfl⟩) | (go_at_call 104; refine (rin19_f (by assumption) _).mono ?_; rintro e w' ⟨rfl, rfl⟩))
  go_ret
  exact ⟨by first | rfl | simp, HB.out _ _⟩
 | true =>
 cases q1 : inB level 1 3 with
 | false =>
  simp only [Bool.false_and, Bool.true_and]
  go_enter Tryz.func106, Tryz.ntmps106
  go_wp2_with (first | (go_at_call 104; refine (rin19_t (by assumption) _).mono ?_; rintro e w' ⟨rfl, rfl⟩) | (go_at_call 104; refine (rin19_f (by assumption) _).mono ?_; rintro e w' ⟨rfl, rfl⟩))
  go_ret
  exact ⟨by first | rfl | simp, HB.out _ _⟩
 | true =>
 cases q9 : zeroF side 0 0 size wth with
 | false =>
  simp only [Bool.true_and]
  have hq := fun w => eq_sgn0f q9 w
  clear q9
  go_enter Tryz.func106, Tryz.ntmps106
  go_wp2_with (first | (go_at_call 104; refine (rin19_t (by assumption) _).mono ?_; rintro e w' ⟨rfl, rfl⟩) | (go_at_call 104; refine (rin19_f (by assumption) _).mono ?_; rintro e w' ⟨rfl, rfl⟩))
  go_ret
  exact ⟨by first | rfl | simp, HB.out _ _⟩
 | true =>
  simp only [Bool.true_and]
  have hq := fun w => eq_sgn0t q9 w
  clear q9
  go_enter Tryz.func106, Tryz.ntmps106
  go_wp2_with (first | (go_at_call 104; refine (rin19_t (by assumption) _).mono ?_; rintro e w' ⟨rfl, rfl⟩) | (go_at_call 104; refine (rin19_f (by assumption) _).mono ?_; rintro e w' ⟨rfl, rfl⟩))
  go_ret
  exact ⟨by first | rfl | simp, HB.out _ _⟩
set_option maxRecDepth 100000 in
set_option maxHeartbeats 8000000 in
theorem rfields_6 (id role bar mark side dir level size wth fn fd tn td roles : Int) (w : World) : Calls Tryz.prog 106 #[.agg #[.int .i64 id, .int .i64 role, .int .i64 bar, .int .i64 mark, .int .i64 6, .int .i64 side, .int .i64 dir, .int .i64 level, .int .i64 size, .int .i64 wth, .int .i64 fn, .int .i64 fd, .int .i64 tn, .int .i64 td], .int .i64 roles] w fun e w' => e = .returned (.bool (fieldsB ⟨id, role, bar, mark, 6, side, dir, level, size, wth, fn, fd, tn, td⟩ roles)) ∧ Below w.heap.size w w' := by
 have hr : fieldsB ⟨id, role, bar, mark, 6, side, dir, level, size, wth, fn, fd, tn, td⟩ roles = (inB size 1 7 && zeroF side dir level 0 wth) := by
  simp only [fieldsB, zeroF]
  by_cases h0 : side = 0 <;> by_cases h1 : dir = 0 <;> by_cases h2 : level = 0 <;> by_cases h3 : wth = 0 <;> cases inB size 1 7 <;> simp [h0, h1, h2, h3]
 rw [hr]
 clear hr
 have hb : ∀ o1 o2, Below w.heap.size w ((w.alloc o1).alloc o2) := fun o1 o2 => ((Below.refl _ w).alloc (Nat.le_refl _) _).alloc (by simp) _
 have HB := Lib.hid hb; clear hb
 cases q0 : inB size 1 7 with
 | false =>
  simp only [Bool.false_and, Bool.true_and]
  go_enter Tryz.func106, Tryz.ntmps106
  go_wp2_with (first | (go_at_call 104; refine (rin19_t (by assumption) _).mono ?_; rintro e w' ⟨rfl, rfl⟩) | (go_at_call 104; refine (rin19_f (by assumption) _).mono ?_; rintro e w' ⟨rfl, rfl⟩))
  go_ret
  exact ⟨by first | rfl | simp, HB.out _ _⟩
 | true =>
 cases q9 : zeroF side dir level 0 wth with
 | false =>
  simp only [Bool.true_and]
  have hq := fun w => eq_sgn0f q9 w
  clear q9
  go_enter Tryz.func106, Tryz.ntmps106
  go_wp2_with (first | (go_at_call 104; refine (rin19_t (by assumption) _).mono ?_; rintro e w' ⟨rfl, rfl⟩) | (go_at_call 104; refine (rin19_f (by assumption) _).mono ?_; rintro e w' ⟨rfl, rfl⟩))
  go_ret
  exact ⟨by first | rfl | simp, HB.out _ _⟩
 | true =>
  simp only [Bool.true_and]
  have hq := fun w => eq_sgn0t q9 w
  clear q9
  go_enter Tryz.func106, Tryz.ntmps106
  go_wp2_with (first | (go_at_call 104; refine (rin19_t (by assumption) _).mono ?_; rintro e w' ⟨rfl, rfl⟩) | (go_at_call 104; refine (rin19_f (by assumption) _).mono ?_; rintro e w' ⟨rfl, rfl⟩))
  go_ret
  exact ⟨by first | rfl | simp, HB.out _ _⟩
set_option maxRecDepth 100000 in
set_option maxHeartbeats 8000000 in
theorem rfields_7 (id role bar mark side dir level size wth fn fd tn td roles : Int) (w : World) : Calls Tryz.prog 106 #[.agg #[.int .i64 id, .int .i64 role, .int .i64 bar, .int .i64 mark, .int .i64 7, .int .i64 side, .int .i64 dir, .int .i64 level, .int .i64 size, .int .i64 wth, .int .i64 fn, .int .i64 fd, .int .i64 tn, .int .i64 td], .int .i64 roles] w fun e w' => e = .returned (.bool (fieldsB ⟨id, role, bar, mark, 7, side, dir, level, size, wth, fn, fd, tn, td⟩ roles)) ∧ Below w.heap.size w w' := by
 have hr : fieldsB ⟨id, role, bar, mark, 7, side, dir, level, size, wth, fn, fd, tn, td⟩ roles = (inB wth 1 roles && zeroF side dir level size 0) := by
  simp only [fieldsB, zeroF]
  by_cases h0 : side = 0 <;> by_cases h1 : dir = 0 <;> by_cases h2 : level = 0 <;> by_cases h3 : size = 0 <;> cases inB wth 1 roles <;> simp [h0, h1, h2, h3]
 rw [hr]
 clear hr
 have hb : ∀ o1 o2, Below w.heap.size w ((w.alloc o1).alloc o2) := fun o1 o2 => ((Below.refl _ w).alloc (Nat.le_refl _) _).alloc (by simp) _
 have HB := Lib.hid hb; clear hb
 cases q0 : inB wth 1 roles with
 | false =>
  simp only [Bool.false_and, Bool.true_and]
  go_enter Tryz.func106, Tryz.ntmps106
  go_wp2_with (first | (go_at_call 104; refine (rin19_t (by assumption) _).mono ?_; rintro e w' ⟨rfl, rfl⟩) | (go_at_call 104; refine (rin19_f (by assumption) _).mono ?_; rintro e w' ⟨rfl, rfl⟩))
  go_ret
  exact ⟨by first | rfl | simp, HB.out _ _⟩
 | true =>
 cases q9 : zeroF side dir level size 0 with
 | false =>
  simp only [Bool.true_and]
  have hq := fun w => eq_sgn0f q9 w
  clear q9
  go_enter Tryz.func106, Tryz.ntmps106
  go_wp2_with (first | (go_at_call 104; refine (rin19_t (by assumption) _).mono ?_; rintro e w' ⟨rfl, rfl⟩) | (go_at_call 104; refine (rin19_f (by assumption) _).mono ?_; rintro e w' ⟨rfl, rfl⟩))
  go_ret
  exact ⟨by first | rfl | simp, HB.out _ _⟩
 | true =>
  simp only [Bool.true_and]
  have hq := fun w => eq_sgn0t q9 w
  clear q9
  go_enter Tryz.func106, Tryz.ntmps106
  go_wp2_with (first | (go_at_call 104; refine (rin19_t (by assumption) _).mono ?_; rintro e w' ⟨rfl, rfl⟩) | (go_at_call 104; refine (rin19_f (by assumption) _).mono ?_; rintro e w' ⟨rfl, rfl⟩))
  go_ret
  exact ⟨by first | rfl | simp, HB.out _ _⟩
set_option maxRecDepth 100000 in
set_option maxHeartbeats 8000000 in
theorem rfields_8 (id role bar mark side dir level size wth fn fd tn td roles : Int) (w : World) : Calls Tryz.prog 106 #[.agg #[.int .i64 id, .int .i64 role, .int .i64 bar, .int .i64 mark, .int .i64 8, .int .i64 side, .int .i64 dir, .int .i64 level, .int .i64 size, .int .i64 wth, .int .i64 fn, .int .i64 fd, .int .i64 tn, .int .i64 td], .int .i64 roles] w fun e w' => e = .returned (.bool (fieldsB ⟨id, role, bar, mark, 8, side, dir, level, size, wth, fn, fd, tn, td⟩ roles)) ∧ Below w.heap.size w w' := by
 have hr : fieldsB ⟨id, role, bar, mark, 8, side, dir, level, size, wth, fn, fd, tn, td⟩ roles = (inB wth 1 roles && zeroF side dir level size 0) := by
  simp only [fieldsB, zeroF]
  by_cases h0 : side = 0 <;> by_cases h1 : dir = 0 <;> by_cases h2 : level = 0 <;> by_cases h3 : size = 0 <;> cases inB wth 1 roles <;> simp [h0, h1, h2, h3]
 rw [hr]
 clear hr
 have hb : ∀ o1 o2, Below w.heap.size w ((w.alloc o1).alloc o2) := fun o1 o2 => ((Below.refl _ w).alloc (Nat.le_refl _) _).alloc (by simp) _
 have HB := Lib.hid hb; clear hb
 cases q0 : inB wth 1 roles with
 | false =>
  simp only [Bool.false_and, Bool.true_and]
  go_enter Tryz.func106, Tryz.ntmps106
  go_wp2_with (first | (go_at_call 104; refine (rin19_t (by assumption) _).mono ?_; rintro e w' ⟨rfl, rfl⟩) | (go_at_call 104; refine (rin19_f (by assumption) _).mono ?_; rintro e w' ⟨rfl, rfl⟩))
  go_ret
  exact ⟨by first | rfl | simp, HB.out _ _⟩
 | true =>
 cases q9 : zeroF side dir level size 0 with
 | false =>
  simp only [Bool.true_and]
  have hq := fun w => eq_sgn0f q9 w
  clear q9
  go_enter Tryz.func106, Tryz.ntmps106
  go_wp2_with (first | (go_at_call 104; refine (rin19_t (by assumption) _).mono ?_; rintro e w' ⟨rfl, rfl⟩) | (go_at_call 104; refine (rin19_f (by assumption) _).mono ?_; rintro e w' ⟨rfl, rfl⟩))
  go_ret
  exact ⟨by first | rfl | simp, HB.out _ _⟩
 | true =>
  simp only [Bool.true_and]
  have hq := fun w => eq_sgn0t q9 w
  clear q9
  go_enter Tryz.func106, Tryz.ntmps106
  go_wp2_with (first | (go_at_call 104; refine (rin19_t (by assumption) _).mono ?_; rintro e w' ⟨rfl, rfl⟩) | (go_at_call 104; refine (rin19_f (by assumption) _).mono ?_; rintro e w' ⟨rfl, rfl⟩))
  go_ret
  exact ⟨by first | rfl | simp, HB.out _ _⟩
set_option maxRecDepth 100000 in
set_option maxHeartbeats 8000000 in
theorem rfields_9 (id role bar mark side dir level size wth fn fd tn td roles : Int) (w : World) : Calls Tryz.prog 106 #[.agg #[.int .i64 id, .int .i64 role, .int .i64 bar, .int .i64 mark, .int .i64 9, .int .i64 side, .int .i64 dir, .int .i64 level, .int .i64 size, .int .i64 wth, .int .i64 fn, .int .i64 fd, .int .i64 tn, .int .i64 td], .int .i64 roles] w fun e w' => e = .returned (.bool (fieldsB ⟨id, role, bar, mark, 9, side, dir, level, size, wth, fn, fd, tn, td⟩ roles)) ∧ Below w.heap.size w w' := by
 have hr : fieldsB ⟨id, role, bar, mark, 9, side, dir, level, size, wth, fn, fd, tn, td⟩ roles = (inB side 1 2 && inB level 1 3 && zeroF 0 dir 0 size wth) := by
  simp only [fieldsB, zeroF]
  by_cases h0 : dir = 0 <;> by_cases h1 : size = 0 <;> by_cases h2 : wth = 0 <;> cases inB side 1 2 <;> cases inB level 1 3 <;> simp [h0, h1, h2]
 rw [hr]
 clear hr
 have hb : ∀ o1 o2, Below w.heap.size w ((w.alloc o1).alloc o2) := fun o1 o2 => ((Below.refl _ w).alloc (Nat.le_refl _) _).alloc (by simp) _
 have HB := Lib.hid hb; clear hb
 cases q0 : inB side 1 2 with
 | false =>
  simp only [Bool.false_and, Bool.true_and]
  go_enter Tryz.func106, Tryz.ntmps106
  go_wp2_with (first | (go_at_call 104; refine (rin19_t (by assumption) _).mono ?_; rintro e w' ⟨rfl, rfl⟩) | (go_at_call 104; refine (rin19_f (by assumption) _).mono ?_; rintro e w' ⟨rfl, rfl⟩))
  go_ret
  exact ⟨by first | rfl | simp, HB.out _ _⟩
 | true =>
 cases q1 : inB level 1 3 with
 | false =>
  simp only [Bool.false_and, Bool.true_and]
  go_enter Tryz.func106, Tryz.ntmps106
  go_wp2_with (first | (go_at_call 104; refine (rin19_t (by assumption) _).mono ?_; rintro e w' ⟨rfl, rfl⟩) | (go_at_call 104; refine (rin19_f (by assumption) _).mono ?_; rintro e w' ⟨rfl, rfl⟩))
  go_ret
  exact ⟨by first | rfl | simp, HB.out _ _⟩
 | true =>
 cases q9 : zeroF 0 dir 0 size wth with
 | false =>
  simp only [Bool.true_and]
  have hq := fun w => eq_sgn0f q9 w
  clear q9
  go_enter Tryz.func106, Tryz.ntmps106
  go_wp2_with (first | (go_at_call 104; refine (rin19_t (by assumption) _).mono ?_; rintro e w' ⟨rfl, rfl⟩) | (go_at_call 104; refine (rin19_f (by assumption) _).mono ?_; rintro e w' ⟨rfl, rfl⟩))
  go_ret
  exact ⟨by first | rfl | simp, HB.out _ _⟩
 | true =>
  simp only [Bool.true_and]
  have hq := fun w => eq_sgn0t q9 w
  clear q9
  go_enter Tryz.func106, Tryz.ntmps106
  go_wp2_with (first | (go_at_call 104; refine (rin19_t (by assumption) _).mono ?_; rintro e w' ⟨rfl, rfl⟩) | (go_at_call 104; refine (rin19_f (by assumption) _).mono ?_; rintro e w' ⟨rfl, rfl⟩))
  go_ret
  exact ⟨by first | rfl | simp, HB.out _ _⟩
set_option maxRecDepth 100000 in
set_option maxHeartbeats 8000000 in
theorem rfields_no (id role bar mark side dir level size wth fn fd tn td roles : Int) (w : World) (kind : Int) (hk : ¬ (1 ≤ kind ∧ kind ≤ 9)) : Calls Tryz.prog 106 #[.agg #[.int .i64 id, .int .i64 role, .int .i64 bar, .int .i64 mark, .int .i64 kind, .int .i64 side, .int .i64 dir, .int .i64 level, .int .i64 size, .int .i64 wth, .int .i64 fn, .int .i64 fd, .int .i64 tn, .int .i64 td], .int .i64 roles] w fun e w' => e = .returned (.bool (fieldsB ⟨id, role, bar, mark, kind, side, dir, level, size, wth, fn, fd, tn, td⟩ roles)) ∧ Below w.heap.size w w' := by
 have hr : fieldsB ⟨id, role, bar, mark, kind, side, dir, level, size, wth, fn, fd, tn, td⟩ roles = false := by
  simp only [fieldsB]
  rw [if_neg (by omega), if_neg (by omega), if_neg (by omega), if_neg (by omega), if_neg (by omega), if_neg (by omega), if_neg (by omega)]
 rw [hr]
 clear hr
 have hb : ∀ o1 o2, Below w.heap.size w ((w.alloc o1).alloc o2) := fun o1 o2 => ((Below.refl _ w).alloc (Nat.le_refl _) _).alloc (by simp) _
 have HB := Lib.hid hb; clear hb
 have f1 : (kind == 1) = false := by simp; omega
 have f2 : (kind == 2) = false := by simp; omega
 have f3 : (kind == 3) = false := by simp; omega
 have f4 : (kind == 4) = false := by simp; omega
 have f5 : (kind == 5) = false := by simp; omega
 have f6 : (kind == 6) = false := by simp; omega
 have f7 : (kind == 7) = false := by simp; omega
 have f8 : (kind == 8) = false := by simp; omega
 have f9 : (kind == 9) = false := by simp; omega
 clear hk
 go_enter Tryz.func106, Tryz.ntmps106
 go_wp2_with fail
 go_ret
 exact ⟨rfl, HB.out _ _⟩
theorem rfields_any (s : Sgn) (roles : Int) (w : World) : Calls Tryz.prog 106 #[.agg (sgnC s), .int .i64 roles] w fun e w' => e = .returned (.bool (fieldsB s roles)) ∧ Below w.heap.size w w' := by
 obtain ⟨id, role, bar, mark, kind, side, dir, level, size, wth, fn, fd, tn, td⟩ := s
 unfold sgnC
 by_cases hk : 1 ≤ kind ∧ kind ≤ 9
 ·have : kind = 1 ∨ kind = 2 ∨ kind = 3 ∨ kind = 4 ∨ kind = 5 ∨ kind = 6 ∨ kind = 7 ∨ kind = 8 ∨ kind = 9 := by omega
  rcases this with rfl | rfl | rfl | rfl | rfl | rfl | rfl | rfl | rfl
  ·exact rfields_1 id role bar mark side dir level size wth fn fd tn td roles w
  ·exact rfields_2 id role bar mark side dir level size wth fn fd tn td roles w
  ·exact rfields_3 id role bar mark side dir level size wth fn fd tn td roles w
  ·exact rfields_4 id role bar mark side dir level size wth fn fd tn td roles w
  ·exact rfields_5 id role bar mark side dir level size wth fn fd tn td roles w
  ·exact rfields_6 id role bar mark side dir level size wth fn fd tn td roles w
  ·exact rfields_7 id role bar mark side dir level size wth fn fd tn td roles w
  ·exact rfields_8 id role bar mark side dir level size wth fn fd tn td roles w
  ·exact rfields_9 id role bar mark side dir level size wth fn fd tn td roles w
 ·exact rfields_no id role bar mark side dir level size wth fn fd tn td roles w kind hk
end Go.Proofs.YtggcbblikgankaaGreatDoor
end

/- The walk of the statement: part 2. -/
import Derived.Test.YtggcbblikgankaaGreatDoorYEg4p1
import Derived.Test.YtggcbblikgankaaGreatDoorZ8
import Derived.Test.YtggcbblikgankaaGreatDoorZ19
import Derived.BigQuiet
import Derived.BigCall
import Derived.BigGuard
import Derived.Test.YtggcbblikgankaaGreatDoorZ3
set_option linter.unusedVariables false
set_option linter.unusedSimpArgs false
set_option maxRecDepth 100000
set_option maxHeartbeats 16000000
namespace Go.Proofs.YtggcbblikgankaaGreatDoor
open Go.Value (int)
open Go.IntKind (i64)
section
open Go Go.RowKit Go.Deep
theorem L6 {s : Sgn} {roles : Int} (hf : Ac s roles = true) : inB s.kind 1 9 = true := by
 by_cases h : 1 ≤ s.kind ∧ s.kind ≤ 9
 ·exact A4.2 h
 ·unfold Ac at hf
  rw [if_neg (by omega), if_neg (by omega), if_neg (by omega), if_neg (by omega), if_neg (by omega), if_neg (by omega), if_neg (by omega)] at hf
  cases hf
theorem MR (s : Sgn) (roles bars : Int) : Bl s roles bars = (inB s.role 0 (roles - 1) && inB s.bar 0 (bars - 1) && inB s.mark 1 3 && Ac s roles && Fj s) := by
 cases hf : Ac s roles with
 | false => simp [Bl, hf]
 | true => simp [Bl, hf, L6 hf]
def SF (wd dp ta tb tc bars : Int) (rs : List Rol) (ss : List Sgn) : Bool :=
 (inB wd 1 1000 && inB dp 1 1000 && CM ta tb tc && decide (0 ≤ ta) && decide (0 ≤ tb) && decide (rs ≠ [])) && rs.all (Cy wd dp) && AC rs.length bars (-1) ss
theorem LK (roles bars last : Int) (x : Sgn) (r : List Sgn) : AC roles bars last (x :: r) = ((decide (last < x.id) && decide (x.id ≤ 1048576) && Bl x roles bars) && AC roles bars x.id r) := rfl
structure WkBox (w0 : World) (g : Nat) (ws : Array Value) (wr : World) : Prop where
 below : Below w0.heap.size w0 wr
 row : wr.heap[g]? = some (.cells ws 32 (0, 0))
theorem WkBox.next {w0 : World} {g : Nat} {ws : Array Value} {wr w2 : World} (h : WkBox w0 g ws wr) (hg : g < w0.heap.size) (hb : Below w0.heap.size wr w2) : WkBox w0 g ws w2 :=
 ⟨h.below.trans hb, (hb.block _ hg).trans h.row⟩
theorem WkBox.dn {w0 : World} {g : Nat} {ws : Array Value} {wr : World} (h : WkBox w0 g ws wr) (q : Nat) : WkBox w0 g ws (wr.drewN q) := ⟨AO h.below q, h.row⟩
theorem MW (wd dp ta tb tc bars : Int) (aR aS : Option Addr) (vT vP vX : Value) (nR cR nS cS : Nat) (rs : List Rol) (ss : List Sgn) (w : World) (hb1 : 1 ≤ bars) (hb2 : bars ≤ 4096) (hnR : rs.length = nR) (hnS : ss.length = nS) (hl1 : nR ≤ 64) (hl2 : nS ≤ 4096)
  (hR : IsRow De 4 w (.slice aR nR cR) rs) (hS : IsRow CF 14 w (.slice aS nS cS) ss) :
  Calls Tryz.prog 73 #[.agg #[int i64 wd, int i64 dp, int i64 ta, int i64 tb, int i64 tc, .slice aR nR cR, int i64 bars, vT, vP, vX, .slice aS nS cS]] w fun e w' => e = .returned (.bool (SF wd dp ta tb tc bars rs ss)) ∧ Below w.heap.size w w' := by
 obtain ⟨r, hr⟩ : ∃ r, SF wd dp ta tb tc bars rs ss = r := ⟨_, rfl⟩
 rw [hr]
 have hR0 : r = ((inB wd 1 1000 && inB dp 1 1000 && CM ta tb tc && decide (0 ≤ ta) && decide (0 ≤ tb) && decide (0 < nR)) && rs.all (Cy wd dp) && AC nR bars (-1) ss) := by
  rw [← hr]; unfold SF
  rw [hnR]
  have : decide (rs ≠ []) = decide (0 < nR) := by
   rw [← hnR]; cases rs <;> simp
  rw [this]
 have HR0 := qh hR0
 clear hr hR0
 have hbx : WkBox (w.alloc (.cells #[int i64 wd, int i64 dp, int i64 ta, int i64 tb, int i64 tc, .slice aR nR cR, int i64 bars, vT, vP, vX, .slice aS nS cS] 32)) w.heap.size #[int i64 wd, int i64 dp, int i64 ta, int i64 tb, int i64 tc, .slice aR nR cR, int i64 bars, vT, vP, vX, .slice aS nS cS] (w.alloc (.cells #[int i64 wd, int i64 dp, int i64 ta, int i64 tb, int i64 tc, .slice aR nR cR, int i64 bars, vT, vP, vX, .slice aS nS cS] 32)) := ⟨Below.refl _ _, heap_alloc_new w _⟩
 have hbw : Below w.heap.size w (w.alloc (.cells #[int i64 wd, int i64 dp, int i64 ta, int i64 tb, int i64 tc, .slice aR nR cR, int i64 bars, vT, vP, vX, .slice aS nS cS] 32)) := (Below.refl _ w).alloc (qn _) _
 have hsz : w.heap.size < (w.alloc (.cells #[int i64 wd, int i64 dp, int i64 ta, int i64 tb, int i64 tc, .slice aR nR cR, int i64 bars, vT, vP, vX, .slice aS nS cS] 32)).heap.size := by simp
 have HBW := qh hbw; have HR := qh hR; have HS := qh hS; have HNR := qh hnR; have HNS := qh hnS
 clear hbw hR hS hnR hnS
 have c0 := A0 hbx.row 0 rfl; have c1 := A0 hbx.row 1 rfl; have c2 := A0 hbx.row 2 rfl; have c3 := A0 hbx.row 3 rfl; have c4 := A0 hbx.row 4 rfl; have c5 := A0 hbx.row 5 rfl
 have HBX := qh hbx
 clear hbx
 cases q1 : inB wd 1 1000 with
 | false =>
  obtain rfl : r = false := by rw [HR0.out, q1]; rfl
  go_enter Tryz.func73, Tryz.ntmps73
  go_wp2_with (go_at_call 104; refine (AA (by assumption) _).mono ?_; rintro e w' ⟨rfl, rfl⟩)
  go_ret
  exact ⟨rfl, HBW.out⟩
 | true =>
 cases q2 : inB dp 1 1000 with
 | false =>
  obtain rfl : r = false := by rw [HR0.out, q2]; simp
  go_enter Tryz.func73, Tryz.ntmps73
  go_wp2_with (go_at_call 104; refine (AA (by assumption) _).mono ?_; rintro e w' ⟨rfl, rfl⟩)
  go_ret
  exact ⟨rfl, HBW.out⟩
 | true =>
 go_enter Tryz.func73, Tryz.ntmps73
 go_wp2_with (go_at_call 104; refine (AA (by assumption) _).mono ?_; rintro e w' ⟨rfl, rfl⟩)
 have HH : Hid (r = ((CM ta tb tc && decide (0 ≤ ta) && decide (0 ≤ tb) && decide (0 < nR)) && rs.all (Cy wd dp) && AC nR bars (-1) ss)) := qh (by rw [HR0.out, q1, q2]; rfl)
 clear q1 q2 HR0
 generalize w.alloc (.cells #[int i64 wd, int i64 dp, int i64 ta, int i64 tb, int i64 tc, .slice aR nR cR, int i64 bars, vT, vP, vX, .slice aS nS cS] 32) = w0 at *
 refine (Kh ta tb tc w0).mono ?_
 rintro e w1 ⟨rfl, hb⟩
 have HX1 := qh (HBX.out.next (w2 := w1) hsz hb)
 have HBW1 := qh (HBW.out.trans (hb.mono HBW.out.size))
 clear hb c0 c1 c2 c3 c4 c5
 have c2 := A0 HX1.out.row 2 rfl; have c3 := A0 HX1.out.row 3 rfl; have c5 := A0 HX1.out.row 5 rfl
 cases q3 : CM ta tb tc with
 | false =>
  obtain rfl : r = false := by rw [HH.out, q3]; rfl
  go_wp2_with fail
  go_ret
  exact ⟨rfl, HBW1.out⟩
 | true =>
 cases q4 : decide (ta < 0) with
 | true =>
  obtain rfl : r = false := by rw [HH.out, decide_eq_false (show ¬ 0 ≤ ta by have := of_decide_eq_true q4; omega)]; simp
  go_wp2_with fail
  go_ret
  exact ⟨rfl, HBW1.out⟩
 | false =>
 cases q5 : decide (tb < 0) with
 | true =>
  obtain rfl : r = false := by rw [HH.out, decide_eq_false (show ¬ 0 ≤ tb by have := of_decide_eq_true q5; omega)]; simp
  go_wp2_with fail
  go_ret
  exact ⟨rfl, HBW1.out⟩
 | false =>
 by_cases q6 : nR = 0
 ·obtain rfl : r = false := by rw [HH.out, decide_eq_false (show ¬ 0 < nR by omega)]; simp
  have hz : ((nR : Int) == 0) = true := by simp; omega
  clear q6
  go_wp2_with fail
  go_ret
  exact ⟨rfl, HBW1.out⟩
 have hz : ((nR : Int) == 0) = false := by simp; omega
 have HA : Hid (r = (rs.all (Cy wd dp) && AC nR bars (-1) ss)) := qh (by
  rw [HH.out, q3, decide_eq_true (show 0 ≤ ta by have := of_decide_eq_false q4; omega), decide_eq_true (show 0 ≤ tb by have := of_decide_eq_false q5; omega), decide_eq_true (show 0 < nR by omega)]; rfl)
 clear HH
 go_wp2_with fail
 clear q3 q4 q5 hz c2 c3 c5
 have HA0 : Hid ((rs.take 0).all (Cy wd dp) = true) := qh rfl
 go_loopw [3] (fun iv wr => ∃ i : Nat, i ≤ nR ∧ iv = int i64 i ∧ Hid ((rs.take i).all (Cy wd dp) = true) ∧ Hid (WkBox w0 w.heap.size #[int i64 wd, int i64 dp, int i64 ta, int i64 tb, int i64 tc, .slice aR nR cR, int i64 bars, vT, vP, vX, .slice aS nS cS] wr)) (fun iv _ => nR - (intOf iv).toNat)
 case atStart => exact ⟨0, Nat.zero_le _, rfl, HA0, HX1⟩
 case round =>
  clear HX1 HA0 HBW1
  obtain ⟨i, hi, rfl, hA, hB⟩ := hrel
  have HBE := qh hB.out.below
  have HBW2 := qh (HBW.out.trans (HBE.out.mono HBW.out.size))
  have hsr := HBE.out.size
  have c0 := A0 hB.out.row 0 rfl; have c1 := A0 hB.out.row 1 rfl; have c5 := A0 hB.out.row 5 rfl
  by_cases hin : i < nR
  ·have hin' : (i : Int) < (nR : Int) := by omega
   obtain ⟨p, hs⟩ : ∃ s, rs[i]? = some s := ⟨_, qg (by rw [HNR.out]; exact hin)⟩
   obtain ⟨b, o, hao, hat, hlt⟩ := HR.out.block hs
   subst hao
   obtain ⟨p0, p1, p2, p3⟩ := atR (hat.below HBW2.out hlt) hs
   have HOK : Hid (Cy wd dp p = true → (rs.take (i + 1)).all (Cy wd dp) = true) := qh fun h => It hA.out hs h
   have HBD : Hid (Cy wd dp p = false → r = false) := qh fun h => by rw [HA.out, JV hs h]; rfl
   have hB5 := hB.out.next (w2 := wr.alloc (.cells #[.string ⟨p.name.toArray⟩, int i64 p.x, int i64 p.y, int i64 p.face] 86)) hsz ((Below.refl _ _).alloc hsr _)
   have x2 := heap_alloc_new wr (.cells #[.string ⟨p.name.toArray⟩, int i64 p.x, int i64 p.y, int i64 p.face] 86)
   have e0 := A0 hB5.row 0 rfl; have e1 := A0 hB5.row 1 rfl
   clear hat hlt hs hA hB HA
   go_wp2_with fail
   generalize wr.alloc (.cells #[.string ⟨p.name.toArray⟩, int i64 p.x, int i64 p.y, int i64 p.face] 86) = w5 at *
   have l1 : w5.cell? ⟨wr.heap.size, 1, none⟩ = some (int i64 p.x) := A0 x2 1 rfl
   have l2 : w5.cell? ⟨wr.heap.size, 2, none⟩ = some (int i64 p.y) := A0 x2 2 rfl
   have l3 : w5.cell? ⟨wr.heap.size, 3, none⟩ = some (int i64 p.face) := A0 x2 3 rfl
   have HB5 := qh hB5
   have HBW5 := qh (HBW.out.trans (hB5.below.mono HBW.out.size))
   clear c0 c1 c5 p0 p1 p2 p3 x2 hB5
   have hro : Cy wd dp p = (inB p.x 0 wd && inB p.y 0 dp && inB p.face 0 7) := rfl
   have HRO := qh hro
   clear hro
   cases q1 : inB p.x 0 wd with
   | false =>
    obtain rfl : r = false := HBD.out (by rw [HRO.out, q1]; rfl)
    go_wp2_with (go_at_call 104; refine (AA (by assumption) _).mono ?_; rintro e w' ⟨rfl, rfl⟩)
    go_ret
    exact ⟨rfl, HBW5.out⟩
   | true =>
   cases q2 : inB p.y 0 dp with
   | false =>
    obtain rfl : r = false := HBD.out (by rw [HRO.out, q2]; simp)
    go_wp2_with (go_at_call 104; refine (AA (by assumption) _).mono ?_; rintro e w' ⟨rfl, rfl⟩)
    go_ret
    exact ⟨rfl, HBW5.out⟩
   | true =>
   cases q3 : inB p.face 0 7 with
   | false =>
    obtain rfl : r = false := HBD.out (by rw [HRO.out, q3]; simp)
    go_wp2_with (go_at_call 104; refine (AA (by assumption) _).mono ?_; rintro e w' ⟨rfl, rfl⟩)
    go_ret
    exact ⟨rfl, HBW5.out⟩
   | true =>
   have HA2 := qh (HOK.out (by rw [HRO.out, q1, q2, q3]; rfl))
   go_wp2_with (go_at_call 104; refine (AA (by assumption) _).mono ?_; rintro e w' ⟨rfl, rfl⟩)
   go_roundw
   case rel => exact ⟨i + 1, by omega, by go_num, HA2, HB5⟩
   case measure => simp [intOf] <;> omega
  ·obtain rfl : i = nR := by omega
   have hin' : ¬ (i : Int) < (i : Int) := by omega
   have HSG : Hid (r = AC i bars (-1) ss) := qh (by
    have := hA.out
    rw [List.take_of_length_le (by rw [HNR.out]; exact qn _)] at this
    rw [HA.out, this]; rfl)
   have HS0 : Hid (r = AC i bars (-1) (ss.drop 0)) := HSG
   have HP0 : Hid (∀ i0 p, 0 = i0 + 1 → ss[i0]? = some p → p.id = (-1 : Int)) := qh fun i0 p h => by omega
   clear hA HA
   go_wp2_with fail
   clear c0 c1 c5 HBE HBW2 hsr
   go_loopw [5] (fun jv wr => ∃ (j : Nat) (last : Int), j ≤ nS ∧ jv = int i64 j ∧ (j = 0 ∧ last = -1 ∨ 0 < j ∧ 0 ≤ last) ∧ Hid (r = AC i bars last (ss.drop j)) ∧ Hid (∀ i0 p, j = i0 + 1 → ss[i0]? = some p → p.id = last) ∧ Hid (WkBox w0 w.heap.size #[int i64 wd, int i64 dp, int i64 ta, int i64 tb, int i64 tc, .slice aR i cR, int i64 bars, vT, vP, vX, .slice aS nS cS] wr)) (fun jv _ => nS - (intOf jv).toNat)
   case atStart => exact ⟨0, -1, Nat.zero_le _, rfl, Or.inl ⟨rfl, rfl⟩, HS0, HP0, hB⟩
   case round =>
    clear HS0 HP0 HSG hB
    obtain ⟨j, last, hj, rfl, hlast, hA, hP, hB⟩ := hrel
    have HBE := qh hB.out.below
    have HBW2 := qh (HBW.out.trans (HBE.out.mono HBW.out.size))
    have hsr := HBE.out.size
    have c10 := A0 hB.out.row 10 rfl
    by_cases hjn : j < nS
    ·have hjn' : (j : Int) < (nS : Int) := by omega
     obtain ⟨p, hs⟩ : ∃ s, ss[j]? = some s := ⟨_, qg (by rw [HNS.out]; exact hjn)⟩
     obtain ⟨b, o, hao, hat, hlt⟩ := HS.out.block hs
     subst hao
     obtain ⟨p0, p1, p2, p3, p4, p5, p6, p7, p8, p9, p10, p11, p12, p13⟩ := atS (hat.below HBW2.out hlt) hs
     have HRR : Hid (r = ((decide (last < p.id) && decide (p.id ≤ 1048576) && (inB p.role 0 ((i : Int) - 1) && inB p.bar 0 (bars - 1) && inB p.mark 1 3 && Ac p i && Fj p)) && AC i bars p.id (ss.drop (j + 1)))) := qh (by
      rw [hA.out, Ab hs, LK, MR])
     have HPN : Hid (∀ i0 q, j + 1 = i0 + 1 → ss[i0]? = some q → q.id = p.id) := qh fun i0 q h1 h2 => by
      obtain rfl : i0 = j := by omega
      rw [hs] at h2; cases h2; rfl
     have hB5 := hB.out.next (w2 := wr.alloc (.cells #[int i64 p.id, int i64 p.role, int i64 p.bar, int i64 p.mark, int i64 p.kind, int i64 p.side, int i64 p.dir, int i64 p.level, int i64 p.size, int i64 p.wth, int i64 p.fn, int i64 p.fd, int i64 p.tn, int i64 p.td] 72)) hsz ((Below.refl _ _).alloc hsr _)
     have x2 := heap_alloc_new wr (.cells #[int i64 p.id, int i64 p.role, int i64 p.bar, int i64 p.mark, int i64 p.kind, int i64 p.side, int i64 p.dir, int i64 p.level, int i64 p.size, int i64 p.wth, int i64 p.fn, int i64 p.fd, int i64 p.tn, int i64 p.td] 72)
     have HPV : Hid (0 < j → ∀ W, Below w.heap.size w W → ∃ i0 : Nat, (j : Int) - 1 = (i0 : Int) ∧ (i0 : Int) < (nS : Int) ∧ W.cell? ⟨b, o + i0 * 14, none⟩ = some (int i64 last)) := qh fun h W hW => by
      obtain ⟨i0, rfl⟩ : ∃ i0, j = i0 + 1 := ⟨j - 1, by omega⟩
      obtain ⟨q, hq⟩ : ∃ s, ss[i0]? = some s := ⟨_, qg (by rw [HNS.out]; omega)⟩
      refine ⟨i0, by omega, by omega, ?_⟩
      rw [← hP.out i0 q rfl hq]
      exact (atS (hat.below hW hlt) hq).1
     have hsx : wr.heap.size < (wr.alloc (.cells #[int i64 p.id, int i64 p.role, int i64 p.bar, int i64 p.mark, int i64 p.kind, int i64 p.side, int i64 p.dir, int i64 p.level, int i64 p.size, int i64 p.wth, int i64 p.fn, int i64 p.fd, int i64 p.tn, int i64 p.td] 72)).heap.size := by simp
     clear hat hlt hs hA hB hP
     go_wp2_with fail
     generalize wr.alloc (.cells #[int i64 p.id, int i64 p.role, int i64 p.bar, int i64 p.mark, int i64 p.kind, int i64 p.side, int i64 p.dir, int i64 p.level, int i64 p.size, int i64 p.wth, int i64 p.fn, int i64 p.fd, int i64 p.tn, int i64 p.td] 72) = w5 at *
     have l0 : w5.cell? ⟨wr.heap.size, 0, none⟩ = some (int i64 p.id) := A0 x2 0 rfl
     have l1 : w5.cell? ⟨wr.heap.size, 1, none⟩ = some (int i64 p.role) := A0 x2 1 rfl
     have l2 : w5.cell? ⟨wr.heap.size, 2, none⟩ = some (int i64 p.bar) := A0 x2 2 rfl
     have l3 : w5.cell? ⟨wr.heap.size, 3, none⟩ = some (int i64 p.mark) := A0 x2 3 rfl
     have HX2 := qh x2
     have HB5 := qh hB5
     have HBW5 := qh (HBW.out.trans (hB5.below.mono HBW.out.size))
     clear c10 p0 p1 p2 p3 p4 p5 p6 p7 p8 p9 p10 p11 p12 p13 x2 hB5
     have c5 := A0 HB5.out.row 5 rfl; have c6 := A0 HB5.out.row 6 rfl; have c10 := A0 HB5.out.row 10 rfl
     generalize wr.heap.size = gw at *
     have hpv : (0 < j ∧ ∃ i0 : Nat, (j : Int) - 1 = (i0 : Int) ∧ (i0 : Int) < (nS : Int) ∧ IntKind.i64.wrap (i0 : Int) = (i0 : Int) ∧ w5.cell? ⟨b, o + i0 * 14, none⟩ = some (int i64 last)) ∨ ¬ 0 < j := by
      by_cases h : 0 < j
      ·obtain ⟨i0, a1, a2, a3⟩ := HPV.out h w5 HBW5.out
       exact Or.inl ⟨h, i0, a1, a2, IntWalk.i64_in _ (by omega), a3⟩
      ·exact Or.inr h
     have hwr : IntKind.i64.wrap ((i : Int) - 1) = (i : Int) - 1 := IntWalk.i64_in _ (by omega)
     have hwb : IntKind.i64.wrap (bars - 1) = bars - 1 := IntWalk.i64_in _ (by omega)
     clear HPV HBE HBW2 hsr
     cases q1 : inB p.id 0 1048576 with
     | false =>
      obtain rfl : r = false := by
       rw [HRR.out]
       rw [Ah] at q1
       rcases q1 with h | h
       ·rw [decide_eq_false (show ¬ last < p.id by omega)]; rfl
       ·rw [decide_eq_false (show ¬ p.id ≤ 1048576 by omega)]; simp
      clear hlast hpv
      go_quiet ((go_at_call 104; refine Calls.quiet_of_same (AA (by assumption) _)))
      go_wp2_with fail
      go_ret
      exact ⟨rfl, AO HBW5.out _⟩
     | true =>
     have hid := A4.1 q1
     by_cases hle : 0 < j ∧ p.id ≤ last
     ·obtain ⟨hj0, hle⟩ := hle
      obtain rfl : r = false := by rw [HRR.out, decide_eq_false (show ¬ last < p.id by omega)]; rfl
      rcases hpv with ⟨_, i0, hi0, hi0n, hwi, pc⟩ | hx
      ·have hj0' : (0 : Int) < (j : Int) := by omega
       clear hlast hid
       go_quiet ((go_at_call 104; refine Calls.quiet_of_same (AA (by assumption) _)))
       go_wp2_with fail
       go_ret
       exact ⟨rfl, AO HBW5.out _⟩
      ·exact absurd hj0 hx
     have hlt3 : last < p.id := by omega
     have hrr2 : r = ((inB p.role 0 ((i : Int) - 1) && inB p.bar 0 (bars - 1) && inB p.mark 1 3 && Ac p i && Fj p) && AC i bars p.id (ss.drop (j + 1))) := by
      rw [HRR.out, decide_eq_true hlt3, decide_eq_true hid.2]; rfl
     have HR2 := qh hrr2
     have hpv2 : ((0 < j) ∧ (¬ p.id ≤ last) ∧ ∃ i0 : Nat, (j : Int) - 1 = (i0 : Int) ∧ (i0 : Int) < (nS : Int) ∧ IntKind.i64.wrap (i0 : Int) = (i0 : Int) ∧ w5.cell? ⟨b, o + i0 * 14, none⟩ = some (int i64 last)) ∨ ¬ 0 < j := by
      rcases hpv with ⟨h1, i0, h2⟩ | h
      ·exact Or.inl ⟨by omega, by omega, i0, h2⟩
      ·exact Or.inr (by omega)
     have hid0 : 0 ≤ p.id := hid.1
     clear hrr2 HRR hpv hle hlast hid hlt3
     cases q2 : inB p.role 0 ((i : Int) - 1) with
     | false =>
      obtain rfl : r = false := by rw [HR2.out, q2]; rfl
      rcases hpv2 with ⟨hj0, hgt, i0, hi0, hi0n, hwi, pc⟩ | hj0
      all_goals
       go_quiet ((go_at_call 104; refine Calls.quiet_of_same (AA (by assumption) _)))
       go_wp2_with fail
       go_ret
       exact ⟨rfl, AO HBW5.out _⟩
     | true =>
     cases q3 : inB p.bar 0 (bars - 1) with
     | false =>
      obtain rfl : r = false := by rw [HR2.out, q3]; simp
      rcases hpv2 with ⟨hj0, hgt, i0, hi0, hi0n, hwi, pc⟩ | hj0
      all_goals
       go_quiet ((go_at_call 104; refine Calls.quiet_of_same (AA (by assumption) _)))
       go_wp2_with fail
       go_ret
       exact ⟨rfl, AO HBW5.out _⟩
     | true =>
     cases q4 : inB p.mark 1 3 with
     | false =>
      obtain rfl : r = false := by rw [HR2.out, q4]; simp
      rcases hpv2 with ⟨hj0, hgt, i0, hi0, hi0n, hwi, pc⟩ | hj0
      all_goals
       go_quiet ((go_at_call 104; refine Calls.quiet_of_same (AA (by assumption) _)))
       go_wp2_with fail
       go_ret
       exact ⟨rfl, AO HBW5.out _⟩
     | true =>
     have HR3 : Hid (r = (Ac p i && Fj p && AC i bars p.id (ss.drop (j + 1)))) := qh (by rw [HR2.out, q2, q3, q4]; simp)
     have HF := qh (fun W => LU p i W)
     have HSP := qh (fun W => Ps p W)
     unfold AR at HF HSP
     have HX5 := qh (fun q => HB5.out.dn q)
     clear HR2
     rcases hpv2 with ⟨hj0, hgt, i0, hi0, hi0n, hwi, pc⟩ | hj0
     all_goals
      go_quiet ((go_at_call 104; refine Calls.quiet_of_same (AA (by assumption) _)))
      go_wp2_with (refine wpList_load_row rfl 72 _ rfl gw rfl 72 _ (0, 0) _ HX2.out Tryz.underlying72 rfl (by kernel_rfl) ?_; simp only [Act.put, qD, qE, qF])
      refine (HF.out _).mono ?_
      rintro e w6 ⟨rfl, hb6⟩
      have HB6 := qh ((HX5.out _).next (w2 := w6) hsz (hb6.mono (HX5.out _).below.size))
      have HW6 := qh (HBW.out.trans (HB6.out.below.mono HBW.out.size))
      have HX6 := qh ((hb6.block gw hsx).trans HX2.out)
      clear hb6 c5 c6 c10 l0 l1 l2 l3
      cases q5 : Ac p i with
      | false =>
       obtain rfl : r = false := by rw [HR3.out, q5]; rfl
       go_wp2_with fail
       go_ret
       exact ⟨rfl, HW6.out⟩
      | true =>
      go_wp2_with (refine EY rfl 72 _ rfl gw rfl 72 _ (0, 0) _ HX6.out Tryz.underlying72 rfl (by kernel_rfl) ?_; simp only [Act.put, qD, qE, qF])
      refine (HSP.out _).mono ?_
      rintro e w7 ⟨rfl, hb7⟩
      have HB7 := qh (HB6.out.next (w2 := w7) hsz (hb7.mono HB6.out.below.size))
      have HW7 := qh (HBW.out.trans (HB7.out.below.mono HBW.out.size))
      clear hb7
      cases q6 : Fj p with
      | false =>
       obtain rfl : r = false := by rw [HR3.out, q6]; simp
       go_wp2_with fail
       go_ret
       exact ⟨rfl, HW7.out⟩
      | true =>
      have HA2 : Hid (r = AC i bars p.id (ss.drop (j + 1))) := qh (by rw [HR3.out, q5, q6]; rfl)
      clear q1 q2 q3 q4 q5 q6
      go_wp2_with fail
      go_roundw
      case rel => exact ⟨j + 1, p.id, by omega, by go_num, Or.inr ⟨by omega, hid0⟩, HA2, HPN, HB7⟩
      case measure => simp [intOf] <;> omega
    ·obtain rfl : j = nS := by omega
     have hjn' : ¬ (j : Int) < (j : Int) := by omega
     have HF : Hid (r = true) := qh (by
      have := hA.out
      rw [List.drop_of_length_le (by rw [HNS.out]; exact qn _)] at this
      rw [this]; rfl)
     clear hA hB
     go_wp2_with fail
     go_ret
     exact ⟨by rw [HF.out]; rfl, HBW2.out⟩
end
end Go.Proofs.YtggcbblikgankaaGreatDoor

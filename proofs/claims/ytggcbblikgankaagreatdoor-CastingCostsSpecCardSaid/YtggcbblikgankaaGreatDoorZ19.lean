/- Contracts and plain laws on the way to the statement: part 19. -/
import Derived.Test.YtggcbblikgankaaGreatDoorZ15
import Derived.Test.YtggcbblikgankaaGreatDoorZ18
import Derived.Test.YtggcbblikgankaaGreatDoorZ3
set_option linter.unusedVariables false
set_option linter.unusedSimpArgs false
set_option maxRecDepth 100000
set_option maxHeartbeats 16000000
namespace Go.Proofs.YtggcbblikgankaaGreatDoor
open Go.Value (int)
open Go.IntKind (i64)
section
open Go.RowKit
def De (r : Rol) : List Value := [.string ⟨r.name.toArray⟩, int i64 r.x, int i64 r.y, int i64 r.face]
def CF (s : Sgn) : List Value := [int i64 s.id, int i64 s.role, int i64 s.bar, int i64 s.mark, int i64 s.kind, int i64 s.side, int i64 s.dir, int i64 s.level, int i64 s.size, int i64 s.wth, int i64 s.fn, int i64 s.fd, int i64 s.tn, int i64 s.td]
theorem N0 (s : Sgn) (roles : Int) (h : inB s.kind 1 9 = true) : Cz s.kind.toNat s.side s.dir s.level s.size s.wth roles = Ac s roles := by
 obtain ⟨h1, h2⟩ := A4.1 h
 obtain ⟨k, hk⟩ : ∃ k : Nat, s.kind = (k : Int) := ⟨s.kind.toNat, by omega⟩
 unfold Ac Cz
 rw [hk] at h1 h2 ⊢
 have : k = 1 ∨ k = 2 ∨ k = 3 ∨ k = 4 ∨ k = 5 ∨ k = 6 ∨ k = 7 ∨ k = 8 ∨ k = 9 := by omega
 rcases this with rfl | rfl | rfl | rfl | rfl | rfl | rfl | rfl | rfl <;> simp [Cn, Dq, Fz, Dn, Cr, BS, CU]
theorem P6 (s : Sgn) (roles bars : Int) : CS s.role s.bar s.mark s.kind s.side s.dir s.level s.size s.wth s.fn s.fd s.tn s.td roles bars = Bl s roles bars := by
 unfold CS Bl
 cases h : inB s.kind 1 9 with
 | false => simp
 | true => rw [N0 s roles h]; rfl
theorem JC {c : Clk} (h : BP c = 0) : 1 ≤ c.bars ∧ c.bars ≤ 4096 := by
 unfold BP at h
 split at h
 ·split at h
  ·rename_i h1 h2
   unfold DB Bv at h2
   simp only [Bool.and_eq_true] at h2
   exact A4.1 h2.1.1.1.1.1
  ·exact absurd h (by decide)
 ·exact absurd h (by decide)
theorem Nq {k : Wrk} (h : 64 < k.roles.length ∨ 4096 < k.signs.length) : 2 = Ao k := by
 unfold Ao Eg
 rcases h with h | h <;> simp [h] <;> (intro h1; omega)
theorem No {k : Wrk} (h1 : k.roles.length ≤ 64) (h2 : k.signs.length ≤ 4096) (h : ¬ BP k.clock = 0) : BP k.clock = Ao k := by
 unfold Ao Eg; rw [decide_eq_true h1, decide_eq_true h2]; simp [h]
theorem ND {k : Wrk} (h1 : k.roles.length ≤ 64) (h2 : k.signs.length ≤ 4096) (h : BP k.clock = 0) (hb : E7 k = false) : 190 = Ao k := by
 unfold Ao Eg; rw [decide_eq_true h1, decide_eq_true h2]; simp [h, hb]
theorem PR {k : Wrk} (h1 : k.roles.length ≤ 64) (h2 : k.signs.length ≤ 4096) (h : BP k.clock = 0) (hb : E7 k = true) : 0 = Ao k := by
 unfold Ao Eg; rw [decide_eq_true h1, decide_eq_true h2]; simp [h, hb]
theorem DC {k : Wrk} (h : Cx k = false) : E7 k = false := by unfold E7; rw [h]; rfl
theorem FT {k : Wrk} (h : k.roles.all (Cy k.width k.depth) = false) : E7 k = false := by unfold E7; rw [h]; simp
theorem Gd {k : Wrk} (h : AC k.roles.length k.clock.bars (-1) k.signs = false) : E7 k = false := by unfold E7; rw [h]; simp
theorem MA (wd dp ta tb tc bars : Int) (aR aT aP aX aS : Option Addr) (cR cT cP cX cS : Nat) (rs : List Rol) (ts : List Tmp) (ps : List Pau) (xs : List Con) (ss : List Sgn) (w : World) (hE : Env w)
  (hR : IsRow De 4 w (.slice aR rs.length cR) rs) (hT : IsRow Bq 3 w (.slice aT ts.length cT) ts) (hP : IsRow Cl 4 w (.slice aP ps.length cP) ps) (hX : IsRow Ck 4 w (.slice aX xs.length cX) xs) (hS : IsRow CF 14 w (.slice aS ss.length cS) ss) (hl : 64 < rs.length ∨ 4096 < ss.length) : Calls Tryz.prog 42 #[.agg #[int i64 wd, int i64 dp, int i64 ta, int i64 tb, int i64 tc, .slice aR rs.length cR, int i64 bars, .slice aT ts.length cT, .slice aP ps.length cP, .slice aX xs.length cX, .slice aS ss.length cS]] w fun e w' => e = .returned (int i64 (Ao ⟨wd, dp, ta, tb, tc, rs, ⟨bars, ts, ps, xs⟩, ss⟩)) ∧ Below w.heap.size w w' := by
 have WL := qh (Nq (k := ⟨wd, dp, ta, tb, tc, rs, ⟨bars, ts, ps, xs⟩, ss⟩) hl)
 clear hE hR hT hP hX hS
 generalize Ao ⟨wd, dp, ta, tb, tc, rs, ⟨bars, ts, ps, xs⟩, ss⟩ = ans at *
 generalize rs.length = nR at *
 generalize ts.length = nT at *
 generalize ps.length = nP at *
 generalize xs.length = nX at *
 generalize ss.length = nS at *
 by_cases h1 : 64 < nR
 ·have f1 : (64 : Int) < (nR : Int) := by omega
  clear hl h1
  go_enter Tryz.func42, Tryz.ntmps42
  go_wp2_with fail
  go_ret
  exact ⟨Af WL.out, (Below.refl _ w).alloc (qn _) _⟩
 ·have f1 : ¬ (64 : Int) < (nR : Int) := by omega
  have f2 : (4096 : Int) < (nS : Int) := by omega
  clear hl h1
  go_enter Tryz.func42, Tryz.ntmps42
  go_wp2_with fail
  go_ret
  exact ⟨Af WL.out, (Below.refl _ w).alloc (qn _) _⟩
theorem atR {w : World} {b o i : Nat} {ts : List Rol} {t : Rol} (h : AtRow De 4 w b o ts) (ht : ts[i]? = some t) :
  w.cell? ⟨b, o + i * 4, none⟩ = some (.string ⟨t.name.toArray⟩) ∧ w.cell? ⟨b, o + i * 4 + 1, none⟩ = some (int i64 t.x) ∧ w.cell? ⟨b, o + i * 4 + 2, none⟩ = some (int i64 t.y) ∧ w.cell? ⟨b, o + i * 4 + 3, none⟩ = some (int i64 t.face) :=
 ⟨h i t ht 0 _ rfl, h i t ht 1 _ rfl, h i t ht 2 _ rfl, h i t ht 3 _ rfl⟩
theorem atS {w : World} {b o i : Nat} {ts : List Sgn} {t : Sgn} (h : AtRow CF 14 w b o ts) (ht : ts[i]? = some t) :
  w.cell? ⟨b, o + i * 14, none⟩ = some (int i64 t.id) ∧ w.cell? ⟨b, o + i * 14 + 1, none⟩ = some (int i64 t.role) ∧ w.cell? ⟨b, o + i * 14 + 2, none⟩ = some (int i64 t.bar) ∧ w.cell? ⟨b, o + i * 14 + 3, none⟩ = some (int i64 t.mark) ∧ w.cell? ⟨b, o + i * 14 + 4, none⟩ = some (int i64 t.kind) ∧ w.cell? ⟨b, o + i * 14 + 5, none⟩ = some (int i64 t.side) ∧ w.cell? ⟨b, o + i * 14 + 6, none⟩ = some (int i64 t.dir) ∧ w.cell? ⟨b, o + i * 14 + 7, none⟩ = some (int i64 t.level) ∧ w.cell? ⟨b, o + i * 14 + 8, none⟩ = some (int i64 t.size) ∧ w.cell? ⟨b, o + i * 14 + 9, none⟩ = some (int i64 t.wth) ∧ w.cell? ⟨b, o + i * 14 + 10, none⟩ = some (int i64 t.fn) ∧ w.cell? ⟨b, o + i * 14 + 11, none⟩ = some (int i64 t.fd) ∧ w.cell? ⟨b, o + i * 14 + 12, none⟩ = some (int i64 t.tn) ∧ w.cell? ⟨b, o + i * 14 + 13, none⟩ = some (int i64 t.td) :=
 ⟨h i t ht 0 _ rfl, h i t ht 1 _ rfl, h i t ht 2 _ rfl, h i t ht 3 _ rfl, h i t ht 4 _ rfl, h i t ht 5 _ rfl, h i t ht 6 _ rfl, h i t ht 7 _ rfl, h i t ht 8 _ rfl, h i t ht 9 _ rfl, h i t ht 10 _ rfl, h i t ht 11 _ rfl, h i t ht 12 _ rfl, h i t ht 13 _ rfl⟩
theorem Kt (wd dp ta tb tc bars : Int) (aR aT aP aX aS : Option Addr) (cR cT cP cX cS : Nat) (rs : List Rol) (ts : List Tmp) (ps : List Pau) (xs : List Con) (ss : List Sgn) (w : World) (hE : Env w)
  (hR : IsRow De 4 w (.slice aR rs.length cR) rs) (hT : IsRow Bq 3 w (.slice aT ts.length cT) ts) (hP : IsRow Cl 4 w (.slice aP ps.length cP) ps) (hX : IsRow Ck 4 w (.slice aX xs.length cX) xs) (hS : IsRow CF 14 w (.slice aS ss.length cS) ss) (hl1 : rs.length ≤ 64) (hl2 : ss.length ≤ 4096) : Calls Tryz.prog 42 #[.agg #[int i64 wd, int i64 dp, int i64 ta, int i64 tb, int i64 tc, .slice aR rs.length cR, int i64 bars, .slice aT ts.length cT, .slice aP ps.length cP, .slice aX xs.length cX, .slice aS ss.length cS]] w fun e w' => e = .returned (int i64 (Ao ⟨wd, dp, ta, tb, tc, rs, ⟨bars, ts, ps, xs⟩, ss⟩)) ∧ Below w.heap.size w w' := by
 have hck := fun (w : World) h1 h2 h3 => N8 bars aT aP aX cT cP cX ts ps xs w h1 h2 h3
 generalize hwk : (⟨wd, dp, ta, tb, tc, rs, ⟨bars, ts, ps, xs⟩, ss⟩ : Wrk) = wk
 have k1 : wk.width = wd := by rw [← hwk]
 have k2 : wk.depth = dp := by rw [← hwk]
 have k3 : wk.ta = ta := by rw [← hwk]
 have k4 : wk.tb = tb := by rw [← hwk]
 have k5 : wk.tc = tc := by rw [← hwk]
 have k6 : wk.roles = rs := by rw [← hwk]
 have k7 : wk.clock = ⟨bars, ts, ps, xs⟩ := by rw [← hwk]
 have k8 : wk.signs = ss := by rw [← hwk]
 have k9 : wk.clock.bars = bars := by rw [← hwk]
 have hbad := fun h hb => ND (k := wk) (by rw [k6]; exact hl1) (by rw [k8]; exact hl2) h hb
 have hgood := fun h hb => PR (k := wk) (by rw [k6]; exact hl1) (by rw [k8]; exact hl2) h hb
 have hclk := fun h => No (k := wk) (by rw [k6]; exact hl1) (by rw [k8]; exact hl2) h
 rw [← k7] at hck
 obtain ⟨clk, k10⟩ : ∃ clk, wk.clock = clk := ⟨_, rfl⟩
 rw [k10] at hck hbad hgood hclk k9
 have K10 := qh k10; clear k10
 have K1 := qh k1; have K2 := qh k2; have K3 := qh k3; have K4 := qh k4; have K5 := qh k5; have K6 := qh k6; have K8 := qh k8; have K9 := qh k9
 have HBAD := qh hbad; have HGOOD := qh hgood; have HCLK := qh hclk
 clear hwk k1 k2 k3 k4 k5 k6 k7 k8 k9 hbad hgood hclk
 have HE := qh hE; have HR := qh hR; have HT := qh hT; have HP := qh hP; have HX := qh hX; have HS := qh hS; have HCK := qh hck
 clear hE hR hT hP hX hS hck
 generalize hnR : rs.length = nR at *
 generalize hnS : ss.length = nS at *
 generalize ts.length = nT at *
 generalize ps.length = nP at *
 generalize xs.length = nX at *
 have NR := qh hnR; have NS := qh hnS
 clear hnR hnS
 have f1 : ¬ (64 : Int) < (nR : Int) := by omega
 have f2 : ¬ (4096 : Int) < (nS : Int) := by omega
 have b0 : Below w.heap.size w (w.alloc (.cells #[int i64 wd, int i64 dp, int i64 ta, int i64 tb, int i64 tc, .slice aR nR cR, int i64 bars, .slice aT nT cT, .slice aP nP cP, .slice aX nX cX, .slice aS nS cS] 32)) := (Below.refl _ w).alloc (qn _) _
 have g0 := heap_alloc_new w (.cells #[int i64 wd, int i64 dp, int i64 ta, int i64 tb, int i64 tc, .slice aR nR cR, int i64 bars, .slice aT nT cT, .slice aP nP cP, .slice aX nX cX, .slice aS nS cS] 32)
 have hz0 : w.heap.size < (w.alloc (.cells #[int i64 wd, int i64 dp, int i64 ta, int i64 tb, int i64 tc, .slice aR nR cR, int i64 bars, .slice aT nT cT, .slice aP nP cP, .slice aX nX cX, .slice aS nS cS] 32)).heap.size := by simp
 go_enter Tryz.func42, Tryz.ntmps42
 go_wp2_with fail
 clear f1 f2
 generalize w.alloc (.cells #[int i64 wd, int i64 dp, int i64 ta, int i64 tb, int i64 tc, .slice aR nR cR, int i64 bars, .slice aT nT cT, .slice aP nP cP, .slice aX nX cX, .slice aS nS cS] 32) = w0 at *
 refine (HCK.out w0 (HT.out.below b0 (qn _)) (HP.out.below b0 (qn _)) (HX.out.below b0 (qn _))).mono ?_
 rintro e w1 ⟨rfl, hb1⟩
 have HB1 := qh (b0.trans (hb1.mono (by omega)))
 have G1 := qh ((hb1.block _ hz0).trans g0)
 have hz1 : w.heap.size < w1.heap.size := Nat.lt_of_lt_of_le hz0 hb1.size
 clear b0 g0 hz0 hb1 HT HP HX HCK
 by_cases hc : BP clk = 0
 rotate_left
 ·have f1 : (BP clk != 0) = true := by simpa using hc
  have HC := qh hc; clear hc
  go_wp2_with fail
  go_ret
  exact ⟨Af (HCLK.out HC.out), HB1.out⟩
 have HC := qh hc
 have hbars := JC hc
 rw [K9.out] at hbars
 rw [hc]
 clear hc HCLK
 have c0 : w1.cell? ⟨w.heap.size, 0, none⟩ = some (int i64 wd) := A0 G1.out 0 rfl
 have c1 : w1.cell? ⟨w.heap.size, 1, none⟩ = some (int i64 dp) := A0 G1.out 1 rfl
 have c2 : w1.cell? ⟨w.heap.size, 2, none⟩ = some (int i64 ta) := A0 G1.out 2 rfl
 have c3 : w1.cell? ⟨w.heap.size, 3, none⟩ = some (int i64 tb) := A0 G1.out 3 rfl
 have c4 : w1.cell? ⟨w.heap.size, 4, none⟩ = some (int i64 tc) := A0 G1.out 4 rfl
 have c5 : w1.cell? ⟨w.heap.size, 5, none⟩ = some (.slice aR nR cR) := A0 G1.out 5 rfl
 go_wp2_with fail
 refine (AI wd 1 1000 _).mono ?_
 rintro e w' ⟨rfl, rfl⟩
 cases q1 : inB wd 1 1000 with
 | false =>
  go_wp2_with fail
  go_ret
  exact ⟨Af (HBAD.out HC.out (DC (by unfold Cx; simp [K1.out, K2.out, K3.out, K4.out, K5.out, K6.out, q1]))), HB1.out⟩
 | true =>
  have Q1 := qh q1; clear q1
  go_wp2_with fail
  refine (AI dp 1 1000 _).mono ?_
  rintro e w' ⟨rfl, rfl⟩
  cases q2 : inB dp 1 1000 with
  | false =>
   go_wp2_with fail
   go_ret
   exact ⟨Af (HBAD.out HC.out (DC (by unfold Cx; simp [K1.out, K2.out, K3.out, K4.out, K5.out, K6.out, q2]))), HB1.out⟩
  | true =>
   have Q2 := qh q2; clear q2
   go_wp2_with fail
   refine (QV ta tb tc _).mono ?_
   rintro e w2 ⟨rfl, hb2⟩
   have HB2 := qh (HB1.out.trans (hb2.mono (by omega)))
   have G2 := qh ((hb2.block _ hz1).trans G1.out)
   have hz2 : w.heap.size < w2.heap.size := Nat.lt_of_lt_of_le hz1 hb2.size
   clear c0 c1 c2 c3 c4 c5 hb2 HB1 G1 hz1
   have c2 : w2.cell? ⟨w.heap.size, 2, none⟩ = some (int i64 ta) := A0 G2.out 2 rfl
   have c3 : w2.cell? ⟨w.heap.size, 3, none⟩ = some (int i64 tb) := A0 G2.out 3 rfl
   have c5 : w2.cell? ⟨w.heap.size, 5, none⟩ = some (.slice aR nR cR) := A0 G2.out 5 rfl
   cases q3 : CM ta tb tc with
   | false =>
    have f3 : (AP false 140 != 0) = true := rfl
    go_wp2_with fail
    go_ret
    exact ⟨Af (HBAD.out HC.out (DC (by unfold Cx; simp [K1.out, K2.out, K3.out, K4.out, K5.out, K6.out, q3]))), HB2.out⟩
   | true =>
    have f3 : (AP true 140 != 0) = false := rfl
    have Q3 := qh q3; clear q3
    cases q4 : decide (ta < 0) with
    | true =>
     have Q4 := qh (of_decide_eq_true q4)
     go_wp2_with fail
     go_ret
     exact ⟨Af (HBAD.out HC.out (DC (by unfold Cx; simp [K1.out, K2.out, K3.out, K4.out, K5.out, K6.out, show ¬ 0 ≤ ta from by have := Q4.out; omega]))), HB2.out⟩
    | false =>
     have Q4 := qh (of_decide_eq_false q4)
     cases q5 : decide (tb < 0) with
     | true =>
      have Q5 := qh (of_decide_eq_true q5)
      go_wp2_with fail
      go_ret
      exact ⟨Af (HBAD.out HC.out (DC (by unfold Cx; simp [K1.out, K2.out, K3.out, K4.out, K5.out, K6.out, show ¬ 0 ≤ tb from by have := Q5.out; omega]))), HB2.out⟩
     | false =>
      have Q5 := qh (of_decide_eq_false q5)
      cases q6 : ((nR : Int) == 0) with
      | true =>
       have Q6 := qh q6
       go_wp2_with fail
       go_ret
       exact ⟨Af (HBAD.out HC.out (DC (by unfold Cx; have h0 : rs = [] := List.length_eq_zero_iff.1 (by rw [NR.out]; have := Q6.out; simp at this; omega); simp [K1.out, K2.out, K3.out, K4.out, K5.out, K6.out, h0]))), HB2.out⟩
      | false =>
       have Q6 := qh q6
       have HEAD : Hid (Cx wk = true) := qh (by
        have h0 : rs ≠ [] := by
         intro h; have h1 := Q6.out; rw [← NR.out, h] at h1; simp at h1
        have h4 : 0 ≤ ta := by have := Q4.out; omega
        have h5 : 0 ≤ tb := by have := Q5.out; omega
        unfold Cx; simp [K1.out, K2.out, K3.out, K4.out, K5.out, K6.out, Q1.out, Q2.out, Q3.out, h4, h5, h0])
       go_wp2_with fail
       clear f3 q4 q5 q6 Q1 Q2 Q3 Q4 Q5 Q6 c2 c3 c5
       go_loopw [62] (fun iv wr => ∃ k : Nat, k ≤ nR ∧ iv = int i64 k ∧ Hid (rs.all (Cy wd dp) = (rs.drop k).all (Cy wd dp)) ∧ w.heap.size < wr.heap.size ∧ Hid (wr.heap[w.heap.size]? = some (.cells #[int i64 wd, int i64 dp, int i64 ta, int i64 tb, int i64 tc, .slice aR nR cR, int i64 bars, .slice aT nT cT, .slice aP nP cP, .slice aX nX cX, .slice aS nS cS] 32 (0, 0))) ∧ Hid (Below w.heap.size w wr)) (fun iv _ => nR - (intOf iv).toNat)
       case atStart => exact ⟨0, Nat.zero_le _, rfl, qh rfl, hz2, G2, HB2⟩
       case round =>
        clear HB2 G2 hz2
        obtain ⟨k, hk, rfl, htm, hsz, hbx, hbw⟩ := hrel
        by_cases hkn : k < nR
        ·obtain ⟨t, ht⟩ : ∃ t, rs[k]? = some t := ⟨_, qg (by rw [NR.out]; exact hkn)⟩
         obtain ⟨bp, op, hap, hatp, hltp⟩ := HR.out.block ht
         subst hap
         obtain ⟨p0, p1, p2, p3⟩ := atR (hatp.below hbw.out hltp) ht
         have hbs : bp < wr.heap.size := by have := hbw.out.size; omega
         clear hatp
         have HTt := qh ht; clear ht
         have hkn' : (k : Int) < (nR : Int) := by omega
         have x0 := (Below.heap_alloc wr (.cells #[.string ⟨t.name.toArray⟩, int i64 t.x, int i64 t.y, int i64 t.face] 86) w.heap.size hsz).trans hbx.out
         have x2 := heap_alloc_new wr (.cells #[.string ⟨t.name.toArray⟩, int i64 t.x, int i64 t.y, int i64 t.face] 86)
         have x3 : Below w.heap.size w (wr.alloc (.cells #[.string ⟨t.name.toArray⟩, int i64 t.x, int i64 t.y, int i64 t.face] 86)) := hbw.out.alloc (by omega) _
         have x4 : w.heap.size < (wr.alloc (.cells #[.string ⟨t.name.toArray⟩, int i64 t.x, int i64 t.y, int i64 t.face] 86)).heap.size := by simp; omega
         have l1 : (wr.alloc (.cells #[.string ⟨t.name.toArray⟩, int i64 t.x, int i64 t.y, int i64 t.face] 86)).cell? ⟨wr.heap.size, 1, none⟩ = some (int i64 t.x) := A0 x2 1 rfl
         have c0 : (wr.alloc (.cells #[.string ⟨t.name.toArray⟩, int i64 t.x, int i64 t.y, int i64 t.face] 86)).cell? ⟨w.heap.size, 0, none⟩ = some (int i64 wd) := A0 x0 0 rfl
         have X0 := qh x0; have X2 := qh x2; have HB5 := qh x3
         clear x0 x2 x3
         go_wp2_with fail
         generalize wr.alloc (.cells #[.string ⟨t.name.toArray⟩, int i64 t.x, int i64 t.y, int i64 t.face] 86) = w5 at *
         generalize wr.heap.size = gw at *
         clear p0 p1 p2 p3
         have c1 : w5.cell? ⟨w.heap.size, 1, none⟩ = some (int i64 dp) := A0 X0.out 1 rfl
         have l2 : w5.cell? ⟨gw, 2, none⟩ = some (int i64 t.y) := A0 X2.out 2 rfl
         have l3 : w5.cell? ⟨gw, 3, none⟩ = some (int i64 t.face) := A0 X2.out 3 rfl
         clear X2 hbx hbw
         refine (AI t.x 0 wd _).mono ?_
         rintro e w' ⟨rfl, rfl⟩
         cases q0 : inB t.x 0 wd with
         | false =>
          go_wp2_with fail
          go_ret
          exact ⟨Af (HBAD.out HC.out (FT (by rw [K6.out, K1.out, K2.out, htm.out, Ab HTt.out]; simp [Cy, q0]))), HB5.out⟩
         | true =>
          have Q0 := qh q0; clear q0
          go_wp2_with fail
          refine (AI t.y 0 dp _).mono ?_
          rintro e w' ⟨rfl, rfl⟩
          cases q1 : inB t.y 0 dp with
          | false =>
           go_wp2_with fail
           go_ret
           exact ⟨Af (HBAD.out HC.out (FT (by rw [K6.out, K1.out, K2.out, htm.out, Ab HTt.out]; simp [Cy, q1]))), HB5.out⟩
          | true =>
           have Q1 := qh q1; clear q1
           go_wp2_with fail
           refine (AI t.face 0 7 _).mono ?_
           rintro e w' ⟨rfl, rfl⟩
           cases q2 : inB t.face 0 7 with
           | false =>
            go_wp2_with fail
            go_ret
            exact ⟨Af (HBAD.out HC.out (FT (by rw [K6.out, K1.out, K2.out, htm.out, Ab HTt.out]; simp [Cy, q2]))), HB5.out⟩
           | true =>
            have Q2 := qh q2; clear q2
            go_wp2_with fail
            go_roundw
            case rel => exact ⟨k + 1, by omega, by go_num, qh (by rw [htm.out, Ab HTt.out]; simp [Cy, Q0.out, Q1.out, Q2.out]), x4, X0, HB5⟩
            case measure => simp [intOf]; omega
        ·obtain rfl : nR = k := by omega
         have hin : ¬ (nR : Int) < (nR : Int) := by omega
         have RM : Hid (rs.all (Cy wd dp) = true) := qh (by rw [htm.out, List.drop_of_length_le (by rw [NR.out]; exact qn _)]; rfl)
         clear htm
         have c10 : wr.cell? ⟨w.heap.size, 10, none⟩ = some (.slice aS nS cS) := A0 hbx.out 10 rfl
         go_wp2_with fail
         clear c10 hin
         go_loopw [6, 90] (fun lv iv wr => ∃ (k : Nat) (last : Int), k ≤ nS ∧ iv = int i64 k ∧ lv = int i64 last ∧ Hid (AC nR bars (-1) ss = AC nR bars last (ss.drop k)) ∧ w.heap.size < wr.heap.size ∧ Hid (wr.heap[w.heap.size]? = some (.cells #[int i64 wd, int i64 dp, int i64 ta, int i64 tb, int i64 tc, .slice aR nR cR, int i64 bars, .slice aT nT cT, .slice aP nP cP, .slice aX nX cX, .slice aS nS cS] 32 (0, 0))) ∧ Hid (Below w.heap.size w wr)) (fun _ iv _ => nS - (intOf iv).toNat)
         case atStart => exact ⟨0, -1, Nat.zero_le _, rfl, rfl, qh rfl, hsz, hbx, hbw⟩
         case round =>
          clear hsz hbx hbw
          obtain ⟨k, last, hk, rfl, rfl, htm, hsz, hbx, hbw⟩ := hrel
          by_cases hkn : k < nS
          ·obtain ⟨t, ht⟩ : ∃ t, ss[k]? = some t := ⟨_, qg (by rw [NS.out]; exact hkn)⟩
           obtain ⟨bp, op, hap, hatp, hltp⟩ := HS.out.block ht
           subst hap
           obtain ⟨p0, p1, p2, p3, p4, p5, p6, p7, p8, p9, p10, p11, p12, p13⟩ := atS (hatp.below hbw.out hltp) ht
           have hbs : bp < wr.heap.size := by have := hbw.out.size; omega
           clear hatp
           have HTt := qh ht; clear ht
           have hkn' : (k : Int) < (nS : Int) := by omega
           have x0 := (Below.heap_alloc wr (.cells #[int i64 t.id, int i64 t.role, int i64 t.bar, int i64 t.mark, int i64 t.kind, int i64 t.side, int i64 t.dir, int i64 t.level, int i64 t.size, int i64 t.wth, int i64 t.fn, int i64 t.fd, int i64 t.tn, int i64 t.td] 72) w.heap.size hsz).trans hbx.out
           have x2 := heap_alloc_new wr (.cells #[int i64 t.id, int i64 t.role, int i64 t.bar, int i64 t.mark, int i64 t.kind, int i64 t.side, int i64 t.dir, int i64 t.level, int i64 t.size, int i64 t.wth, int i64 t.fn, int i64 t.fd, int i64 t.tn, int i64 t.td] 72)
           have x3 : Below w.heap.size w (wr.alloc (.cells #[int i64 t.id, int i64 t.role, int i64 t.bar, int i64 t.mark, int i64 t.kind, int i64 t.side, int i64 t.dir, int i64 t.level, int i64 t.size, int i64 t.wth, int i64 t.fn, int i64 t.fd, int i64 t.tn, int i64 t.td] 72)) := hbw.out.alloc (by omega) _
           have x4 : w.heap.size < (wr.alloc (.cells #[int i64 t.id, int i64 t.role, int i64 t.bar, int i64 t.mark, int i64 t.kind, int i64 t.side, int i64 t.dir, int i64 t.level, int i64 t.size, int i64 t.wth, int i64 t.fn, int i64 t.fd, int i64 t.tn, int i64 t.td] 72)).heap.size := by simp; omega
           have x5 : wr.heap.size < (wr.alloc (.cells #[int i64 t.id, int i64 t.role, int i64 t.bar, int i64 t.mark, int i64 t.kind, int i64 t.side, int i64 t.dir, int i64 t.level, int i64 t.size, int i64 t.wth, int i64 t.fn, int i64 t.fd, int i64 t.tn, int i64 t.td] 72)).heap.size := by simp
           have X0 := qh x0; have X2 := qh x2; have HB5 := qh x3; have HK := qh hk
           have l0 : (wr.alloc (.cells #[int i64 t.id, int i64 t.role, int i64 t.bar, int i64 t.mark, int i64 t.kind, int i64 t.side, int i64 t.dir, int i64 t.level, int i64 t.size, int i64 t.wth, int i64 t.fn, int i64 t.fd, int i64 t.tn, int i64 t.td] 72)).cell? ⟨wr.heap.size, 0, none⟩ = some (int i64 t.id) := A0 x2 0 rfl
           clear x0 x2 x3 hk
           cases q0 : decide (t.id ≤ last) with
           | true =>
            have Q0 := qh (of_decide_eq_true q0)
            have f0 : t.id ≤ last := Q0.out
            clear q0
            go_wp2_with fail
            go_ret
            exact ⟨Af (HBAD.out HC.out (Gd (by rw [K6.out, K8.out, K10.out, K9.out, NR.out, htm.out, Ab HTt.out]; have := Q0.out; simp [AC, GT, show ¬ last < t.id from by omega]))), HB5.out⟩
           | false =>
            have Q0 := qh (of_decide_eq_false q0)
            have f0 : ¬ t.id ≤ last := Q0.out
            clear q0
            cases q1 : decide (1048576 < t.id) with
            | true =>
             have Q1 := qh (of_decide_eq_true q1)
             have f1 : 1048576 < t.id := Q1.out
             clear q1
             go_wp2_with fail
             go_ret
             exact ⟨Af (HBAD.out HC.out (Gd (by rw [K6.out, K8.out, K10.out, K9.out, NR.out, htm.out, Ab HTt.out]; have := Q1.out; simp [AC, GT, show ¬ t.id ≤ 1048576 from by omega]))), HB5.out⟩
            | false =>
             have Q1 := qh (of_decide_eq_false q1)
             have f1 : ¬ 1048576 < t.id := Q1.out
             clear q1
             have c5 : (wr.alloc (.cells #[int i64 t.id, int i64 t.role, int i64 t.bar, int i64 t.mark, int i64 t.kind, int i64 t.side, int i64 t.dir, int i64 t.level, int i64 t.size, int i64 t.wth, int i64 t.fn, int i64 t.fd, int i64 t.tn, int i64 t.td] 72)).cell? ⟨w.heap.size, 5, none⟩ = some (.slice aR nR cR) := A0 X0.out 5 rfl
             have c6 : (wr.alloc (.cells #[int i64 t.id, int i64 t.role, int i64 t.bar, int i64 t.mark, int i64 t.kind, int i64 t.side, int i64 t.dir, int i64 t.level, int i64 t.size, int i64 t.wth, int i64 t.fn, int i64 t.fd, int i64 t.tn, int i64 t.td] 72)).cell? ⟨w.heap.size, 6, none⟩ = some (int i64 bars) := A0 X0.out 6 rfl
             go_wp2_with fail
             generalize wr.alloc (.cells #[int i64 t.id, int i64 t.role, int i64 t.bar, int i64 t.mark, int i64 t.kind, int i64 t.side, int i64 t.dir, int i64 t.level, int i64 t.size, int i64 t.wth, int i64 t.fn, int i64 t.fd, int i64 t.tn, int i64 t.td] 72) = w5 at *
             clear p0 p1 p2 p3 p4 p5 p6 p7 p8 p9 p10 p11 p12 p13 f0 f1 hbx hbw c5 c6 l0
             refine (NY t.id t.role t.bar t.mark t.kind t.side t.dir t.level t.size t.wth t.fn t.fd t.tn t.td nR bars (by omega) (by omega) (by omega) (by omega) _ (HE.out.below HB5.out)).mono ?_
             rintro e w6 ⟨rfl, hb6⟩
             rw [P6]
             have HB6 := qh (HB5.out.trans (hb6.mono (by omega)))
             have y0 := (hb6.block _ x4).trans X0.out
             have y2 := (hb6.block _ x5).trans X2.out
             have y4 : w.heap.size < w6.heap.size := Nat.lt_of_lt_of_le x4 hb6.size
             have Y0 := qh y0; have Y2 := qh y2
             have l0 : w6.cell? ⟨wr.heap.size, 0, none⟩ = some (int i64 t.id) := A0 y2 0 rfl
             clear X0 X2 x5 hb6 y0 y2
             cases q2 : Bl t nR bars with
             | false =>
              go_wp2_with fail
              go_ret
              exact ⟨Af (HBAD.out HC.out (Gd (by rw [K6.out, K8.out, K10.out, K9.out, NR.out, htm.out, Ab HTt.out]; simp [AC, GT, q2]))), HB6.out⟩
             | true =>
              have Q2 := qh q2; clear q2
              go_wp2_with fail
              have hk := HK.out
              go_roundw
              case rel => exact ⟨k + 1, t.id, by omega, by go_num, rfl, qh (by rw [htm.out, Ab HTt.out]; have h0 := Q0.out; have h1 := Q1.out; simp [AC, GT, show last < t.id from by omega, show t.id ≤ 1048576 from by omega, Q2.out]), y4, Y0, HB6⟩
              case measure => simp [intOf]; omega
          ·obtain rfl : nS = k := by omega
           have hin : ¬ (nS : Int) < (nS : Int) := by omega
           have SM : Hid (AC nR bars (-1) ss = true) := qh (by rw [htm.out, List.drop_of_length_le (by rw [NS.out]; exact qn _)]; rfl)
           clear htm
           go_wp2_with fail
           go_ret
           exact ⟨Af (HGOOD.out HC.out (by unfold E7; rw [HEAD.out, K6.out, K8.out, K10.out, K9.out, K1.out, K2.out, NR.out, RM.out, SM.out]; rfl)), hbw.out⟩
theorem Hj (wd dp ta tb tc bars : Int) (aR aT aP aX aS : Option Addr) (cR cT cP cX cS : Nat) (rs : List Rol) (ts : List Tmp) (ps : List Pau) (xs : List Con) (ss : List Sgn) (w : World) (hE : Env w)
  (hR : IsRow De 4 w (.slice aR rs.length cR) rs) (hT : IsRow Bq 3 w (.slice aT ts.length cT) ts) (hP : IsRow Cl 4 w (.slice aP ps.length cP) ps) (hX : IsRow Ck 4 w (.slice aX xs.length cX) xs) (hS : IsRow CF 14 w (.slice aS ss.length cS) ss) : Calls Tryz.prog 42 #[.agg #[int i64 wd, int i64 dp, int i64 ta, int i64 tb, int i64 tc, .slice aR rs.length cR, int i64 bars, .slice aT ts.length cT, .slice aP ps.length cP, .slice aX xs.length cX, .slice aS ss.length cS]] w fun e w' => e = .returned (int i64 (Ao ⟨wd, dp, ta, tb, tc, rs, ⟨bars, ts, ps, xs⟩, ss⟩)) ∧ Below w.heap.size w w' := by
 by_cases h : 64 < rs.length ∨ 4096 < ss.length
 ·exact MA wd dp ta tb tc bars aR aT aP aX aS cR cT cP cX cS rs ts ps xs ss w hE hR hT hP hX hS h
 ·exact Kt wd dp ta tb tc bars aR aT aP aX aS cR cT cP cX cS rs ts ps xs ss w hE hR hT hP hX hS (by omega) (by omega)
end
end Go.Proofs.YtggcbblikgankaaGreatDoor

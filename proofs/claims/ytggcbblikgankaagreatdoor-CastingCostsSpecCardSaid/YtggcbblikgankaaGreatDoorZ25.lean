/- Contracts and plain laws on the way to the statement: part 25. -/
import Derived.Test.YtggcbblikgankaaGreatDoorZ24
import Derived.Laws.CopyRow
import Derived.Laws.CopyOwn
import Derived.Test.YtggcbblikgankaaGreatDoorZ3
set_option linter.unusedVariables false
set_option linter.unusedSimpArgs false
set_option maxRecDepth 100000
set_option maxHeartbeats 16000000
namespace Go.Proofs.YtggcbblikgankaaGreatDoor
open Go.Value (int)
open Go.IntKind (i64)
section
open Go.RowKit
theorem G6 (tmps : Array Value) (w : World) (g : Nat) (cs : Array Value) (n : Value) (hz : cs.size = 14) (h4 : tmps.getD 4 undef = .pointer (some ⟨g, 0, none⟩)) (hg : w.heap[g]? = some (.cells cs 72 (0, 0))) (h5 : tmps.getD 5 undef = n) :
  (results Tryz.f33 tmps).run Tryz.prog w = .ok (.tuple #[.agg cs, n]) w := by
 rw [results_cell_tmp rfl, h4, h5]
 have hi : (Tryz.prog.info? 72).map (·.size) = some 14 := by kernel_rfl
 simp [asAddr, run_loadVar_row w g 72 72 cs (0, 0) _ hg Tryz.underlying72 rfl (by rw [hz]; exact hi), Result.andThen]
def Bw : Array Value := #[int i64 0, int i64 0, int i64 0, int i64 0, int i64 0, int i64 0, int i64 0, int i64 0, int i64 0, int i64 0, int i64 0, int i64 0, int i64 0, int i64 0]
def CR (k : Wrk) (n : Int) : Value :=
 if Ao k = 0 then (if idF k.signs n then .tuple #[.agg (Ar (k.signs[idP k.signs n]!)), int i64 0] else .tuple #[.agg Bw, int i64 300]) else .tuple #[.agg Bw, int i64 (Ao k)]
theorem DE (n : Int) (wd dp ta tb tc bars : Int) (aR aT aP aX aS : Option Addr) (cR cT cP cX cS : Nat) (rs : List Rol) (ts : List Tmp) (ps : List Pau) (xs : List Con) (ss : List Sgn) (w : World) (hE : Env w)
  (hR : IsRow De 4 w (.slice aR rs.length cR) rs) (hT : IsRow Bq 3 w (.slice aT ts.length cT) ts) (hP : IsRow Cl 4 w (.slice aP ps.length cP) ps) (hX : IsRow Ck 4 w (.slice aX xs.length cX) xs) (hS : IsRow CF 14 w (.slice aS ss.length cS) ss) :
  Calls Tryz.prog 33 #[.agg #[int i64 wd, int i64 dp, int i64 ta, int i64 tb, int i64 tc, .slice aR rs.length cR, int i64 bars, .slice aT ts.length cT, .slice aP ps.length cP, .slice aX xs.length cX, .slice aS ss.length cS], int i64 n] w fun e w' => e = .returned (CR ⟨wd, dp, ta, tb, tc, rs, ⟨bars, ts, ps, xs⟩, ss⟩ n) ∧ Below w.heap.size w w' := by
 have hck := fun (w : World) hE hR hT hP hX hS => Hj wd dp ta tb tc bars aR aT aP aX aS cR cT cP cX cS rs ts ps xs ss w hE hR hT hP hX hS
 have hbs := fun (w : World) h1 h2 h3 => Lu n aS cS ss w h1 h2 h3
 generalize hwk : (⟨wd, dp, ta, tb, tc, rs, ⟨bars, ts, ps, xs⟩, ss⟩ : Wrk) = wk at *
 have k8 : wk.signs = ss := by rw [← hwk]
 have K8 := qh k8
 have HCK := qh hck; have HE := qh hE; have HR := qh hR; have HT := qh hT; have HP := qh hP; have HX := qh hX; have HS := qh hS
 clear hck hwk k8 hE hR hT hP hX hS
 generalize hnS : ss.length = nS at *
 generalize rs.length = nR at *
 generalize ts.length = nT at *
 generalize ps.length = nP at *
 generalize xs.length = nX at *
 have NS := qh hnS; clear hnS
 have HBS := qh hbs; clear hbs
 obtain ⟨g0, g1, hz, hb⟩ := Bn w (.cells #[int i64 wd, int i64 dp, int i64 ta, int i64 tb, int i64 tc, .slice aR nR cR, int i64 bars, .slice aT nT cT, .slice aP nP cP, .slice aX nX cX, .slice aS nS cS] 32) (.cells #[int i64 0, int i64 0, int i64 0, int i64 0, int i64 0, int i64 0, int i64 0, int i64 0, int i64 0, int i64 0, int i64 0, int i64 0, int i64 0, int i64 0] 72)
 have G0 := qh g0; have G1 := qh g1; have HB := qh hb; have HZ := qh hz
 clear g0 g1 hz hb
 go_enter Tryz.func33, Tryz.ntmps33
 go_wp2_with fail
 generalize (w.alloc (.cells #[int i64 wd, int i64 dp, int i64 ta, int i64 tb, int i64 tc, .slice aR nR cR, int i64 bars, .slice aT nT cT, .slice aP nP cP, .slice aX nX cX, .slice aS nS cS] 32)).alloc (.cells #[int i64 0, int i64 0, int i64 0, int i64 0, int i64 0, int i64 0, int i64 0, int i64 0, int i64 0, int i64 0, int i64 0, int i64 0, int i64 0, int i64 0] 72) = w0 at *
 refine (HCK.out w0 (HE.out.below HB.out) (HR.out.below HB.out (qn _)) (HT.out.below HB.out (qn _)) (HP.out.below HB.out (qn _)) (HX.out.below HB.out (qn _)) (HS.out.below HB.out (qn _))).mono ?_
 rintro e w1 ⟨rfl, b1⟩
 have q0 := qh ((b1.block _ (by have := HZ.out; omega)).trans G0.out)
 have q1 := qh ((b1.block _ (by have := HZ.out; omega)).trans G1.out)
 have B1 := qh (HB.out.trans (b1.mono (by have := HZ.out; omega)))
 clear HB G0 G1 HCK HE HR HT HP HX b1
 have hs : w1.setRow (w.heap.size + 1) Bw = w1 := setRow_self w1 _ _ 72 (0, 0) q1.out
 have HSET := qh hs; clear hs
 by_cases hc : Ao wk = 0
 rotate_left
 ·have f1 : (Ao wk != 0) = true := by simpa using hc
  have HC := qh hc; clear hc
  dsimp only
  iterate 21 go_step
  refine wpList_load_row rfl 72 _ rfl (w.heap.size + 1) rfl 72 Bw (0, 0) _ q1.out Tryz.underlying72 rfl (by kernel_rfl) ?_
  simp only [Act.put, qD, qE, qF]
  iterate 3 go_step
  refine wpList_store_row rfl 72 _ _ rfl (w.heap.size + 1) Bw rfl rfl 72 Bw q1.out (by kernel_rfl) rfl (by simp [Bw, Value.oneCell']) ?_
  rw [HSET.out]
  go_wp2_with fail
  refine bodyPost_ret (G6 _ _ (w.heap.size + 1) Bw _ rfl rfl q1.out rfl) rfl ⟨?_, B1.out⟩
  unfold CR
  rw [if_neg HC.out]; rfl
 have HC := qh hc
 rw [hc]
 clear hc
 have c10 : w1.cell? ⟨w.heap.size, 10, none⟩ = some (.slice aS nS cS) := A0 q0.out 10 rfl
 have hlen : nS ≤ 65536 := by have := (D2 HC.out).2.1; rw [K8.out, NS.out] at this; omega
 have hso := EW HC.out
 rw [K8.out] at hso
 have HSO := qh hso; clear hso
 go_wp2_with fail
 refine (HBS.out w1 HSO.out hlen (HS.out.below B1.out (qn _))).mono ?_
 rintro e w2 ⟨rfl, b2⟩
 have hlt0 : w.heap.size + 1 < w1.heap.size := block_lt_of_cell (show w1.cell? ⟨w.heap.size + 1, 0, none⟩ = some (int i64 0) from A0 q1.out 0 rfl)
 have r0 := qh ((b2.block _ (show w.heap.size < w1.heap.size by omega)).trans q0.out)
 have r1 := qh ((b2.block _ hlt0).trans q1.out)
 have B2 := qh (B1.out.trans (b2.mono (by omega)))
 have hs : w2.setRow (w.heap.size + 1) Bw = w2 := setRow_self w2 _ _ 72 (0, 0) r1.out
 have HSE2 := qh hs; clear hs
 cases hfd : idF ss n with
 | false =>
  have HF := qh hfd; clear hfd
  dsimp only
  iterate 34 go_step
  refine wpList_load_row rfl 72 _ rfl (w.heap.size + 1) rfl 72 Bw (0, 0) _ r1.out Tryz.underlying72 rfl (by kernel_rfl) ?_
  simp only [Act.put, qD, qE, qF]
  refine wpList_store_row rfl 72 _ _ rfl (w.heap.size + 1) Bw rfl rfl 72 Bw r1.out (by kernel_rfl) rfl (by simp [Bw, Value.oneCell']) ?_
  rw [HSE2.out]
  go_wp2_with fail
  refine bodyPost_ret (G6 _ _ (w.heap.size + 1) Bw _ rfl rfl r1.out rfl) rfl ⟨?_, B2.out⟩
  unfold CR
  rw [if_pos HC.out, K8.out, HF.out]; rfl
 | true =>
  have HF := qh hfd
  obtain ⟨t, ht⟩ : ∃ t, ss[idP ss n]? = some t := by
   unfold idF at hfd
   cases h : ss[idP ss n]? with
   | none => rw [h] at hfd; simp at hfd
   | some t => exact ⟨t, rfl⟩
  obtain ⟨bp, op, hap, hatp, hltp⟩ := HS.out.block ht
  subst hap
  obtain ⟨p0, p1, p2, p3, p4, p5, p6, p7, p8, p9, p10, p11, p12, p13⟩ := atS (hatp.below B2.out hltp) ht
  have hin : ((idP ss n : Nat) : Int) < (nS : Int) := by have := (ql.1 ht).1; rw [NS.out] at this; omega
  have d10 : w2.cell? ⟨w.heap.size, 10, none⟩ = some (.slice (some ⟨bp, op, none⟩) nS cS) := A0 r0.out 10 rfl
  have HT := qh ht
  clear hatp ht hfd c10
  generalize hP : idP ss n = P at *
  have HP := qh hP; clear hP
  dsimp only
  iterate 34 go_step
  iterate 18 go_step
  refine wpList_store_row rfl 72 _ _ rfl (w.heap.size + 1) (Ar t) rfl rfl 72 Bw r1.out (by kernel_rfl) rfl (by simp [Ar, Value.oneCell']) ?_
  go_wp2_with fail
  refine bodyPost_ret (G6 _ _ (w.heap.size + 1) (Ar t) _ rfl rfl (setRow_heap w2 _ _ _ _ _ r1.out) rfl) rfl ⟨?_, below_setRow B2.out (by omega) _⟩
  unfold CR
  rw [if_pos HC.out, K8.out, HF.out, HP.out, show ss[P]! = t by rw [List.getElem!_eq_getElem?_getD, HT.out]; rfl]; rfl
end
end Go.Proofs.YtggcbblikgankaaGreatDoor

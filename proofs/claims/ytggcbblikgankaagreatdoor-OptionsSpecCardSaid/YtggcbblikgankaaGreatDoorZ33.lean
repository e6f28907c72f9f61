/- Contracts and plain laws on the way to the statement: part 33. -/
import Derived.Test.YtggcbblikgankaaGreatDoorZ32
set_option linter.unusedVariables false
set_option linter.unusedSimpArgs false
section
namespace Go.Proofs.YtggcbblikgankaaGreatDoor
open Go.RowKit
set_option maxRecDepth 100000 in
set_option maxHeartbeats 8000000 in
theorem options_err (n : Int) (b : Bod) (_ : b.name.length ≤ maxLen) (wd dp ta tb tc bars : Int) (aR aT aP aX aS : Option Addr) (cR cT cP cX cS : Nat) (rs : List Rol) (ts : List Tmp) (ps : List Pau) (xs : List Con) (ss : List Sgn) (w : World) (hE : Env w)
  (hR : IsRow encR 4 w (.slice aR rs.length cR) rs) (hT : IsRow encT 3 w (.slice aT ts.length cT) ts) (hP : IsRow encP 4 w (.slice aP ps.length cP) ps) (hX : IsRow encC 4 w (.slice aX xs.length cX) xs) (hS : IsRow encS 14 w (.slice aS ss.length cS) ss)
  (hne : wrkE ⟨wd, dp, ta, tb, tc, rs, ⟨bars, ts, ps, xs⟩, ss⟩ ≠ 0) :
  Calls Tryz.prog 9 #[.agg #[.int .i64 wd, .int .i64 dp, .int .i64 ta, .int .i64 tb, .int .i64 tc, .slice aR rs.length cR, .int .i64 bars, .slice aT ts.length cT, .slice aP ps.length cP, .slice aX xs.length cX, .slice aS ss.length cS], .int .i64 n, bodV b] w fun e w' => e = .returned (.tuple #[.slice none 0 0, .int .i64 (wrkE ⟨wd, dp, ta, tb, tc, rs, ⟨bars, ts, ps, xs⟩, ss⟩)]) ∧ Below w.heap.size w w' := by
 have hfd := fun (w : World) hE hR hT hP hX hS => find_any n wd dp ta tb tc bars aR aT aP aX aS cR cT cP cX cS rs ts ps xs ss w hE hR hT hP hX hS
 have hv := wrkE_vals ⟨wd, dp, ta, tb, tc, rs, ⟨bars, ts, ps, xs⟩, ss⟩
 have hfv : findV ⟨wd, dp, ta, tb, tc, rs, ⟨bars, ts, ps, xs⟩, ss⟩ n = .tuple #[.agg zeroA, .int .i64 (wrkE ⟨wd, dp, ta, tb, tc, rs, ⟨bars, ts, ps, xs⟩, ss⟩)] := by unfold findV; rw [if_neg hne]
 rw [hfv] at hfd
 generalize wrkE ⟨wd, dp, ta, tb, tc, rs, ⟨bars, ts, ps, xs⟩, ss⟩ = er at *
 have HFD := Lib.hid hfd; have HE := Lib.hid hE; have HR := Lib.hid hR; have HT := Lib.hid hT; have HP := Lib.hid hP; have HX := Lib.hid hX; have HS := Lib.hid hS
 clear hfd hE hR hT hP hX hS hfv
 generalize rs.length = nR at *
 generalize ts.length = nT at *
 generalize ps.length = nP at *
 generalize xs.length = nX at *
 generalize ss.length = nS at *
 obtain ⟨g0, g1, hz, hb⟩ := blocks2 w (.cells #[.int .i64 wd, .int .i64 dp, .int .i64 ta, .int .i64 tb, .int .i64 tc, .slice aR nR cR, .int .i64 bars, .slice aT nT cT, .slice aP nP cP, .slice aX nX cX, .slice aS nS cS] 32) (.cells (bodCells b) 35)
 unfold bodCells at g0 g1 hz hb
 have G0 := Lib.hid g0; have G1 := Lib.hid g1; have HB := Lib.hid hb; have HZ := Lib.hid hz
 clear g0 g1 hz hb
 unfold bodV
 have f1 : (er != 0) = true := by simpa using hne
 have f2 : (er != 300) = true := by
  have : er ≠ 300 := by omega
  simpa using this
 clear hv hne
 go_enter Tryz.func9, Tryz.ntmps9
 go_wp2_with fail
 generalize (w.alloc (.cells #[.int .i64 wd, .int .i64 dp, .int .i64 ta, .int .i64 tb, .int .i64 tc, .slice aR nR cR, .int .i64 bars, .slice aT nT cT, .slice aP nP cP, .slice aX nX cX, .slice aS nS cS] 32)).alloc (.cells #[.string ⟨b.name.toArray⟩, .int .i64 b.weight, .int .i64 b.lift, .int .i64 b.girth, .int .i64 b.step, .int .i64 b.jump, .int .i64 b.r0, .int .i64 b.r1, .int .i64 b.r2, .int .i64 b.s0, .int .i64 b.s1, .int .i64 b.s2, .int .i64 b.t0, .int .i64 b.t1, .int .i64 b.t2, .int .i64 b.effort, .int .i64 b.recover] 35) = w0 at *
 refine (HFD.out w0 (HE.out.below HB.out) (HR.out.below HB.out (Nat.le_refl _)) (HT.out.below HB.out (Nat.le_refl _)) (HP.out.below HB.out (Nat.le_refl _)) (HX.out.below HB.out (Nat.le_refl _)) (HS.out.below HB.out (Nat.le_refl _))).mono ?_
 rintro e w1 ⟨rfl, b1⟩
 have hz := HZ.out
 have B1 := Lib.hid (HB.out.trans (b1.mono (by omega)))
 have B2 := Lib.hid (B1.out.alloc B1.out.size (.cells #[.int .i64 0, .int .i64 0, .int .i64 0, .int .i64 0, .int .i64 0, .int .i64 0, .int .i64 0, .int .i64 0, .int .i64 0, .int .i64 0, .int .i64 0, .int .i64 0, .int .i64 0, .int .i64 0] 72))
 clear HFD HE HR HT HP HX HS HB G0 G1 b1 hz
 unfold zeroA
 go_wp2_with fail
 go_ret2
 exact ⟨rfl, B2.out⟩
set_option maxRecDepth 100000 in
set_option maxHeartbeats 8000000 in
theorem options_none (n : Int) (b : Bod) (hbn : b.name.length ≤ maxLen) (wd dp ta tb tc bars : Int) (aR aT aP aX aS : Option Addr) (cR cT cP cX cS : Nat) (rs : List Rol) (ts : List Tmp) (ps : List Pau) (xs : List Con) (ss : List Sgn) (w : World) (hE : Env w)
  (hR : IsRow encR 4 w (.slice aR rs.length cR) rs) (hT : IsRow encT 3 w (.slice aT ts.length cT) ts) (hP : IsRow encP 4 w (.slice aP ps.length cP) ps) (hX : IsRow encC 4 w (.slice aX xs.length cX) xs) (hS : IsRow encS 14 w (.slice aS ss.length cS) ss)
  (hne : wrkE ⟨wd, dp, ta, tb, tc, rs, ⟨bars, ts, ps, xs⟩, ss⟩ = 0) (hid : idF ss n = false) :
  Calls Tryz.prog 9 #[.agg #[.int .i64 wd, .int .i64 dp, .int .i64 ta, .int .i64 tb, .int .i64 tc, .slice aR rs.length cR, .int .i64 bars, .slice aT ts.length cT, .slice aP ps.length cP, .slice aX xs.length cX, .slice aS ss.length cS], .int .i64 n, bodV b] w fun e w' => e = .returned (.tuple #[.slice none 0 0, .int .i64 (if bodB b then 300 else 250)]) ∧ Below w.heap.size w w' := by
 have hfd := fun (w : World) hE hR hT hP hX hS => find_any n wd dp ta tb tc bars aR aT aP aX aS cR cT cP cX cS rs ts ps xs ss w hE hR hT hP hX hS
 have hbc := fun w => bcheck_any b hbn w
 have hfv : findV ⟨wd, dp, ta, tb, tc, rs, ⟨bars, ts, ps, xs⟩, ss⟩ n = .tuple #[.agg zeroA, .int .i64 300] := by unfold findV; rw [if_pos hne, hid]; rfl
 rw [hfv] at hfd
 have HBC := Lib.hid hbc; have HFD := Lib.hid hfd; have HE := Lib.hid hE; have HR := Lib.hid hR; have HT := Lib.hid hT; have HP := Lib.hid hP; have HX := Lib.hid hX; have HS := Lib.hid hS
 clear hfd hE hR hT hP hX hS hfv hne hid hbc
 generalize rs.length = nR at *
 generalize ts.length = nT at *
 generalize ps.length = nP at *
 generalize xs.length = nX at *
 generalize ss.length = nS at *
 obtain ⟨g0, g1, hz, hb⟩ := blocks2 w (.cells #[.int .i64 wd, .int .i64 dp, .int .i64 ta, .int .i64 tb, .int .i64 tc, .slice aR nR cR, .int .i64 bars, .slice aT nT cT, .slice aP nP cP, .slice aX nX cX, .slice aS nS cS] 32) (.cells (bodCells b) 35)
 unfold bodCells at g0 g1 hz hb
 have G0 := Lib.hid g0; have G1 := Lib.hid g1; have HB := Lib.hid hb; have HZ := Lib.hid hz
 clear g0 g1 hz hb
 unfold bodV
 go_enter Tryz.func9, Tryz.ntmps9
 go_wp2_with fail
 generalize (w.alloc (.cells #[.int .i64 wd, .int .i64 dp, .int .i64 ta, .int .i64 tb, .int .i64 tc, .slice aR nR cR, .int .i64 bars, .slice aT nT cT, .slice aP nP cP, .slice aX nX cX, .slice aS nS cS] 32)).alloc (.cells #[.string ⟨b.name.toArray⟩, .int .i64 b.weight, .int .i64 b.lift, .int .i64 b.girth, .int .i64 b.step, .int .i64 b.jump, .int .i64 b.r0, .int .i64 b.r1, .int .i64 b.r2, .int .i64 b.s0, .int .i64 b.s1, .int .i64 b.s2, .int .i64 b.t0, .int .i64 b.t1, .int .i64 b.t2, .int .i64 b.effort, .int .i64 b.recover] 35) = w0 at *
 refine (HFD.out w0 (HE.out.below HB.out) (HR.out.below HB.out (Nat.le_refl _)) (HT.out.below HB.out (Nat.le_refl _)) (HP.out.below HB.out (Nat.le_refl _)) (HX.out.below HB.out (Nat.le_refl _)) (HS.out.below HB.out (Nat.le_refl _))).mono ?_
 rintro e w1 ⟨rfl, b1⟩
 have hz := HZ.out
 have hb1 := b1.size
 have B1 := Lib.hid (HB.out.trans (b1.mono (by omega)))
 have hb2 : Below w.heap.size w (w1.alloc (.cells zeroA 72)) := B1.out.alloc B1.out.size (.cells zeroA 72)
 have g1 := ((Below.refl w1.heap.size w1).alloc (Nat.le_refl _) (.cells zeroA 72)).block (w.heap.size + 1) (by omega)
 rw [(b1.block _ (by omega)).trans G1.out] at g1
 clear HFD HE HR HT HP HX HS HB G0 G1 b1 hz B1
 unfold zeroA at hb2 g1 ⊢
 have B2 := Lib.hid hb2; have G1 := Lib.hid g1
 clear hb2 g1
 have p0 : (w1.alloc (.cells #[.int .i64 0, .int .i64 0, .int .i64 0, .int .i64 0, .int .i64 0, .int .i64 0, .int .i64 0, .int .i64 0, .int .i64 0, .int .i64 0, .int .i64 0, .int .i64 0, .int .i64 0, .int .i64 0] 72)).cell? ⟨w.heap.size + 1, 0, none⟩ = some (.string ⟨b.name.toArray⟩) := cell_at G1.out 0 rfl
 have p1 : (w1.alloc (.cells #[.int .i64 0, .int .i64 0, .int .i64 0, .int .i64 0, .int .i64 0, .int .i64 0, .int .i64 0, .int .i64 0, .int .i64 0, .int .i64 0, .int .i64 0, .int .i64 0, .int .i64 0, .int .i64 0] 72)).cell? ⟨w.heap.size + 1, 1, none⟩ = some (.int .i64 b.weight) := cell_at G1.out 1 rfl
 have p2 : (w1.alloc (.cells #[.int .i64 0, .int .i64 0, .int .i64 0, .int .i64 0, .int .i64 0, .int .i64 0, .int .i64 0, .int .i64 0, .int .i64 0, .int .i64 0, .int .i64 0, .int .i64 0, .int .i64 0, .int .i64 0] 72)).cell? ⟨w.heap.size + 1, 2, none⟩ = some (.int .i64 b.lift) := cell_at G1.out 2 rfl
 have p3 : (w1.alloc (.cells #[.int .i64 0, .int .i64 0, .int .i64 0, .int .i64 0, .int .i64 0, .int .i64 0, .int .i64 0, .int .i64 0, .int .i64 0, .int .i64 0, .int .i64 0, .int .i64 0, .int .i64 0, .int .i64 0] 72)).cell? ⟨w.heap.size + 1, 3, none⟩ = some (.int .i64 b.girth) := cell_at G1.out 3 rfl
 have p4 : (w1.alloc (.cells #[.int .i64 0, .int .i64 0, .int .i64 0, .int .i64 0, .int .i64 0, .int .i64 0, .int .i64 0, .int .i64 0, .int .i64 0, .int .i64 0, .int .i64 0, .int .i64 0, .int .i64 0, .int .i64 0] 72)).cell? ⟨w.heap.size + 1, 4, none⟩ = some (.int .i64 b.step) := cell_at G1.out 4 rfl
 have p5 : (w1.alloc (.cells #[.int .i64 0, .int .i64 0, .int .i64 0, .int .i64 0, .int .i64 0, .int .i64 0, .int .i64 0, .int .i64 0, .int .i64 0, .int .i64 0, .int .i64 0, .int .i64 0, .int .i64 0, .int .i64 0] 72)).cell? ⟨w.heap.size + 1, 5, none⟩ = some (.int .i64 b.jump) := cell_at G1.out 5 rfl
 have p6 : (w1.alloc (.cells #[.int .i64 0, .int .i64 0, .int .i64 0, .int .i64 0, .int .i64 0, .int .i64 0, .int .i64 0, .int .i64 0, .int .i64 0, .int .i64 0, .int .i64 0, .int .i64 0, .int .i64 0, .int .i64 0] 72)).cell? ⟨w.heap.size + 1, 6, none⟩ = some (.int .i64 b.r0) := cell_at G1.out 6 rfl
 have p7 : (w1.alloc (.cells #[.int .i64 0, .int .i64 0, .int .i64 0, .int .i64 0, .int .i64 0, .int .i64 0, .int .i64 0, .int .i64 0, .int .i64 0, .int .i64 0, .int .i64 0, .int .i64 0, .int .i64 0, .int .i64 0] 72)).cell? ⟨w.heap.size + 1, 7, none⟩ = some (.int .i64 b.r1) := cell_at G1.out 7 rfl
 have p8 : (w1.alloc (.cells #[.int .i64 0, .int .i64 0, .int .i64 0, .int .i64 0, .int .i64 0, .int .i64 0, .int .i64 0, .int .i64 0, .int .i64 0, .int .i64 0, .int .i64 0, .int .i64 0, .int .i64 0, .int .i64 0] 72)).cell? ⟨w.heap.size + 1, 8, none⟩ = some (.int .i64 b.r2) := cell_at G1.out 8 rfl
 have p9 : (w1.alloc (.cells #[.int .i64 0, .int .i64 0, .int .i64 0, .int .i64 0, .int .i64 0, .int .i64 0, .int .i64 0, .int .i64 0, .int .i64 0, .int .i64 0, .int .i64 0, .int .i64 0, .int .i64 0, .int .i64 0] 72)).cell? ⟨w.heap.size + 1, 9, none⟩ = some (.int .i64 b.s0) := cell_at G1.out 9 rfl
 have p10 : (w1.alloc (.cells #[.int .i64 0, .int .i64 0, .int .i64 0, .int .i64 0, .int .i64 0, .int .i64 0, .int .i64 0, .int .i64 0, .int .i64 0, .int .i64 0, .int .i64 0, .int .i64 0, .int .i64 0, .int .i64 0] 72)).cell? ⟨w.heap.size + 1, 10, none⟩ = some (.int .i64 b.s1) := cell_at G1.out 10 rfl
 have p11 : (w1.alloc (.cells #[.int .i64 0, .int .i64 0, .int .i64 0, .int .i64 0, .int .i64 0, .int .i64 0, .int .i64 0, .int .i64 0, .int .i64 0, .int .i64 0, .int .i64 0, .int .i64 0, .int .i64 0, .int .i64 0] 72)).cell? ⟨w.heap.size + 1, 11, none⟩ = some (.int .i64 b.s2) := cell_at G1.out 11 rfl
 have p12 : (w1.alloc (.cells #[.int .i64 0, .int .i64 0, .int .i64 0, .int .i64 0, .int .i64 0, .int .i64 0, .int .i64 0, .int .i64 0, .int .i64 0, .int .i64 0, .int .i64 0, .int .i64 0, .int .i64 0, .int .i64 0] 72)).cell? ⟨w.heap.size + 1, 12, none⟩ = some (.int .i64 b.t0) := cell_at G1.out 12 rfl
 have p13 : (w1.alloc (.cells #[.int .i64 0, .int .i64 0, .int .i64 0, .int .i64 0, .int .i64 0, .int .i64 0, .int .i64 0, .int .i64 0, .int .i64 0, .int .i64 0, .int .i64 0, .int .i64 0, .int .i64 0, .int .i64 0] 72)).cell? ⟨w.heap.size + 1, 13, none⟩ = some (.int .i64 b.t1) := cell_at G1.out 13 rfl
 have p14 : (w1.alloc (.cells #[.int .i64 0, .int .i64 0, .int .i64 0, .int .i64 0, .int .i64 0, .int .i64 0, .int .i64 0, .int .i64 0, .int .i64 0, .int .i64 0, .int .i64 0, .int .i64 0, .int .i64 0, .int .i64 0] 72)).cell? ⟨w.heap.size + 1, 14, none⟩ = some (.int .i64 b.t2) := cell_at G1.out 14 rfl
 have p15 : (w1.alloc (.cells #[.int .i64 0, .int .i64 0, .int .i64 0, .int .i64 0, .int .i64 0, .int .i64 0, .int .i64 0, .int .i64 0, .int .i64 0, .int .i64 0, .int .i64 0, .int .i64 0, .int .i64 0, .int .i64 0] 72)).cell? ⟨w.heap.size + 1, 15, none⟩ = some (.int .i64 b.effort) := cell_at G1.out 15 rfl
 have p16 : (w1.alloc (.cells #[.int .i64 0, .int .i64 0, .int .i64 0, .int .i64 0, .int .i64 0, .int .i64 0, .int .i64 0, .int .i64 0, .int .i64 0, .int .i64 0, .int .i64 0, .int .i64 0, .int .i64 0, .int .i64 0] 72)).cell? ⟨w.heap.size + 1, 16, none⟩ = some (.int .i64 b.recover) := cell_at G1.out 16 rfl
 go_wp2_with fail
 refine (HBC.out _).mono ?_
 rintro e w3 ⟨rfl, hb3⟩
 have B3 := Lib.hid (B2.out.trans (hb3.mono B2.out.size))
 clear p0 p1 p2 p3 p4 p5 p6 p7 p8 p9 p10 p11 p12 p13 p14 p15 p16 hb3 B2 G1 HBC
 cases hbb : bodB b with
 | false =>
  rw [show codeI false 250 = 250 from rfl]
  go_wp2_with fail
  all_goals
   go_ret2
   first
    | exact ⟨rfl, B3.out⟩
    | (exfalso; simp_all)
 | true =>
  rw [show codeI true 250 = 0 from rfl]
  go_wp2_with fail
  all_goals
   go_ret2
   first
    | exact ⟨rfl, B3.out⟩
    | (exfalso; simp_all)
end Go.Proofs.YtggcbblikgankaaGreatDoor
end

/- Contracts and plain laws on the way to the statement: part 32. -/
import Derived.Test.YtggcbblikgankaaGreatDoorZ31
import Derived.Test.YtggcbblikgankaaGreatDoorZ28
import Derived.Test.YtggcbblikgankaaGreatDoorZ29
import Derived.Test.YtggcbblikgankaaGreatDoorRows
import Derived.Lib.LaidTab
import Derived.LaidLaws
import Derived.JoinedAt
import Derived.ProofKit
import Derived.Carry
import Derived.SizedLaws
import Derived.OpenShut
import Derived.WideShapes
import Derived.Test.YtggcbblikgankaaGreatDoorZ3
set_option linter.unusedVariables false
set_option linter.unusedSimpArgs false
set_option maxRecDepth 100000
set_option maxHeartbeats 16000000
namespace Go.Proofs.YtggcbblikgankaaGreatDoor
open Go.Value (int)
open Go.IntKind (i64)
section
open Go Go.ChangeShapes Go.WideShapes Go.ChangeAt Go.RowKit
def Le : List (String × DataW Unit) := [("kinesphere/space.flat", Rows.laid_kinesphere_space_flat), ("kinesphere/expand.kinds", Rows.laid_kinesphere_expand_kinds)]
theorem gFlat : Tryz.prog.globalNamed "kinesphere/space.flat" = some 1 := by kernel_rfl
theorem gFlatT : (Tryz.prog.globals[1]?).map (·.type) = some 200 := by kernel_rfl
theorem gKinds : Tryz.prog.globalNamed "kinesphere/expand.kinds" = some 0 := by kernel_rfl
theorem gKindsT : (Tryz.prog.globals[0]?).map (·.type) = some 154 := by kernel_rfl
theorem J5 : Tryz.prog.cellsOf 199 = 2 := by kernel_rfl
theorem J8 : Tryz.prog.cellsOf 153 = 6 := by kernel_rfl
theorem Rm : Tryz.prog.cellsOf 4 = 1 := by kernel_rfl
theorem SQ {cs : List Value} (h : cs.length = 6) : ∃ c0 c1 c2 c3 c4 c5, cs = [c0, c1, c2, c3, c4, c5] := by
 match cs, h with
 | [c0, c1, c2, c3, c4, c5], _ => exact ⟨c0, c1, c2, c3, c4, c5, rfl⟩
def Mo (k : Nat) : DataW Unit := .agg [.lit (.bool (Dq k)), .lit (.bool (Fz k)), .lit (.bool (Dn k)), .lit (.int .i64 (Cr k)), .lit (.int .i64 (BS k)), .lit (.int .i64 (CU k))]
theorem Oy : (Rows.laid_kinesphere_expand_kinds : DataW Unit) = .agg ((List.range 10).map Mo) := rfl
theorem Qn : (Rows.laid_kinesphere_space_flat : DataW Unit) = .agg (flatTab.map fun p => Lib.tabData .i64 [p.1, p.2]) := rfl
section
variable {et : TypeId × Value → Unit} {W : World}
theorem MY {n : Nat} {cs : List Value} {y : DataW Unit × List MemPlace} {sp : Nat → Bool} {held : Bool} {k : Nat} (h : DataW.trod et Tryz.prog W 0 sp held n 153 cs = some y) (hd : y.1 = Mo k) : cs = FN k := by
 obtain ⟨ys, m, _, hy, hl, hyl, hf⟩ := DataW.trod_struct Tryz.underlying153 h
 rw [J8] at hl
 obtain ⟨c0, c1, c2, c3, c4, c5, rfl⟩ := SQ hl
 rw [hy] at hd
 have hm : ys.map (·.1) = [.lit (.bool (Dq k)), .lit (.bool (Fz k)), .lit (.bool (Dn k)), .lit (.int .i64 (Cr k)), .lit (.int .i64 (BS k)), .lit (.int .i64 (CU k))] := by
  injection hd
 have at_ : ∀ (j : Nat) (d : DataW Unit), (ys.map (·.1))[j]? = some d → ∃ q, ys[j]? = some (d, q) := by
  intro j d hj
  rw [List.getElem?_map, Option.map_eq_some_iff] at hj
  obtain ⟨a, ha, rfl⟩ := hj
  exact ⟨a.2, ha⟩
 obtain ⟨q0, hy0⟩ := at_ 0 _ (by rw [hm]; rfl)
 obtain ⟨q1, hy1⟩ := at_ 1 _ (by rw [hm]; rfl)
 obtain ⟨q2, hy2⟩ := at_ 2 _ (by rw [hm]; rfl)
 obtain ⟨q3, hy3⟩ := at_ 3 _ (by rw [hm]; rfl)
 obtain ⟨q4, hy4⟩ := at_ 4 _ (by rw [hm]; rfl)
 obtain ⟨q5, hy5⟩ := at_ 5 _ (by rw [hm]; rfl)
 have f0 : DataW.trod et Tryz.prog W 0 sp held m 4 (([c0, c1, c2, c3, c4, c5].drop 0).take (Tryz.prog.cellsOf 4)) = _ := (hf 0 _ rfl).trans hy0
 have f1 : DataW.trod et Tryz.prog W 0 sp held m 4 (([c0, c1, c2, c3, c4, c5].drop 1).take (Tryz.prog.cellsOf 4)) = _ := (hf 1 _ rfl).trans hy1
 have f2 : DataW.trod et Tryz.prog W 0 sp held m 4 (([c0, c1, c2, c3, c4, c5].drop 2).take (Tryz.prog.cellsOf 4)) = _ := (hf 2 _ rfl).trans hy2
 have f3 : DataW.trod et Tryz.prog W 0 sp held m 3 (([c0, c1, c2, c3, c4, c5].drop 3).take (Tryz.prog.cellsOf 3)) = _ := (hf 3 _ rfl).trans hy3
 have f4 : DataW.trod et Tryz.prog W 0 sp held m 3 (([c0, c1, c2, c3, c4, c5].drop 4).take (Tryz.prog.cellsOf 3)) = _ := (hf 4 _ rfl).trans hy4
 have f5 : DataW.trod et Tryz.prog W 0 sp held m 3 (([c0, c1, c2, c3, c4, c5].drop 5).take (Tryz.prog.cellsOf 3)) = _ := (hf 5 _ rfl).trans hy5
 rw [Rm] at f0 f1 f2
 rw [Ad] at f3 f4 f5
 obtain ⟨b0, e0, g0⟩ := DataW.trod_bool Tryz.underlying4 f0
 obtain ⟨b1, e1, g1⟩ := DataW.trod_bool Tryz.underlying4 f1
 obtain ⟨b2, e2, g2⟩ := DataW.trod_bool Tryz.underlying4 f2
 obtain ⟨b3, e3, g3, _⟩ := DataW.trod_int Tryz.underlying3 f3
 obtain ⟨b4, e4, g4, _⟩ := DataW.trod_int Tryz.underlying3 f4
 obtain ⟨b5, e5, g5, _⟩ := DataW.trod_int Tryz.underlying3 f5
 cases e0; cases e1; cases e2; cases e3; cases e4; cases e5
 injection g0 with g0 _; injection g1 with g1 _; injection g2 with g2 _; injection g3 with g3 _; injection g4 with g4 _; injection g5 with g5 _
 injection g0 with g0; injection g1 with g1; injection g2 with g2; injection g3 with g3; injection g4 with g4; injection g5 with g5
 injection g0 with g0; injection g1 with g1; injection g2 with g2; injection g3 with _ g3; injection g4 with _ g4; injection g5 with _ g5
 subst g0 g1 g2 g3 g4 g5
 rfl
theorem Py {n N e : Nat} {t : TypeId} {cs : List Value} {ds : List (DataW Unit)} {p : List MemPlace} {sp : Nat → Bool} {held : Bool} (ht : Tryz.prog.underlying t = some (.array N e)) (h : DataW.trod et Tryz.prog W 0 sp held n t cs = some (.agg ds, p)) {i : Nat} {d : DataW Unit} (hi : i < N) (hd : ds[i]? = some d) :
  ∃ m q, DataW.trod et Tryz.prog W 0 sp held m e ((cs.drop (i * Tryz.prog.cellsOf e)).take (Tryz.prog.cellsOf e)) = some (d, q) := by
 obtain ⟨xs, m, _, hx, _, hxl, hf⟩ := DataW.trod_array ht h
 injection hx with hx _
 injection hx with hx
 rw [hx, List.getElem?_map, Option.map_eq_some_iff] at hd
 obtain ⟨a, ha, rfl⟩ := hd
 exact ⟨m, a.2, (hf i hi).trans ha⟩
theorem Kq {cs l : List Value} {o k j : Nat} {v : Value} (h : (cs.drop o).take k = l) (hj : l[j]? = some v) : cs[o + j]? = some v := by
 subst h
 have hk : j < k := by
  have := (ql.1 hj).1
  simp at this; omega
 rw [List.getElem?_take_of_lt hk, List.getElem?_drop] at hj
 exact hj
end
theorem L1 {W : World} (h : laidMet Tryz.prog Le W) : Env W := by
 obtain ⟨ps, ⟨g', t', cs, fuel, p, q, hg', ht', hvar, hd, ⟨g'', t'', cs', fuel', p', q', hg'', ht'', hvar', hd', _⟩, _⟩, _⟩ := h
 obtain rfl := Option.some.inj (gFlat.symm.trans hg')
 obtain rfl := Option.some.inj (gFlatT.symm.trans ht')
 obtain rfl := Option.some.inj (gKinds.symm.trans hg'')
 obtain rfl := Option.some.inj (gKindsT.symm.trans ht'')
 rw [Qn] at hd
 rw [Oy] at hd'
 refine ⟨?_, ?_⟩
 ·intro k hk j v hj
  obtain ⟨m, q2, hm⟩ := Py Tryz.underlying154 hd' (i := k) (d := Mo k) hk (by rw [List.getElem?_map, List.getElem?_range hk]; rfl)
  rw [J8] at hm
  have := Kq (MY hm rfl) hj
  rw [World.var?_cell gKinds hvar', ← Array.getElem?_toList]
  exact this
 ·intro k pr hpr
  have hk : k < 8 := (ql.1 hpr).1
  obtain ⟨m, q2, hm⟩ := Py Tryz.underlying200 hd (i := k) (d := Lib.tabData .i64 [pr.1, pr.2]) hk (by rw [List.getElem?_map, hpr]; rfl)
  rw [J5] at hm
  have hc := Lib.cells_of_tab Tryz.underlying199 Tryz.underlying3 Ad J5 hm
  refine ⟨?_, ?_⟩
  ·rw [World.var?_cell gFlat hvar, ← Array.getElem?_toList]
   exact Kq (j := 0) hc rfl
  ·rw [World.var?_cell gFlat hvar, ← Array.getElem?_toList]
   exact Kq (j := 1) hc rfl
end
section
open Go.ChangeShapes Go.WideShapes Go.ChangeAt Go.RowKit
theorem Tryz.laidOut : laidOutB Tryz.prog = true := by kernel_rfl
section
variable {H : Type} {enc : TypeId × Value → H} {W : World}
theorem OV {base : Nat} {v : Value} {d : DataW H} {p : List MemPlace} (hv : Value.okWide Tryz.prog W .any base 32 v) (h : DataW.Trod enc Tryz.prog W 0 (fun _ => true) true 32 v d p) :
  ∃ (wd dp ta tb tc bars : Int) (aR aT aP aX aS : Option Addr) (cR cT cP cX cS : Nat) (rs : List Rol) (ts : List Tmp) (ps : List Pau) (xs : List Con) (ss : List Sgn),
   v = .agg #[int i64 wd, int i64 dp, int i64 ta, int i64 tb, int i64 tc, .slice aR rs.length cR, int i64 bars, .slice aT ts.length cT, .slice aP ps.length cP, .slice aX xs.length cX, .slice aS ss.length cS] ∧
   IsRow De 4 W (.slice aR rs.length cR) rs ∧ IsRow Bq 3 W (.slice aT ts.length cT) ts ∧ IsRow Cl 4 W (.slice aP ps.length cP) ps ∧ IsRow Ck 4 W (.slice aX xs.length cX) xs ∧ IsRow CF 14 W (.slice aS ss.length cS) ss := by
 obtain ⟨cs, rfl, hcs⟩ := okWide_struct Tryz.underlying32 hv
 obtain ⟨fuel, hf⟩ := h
 obtain ⟨wd, dp, ta, tb, tc, r, rs, bars, t, ts, pp, ps, x, xs, s, ss, e, hR, hT, hP, hX, hS⟩ := Sy hf
 have hR' := hR; have hT' := hT; have hP' := hP; have hX' := hX; have hS' := hS
 obtain ⟨aR, cR, rfl, -⟩ := hR'
 obtain ⟨aT, cT, rfl, -⟩ := hT'
 obtain ⟨aP, cP, rfl, -⟩ := hP'
 obtain ⟨aX, cX, rfl, -⟩ := hX'
 obtain ⟨aS, cS, rfl, -⟩ := hS'
 refine ⟨wd, dp, ta, tb, tc, bars, aR, aT, aP, aX, aS, cR, cT, cP, cX, cS, rs, ts, ps, xs, ss, ?_, hR, hT, hP, hX, hS⟩
 congr 1
 exact Array.toList_inj.1 e
theorem Sn {v : Value} {d : DataW H} {p : List MemPlace} (h : DataW.Trod enc Tryz.prog W 0 (fun _ => true) true 32 v d p) (hlt : ∀ x ∈ p, x.block < W.heap.size) {W' : World} (hb : Below W.heap.size W W') :
  DataW.Trod enc Tryz.prog W' 0 (fun b => decide (b < W.heap.size)) true 32 v d p :=
 Below.trod Tryz.laidOut (by kernel_rfl) (of_decide_eq_true (by kernel_rfl)) h hb hlt
end
theorem Env.size {w : World} (h : Env w) : 2 ≤ w.heap.size := AF (h.flat 0 _ rfl).1
def setRow (cs : Array Value) : Obj → Obj
 | .cells _ t frozen => .cells cs t frozen
 | o => o
noncomputable def Ji (os : Os) : World :=
 let w0 := World.holding Tryz.prog os ⟨#[], #[], []⟩
 { w0 with heap := (w0.heap.modify 1 (setRow (flatTab.flatMap fun p => [Value.int .i64 p.1, Value.int .i64 p.2]).toArray)).modify 0 (setRow ((List.range 10).flatMap FN).toArray) }
theorem IF (os : Os) (args : Array Value) : laidMet Tryz.prog Le ((Ji os).forCall (fun _ _ => 0) ⟨#[], args, []⟩).memory :=
 laidMet_of_run' 8 (by kernel_rfl) (by kernel_rfl)
def T9 : Value := .agg #[int i64 0, int i64 0, int i64 0, int i64 0, int i64 0, .slice none 0 0, int i64 0, .slice none 0 0, .slice none 0 0, .slice none 0 0, .slice none 0 0]
end
section
open Go.ChangeShapes Go.WideShapes Go.ChangeAt Go.RowKit
section
variable {H : Type} {enc : TypeId × Value → H} {W : World}
theorem RK {base : Nat} {v : Value} {d : DataW H} {p : List MemPlace} (hv : Value.okWide Tryz.prog W .any base 32 v) (h : DataW.Trod enc Tryz.prog W 0 (fun _ => true) true 32 v d p) :
  ∃ (k : Wrk) (ws : Array Value), v = .agg ws ∧ WkAt k ws W := by
 obtain ⟨wd, dp, ta, tb, tc, bars, aR, aT, aP, aX, aS, cR, cT, cP, cX, cS, rs, ts, ps, xs, ss, rfl, hR, hT, hP, hX, hS⟩ := OV hv h
 exact ⟨⟨wd, dp, ta, tb, tc, rs, ⟨bars, ts, ps, xs⟩, ss⟩, _, rfl, aR, aT, aP, aX, aS, cR, cT, cP, cX, cS, rfl, hR, hT, hP, hX, hS⟩
end
end
end Go.Proofs.YtggcbblikgankaaGreatDoor

/- The walk of the statement: part 6. -/
import Derived.Test.YtggcbblikgankaaGreatDoorYEf6p5
import Derived.Test.YtggcbblikgankaaGreatDoorZ34
import Derived.Test.YtggcbblikgankaaGreatDoorYEf6p3
import Derived.Test.YtggcbblikgankaaGreatDoorZ36
import Derived.Test.YtggcbblikgankaaGreatDoorYEf6p4
set_option linter.unusedVariables false
set_option linter.unusedSimpArgs false
section
set_option linter.unusedSimpArgs false
set_option linter.unusedVariables false
namespace Go.Proofs.YtggcbblikgankaaGreatDoor
open Go Go.RowKit Go.Deep Go.Sort
noncomputable def code39r : Code := (Tryz.f39.body).getD .skip
noncomputable def rest39 : Code := lastPart 4 code39r
def OfP (w : World) (L : List Rea) (e : Ending) (w' : World) : Prop := ∃ v, e = .returned v ∧ w'.ownsRow w.heap.size 37 4 v L.length (L.flatMap encRea) ∧ Below w.heap.size w w'
set_option maxRecDepth 100000 in
set_option maxHeartbeats 8000000 in
theorem of_mark (s : Sgn) (DL L : List Rea) (hL : DL ++ dropL s = L) (hlen : DL.length ≤ 1000) (w w5 : World) (gs : Nat) (v : Value) (hs : w5.heap[gs]? = some (.cells (sgnC s) 72 (0, 0))) (ho : w5.ownsRow w.heap.size 37 4 v DL.length (DL.flatMap encRea)) (hB5 : Below w.heap.size w w5) (e0 e1 e2 e3 e5 e6 e7 e9 e10 e11 e12 e13 e14 e15 e16 e17 e18 e19 e20 e21 e22 e23 e24 e25 e26 e27 e28 e29 e30 e31 e32 e33 e34 e35 e36 e37 e38 e39 e40 e41 e42 e43 e44 e45 e46 e47 e48 e49 e50 e51 e52 e53 e54 e55 e56 e57 e58 e59 e60 e61 e62 e63 e64 e65 e66 e67 e68 e69 e70 e71 e72 e73 e74 e75 : Value) :
  Code.wp Tryz.prog rest39 (bodyPost Tryz.prog Tryz.f39 (OfP w L)) { tmps := #[e0, e1, e2, e3, .pointer (some ⟨gs, 0, none⟩), e5, e6, e7, v, e9, e10, e11, e12, e13, e14, e15, e16, e17, e18, e19, e20, e21, e22, e23, e24, e25, e26, e27, e28, e29, e30, e31, e32, e33, e34, e35, e36, e37, e38, e39, e40, e41, e42, e43, e44, e45, e46, e47, e48, e49, e50, e51, e52, e53, e54, e55, e56, e57, e58, e59, e60, e61, e62, e63, e64, e65, e66, e67, e68, e69, e70, e71, e72, e73, e74, e75], defers := [] } w5 := by
 subst hL
 obtain ⟨j0, hj0, hjz, hjs, hjb⟩ := info_parts info60
 have c0 : w5.cell? ⟨gs, 0, none⟩ = some (.int .i64 s.id) := cell_at hs 0 rfl
 have c3 : w5.cell? ⟨gs, 3, none⟩ = some (.int .i64 s.mark) := cell_at hs 3 rfl
 have HO := Lib.hid ho; have B5 := Lib.hid hB5
 clear ho hB5 hs
 unfold rest39 code39r
 conv => arg 2; whnf
 by_cases hmk : s.mark = 1
 ·have f9 : (s.mark != 1) = false := by simpa using hmk
  have HD := Lib.hid (show dropL s = [] by unfold dropL; rw [if_pos hmk])
  clear hmk
  go_wp2_with fail
  go_ret
  exact ⟨_, rfl, by rw [HD.out, List.append_nil]; exact HO.out, B5.out⟩
 ·have f9 : (s.mark != 1) = true := by simpa using hmk
  have HD := Lib.hid (show dropL s = [⟨s.id, 0, 0, true⟩] by unfold dropL; rw [if_neg hmk])
  have hpar : ∀ j u, (encRea ⟨s.id, 0, 0, true⟩)[j]? = some u → (w5.alloc (.cells #[.int .i64 s.id, .int .i64 0, .int .i64 0, .bool true] 37)).cell? ((⟨w5.heap.size, 0, none⟩ : Addr).add j) = some u := by
   intro j u hj
   rw [addr_plain, Nat.zero_add]
   exact cell_at (heap_alloc_new w5 _) j (by simpa [encRea] using hj)
  have HP := Lib.hid hpar
  have hb5s := B5.out.size
  clear hmk hpar
  go_wp2_with (at_builtin; refine wpList_append_own _ rfl _ _ 40 rfl w.heap.size 37 j0 _ 4 32 Tryz.underlying40 hj0 hjz hjs hjb rfl (by decide) _ _ _ rfl (HO.out.alloc _) ⟨w5.heap.size, 0, none⟩ 1 1 (encRea ⟨s.id, 0, 0, true⟩) rfl rfl HP.out (encRea_one _) (by simp only [maxLen]; omega) (by omega) (by simp; omega) ?_; intro v' w6 hown hgrow _)
  have HB6 := Lib.hid ((B5.out.alloc hb5s (.cells #[.int .i64 s.id, .int .i64 0, .int .i64 0, .bool true] 37)).grown hgrow (by simp; omega) (fun j h => (owns_ge HO.out (g := j) h).1))
  go_ret
  exact ⟨_, rfl, by rw [HD.out, List.length_append, List.flatMap_append]; simpa using hown, HB6.out⟩
theorem optS_len {ta tc : Int} {s : Sgn} {top : Nat} (ht : top ≤ 3) : (optS ta tc s top).length ≤ 27 := by
 unfold optS
 rw [List.length_map, sortA_len]
 have := allL_len ta tc s top 9
 omega
structure OfW (w : World) (ta tb tc : Int) (s : Sgn) (b : Bod) (wr : World) : Prop where
 trn : wr.heap[w.heap.size]? = some (.cells #[.int .i64 ta, .int .i64 tb, .int .i64 tc] 23 (0, 0))
 sgn : wr.heap[w.heap.size + 1]? = some (.cells (sgnC s) 72 (0, 0))
 bod : wr.heap[w.heap.size + 1 + 1]? = some (.cells (bodCells b) 35 (0, 0))
 below : Below w.heap.size w wr
theorem OfW.next {w : World} {ta tb tc : Int} {s : Sgn} {b : Bod} {wr w2 : World} (h : OfW w ta tb tc s b wr) (hb : Below wr.heap.size wr w2) : OfW w ta tb tc s b w2 :=
 ⟨(hb.block _ (Array.getElem?_eq_some_iff.1 h.trn).1).trans h.trn, (hb.block _ (Array.getElem?_eq_some_iff.1 h.sgn).1).trans h.sgn, (hb.block _ (Array.getElem?_eq_some_iff.1 h.bod).1).trans h.bod, h.below.trans (hb.mono h.below.size)⟩
set_option maxRecDepth 100000 in
set_option maxHeartbeats 8000000 in
theorem rof_1 (ta tb tc : Int) (s : Sgn) (b : Bod) (w : World) (L : List Rea) (hL : travL s b.step ++ dropL s = L) (hk : s.kind = 1) : Calls Tryz.prog 39 #[.agg #[.int .i64 ta, .int .i64 tb, .int .i64 tc], .agg (sgnC s), bodV b] w (OfP w L) := by
 have HL0 := Lib.hid hL; have HK := Lib.hid hk; clear hL hk
 obtain ⟨k0, k1, k2, kz, kb⟩ := blocks3 w (.cells #[.int .i64 ta, .int .i64 tb, .int .i64 tc] 23) (.cells (sgnC s) 72) (.cells (bodCells b) 35)
 have hw0 : OfW w ta tb tc s b (((w.alloc (.cells #[.int .i64 ta, .int .i64 tb, .int .i64 tc] 23)).alloc (.cells (sgnC s) 72)).alloc (.cells (bodCells b) 35)) := ⟨k0, k1, k2, kb⟩
 have hz : (((w.alloc (.cells #[.int .i64 ta, .int .i64 tb, .int .i64 tc] 23)).alloc (.cells (sgnC s) 72)).alloc (.cells (bodCells b) 35)).heap.size = w.heap.size + 3 := by simp
 have HW0 := Lib.hid hw0; have HZ := Lib.hid hz
 clear hw0 hz k0 k1 k2 kz kb
 unfold sgnC bodCells at HW0 HZ
 unfold sgnC bodV
 go_enter Tryz.func39, Tryz.ntmps39
 change Code.wp Tryz.prog (withLast 4 code39r rest39) _ _ _
 conv => arg 2; whnf
 go_wp2_with fail
 conv => arg 2; whnf
 generalize ((w.alloc (.cells #[.int .i64 ta, .int .i64 tb, .int .i64 tc] 23)).alloc (.cells #[.int .i64 s.id, .int .i64 s.role, .int .i64 s.bar, .int .i64 s.mark, .int .i64 s.kind, .int .i64 s.side, .int .i64 s.dir, .int .i64 s.level, .int .i64 s.size, .int .i64 s.wth, .int .i64 s.fn, .int .i64 s.fd, .int .i64 s.tn, .int .i64 s.td] 72)).alloc (.cells #[.string ⟨b.name.toArray⟩, .int .i64 b.weight, .int .i64 b.lift, .int .i64 b.girth, .int .i64 b.step, .int .i64 b.jump, .int .i64 b.r0, .int .i64 b.r1, .int .i64 b.r2, .int .i64 b.s0, .int .i64 b.s1, .int .i64 b.s2, .int .i64 b.t0, .int .i64 b.t1, .int .i64 b.t2, .int .i64 b.effort, .int .i64 b.recover] 35) = w0 at *
 have hz := HZ.out
 have ho := owns_base (owns_new w0 ⟨s.id, 0, 0, false⟩) (show w.heap.size ≤ w0.heap.size by omega)
 rw [hz] at ho
 have hnx := HW0.out.next ((Below.refl w0.heap.size w0).alloc (Nat.le_refl _) (.cells #[.int .i64 s.id, .int .i64 0, .int .i64 0, .bool false] 37))
 have HO := Lib.hid ho; have HW1 := Lib.hid hnx
 clear hnx ho
 have a0 : w0.cell? ⟨w.heap.size + 1, 0, none⟩ = some (.int .i64 s.id) := cell_at HW0.out.sgn 0 rfl
 go_wp2_with fail
 clear a0
 conv => arg 2; whnf
 generalize w0.alloc (.cells #[.int .i64 s.id, .int .i64 0, .int .i64 0, .bool false] 37) = w1 at *
 clear hz
 go_wp2_with fail
 conv => arg 2; whnf
 have s0 : w1.cell? ⟨w.heap.size + 1, 0, none⟩ = some (.int .i64 s.id) := cell_at HW1.out.sgn 0 rfl
 have s4 : w1.cell? ⟨w.heap.size + 1, 4, none⟩ = some (.int .i64 s.kind) := cell_at HW1.out.sgn 4 rfl
 have s7 : w1.cell? ⟨w.heap.size + 1, 7, none⟩ = some (.int .i64 s.level) := cell_at HW1.out.sgn 7 rfl
 have s8 : w1.cell? ⟨w.heap.size + 1, 8, none⟩ = some (.int .i64 s.size) := cell_at HW1.out.sgn 8 rfl
 have b4 : w1.cell? ⟨w.heap.size + 1 + 1, 4, none⟩ = some (.int .i64 b.step) := cell_at HW1.out.bod 4 rfl
 have b5 : w1.cell? ⟨w.heap.size + 1 + 1, 5, none⟩ = some (.int .i64 b.jump) := cell_at HW1.out.bod 5 rfl
 have b12 : w1.cell? ⟨w.heap.size + 1 + 1, 12, none⟩ = some (.int .i64 b.t0) := cell_at HW1.out.bod 12 rfl
 have b13 : w1.cell? ⟨w.heap.size + 1 + 1, 13, none⟩ = some (.int .i64 b.t1) := cell_at HW1.out.bod 13 rfl
 have b14 : w1.cell? ⟨w.heap.size + 1 + 1, 14, none⟩ = some (.int .i64 b.t2) := cell_at HW1.out.bod 14 rfl
 have u0 : w1.cell? ⟨w.heap.size, 0, none⟩ = some (.int .i64 ta) := cell_at HW1.out.trn 0 rfl
 have u1 : w1.cell? ⟨w.heap.size, 1, none⟩ = some (.int .i64 tb) := cell_at HW1.out.trn 1 rfl
 have u2 : w1.cell? ⟨w.heap.size, 2, none⟩ = some (.int .i64 tc) := cell_at HW1.out.trn 2 rfl
 rw [HK.out] at s4
 by_cases q : b.step < s.size
 ·have HL : Hid ([] ++ dropL s = L) := Lib.hid (by rw [← HL0.out]; unfold travL; rw [if_pos q])
  go_wp2_with fail
  exact of_mark s [] L HL.out (by simp) w w1 (w.heap.size + 1) _ HW1.out.sgn (World.ownsRow_nil _ _ _ _) HW1.out.below _ _ _ _ _ _ _ _ _ _ _ _ _ _ _ _ _ _ _ _ _ _ _ _ _ _ _ _ _ _ _ _ _ _ _ _ _ _ _ _ _ _ _ _ _ _ _ _ _ _ _ _ _ _ _ _ _ _ _ _ _ _ _ _ _ _ _ _ _ _ _ _ _ _
 ·have HL : Hid ([⟨s.id, 0, 0, false⟩] ++ dropL s = L) := Lib.hid (by rw [← HL0.out]; unfold travL; rw [if_neg q])
  go_wp2_with fail
  exact of_mark s [⟨s.id, 0, 0, false⟩] L HL.out (by simp) w w1 (w.heap.size + 1) _ HW1.out.sgn HO.out HW1.out.below _ _ _ _ _ _ _ _ _ _ _ _ _ _ _ _ _ _ _ _ _ _ _ _ _ _ _ _ _ _ _ _ _ _ _ _ _ _ _ _ _ _ _ _ _ _ _ _ _ _ _ _ _ _ _ _ _ _ _ _ _ _ _ _ _ _ _ _ _ _ _ _ _ _
set_option maxRecDepth 100000 in
set_option maxHeartbeats 8000000 in
theorem rof_2 (ta tb tc : Int) (s : Sgn) (b : Bod) (w : World) (L : List Rea) (hL : travL s b.jump ++ dropL s = L) (hk : s.kind = 2) : Calls Tryz.prog 39 #[.agg #[.int .i64 ta, .int .i64 tb, .int .i64 tc], .agg (sgnC s), bodV b] w (OfP w L) := by
 have HL0 := Lib.hid hL; have HK := Lib.hid hk; clear hL hk
 obtain ⟨k0, k1, k2, kz, kb⟩ := blocks3 w (.cells #[.int .i64 ta, .int .i64 tb, .int .i64 tc] 23) (.cells (sgnC s) 72) (.cells (bodCells b) 35)
 have hw0 : OfW w ta tb tc s b (((w.alloc (.cells #[.int .i64 ta, .int .i64 tb, .int .i64 tc] 23)).alloc (.cells (sgnC s) 72)).alloc (.cells (bodCells b) 35)) := ⟨k0, k1, k2, kb⟩
 have hz : (((w.alloc (.cells #[.int .i64 ta, .int .i64 tb, .int .i64 tc] 23)).alloc (.cells (sgnC s) 72)).alloc (.cells (bodCells b) 35)).heap.size = w.heap.size + 3 := by simp
 have HW0 := Lib.hid hw0; have HZ := Lib.hid hz
 clear hw0 hz k0 k1 k2 kz kb
 unfold sgnC bodCells at HW0 HZ
 unfold sgnC bodV
 go_enter Tryz.func39, Tryz.ntmps39
 change Code.wp Tryz.prog (withLast 4 code39r rest39) _ _ _
 conv => arg 2; whnf
 go_wp2_with fail
 conv => arg 2; whnf
 generalize ((w.alloc (.cells #[.int .i64 ta, .int .i64 tb, .int .i64 tc] 23)).alloc (.cells #[.int .i64 s.id, .int .i64 s.role, .int .i64 s.bar, .int .i64 s.mark, .int .i64 s.kind, .int .i64 s.side, .int .i64 s.dir, .int .i64 s.level, .int .i64 s.size, .int .i64 s.wth, .int .i64 s.fn, .int .i64 s.fd, .int .i64 s.tn, .int .i64 s.td] 72)).alloc (.cells #[.string ⟨b.name.toArray⟩, .int .i64 b.weight, .int .i64 b.lift, .int .i64 b.girth, .int .i64 b.step, .int .i64 b.jump, .int .i64 b.r0, .int .i64 b.r1, .int .i64 b.r2, .int .i64 b.s0, .int .i64 b.s1, .int .i64 b.s2, .int .i64 b.t0, .int .i64 b.t1, .int .i64 b.t2, .int .i64 b.effort, .int .i64 b.recover] 35) = w0 at *
 have hz := HZ.out
 have ho := owns_base (owns_new w0 ⟨s.id, 0, 0, false⟩) (show w.heap.size ≤ w0.heap.size by omega)
 rw [hz] at ho
 have hnx := HW0.out.next ((Below.refl w0.heap.size w0).alloc (Nat.le_refl _) (.cells #[.int .i64 s.id, .int .i64 0, .int .i64 0, .bool false] 37))
 have HO := Lib.hid ho; have HW1 := Lib.hid hnx
 clear hnx ho
 have a0 : w0.cell? ⟨w.heap.size + 1, 0, none⟩ = some (.int .i64 s.id) := cell_at HW0.out.sgn 0 rfl
 go_wp2_with fail
 clear a0
 conv => arg 2; whnf
 generalize w0.alloc (.cells #[.int .i64 s.id, .int .i64 0, .int .i64 0, .bool false] 37) = w1 at *
 clear hz
 go_wp2_with fail
 conv => arg 2; whnf
 have s0 : w1.cell? ⟨w.heap.size + 1, 0, none⟩ = some (.int .i64 s.id) := cell_at HW1.out.sgn 0 rfl
 have s4 : w1.cell? ⟨w.heap.size + 1, 4, none⟩ = some (.int .i64 s.kind) := cell_at HW1.out.sgn 4 rfl
 have s7 : w1.cell? ⟨w.heap.size + 1, 7, none⟩ = some (.int .i64 s.level) := cell_at HW1.out.sgn 7 rfl
 have s8 : w1.cell? ⟨w.heap.size + 1, 8, none⟩ = some (.int .i64 s.size) := cell_at HW1.out.sgn 8 rfl
 have b4 : w1.cell? ⟨w.heap.size + 1 + 1, 4, none⟩ = some (.int .i64 b.step) := cell_at HW1.out.bod 4 rfl
 have b5 : w1.cell? ⟨w.heap.size + 1 + 1, 5, none⟩ = some (.int .i64 b.jump) := cell_at HW1.out.bod 5 rfl
 have b12 : w1.cell? ⟨w.heap.size + 1 + 1, 12, none⟩ = some (.int .i64 b.t0) := cell_at HW1.out.bod 12 rfl
 have b13 : w1.cell? ⟨w.heap.size + 1 + 1, 13, none⟩ = some (.int .i64 b.t1) := cell_at HW1.out.bod 13 rfl
 have b14 : w1.cell? ⟨w.heap.size + 1 + 1, 14, none⟩ = some (.int .i64 b.t2) := cell_at HW1.out.bod 14 rfl
 have u0 : w1.cell? ⟨w.heap.size, 0, none⟩ = some (.int .i64 ta) := cell_at HW1.out.trn 0 rfl
 have u1 : w1.cell? ⟨w.heap.size, 1, none⟩ = some (.int .i64 tb) := cell_at HW1.out.trn 1 rfl
 have u2 : w1.cell? ⟨w.heap.size, 2, none⟩ = some (.int .i64 tc) := cell_at HW1.out.trn 2 rfl
 rw [HK.out] at s4
 by_cases q : b.jump < s.size
 ·have HL : Hid ([] ++ dropL s = L) := Lib.hid (by rw [← HL0.out]; unfold travL; rw [if_pos q])
  go_wp2_with fail
  exact of_mark s [] L HL.out (by simp) w w1 (w.heap.size + 1) _ HW1.out.sgn (World.ownsRow_nil _ _ _ _) HW1.out.below _ _ _ _ _ _ _ _ _ _ _ _ _ _ _ _ _ _ _ _ _ _ _ _ _ _ _ _ _ _ _ _ _ _ _ _ _ _ _ _ _ _ _ _ _ _ _ _ _ _ _ _ _ _ _ _ _ _ _ _ _ _ _ _ _ _ _ _ _ _ _ _ _ _
 ·have HL : Hid ([⟨s.id, 0, 0, false⟩] ++ dropL s = L) := Lib.hid (by rw [← HL0.out]; unfold travL; rw [if_neg q])
  go_wp2_with fail
  exact of_mark s [⟨s.id, 0, 0, false⟩] L HL.out (by simp) w w1 (w.heap.size + 1) _ HW1.out.sgn HO.out HW1.out.below _ _ _ _ _ _ _ _ _ _ _ _ _ _ _ _ _ _ _ _ _ _ _ _ _ _ _ _ _ _ _ _ _ _ _ _ _ _ _ _ _ _ _ _ _ _ _ _ _ _ _ _ _ _ _ _ _ _ _ _ _ _ _ _ _ _ _ _ _ _ _ _ _ _
set_option maxRecDepth 100000 in
set_option maxHeartbeats 8000000 in
theorem rof_9 (ta tb tc : Int) (s : Sgn) (b : Bod) (w : World) (L : List Rea) (hL : [⟨s.id, 0, min s.level b.t1, false⟩] ++ dropL s = L) (hk : s.kind = 9) : Calls Tryz.prog 39 #[.agg #[.int .i64 ta, .int .i64 tb, .int .i64 tc], .agg (sgnC s), bodV b] w (OfP w L) := by
 have HL0 := Lib.hid hL; have HK := Lib.hid hk; clear hL hk
 obtain ⟨k0, k1, k2, kz, kb⟩ := blocks3 w (.cells #[.int .i64 ta, .int .i64 tb, .int .i64 tc] 23) (.cells (sgnC s) 72) (.cells (bodCells b) 35)
 have hw0 : OfW w ta tb tc s b (((w.alloc (.cells #[.int .i64 ta, .int .i64 tb, .int .i64 tc] 23)).alloc (.cells (sgnC s) 72)).alloc (.cells (bodCells b) 35)) := ⟨k0, k1, k2, kb⟩
 have hz : (((w.alloc (.cells #[.int .i64 ta, .int .i64 tb, .int .i64 tc] 23)).alloc (.cells (sgnC s) 72)).alloc (.cells (bodCells b) 35)).heap.size = w.heap.size + 3 := by simp
 have HW0 := Lib.hid hw0; have HZ := Lib.hid hz
 clear hw0 hz k0 k1 k2 kz kb
 unfold sgnC bodCells at HW0 HZ
 unfold sgnC bodV
 go_enter Tryz.func39, Tryz.ntmps39
 change Code.wp Tryz.prog (withLast 4 code39r rest39) _ _ _
 conv => arg 2; whnf
 go_wp2_with fail
 conv => arg 2; whnf
 generalize ((w.alloc (.cells #[.int .i64 ta, .int .i64 tb, .int .i64 tc] 23)).alloc (.cells #[.int .i64 s.id, .int .i64 s.role, .int .i64 s.bar, .int .i64 s.mark, .int .i64 s.kind, .int .i64 s.side, .int .i64 s.dir, .int .i64 s.level, .int .i64 s.size, .int .i64 s.wth, .int .i64 s.fn, .int .i64 s.fd, .int .i64 s.tn, .int .i64 s.td] 72)).alloc (.cells #[.string ⟨b.name.toArray⟩, .int .i64 b.weight, .int .i64 b.lift, .int .i64 b.girth, .int .i64 b.step, .int .i64 b.jump, .int .i64 b.r0, .int .i64 b.r1, .int .i64 b.r2, .int .i64 b.s0, .int .i64 b.s1, .int .i64 b.s2, .int .i64 b.t0, .int .i64 b.t1, .int .i64 b.t2, .int .i64 b.effort, .int .i64 b.recover] 35) = w0 at *
 have hz := HZ.out
 have ho := owns_base (owns_new w0 ⟨s.id, 0, 0, false⟩) (show w.heap.size ≤ w0.heap.size by omega)
 rw [hz] at ho
 have hnx := HW0.out.next ((Below.refl w0.heap.size w0).alloc (Nat.le_refl _) (.cells #[.int .i64 s.id, .int .i64 0, .int .i64 0, .bool false] 37))
 have HO := Lib.hid ho; have HW1 := Lib.hid hnx
 clear hnx ho
 have a0 : w0.cell? ⟨w.heap.size + 1, 0, none⟩ = some (.int .i64 s.id) := cell_at HW0.out.sgn 0 rfl
 go_wp2_with fail
 clear a0
 conv => arg 2; whnf
 generalize w0.alloc (.cells #[.int .i64 s.id, .int .i64 0, .int .i64 0, .bool false] 37) = w1 at *
 clear hz
 go_wp2_with fail
 conv => arg 2; whnf
 have s0 : w1.cell? ⟨w.heap.size + 1, 0, none⟩ = some (.int .i64 s.id) := cell_at HW1.out.sgn 0 rfl
 have s4 : w1.cell? ⟨w.heap.size + 1, 4, none⟩ = some (.int .i64 s.kind) := cell_at HW1.out.sgn 4 rfl
 have s7 : w1.cell? ⟨w.heap.size + 1, 7, none⟩ = some (.int .i64 s.level) := cell_at HW1.out.sgn 7 rfl
 have s8 : w1.cell? ⟨w.heap.size + 1, 8, none⟩ = some (.int .i64 s.size) := cell_at HW1.out.sgn 8 rfl
 have b4 : w1.cell? ⟨w.heap.size + 1 + 1, 4, none⟩ = some (.int .i64 b.step) := cell_at HW1.out.bod 4 rfl
 have b5 : w1.cell? ⟨w.heap.size + 1 + 1, 5, none⟩ = some (.int .i64 b.jump) := cell_at HW1.out.bod 5 rfl
 have b12 : w1.cell? ⟨w.heap.size + 1 + 1, 12, none⟩ = some (.int .i64 b.t0) := cell_at HW1.out.bod 12 rfl
 have b13 : w1.cell? ⟨w.heap.size + 1 + 1, 13, none⟩ = some (.int .i64 b.t1) := cell_at HW1.out.bod 13 rfl
 have b14 : w1.cell? ⟨w.heap.size + 1 + 1, 14, none⟩ = some (.int .i64 b.t2) := cell_at HW1.out.bod 14 rfl
 have u0 : w1.cell? ⟨w.heap.size, 0, none⟩ = some (.int .i64 ta) := cell_at HW1.out.trn 0 rfl
 have u1 : w1.cell? ⟨w.heap.size, 1, none⟩ = some (.int .i64 tb) := cell_at HW1.out.trn 1 rfl
 have u2 : w1.cell? ⟨w.heap.size, 2, none⟩ = some (.int .i64 tc) := cell_at HW1.out.trn 2 rfl
 rw [HK.out] at s4
 have ho2 := owns_base (owns_new w1 ⟨s.id, 0, min s.level b.t1, false⟩) (show w.heap.size ≤ w1.heap.size from HW1.out.below.size)
 have hw2 := HW1.out.next ((Below.refl w1.heap.size w1).alloc (Nat.le_refl _) (.cells #[.int .i64 s.id, .int .i64 0, .int .i64 (min s.level b.t1), .bool false] 37))
 have HO2 := Lib.hid ho2; have HW2 := Lib.hid hw2
 clear ho2 hw2
 by_cases q : s.level ≤ b.t1
 ·have hm : min s.level b.t1 = s.level := by omega
  rw [hm] at HO2 HW2 HL0
  have HL := HL0
  go_wp2_with fail
  exact of_mark s [⟨s.id, 0, s.level, false⟩] L HL.out (by simp) w _ (w.heap.size + 1) _ HW2.out.sgn HO2.out HW2.out.below _ _ _ _ _ _ _ _ _ _ _ _ _ _ _ _ _ _ _ _ _ _ _ _ _ _ _ _ _ _ _ _ _ _ _ _ _ _ _ _ _ _ _ _ _ _ _ _ _ _ _ _ _ _ _ _ _ _ _ _ _ _ _ _ _ _ _ _ _ _ _ _ _ _
 ·have hm : min s.level b.t1 = b.t1 := by omega
  rw [hm] at HO2 HW2 HL0
  have HL := HL0
  go_wp2_with fail
  exact of_mark s [⟨s.id, 0, b.t1, false⟩] L HL.out (by simp) w _ (w.heap.size + 1) _ HW2.out.sgn HO2.out HW2.out.below _ _ _ _ _ _ _ _ _ _ _ _ _ _ _ _ _ _ _ _ _ _ _ _ _ _ _ _ _ _ _ _ _ _ _ _ _ _ _ _ _ _ _ _ _ _ _ _ _ _ _ _ _ _ _ _ _ _ _ _ _ _ _ _ _ _ _ _ _ _ _ _ _ _
set_option maxRecDepth 100000 in
set_option maxHeartbeats 8000000 in
theorem rof_3 (ta tb tc : Int) (s : Sgn) (b : Bod) (w : World) (L : List Rea) (hta : 0 ≤ ta ∧ ta ≤ 32768) (htc : 0 ≤ tc ∧ tc ≤ 32768) (hd : 0 ≤ s.dir ∧ s.dir ≤ 8) (hl : 1 ≤ s.level ∧ s.level ≤ 3) (ht : 1 ≤ b.t0 ∧ b.t0 ≤ 3) (hL : optS ta tc s b.t0.toNat ++ dropL s = L) (hk : s.kind = 3) : Calls Tryz.prog 39 #[.agg #[.int .i64 ta, .int .i64 tb, .int .i64 tc], .agg (sgnC s), bodV b] w (OfP w L) := by
 have HL := Lib.hid hL; have HK := Lib.hid hk; clear hL hk
 have hlm := fun W => rlimbs_any ta tb tc s b.t0.toNat hta htc hd hl (by omega) W
 rw [show ((b.t0.toNat : Nat) : Int) = b.t0 by omega] at hlm
 have hln := optS_len (ta := ta) (tc := tc) (s := s) (top := b.t0.toNat) (by omega)
 unfold sgnC at hlm
 have HLM := Lib.hid hlm; have HLN := Lib.hid hln
 clear hlm hln hta htc hd hl ht
 obtain ⟨k0, k1, k2, kz, kb⟩ := blocks3 w (.cells #[.int .i64 ta, .int .i64 tb, .int .i64 tc] 23) (.cells (sgnC s) 72) (.cells (bodCells b) 35)
 have hw0 : OfW w ta tb tc s b (((w.alloc (.cells #[.int .i64 ta, .int .i64 tb, .int .i64 tc] 23)).alloc (.cells (sgnC s) 72)).alloc (.cells (bodCells b) 35)) := ⟨k0, k1, k2, kb⟩
 have hz : (((w.alloc (.cells #[.int .i64 ta, .int .i64 tb, .int .i64 tc] 23)).alloc (.cells (sgnC s) 72)).alloc (.cells (bodCells b) 35)).heap.size = w.heap.size + 3 := by simp
 have HW0 := Lib.hid hw0; have HZ := Lib.hid hz
 clear hw0 hz k0 k1 k2 kz kb
 unfold sgnC bodCells at HW0 HZ
 unfold sgnC bodV
 go_enter Tryz.func39, Tryz.ntmps39
 change Code.wp Tryz.prog (withLast 4 code39r rest39) _ _ _
 conv => arg 2; whnf
 go_wp2_with fail
 conv => arg 2; whnf
 generalize ((w.alloc (.cells #[.int .i64 ta, .int .i64 tb, .int .i64 tc] 23)).alloc (.cells #[.int .i64 s.id, .int .i64 s.role, .int .i64 s.bar, .int .i64 s.mark, .int .i64 s.kind, .int .i64 s.side, .int .i64 s.dir, .int .i64 s.level, .int .i64 s.size, .int .i64 s.wth, .int .i64 s.fn, .int .i64 s.fd, .int .i64 s.tn, .int .i64 s.td] 72)).alloc (.cells #[.string ⟨b.name.toArray⟩, .int .i64 b.weight, .int .i64 b.lift, .int .i64 b.girth, .int .i64 b.step, .int .i64 b.jump, .int .i64 b.r0, .int .i64 b.r1, .int .i64 b.r2, .int .i64 b.s0, .int .i64 b.s1, .int .i64 b.s2, .int .i64 b.t0, .int .i64 b.t1, .int .i64 b.t2, .int .i64 b.effort, .int .i64 b.recover] 35) = w0 at *
 have hz := HZ.out
 have ho := owns_base (owns_new w0 ⟨s.id, 0, 0, false⟩) (show w.heap.size ≤ w0.heap.size by omega)
 rw [hz] at ho
 have hnx := HW0.out.next ((Below.refl w0.heap.size w0).alloc (Nat.le_refl _) (.cells #[.int .i64 s.id, .int .i64 0, .int .i64 0, .bool false] 37))
 have HO := Lib.hid ho; have HW1 := Lib.hid hnx
 clear hnx ho
 have a0 : w0.cell? ⟨w.heap.size + 1, 0, none⟩ = some (.int .i64 s.id) := cell_at HW0.out.sgn 0 rfl
 go_wp2_with fail
 clear a0
 conv => arg 2; whnf
 generalize w0.alloc (.cells #[.int .i64 s.id, .int .i64 0, .int .i64 0, .bool false] 37) = w1 at *
 clear hz
 go_wp2_with fail
 conv => arg 2; whnf
 have s0 : w1.cell? ⟨w.heap.size + 1, 0, none⟩ = some (.int .i64 s.id) := cell_at HW1.out.sgn 0 rfl
 have s4 : w1.cell? ⟨w.heap.size + 1, 4, none⟩ = some (.int .i64 s.kind) := cell_at HW1.out.sgn 4 rfl
 have s7 : w1.cell? ⟨w.heap.size + 1, 7, none⟩ = some (.int .i64 s.level) := cell_at HW1.out.sgn 7 rfl
 have s8 : w1.cell? ⟨w.heap.size + 1, 8, none⟩ = some (.int .i64 s.size) := cell_at HW1.out.sgn 8 rfl
 have b4 : w1.cell? ⟨w.heap.size + 1 + 1, 4, none⟩ = some (.int .i64 b.step) := cell_at HW1.out.bod 4 rfl
 have b5 : w1.cell? ⟨w.heap.size + 1 + 1, 5, none⟩ = some (.int .i64 b.jump) := cell_at HW1.out.bod 5 rfl
 have b12 : w1.cell? ⟨w.heap.size + 1 + 1, 12, none⟩ = some (.int .i64 b.t0) := cell_at HW1.out.bod 12 rfl
 have b13 : w1.cell? ⟨w.heap.size + 1 + 1, 13, none⟩ = some (.int .i64 b.t1) := cell_at HW1.out.bod 13 rfl
 have b14 : w1.cell? ⟨w.heap.size + 1 + 1, 14, none⟩ = some (.int .i64 b.t2) := cell_at HW1.out.bod 14 rfl
 have u0 : w1.cell? ⟨w.heap.size, 0, none⟩ = some (.int .i64 ta) := cell_at HW1.out.trn 0 rfl
 have u1 : w1.cell? ⟨w.heap.size, 1, none⟩ = some (.int .i64 tb) := cell_at HW1.out.trn 1 rfl
 have u2 : w1.cell? ⟨w.heap.size, 2, none⟩ = some (.int .i64 tc) := cell_at HW1.out.trn 2 rfl
 rw [HK.out] at s4
 have HS := Lib.hid HW1.out.sgn
 unfold sgnC at HS
 go_wp2_with (refine wpList_load_row rfl 72 _ rfl (w.heap.size + 1) rfl 72 _ (0, 0) _ HS.out Tryz.underlying72 rfl (by kernel_rfl) ?_; simp only [Act.put, List.setIfInBounds_toArray, List.set_cons_zero, List.set_cons_succ])
 refine (HLM.out _).mono ?_
 rintro e w5 ⟨v, rfl, ho5, hb5⟩
 have HW5 := Lib.hid (HW1.out.next hb5)
 have HO5 := Lib.hid (owns_base ho5 HW1.out.below.size)
 clear ho5 hb5 s0 s4 s7 s8 b4 b5 b12 b13 b14 u0 u1 u2 HS
 go_wp2_with fail
 exact of_mark s _ L HL.out (by have := HLN.out; omega) w w5 (w.heap.size + 1) _ HW5.out.sgn HO5.out HW5.out.below _ _ _ _ _ _ _ _ _ _ _ _ _ _ _ _ _ _ _ _ _ _ _ _ _ _ _ _ _ _ _ _ _ _ _ _ _ _ _ _ _ _ _ _ _ _ _ _ _ _ _ _ _ _ _ _ _ _ _ _ _ _ _ _ _ _ _ _ _ _ _ _ _ _
set_option maxRecDepth 100000 in
set_option maxHeartbeats 8000000 in
theorem rof_4 (ta tb tc : Int) (s : Sgn) (b : Bod) (w : World) (L : List Rea) (hta : 0 ≤ ta ∧ ta ≤ 32768) (htc : 0 ≤ tc ∧ tc ≤ 32768) (hd : 0 ≤ s.dir ∧ s.dir ≤ 8) (hl : 1 ≤ s.level ∧ s.level ≤ 3) (ht : 1 ≤ b.t1 ∧ b.t1 ≤ 3) (hL : optS ta tc s b.t1.toNat ++ dropL s = L) (hk : s.kind = 4) : Calls Tryz.prog 39 #[.agg #[.int .i64 ta, .int .i64 tb, .int .i64 tc], .agg (sgnC s), bodV b] w (OfP w L) := by
 have HL := Lib.hid hL; have HK := Lib.hid hk; clear hL hk
 have hlm := fun W => rlimbs_any ta tb tc s b.t1.toNat hta htc hd hl (by omega) W
 rw [show ((b.t1.toNat : Nat) : Int) = b.t1 by omega] at hlm
 have hln := optS_len (ta := ta) (tc := tc) (s := s) (top := b.t1.toNat) (by omega)
 unfold sgnC at hlm
 have HLM := Lib.hid hlm; have HLN := Lib.hid hln
 clear hlm hln hta htc hd hl ht
 obtain ⟨k0, k1, k2, kz, kb⟩ := blocks3 w (.cells #[.int .i64 ta, .int .i64 tb, .int .i64 tc] 23) (.cells (sgnC s) 72) (.cells (bodCells b) 35)
 have hw0 : OfW w ta tb tc s b (((w.alloc (.cells #[.int .i64 ta, .int .i64 tb, .int .i64 tc] 23)).alloc (.cells (sgnC s) 72)).alloc (.cells (bodCells b) 35)) := ⟨k0, k1, k2, kb⟩
 have hz : (((w.alloc (.cells #[.int .i64 ta, .int .i64 tb, .int .i64 tc] 23)).alloc (.cells (sgnC s) 72)).alloc (.cells (bodCells b) 35)).heap.size = w.heap.size + 3 := by simp
 have HW0 := Lib.hid hw0; have HZ := Lib.hid hz
 clear hw0 hz k0 k1 k2 kz kb
 unfold sgnC bodCells at HW0 HZ
 unfold sgnC bodV
 go_enter Tryz.func39, Tryz.ntmps39
 change Code.wp Tryz.prog (withLast 4 code39r rest39) _ _ _
 conv => arg 2; whnf
 go_wp2_with fail
 conv => arg 2; whnf
 generalize ((w.alloc (.cells #[.int .i64 ta, .int .i64 tb, .int .i64 tc] 23)).alloc (.cells #[.int .i64 s.id, .int .i64 s.role, .int .i64 s.bar, .int .i64 s.mark, .int .i64 s.kind, .int .i64 s.side, .int .i64 s.dir, .int .i64 s.level, .int .i64 s.size, .int .i64 s.wth, .int .i64 s.fn, .int .i64 s.fd, .int .i64 s.tn, .int .i64 s.td] 72)).alloc (.cells #[.string ⟨b.name.toArray⟩, .int .i64 b.weight, .int .i64 b.lift, .int .i64 b.girth, .int .i64 b.step, .int .i64 b.jump, .int .i64 b.r0, .int .i64 b.r1, .int .i64 b.r2, .int .i64 b.s0, .int .i64 b.s1, .int .i64 b.s2, .int .i64 b.t0, .int .i64 b.t1, .int .i64 b.t2, .int .i64 b.effort, .int .i64 b.recover] 35) = w0 at *
 have hz := HZ.out
 have ho := owns_base (owns_new w0 ⟨s.id, 0, 0, false⟩) (show w.heap.size ≤ w0.heap.size by omega)
 rw [hz] at ho
 have hnx := HW0.out.next ((Below.refl w0.heap.size w0).alloc (Nat.le_refl _) (.cells #[.int .i64 s.id, .int .i64 0, .int .i64 0, .bool false] 37))
 have HO := Lib.hid ho; have HW1 := Lib.hid hnx
 clear hnx ho
 have a0 : w0.cell? ⟨w.heap.size + 1, 0, none⟩ = some (.int .i64 s.id) := cell_at HW0.out.sgn 0 rfl
 go_wp2_with fail
 clear a0
 conv => arg 2; whnf
 generalize w0.alloc (.cells #[.int .i64 s.id, .int .i64 0, .int .i64 0, .bool false] 37) = w1 at *
 clear hz
 go_wp2_with fail
 conv => arg 2; whnf
 have s0 : w1.cell? ⟨w.heap.size + 1, 0, none⟩ = some (.int .i64 s.id) := cell_at HW1.out.sgn 0 rfl
 have s4 : w1.cell? ⟨w.heap.size + 1, 4, none⟩ = some (.int .i64 s.kind) := cell_at HW1.out.sgn 4 rfl
 have s7 : w1.cell? ⟨w.heap.size + 1, 7, none⟩ = some (.int .i64 s.level) := cell_at HW1.out.sgn 7 rfl
 have s8 : w1.cell? ⟨w.heap.size + 1, 8, none⟩ = some (.int .i64 s.size) := cell_at HW1.out.sgn 8 rfl
 have b4 : w1.cell? ⟨w.heap.size + 1 + 1, 4, none⟩ = some (.int .i64 b.step) := cell_at HW1.out.bod 4 rfl
 have b5 : w1.cell? ⟨w.heap.size + 1 + 1, 5, none⟩ = some (.int .i64 b.jump) := cell_at HW1.out.bod 5 rfl
 have b12 : w1.cell? ⟨w.heap.size + 1 + 1, 12, none⟩ = some (.int .i64 b.t0) := cell_at HW1.out.bod 12 rfl
 have b13 : w1.cell? ⟨w.heap.size + 1 + 1, 13, none⟩ = some (.int .i64 b.t1) := cell_at HW1.out.bod 13 rfl
 have b14 : w1.cell? ⟨w.heap.size + 1 + 1, 14, none⟩ = some (.int .i64 b.t2) := cell_at HW1.out.bod 14 rfl
 have u0 : w1.cell? ⟨w.heap.size, 0, none⟩ = some (.int .i64 ta) := cell_at HW1.out.trn 0 rfl
 have u1 : w1.cell? ⟨w.heap.size, 1, none⟩ = some (.int .i64 tb) := cell_at HW1.out.trn 1 rfl
 have u2 : w1.cell? ⟨w.heap.size, 2, none⟩ = some (.int .i64 tc) := cell_at HW1.out.trn 2 rfl
 rw [HK.out] at s4
 have HS := Lib.hid HW1.out.sgn
 unfold sgnC at HS
 go_wp2_with (refine wpList_load_row rfl 72 _ rfl (w.heap.size + 1) rfl 72 _ (0, 0) _ HS.out Tryz.underlying72 rfl (by kernel_rfl) ?_; simp only [Act.put, List.setIfInBounds_toArray, List.set_cons_zero, List.set_cons_succ])
 refine (HLM.out _).mono ?_
 rintro e w5 ⟨v, rfl, ho5, hb5⟩
 have HW5 := Lib.hid (HW1.out.next hb5)
 have HO5 := Lib.hid (owns_base ho5 HW1.out.below.size)
 clear ho5 hb5 s0 s4 s7 s8 b4 b5 b12 b13 b14 u0 u1 u2 HS
 go_wp2_with fail
 exact of_mark s _ L HL.out (by have := HLN.out; omega) w w5 (w.heap.size + 1) _ HW5.out.sgn HO5.out HW5.out.below _ _ _ _ _ _ _ _ _ _ _ _ _ _ _ _ _ _ _ _ _ _ _ _ _ _ _ _ _ _ _ _ _ _ _ _ _ _ _ _ _ _ _ _ _ _ _ _ _ _ _ _ _ _ _ _ _ _ _ _ _ _ _ _ _ _ _ _ _ _ _ _ _ _
set_option maxRecDepth 100000 in
set_option maxHeartbeats 8000000 in
theorem rof_5 (ta tb tc : Int) (s : Sgn) (b : Bod) (w : World) (L : List Rea) (hta : 0 ≤ ta ∧ ta ≤ 32768) (htc : 0 ≤ tc ∧ tc ≤ 32768) (hd : 0 ≤ s.dir ∧ s.dir ≤ 8) (hl : 1 ≤ s.level ∧ s.level ≤ 3) (ht : 1 ≤ b.t2 ∧ b.t2 ≤ 3) (hL : optS ta tc s b.t2.toNat ++ dropL s = L) (hk : s.kind = 5) : Calls Tryz.prog 39 #[.agg #[.int .i64 ta, .int .i64 tb, .int .i64 tc], .agg (sgnC s), bodV b] w (OfP w L) := by
 have HL := Lib.hid hL; have HK := Lib.hid hk; clear hL hk
 have hlm := fun W => rlimbs_any ta tb tc s b.t2.toNat hta htc hd hl (by omega) W
 rw [show ((b.t2.toNat : Nat) : Int) = b.t2 by omega] at hlm
 have hln := optS_len (ta := ta) (tc := tc) (s := s) (top := b.t2.toNat) (by omega)
 unfold sgnC at hlm
 have HLM := Lib.hid hlm; have HLN := Lib.hid hln
 clear hlm hln hta htc hd hl ht
 obtain ⟨k0, k1, k2, kz, kb⟩ := blocks3 w (.cells #[.int .i64 ta, .int .i64 tb, .int .i64 tc] 23) (.cells (sgnC s) 72) (.cells (bodCells b) 35)
 have hw0 : OfW w ta tb tc s b (((w.alloc (.cells #[.int .i64 ta, .int .i64 tb, .int .i64 tc] 23)).alloc (.cells (sgnC s) 72)).alloc (.cells (bodCells b) 35)) := ⟨k0, k1, k2, kb⟩
 have hz : (((w.alloc (.cells #[.int .i64 ta, .int .i64 tb, .int .i64 tc] 23)).alloc (.cells (sgnC s) 72)).alloc (.cells (bodCells b) 35)).heap.size = w.heap.size + 3 := by simp
 have HW0 := Lib.hid hw0; have HZ := Lib.hid hz
 clear hw0 hz k0 k1 k2 kz kb
 unfold sgnC bodCells at HW0 HZ
 unfold sgnC bodV
 go_enter Tryz.func39, Tryz.ntmps39
 change Code.wp Tryz.prog (withLast 4 code39r rest39) _ _ _
 conv => arg 2; whnf
 go_wp2_with fail
 conv => arg 2; whnf
 generalize ((w.alloc (.cells #[.int .i64 ta, .int .i64 tb, .int .i64 tc] 23)).alloc (.cells #[.int .i64 s.id, .int .i64 s.role, .int .i64 s.bar, .int .i64 s.mark, .int .i64 s.kind, .int .i64 s.side, .int .i64 s.dir, .int .i64 s.level, .int .i64 s.size, .int .i64 s.wth, .int .i64 s.fn, .int .i64 s.fd, .int .i64 s.tn, .int .i64 s.td] 72)).alloc (.cells #[.string ⟨b.name.toArray⟩, .int .i64 b.weight, .int .i64 b.lift, .int .i64 b.girth, .int .i64 b.step, .int .i64 b.jump, .int .i64 b.r0, .int .i64 b.r1, .int .i64 b.r2, .int .i64 b.s0, .int .i64 b.s1, .int .i64 b.s2, .int .i64 b.t0, .int .i64 b.t1, .int .i64 b.t2, .int .i64 b.effort, .int .i64 b.recover] 35) = w0 at *
 have hz := HZ.out
 have ho := owns_base (owns_new w0 ⟨s.id, 0, 0, false⟩) (show w.heap.size ≤ w0.heap.size by omega)
 rw [hz] at ho
 have hnx := HW0.out.next ((Below.refl w0.heap.size w0).alloc (Nat.le_refl _) (.cells #[.int .i64 s.id, .int .i64 0, .int .i64 0, .bool false] 37))
 have HO := Lib.hid ho; have HW1 := Lib.hid hnx
 clear hnx ho
 have a0 : w0.cell? ⟨w.heap.size + 1, 0, none⟩ = some (.int .i64 s.id) := cell_at HW0.out.sgn 0 rfl
 go_wp2_with fail
 clear a0
 conv => arg 2; whnf
 generalize w0.alloc (.cells #[.int .i64 s.id, .int .i64 0, .int .i64 0, .bool false] 37) = w1 at *
 clear hz
 go_wp2_with fail
 conv => arg 2; whnf
 have s0 : w1.cell? ⟨w.heap.size + 1, 0, none⟩ = some (.int .i64 s.id) := cell_at HW1.out.sgn 0 rfl
 have s4 : w1.cell? ⟨w.heap.size + 1, 4, none⟩ = some (.int .i64 s.kind) := cell_at HW1.out.sgn 4 rfl
 have s7 : w1.cell? ⟨w.heap.size + 1, 7, none⟩ = some (.int .i64 s.level) := cell_at HW1.out.sgn 7 rfl
 have s8 : w1.cell? ⟨w.heap.size + 1, 8, none⟩ = some (.int .i64 s.size) := cell_at HW1.out.sgn 8 rfl
 have b4 : w1.cell? ⟨w.heap.size + 1 + 1, 4, none⟩ = some (.int .i64 b.step) := cell_at HW1.out.bod 4 rfl
 have b5 : w1.cell? ⟨w.heap.size + 1 + 1, 5, none⟩ = some (.int .i64 b.jump) := cell_at HW1.out.bod 5 rfl
 have b12 : w1.cell? ⟨w.heap.size + 1 + 1, 12, none⟩ = some (.int .i64 b.t0) := cell_at HW1.out.bod 12 rfl
 have b13 : w1.cell? ⟨w.heap.size + 1 + 1, 13, none⟩ = some (.int .i64 b.t1) := cell_at HW1.out.bod 13 rfl
 have b14 : w1.cell? ⟨w.heap.size + 1 + 1, 14, none⟩ = some (.int .i64 b.t2) := cell_at HW1.out.bod 14 rfl
 have u0 : w1.cell? ⟨w.heap.size, 0, none⟩ = some (.int .i64 ta) := cell_at HW1.out.trn 0 rfl
 have u1 : w1.cell? ⟨w.heap.size, 1, none⟩ = some (.int .i64 tb) := cell_at HW1.out.trn 1 rfl
 have u2 : w1.cell? ⟨w.heap.size, 2, none⟩ = some (.int .i64 tc) := cell_at HW1.out.trn 2 rfl
 rw [HK.out] at s4
 have HS := Lib.hid HW1.out.sgn
 unfold sgnC at HS
 go_wp2_with (refine wpList_load_row rfl 72 _ rfl (w.heap.size + 1) rfl 72 _ (0, 0) _ HS.out Tryz.underlying72 rfl (by kernel_rfl) ?_; simp only [Act.put, List.setIfInBounds_toArray, List.set_cons_zero, List.set_cons_succ])
 refine (HLM.out _).mono ?_
 rintro e w5 ⟨v, rfl, ho5, hb5⟩
 have HW5 := Lib.hid (HW1.out.next hb5)
 have HO5 := Lib.hid (owns_base ho5 HW1.out.below.size)
 clear ho5 hb5 s0 s4 s7 s8 b4 b5 b12 b13 b14 u0 u1 u2 HS
 go_wp2_with fail
 exact of_mark s _ L HL.out (by have := HLN.out; omega) w w5 (w.heap.size + 1) _ HW5.out.sgn HO5.out HW5.out.below _ _ _ _ _ _ _ _ _ _ _ _ _ _ _ _ _ _ _ _ _ _ _ _ _ _ _ _ _ _ _ _ _ _ _ _ _ _ _ _ _ _ _ _ _ _ _ _ _ _ _ _ _ _ _ _ _ _ _ _ _ _ _ _ _ _ _ _ _ _ _ _ _ _
set_option maxRecDepth 100000 in
set_option maxHeartbeats 8000000 in
theorem rof_no (ta tb tc : Int) (s : Sgn) (b : Bod) (w : World) (L : List Rea) (hk : ¬ s.kind = 1 ∧ ¬ s.kind = 2 ∧ ¬ s.kind = 3 ∧ ¬ s.kind = 4 ∧ ¬ s.kind = 5 ∧ ¬ s.kind = 9) (hL : [⟨s.id, 0, 0, false⟩] ++ dropL s = L) : Calls Tryz.prog 39 #[.agg #[.int .i64 ta, .int .i64 tb, .int .i64 tc], .agg (sgnC s), bodV b] w (OfP w L) := by
 have HL := Lib.hid hL; clear hL
 have f1 : (s.kind == 1) = false := by simp; omega
 have f2 : (s.kind == 2) = false := by simp; omega
 have f3 : (s.kind == 3) = false := by simp; omega
 have f4 : (s.kind == 4) = false := by simp; omega
 have f5 : (s.kind == 5) = false := by simp; omega
 have f9 : (s.kind == 9) = false := by simp; omega
 clear hk
 obtain ⟨k0, k1, k2, kz, kb⟩ := blocks3 w (.cells #[.int .i64 ta, .int .i64 tb, .int .i64 tc] 23) (.cells (sgnC s) 72) (.cells (bodCells b) 35)
 have hw0 : OfW w ta tb tc s b (((w.alloc (.cells #[.int .i64 ta, .int .i64 tb, .int .i64 tc] 23)).alloc (.cells (sgnC s) 72)).alloc (.cells (bodCells b) 35)) := ⟨k0, k1, k2, kb⟩
 have hz : (((w.alloc (.cells #[.int .i64 ta, .int .i64 tb, .int .i64 tc] 23)).alloc (.cells (sgnC s) 72)).alloc (.cells (bodCells b) 35)).heap.size = w.heap.size + 3 := by simp
 have HW0 := Lib.hid hw0; have HZ := Lib.hid hz
 clear hw0 hz k0 k1 k2 kz kb
 unfold sgnC bodCells at HW0 HZ
 unfold sgnC bodV
 go_enter Tryz.func39, Tryz.ntmps39
 change Code.wp Tryz.prog (withLast 4 code39r rest39) _ _ _
 conv => arg 2; whnf
 go_wp2_with fail
 conv => arg 2; whnf
 generalize ((w.alloc (.cells #[.int .i64 ta, .int .i64 tb, .int .i64 tc] 23)).alloc (.cells #[.int .i64 s.id, .int .i64 s.role, .int .i64 s.bar, .int .i64 s.mark, .int .i64 s.kind, .int .i64 s.side, .int .i64 s.dir, .int .i64 s.level, .int .i64 s.size, .int .i64 s.wth, .int .i64 s.fn, .int .i64 s.fd, .int .i64 s.tn, .int .i64 s.td] 72)).alloc (.cells #[.string ⟨b.name.toArray⟩, .int .i64 b.weight, .int .i64 b.lift, .int .i64 b.girth, .int .i64 b.step, .int .i64 b.jump, .int .i64 b.r0, .int .i64 b.r1, .int .i64 b.r2, .int .i64 b.s0, .int .i64 b.s1, .int .i64 b.s2, .int .i64 b.t0, .int .i64 b.t1, .int .i64 b.t2, .int .i64 b.effort, .int .i64 b.recover] 35) = w0 at *
 have hz := HZ.out
 have ho := owns_base (owns_new w0 ⟨s.id, 0, 0, false⟩) (show w.heap.size ≤ w0.heap.size by omega)
 rw [hz] at ho
 have hnx := HW0.out.next ((Below.refl w0.heap.size w0).alloc (Nat.le_refl _) (.cells #[.int .i64 s.id, .int .i64 0, .int .i64 0, .bool false] 37))
 have HO := Lib.hid ho; have HW1 := Lib.hid hnx
 clear hnx ho
 have a0 : w0.cell? ⟨w.heap.size + 1, 0, none⟩ = some (.int .i64 s.id) := cell_at HW0.out.sgn 0 rfl
 go_wp2_with fail
 clear a0
 conv => arg 2; whnf
 generalize w0.alloc (.cells #[.int .i64 s.id, .int .i64 0, .int .i64 0, .bool false] 37) = w1 at *
 clear hz
 go_wp2_with fail
 conv => arg 2; whnf
 have s0 : w1.cell? ⟨w.heap.size + 1, 0, none⟩ = some (.int .i64 s.id) := cell_at HW1.out.sgn 0 rfl
 have s4 : w1.cell? ⟨w.heap.size + 1, 4, none⟩ = some (.int .i64 s.kind) := cell_at HW1.out.sgn 4 rfl
 have s7 : w1.cell? ⟨w.heap.size + 1, 7, none⟩ = some (.int .i64 s.level) := cell_at HW1.out.sgn 7 rfl
 have s8 : w1.cell? ⟨w.heap.size + 1, 8, none⟩ = some (.int .i64 s.size) := cell_at HW1.out.sgn 8 rfl
 have b4 : w1.cell? ⟨w.heap.size + 1 + 1, 4, none⟩ = some (.int .i64 b.step) := cell_at HW1.out.bod 4 rfl
 have b5 : w1.cell? ⟨w.heap.size + 1 + 1, 5, none⟩ = some (.int .i64 b.jump) := cell_at HW1.out.bod 5 rfl
 have b12 : w1.cell? ⟨w.heap.size + 1 + 1, 12, none⟩ = some (.int .i64 b.t0) := cell_at HW1.out.bod 12 rfl
 have b13 : w1.cell? ⟨w.heap.size + 1 + 1, 13, none⟩ = some (.int .i64 b.t1) := cell_at HW1.out.bod 13 rfl
 have b14 : w1.cell? ⟨w.heap.size + 1 + 1, 14, none⟩ = some (.int .i64 b.t2) := cell_at HW1.out.bod 14 rfl
 have u0 : w1.cell? ⟨w.heap.size, 0, none⟩ = some (.int .i64 ta) := cell_at HW1.out.trn 0 rfl
 have u1 : w1.cell? ⟨w.heap.size, 1, none⟩ = some (.int .i64 tb) := cell_at HW1.out.trn 1 rfl
 have u2 : w1.cell? ⟨w.heap.size, 2, none⟩ = some (.int .i64 tc) := cell_at HW1.out.trn 2 rfl
 go_wp2_with fail
 exact of_mark s [⟨s.id, 0, 0, false⟩] L HL.out (by simp) w w1 (w.heap.size + 1) _ HW1.out.sgn HO.out HW1.out.below _ _ _ _ _ _ _ _ _ _ _ _ _ _ _ _ _ _ _ _ _ _ _ _ _ _ _ _ _ _ _ _ _ _ _ _ _ _ _ _ _ _ _ _ _ _ _ _ _ _ _ _ _ _ _ _ _ _ _ _ _ _ _ _ _ _ _ _ _ _ _ _ _ _
theorem rof_any {k : Wrk} {s : Sgn} {b : Bod} (hw : wrkE k = 0) (hs : s ∈ k.signs) (hb : bodB b = true) (w : World) : Calls Tryz.prog 39 #[.agg #[.int .i64 k.ta, .int .i64 k.tb, .int .i64 k.tc], .agg (sgnC s), bodV b] w (OfP w (optL k s b)) := by
 obtain ⟨t1, t2, t3, t4, _⟩ := wrk_turn hw
 have hr := wrk_right hw hs
 have p0 := bod_top hb (i := 0) (by omega); have p1 := bod_top hb (i := 1) (by omega); have p2 := bod_top hb (i := 2) (by omega)
 simp only [topOf] at p0 p1 p2
 unfold optL doL
 by_cases h1 : s.kind = 1
 ·rw [if_pos h1]; exact rof_1 _ _ _ s b w _ rfl h1
 rw [if_neg h1]
 by_cases h2 : s.kind = 2
 ·rw [if_pos h2]; exact rof_2 _ _ _ s b w _ rfl h2
 rw [if_neg h2]
 by_cases h3 : s.kind = 3
 ·rw [if_pos h3]
  obtain ⟨q1, q2⟩ := right_limb hr (Or.inl h3)
  exact rof_3 _ _ _ s b w _ ⟨t1, t2⟩ ⟨by omega, t4⟩ q1 q2 p0 rfl h3
 rw [if_neg h3]
 by_cases h4 : s.kind = 4
 ·rw [if_pos h4]
  obtain ⟨q1, q2⟩ := right_limb hr (Or.inr (Or.inl h4))
  exact rof_4 _ _ _ s b w _ ⟨t1, t2⟩ ⟨by omega, t4⟩ q1 q2 p1 rfl h4
 rw [if_neg h4]
 by_cases h5 : s.kind = 5
 ·rw [if_pos h5]
  obtain ⟨q1, q2⟩ := right_limb hr (Or.inr (Or.inr h5))
  exact rof_5 _ _ _ s b w _ ⟨t1, t2⟩ ⟨by omega, t4⟩ q1 q2 p2 rfl h5
 rw [if_neg h5]
 by_cases h9 : s.kind = 9
 ·rw [if_pos h9]; exact rof_9 _ _ _ s b w _ rfl h9
 rw [if_neg h9]
 exact rof_no _ _ _ s b w _ ⟨h1, h2, h3, h4, h5, h9⟩ rfl
end Go.Proofs.YtggcbblikgankaaGreatDoor
end
section
set_option linter.unusedSimpArgs false
set_option linter.unusedVariables false
namespace Go.Proofs.YtggcbblikgankaaGreatDoor
open Go Go.RowKit Go.Deep
set_option maxRecDepth 100000 in
set_option maxHeartbeats 8000000 in
theorem recheck_any {k : Wrk} {ws : Array Value} {w : World} (hWk : WkAt k ws w) : Calls Tryz.prog 36 #[.agg ws] w fun e w' => e = .returned (.int .i64 (wrkE k)) ∧ Below w.heap.size w w' := by
 have hs32 := hWk.size
 obtain ⟨aR, aT, aP, aX, aS, cR, cT, cP, cX, cS, rfl, hR, hT, hP, hX, hS⟩ := hWk
 obtain ⟨r, hr⟩ : ∃ r, wrkE k = r := ⟨_, rfl⟩
 rw [hr]
 have hlim : 64 < k.roles.length ∨ 4096 < k.signs.length → r = 2 := fun h => by rw [← hr, wrk_lim h]
 have hclk : k.roles.length ≤ 64 → k.signs.length ≤ 4096 → ¬ clkE k.clock = 0 → r = clkE k.clock := fun h1 h2 h => by rw [← hr, ← wrk_clk h1 h2 h]
 have hbad : k.roles.length ≤ 64 → k.signs.length ≤ 4096 → clkE k.clock = 0 → wrkB k = false → r = 190 := fun h1 h2 h h3 => by rw [← hr, ← wrk_bad h1 h2 h h3]
 have hok : k.roles.length ≤ 64 → k.signs.length ≤ 4096 → clkE k.clock = 0 → wrkB k = true → r = 0 := fun h1 h2 h h3 => by rw [← hr, ← wrk_ok h1 h2 h h3]
 have hcb : clkE k.clock = 0 → 1 ≤ k.clock.bars ∧ k.clock.bars ≤ 4096 := clkE_zero
 have hck : ∀ W, Below w.heap.size w W → Calls Tryz.prog 72 #[.agg #[.int .i64 k.clock.bars, .slice aT k.clock.tempos.length cT, .slice aP k.clock.pauses.length cP, .slice aX k.clock.spans.length cX]] W fun e w' => e = .returned (.int .i64 (clkE k.clock)) ∧ Below W.heap.size W w' :=
  fun W hb => rcheck13_any _ _ _ _ _ _ _ _ _ _ _ _ _ W rfl rfl rfl (hT.below hb (Nat.le_refl _)) (hP.below hb (Nat.le_refl _)) (hX.below hb (Nat.le_refl _))
 have hrg : ∀ W, Below w.heap.size w W → 1 ≤ k.clock.bars → k.clock.bars ≤ 4096 → k.roles.length ≤ 64 → k.signs.length ≤ 4096 → Calls Tryz.prog 73 #[.agg #[.int .i64 k.width, .int .i64 k.depth, .int .i64 k.ta, .int .i64 k.tb, .int .i64 k.tc, .slice aR k.roles.length cR, .int .i64 k.clock.bars, .slice aT k.clock.tempos.length cT, .slice aP k.clock.pauses.length cP, .slice aX k.clock.spans.length cX, .slice aS k.signs.length cS]] W fun e w' => e = .returned (.bool (wrkB k)) ∧ Below W.heap.size W w' :=
  fun W hb h1 h2 h3 h4 => rright_any _ _ _ _ _ _ _ _ _ _ _ _ _ _ _ _ _ W h1 h2 rfl rfl h3 h4 (hR.below hb (Nat.le_refl _)) (hS.below hb (Nat.le_refl _))
 have HLIM := Lib.hid hlim; have HCLK := Lib.hid hclk; have HBAD := Lib.hid hbad; have HOK := Lib.hid hok; have HCB := Lib.hid hcb; have HCK := Lib.hid hck; have HRG := Lib.hid hrg; have HS32 := Lib.hid hs32
 clear hr hlim hclk hbad hok hcb hck hrg hR hT hP hX hS hs32
 generalize k.roles.length = nR at *
 generalize k.signs.length = nS at *
 generalize k.clock.tempos.length = nT at *
 generalize k.clock.pauses.length = nP at *
 generalize k.clock.spans.length = nX at *
 generalize hce : clkE k.clock = ce at *
 generalize hwb : wrkB k = wb at *
 clear hce hwb
 generalize k.clock.bars = bars at *
 generalize k.width = wd at *
 generalize k.depth = dp at *
 generalize k.ta = ta at *
 generalize k.tb = tb at *
 generalize k.tc = tc at *
 have hg := heap_alloc_new w (.cells #[.int .i64 wd, .int .i64 dp, .int .i64 ta, .int .i64 tb, .int .i64 tc, .slice aR nR cR, .int .i64 bars, .slice aT nT cT, .slice aP nP cP, .slice aX nX cX, .slice aS nS cS] 32)
 have hbw : Below w.heap.size w (w.alloc (.cells #[.int .i64 wd, .int .i64 dp, .int .i64 ta, .int .i64 tb, .int .i64 tc, .slice aR nR cR, .int .i64 bars, .slice aT nT cT, .slice aP nP cP, .slice aX nX cX, .slice aS nS cS] 32)) := (Below.refl _ w).alloc (Nat.le_refl _) _
 have hsz : w.heap.size < (w.alloc (.cells #[.int .i64 wd, .int .i64 dp, .int .i64 ta, .int .i64 tb, .int .i64 tc, .slice aR nR cR, .int .i64 bars, .slice aT nT cT, .slice aP nP cP, .slice aX nX cX, .slice aS nS cS] 32)).heap.size := by simp
 have HBW := Lib.hid hbw; have HG := Lib.hid hg
 clear hbw hg
 by_cases q1 : (64 : Int) < (nR : Int)
 ·obtain rfl : r = 2 := HLIM.out (Or.inl (by omega))
  clear HG
  go_enter Tryz.func36, Tryz.ntmps36
  go_wp2_with fail
  go_ret
  exact ⟨rfl, HBW.out⟩
 by_cases q2 : (4096 : Int) < (nS : Int)
 ·obtain rfl : r = 2 := HLIM.out (Or.inr (by omega))
  clear HG
  go_enter Tryz.func36, Tryz.ntmps36
  go_wp2_with fail
  go_ret
  exact ⟨rfl, HBW.out⟩
 go_enter Tryz.func36, Tryz.ntmps36
 go_wp2_with fail
 have HQ : Hid (nR ≤ 64 ∧ nS ≤ 4096) := Lib.hid (by omega)
 clear q1 q2
 generalize w.alloc (.cells #[.int .i64 wd, .int .i64 dp, .int .i64 ta, .int .i64 tb, .int .i64 tc, .slice aR nR cR, .int .i64 bars, .slice aT nT cT, .slice aP nP cP, .slice aX nX cX, .slice aS nS cS] 32) = w0 at *
 refine (HCK.out w0 HBW.out).mono ?_
 rintro e w1 ⟨rfl, hb1⟩
 have HB1 := Lib.hid (HBW.out.trans (hb1.mono HBW.out.size))
 have HG1 := Lib.hid ((hb1.block _ hsz).trans HG.out)
 clear hb1
 by_cases q3 : ce = 0
 ·have hz : (ce != 0) = false := by simp [q3]
  go_wp2_with (refine wpList_load_row rfl 32 _ rfl w.heap.size rfl 32 _ (0, 0) _ HG1.out Tryz.underlying32 rfl HS32.out ?_; simp only [Act.put, List.setIfInBounds_toArray, List.set_cons_zero, List.set_cons_succ])
  obtain ⟨b1, b2⟩ := HCB.out q3
  refine (HRG.out w1 HB1.out b1 b2 HQ.out.1 HQ.out.2).mono ?_
  rintro e w2 ⟨rfl, hb2⟩
  have HB2 := Lib.hid (HB1.out.trans (hb2.mono HB1.out.size))
  clear hb2
  cases wb with
  | false =>
   obtain rfl : r = 190 := HBAD.out HQ.out.1 HQ.out.2 q3 rfl
   go_wp2_with fail
   go_ret
   exact ⟨rfl, HB2.out⟩
  | true =>
   obtain rfl : r = 0 := HOK.out HQ.out.1 HQ.out.2 q3 rfl
   go_wp2_with fail
   go_ret
   exact ⟨rfl, HB2.out⟩
 ·have hz : (ce != 0) = true := by simpa using q3
  obtain rfl : r = ce := HCLK.out HQ.out.1 HQ.out.2 q3
  clear q3
  go_wp2_with fail
  go_ret
  exact ⟨rfl, HB1.out⟩
end Go.Proofs.YtggcbblikgankaaGreatDoor
end
section
set_option linter.unusedSimpArgs false
set_option linter.unusedVariables false
namespace Go.Proofs.YtggcbblikgankaaGreatDoor
open Go Go.RowKit Go.Deep Go.Sort
theorem find_idF {k : Wrk} (hk : wrkE k = 0) (n : Int) : (idF k.signs n = true ∧ findI k.signs n = (idP k.signs n : Int) ∧ k.signs[idP k.signs n]? = some k.signs[idP k.signs n]! ∧ (k.signs[idP k.signs n]!).id = n) ∨ (idF k.signs n = false ∧ findI k.signs n = -1) := by
 have hso := wrk_sorted hk
 cases hf : k.signs.findIdx? (fun s => decide (s.id = n)) with
 | none =>
  refine Or.inr ⟨?_, by unfold findI; rw [hf]⟩
  rw [List.findIdx?_eq_none_iff] at hf
  unfold idF
  cases h : k.signs[idP k.signs n]? with
  | none => rfl
  | some s =>
   have := hf s (List.mem_of_getElem? h)
   simpa using this
 | some i =>
  rw [List.findIdx?_eq_some_iff_getElem] at hf
  obtain ⟨hl, h1, _⟩ := hf
  have hi : k.signs[i]? = some k.signs[i] := List.getElem?_eq_getElem hl
  have hid : (k.signs[i]).id = n := by simpa using h1
  obtain ⟨g1, g2⟩ := idF_own hso (List.mem_of_getElem? hi)
  have g3 := idP_own hso hi
  rw [hid] at g1 g2 g3
  refine Or.inl ⟨g1, ?_, ?_, ?_⟩
  ·unfold findI
   have : k.signs.findIdx? (fun s => decide (s.id = n)) = some i := by
    rw [List.findIdx?_eq_some_iff_getElem]
    refine ⟨hl, h1, ?_⟩
    rename_i h2
    exact h2
   rw [this, g3]
  ·rw [g2, g3]; exact hi
  ·rw [g2]; exact hid
theorem sgn_row {k : Wrk} {aS : Option Addr} {cS : Nat} {w : World} (hS : IsRow encS 14 w (.slice aS k.signs.length cS) k.signs) {i : Nat} {s : Sgn} (h : k.signs[i]? = some s) : ∃ b o, aS = some ⟨b, o, none⟩ ∧ b < w.heap.size ∧ ∀ W, Below w.heap.size w W → W.cell? ⟨b, o + i * 14, none⟩ = some (.int .i64 s.id) ∧ W.cell? ⟨b, o + i * 14 + 1, none⟩ = some (.int .i64 s.role) ∧ W.cell? ⟨b, o + i * 14 + 2, none⟩ = some (.int .i64 s.bar) ∧ W.cell? ⟨b, o + i * 14 + 3, none⟩ = some (.int .i64 s.mark) ∧ W.cell? ⟨b, o + i * 14 + 4, none⟩ = some (.int .i64 s.kind) ∧ W.cell? ⟨b, o + i * 14 + 5, none⟩ = some (.int .i64 s.side) ∧ W.cell? ⟨b, o + i * 14 + 6, none⟩ = some (.int .i64 s.dir) ∧ W.cell? ⟨b, o + i * 14 + 7, none⟩ = some (.int .i64 s.level) ∧ W.cell? ⟨b, o + i * 14 + 8, none⟩ = some (.int .i64 s.size) ∧ W.cell? ⟨b, o + i * 14 + 9, none⟩ = some (.int .i64 s.wth) ∧ W.cell? ⟨b, o + i * 14 + 10, none⟩ = some (.int .i64 s.fn) ∧ W.cell? ⟨b, o + i * 14 + 11, none⟩ = some (.int .i64 s.fd) ∧ W.cell? ⟨b, o + i * 14 + 12, none⟩ = some (.int .i64 s.tn) ∧ W.cell? ⟨b, o + i * 14 + 13, none⟩ = some (.int .i64 s.td) := by
 obtain ⟨b, o, hao, hat, hlt⟩ := hS.block h
 exact ⟨b, o, hao, hlt, fun W hW => atS (hat.below hW hlt) h⟩
end Go.Proofs.YtggcbblikgankaaGreatDoor
end
section
set_option linter.unusedSimpArgs false
set_option linter.unusedVariables false
namespace Go.Proofs.YtggcbblikgankaaGreatDoor
open Go Go.RowKit Go.Deep Go.Sort
theorem form_ref {k : Wrk} {s : Sgn} {r : Rea} : formR s r = (formB s r && decide (r.sign = s.id)) := by
 unfold formR formB movB
 by_cases h0 : r.sign = s.id
 ·by_cases h3 : s.kind = 3
  ·cases r.drop <;> simp [h0, h3]
  by_cases h4 : s.kind = 4
  ·cases r.drop <;> simp [h0, h4]
  by_cases h5 : s.kind = 5
  ·cases r.drop <;> simp [h0, h5]
  by_cases h9 : s.kind = 9
  ·cases r.drop <;> simp [h0, h9]
  ·cases r.drop <;> simp [h0, h3, h4, h5, h9]
 ·simp [h0]
theorem price_ref {s : Sgn} {r : Rea} {roles bars : Int} (h : rightB s roles bars = true) : priceR s r = priceI s r := by
 have hm : 1 ≤ s.mark ∧ s.mark ≤ 3 := by
  unfold rightB at h
  simp only [Bool.and_eq_true, inB_iff] at h
  exact h.1.1.2
 unfold priceR priceI movB
 cases r.drop with
 | true =>
  by_cases m3 : s.mark = 3
  ·simp [m3]
  by_cases m2 : s.mark = 2
  ·simp [m2]
  ·have m1 : s.mark = 1 := by omega
   simp [m1]
 | false =>
  by_cases h3 : s.kind = 3 <;> by_cases h4 : s.kind = 4 <;> by_cases h5 : s.kind = 5 <;> by_cases h6 : r.dir = s.dir <;> by_cases h7 : r.level = s.level <;> simp [h3, h4, h5, h6, h7]
set_option maxRecDepth 100000 in
set_option maxHeartbeats 8000000 in
theorem roptions_any {k : Wrk} {ws : Array Value} {w : World} (hWk : WkAt k ws w) (n : Int) (b : Bod) (hbn : b.name.length ≤ maxLen) :
  Calls Tryz.prog 10 #[.agg ws, .int .i64 n, bodV b] w fun e w' => ∃ v, e = .returned (.tuple #[v, .int .i64 (optE k n b)]) ∧ w'.ownsRow w.heap.size 37 4 v (optR k n b).length ((optR k n b).flatMap encRea) ∧ Below w.heap.size w w' := by
 have hbc := fun W => rbcheck_any b hbn W
 have hno : ∀ x, optE k n b = x → x ≠ 0 → optR k n b = [] := fun x h1 h2 => by unfold optR; rw [if_neg (by rw [h1]; exact h2)]
 obtain ⟨E, hE⟩ : ∃ E, optE k n b = E := ⟨_, rfl⟩
 obtain ⟨L, hL⟩ : ∃ L, optR k n b = L := ⟨_, rfl⟩
 rw [hE, hL]
 have h1 : wrkE k ≠ 0 → E = wrkE k ∧ L = [] := fun h => by
  have : optE k n b = wrkE k := by unfold optE; rw [if_pos h]
  exact ⟨by rw [← hE, this], by rw [← hL, hno _ this h]⟩
 have h2 : wrkE k = 0 → bodB b = false → E = 250 ∧ L = [] := fun h hb => by
  have : optE k n b = 250 := by unfold optE; rw [if_neg (by simpa using h), hb]; rfl
  exact ⟨by rw [← hE, this], by rw [← hL, hno _ this (by decide)]⟩
 have h3 : wrkE k = 0 → bodB b = true → idF k.signs n = false → E = 300 ∧ L = [] := fun h hb hi => by
  have : optE k n b = 300 := by unfold optE; rw [if_neg (by simpa using h), hb, hi]; rfl
  exact ⟨by rw [← hE, this], by rw [← hL, hno _ this (by decide)]⟩
 have h4 : wrkE k = 0 → bodB b = true → idF k.signs n = true → E = 0 ∧ L = optL k (k.signs[idP k.signs n]!) b := fun h hb hi => by
  have : optE k n b = 0 := by unfold optE; rw [if_neg (by simpa using h), hb, hi]; rfl
  exact ⟨by rw [← hE, this], by rw [← hL]; unfold optR; rw [if_pos this]⟩
 have H1 := Lib.hid h1; have H2 := Lib.hid h2; have H3 := Lib.hid h3; have H4 := Lib.hid h4; have HBC := Lib.hid hbc
 clear hbc hno hE hL h1 h2 h3 h4
 have hck : ∀ W, Below w.heap.size w W → Calls Tryz.prog 36 #[.agg ws] W fun e w' => e = .returned (.int .i64 (wrkE k)) ∧ Below W.heap.size W w' := fun W hb => recheck_any (hWk.below hb (Nat.le_refl _))
 have hs32 := hWk.size
 obtain ⟨aR, aT, aP, aX, aS, cR, cT, cP, cX, cS, rfl, hR, hT, hP, hX, hS⟩ := hWk
 obtain ⟨k0, k1, kz, kb⟩ := blocks2 w (.cells #[.int .i64 k.width, .int .i64 k.depth, .int .i64 k.ta, .int .i64 k.tb, .int .i64 k.tc, .slice aR k.roles.length cR, .int .i64 k.clock.bars, .slice aT k.clock.tempos.length cT, .slice aP k.clock.pauses.length cP, .slice aX k.clock.spans.length cX, .slice aS k.signs.length cS] 32) (.cells (bodCells b) 35)
 have hz : ((w.alloc (.cells #[.int .i64 k.width, .int .i64 k.depth, .int .i64 k.ta, .int .i64 k.tb, .int .i64 k.tc, .slice aR k.roles.length cR, .int .i64 k.clock.bars, .slice aT k.clock.tempos.length cT, .slice aP k.clock.pauses.length cP, .slice aX k.clock.spans.length cX, .slice aS k.signs.length cS] 32)).alloc (.cells (bodCells b) 35)).heap.size = w.heap.size + 2 := by simp
 have HCK := Lib.hid hck; have HS32 := Lib.hid hs32; have HS := Lib.hid hS; have K0 := Lib.hid k0; have K1 := Lib.hid k1; have KB := Lib.hid kb; have HZ := Lib.hid hz
 clear hck hs32 hR hT hP hX hS k0 k1 kz kb hz
 unfold bodCells at K0 K1 KB HZ
 unfold bodV at HBC ⊢
 go_enter Tryz.func10, Tryz.ntmps10
 go_wp2_with (refine wpList_load_row rfl 32 _ rfl w.heap.size rfl 32 _ (0, 0) _ K0.out Tryz.underlying32 rfl HS32.out ?_; simp only [Act.put, List.setIfInBounds_toArray, List.set_cons_zero, List.set_cons_succ])
 generalize (w.alloc (.cells #[.int .i64 k.width, .int .i64 k.depth, .int .i64 k.ta, .int .i64 k.tb, .int .i64 k.tc, .slice aR k.roles.length cR, .int .i64 k.clock.bars, .slice aT k.clock.tempos.length cT, .slice aP k.clock.pauses.length cP, .slice aX k.clock.spans.length cX, .slice aS k.signs.length cS] 32)).alloc (.cells #[.string ⟨b.name.toArray⟩, .int .i64 b.weight, .int .i64 b.lift, .int .i64 b.girth, .int .i64 b.step, .int .i64 b.jump, .int .i64 b.r0, .int .i64 b.r1, .int .i64 b.r2, .int .i64 b.s0, .int .i64 b.s1, .int .i64 b.s2, .int .i64 b.t0, .int .i64 b.t1, .int .i64 b.t2, .int .i64 b.effort, .int .i64 b.recover] 35) = w0 at *
 refine (HCK.out w0 KB.out).mono ?_
 rintro e w1 ⟨rfl, hb⟩
 have L1 : Hid (w.heap.size + 2 ≤ w1.heap.size) := Lib.hid (by have := hb.size; have := HZ.out; omega)
 have A1 := Lib.hid ((hb.block w.heap.size (by have := HZ.out; omega)).trans K0.out)
 have C1 := Lib.hid ((hb.block (w.heap.size + 1) (by have := HZ.out; omega)).trans K1.out)
 have B1 := Lib.hid (KB.out.trans (hb.mono (by have := HZ.out; omega)))
 clear hb
 by_cases hk : wrkE k = 0
 case neg =>
  obtain ⟨e1, e2⟩ := H1.out hk
  have f1 : (wrkE k != 0) = true := by simpa using hk
  subst e1; subst e2
  clear hk
  go_wp2_with fail
  go_ret2
  exact ⟨_, rfl, World.ownsRow_nil _ _ _ _, B1.out⟩
 have HK := Lib.hid hk
 have f1 : (wrkE k != 0) = false := by simp [hk]
 clear hk
 go_wp2_with (refine wpList_load_row rfl 35 _ rfl (w.heap.size + 1) rfl 35 _ (0, 0) _ C1.out Tryz.underlying35 rfl (by kernel_rfl) ?_; simp only [Act.put, List.setIfInBounds_toArray, List.set_cons_zero, List.set_cons_succ])
 clear f1
 refine (HBC.out w1).mono ?_
 rintro e w2 ⟨rfl, hb⟩
 have L2 : Hid (w.heap.size + 2 ≤ w2.heap.size) := Lib.hid (by have := hb.size; have := L1.out; omega)
 have A2 := Lib.hid ((hb.block w.heap.size (by have := L1.out; omega)).trans A1.out)
 have C2 := Lib.hid ((hb.block (w.heap.size + 1) (by have := L1.out; omega)).trans C1.out)
 have B2 := Lib.hid (B1.out.trans (hb.mono (by have := L1.out; omega)))
 clear hb
 have c10 := cell_at A2.out 10 rfl
 cases hbb : bodB b with
 | false =>
  obtain ⟨rfl, rfl⟩ := H2.out HK.out hbb
  have f2 : (codeI false 250 != 0) = true := rfl
  clear hbb
  go_wp2_with fail
  go_ret2
  exact ⟨_, rfl, World.ownsRow_nil _ _ _ _, B2.out⟩
 | true =>
 have HBB := Lib.hid hbb
 have f2 : (codeI true 250 != 0) = false := rfl
 clear hbb
 have hfd := rfind_any k.signs n aS k.signs.length cS w2 rfl (HS.out.below B2.out (Nat.le_refl _))
 have HFD := Lib.hid hfd
 clear hfd
 rcases find_idF HK.out n with ⟨g1, g2, g3, g4⟩ | ⟨g1, g2⟩
 case inr =>
  obtain ⟨rfl, rfl⟩ := H3.out HK.out HBB.out g1
  rw [g2] at HFD
  clear g1 g2
  go_wp2_with fail
  refine HFD.out.mono ?_
  rintro e w3 ⟨rfl, rfl⟩
  go_wp2_with fail
  go_ret2
  exact ⟨_, rfl, World.ownsRow_nil _ _ _ _, B2.out⟩
 obtain ⟨rfl, hLe⟩ := H4.out HK.out HBB.out g1
 have HLE := Lib.hid hLe
 clear hLe
 have hof := fun W => rof_any HK.out (List.mem_of_getElem? g3) HBB.out W
 clear H1 H2 H3 H4
 have HOF := Lib.hid hof
 obtain ⟨bs, os, hao, hlt, hcells⟩ := sgn_row HS.out g3
 rw [g2] at HFD
 have hilt : idP k.signs n < k.signs.length := (List.getElem?_eq_some_iff.1 g3).1
 clear g1 g2 g3 g4 hof
 generalize k.signs[idP k.signs n]! = s at *
 subst hao
 generalize idP k.signs n = i at *
 have hmx : k.signs.length ≤ maxLen := by obtain ⟨_, _, _, h, _⟩ := HS.out; omega
 simp only [maxLen] at hmx
 have hil' : (i : Int) < (k.signs.length : Int) := by omega
 go_wp2_with fail
 refine HFD.out.mono ?_
 rintro e w3 ⟨rfl, rfl⟩
 clear c10
 obtain ⟨p0, p1, p2, p3, p4, p5, p6, p7, p8, p9, p10, p11, p12, p13⟩ := hcells w3 B2.out
 have c2 := cell_at A2.out 2 rfl
 have c3 := cell_at A2.out 3 rfl
 have c4 := cell_at A2.out 4 rfl
 have c10 := cell_at A2.out 10 rfl
 have q0 := cell_at C2.out 0 rfl
 have q1 := cell_at C2.out 1 rfl
 have q2 := cell_at C2.out 2 rfl
 have q3 := cell_at C2.out 3 rfl
 have q4 := cell_at C2.out 4 rfl
 have q5 := cell_at C2.out 5 rfl
 have q6 := cell_at C2.out 6 rfl
 have q7 := cell_at C2.out 7 rfl
 have q8 := cell_at C2.out 8 rfl
 have q9 := cell_at C2.out 9 rfl
 have q10 := cell_at C2.out 10 rfl
 have q11 := cell_at C2.out 11 rfl
 have q12 := cell_at C2.out 12 rfl
 have q13 := cell_at C2.out 13 rfl
 have q14 := cell_at C2.out 14 rfl
 have q15 := cell_at C2.out 15 rfl
 have q16 := cell_at C2.out 16 rfl
 clear hcells HFD
 go_wp2_with fail
 refine region_tail (fun w4 => w4 = w3.drew) 8 (by kernel_rfl) (by kernel_rfl) rfl ?_
 intro w4 hS4
 subst hS4
 simp only [List.take_succ_cons, List.take_zero, List.drop_succ_cons, List.drop_zero]
 repeat still_step
 refine wpStill_nil ?_
 clear p0 p1 p2 p3 p4 p5 p6 p7 p8 p9 p10 p11 p12 p13 q0 q1 q2 q3 q4 q5 q6 q7 q8 q9 q10 q11 q12 q13 q14 q15 q16 c2 c3 c4 c10
 unfold sgnC bodV at HOF
 go_wp2_with fail
 refine (HOF.out _).mono ?_
 rintro e w5 ⟨v, rfl, ho, hb⟩
 have HO := Lib.hid (owns_base ho (show w.heap.size ≤ w3.drew.heap.size from by have := L2.out; show w.heap.size ≤ w3.heap.size; omega))
 have B5 := Lib.hid (B2.out.drew.trans (hb.mono (show w.heap.size ≤ w3.drew.heap.size from by have := L2.out; show w.heap.size ≤ w3.heap.size; omega)))
 clear ho hb
 go_wp2_with fail
 go_ret2
 exact ⟨_, rfl, by rw [HLE.out]; exact HO.out, B5.out⟩
set_option maxRecDepth 100000 in
set_option maxHeartbeats 8000000 in
theorem rcost_any {k : Wrk} {ws : Array Value} {w : World} (hWk : WkAt k ws w) (n : Int) (r : Rea) :
  Calls Tryz.prog 12 #[.agg ws, .int .i64 n, reaV r] w (costR (costI k n r) (costE k n r) w) := by
 obtain ⟨E, hE⟩ : ∃ E, costE k n r = E := ⟨_, rfl⟩
 obtain ⟨C, hC⟩ : ∃ C, costI k n r = C := ⟨_, rfl⟩
 rw [hE, hC]
 have hno : ∀ x, costE k n r = x → x ≠ 0 → costI k n r = 0 := fun x h1 h2 => by unfold costI; rw [if_neg (by rw [h1]; exact h2)]
 have h1 : wrkE k ≠ 0 → E = wrkE k ∧ C = 0 := fun h => by
  have : costE k n r = wrkE k := by unfold costE; rw [if_pos h]
  exact ⟨by rw [← hE, this], by rw [← hC, hno _ this h]⟩
 have h2 : wrkE k = 0 → idF k.signs n = false → E = 300 ∧ C = 0 := fun h hi => by
  have : costE k n r = 300 := by unfold costE; rw [if_neg (by simpa using h), hi]; rfl
  exact ⟨by rw [← hE, this], by rw [← hC, hno _ this (by decide)]⟩
 have h3 : wrkE k = 0 → idF k.signs n = true → (k.signs[idP k.signs n]!).id = n → formR (k.signs[idP k.signs n]!) r = false → E = 1 ∧ C = 0 := fun h hi hn hf => by
  rw [form_ref (k := k), hn] at hf
  have : costE k n r = 1 := by unfold costE; rw [if_neg (by simpa using h), hi, hf]; rfl
  exact ⟨by rw [← hE, this], by rw [← hC, hno _ this (by decide)]⟩
 have h4 : wrkE k = 0 → idF k.signs n = true → (k.signs[idP k.signs n]!).id = n → (k.signs[idP k.signs n]!) ∈ k.signs → formR (k.signs[idP k.signs n]!) r = true → E = 0 ∧ C = priceR (k.signs[idP k.signs n]!) r := fun h hi hn hm hf => by
  rw [form_ref (k := k), hn] at hf
  have : costE k n r = 0 := by unfold costE; rw [if_neg (by simpa using h), hi, hf]; rfl
  exact ⟨by rw [← hE, this], by rw [← hC, price_ref (wrk_right h hm)]; unfold costI; rw [if_pos this]⟩
 have H1 := Lib.hid h1; have H2 := Lib.hid h2; have H3 := Lib.hid h3; have H4 := Lib.hid h4
 clear hno hE hC h1 h2 h3 h4
 have hck : ∀ W, Below w.heap.size w W → Calls Tryz.prog 36 #[.agg ws] W fun e w' => e = .returned (.int .i64 (wrkE k)) ∧ Below W.heap.size W w' := fun W hb => recheck_any (hWk.below hb (Nat.le_refl _))
 have hs32 := hWk.size
 obtain ⟨aR, aT, aP, aX, aS, cR, cT, cP, cX, cS, rfl, hR, hT, hP, hX, hS⟩ := hWk
 obtain ⟨k0, k1, kz, kb⟩ := blocks2 w (.cells #[.int .i64 k.width, .int .i64 k.depth, .int .i64 k.ta, .int .i64 k.tb, .int .i64 k.tc, .slice aR k.roles.length cR, .int .i64 k.clock.bars, .slice aT k.clock.tempos.length cT, .slice aP k.clock.pauses.length cP, .slice aX k.clock.spans.length cX, .slice aS k.signs.length cS] 32) (.cells #[.int .i64 r.sign, .int .i64 r.dir, .int .i64 r.level, .bool r.drop] 37)
 have hz : ((w.alloc (.cells #[.int .i64 k.width, .int .i64 k.depth, .int .i64 k.ta, .int .i64 k.tb, .int .i64 k.tc, .slice aR k.roles.length cR, .int .i64 k.clock.bars, .slice aT k.clock.tempos.length cT, .slice aP k.clock.pauses.length cP, .slice aX k.clock.spans.length cX, .slice aS k.signs.length cS] 32)).alloc (.cells #[.int .i64 r.sign, .int .i64 r.dir, .int .i64 r.level, .bool r.drop] 37)).heap.size = w.heap.size + 2 := by simp
 have HCK := Lib.hid hck; have HS32 := Lib.hid hs32; have HS := Lib.hid hS; have K0 := Lib.hid k0; have K1 := Lib.hid k1; have KB := Lib.hid kb; have HZ := Lib.hid hz
 clear hck hs32 hR hT hP hX hS k0 k1 kz kb hz
 unfold costR
 unfold reaV
 go_enter Tryz.func12, Tryz.ntmps12
 go_wp2_with (refine wpList_load_row rfl 32 _ rfl w.heap.size rfl 32 _ (0, 0) _ K0.out Tryz.underlying32 rfl HS32.out ?_; simp only [Act.put, List.setIfInBounds_toArray, List.set_cons_zero, List.set_cons_succ])
 generalize (w.alloc (.cells #[.int .i64 k.width, .int .i64 k.depth, .int .i64 k.ta, .int .i64 k.tb, .int .i64 k.tc, .slice aR k.roles.length cR, .int .i64 k.clock.bars, .slice aT k.clock.tempos.length cT, .slice aP k.clock.pauses.length cP, .slice aX k.clock.spans.length cX, .slice aS k.signs.length cS] 32)).alloc (.cells #[.int .i64 r.sign, .int .i64 r.dir, .int .i64 r.level, .bool r.drop] 37) = w0 at *
 refine (HCK.out w0 KB.out).mono ?_
 rintro e w1 ⟨rfl, hb⟩
 have L1 : Hid (w.heap.size + 2 ≤ w1.heap.size) := Lib.hid (by have := hb.size; have := HZ.out; omega)
 have A1 := Lib.hid ((hb.block w.heap.size (by have := HZ.out; omega)).trans K0.out)
 have C1 := Lib.hid ((hb.block (w.heap.size + 1) (by have := HZ.out; omega)).trans K1.out)
 have B1 := Lib.hid (KB.out.trans (hb.mono (by have := HZ.out; omega)))
 clear hb
 by_cases hk : wrkE k = 0
 case neg =>
  obtain ⟨e1, e2⟩ := H1.out hk
  have f1 : (wrkE k != 0) = true := by simpa using hk
  subst e1; subst e2
  clear hk
  go_wp2_with fail
  go_ret2
  exact ⟨rfl, B1.out⟩
 have HK := Lib.hid hk
 have f1 : (wrkE k != 0) = false := by simp [hk]
 clear hk
 have c10 := cell_at A1.out 10 rfl
 have hfd := rfind_any k.signs n aS k.signs.length cS w1 rfl (HS.out.below B1.out (Nat.le_refl _))
 have HFD := Lib.hid hfd
 clear hfd
 rcases find_idF HK.out n with ⟨g1, g2, g3, g4⟩ | ⟨g1, g2⟩
 case inr =>
  obtain ⟨rfl, rfl⟩ := H2.out HK.out g1
  rw [g2] at HFD
  clear g1 g2
  go_wp2_with fail
  refine HFD.out.mono ?_
  rintro e w3 ⟨rfl, rfl⟩
  go_wp2_with fail
  go_ret2
  exact ⟨rfl, B1.out⟩
 have HG3 := Lib.hid (H3.out HK.out g1 g4)
 have HG4 := Lib.hid (H4.out HK.out g1 g4 (List.mem_of_getElem? g3))
 obtain ⟨bs, os, hao, hlt, hcells⟩ := sgn_row HS.out g3
 rw [g2] at HFD
 have hilt : idP k.signs n < k.signs.length := (List.getElem?_eq_some_iff.1 g3).1
 clear g1 g2 g3 g4
 generalize k.signs[idP k.signs n]! = s at *
 have hfm := fun W => rform_any s r W
 have hpr := fun W => rprice_any s r W
 unfold sgnC reaV at hfm hpr
 have HFM := Lib.hid hfm; have HPR := Lib.hid hpr
 clear hfm hpr
 subst hao
 generalize idP k.signs n = i at *
 have hmx : k.signs.length ≤ maxLen := by obtain ⟨_, _, _, h, _⟩ := HS.out; omega
 simp only [maxLen] at hmx
 have hil' : (i : Int) < (k.signs.length : Int) := by omega
 go_wp2_with fail
 refine HFD.out.mono ?_
 rintro e w3 ⟨rfl, rfl⟩
 obtain ⟨p0, p1, p2, p3, p4, p5, p6, p7, p8, p9, p10, p11, p12, p13⟩ := hcells w3 B1.out
 have q0 := cell_at C1.out 0 rfl
 have q1 := cell_at C1.out 1 rfl
 have q2 := cell_at C1.out 2 rfl
 have q3 := cell_at C1.out 3 rfl
 clear HFD
 go_wp2_with fail
 refine region_tail (fun w4 => w4 = w3.drew) 6 (by kernel_rfl) (by kernel_rfl) rfl ?_
 intro w4 hS4
 subst hS4
 simp only [List.take_succ_cons, List.take_zero, List.drop_succ_cons, List.drop_zero]
 repeat still_step
 refine wpStill_nil ?_
 clear p0 p1 p2 p3 p4 p5 p6 p7 p8 p9 p10 p11 p12 p13 q0 q1 q2 q3 c10
 go_wp2_with fail
 refine (HFM.out _).mono ?_
 rintro e w5 ⟨rfl, hb⟩
 have L5 := Lib.hid (show w.heap.size + 2 ≤ w5.heap.size from by have := hb.size; have := L1.out; have h : w3.drew.heap.size = w3.heap.size := rfl; omega)
 have A5 := Lib.hid ((hb.block w.heap.size (show w.heap.size < w3.heap.size by have := L1.out; omega)).trans (show w3.drew.heap[w.heap.size]? = _ from A1.out))
 have C5 := Lib.hid ((hb.block (w.heap.size + 1) (show w.heap.size + 1 < w3.heap.size by have := L1.out; omega)).trans (show w3.drew.heap[w.heap.size + 1]? = _ from C1.out))
 have B5 := Lib.hid (B1.out.drew.trans (hb.mono (show w.heap.size ≤ w3.heap.size from by have := L1.out; omega)))
 clear hb
 cases hf : formR s r with
 | false =>
  obtain ⟨rfl, rfl⟩ := HG3.out hf
  clear hf
  go_wp2_with fail
  go_ret2
  exact ⟨rfl, B5.out⟩
 | true =>
 obtain ⟨rfl, rfl⟩ := HG4.out hf
 clear hf
 obtain ⟨p0, p1, p2, p3, p4, p5, p6, p7, p8, p9, p10, p11, p12, p13⟩ := hcells w5 B5.out
 have c10 := cell_at A5.out 10 rfl
 have q0 := cell_at C5.out 0 rfl
 have q1 := cell_at C5.out 1 rfl
 have q2 := cell_at C5.out 2 rfl
 have q3 := cell_at C5.out 3 rfl
 clear hcells
 go_wp2_with fail
 refine region_tail (fun w4 => w4 = w5.drew) 6 (by kernel_rfl) (by kernel_rfl) rfl ?_
 intro w4 hS4
 subst hS4
 simp only [List.take_succ_cons, List.take_zero, List.drop_succ_cons, List.drop_zero]
 repeat still_step
 refine wpStill_nil ?_
 clear p0 p1 p2 p3 p4 p5 p6 p7 p8 p9 p10 p11 p12 p13 q0 q1 q2 q3 c10
 go_wp2_with fail
 refine (HPR.out _).mono ?_
 rintro e w6 ⟨rfl, hb⟩
 have B6 := Lib.hid (B5.out.drew.trans (hb.mono (show w.heap.size ≤ w5.heap.size from by have := L5.out; omega)))
 clear hb
 go_wp2_with fail
 go_ret2
 exact ⟨rfl, B6.out⟩
end Go.Proofs.YtggcbblikgankaaGreatDoor
end
section
namespace Go.Proofs.YtggcbblikgankaaGreatDoor
open Go Go.RowKit
def dancerB : Bod := ⟨[100], 60, 40, 1, 3, 2, 4, 3, 2, 100, 100, 100, 2, 3, 3, 500, 100⟩
def insF (lt : Par → Par → Bool) (a b : Nat) : Nat → Nat → Array Par → Array Par
 | 0, _, d => d
 | f + 1, i, d => if i < b then insF lt a b f (i + 1) (Sort.insInner lt a i d) else d
theorem insF_eq (lt : Par → Par → Bool) (a b : Nat) : ∀ (f i : Nat) (d : Array Par), b ≤ i + f → Sort.insOuter lt a b i d = insF lt a b f i d
 | 0, i, d, h => by
  unfold insF Sort.insOuter; rw [if_neg (by omega)]
 | f + 1, i, d, h => by
  unfold insF Sort.insOuter
  split
  ·exact insF_eq lt a b f (i + 1) _ (by omega)
  ·rfl
theorem sortA_fuel (l : List Par) : sortA l = (insF (ltOf cfP) 0 l.length l.length 1 l.toArray).toList := by
 unfold sortA Sort.insertionSort
 rw [insF_eq _ _ _ l.length _ _ (by omega)]
theorem opt1 : optE (smallW 1 0 1) 3 dancerB = 0 := by kernel_rfl
theorem opt2 : optE (smallW 3 4 5) 3 dancerB = 0 := by kernel_rfl
theorem opt3 : optE (smallW 1 0 1) 5 dancerB = 0 := by kernel_rfl
theorem opt4 : optE (smallW 1 0 1) 4 dancerB = 300 := by kernel_rfl
theorem find3 (ta tb tc : Int) : (smallW ta tb tc).signs[idP (smallW ta tb tc).signs 3]! = armS := by kernel_rfl
theorem find5 (ta tb tc : Int) : (smallW ta tb tc).signs[idP (smallW ta tb tc).signs 5]! = legS := by kernel_rfl
def optF (ta tc : Int) (s : Sgn) (top : Nat) : List Rea := ((insF (ltOf cfP) 0 (allL ta tc s top 9).length (allL ta tc s top 9).length 1 (allL ta tc s top 9).toArray).toList).map (·.r)
theorem optS_fuel (ta tc : Int) (s : Sgn) (top : Nat) : optS ta tc s top = optF ta tc s top := by unfold optS optF; rw [sortA_fuel]
theorem res1 : optR (smallW 1 0 1) 3 dancerB = [⟨3, 1, 2, false⟩] := by
 unfold optR; rw [if_pos opt1, find3]
 rw [show optL (smallW 1 0 1) armS dancerB = optS 1 1 armS 3 ++ [] from rfl, optS_fuel]
 kernel_rfl
theorem res2 : optR (smallW 3 4 5) 3 dancerB = [⟨3, 1, 2, false⟩, ⟨3, 2, 2, false⟩, ⟨3, 8, 2, false⟩, ⟨3, 1, 1, false⟩, ⟨3, 1, 3, false⟩] := by
 unfold optR; rw [if_pos opt2, find3, show optL (smallW 3 4 5) armS dancerB = optS 3 5 armS 3 ++ [] from rfl, optS_fuel]
 kernel_rfl
theorem res3 : optR (smallW 1 0 1) 5 dancerB = [⟨5, 0, 0, true⟩] := by
 unfold optR; rw [if_pos opt3, find5, show optL (smallW 1 0 1) legS dancerB = optS 1 1 legS 2 ++ [⟨5, 0, 0, true⟩] from rfl, optS_fuel]
 kernel_rfl
theorem res4 : optR (smallW 1 0 1) 4 dancerB = [] := by unfold optR; rw [if_neg (by rw [opt4]; decide)]
theorem cost1 : costE (smallW 1 0 1) 3 ⟨3, 0, 0, true⟩ = 0 ∧ costI (smallW 1 0 1) 3 ⟨3, 0, 0, true⟩ = 64 := ⟨by kernel_rfl, by kernel_rfl⟩
theorem cost2 : costE (smallW 1 0 1) 5 ⟨5, 0, 0, true⟩ = 0 ∧ costI (smallW 1 0 1) 5 ⟨5, 0, 0, true⟩ = 4 := ⟨by kernel_rfl, by kernel_rfl⟩
theorem cost3 : costE (smallW 3 4 5) 3 ⟨3, 2, 2, false⟩ = 0 ∧ costI (smallW 3 4 5) 3 ⟨3, 2, 2, false⟩ = 1 := ⟨by kernel_rfl, by kernel_rfl⟩
end Go.Proofs.YtggcbblikgankaaGreatDoor
end
section
namespace Go.Proofs.YtggcbblikgankaaGreatDoor
open Go Go.RowKit
theorem isRow_block {α : Type} {enc : α → List Value} {k : Nat} (hk : ∀ x, (enc x).length = k) {w : World} {g n : Nat} {cs : Array Value} {t : TypeId} {xs : List α} (hg : w.heap[g]? = some (.cells cs t (0, 0))) (hn : xs.length = n) (hm : n ≤ maxLen) (hc : cs.toList = xs.flatMap enc) : IsRow enc k w (.slice (some ⟨g, 0, none⟩) n n) xs := by
 subst hn
 have : w.ownsRow 0 t k (.slice (some ⟨g, 0, none⟩) xs.length xs.length) xs.length (xs.flatMap enc) :=
  ⟨flat_len hk xs, Or.inr ⟨g, xs.length, cs, rfl, Nat.zero_le _, hg, Nat.le_refl _, hm, by rw [← Array.length_toList, hc, flat_len hk], by rw [hc, ← flat_len hk xs, List.take_length]⟩⟩
 exact owns_isRow hk this rfl
theorem encR_len (r : Rol) : (encR r).length = 4 := rfl
theorem encT_len (r : Tmp) : (encT r).length = 3 := rfl
theorem encS_len (r : Sgn) : (encS r).length = 14 := rfl
theorem SmallAt.roles {w : World} {R T S : Nat} (h : SmallAt w R T S) : IsRow encR 4 w (.slice (some ⟨R, 0, none⟩) 1 1) [⟨[97], 0, 0, 0⟩] := isRow_block encR_len h.r rfl (by decide) rfl
theorem SmallAt.tempos {w : World} {R T S : Nat} (h : SmallAt w R T S) : IsRow encT 3 w (.slice (some ⟨T, 0, none⟩) 1 1) [⟨0, 100, 0⟩] := isRow_block encT_len h.t rfl (by decide) rfl
theorem SmallAt.signs {w : World} {R T S : Nat} (h : SmallAt w R T S) : IsRow encS 14 w (.slice (some ⟨S, 0, none⟩) 2 2) [armS, legS] := isRow_block encS_len h.s rfl (by decide) (by simp [sgnA, encS])
theorem SmallAt.below {w w' : World} {R T S : Nat} (h : SmallAt w R T S) (hb : Below w.heap.size w w') : SmallAt w' R T S :=
 ⟨(hb.block _ (Array.getElem?_eq_some_iff.1 h.r).1).trans h.r, (hb.block _ (Array.getElem?_eq_some_iff.1 h.t).1).trans h.t, (hb.block _ (Array.getElem?_eq_some_iff.1 h.s).1).trans h.s⟩
def smallA (ta tb tc : Int) (R T S : Nat) : Array Value := #[.int .i64 20, .int .i64 20, .int .i64 ta, .int .i64 tb, .int .i64 tc, .slice (some ⟨R, 0, none⟩) 1 1, .int .i64 1, .slice (some ⟨T, 0, none⟩) 1 1, .slice none 0 0, .slice none 0 0, .slice (some ⟨S, 0, none⟩) 2 2]
theorem small_options (ta tb tc n : Int) (R T S : Nat) (w : World) (hE : Env w) (hz : 2 ≤ w.heap.size) (h : SmallAt w R T S) :
  Calls Tryz.prog 9 #[smallV ta tb tc R T S, .int .i64 n, bodV dancerB] w fun e w' => ∃ v, e = .returned (.tuple #[v, .int .i64 (optE (smallW ta tb tc) n dancerB)]) ∧ w'.ownsRow w.heap.size 37 4 v (optR (smallW ta tb tc) n dancerB).length ((optR (smallW ta tb tc) n dancerB).flatMap encRea) ∧ Below w.heap.size w w' :=
 options_any n dancerB (by decide) 20 20 ta tb tc 1 (some ⟨R, 0, none⟩) (some ⟨T, 0, none⟩) none none (some ⟨S, 0, none⟩) 1 1 0 0 2 [⟨[97], 0, 0, 0⟩] [⟨0, 100, 0⟩] [] [] [armS, legS] w hE hz h.roles h.tempos IsRow.nil IsRow.nil h.signs
theorem small_options_x (ta tb tc n er : Int) (l : List Rea) (R T S : Nat) (w : World) (hE : Env w) (hz : 2 ≤ w.heap.size) (h : SmallAt w R T S) (he : optE (smallW ta tb tc) n dancerB = er) (hl : optR (smallW ta tb tc) n dancerB = l) :
  Calls Tryz.prog 9 #[.agg #[.int .i64 20, .int .i64 20, .int .i64 ta, .int .i64 tb, .int .i64 tc, .slice (some ⟨R, 0, none⟩) 1 1, .int .i64 1, .slice (some ⟨T, 0, none⟩) 1 1, .slice none 0 0, .slice none 0 0, .slice (some ⟨S, 0, none⟩) 2 2], .int .i64 n, bodV dancerB] w fun e w' => ∃ v, e = .returned (.tuple #[v, .int .i64 er]) ∧ w'.ownsRow w.heap.size 37 4 v l.length (l.flatMap encRea) ∧ Below w.heap.size w w' := by
 subst he; subst hl
 exact small_options ta tb tc n R T S w hE hz h
theorem small_cost_x (ta tb tc n c : Int) (r : Rea) (R T S : Nat) (w : World) (hE : Env w) (h : SmallAt w R T S) (hc : costE (smallW ta tb tc) n r = 0 ∧ costI (smallW ta tb tc) n r = c) :
  Calls Tryz.prog 11 #[.agg (smallA ta tb tc R T S), .int .i64 n, .agg #[.int .i64 r.sign, .int .i64 r.dir, .int .i64 r.level, .bool r.drop]] w fun e w' => e = .returned (.tuple #[.int .i64 c, .int .i64 0]) ∧ Below w.heap.size w w' := by
 obtain ⟨h1, h2⟩ := hc
 have := cost_any n r 20 20 ta tb tc 1 (some ⟨R, 0, none⟩) (some ⟨T, 0, none⟩) none none (some ⟨S, 0, none⟩) 1 1 0 0 2 [⟨[97], 0, 0, 0⟩] [⟨0, 100, 0⟩] [] [] [armS, legS] w hE h.roles h.tempos IsRow.nil IsRow.nil h.signs
 rw [show (⟨20, 20, ta, tb, tc, [⟨[97], 0, 0, 0⟩], ⟨1, [⟨0, 100, 0⟩], [], []⟩, [armS, legS]⟩ : Wrk) = smallW ta tb tc from rfl, h1, h2] at this
 exact this
structure SaneAt (w W : World) (K1 K2 R1 T1 S1 R2 T2 S2 : Nat) : Prop where
 k1 : W.heap[K1]? = some (.cells (smallA 1 0 1 R1 T1 S1) 32 (0, 0))
 k2 : W.heap[K2]? = some (.cells (smallA 3 4 5 R2 T2 S2) 32 (0, 0))
 s1 : SmallAt W R1 T1 S1
 s2 : SmallAt W R2 T2 S2
 below0 : Below w.heap.size w W
theorem SaneAt.below {w W W' : World} {K1 K2 R1 T1 S1 R2 T2 S2 : Nat} (h : SaneAt w W K1 K2 R1 T1 S1 R2 T2 S2) (hb : Below W.heap.size W W') : SaneAt w W' K1 K2 R1 T1 S1 R2 T2 S2 :=
 ⟨(hb.block _ (Array.getElem?_eq_some_iff.1 h.k1).1).trans h.k1, (hb.block _ (Array.getElem?_eq_some_iff.1 h.k2).1).trans h.k2, h.s1.below hb, h.s2.below hb, h.below0.trans (hb.mono h.below0.size)⟩
theorem SaneAt.drew {w W : World} {K1 K2 R1 T1 S1 R2 T2 S2 : Nat} (h : SaneAt w W K1 K2 R1 T1 S1 R2 T2 S2) : SaneAt w W.drew K1 K2 R1 T1 S1 R2 T2 S2 := h.below (Below.refl _ _).drew
end Go.Proofs.YtggcbblikgankaaGreatDoor
end

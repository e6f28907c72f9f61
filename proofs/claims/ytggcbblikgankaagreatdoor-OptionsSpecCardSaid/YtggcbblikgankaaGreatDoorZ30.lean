/- Contracts and plain laws on the way to the statement: part 30. -/
import Derived.Test.YtggcbblikgankaaGreatDoorZ29
import Derived.Test.YtggcbblikgankaaGreatDoorZ24
set_option linter.unusedVariables false
set_option linter.unusedSimpArgs false
section
namespace Go.Proofs.YtggcbblikgankaaGreatDoor
open Go.RowKit
def bodV (b : Bod) : Value := .agg #[.string ⟨b.name.toArray⟩, .int .i64 b.weight, .int .i64 b.lift, .int .i64 b.girth, .int .i64 b.step, .int .i64 b.jump, .int .i64 b.r0, .int .i64 b.r1, .int .i64 b.r2, .int .i64 b.s0, .int .i64 b.s1, .int .i64 b.s2, .int .i64 b.t0, .int .i64 b.t1, .int .i64 b.t2, .int .i64 b.effort, .int .i64 b.recover]
def sgnV (s : Sgn) : Value := .agg #[.int .i64 s.id, .int .i64 s.role, .int .i64 s.bar, .int .i64 s.mark, .int .i64 s.kind, .int .i64 s.side, .int .i64 s.dir, .int .i64 s.level, .int .i64 s.size, .int .i64 s.wth, .int .i64 s.fn, .int .i64 s.fd, .int .i64 s.tn, .int .i64 s.td]
set_option maxHeartbeats 1000000 in
theorem stepOf_any (b : Bod) (w : World) : Calls Tryz.prog 68 #[bodV b] w fun e w' => e = .returned (.int .i64 b.step) ∧ w' = w.alloc (.cells (bodCells b) 35) := by
 unfold bodV bodCells
 go_enter Tryz.func68, Tryz.ntmps68
 go_wp2_with fail
 go_ret
 exact ⟨rfl, rfl⟩
set_option maxHeartbeats 1000000 in
theorem jumpOf_any (b : Bod) (w : World) : Calls Tryz.prog 69 #[bodV b] w fun e w' => e = .returned (.int .i64 b.jump) ∧ w' = w.alloc (.cells (bodCells b) 35) := by
 unfold bodV bodCells
 go_enter Tryz.func69, Tryz.ntmps69
 go_wp2_with fail
 go_ret
 exact ⟨rfl, rfl⟩
theorem hmkf (fn : Fn) (first cap : Array Value) (w : World) : (Instr.makeFunc fn first cap).run Tryz.prog w = .ok (.func fn first cap) w := rfl
theorem travel_any (g : Nat) (w : World) : Calls Tryz.prog 67 #[.func (.func g) #[] #[]] w fun e w' => e = .returned (.func (.func 96) #[] #[.pointer (some ⟨w.heap.size, 0, none⟩)]) ∧ w' = w.alloc (.cells #[.func (.func g) #[] #[]] 126) := by
 have hmf := hmkf
 go_enter Tryz.func67, Tryz.ntmps67
 go_wp2_with fail
 go_ret
 exact ⟨rfl, rfl⟩
theorem limb_any (i : Int) (w : World) : Calls Tryz.prog 70 #[.int .i64 i] w fun e w' => e = .returned (.func (.func 97) #[] #[.pointer (some ⟨w.heap.size, 0, none⟩)]) ∧ w' = w.alloc (.cells #[.int .i64 i] 3) := by
 have hmf := hmkf
 go_enter Tryz.func70, Tryz.ntmps70
 go_wp2_with fail
 go_ret
 exact ⟨rfl, rfl⟩
theorem within_make (ta tb tc : Int) (s : Sgn) (top : Int) (w : World) : Calls Tryz.prog 99 #[.agg #[.int .i64 ta, .int .i64 tb, .int .i64 tc], sgnV s, .int .i64 top] w fun e w' =>
  e = .returned (.func (.func 121) #[] #[.pointer (some ⟨w.heap.size + 1 + 1, 0, none⟩), .pointer (some ⟨w.heap.size + 1, 0, none⟩), .pointer (some ⟨w.heap.size, 0, none⟩)]) ∧
  w' = ((w.alloc (.cells #[.int .i64 ta, .int .i64 tb, .int .i64 tc] 23)).alloc (.cells (sgnA s) 72)).alloc (.cells #[.int .i64 top] 3) := by
 have hmf := hmkf
 unfold sgnV sgnA
 go_enter Tryz.func99, Tryz.ntmps99
 go_wp2_with fail
 go_ret
 exact ⟨rfl, rfl⟩
theorem owns_new (w : World) (r : Rea) : (w.alloc (.cells #[.int .i64 r.sign, .int .i64 r.dir, .int .i64 r.level, .bool r.drop] 37)).ownsRow w.heap.size 37 4 (.slice (some ⟨w.heap.size, 0, none⟩) 1 1) 1 ([r].flatMap encRea) := by
 refine ⟨rfl, Or.inr ⟨w.heap.size, 1, _, rfl, Nat.le_refl _, heap_alloc_new w _, Nat.le_refl _, by decide, rfl, rfl⟩⟩
def travL (s : Sgn) (n : Int) : List Rea := if n < s.size then [] else [⟨s.id, 0, 0, false⟩]
structure TS (w : World) (s : Sgn) (b : Bod) (g Bm : Nat) (w2 : World) : Prop where
 sgn : w2.heap[w.heap.size + 1]? = some (.cells (sgnA s) 72 (0, 0))
 bod : w2.heap[w.heap.size + 1 + 1]? = some (.cells (bodCells b) 35 (0, 0))
 bm : w2.cell? ⟨Bm, 0, none⟩ = some (.func (.func g) #[] #[])
 below : Below w.heap.size w w2
theorem TS.keep {w : World} {s : Sgn} {b : Bod} {g Bm : Nat} {w2 w3 : World} (h : TS w s b g Bm w2) (hb : Below w2.heap.size w2 w3) : TS w s b g Bm w3 :=
 ⟨(hb.block _ (Array.getElem?_eq_some_iff.1 h.sgn).1).trans h.sgn, (hb.block _ (Array.getElem?_eq_some_iff.1 h.bod).1).trans h.bod, (hb.cell (p := ⟨Bm, 0, none⟩) (cell_block_lt h.bm)).trans h.bm, h.below.trans (hb.mono h.below.size)⟩
theorem TS.all {w : World} {s : Sgn} {b : Bod} {g Bm : Nat} {w2 : World} (h : TS w s b g Bm w2) :
  w2.cell? ⟨w.heap.size + 1, 8, none⟩ = some (.int .i64 s.size) ∧ w2.cell? ⟨Bm, 0, none⟩ = some (.func (.func g) #[] #[]) ∧ w2.cell? ⟨w.heap.size + 1 + 1, 0, none⟩ = some (.string ⟨b.name.toArray⟩) ∧ w2.cell? ⟨w.heap.size + 1 + 1, 1, none⟩ = some (.int .i64 b.weight) ∧ w2.cell? ⟨w.heap.size + 1 + 1, 2, none⟩ = some (.int .i64 b.lift) ∧ w2.cell? ⟨w.heap.size + 1 + 1, 3, none⟩ = some (.int .i64 b.girth) ∧ w2.cell? ⟨w.heap.size + 1 + 1, 4, none⟩ = some (.int .i64 b.step) ∧ w2.cell? ⟨w.heap.size + 1 + 1, 5, none⟩ = some (.int .i64 b.jump) ∧ w2.cell? ⟨w.heap.size + 1 + 1, 6, none⟩ = some (.int .i64 b.r0) ∧ w2.cell? ⟨w.heap.size + 1 + 1, 7, none⟩ = some (.int .i64 b.r1) ∧ w2.cell? ⟨w.heap.size + 1 + 1, 8, none⟩ = some (.int .i64 b.r2) ∧ w2.cell? ⟨w.heap.size + 1 + 1, 9, none⟩ = some (.int .i64 b.s0) ∧ w2.cell? ⟨w.heap.size + 1 + 1, 10, none⟩ = some (.int .i64 b.s1) ∧ w2.cell? ⟨w.heap.size + 1 + 1, 11, none⟩ = some (.int .i64 b.s2) ∧ w2.cell? ⟨w.heap.size + 1 + 1, 12, none⟩ = some (.int .i64 b.t0) ∧ w2.cell? ⟨w.heap.size + 1 + 1, 13, none⟩ = some (.int .i64 b.t1) ∧ w2.cell? ⟨w.heap.size + 1 + 1, 14, none⟩ = some (.int .i64 b.t2) ∧ w2.cell? ⟨w.heap.size + 1 + 1, 15, none⟩ = some (.int .i64 b.effort) ∧ w2.cell? ⟨w.heap.size + 1 + 1, 16, none⟩ = some (.int .i64 b.recover) ∧ TS w s b g Bm w2 :=
 ⟨cell_at h.sgn 8 rfl, h.bm, cell_at h.bod 0 rfl, cell_at h.bod 1 rfl, cell_at h.bod 2 rfl, cell_at h.bod 3 rfl, cell_at h.bod 4 rfl, cell_at h.bod 5 rfl, cell_at h.bod 6 rfl, cell_at h.bod 7 rfl, cell_at h.bod 8 rfl, cell_at h.bod 9 rfl, cell_at h.bod 10 rfl, cell_at h.bod 11 rfl, cell_at h.bod 12 rfl, cell_at h.bod 13 rfl, cell_at h.bod 14 rfl, cell_at h.bod 15 rfl, cell_at h.bod 16 rfl, h⟩
theorem TS.keepS {w : World} {s : Sgn} {b : Bod} {g Bm : Nat} {w2 : World} (h : w2.cell? ⟨w.heap.size + 1, 8, none⟩ = some (.int .i64 s.size) ∧ w2.cell? ⟨Bm, 0, none⟩ = some (.func (.func g) #[] #[]) ∧ w2.cell? ⟨w.heap.size + 1 + 1, 0, none⟩ = some (.string ⟨b.name.toArray⟩) ∧ w2.cell? ⟨w.heap.size + 1 + 1, 1, none⟩ = some (.int .i64 b.weight) ∧ w2.cell? ⟨w.heap.size + 1 + 1, 2, none⟩ = some (.int .i64 b.lift) ∧ w2.cell? ⟨w.heap.size + 1 + 1, 3, none⟩ = some (.int .i64 b.girth) ∧ w2.cell? ⟨w.heap.size + 1 + 1, 4, none⟩ = some (.int .i64 b.step) ∧ w2.cell? ⟨w.heap.size + 1 + 1, 5, none⟩ = some (.int .i64 b.jump) ∧ w2.cell? ⟨w.heap.size + 1 + 1, 6, none⟩ = some (.int .i64 b.r0) ∧ w2.cell? ⟨w.heap.size + 1 + 1, 7, none⟩ = some (.int .i64 b.r1) ∧ w2.cell? ⟨w.heap.size + 1 + 1, 8, none⟩ = some (.int .i64 b.r2) ∧ w2.cell? ⟨w.heap.size + 1 + 1, 9, none⟩ = some (.int .i64 b.s0) ∧ w2.cell? ⟨w.heap.size + 1 + 1, 10, none⟩ = some (.int .i64 b.s1) ∧ w2.cell? ⟨w.heap.size + 1 + 1, 11, none⟩ = some (.int .i64 b.s2) ∧ w2.cell? ⟨w.heap.size + 1 + 1, 12, none⟩ = some (.int .i64 b.t0) ∧ w2.cell? ⟨w.heap.size + 1 + 1, 13, none⟩ = some (.int .i64 b.t1) ∧ w2.cell? ⟨w.heap.size + 1 + 1, 14, none⟩ = some (.int .i64 b.t2) ∧ w2.cell? ⟨w.heap.size + 1 + 1, 15, none⟩ = some (.int .i64 b.effort) ∧ w2.cell? ⟨w.heap.size + 1 + 1, 16, none⟩ = some (.int .i64 b.recover) ∧ TS w s b g Bm w2) (o : Obj) :
  (w2.alloc o).cell? ⟨w.heap.size + 1, 8, none⟩ = some (.int .i64 s.size) ∧ (w2.alloc o).cell? ⟨Bm, 0, none⟩ = some (.func (.func g) #[] #[]) ∧ (w2.alloc o).cell? ⟨w.heap.size + 1 + 1, 0, none⟩ = some (.string ⟨b.name.toArray⟩) ∧ (w2.alloc o).cell? ⟨w.heap.size + 1 + 1, 1, none⟩ = some (.int .i64 b.weight) ∧ (w2.alloc o).cell? ⟨w.heap.size + 1 + 1, 2, none⟩ = some (.int .i64 b.lift) ∧ (w2.alloc o).cell? ⟨w.heap.size + 1 + 1, 3, none⟩ = some (.int .i64 b.girth) ∧ (w2.alloc o).cell? ⟨w.heap.size + 1 + 1, 4, none⟩ = some (.int .i64 b.step) ∧ (w2.alloc o).cell? ⟨w.heap.size + 1 + 1, 5, none⟩ = some (.int .i64 b.jump) ∧ (w2.alloc o).cell? ⟨w.heap.size + 1 + 1, 6, none⟩ = some (.int .i64 b.r0) ∧ (w2.alloc o).cell? ⟨w.heap.size + 1 + 1, 7, none⟩ = some (.int .i64 b.r1) ∧ (w2.alloc o).cell? ⟨w.heap.size + 1 + 1, 8, none⟩ = some (.int .i64 b.r2) ∧ (w2.alloc o).cell? ⟨w.heap.size + 1 + 1, 9, none⟩ = some (.int .i64 b.s0) ∧ (w2.alloc o).cell? ⟨w.heap.size + 1 + 1, 10, none⟩ = some (.int .i64 b.s1) ∧ (w2.alloc o).cell? ⟨w.heap.size + 1 + 1, 11, none⟩ = some (.int .i64 b.s2) ∧ (w2.alloc o).cell? ⟨w.heap.size + 1 + 1, 12, none⟩ = some (.int .i64 b.t0) ∧ (w2.alloc o).cell? ⟨w.heap.size + 1 + 1, 13, none⟩ = some (.int .i64 b.t1) ∧ (w2.alloc o).cell? ⟨w.heap.size + 1 + 1, 14, none⟩ = some (.int .i64 b.t2) ∧ (w2.alloc o).cell? ⟨w.heap.size + 1 + 1, 15, none⟩ = some (.int .i64 b.effort) ∧ (w2.alloc o).cell? ⟨w.heap.size + 1 + 1, 16, none⟩ = some (.int .i64 b.recover) ∧ TS w s b g Bm (w2.alloc o) :=
 (TS.keep h.2.2.2.2.2.2.2.2.2.2.2.2.2.2.2.2.2.2.2 ((Below.refl _ _).alloc (Nat.le_refl _) o)).all
set_option maxRecDepth 100000 in
set_option maxHeartbeats 8000000 in
theorem travel1_any (ta tb tc : Int) (s : Sgn) (b : Bod) (g Bm : Nat) (m : Int) (w : World) (hm : w.cell? ⟨Bm, 0, none⟩ = some (.func (.func g) #[] #[])) (hg : ∀ w, Calls Tryz.prog g #[bodV b] w fun e w' => e = .returned (.int .i64 m) ∧ w' = w.alloc (.cells (bodCells b) 35)) (eg : ∀ args w, (callFunc g args).run Tryz.prog w = .ok (.enter g args) w) :
  Calls Tryz.prog 96 #[.agg #[.int .i64 ta, .int .i64 tb, .int .i64 tc], sgnV s, bodV b, .pointer (some ⟨Bm, 0, none⟩)] w fun e w' => ∃ v, e = .returned v ∧ w'.ownsRow w.heap.size 37 4 v (travL s m).length ((travL s m).flatMap encRea) ∧ Below w.heap.size w w' := by
 have hBm := cell_block_lt hm
 obtain ⟨g0, g1, g2, hz, hb⟩ := blocks3 w (.cells #[.int .i64 ta, .int .i64 tb, .int .i64 tc] 23) (.cells (sgnA s) 72) (.cells (bodCells b) 35)
 have hts : TS w s b g Bm ((((w.alloc (.cells #[.int .i64 ta, .int .i64 tb, .int .i64 tc] 23)).alloc (.cells (sgnA s) 72)).alloc (.cells (bodCells b) 35))) := ⟨g1, g2, (hb.cell (p := ⟨Bm, 0, none⟩) hBm).trans hm, hb⟩
 have HG := Lib.hid hg; have HTS := Lib.hid hts; have HS := Lib.hid (rfl : sgnA s = sgnA s)
 clear hg g0 g1 g2 hb hm hz hts
 unfold sgnV bodV at *
 unfold sgnA bodCells at HTS
 go_enter Tryz.func96, Tryz.ntmps96
 go_wp2_with fail
 generalize (((w.alloc (.cells #[.int .i64 ta, .int .i64 tb, .int .i64 tc] 23)).alloc (.cells #[.int .i64 s.id, .int .i64 s.role, .int .i64 s.bar, .int .i64 s.mark, .int .i64 s.kind, .int .i64 s.side, .int .i64 s.dir, .int .i64 s.level, .int .i64 s.size, .int .i64 s.wth, .int .i64 s.fn, .int .i64 s.fd, .int .i64 s.tn, .int .i64 s.td] 72)).alloc (.cells #[.string ⟨b.name.toArray⟩, .int .i64 b.weight, .int .i64 b.lift, .int .i64 b.girth, .int .i64 b.step, .int .i64 b.jump, .int .i64 b.r0, .int .i64 b.r1, .int .i64 b.r2, .int .i64 b.s0, .int .i64 b.s1, .int .i64 b.s2, .int .i64 b.t0, .int .i64 b.t1, .int .i64 b.t2, .int .i64 b.effort, .int .i64 b.recover] 35)) = W0 at *
 have hts : TS w s b g Bm W0.drew := HTS.out.keep (Below.refl _ _).drew
 have hal : ∀ k o, (W0.drewN k).alloc o = (W0.alloc o).drewN k := fun _ _ => rfl
 have HS0 := Lib.hid hts.all
 clear hts
 go_region_held3 (fun w2 => w2.cell? ⟨w.heap.size + 1, 8, none⟩ = some (.int .i64 s.size) ∧ w2.cell? ⟨Bm, 0, none⟩ = some (.func (.func g) #[] #[]) ∧ w2.cell? ⟨w.heap.size + 1 + 1, 0, none⟩ = some (.string ⟨b.name.toArray⟩) ∧ w2.cell? ⟨w.heap.size + 1 + 1, 1, none⟩ = some (.int .i64 b.weight) ∧ w2.cell? ⟨w.heap.size + 1 + 1, 2, none⟩ = some (.int .i64 b.lift) ∧ w2.cell? ⟨w.heap.size + 1 + 1, 3, none⟩ = some (.int .i64 b.girth) ∧ w2.cell? ⟨w.heap.size + 1 + 1, 4, none⟩ = some (.int .i64 b.step) ∧ w2.cell? ⟨w.heap.size + 1 + 1, 5, none⟩ = some (.int .i64 b.jump) ∧ w2.cell? ⟨w.heap.size + 1 + 1, 6, none⟩ = some (.int .i64 b.r0) ∧ w2.cell? ⟨w.heap.size + 1 + 1, 7, none⟩ = some (.int .i64 b.r1) ∧ w2.cell? ⟨w.heap.size + 1 + 1, 8, none⟩ = some (.int .i64 b.r2) ∧ w2.cell? ⟨w.heap.size + 1 + 1, 9, none⟩ = some (.int .i64 b.s0) ∧ w2.cell? ⟨w.heap.size + 1 + 1, 10, none⟩ = some (.int .i64 b.s1) ∧ w2.cell? ⟨w.heap.size + 1 + 1, 11, none⟩ = some (.int .i64 b.s2) ∧ w2.cell? ⟨w.heap.size + 1 + 1, 12, none⟩ = some (.int .i64 b.t0) ∧ w2.cell? ⟨w.heap.size + 1 + 1, 13, none⟩ = some (.int .i64 b.t1) ∧ w2.cell? ⟨w.heap.size + 1 + 1, 14, none⟩ = some (.int .i64 b.t2) ∧ w2.cell? ⟨w.heap.size + 1 + 1, 15, none⟩ = some (.int .i64 b.effort) ∧ w2.cell? ⟨w.heap.size + 1 + 1, 16, none⟩ = some (.int .i64 b.recover) ∧ TS w s b g Bm w2)
  (first | assumption | exact HS0.out | exact TS.keepS (by assumption) _ | exact TS.keepS HS0.out _)
  (first | (go_at_fn g; refine (HG.out _).mono ?_; rintro e w' ⟨rfl, rfl⟩))
 all_goals
  rename_i hHeld
  have hT := hHeld.2.2.2.2.2.2.2.2.2.2.2.2.2.2.2.2.2.2.2
  clear hHeld hal HS0
  generalize (W0.alloc (.cells (bodCells b) 35)).drew = W9 at *
  have hlt := hT.below.size
  have d1 : W9.cell? ⟨w.heap.size + 1, 0, none⟩ = some (.int .i64 s.id) := cell_at hT.sgn 0 rfl
  have HB := Lib.hid hT.below
  clear hT
  by_cases hc : m < s.size
  ·have hL : travL s m = [] := by unfold travL; rw [if_pos hc]
   have HL := Lib.hid hL
   clear hL
   go_wp2_with fail
   go_ret
   rw [HL.out]
   exact ⟨_, rfl, World.ownsRow_nil _ _ _ _, HB.out⟩
  ·have hL : travL s m = [⟨s.id, 0, 0, false⟩] := by unfold travL; rw [if_neg hc]
   have HL := Lib.hid hL
   have HO := Lib.hid (owns_base (owns_new W9 ⟨s.id, 0, 0, false⟩) hlt)
   have HB2 := Lib.hid (HB.out.alloc hlt (.cells #[.int .i64 s.id, .int .i64 0, .int .i64 0, .bool false] 37))
   clear hL
   go_wp2_with fail
   go_ret
   rw [HL.out]
   exact ⟨_, rfl, HO.out, HB2.out⟩
end Go.Proofs.YtggcbblikgankaaGreatDoor
end

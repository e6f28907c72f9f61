/- Contracts and plain laws on the way to the statement: part 20. -/
import Derived.Test.YtggcbblikgankaaGreatDoorZ14
import Derived.Test.YtggcbblikgankaaGreatDoorZ8
import Derived.Test.YtggcbblikgankaaGreatDoorZ7
import Derived.Test.YtggcbblikgankaaGreatDoorZ6
import Derived.Laws.CopyOwn
import Derived.Laws.MakeOwn
import Derived.Deep.RegionLaw
import Derived.Test.YtggcbblikgankaaGreatDoorZ3
set_option linter.unusedVariables false
set_option linter.unusedSimpArgs false
set_option maxRecDepth 100000
set_option maxHeartbeats 16000000
namespace Go.Proofs.YtggcbblikgankaaGreatDoor
open Go.Value (int)
open Go.IntKind (i64)
section
open Go Go.RowKit Go.Deep
theorem Jb : ∃ i, Tryz.prog.info? 3 = some i ∧ i.zero = some (int i64 0) ∧ i.size = 1 ∧ i.bytes = 8 := by
 have h1 : (Tryz.prog.info? 3).map (·.zero) = some (some (int i64 0)) := by kernel_rfl
 have h2 : (Tryz.prog.info? 3).map (·.size) = some 1 := by kernel_rfl
 have h3 : (Tryz.prog.info? 3).map (·.bytes) = some 8 := by kernel_rfl
 cases h : Tryz.prog.info? 3 with
 | none => rw [h] at h1; cases h1
 | some i =>
  rw [h] at h1 h2 h3
  exact ⟨i, rfl, Option.some.inj h1, Option.some.inj h2, Option.some.inj h3⟩
theorem ST : ∃ i, Tryz.prog.info? 4 = some i ∧ i.zero = some (.bool false) ∧ i.size = 1 ∧ i.bytes = 1 := by
 have h1 : (Tryz.prog.info? 4).map (·.zero) = some (some (.bool false)) := by kernel_rfl
 have h2 : (Tryz.prog.info? 4).map (·.size) = some 1 := by kernel_rfl
 have h3 : (Tryz.prog.info? 4).map (·.bytes) = some 1 := by kernel_rfl
 cases h : Tryz.prog.info? 4 with
 | none => rw [h] at h1; cases h1
 | some i =>
  rw [h] at h1 h2 h3
  exact ⟨i, rfl, Option.some.inj h1, Option.some.inj h2, Option.some.inj h3⟩
theorem GQ (v : Value) (n : Nat) : madeCells #[v] n = (List.replicate n v).toArray := by
 unfold madeCells
 apply Array.ext
 ·simp
 ·intro j h1 h2
  simp [Nat.mod_one]
theorem EF (m : Nat) (hm : m ≤ 1000) (w : World) : (Instr.makeSlice 55 (int i64 m) (int i64 m)).run Tryz.prog w = .ok (.slice (some ⟨w.heap.size, 0, none⟩) m m) (w.alloc (.cells (Array.replicate m (int i64 0)) 3)) := by
 obtain ⟨i, h1, h2, h3, h4⟩ := Jb
 have h := run_make (P := Tryz.prog) w 55 3 i (int i64 0) Tryz.underlying55 h1 h2 .i64 .i64 m m (by omega) (Int.le_refl _) (by rw [h4]; omega) (by omega)
 rw [h, h3]
 simp [Value.cells, GQ]
theorem Hu (m : Nat) (hm : m ≤ 1000) (w : World) : (Instr.makeSlice 97 (int i64 m) (int i64 m)).run Tryz.prog w = .ok (.slice (some ⟨w.heap.size, 0, none⟩) m m) (w.alloc (.cells (Array.replicate m (.bool false)) 4)) := by
 obtain ⟨i, h1, h2, h3, h4⟩ := ST
 have h := run_make (P := Tryz.prog) w 97 4 i (.bool false) Tryz.underlying97 h1 h2 .i64 .i64 m m (by omega) (Int.le_refl _) (by rw [h4]; omega) (by omega)
 rw [h, h3]
 simp [Value.cells, GQ]
def As (l : List Int) : List Value := l.map (Value.int .i64)
def FV (l : List Bool) : List Value := l.map Value.bool
def BI (w : World) (g : Nat) (l : List Int) : Prop := w.heap[g]? = some (.cells (As l).toArray 3 (0, 0))
def BB (w : World) (g : Nat) (l : List Bool) : Prop := w.heap[g]? = some (.cells (FV l).toArray 4 (0, 0))
section
variable {w : World} {g : Nat} {l : List Int} {bl : List Bool}
theorem BI.lt (h : BI w g l) : g < w.heap.size := (qs.1 h).1
theorem BB.lt (h : BB w g bl) : g < w.heap.size := (qs.1 h).1
theorem BI.cell (h : BI w g l) {j : Nat} (hj : j < l.length) : w.cell? ⟨g, j, none⟩ = some (int i64 (gi l j)) := by
 refine A0 h j ?_
 unfold As gi
 rw [List.getElem?_toArray, List.getElem?_map, qg hj]; rfl
theorem BB.cell (h : BB w g bl) {j : Nat} (hj : j < bl.length) : w.cell? ⟨g, j, none⟩ = some (.bool (gb bl j)) := by
 refine A0 h j ?_
 unfold FV gb
 rw [List.getElem?_toArray, List.getElem?_map, qg hj]; rfl
theorem BI.free (h : BI w g l) (j : Nat) : w.frozen? ⟨g, j, none⟩ = false := by unfold BI at *; simp [World.frozen?, h]
theorem BB.free (h : BB w g bl) (j : Nat) : w.frozen? ⟨g, j, none⟩ = false := by unfold BB at *; simp [World.frozen?, h]
theorem BI.below {w' : World} {B : Nat} (h : BI w g l) (hb : Below B w w') (hB : g < B) : BI w' g l := (hb.block _ hB).trans h
theorem BB.below {w' : World} {B : Nat} (h : BB w g bl) (hb : Below B w w') (hB : g < B) : BB w' g bl := (hb.block _ hB).trans h
theorem BI.set (h : BI w g l) (j : Nat) (x : Int) : BI (w.setCell ⟨g, j, none⟩ (int i64 x)) g (l.set j x) := by
 unfold BI at h ⊢
 simp only [World.setCell, Array.getElem?_modify, h, if_true, Option.map_some]
 simp [As, List.map_set]
theorem BB.set (h : BB w g bl) (j : Nat) (x : Bool) : BB (w.setCell ⟨g, j, none⟩ (.bool x)) g (bl.set j x) := by
 unfold BB at h ⊢
 simp only [World.setCell, Array.getElem?_modify, h, if_true, Option.map_some]
 simp [FV, List.map_set]
theorem heap_setCell {a : Addr} {v : Value} (hg : g ≠ a.block) : (w.setCell a v).heap[g]? = w.heap[g]? := by
 simp only [World.setCell, Array.getElem?_modify]
 rw [if_neg (fun e => hg e.symm)]
theorem BI.other (h : BI w g l) {a : Addr} {v : Value} (hg : g ≠ a.block) : BI (w.setCell a v) g l := (heap_setCell hg).trans h
theorem BB.other (h : BB w g bl) {a : Addr} {v : Value} (hg : g ≠ a.block) : BB (w.setCell a v) g bl := (heap_setCell hg).trans h
end
def EN (x : Int) (k m : Nat) : List Value := List.replicate k (int i64 x) ++ List.replicate (m - k) (int i64 0)
theorem QT {x : Int} {k m : Nat} (h : k ≤ m) : (EN x k m).length = m := by unfold EN; simp; omega
theorem Qa (x : Int) (m : Nat) : EN x m m = As (List.replicate m x) := by unfold EN As; simp
theorem RH {x : Int} {k m j : Nat} (h : j < k) : (EN x k m)[j]? = some (int i64 x) := by
 unfold EN
 rw [List.getElem?_append_left (by simpa using h), List.getElem?_replicate, if_pos h]
theorem Ly {x : Int} {k c m : Nat} (h : k + c ≤ m) : splice (EN x k m) k (List.replicate c (int i64 x)) = EN x (k + c) m := by
 unfold splice EN
 rw [List.take_left' (by simp), List.length_replicate, List.drop_append, ← List.append_assoc]
 congr 1
 ·simp [List.replicate_append_replicate]
 ·simp only [List.length_replicate, List.drop_replicate]
  rw [show k - (k + c) = 0 by omega, List.replicate_zero, List.nil_append]
  congr 1
  omega
end
end Go.Proofs.YtggcbblikgankaaGreatDoor

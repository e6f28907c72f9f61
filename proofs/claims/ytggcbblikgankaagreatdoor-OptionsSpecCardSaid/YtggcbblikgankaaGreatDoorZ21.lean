/- Contracts and plain laws on the way to the statement: part 21. -/
import Derived.Test.YtggcbblikgankaaGreatDoorZ13
import Derived.Test.YtggcbblikgankaaGreatDoorZ7
import Derived.Test.YtggcbblikgankaaGreatDoorZ6
import Derived.Test.YtggcbblikgankaaGreatDoorZ5
import Derived.Laws.CopyOwn
import Derived.Laws.MakeOwn
import Derived.Deep.RegionLaw
set_option linter.unusedVariables false
set_option linter.unusedSimpArgs false
section
namespace Go.Proofs.YtggcbblikgankaaGreatDoor
open Go Go.RowKit Go.Deep
def intsL (l : List Int) : List Value := l.map (Value.int .i64)
def boolsL (l : List Bool) : List Value := l.map Value.bool
def BI (w : World) (g : Nat) (l : List Int) : Prop := w.heap[g]? = some (.cells (intsL l).toArray 3 (0, 0))
def BB (w : World) (g : Nat) (l : List Bool) : Prop := w.heap[g]? = some (.cells (boolsL l).toArray 4 (0, 0))
section
variable {w : World} {g : Nat} {l : List Int} {bl : List Bool}
theorem BI.lt (h : BI w g l) : g < w.heap.size := (Array.getElem?_eq_some_iff.1 h).1
theorem BB.lt (h : BB w g bl) : g < w.heap.size := (Array.getElem?_eq_some_iff.1 h).1
theorem BI.cell (h : BI w g l) {j : Nat} (hj : j < l.length) : w.cell? ⟨g, j, none⟩ = some (.int .i64 (gi l j)) := by
 refine cell_at h j ?_
 unfold intsL gi
 rw [List.getElem?_toArray, List.getElem?_map, List.getElem?_eq_getElem hj]; rfl
theorem BB.cell (h : BB w g bl) {j : Nat} (hj : j < bl.length) : w.cell? ⟨g, j, none⟩ = some (.bool (gb bl j)) := by
 refine cell_at h j ?_
 unfold boolsL gb
 rw [List.getElem?_toArray, List.getElem?_map, List.getElem?_eq_getElem hj]; rfl
theorem BI.free (h : BI w g l) (j : Nat) : w.frozen? ⟨g, j, none⟩ = false := by unfold BI at *; simp [World.frozen?, h]
theorem BB.free (h : BB w g bl) (j : Nat) : w.frozen? ⟨g, j, none⟩ = false := by unfold BB at *; simp [World.frozen?, h]
theorem BI.below {w' : World} {B : Nat} (h : BI w g l) (hb : Below B w w') (hB : g < B) : BI w' g l := (hb.block _ hB).trans h
theorem BB.below {w' : World} {B : Nat} (h : BB w g bl) (hb : Below B w w') (hB : g < B) : BB w' g bl := (hb.block _ hB).trans h
theorem heap_setCell {a : Addr} {v : Value} (hg : g ≠ a.block) : (w.setCell a v).heap[g]? = w.heap[g]? := by
 simp only [World.setCell, Array.getElem?_modify]
 rw [if_neg (fun e => hg e.symm)]
end
end Go.Proofs.YtggcbblikgankaaGreatDoor
end

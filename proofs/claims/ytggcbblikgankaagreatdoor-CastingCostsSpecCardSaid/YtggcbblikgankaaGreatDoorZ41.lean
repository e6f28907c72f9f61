/- Contracts and plain laws on the way to the statement: part 41. -/
import Derived.Test.YtggcbblikgankaaGreatDoorZ32
import Derived.Test.YtggcbblikgankaaGreatDoorZ26
import Derived.Test.YtggcbblikgankaaGreatDoorZ3
set_option linter.unusedVariables false
set_option linter.unusedSimpArgs false
set_option maxRecDepth 100000
set_option maxHeartbeats 16000000
namespace Go.Proofs.YtggcbblikgankaaGreatDoor
open Go.Value (int)
open Go.IntKind (i64)
section
open Go.ChangeShapes Go.WideShapes Go.ChangeAt Go.RowKit Go.Deep
section
variable {H : Type} {enc : TypeId × Value → H} {W : World}
theorem Ow {α β : Type} {e1 : α → List Value} {e2 : β → List Value} {k : Nat} {f : α → β} (hf : ∀ x, e1 x = e2 (f x)) {w : World} {v : Value} {xs : List α} (h : IsRow e1 k w v xs) : IsRow e2 k w v (xs.map f) := by
 obtain ⟨ao, c, e, hl, h⟩ := h
 refine ⟨ao, c, by rw [e, List.length_map], by rw [List.length_map]; exact hl, ?_⟩
 rcases h with h | ⟨b, o, e2, ha, hlt⟩
 ·left; rw [h]; rfl
 ·right
  refine ⟨b, o, e2, fun i y hy j u hu => ?_, hlt⟩
  rw [List.getElem?_map] at hy
  obtain ⟨x, hx, rfl⟩ := Option.map_eq_some_iff.1 hy
  exact ha i x hx j u (by rw [hf]; exact hu)
end
end
end Go.Proofs.YtggcbblikgankaaGreatDoor

/- Contracts and plain laws on the way to the statement: part 27. -/
import Derived.Test.YtggcbblikgankaaGreatDoorZ21
import Derived.Test.YtggcbblikgankaaGreatDoorZ13
import Derived.Lib.SlBuf
set_option linter.unusedVariables false
set_option linter.unusedSimpArgs false
section
namespace Go.Proofs.YtggcbblikgankaaGreatDoor
open Go Go.RowKit Go.Deep
end Go.Proofs.YtggcbblikgankaaGreatDoor
end
section
namespace Go.Proofs.YtggcbblikgankaaGreatDoor
open Go Go.RowKit Go.Deep
def encI (x : Int) : List Value := [.int .i64 x]
def encH (h : Value) : List Value := [h]
def IsMat (w : World) (v : Value) (cost : List (List Int)) : Prop :=
 ∃ hs : List Value, IsRow encH 1 w v hs ∧ hs.length = cost.length ∧ ∀ (i : Nat) (h : Value) (row : List Int), hs[i]? = some h → cost[i]? = some row → IsRow encI 1 w h row
section
variable {w : World} {v : Value} {cost : List (List Int)}
theorem IsMat.below {w' : World} {B : Nat} (h : IsMat w v cost) (hb : Below B w w') (hB : w.heap.size ≤ B) : IsMat w' v cost := by
 obtain ⟨hs, h1, h2, h3⟩ := h
 exact ⟨hs, h1.below hb hB, h2, fun i x row hx hr => (h3 i x row hx hr).below hb hB⟩
theorem IsMat.len (h : IsMat w v cost) : cost.length ≤ maxLen := by
 obtain ⟨hs, ⟨ao, c, e, hl, _⟩, h2, _⟩ := h
 rw [← h2]; exact hl
theorem IsMat.at_ {ao : Option Addr} {n c : Nat} (h : IsMat w (.slice ao n c) cost) {i : Nat} (hi : i < cost.length) :
  ∃ b o, ao = some ⟨b, o, none⟩ ∧ ∃ ar cr, w.cell? ⟨b, o + i, none⟩ = some (.slice ar (cost[i]?.getD []).length cr) ∧ IsRow encI 1 w (.slice ar (cost[i]?.getD []).length cr) (cost[i]?.getD []) ∧ b < w.heap.size := by
 obtain ⟨hs, h1, h2, h3⟩ := h
 obtain ⟨x, hx⟩ : ∃ x, hs[i]? = some x := ⟨_, List.getElem?_eq_getElem (by omega)⟩
 obtain ⟨row, hr⟩ : ∃ r, cost[i]? = some r := ⟨_, List.getElem?_eq_getElem hi⟩
 obtain ⟨b, o, e, hat, hlt⟩ := h1.block hx
 have h4 := h3 i x row hx hr
 have h5 := h4
 obtain ⟨ar, cr, e2, _⟩ := h5
 refine ⟨b, o, e, ar, cr, ?_, ?_, hlt⟩
 ·have := hat i x hx 0 _ rfl
  rw [Nat.mul_one, Nat.add_zero, e2] at this
  rw [hr]; exact this
 ·rw [hr]; show IsRow encI 1 w (.slice ar row.length cr) row; rw [← e2]; exact h4
end
theorem IsRow.int {w : World} {ar : Option Addr} {n c : Nat} {row : List Int} (h : IsRow encI 1 w (.slice ar n c) row) {j : Nat} (hj : j < row.length) : ∃ b o, ar = some ⟨b, o, none⟩ ∧ w.cell? ⟨b, o + j, none⟩ = some (.int .i64 (gi row j)) ∧ b < w.heap.size := by
 obtain ⟨b, o, e, hat, hlt⟩ := h.block (List.getElem?_eq_getElem hj)
 refine ⟨b, o, e, ?_, hlt⟩
 have := hat j _ (List.getElem?_eq_getElem hj) 0 _ rfl
 rw [Nat.mul_one, Nat.add_zero] at this
 rw [this]
 unfold gi
 rw [List.getElem?_eq_getElem hj]; rfl
end Go.Proofs.YtggcbblikgankaaGreatDoor
end

/- The walk of the statement: part 5. -/
import Derived.Test.YtggcbblikgankaaDoorZ35
import Derived.Test.YtggcbblikgankaaDoorYX22p1
set_option linter.unusedVariables false
set_option linter.unusedSimpArgs false
section
/- Caps as an argument: opened, and read again behind the call. -/
set_option maxRecDepth 100000
namespace Go.Proofs.YtggcbblikgankaaDoor
open Go.ChangeShapes Go.WideShapes Go.ChangeAt Go.RowKit
instance : Inhabited Cap := ⟨⟨0, 0, 0⟩⟩
section
variable {H : Type} {enc : TypeId × Value → H} {W : World}
theorem cellsT136 : Tryd.prog.cellsOf 136 = 3 := by kernel_rfl
theorem open136 {n : Nat} {cs : List Value} {y : DataW H × List MemPlace} (h : DataW.trod enc Tryd.prog W 0 (fun _ => true) true n 136 cs = some y) : ∃ (a : Int) (b : Int) (c : Int), cs = [.int .i64 a, .int .i64 b, .int .i64 c] := by
  obtain ⟨ys, m, _, _, hl, hyl, hf⟩ := DataW.trod_struct Tryd.underlying136 h
  rw [cellsT136] at hl
  obtain ⟨c0, c1, c2, rfl⟩ := list3 hl
  obtain ⟨y0, hy0⟩ : ∃ y, ys[0]? = some y := ⟨_, List.getElem?_eq_getElem (by rw [hyl]; decide)⟩
  have f0 : DataW.trod enc Tryd.prog W 0 (fun _ => true) true m 3 (([c0, c1, c2].drop 0).take (Tryd.prog.cellsOf 3)) = some y0 := (hf 0 _ rfl).trans hy0
  rw [cellsT3] at f0
  obtain ⟨y1, hy1⟩ : ∃ y, ys[1]? = some y := ⟨_, List.getElem?_eq_getElem (by rw [hyl]; decide)⟩
  have f1 : DataW.trod enc Tryd.prog W 0 (fun _ => true) true m 3 (([c0, c1, c2].drop 1).take (Tryd.prog.cellsOf 3)) = some y1 := (hf 1 _ rfl).trans hy1
  rw [cellsT3] at f1
  obtain ⟨y2, hy2⟩ : ∃ y, ys[2]? = some y := ⟨_, List.getElem?_eq_getElem (by rw [hyl]; decide)⟩
  have f2 : DataW.trod enc Tryd.prog W 0 (fun _ => true) true m 3 (([c0, c1, c2].drop 2).take (Tryd.prog.cellsOf 3)) = some y2 := (hf 2 _ rfl).trans hy2
  rw [cellsT3] at f2
  obtain ⟨a, e0, _, _⟩ := DataW.trod_int Tryd.underlying3 f0
  cases e0
  obtain ⟨b, e1, _, _⟩ := DataW.trod_int Tryd.underlying3 f1
  cases e1
  obtain ⟨c, e2, _, _⟩ := DataW.trod_int Tryd.underlying3 f2
  cases e2
  exact ⟨a, b, c, rfl⟩
theorem open_caps {base : Nat} {v : Value} {d : DataW H} {p : List MemPlace} (hv : Value.okWide Tryd.prog W .any base 72 v) (h : DataW.Trod enc Tryd.prog W 0 (fun _ => true) true 72 v d p) :
    ∃ (cs : List Cap) (ao : Option Addr) (c : Nat), v = .slice ao cs.length c ∧ IsRow encCap 3 W (.slice ao cs.length c) cs := by
  obtain ⟨a0, len0, cap0, rfl⟩ := okWide_slice Tryd.underlying72 hv
  obtain ⟨fuel, hf⟩ := h
  obtain ⟨cs, hcs⟩ := row_of_trod (enc := encCap) Tryd.underlying72 cellsT136 (by decide) (fun n cs y h => by obtain ⟨a, b, c, e⟩ := open136 h; exact ⟨⟨a, b, c⟩, e⟩) hf
  have hcs' := hcs
  obtain ⟨ao, c, e, -⟩ := hcs'
  exact ⟨cs, ao, c, e, by rw [← e]; exact hcs⟩
theorem back72 {v : Value} {d : DataW H} {p : List MemPlace} (h : DataW.Trod enc Tryd.prog W 0 (fun _ => true) true 72 v d p) (hlt : ∀ x ∈ p, x.block < W.heap.size) {W' : World} (hb : Below W.heap.size W W') :
    DataW.Trod enc Tryd.prog W' 0 (fun b => decide (b < W.heap.size)) true 72 v d p :=
  Below.trod Tryd.laidOut (by kernel_rfl) (of_decide_eq_true (by kernel_rfl)) h hb hlt
end
end Go.Proofs.YtggcbblikgankaaDoor
end

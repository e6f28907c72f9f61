/- Contracts and plain laws on the way to the statement: part 49. -/
import Derived.Test.YtggcbblikgankaaGreatDoorZ38
import Derived.Test.YtggcbblikgankaaGreatDoorZ27
set_option linter.unusedVariables false
set_option linter.unusedSimpArgs false
section
set_option maxRecDepth 100000
namespace Go.Proofs.YtggcbblikgankaaGreatDoor
open Go.ChangeShapes Go.WideShapes Go.ChangeAt Go.RowKit Go.Deep
section
variable {H : Type} {enc : TypeId × Value → H} {W : World}
theorem cellsT79 : Tryz.prog.cellsOf 55 = 1 := by kernel_rfl
theorem open_cap {t e : TypeId} (ht : Tryz.prog.underlying t = some (.slice e)) {n : Nat} {v : Value} {y : DataW H × List MemPlace} (h : DataW.trod enc Tryz.prog W 0 (fun _ => true) true n t [v] = some y) :
  ∃ ao len cap, v = .slice ao len cap ∧ len ≤ cap ∧ cap ≤ maxLen := by
 rcases open_slice ht h with ⟨hcs, _⟩ | ⟨a, len, cap, m, n', D, Pl, hcs, hb, hl, hm, _⟩
 ·injection hcs with hcs _
  exact ⟨none, 0, 0, hcs, Nat.le_refl _, Nat.zero_le _⟩
 ·injection hcs with hcs _
  exact ⟨some a, len, cap, hcs, hl, hm⟩
theorem open3 {n : Nat} {cs : List Value} {y : DataW H × List MemPlace} (h : DataW.trod enc Tryz.prog W 0 (fun _ => true) true n 3 cs = some y) : ∃ x : Int, cs = encI x := by
 have := DataW.trod_int Tryz.underlying3 h
 obtain ⟨a, e, _⟩ := this
 exact ⟨a, e⟩
theorem open_ints' {n : Nat} {v : Value} {y : DataW H × List MemPlace} (h : DataW.trod enc Tryz.prog W 0 (fun _ => true) true n 55 [v] = some y) :
  ∃ (xs : List Int) (ao : Option Addr) (c : Nat), v = .slice ao xs.length c ∧ IsRow encI 1 W (.slice ao xs.length c) xs ∧ xs.length ≤ c ∧ c ≤ maxLen := by
 obtain ⟨xs, hx⟩ := row_of_trod (enc := encI) Tryz.underlying55 cellsT3 (by decide) (fun n cs y h => open3 h) h
 obtain ⟨a2, l2, c2, e2, h1, h2⟩ := open_cap Tryz.underlying55 h
 have hx' := hx
 obtain ⟨ao, c, e, _⟩ := hx'
 rw [e] at e2
 injection e2 with e3 e4 e5
 subst e5
 exact ⟨xs, ao, c, e, by rw [← e]; exact hx, by omega, h2⟩
theorem isRow_map {α β : Type} {e1 : α → List Value} {e2 : β → List Value} {k : Nat} {f : α → β} (hf : ∀ x, e1 x = e2 (f x)) {w : World} {v : Value} {xs : List α} (h : IsRow e1 k w v xs) : IsRow e2 k w v (xs.map f) := by
 obtain ⟨ao, c, e, hl, h⟩ := h
 refine ⟨ao, c, by rw [e, List.length_map], by rw [List.length_map]; exact hl, ?_⟩
 rcases h with h | ⟨b, o, e2, ha, hlt⟩
 ·left; rw [h]; rfl
 ·right
  refine ⟨b, o, e2, fun i y hy j u hu => ?_, hlt⟩
  rw [List.getElem?_map] at hy
  obtain ⟨x, hx, rfl⟩ := Option.map_eq_some_iff.1 hy
  exact ha i x hx j u (by rw [hf]; exact hu)
theorem open_mat {base : Nat} {v : Value} {d : DataW H} {p : List MemPlace} (hv : Value.okWide Tryz.prog W .any base 50 v) (h : DataW.Trod enc Tryz.prog W 0 (fun _ => true) true 50 v d p) :
  ∃ (cost : List (List Int)) (ao : Option Addr) (c : Nat), v = .slice ao cost.length c ∧ IsMat W (.slice ao cost.length c) cost ∧ cost.length ≤ c ∧ c ≤ maxLen := by
 obtain ⟨a0, len0, cap0, rfl⟩ := okWide_slice Tryz.underlying50 hv
 obtain ⟨fuel, hf⟩ := h
 have : Inhabited { u : Value // ∃ xs, IsRow encI 1 W u xs } := ⟨⟨.slice none 0 0, [], IsRow.nil⟩⟩
 obtain ⟨rs, hx⟩ := row_of_trod (α := { u : Value // ∃ xs, IsRow encI 1 W u xs }) (enc := fun x => [x.1]) Tryz.underlying50 cellsT79 (by decide) (fun n cs y h => by
  obtain ⟨u, hu⟩ : ∃ u, cs = [u] := by
   rcases open_slice Tryz.underlying55 h with ⟨hcs, _⟩ | ⟨a, len, cap, m, n', D, Pl, hcs, _⟩
   ·exact ⟨_, hcs⟩
   ·exact ⟨_, hcs⟩
  subst hu
  obtain ⟨xs, ao, c, e, hr, _⟩ := open_ints' h
  exact ⟨⟨u, xs, by rw [e]; exact hr⟩, rfl⟩) hf
 obtain ⟨a2, l2, c2, e2, h1, h2⟩ := open_cap Tryz.underlying50 hf
 have hx' := hx
 obtain ⟨ao, c, e, _⟩ := hx'
 rw [e] at e2
 injection e2 with e3 e4 e5
 subst e5
 refine ⟨rs.map fun x => Classical.choose x.2, ao, c, by rw [e, List.length_map], ?_, by rw [List.length_map]; omega, h2⟩
 rw [List.length_map, ← e]
 refine ⟨rs.map Subtype.val, isRow_map (e2 := encH) (f := Subtype.val) (fun _ => rfl) hx, by simp, fun i u row hu hr => ?_⟩
 rw [List.getElem?_map] at hu hr
 obtain ⟨x, hx1, rfl⟩ := Option.map_eq_some_iff.1 hu
 rw [hx1] at hr
 simp only [Option.map_some, Option.some.injEq] at hr
 subst hr
 exact Classical.choose_spec x.2
theorem back78 {v : Value} {d : DataW H} {p : List MemPlace} (h : DataW.Trod enc Tryz.prog W 0 (fun _ => true) true 50 v d p) (hlt : ∀ x ∈ p, x.block < W.heap.size) {W' : World} (hb : Below W.heap.size W W') :
  DataW.Trod enc Tryz.prog W' 0 (fun b => decide (b < W.heap.size)) true 50 v d p :=
 Below.trod Tryz.laidOut (by kernel_rfl) (of_decide_eq_true (by kernel_rfl)) h hb hlt
end
end Go.Proofs.YtggcbblikgankaaGreatDoor
end

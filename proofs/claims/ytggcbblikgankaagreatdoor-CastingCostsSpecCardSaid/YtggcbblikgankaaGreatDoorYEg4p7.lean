/- The walk of the statement: part 7. -/
import Derived.Test.YtggcbblikgankaaGreatDoorZ41
import Derived.Test.YtggcbblikgankaaGreatDoorZ37
import Derived.Test.YtggcbblikgankaaGreatDoorZ3
set_option linter.unusedVariables false
set_option linter.unusedSimpArgs false
set_option maxRecDepth 100000
set_option maxHeartbeats 16000000
namespace Go.Proofs.YtggcbblikgankaaGreatDoor
open Go.Value (int)
open Go.IntKind (i64)
section
open Go.ChangeShapes Go.WideShapes Go.ChangeAt Go.RowKit Go.Deep
section
variable {H : Type} {enc : TypeId × Value → H} {W : World}
theorem O1 : Tryz.prog.cellsOf 35 = 17 := by kernel_rfl
theorem Ln {base : Nat} {v : Value} {d : DataW H} {p : List MemPlace} (hv : Value.okWide Tryz.prog W .any base 48 v) (h : DataW.Trod enc Tryz.prog W 0 (fun _ => true) true 48 v d p) :
  ∃ (bs : List Bod) (ao : Option Addr) (c : Nat), v = .slice ao bs.length c ∧ IsRow He 17 W (.slice ao bs.length c) bs ∧ (∀ b ∈ bs, b.name.length ≤ maxLen) := by
 obtain ⟨a0, len0, cap0, rfl⟩ := okWide_slice Tryz.underlying48 hv
 obtain ⟨fuel, hf⟩ := h
 have : Inhabited { b : Bod // b.name.length ≤ maxLen } := ⟨⟨⟨[], 0, 0, 0, 0, 0, 0, 0, 0, 0, 0, 0, 0, 0, 0, 0, 0⟩, Nat.zero_le _⟩⟩
 obtain ⟨rs, hx⟩ := Cd (α := { b : Bod // b.name.length ≤ maxLen }) (enc := fun x => He x.1) Tryz.underlying48 O1 (by decide) (fun n cs y h => by
  obtain ⟨name, k1, k2, k3, k4, k5, r0, r1, r2, s0, s1, s2, t0, t1, t2, ef, rc, e, hn⟩ := SA h
  exact ⟨⟨⟨name, k1, k2, k3, k4, k5, r0, r1, r2, s0, s1, s2, t0, t1, t2, ef, rc⟩, hn⟩, e⟩) hf
 have hx' := hx
 obtain ⟨ao, c, e, _⟩ := hx'
 refine ⟨rs.map Subtype.val, ao, c, by rw [e, List.length_map], ?_, fun b hb => ?_⟩
 ·rw [List.length_map, ← e]
  exact Ow (e2 := He) (f := Subtype.val) (fun _ => rfl) hx
 ·obtain ⟨x, _, rfl⟩ := List.mem_map.1 hb
  exact x.2
theorem So {v : Value} {d : DataW H} {p : List MemPlace} (h : DataW.Trod enc Tryz.prog W 0 (fun _ => true) true 48 v d p) (hlt : ∀ x ∈ p, x.block < W.heap.size) {W' : World} (hb : Below W.heap.size W W') :
  DataW.Trod enc Tryz.prog W' 0 (fun b => decide (b < W.heap.size)) true 48 v d p :=
 Below.trod Tryz.laidOut (by kernel_rfl) (of_decide_eq_true (by kernel_rfl)) h hb hlt
end
end
end Go.Proofs.YtggcbblikgankaaGreatDoor

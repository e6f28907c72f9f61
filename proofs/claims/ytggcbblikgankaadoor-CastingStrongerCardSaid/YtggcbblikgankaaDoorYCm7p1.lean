/- The walk of the statement: part 1. -/
import Derived.Test.YtggcbblikgankaaDoorZ36
import Derived.Test.YtggcbblikgankaaDoorZ38
import Derived.Test.YtggcbblikgankaaDoorZ30
import Derived.Test.YtggcbblikgankaaDoorZ49
import Derived.Test.YtggcbblikgankaaDoorZ45
import Derived.Lib.LaidTab
import Derived.LaidLaws
import Derived.JoinedAt
import Derived.Carry
import Derived.SizedLaws
import Derived.ProofKit
import Derived.OpenShut
import Derived.WideShapes
set_option linter.unusedVariables false
set_option linter.unusedSimpArgs false
section
namespace Go.Proofs.YtggcbblikgankaaDoor
open Go Go.RowKit
def hasN (l : List Rea) (r : Rea) : Nat := l.countP fun x => decide (x = r)
end Go.Proofs.YtggcbblikgankaaDoor
end
section
set_option maxRecDepth 100000
namespace Go.Proofs.YtggcbblikgankaaDoor
open Go.ChangeShapes Go.WideShapes Go.ChangeAt Go.RowKit
section
variable {H : Type} {enc : TypeId × Value → H} {W : World}
theorem open_body {base : Nat} {v : Value} {d : DataW H} {p : List MemPlace} (hv : Value.okWide Tryd.prog W .any base 36 v) (h : DataW.Trod enc Tryd.prog W 0 (fun _ => true) true 36 v d p) :
  ∃ b : Bod, v = bodV b ∧ b.name.length ≤ maxLen := by
 obtain ⟨cs, rfl, hcs⟩ := okWide_struct Tryd.underlying36 hv
 obtain ⟨fuel, hf⟩ := h
 obtain ⟨name, k1, k2, k3, k4, k5, r0, r1, r2, s0, s1, s2, t0, t1, t2, ef, rc, e, hn⟩ := open36 hf
 refine ⟨⟨name, k1, k2, k3, k4, k5, r0, r1, r2, s0, s1, s2, t0, t1, t2, ef, rc⟩, ?_, hn⟩
 unfold bodV
 congr 1
 exact Array.toList_inj.1 e
theorem back36 {v : Value} {d : DataW H} {p : List MemPlace} (h : DataW.Trod enc Tryd.prog W 0 (fun _ => true) true 36 v d p) (hlt : ∀ x ∈ p, x.block < W.heap.size) {W' : World} (hb : Below W.heap.size W W') :
  DataW.Trod enc Tryd.prog W' 0 (fun b => decide (b < W.heap.size)) true 36 v d p :=
 Below.trod Tryd.laidOut (by kernel_rfl) (of_decide_eq_true (by kernel_rfl)) h hb hlt
end
def bod0 : Value := .agg #[.string ByteArray.empty, .int .i64 0, .int .i64 0, .int .i64 0, .int .i64 0, .int .i64 0, .int .i64 0, .int .i64 0, .int .i64 0, .int .i64 0, .int .i64 0, .int .i64 0, .int .i64 0, .int .i64 0, .int .i64 0, .int .i64 0, .int .i64 0]
end Go.Proofs.YtggcbblikgankaaDoor
end
section
namespace Go.Proofs.YtggcbblikgankaaDoor
open Go Go.RowKit
end Go.Proofs.YtggcbblikgankaaDoor
end
section
set_option maxRecDepth 100000
namespace Go.Proofs.YtggcbblikgankaaDoor
open Go.ChangeShapes Go.WideShapes Go.ChangeAt Go.RowKit Go.Deep
section
variable {H : Type} {enc : TypeId × Value → H} {W : World}
theorem cellsT36' : Tryd.prog.cellsOf 36 = 17 := by kernel_rfl
theorem open_bodies {base : Nat} {v : Value} {d : DataW H} {p : List MemPlace} (hv : Value.okWide Tryd.prog W .any base 93 v) (h : DataW.Trod enc Tryd.prog W 0 (fun _ => true) true 93 v d p) :
  ∃ (bs : List Bod) (ao : Option Addr) (c : Nat), v = .slice ao bs.length c ∧ IsRow encB 17 W (.slice ao bs.length c) bs ∧ (∀ b ∈ bs, b.name.length ≤ maxLen) := by
 obtain ⟨a0, len0, cap0, rfl⟩ := okWide_slice Tryd.underlying93 hv
 obtain ⟨fuel, hf⟩ := h
 have : Inhabited { b : Bod // b.name.length ≤ maxLen } := ⟨⟨⟨[], 0, 0, 0, 0, 0, 0, 0, 0, 0, 0, 0, 0, 0, 0, 0, 0⟩, Nat.zero_le _⟩⟩
 obtain ⟨rs, hx⟩ := row_of_trod (α := { b : Bod // b.name.length ≤ maxLen }) (enc := fun x => encB x.1) Tryd.underlying93 cellsT36' (by decide) (fun n cs y h => by
  obtain ⟨name, k1, k2, k3, k4, k5, r0, r1, r2, s0, s1, s2, t0, t1, t2, ef, rc, e, hn⟩ := open36 h
  exact ⟨⟨⟨name, k1, k2, k3, k4, k5, r0, r1, r2, s0, s1, s2, t0, t1, t2, ef, rc⟩, hn⟩, e⟩) hf
 have hx' := hx
 obtain ⟨ao, c, e, _⟩ := hx'
 refine ⟨rs.map Subtype.val, ao, c, by rw [e, List.length_map], ?_, fun b hb => ?_⟩
 ·rw [List.length_map, ← e]
  exact isRow_map (e2 := encB) (f := Subtype.val) (fun _ => rfl) hx
 ·obtain ⟨x, _, rfl⟩ := List.mem_map.1 hb
  exact x.2
theorem back93 {v : Value} {d : DataW H} {p : List MemPlace} (h : DataW.Trod enc Tryd.prog W 0 (fun _ => true) true 93 v d p) (hlt : ∀ x ∈ p, x.block < W.heap.size) {W' : World} (hb : Below W.heap.size W W') :
  DataW.Trod enc Tryd.prog W' 0 (fun b => decide (b < W.heap.size)) true 93 v d p :=
 Below.trod Tryd.laidOut (by kernel_rfl) (of_decide_eq_true (by kernel_rfl)) h hb hlt
end
end Go.Proofs.YtggcbblikgankaaDoor
end

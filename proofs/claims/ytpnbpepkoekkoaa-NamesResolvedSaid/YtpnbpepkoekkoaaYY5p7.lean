/- The walk of the statement: part 7. -/
import Derived.Test.YtpnbpepkoekkoaaZ39
set_option linter.unusedVariables false
set_option linter.unusedSimpArgs false
section
namespace Go.Proofs.Ytpnbpepkoekkoaa
open Go Go.ChangeShapes Go.WideShapes Go.ChangeAt Go.RowKit Go.Deep
section
variable {H : Type} {enc : TypeId × Value → H} {W : World}
set_option maxRecDepth 100000
theorem open_u16 {base : Nat} {v : Value} {d : DataW H} {p : List MemPlace} (hv : Value.okWide Try.prog W .any base 31 v) (h : DataW.Trod enc Try.prog W 0 (fun _ => true) true 31 v d p) :
  ∃ n : Nat, v = .int .u16 n ∧ n < 65536 := by
 obtain ⟨n, rfl⟩ := okWide_int Try.underlying31 hv
 obtain ⟨fuel, hf⟩ := h
 obtain ⟨m, e, -, hw⟩ := DataW.trod_int Try.underlying31 hf
 obtain ⟨h0, h1⟩ := bounds_u16 hw
 have e' : n = m := by
  have : ([Value.int .u16 n] : List Value) = [Value.int .u16 m] := e
  simpa using this
 subst e'
 exact ⟨n.toNat, by congr 1; omega, by omega⟩
theorem open_i8 {base : Nat} {v : Value} {d : DataW H} {p : List MemPlace} (hv : Value.okWide Try.prog W .any base 32 v) (h : DataW.Trod enc Try.prog W 0 (fun _ => true) true 32 v d p) :
  ∃ n : Int, v = .int .i8 n ∧ (-128 ≤ n ∧ n < 128) := by
 obtain ⟨n, rfl⟩ := okWide_int Try.underlying32 hv
 obtain ⟨fuel, hf⟩ := h
 obtain ⟨m, e, -, hw⟩ := DataW.trod_int Try.underlying32 hf
 obtain ⟨h0, h1⟩ := bounds_i8 hw
 have e' : n = m := by
  have : ([Value.int .i8 n] : List Value) = [Value.int .i8 m] := e
  simpa using this
 subst e'
 exact ⟨n, rfl, by omega, by omega⟩
theorem back31 {v : Value} {d : DataW H} {p : List MemPlace} (h : DataW.Trod enc Try.prog W 0 (fun _ => true) true 31 v d p) (hlt : ∀ x ∈ p, x.block < W.heap.size) {W' : World} (hb : Below W.heap.size W W') :
  DataW.Trod enc Try.prog W' 0 (fun b => decide (b < W.heap.size)) true 31 v d p :=
 Below.trod laidOutT (by kernel_rfl) (of_decide_eq_true (by kernel_rfl)) h hb hlt
theorem back32 {v : Value} {d : DataW H} {p : List MemPlace} (h : DataW.Trod enc Try.prog W 0 (fun _ => true) true 32 v d p) (hlt : ∀ x ∈ p, x.block < W.heap.size) {W' : World} (hb : Below W.heap.size W W') :
  DataW.Trod enc Try.prog W' 0 (fun b => decide (b < W.heap.size)) true 32 v d p :=
 Below.trod laidOutT (by kernel_rfl) (of_decide_eq_true (by kernel_rfl)) h hb hlt
end
end Go.Proofs.Ytpnbpepkoekkoaa
end

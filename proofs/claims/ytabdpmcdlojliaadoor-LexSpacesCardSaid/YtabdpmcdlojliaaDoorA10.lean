/- The door of lex.Lex: what the deferred closure makes of a panic, and of a return. -/
import Derived.Test.YtabdpmcdlojliaaDoorA9
namespace Go.Proofs.YtabdpmcdlojliaaDoor
open Go.RowKit

set_option maxHeartbeats 1000000 in
theorem door_err (t : Array Value) (B a : Nat) (R : Ending → World → Prop) (w2 : World) (x y z : Value) (ht2 : t.getD 2 undef = .pointer (some ⟨B, 0, none⟩)) (ht3 : t.getD 3 undef = .pointer (some ⟨B + 1, 0, none⟩)) (ht4 : t.getD 4 undef = .pointer (some ⟨B + 2, 0, none⟩))
    (h0 : w2.heap[B]? = some (.cells #[x] 23 (0, 0))) (h1 : w2.heap[B + 1]? = some (.cells #[y] 3 (0, 0))) (h2 : w2.heap[B + 2]? = some (.cells #[z] 24 (0, 0)))
    (hR : ∀ w', Below B w2 w' → R (.returned (.tuple #[.slice none 0 0, .int .i64 a, .int .i64 30])) w') :
    bodyPostD Tryd.prog Tryd.f12 R (Exit.panic [{ v := .iface 42 (.int .i64 a), recovered := false }])
      { tmps := t, defers := [{ target := .fn (.func 24) #[.pointer (some ⟨B, 0, none⟩), .pointer (some ⟨B + 1, 0, none⟩), .pointer (some ⟨B + 2, 0, none⟩)], args := #[] }] } w2 := by
  have HR := Lib.hid hR; clear hR
  refine leaves_cons (f := 24) (args := #[.pointer (some ⟨B, 0, none⟩), .pointer (some ⟨B + 1, 0, none⟩), .pointer (some ⟨B + 2, 0, none⟩)]) (by simp) (by simp [go_sem]) ?_
  refine (catch_panicking B a x y z [] _ h0 h1 h2).mono ?_
  rintro e u' w'' ⟨rfl, rfl, k0, k1, k2, hB⟩
  have c0 := cell_of_block k0 0 (by simp)
  have c1 := cell_of_block k1 0 (by simp)
  have c2 := cell_of_block k2 0 (by simp)
  simp at c0 c1 c2 ht2 ht3 ht4
  have HB := Lib.hid hB; clear hB k0 k1 k2 h0 h1 h2
  simp [Leaves, settle, results, Tryd.results12, go_sem, ht2, ht3, ht4, c0, c1, c2]
  exact HR.out _ HB.out

set_option maxHeartbeats 1000000 in
theorem door_ok (t : Array Value) (B : Nat) (R : Ending → World → Prop) (w2 : World) (x y z : Value) (ht2 : t.getD 2 undef = .pointer (some ⟨B, 0, none⟩)) (ht3 : t.getD 3 undef = .pointer (some ⟨B + 1, 0, none⟩)) (ht4 : t.getD 4 undef = .pointer (some ⟨B + 2, 0, none⟩))
    (h0 : w2.cell? ⟨B, 0, none⟩ = some x) (h1 : w2.cell? ⟨B + 1, 0, none⟩ = some y) (h2 : w2.cell? ⟨B + 2, 0, none⟩ = some z)
    (hR : R (.returned (.tuple #[x, y, z])) w2) :
    bodyPostD Tryd.prog Tryd.f12 R Exit.ret
      { tmps := t, defers := [{ target := .fn (.func 24) #[.pointer (some ⟨B, 0, none⟩), .pointer (some ⟨B + 1, 0, none⟩), .pointer (some ⟨B + 2, 0, none⟩)], args := #[] }] } w2 := by
  have HR := Lib.hid hR; clear hR
  simp at ht2 ht3 ht4
  refine leaves_cons (f := 24) (args := #[.pointer (some ⟨B, 0, none⟩), .pointer (some ⟨B + 1, 0, none⟩), .pointer (some ⟨B + 2, 0, none⟩)]) (by simp) (by simp [go_sem]) ?_
  refine (catch_idle _ _ _ _).mono ?_
  rintro e u' w'' ⟨rfl, rfl, rfl⟩
  simp [Leaves, settle, results, Tryd.results12, go_sem, ht2, ht3, ht4, h0, h1, h2]
  exact HR.out
end Go.Proofs.YtabdpmcdlojliaaDoor

/- Contracts of the scanner's methods that panic: wrong, and add at a token that is not valid. -/
import Derived.Test.YtabdpmcdlojliaaDoorA4
namespace Go.Proofs.YtabdpmcdlojliaaDoor
open Go.RowKit

/-- The panic with a place. -/
def placePanic (a : Nat) : Ending := .panicked [{ v := .iface 42 (.int .i64 a), recovered := false }]

set_option maxHeartbeats 1000000 in
theorem wrong_any (S a : Nat) (src : ByteArray) (v : Value) (w : World) (hS : w.heap[S]? = some (.cells #[.string src, .int .i64 a, v] 49 (0, 0))) :
    Calls Tryd.prog 25 #[.pointer (some ⟨S, 0, none⟩)] w fun e w' => e = placePanic a ∧ w = w' := by
  have c1 := cell_of_block hS 1 (by simp)
  simp at c1
  have HS := Lib.hid hS; clear hS
  go_enter Tryd.func25, Tryd.ntmps25
  go_wp2_with fail
  exact ⟨rfl, rfl, rfl⟩

set_option maxHeartbeats 1000000 in
theorem add_bad (S a : Nat) (src text tx : ByteArray) (kd nm ps : Int) (v : Value) (w : World) (hS : w.heap[S]? = some (.cells #[.string src, .int .i64 a, v] 49 (0, 0)))
    (hSl : S < w.heap.size) (hv : validT ⟨kd, tx.data.toList, nm, ps⟩ = false) (hs : tx.size ≤ maxLen) :
    Calls Tryd.prog 44 #[.pointer (some ⟨S, 0, none⟩), .string text, .agg #[.int .i64 kd, .string tx, .int .i64 nm, .int .i64 ps]] w fun e w' => e = placePanic a ∧ Below w.heap.size w w' := by
  have HS := Lib.hid hS; clear hS
  have HV := Lib.hid hv; clear hv
  go_enter Tryd.func44, Tryd.ntmps44
  go_wp2_with fail
  refine (valid_any _ _ _ _ _ hs).mono ?_
  rintro e w1 ⟨rfl, hb1⟩
  have hS1 : w1.heap[S]? = some (.cells #[.string src, .int .i64 a, v] 49 (0, 0)) := (hb1.block S (by simp; omega)).trans ((Below.heap_alloc w _ S hSl).trans HS.out)
  have hB1 : Below w.heap.size w w1 := ((Below.refl _ w).alloc (by omega) _).trans (hb1.mono (by simp))
  have HB1 := Lib.hid hB1; clear hB1
  have c1 := cell_of_block hS1 1 (by simp)
  simp at c1
  rw [HV.out]
  have HS1 := Lib.hid hS1; clear hS1 hb1
  go_wp2_with fail
  exact ⟨rfl, rfl, HB1.out⟩

end Go.Proofs.YtabdpmcdlojliaaDoor

/- Contracts and plain laws on the way to the statement: part 6. -/
import Derived.Shelf.Bits.Mul64
import Derived.Ground.Names2Prog
import Derived.Shelf.Slices.Clone
import Derived.Test.YtggcbblikgankaaDoorProg
set_option linter.unusedVariables false
set_option linter.unusedSimpArgs false
section
namespace Go.Proofs
open Go.Shelf
def Tryd.lays212_ren : Go.Shelf.Ren := ⟨fun | 212 => 112 | 263 => 122 | 264 => 123 | n => n, fun | 46 => 187 | 51 => 205 | 146 => 206 | 53 => 208 | 148 => 209 | n => n, fun | n => n⟩
theorem Tryd.lays212 : Go.Proofs.Lays.n212 Tryd.prog Tryd.lays212_ren := {
 mixed := by kernel_rfl
 f212 := Tryd.func112.trans (congrArg some (by kernel_rfl))
 f263 := Tryd.func122.trans (congrArg some (by kernel_rfl))
 f264 := Tryd.func123.trans (congrArg some (by kernel_rfl))
 t46 := Tryd.underlying187
 a46 := Tryd.isAgg187
 z46 := Tryd.sizeOf187
 v46 := Tryd.zeroValue187
 t51 := Tryd.underlying205
 a51 := Tryd.isAgg205
 z51 := Tryd.sizeOf205
 v51 := Tryd.zeroValue205
 t53 := Tryd.underlying208
 a53 := Tryd.isAgg208
 z53 := Tryd.sizeOf208
 v53 := Tryd.zeroValue208
 t146 := Tryd.underlying206
 a146 := Tryd.isAgg206
 z146 := Tryd.sizeOf206
 v146 := Tryd.zeroValue206
 t148 := Tryd.underlying209
 a148 := Tryd.isAgg209
 z148 := Tryd.sizeOf209
 v148 := Tryd.zeroValue209 }
open Go.RowKit Go.Lib in
theorem Tryd.bits_Mul (x y : Nat) (hx : x < 18446744073709551616) (hy : y < 18446744073709551616) (w : World) :
  Calls Tryd.prog 112 #[.int .u64 x, .int .u64 y] w fun e w' => e = .returned (.tuple #[.int .u64 ((x * y / 18446744073709551616 : Nat) : Int), .int .u64 ((x * y % 18446744073709551616 : Nat) : Int)]) ∧ w' = w := Any.bits_Mul Tryd.lays212 x y hx hy w
def Tryd.laysNm215_ren : Go.Shelf.Ren := ⟨fun | 15 => 67 | n => n, fun | 22 => 79 | 3 => 3 | 4 => 4 | n => n, fun | n => n⟩
theorem Tryd.laysNm215 : Go.Proofs.Lays2.n15 Tryd.prog Tryd.laysNm215_ren := {
 mixed := by kernel_rfl
 f15 := Tryd.func67.trans (congrArg some (by kernel_rfl))
 t3 := Tryd.underlying3
 a3 := Tryd.isAgg3
 z3 := Tryd.sizeOf3
 v3 := Tryd.zeroValue3
 t4 := Tryd.underlying4
 a4 := Tryd.isAgg4
 z4 := Tryd.sizeOf4
 v4 := Tryd.zeroValue4
 t22 := Tryd.underlying79
 a22 := Tryd.isAgg79
 z22 := Tryd.sizeOf79
 v22 := Tryd.zeroValue79
 i3 := by kernel_rfl }
open Go.RowKit Go.Lib in
theorem Tryd.slices_Clone_int (b off n c : Nat) (zs : List Int) (w : World) (hz : n ≤ zs.length) (hbig : n * 8 ≤ 140737488355328) (hc : ∀ j, j < zs.length → w.cell? ⟨b, off + j, none⟩ = some (.int .i64 (zs.getD j 0))) :
  Calls Tryd.prog 67 #[.slice (some ⟨b, off, none⟩) n c] w fun e w' => ∃ v', e = .returned v' ∧ w'.ownsRow w.heap.size 3 1 v' n ((zs.take n).map (Value.int .i64)) ∧ v' ≠ .slice none 0 0 ∧ Below w.heap.size w w' := Any.slices_Clone_int Tryd.laysNm215 b off n c zs w hz hbig hc
open Go.RowKit Go.Lib in
theorem Tryd.slices_Clone_int_nil (n c : Nat) (w : World) :
  Calls Tryd.prog 67 #[.slice none n c] w fun e w' => e = .returned (.slice none 0 0) ∧ w' = w := Any.slices_Clone_int_nil Tryd.laysNm215 n c w
end Go.Proofs
end

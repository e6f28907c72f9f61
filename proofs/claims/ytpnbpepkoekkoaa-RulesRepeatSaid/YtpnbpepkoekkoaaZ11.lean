/- Contracts and plain laws on the way to the statement: part 11. -/
import Derived.Shelf.Small.Strs
import Derived.Shelf.Strings.Search1
import Derived.Shelf.Strings.Search2
import Derived.Shelf.Strings.Search3
import Derived.Shelf.SlGeneric
import Derived.Ground.SlgnProg
import Derived.Shelf.SlicesE.Clone
import Derived.Test.YtpnbpepkoekkoaaProg
import Derived.Test.YtpnbpepkoekkoaaZ3
set_option linter.unusedVariables false
set_option linter.unusedSimpArgs false
set_option maxRecDepth 100000
set_option maxHeartbeats 16000000
namespace Go.Proofs.Ytpnbpepkoekkoaa
open Go.Value (int)
open Go.IntKind (i64)
end Go.Proofs.Ytpnbpepkoekkoaa
section
open Go.Value (int)
open Go.IntKind (i64)
namespace Go.Proofs
open Go.Shelf
def Try.lays137_ren : Go.Shelf.Ren := ⟨fun | 137 => 103 | 217 => 109 | 266 => 116 | n => n, fun | 9 => 9 | 5 => 5 | 3 => 3 | n => n, fun | n => n⟩
theorem Try.lays137 : Go.Proofs.Lays.n137 Try.prog Try.lays137_ren := {
 mixed := by kernel_rfl
 f137 := Try.func103.trans (congrArg some (by kernel_rfl))
 f217 := Try.func109.trans (congrArg some (by kernel_rfl))
 f266 := Try.func116.trans (congrArg some (by kernel_rfl))
 t3 := Try.underlying3
 a3 := Try.isAgg3
 z3 := Try.sizeOf3
 v3 := Try.zeroValue3
 t5 := Try.underlying5
 a5 := Try.isAgg5
 z5 := Try.sizeOf5
 v5 := Try.zeroValue5
 t9 := Try.underlying9
 a9 := Try.isAgg9
 z9 := Try.sizeOf9
 v9 := Try.zeroValue9 }
open Go.RowKit in
theorem Try.strings_IndexByte (s : ByteArray) (c : Int) (w : World) :
  Calls Try.prog 103 #[.string s, .int .u8 c] w fun e w' => e = .returned (int i64 (Lib.indexByte s.data.toList c.toNat.toUInt8)) ∧ w' = w := Any.strings_IndexByte Try.lays137 s c w
def Try.lays144_ren : Go.Shelf.Ren := ⟨fun | 144 => 71 | 143 => 92 | 219 => 104 | 217 => 109 | 225 => 110 | 224 => 111 | 267 => 112 | 266 => 116 | 314 => 117 | n => n, fun | 9 => 9 | 4 => 4 | 3 => 3 | 5 => 5 | 46 => 162 | 146 => 166 | 51 => 165 | n => n, fun | 1 => 0 | n => n⟩
theorem Try.lays144 : Go.Proofs.Lays.n144 Try.prog Try.lays144_ren := {
 mixed := by kernel_rfl
 f143 := Try.func92.trans (congrArg some (by kernel_rfl))
 f144 := Try.func71.trans (congrArg some (by kernel_rfl))
 f217 := Try.func109.trans (congrArg some (by kernel_rfl))
 f219 := Try.func104.trans (congrArg some (by kernel_rfl))
 f224 := Try.func111.trans (congrArg some (by kernel_rfl))
 f225 := Try.func110.trans (congrArg some (by kernel_rfl))
 f266 := Try.func116.trans (congrArg some (by kernel_rfl))
 f267 := Try.func112.trans (congrArg some (by kernel_rfl))
 f314 := Try.func117.trans (congrArg some (by kernel_rfl))
 t3 := Try.underlying3
 a3 := Try.isAgg3
 z3 := Try.sizeOf3
 v3 := Try.zeroValue3
 t4 := Try.underlying4
 a4 := Try.isAgg4
 z4 := Try.sizeOf4
 v4 := Try.zeroValue4
 t5 := Try.underlying5
 a5 := Try.isAgg5
 z5 := Try.sizeOf5
 v5 := Try.zeroValue5
 t9 := Try.underlying9
 a9 := Try.isAgg9
 z9 := Try.sizeOf9
 v9 := Try.zeroValue9
 t46 := Try.underlying162
 a46 := Try.isAgg162
 z46 := Try.sizeOf162
 v46 := Try.zeroValue162
 t51 := Try.underlying165
 a51 := Try.isAgg165
 z51 := Try.sizeOf165
 v51 := Try.zeroValue165
 t146 := Try.underlying166
 a146 := Try.isAgg166
 z146 := Try.sizeOf166
 v146 := Try.zeroValue166
 g1 := by kernel_rfl }
open Go.RowKit Go.Lib in
theorem Try.strings_Contains (s sub : ByteArray) (m : Int) (w : World) (hs : s.size < 4294967281) (hm : w.cell? ⟨0, 0, none⟩ = some (int i64 m)) :
  Calls Try.prog 71 #[.string s, .string sub] w fun e w' => e = .returned (.bool (Lib.contains s.data.toList sub.data.toList)) ∧ w' = w := Any.strings_Contains Try.lays144 s sub m w hs hm
def Try.clone46_ren : Go.Shelf.Ren := ⟨fun | 41 => 46 | n => n, fun | 22 => 27 | 23 => 57 | 4 => 4 | n => n, fun | n => n⟩
theorem Try.clone46 : Go.Proofs.SlLaysE0.n41 Try.prog Try.clone46_ren := {
 mixed := by kernel_rfl
 f41 := ⟨Try.f46.name, by decide, Try.func46.trans (congrArg some (by kernel_rfl))⟩
 t4 := Try.underlying4
 a4 := Try.isAgg4
 z4 := Try.sizeOf4
 v4 := Try.zeroValue4
 t22 := Try.underlying27
 a22 := Try.isAgg27
 z22 := Try.sizeOf27
 v22 := Try.zeroValue27 }
def Try.clone47_ren : Go.Shelf.Ren := ⟨fun | 41 => 47 | n => n, fun | 22 => 28 | 23 => 73 | 4 => 4 | n => n, fun | n => n⟩
theorem Try.clone47 : Go.Proofs.SlLaysE0.n41 Try.prog Try.clone47_ren := {
 mixed := by kernel_rfl
 f41 := ⟨Try.f47.name, by decide, Try.func47.trans (congrArg some (by kernel_rfl))⟩
 t4 := Try.underlying4
 a4 := Try.isAgg4
 z4 := Try.sizeOf4
 v4 := Try.zeroValue4
 t22 := Try.underlying28
 a22 := Try.isAgg28
 z22 := Try.sizeOf28
 v22 := Try.zeroValue28 }
def Try.clone72_ren : Go.Shelf.Ren := ⟨fun | 41 => 72 | n => n, fun | 22 => 55 | 23 => 78 | 4 => 4 | n => n, fun | n => n⟩
theorem Try.clone72 : Go.Proofs.SlLaysE0.n41 Try.prog Try.clone72_ren := {
 mixed := by kernel_rfl
 f41 := ⟨Try.f72.name, by decide, Try.func72.trans (congrArg some (by kernel_rfl))⟩
 t4 := Try.underlying4
 a4 := Try.isAgg4
 z4 := Try.sizeOf4
 v4 := Try.zeroValue4
 t22 := Try.underlying55
 a22 := Try.isAgg55
 z22 := Try.sizeOf55
 v22 := Try.zeroValue55 }
def Try.clone73_ren : Go.Shelf.Ren := ⟨fun | 41 => 73 | n => n, fun | 22 => 76 | 23 => 85 | 4 => 4 | n => n, fun | n => n⟩
theorem Try.clone73 : Go.Proofs.SlLaysE0.n41 Try.prog Try.clone73_ren := {
 mixed := by kernel_rfl
 f41 := ⟨Try.f73.name, by decide, Try.func73.trans (congrArg some (by kernel_rfl))⟩
 t4 := Try.underlying4
 a4 := Try.isAgg4
 z4 := Try.sizeOf4
 v4 := Try.zeroValue4
 t22 := Try.underlying76
 a22 := Try.isAgg76
 z22 := Try.sizeOf76
 v22 := Try.zeroValue76 }
end Go.Proofs
end
namespace Go.Proofs.Ytpnbpepkoekkoaa
end Go.Proofs.Ytpnbpepkoekkoaa

/- Contracts and plain laws on the way to the statement: part 12. -/
import Derived.Shelf.Small.Strs
import Derived.Shelf.Strings.Search1
import Derived.Shelf.Strings.Search2
import Derived.Shelf.Strings.Search3
import Derived.Shelf.SlGeneric
import Derived.Ground.SlgnProg
import Derived.Shelf.SlicesE.Clone
import Derived.Test.YtbkemlgfdklpfaaDoorProg
import Derived.Test.YtbkemlgfdklpfaaDoorZ4
set_option linter.unusedVariables false
set_option linter.unusedSimpArgs false
set_option maxRecDepth 100000
set_option maxHeartbeats 16000000
namespace Go.Proofs.YtbkemlgfdklpfaaDoor
open Go.Value (int)
open Go.IntKind (i64)
end Go.Proofs.YtbkemlgfdklpfaaDoor
section
open Go.Value (int)
open Go.IntKind (i64)
namespace Go.Proofs
open Go.Shelf
def Tryd.lays137_ren:Go.Shelf.Ren:=⟨fun|137=>96|217=>98|266=>102|n=>n,fun|9=>9|5=>5|3=>3|n=>n,fun|n=>n⟩
theorem Tryd.lays137:Go.Proofs.Lays.n137 Tryd.prog Tryd.lays137_ren:={
 mixed:=by kernel_rfl
 f137:=Tryd.func96.trans (congrArg some (by kernel_rfl))
 f217:=Tryd.func98.trans (congrArg some (by kernel_rfl))
 f266:=Tryd.func102.trans (congrArg some (by kernel_rfl))
 t3:=Tryd.underlying3
 a3:=Tryd.isAgg3
 z3:=Tryd.sizeOf3
 v3:=Tryd.zeroValue3
 t5:=Tryd.underlying5
 a5:=Tryd.isAgg5
 z5:=Tryd.sizeOf5
 v5:=Tryd.zeroValue5
 t9:=Tryd.underlying9
 a9:=Tryd.isAgg9
 z9:=Tryd.sizeOf9
 v9:=Tryd.zeroValue9 }
open Go.RowKit in
theorem Tryd.strings_IndexByte(s:ByteArray)(c:Int)(w:World) :
  Calls Tryd.prog 96 #[.string s,.int .u8 c] w λe w'=>e=.returned (int i64 (Lib.indexByte s.data.toList c.toNat.toUInt8))∧w'=w:=Any.strings_IndexByte Tryd.lays137 s c w
def Tryd.lays144_ren:Go.Shelf.Ren:=⟨fun|144=>91|143=>95|219=>97|217=>98|225=>99|224=>100|267=>101|266=>102|314=>103|n=>n,fun|9=>9|4=>4|3=>3|5=>5|46=>109|146=>177|51=>176|n=>n,fun|1=>1|n=>n⟩
theorem Tryd.lays144:Go.Proofs.Lays.n144 Tryd.prog Tryd.lays144_ren:={
 mixed:=by kernel_rfl
 f143:=Tryd.func95.trans (congrArg some (by kernel_rfl))
 f144:=Tryd.func91.trans (congrArg some (by kernel_rfl))
 f217:=Tryd.func98.trans (congrArg some (by kernel_rfl))
 f219:=Tryd.func97.trans (congrArg some (by kernel_rfl))
 f224:=Tryd.func100.trans (congrArg some (by kernel_rfl))
 f225:=Tryd.func99.trans (congrArg some (by kernel_rfl))
 f266:=Tryd.func102.trans (congrArg some (by kernel_rfl))
 f267:=Tryd.func101.trans (congrArg some (by kernel_rfl))
 f314:=Tryd.func103.trans (congrArg some (by kernel_rfl))
 t3:=Tryd.underlying3
 a3:=Tryd.isAgg3
 z3:=Tryd.sizeOf3
 v3:=Tryd.zeroValue3
 t4:=Tryd.underlying4
 a4:=Tryd.isAgg4
 z4:=Tryd.sizeOf4
 v4:=Tryd.zeroValue4
 t5:=Tryd.underlying5
 a5:=Tryd.isAgg5
 z5:=Tryd.sizeOf5
 v5:=Tryd.zeroValue5
 t9:=Tryd.underlying9
 a9:=Tryd.isAgg9
 z9:=Tryd.sizeOf9
 v9:=Tryd.zeroValue9
 t46:=Tryd.underlying109
 a46:=Tryd.isAgg109
 z46:=Tryd.sizeOf109
 v46:=Tryd.zeroValue109
 t51:=Tryd.underlying176
 a51:=Tryd.isAgg176
 z51:=Tryd.sizeOf176
 v51:=Tryd.zeroValue176
 t146:=Tryd.underlying177
 a146:=Tryd.isAgg177
 z146:=Tryd.sizeOf177
 v146:=Tryd.zeroValue177
 g1:=by kernel_rfl }
open Go.RowKit Go.Lib in
theorem Tryd.strings_Contains(s sub:ByteArray)(m:Int)(w:World)(hs:s.size<4294967281)(hm:w.cell? ⟨1,0,none⟩=some (int i64 m)) :
  Calls Tryd.prog 91 #[.string s,.string sub] w λe w'=>e=.returned (.bool (Lib.contains s.data.toList sub.data.toList))∧w'=w:=Any.strings_Contains Tryd.lays144 s sub m w hs hm
end Go.Proofs
end
namespace Go.Proofs.YtbkemlgfdklpfaaDoor
end Go.Proofs.YtbkemlgfdklpfaaDoor

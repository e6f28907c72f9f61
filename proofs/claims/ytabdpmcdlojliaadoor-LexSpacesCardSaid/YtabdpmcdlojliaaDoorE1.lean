/- From the listed package-level variables to what the walks want; a start that fits. -/
import Derived.Test.YtabdpmcdlojliaaDoorA7
import Derived.Lib.LaidTab
import Derived.Stop.LaidErr
import Derived.LaidLaws
import Derived.JoinedAt
namespace Go.Proofs.YtabdpmcdlojliaaDoor
open Go.RowKit

def laid5 : List (String × DataW Unit) := [("math/bits.deBruijn32tab", Rows.laid_math_bits_deBruijn32tab), ("math/bits.deBruijn64tab", Rows.laid_math_bits_deBruijn64tab), ("internal/strconv.uint64pow10", Rows.laid_internal_strconv_uint64pow10), ("strconv.ErrRange", Rows.laid_strconv_ErrRange), ("strconv.ErrSyntax", Rows.laid_strconv_ErrSyntax)]

theorem Tryd.gER : Tryd.prog.globalNamed "strconv.ErrRange" = some 1 := by kernel_rfl
theorem Tryd.gERType : (Tryd.prog.globals[1]?).map (·.type) = some 61 := by kernel_rfl
theorem Tryd.gPT : Tryd.prog.globalNamed "internal/strconv.uint64pow10" = some 3 := by kernel_rfl
theorem Tryd.gPTType : (Tryd.prog.globals[3]?).map (·.type) = some 100 := by kernel_rfl
theorem Tryd.cells108 : Tryd.prog.cellsOf 108 = 1 := by kernel_rfl
theorem Tryd.cells9 : Tryd.prog.cellsOf 9 = 1 := by kernel_rfl
theorem Tryd.cells83 : Tryd.prog.cellsOf 83 = 1 := by kernel_rfl
theorem Tryd.cells100 : Tryd.prog.cellsOf 100 = 20 := by kernel_rfl

theorem Tryd.star : "*" ++ "errors.errorString" = "*errors.errorString" := by decide
theorem Tryd.row106 (u : TypeId) (h : Tryd.prog.typeName? 3 u = some "*errors.errorString") : u = 106 :=
  typeName_ptr_named (nm := "errors.errorString") (by rw [Tryd.star]; kernel_rfl) (by kernel_rfl) (by decide) u (by rw [Tryd.star]; exact h)

theorem env_of_laid {W : World} (h : laidMet Tryd.prog laid5 W) : Env W := by
  have h3 := h.tail.tail
  have h4 := h3.tail
  refine ⟨?_, ?_⟩
  · exact Lib.tabIs_of_head Tryd.gPT Tryd.gPTType Tryd.underlying100 Tryd.underlying83 Tryd.cells83 Tryd.cells100 h3
  · obtain ⟨a, s, hv, -, -, -⟩ := laid_sentinel h4 Tryd.gER Tryd.gERType Tryd.underlying61 Tryd.row106 Tryd.underlying106 Tryd.underlying108 rfl rfl Tryd.underlying9 Tryd.cells108 Tryd.cells9
    exact ⟨_, _, hv⟩

/-! ### One start that fits: the tables, and the two sentinels as their initialisers lay them -/
def synS : ByteArray := { data := #[105, 110, 118, 97, 108, 105, 100, 32, 115, 121, 110, 116, 97, 120] }
def rngS : ByteArray := { data := #[118, 97, 108, 117, 101, 32, 111, 117, 116, 32, 111, 102, 32, 114, 97, 110, 103, 101] }
def u8s (l : List Int) : Array Value := (l.map (Value.int .u8)).toArray
def tab32 : List Int := [0, 1, 28, 2, 29, 14, 24, 3, 30, 22, 20, 15, 25, 17, 4, 8, 31, 27, 13, 23, 21, 19, 16, 7, 26, 12, 18, 6, 11, 5, 10, 9]
def tab64 : List Int := [0, 1, 56, 2, 57, 49, 28, 3, 61, 58, 42, 50, 38, 29, 17, 4, 62, 47, 59, 36, 45, 43, 51, 22, 53, 39, 33, 30, 24, 18, 12, 5, 63, 55, 48, 27, 60, 41, 37, 16, 46, 35, 44, 21, 52, 32, 23, 11, 54, 26, 40, 15, 34, 20, 31, 10, 25, 14, 19, 9, 13, 8, 7, 6]
/-- So many blocks has the settled world. -/
noncomputable def low : Nat := (World.holding Tryd.prog default ⟨#[], #[], []⟩).heap.size
def setRow (cs : Array Value) : Obj → Obj
  | .cells _ t frozen => .cells cs t frozen
  | o => o
noncomputable def laidWorld (os : Os) : World :=
  let w0 := World.holding Tryd.prog os ⟨#[.cells #[.string synS] 108, .cells #[.string rngS] 108], #[], []⟩
  { w0 with heap := ((((w0.heap.modify 0 (setRow #[.iface 106 (.pointer (some ⟨low, 0, none⟩))])).modify 1 (setRow #[.iface 106 (.pointer (some ⟨low + 1, 0, none⟩))])).modify 3 (setRow (Lib.pow10Tab.map (Value.int .u64)).toArray)).modify 4 (setRow (u8s tab32))).modify 5 (setRow (u8s tab64)) }
theorem laidWorld_met (os : Os) (args : Array Value) : laidMet Tryd.prog laid5 ((laidWorld os).forCall (fun _ _ => 0) ⟨#[], args, []⟩).memory :=
  laidMet_of_run' 8 (by kernel_rfl) (by kernel_rfl)
end Go.Proofs.YtabdpmcdlojliaaDoor

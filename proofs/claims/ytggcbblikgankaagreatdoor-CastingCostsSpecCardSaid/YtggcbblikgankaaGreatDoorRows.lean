/-
  NARROWER THAN 'FOR EVERY INPUT', by the rows' own cells (each row's printed sentence says how): OptionsSpec: laid · CastingCostsSpec: laid · CastingSpec: laid · CastingDenySpec: laid.
  DERIVED. THE GIVEN ROWS OF THIS SEAT. 4 by the template 'for every input the law returns true; each argument reads behind the call as it read before'; 0 by the template 'total and deterministic' (their statements: YtggcbblikgankaaGreatDoorTotals.lean).
  GIVEN WITH THE SEED: the statements are not yours to turn. If you find one false, say at which input.
  Laid BY PROGRAM, IN A SANDBOX (cutbox-rows.mjs): the forced cells as the released guide's own fill.sh prints them over the translation f6266aeb53c08029… (all of the seat's roots in one cut). By AI agents, Wed Nov 11 2026. No macro, syntax, notation, axiom, sorry.
-/
import Derived.Test.YtggcbblikgankaaGreatDoorChecked
import GoSem.Claim
import GoSem.ClaimJoined
import GoSem.ClaimMapViews
import Derived.JoinedTies
import Derived.KernelRfl
namespace Go.Proofs.YtggcbblikgankaaGreatDoor
/- THE CELL 'sum', in the pinned program and in every row, IS THE sha256 OF THE DUMP (.gsa) THAT YtggcbblikgankaaGreatDoorProg.lean LOADS. Nothing in Lean hashes anything: it is a label: what it is worth is what the hold of that sum in a sandbox is worth. -/
noncomputable def Tryz.pinned : Pinned := { name := "ytggcbblikgankaagreatdoor", sum := "f6266aeb53c08029290204d2a89d4571f0b6f9f2ca6bb14c3e889d03ce001d96", checked := Tryz.checked }
namespace Rows
def none {H : Type} : Left H := { results := [], args := [] }

/- WHAT THE LISTED PACKAGE-LEVEL VARIABLES READ AS WHEN THE CALL BEGINS. Each datum BY PROGRAM (the guide's laid-datum.mjs) off the statement by which the dump's own 'gosem.cut.vars' lays the variable. In a bare row this is a premise. The card (YtggcbblikgankaaGreatDoorCards.lean) ties it to the program's text. -/
def laid_kinesphere_space_flat {H : Type} : DataW H := .agg [.agg [.lit (.int .i64 0), .lit (.int .i64 29)], .agg [.lit (.int .i64 20), .lit (.int .i64 21)], .agg [.lit (.int .i64 29), .lit (.int .i64 0)], .agg [.lit (.int .i64 20), .lit (.int .i64 (-21))], .agg [.lit (.int .i64 0), .lit (.int .i64 (-29))], .agg [.lit (.int .i64 (-20)), .lit (.int .i64 (-21))], .agg [.lit (.int .i64 (-29)), .lit (.int .i64 0)], .agg [.lit (.int .i64 (-20)), .lit (.int .i64 21)]]
def laid_kinesphere_expand_kinds {H : Type} : DataW H := .agg [.agg [.lit (.bool false), .lit (.bool false), .lit (.bool false), .lit (.int .i64 0), .lit (.int .i64 0), .lit (.int .i64 0)], .agg [.lit (.bool true), .lit (.bool true), .lit (.bool false), .lit (.int .i64 1), .lit (.int .i64 0), .lit (.int .i64 16)], .agg [.lit (.bool false), .lit (.bool true), .lit (.bool false), .lit (.int .i64 1), .lit (.int .i64 0), .lit (.int .i64 16)], .agg [.lit (.bool true), .lit (.bool true), .lit (.bool false), .lit (.int .i64 0), .lit (.int .i64 3), .lit (.int .i64 0)], .agg [.lit (.bool true), .lit (.bool true), .lit (.bool false), .lit (.int .i64 0), .lit (.int .i64 3), .lit (.int .i64 0)], .agg [.lit (.bool false), .lit (.bool true), .lit (.bool false), .lit (.int .i64 0), .lit (.int .i64 3), .lit (.int .i64 0)], .agg [.lit (.bool false), .lit (.bool false), .lit (.bool false), .lit (.int .i64 0), .lit (.int .i64 0), .lit (.int .i64 7)], .agg [.lit (.bool false), .lit (.bool false), .lit (.bool true), .lit (.int .i64 0), .lit (.int .i64 0), .lit (.int .i64 0)], .agg [.lit (.bool false), .lit (.bool false), .lit (.bool true), .lit (.int .i64 0), .lit (.int .i64 0), .lit (.int .i64 0)], .agg [.lit (.bool true), .lit (.bool false), .lit (.bool false), .lit (.int .i64 0), .lit (.int .i64 3), .lit (.int .i64 0)]]

/-- 'kinespherelaw30.OptionsSpec': WHATEVER THE INPUT: true; the input reads as it did. -/
def optionsSpecSpec : ChangeSpec := { name := "optionsSpec", fn := fun _ => fun
  | [d1, d2, d3, d4] => { results := [.lit (.bool true)], args := [d1, d2, d3, d4] }
  | _ => none }
def optionsSpecRow : OpenClaim := { program := "ytggcbblikgankaagreatdoor", sum := "f6266aeb53c08029290204d2a89d4571f0b6f9f2ca6bb14c3e889d03ce001d96", func := "kinesphere/kinespherelaw30.OptionsSpec", spec := "optionsSpec", inPlace := ["internal/bytealg.IndexByteString"], unfollowed := true, recurses := true, named := ["kinesphere/expand.kinds", "kinesphere/space.flat"], apart := false, laid := [("kinesphere/space.flat", laid_kinesphere_space_flat), ("kinesphere/expand.kinds", laid_kinesphere_expand_kinds)] }
def OptionsSpecSaid : Prop := optionsSpecRow.holds Tryz.pinned (OpenSpec.ofChange optionsSpecSpec)

/-- ITS FALSE NEIGHBOUR: 'it returns false'. Refute it at one input. -/
def optionsSpecWrong : ChangeSpec := { name := "optionsSpec", fn := fun _ => fun
  | [d1, d2, d3, d4] => { results := [.lit (.bool false)], args := [d1, d2, d3, d4] }
  | _ => none }
def OptionsSpecWrongFalsely : Prop := optionsSpecRow.holds Tryz.pinned (OpenSpec.ofChange optionsSpecWrong)

/-- 'kinespherelaw47.CastingCostsSpec': WHATEVER THE INPUT: true; the input reads as it did. -/
def castingCostsSpecSpec : ChangeSpec := { name := "castingCostsSpec", fn := fun _ => fun
  | [d1, d2] => { results := [.lit (.bool true)], args := [d1, d2] }
  | _ => none }
def castingCostsSpecRow : OpenClaim := { program := "ytggcbblikgankaagreatdoor", sum := "f6266aeb53c08029290204d2a89d4571f0b6f9f2ca6bb14c3e889d03ce001d96", func := "kinesphere/kinespherelaw47.CastingCostsSpec", spec := "castingCostsSpec", inPlace := ["internal/bytealg.IndexByteString"], unfollowed := true, recurses := true, named := ["kinesphere/expand.kinds", "kinesphere/space.flat"], apart := false, laid := [("kinesphere/space.flat", laid_kinesphere_space_flat), ("kinesphere/expand.kinds", laid_kinesphere_expand_kinds)] }
def CastingCostsSpecSaid : Prop := castingCostsSpecRow.holds Tryz.pinned (OpenSpec.ofChange castingCostsSpecSpec)

/-- ITS FALSE NEIGHBOUR: 'it returns false'. Refute it at one input. -/
def castingCostsSpecWrong : ChangeSpec := { name := "castingCostsSpec", fn := fun _ => fun
  | [d1, d2] => { results := [.lit (.bool false)], args := [d1, d2] }
  | _ => none }
def CastingCostsSpecWrongFalsely : Prop := castingCostsSpecRow.holds Tryz.pinned (OpenSpec.ofChange castingCostsSpecWrong)

/-- 'kinespherelaw47.CastingSpec': WHATEVER THE INPUT: true; the input reads as it did. -/
def castingSpecSpec : ChangeSpec := { name := "castingSpec", fn := fun _ => fun
  | [d] => { results := [.lit (.bool true)], args := [d] }
  | _ => none }
def castingSpecRow : OpenClaim := { program := "ytggcbblikgankaagreatdoor", sum := "f6266aeb53c08029290204d2a89d4571f0b6f9f2ca6bb14c3e889d03ce001d96", func := "kinesphere/kinespherelaw47.CastingSpec", spec := "castingSpec", inPlace := ["internal/bytealg.IndexByteString"], unfollowed := true, recurses := true, named := ["kinesphere/expand.kinds", "kinesphere/space.flat"], apart := false, laid := [("kinesphere/space.flat", laid_kinesphere_space_flat), ("kinesphere/expand.kinds", laid_kinesphere_expand_kinds)] }
def CastingSpecSaid : Prop := castingSpecRow.holds Tryz.pinned (OpenSpec.ofChange castingSpecSpec)

/-- ITS FALSE NEIGHBOUR: 'it returns false'. Refute it at one input. -/
def castingSpecWrong : ChangeSpec := { name := "castingSpec", fn := fun _ => fun
  | [d] => { results := [.lit (.bool false)], args := [d] }
  | _ => none }
def CastingSpecWrongFalsely : Prop := castingSpecRow.holds Tryz.pinned (OpenSpec.ofChange castingSpecWrong)

/-- 'kinespherelaw47.CastingDenySpec': WHATEVER THE INPUT: true; the input reads as it did. -/
def castingDenySpecSpec : ChangeSpec := { name := "castingDenySpec", fn := fun _ => fun
  | [d1, d2, d3] => { results := [.lit (.bool true)], args := [d1, d2, d3] }
  | _ => none }
def castingDenySpecRow : OpenClaim := { program := "ytggcbblikgankaagreatdoor", sum := "f6266aeb53c08029290204d2a89d4571f0b6f9f2ca6bb14c3e889d03ce001d96", func := "kinesphere/kinespherelaw47.CastingDenySpec", spec := "castingDenySpec", inPlace := ["internal/bytealg.IndexByteString"], unfollowed := true, recurses := true, named := ["kinesphere/expand.kinds", "kinesphere/space.flat"], apart := false, laid := [("kinesphere/space.flat", laid_kinesphere_space_flat), ("kinesphere/expand.kinds", laid_kinesphere_expand_kinds)] }
def CastingDenySpecSaid : Prop := castingDenySpecRow.holds Tryz.pinned (OpenSpec.ofChange castingDenySpecSpec)

/-- ITS FALSE NEIGHBOUR: 'it returns false'. Refute it at one input. -/
def castingDenySpecWrong : ChangeSpec := { name := "castingDenySpec", fn := fun _ => fun
  | [d1, d2, d3] => { results := [.lit (.bool false)], args := [d1, d2, d3] }
  | _ => none }
def CastingDenySpecWrongFalsely : Prop := castingDenySpecRow.holds Tryz.pinned (OpenSpec.ofChange castingDenySpecWrong)

/- THE SECOND FORM. 'bulk': how many values and letters a reading holds, each counted each time it is reached (what is shared counts as often as it is met; a slice's spare places count too). A statement '..UptoSaid' is the law's where the arguments, and the package variables that the reading takes, are together of bulk at most 1048576: NARROWER than '..Said'. Prove '..Said' where nothing that the law and all that it calls make is longer than what came in: it says more and counts as full. Else prove '..UptoSaid'. A law counts once. -/
mutual
def uptoBulk {H : Type} : DataW H → Nat
  | .lit (.string bytes) => bytes.length + 1
  | .lit _ => 1
  | .nil => 1
  | .ptr d => uptoBulk d + 1
  | .slice elems spare => uptoBulkAll elems + uptoBulkAll spare + 1
  | .agg parts => uptoBulkAll parts + 1
  | .iface _ d => uptoBulk d + 1
  | .map entries => uptoBulkEntries entries + 1
  | .held _ => 1
def uptoBulkAll {H : Type} : List (DataW H) → Nat
  | [] => 0
  | d :: r => uptoBulk d + uptoBulkAll r
def uptoBulkEntries {H : Type} : List (Lit × DataW H) → Nat
  | [] => 0
  | x :: r => uptoBulkEntry x + uptoBulkEntries r
def uptoBulkEntry {H : Type} : Lit × DataW H → Nat
  | (.string bytes, d) => bytes.length + uptoBulk d + 1
  | (_, d) => uptoBulk d + 1
 end
def uptoSmall : (H : Type) → List (DataW H) → Bool := fun _ ds => decide (uptoBulkAll ds ≤ 1048576)
def OpenSpec.upto (s : _root_.Go.ChangeSpec) : _root_.Go.OpenSpec := { _root_.Go.OpenSpec.ofChange s with cond := some uptoSmall }

/-- 'kinespherelaw30.OptionsSpec', WHERE WHAT IT READS IS OF BULK AT MOST 1048576: true; the input reads as it did. -/
def optionsSpecUptoRow : OpenClaim := { program := "ytggcbblikgankaagreatdoor", sum := "f6266aeb53c08029290204d2a89d4571f0b6f9f2ca6bb14c3e889d03ce001d96", func := "kinesphere/kinespherelaw30.OptionsSpec", spec := "optionsSpec", inPlace := ["internal/bytealg.IndexByteString"], unfollowed := true, recurses := true, named := ["kinesphere/expand.kinds", "kinesphere/space.flat"], apart := false, laid := [("kinesphere/space.flat", laid_kinesphere_space_flat), ("kinesphere/expand.kinds", laid_kinesphere_expand_kinds)], narrowed := true }
def OptionsSpecUptoSaid : Prop := optionsSpecUptoRow.holds Tryz.pinned (OpenSpec.upto optionsSpecSpec)

/-- 'kinespherelaw47.CastingCostsSpec', WHERE WHAT IT READS IS OF BULK AT MOST 1048576: true; the input reads as it did. -/
def castingCostsSpecUptoRow : OpenClaim := { program := "ytggcbblikgankaagreatdoor", sum := "f6266aeb53c08029290204d2a89d4571f0b6f9f2ca6bb14c3e889d03ce001d96", func := "kinesphere/kinespherelaw47.CastingCostsSpec", spec := "castingCostsSpec", inPlace := ["internal/bytealg.IndexByteString"], unfollowed := true, recurses := true, named := ["kinesphere/expand.kinds", "kinesphere/space.flat"], apart := false, laid := [("kinesphere/space.flat", laid_kinesphere_space_flat), ("kinesphere/expand.kinds", laid_kinesphere_expand_kinds)], narrowed := true }
def CastingCostsSpecUptoSaid : Prop := castingCostsSpecUptoRow.holds Tryz.pinned (OpenSpec.upto castingCostsSpecSpec)

/-- 'kinespherelaw47.CastingSpec', WHERE WHAT IT READS IS OF BULK AT MOST 1048576: true; the input reads as it did. -/
def castingSpecUptoRow : OpenClaim := { program := "ytggcbblikgankaagreatdoor", sum := "f6266aeb53c08029290204d2a89d4571f0b6f9f2ca6bb14c3e889d03ce001d96", func := "kinesphere/kinespherelaw47.CastingSpec", spec := "castingSpec", inPlace := ["internal/bytealg.IndexByteString"], unfollowed := true, recurses := true, named := ["kinesphere/expand.kinds", "kinesphere/space.flat"], apart := false, laid := [("kinesphere/space.flat", laid_kinesphere_space_flat), ("kinesphere/expand.kinds", laid_kinesphere_expand_kinds)], narrowed := true }
def CastingSpecUptoSaid : Prop := castingSpecUptoRow.holds Tryz.pinned (OpenSpec.upto castingSpecSpec)

/-- 'kinespherelaw47.CastingDenySpec', WHERE WHAT IT READS IS OF BULK AT MOST 1048576: true; the input reads as it did. -/
def castingDenySpecUptoRow : OpenClaim := { program := "ytggcbblikgankaagreatdoor", sum := "f6266aeb53c08029290204d2a89d4571f0b6f9f2ca6bb14c3e889d03ce001d96", func := "kinesphere/kinespherelaw47.CastingDenySpec", spec := "castingDenySpec", inPlace := ["internal/bytealg.IndexByteString"], unfollowed := true, recurses := true, named := ["kinesphere/expand.kinds", "kinesphere/space.flat"], apart := false, laid := [("kinesphere/space.flat", laid_kinesphere_space_flat), ("kinesphere/expand.kinds", laid_kinesphere_expand_kinds)], narrowed := true }
def CastingDenySpecUptoSaid : Prop := castingDenySpecUptoRow.holds Tryz.pinned (OpenSpec.upto castingDenySpecSpec)

end Rows
end Go.Proofs.YtggcbblikgankaaGreatDoor

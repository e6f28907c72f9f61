/-
  NARROWER THAN 'FOR EVERY INPUT', by the rows' own cells (each row's printed sentence says how): OptionsAll: laid · OptionsFirst: laid · OptionsMirror: laid · OptionsTolerance: laid · OptionsWeaker: laid · CastingEither: laid · CastingBound: laid · CastingAble: laid · CastingMore: laid · CastingStronger: laid.
  DERIVED. THE GIVEN ROWS OF THIS SEAT. 10 by the template 'for every input the law returns true; each argument reads behind the call as it read before'; 0 by the template 'total and deterministic' (their statements: YtggcbblikgankaaDoorTotals.lean).
  GIVEN WITH THE SEED: the statements are not yours to turn. If you find one false, say at which input.
  Laid BY PROGRAM, IN A SANDBOX (cutbox-rows.mjs): the forced cells as the released guide's own fill.sh prints them over the translation 83d2e2adc88c9e7e… (all of the seat's roots in one cut). By AI agents, Wed Nov 11 2026. No macro, syntax, notation, axiom, sorry.
-/
import Derived.Test.YtggcbblikgankaaDoorChecked
import GoSem.Claim
import GoSem.ClaimJoined
import GoSem.ClaimMapViews
import Derived.JoinedTies
import Derived.KernelRfl
namespace Go.Proofs.YtggcbblikgankaaDoor
/- THE CELL 'sum', in the pinned program and in every row, IS THE sha256 OF THE DUMP (.gsa) THAT YtggcbblikgankaaDoorProg.lean LOADS. Nothing in Lean hashes anything: it is a label: what it is worth is what the hold of that sum in a sandbox is worth. -/
noncomputable def Tryd.pinned : Pinned := { name := "ytggcbblikgankaadoor", sum := "83d2e2adc88c9e7e4159a2ccea4196835751432207cc6734a6962304015034ae", checked := Tryd.checked }
namespace Rows
def none {H : Type} : Left H := { results := [], args := [] }

/- WHAT THE LISTED PACKAGE-LEVEL VARIABLES READ AS WHEN THE CALL BEGINS. Each datum BY PROGRAM (the guide's laid-datum.mjs) off the statement by which the dump's own 'gosem.cut.vars' lays the variable. In a bare row this is a premise. The card (YtggcbblikgankaaDoorCards.lean) ties it to the program's text. -/
def laid_kinesphere_space_flat {H : Type} : DataW H := .agg [.agg [.lit (.int .i64 0), .lit (.int .i64 29)], .agg [.lit (.int .i64 20), .lit (.int .i64 21)], .agg [.lit (.int .i64 29), .lit (.int .i64 0)], .agg [.lit (.int .i64 20), .lit (.int .i64 (-21))], .agg [.lit (.int .i64 0), .lit (.int .i64 (-29))], .agg [.lit (.int .i64 (-20)), .lit (.int .i64 (-21))], .agg [.lit (.int .i64 (-29)), .lit (.int .i64 0)], .agg [.lit (.int .i64 (-20)), .lit (.int .i64 21)]]
def laid_kinesphere_expand_kinds {H : Type} : DataW H := .agg [.agg [.lit (.bool false), .lit (.bool false), .lit (.bool false), .lit (.int .i64 0), .lit (.int .i64 0), .lit (.int .i64 0)], .agg [.lit (.bool true), .lit (.bool true), .lit (.bool false), .lit (.int .i64 1), .lit (.int .i64 0), .lit (.int .i64 16)], .agg [.lit (.bool false), .lit (.bool true), .lit (.bool false), .lit (.int .i64 1), .lit (.int .i64 0), .lit (.int .i64 16)], .agg [.lit (.bool true), .lit (.bool true), .lit (.bool false), .lit (.int .i64 0), .lit (.int .i64 3), .lit (.int .i64 0)], .agg [.lit (.bool true), .lit (.bool true), .lit (.bool false), .lit (.int .i64 0), .lit (.int .i64 3), .lit (.int .i64 0)], .agg [.lit (.bool false), .lit (.bool true), .lit (.bool false), .lit (.int .i64 0), .lit (.int .i64 3), .lit (.int .i64 0)], .agg [.lit (.bool false), .lit (.bool false), .lit (.bool false), .lit (.int .i64 0), .lit (.int .i64 0), .lit (.int .i64 7)], .agg [.lit (.bool false), .lit (.bool false), .lit (.bool true), .lit (.int .i64 0), .lit (.int .i64 0), .lit (.int .i64 0)], .agg [.lit (.bool false), .lit (.bool false), .lit (.bool true), .lit (.int .i64 0), .lit (.int .i64 0), .lit (.int .i64 0)], .agg [.lit (.bool true), .lit (.bool false), .lit (.bool false), .lit (.int .i64 0), .lit (.int .i64 3), .lit (.int .i64 0)]]

/-- 'kinespherelaw30.OptionsAll': WHATEVER THE INPUT: true; the input reads as it did. -/
def optionsAllSpec : ChangeSpec := { name := "optionsAll", fn := fun _ => fun
  | [d1, d2, d3] => { results := [.lit (.bool true)], args := [d1, d2, d3] }
  | _ => none }
def optionsAllRow : OpenClaim := { program := "ytggcbblikgankaadoor", sum := "83d2e2adc88c9e7e4159a2ccea4196835751432207cc6734a6962304015034ae", func := "kinesphere/kinespherelaw30.OptionsAll", spec := "optionsAll", inPlace := ["internal/bytealg.IndexByteString"], unfollowed := true, recurses := true, named := ["kinesphere/expand.kinds", "kinesphere/space.flat"], apart := false, laid := [("kinesphere/space.flat", laid_kinesphere_space_flat), ("kinesphere/expand.kinds", laid_kinesphere_expand_kinds)] }
def OptionsAllSaid : Prop := optionsAllRow.holds Tryd.pinned (OpenSpec.ofChange optionsAllSpec)

/-- ITS FALSE NEIGHBOUR: 'it returns false'. Refute it at one input. -/
def optionsAllWrong : ChangeSpec := { name := "optionsAll", fn := fun _ => fun
  | [d1, d2, d3] => { results := [.lit (.bool false)], args := [d1, d2, d3] }
  | _ => none }
def OptionsAllWrongFalsely : Prop := optionsAllRow.holds Tryd.pinned (OpenSpec.ofChange optionsAllWrong)

/-- 'kinespherelaw30.OptionsFirst': WHATEVER THE INPUT: true; the input reads as it did. -/
def optionsFirstSpec : ChangeSpec := { name := "optionsFirst", fn := fun _ => fun
  | [d1, d2, d3] => { results := [.lit (.bool true)], args := [d1, d2, d3] }
  | _ => none }
def optionsFirstRow : OpenClaim := { program := "ytggcbblikgankaadoor", sum := "83d2e2adc88c9e7e4159a2ccea4196835751432207cc6734a6962304015034ae", func := "kinesphere/kinespherelaw30.OptionsFirst", spec := "optionsFirst", inPlace := ["internal/bytealg.IndexByteString"], unfollowed := true, recurses := true, named := ["kinesphere/expand.kinds", "kinesphere/space.flat"], apart := false, laid := [("kinesphere/space.flat", laid_kinesphere_space_flat), ("kinesphere/expand.kinds", laid_kinesphere_expand_kinds)] }
def OptionsFirstSaid : Prop := optionsFirstRow.holds Tryd.pinned (OpenSpec.ofChange optionsFirstSpec)

/-- ITS FALSE NEIGHBOUR: 'it returns false'. Refute it at one input. -/
def optionsFirstWrong : ChangeSpec := { name := "optionsFirst", fn := fun _ => fun
  | [d1, d2, d3] => { results := [.lit (.bool false)], args := [d1, d2, d3] }
  | _ => none }
def OptionsFirstWrongFalsely : Prop := optionsFirstRow.holds Tryd.pinned (OpenSpec.ofChange optionsFirstWrong)

/-- 'kinespherelaw30.OptionsMirror': WHATEVER THE INPUT: true; the input reads as it did. -/
def optionsMirrorSpec : ChangeSpec := { name := "optionsMirror", fn := fun _ => fun
  | [d1, d2, d3, d4] => { results := [.lit (.bool true)], args := [d1, d2, d3, d4] }
  | _ => none }
def optionsMirrorRow : OpenClaim := { program := "ytggcbblikgankaadoor", sum := "83d2e2adc88c9e7e4159a2ccea4196835751432207cc6734a6962304015034ae", func := "kinesphere/kinespherelaw30.OptionsMirror", spec := "optionsMirror", inPlace := ["internal/bytealg.IndexByteString"], unfollowed := true, recurses := true, named := ["kinesphere/expand.kinds", "kinesphere/space.flat"], apart := false, laid := [("kinesphere/space.flat", laid_kinesphere_space_flat), ("kinesphere/expand.kinds", laid_kinesphere_expand_kinds)] }
def OptionsMirrorSaid : Prop := optionsMirrorRow.holds Tryd.pinned (OpenSpec.ofChange optionsMirrorSpec)

/-- ITS FALSE NEIGHBOUR: 'it returns false'. Refute it at one input. -/
def optionsMirrorWrong : ChangeSpec := { name := "optionsMirror", fn := fun _ => fun
  | [d1, d2, d3, d4] => { results := [.lit (.bool false)], args := [d1, d2, d3, d4] }
  | _ => none }
def OptionsMirrorWrongFalsely : Prop := optionsMirrorRow.holds Tryd.pinned (OpenSpec.ofChange optionsMirrorWrong)

/-- 'kinespherelaw30.OptionsTolerance': WHATEVER THE INPUT: true; the input reads as it did. -/
def optionsToleranceSpec : ChangeSpec := { name := "optionsTolerance", fn := fun _ => fun
  | [d1, d2, d3, d4, d5] => { results := [.lit (.bool true)], args := [d1, d2, d3, d4, d5] }
  | _ => none }
def optionsToleranceRow : OpenClaim := { program := "ytggcbblikgankaadoor", sum := "83d2e2adc88c9e7e4159a2ccea4196835751432207cc6734a6962304015034ae", func := "kinesphere/kinespherelaw30.OptionsTolerance", spec := "optionsTolerance", inPlace := ["internal/bytealg.IndexByteString"], unfollowed := true, recurses := true, named := ["kinesphere/expand.kinds", "kinesphere/space.flat"], apart := false, laid := [("kinesphere/space.flat", laid_kinesphere_space_flat), ("kinesphere/expand.kinds", laid_kinesphere_expand_kinds)] }
def OptionsToleranceSaid : Prop := optionsToleranceRow.holds Tryd.pinned (OpenSpec.ofChange optionsToleranceSpec)

/-- ITS FALSE NEIGHBOUR: 'it returns false'. Refute it at one input. -/
def optionsToleranceWrong : ChangeSpec := { name := "optionsTolerance", fn := fun _ => fun
  | [d1, d2, d3, d4, d5] => { results := [.lit (.bool false)], args := [d1, d2, d3, d4, d5] }
  | _ => none }
def OptionsToleranceWrongFalsely : Prop := optionsToleranceRow.holds Tryd.pinned (OpenSpec.ofChange optionsToleranceWrong)

/-- 'kinespherelaw30.OptionsWeaker': WHATEVER THE INPUT: true; the input reads as it did. -/
def optionsWeakerSpec : ChangeSpec := { name := "optionsWeaker", fn := fun _ => fun
  | [d1, d2, d3, d4] => { results := [.lit (.bool true)], args := [d1, d2, d3, d4] }
  | _ => none }
def optionsWeakerRow : OpenClaim := { program := "ytggcbblikgankaadoor", sum := "83d2e2adc88c9e7e4159a2ccea4196835751432207cc6734a6962304015034ae", func := "kinesphere/kinespherelaw30.OptionsWeaker", spec := "optionsWeaker", inPlace := ["internal/bytealg.IndexByteString"], unfollowed := true, recurses := true, named := ["kinesphere/expand.kinds", "kinesphere/space.flat"], apart := false, laid := [("kinesphere/space.flat", laid_kinesphere_space_flat), ("kinesphere/expand.kinds", laid_kinesphere_expand_kinds)] }
def OptionsWeakerSaid : Prop := optionsWeakerRow.holds Tryd.pinned (OpenSpec.ofChange optionsWeakerSpec)

/-- ITS FALSE NEIGHBOUR: 'it returns false'. Refute it at one input. -/
def optionsWeakerWrong : ChangeSpec := { name := "optionsWeaker", fn := fun _ => fun
  | [d1, d2, d3, d4] => { results := [.lit (.bool false)], args := [d1, d2, d3, d4] }
  | _ => none }
def OptionsWeakerWrongFalsely : Prop := optionsWeakerRow.holds Tryd.pinned (OpenSpec.ofChange optionsWeakerWrong)

/-- 'kinespherelaw47.CastingEither': WHATEVER THE INPUT: true; the input reads as it did. -/
def castingEitherSpec : ChangeSpec := { name := "castingEither", fn := fun _ => fun
  | [d1, d2] => { results := [.lit (.bool true)], args := [d1, d2] }
  | _ => none }
def castingEitherRow : OpenClaim := { program := "ytggcbblikgankaadoor", sum := "83d2e2adc88c9e7e4159a2ccea4196835751432207cc6734a6962304015034ae", func := "kinesphere/kinespherelaw47.CastingEither", spec := "castingEither", inPlace := ["internal/bytealg.IndexByteString"], unfollowed := true, recurses := true, named := ["kinesphere/expand.kinds", "kinesphere/space.flat"], apart := false, laid := [("kinesphere/space.flat", laid_kinesphere_space_flat), ("kinesphere/expand.kinds", laid_kinesphere_expand_kinds)] }
def CastingEitherSaid : Prop := castingEitherRow.holds Tryd.pinned (OpenSpec.ofChange castingEitherSpec)

/-- ITS FALSE NEIGHBOUR: 'it returns false'. Refute it at one input. -/
def castingEitherWrong : ChangeSpec := { name := "castingEither", fn := fun _ => fun
  | [d1, d2] => { results := [.lit (.bool false)], args := [d1, d2] }
  | _ => none }
def CastingEitherWrongFalsely : Prop := castingEitherRow.holds Tryd.pinned (OpenSpec.ofChange castingEitherWrong)

/-- 'kinespherelaw47.CastingBound': WHATEVER THE INPUT: true; the input reads as it did. -/
def castingBoundSpec : ChangeSpec := { name := "castingBound", fn := fun _ => fun
  | [d1, d2, d3, d4] => { results := [.lit (.bool true)], args := [d1, d2, d3, d4] }
  | _ => none }
def castingBoundRow : OpenClaim := { program := "ytggcbblikgankaadoor", sum := "83d2e2adc88c9e7e4159a2ccea4196835751432207cc6734a6962304015034ae", func := "kinesphere/kinespherelaw47.CastingBound", spec := "castingBound", inPlace := ["internal/bytealg.IndexByteString"], unfollowed := true, recurses := true, named := ["kinesphere/expand.kinds", "kinesphere/space.flat"], apart := false, laid := [("kinesphere/space.flat", laid_kinesphere_space_flat), ("kinesphere/expand.kinds", laid_kinesphere_expand_kinds)] }
def CastingBoundSaid : Prop := castingBoundRow.holds Tryd.pinned (OpenSpec.ofChange castingBoundSpec)

/-- ITS FALSE NEIGHBOUR: 'it returns false'. Refute it at one input. -/
def castingBoundWrong : ChangeSpec := { name := "castingBound", fn := fun _ => fun
  | [d1, d2, d3, d4] => { results := [.lit (.bool false)], args := [d1, d2, d3, d4] }
  | _ => none }
def CastingBoundWrongFalsely : Prop := castingBoundRow.holds Tryd.pinned (OpenSpec.ofChange castingBoundWrong)

/-- 'kinespherelaw47.CastingAble': WHATEVER THE INPUT: true; the input reads as it did. -/
def castingAbleSpec : ChangeSpec := { name := "castingAble", fn := fun _ => fun
  | [d1, d2, d3, d4] => { results := [.lit (.bool true)], args := [d1, d2, d3, d4] }
  | _ => none }
def castingAbleRow : OpenClaim := { program := "ytggcbblikgankaadoor", sum := "83d2e2adc88c9e7e4159a2ccea4196835751432207cc6734a6962304015034ae", func := "kinesphere/kinespherelaw47.CastingAble", spec := "castingAble", inPlace := ["internal/bytealg.IndexByteString"], unfollowed := true, recurses := true, named := ["kinesphere/expand.kinds", "kinesphere/space.flat"], apart := false, laid := [("kinesphere/space.flat", laid_kinesphere_space_flat), ("kinesphere/expand.kinds", laid_kinesphere_expand_kinds)] }
def CastingAbleSaid : Prop := castingAbleRow.holds Tryd.pinned (OpenSpec.ofChange castingAbleSpec)

/-- ITS FALSE NEIGHBOUR: 'it returns false'. Refute it at one input. -/
def castingAbleWrong : ChangeSpec := { name := "castingAble", fn := fun _ => fun
  | [d1, d2, d3, d4] => { results := [.lit (.bool false)], args := [d1, d2, d3, d4] }
  | _ => none }
def CastingAbleWrongFalsely : Prop := castingAbleRow.holds Tryd.pinned (OpenSpec.ofChange castingAbleWrong)

/-- 'kinespherelaw47.CastingMore': WHATEVER THE INPUT: true; the input reads as it did. -/
def castingMoreSpec : ChangeSpec := { name := "castingMore", fn := fun _ => fun
  | [d1, d2, d3] => { results := [.lit (.bool true)], args := [d1, d2, d3] }
  | _ => none }
def castingMoreRow : OpenClaim := { program := "ytggcbblikgankaadoor", sum := "83d2e2adc88c9e7e4159a2ccea4196835751432207cc6734a6962304015034ae", func := "kinesphere/kinespherelaw47.CastingMore", spec := "castingMore", inPlace := ["internal/bytealg.IndexByteString"], unfollowed := true, recurses := true, named := ["kinesphere/expand.kinds", "kinesphere/space.flat"], apart := false, laid := [("kinesphere/space.flat", laid_kinesphere_space_flat), ("kinesphere/expand.kinds", laid_kinesphere_expand_kinds)] }
def CastingMoreSaid : Prop := castingMoreRow.holds Tryd.pinned (OpenSpec.ofChange castingMoreSpec)

/-- ITS FALSE NEIGHBOUR: 'it returns false'. Refute it at one input. -/
def castingMoreWrong : ChangeSpec := { name := "castingMore", fn := fun _ => fun
  | [d1, d2, d3] => { results := [.lit (.bool false)], args := [d1, d2, d3] }
  | _ => none }
def CastingMoreWrongFalsely : Prop := castingMoreRow.holds Tryd.pinned (OpenSpec.ofChange castingMoreWrong)

/-- 'kinespherelaw47.CastingStronger': WHATEVER THE INPUT: true; the input reads as it did. -/
def castingStrongerSpec : ChangeSpec := { name := "castingStronger", fn := fun _ => fun
  | [d1, d2, d3, d4] => { results := [.lit (.bool true)], args := [d1, d2, d3, d4] }
  | _ => none }
def castingStrongerRow : OpenClaim := { program := "ytggcbblikgankaadoor", sum := "83d2e2adc88c9e7e4159a2ccea4196835751432207cc6734a6962304015034ae", func := "kinesphere/kinespherelaw47.CastingStronger", spec := "castingStronger", inPlace := ["internal/bytealg.IndexByteString"], unfollowed := true, recurses := true, named := ["kinesphere/expand.kinds", "kinesphere/space.flat"], apart := false, laid := [("kinesphere/space.flat", laid_kinesphere_space_flat), ("kinesphere/expand.kinds", laid_kinesphere_expand_kinds)] }
def CastingStrongerSaid : Prop := castingStrongerRow.holds Tryd.pinned (OpenSpec.ofChange castingStrongerSpec)

/-- ITS FALSE NEIGHBOUR: 'it returns false'. Refute it at one input. -/
def castingStrongerWrong : ChangeSpec := { name := "castingStronger", fn := fun _ => fun
  | [d1, d2, d3, d4] => { results := [.lit (.bool false)], args := [d1, d2, d3, d4] }
  | _ => none }
def CastingStrongerWrongFalsely : Prop := castingStrongerRow.holds Tryd.pinned (OpenSpec.ofChange castingStrongerWrong)

/- THE SECOND FORM. 'bulk': how many values and letters a reading holds, each counted each time it is reached (what is shared counts as often as it is met; a slice's spare places count too). A statement '..UptoSaid' is the law's where the arguments, and the package variables that the reading takes, are together of bulk at most 1048576: NARROWER than '..Said'. Prove '..Said' where nothing that the law and all that it calls make is longer than what came in: it says more and counts as full. Else prove '..UptoSaid'. A law counts once. -/
mutual
def uptoBulk {H : Type} : DataW H → Nat
  | .lit (.string bytes) => bytes.length + 1
  | .lit _ => 1
  | .nil => 1
  | .ptr d => uptoBulk d + 1
  | .slice elems spare => uptoBulkAll elems + uptoBulkAll spare + 1
  | .agg parts => uptoBulkAll parts + 1
  | .iface _ d => uptoBulk d + 1
  | .map entries => uptoBulkEntries entries + 1
  | .held _ => 1
def uptoBulkAll {H : Type} : List (DataW H) → Nat
  | [] => 0
  | d :: r => uptoBulk d + uptoBulkAll r
def uptoBulkEntries {H : Type} : List (Lit × DataW H) → Nat
  | [] => 0
  | x :: r => uptoBulkEntry x + uptoBulkEntries r
def uptoBulkEntry {H : Type} : Lit × DataW H → Nat
  | (.string bytes, d) => bytes.length + uptoBulk d + 1
  | (_, d) => uptoBulk d + 1
 end
def uptoSmall : (H : Type) → List (DataW H) → Bool := fun _ ds => decide (uptoBulkAll ds ≤ 1048576)
def OpenSpec.upto (s : _root_.Go.ChangeSpec) : _root_.Go.OpenSpec := { _root_.Go.OpenSpec.ofChange s with cond := some uptoSmall }

/-- 'kinespherelaw30.OptionsAll', WHERE WHAT IT READS IS OF BULK AT MOST 1048576: true; the input reads as it did. -/
def optionsAllUptoRow : OpenClaim := { program := "ytggcbblikgankaadoor", sum := "83d2e2adc88c9e7e4159a2ccea4196835751432207cc6734a6962304015034ae", func := "kinesphere/kinespherelaw30.OptionsAll", spec := "optionsAll", inPlace := ["internal/bytealg.IndexByteString"], unfollowed := true, recurses := true, named := ["kinesphere/expand.kinds", "kinesphere/space.flat"], apart := false, laid := [("kinesphere/space.flat", laid_kinesphere_space_flat), ("kinesphere/expand.kinds", laid_kinesphere_expand_kinds)], narrowed := true }
def OptionsAllUptoSaid : Prop := optionsAllUptoRow.holds Tryd.pinned (OpenSpec.upto optionsAllSpec)

/-- 'kinespherelaw30.OptionsFirst', WHERE WHAT IT READS IS OF BULK AT MOST 1048576: true; the input reads as it did. -/
def optionsFirstUptoRow : OpenClaim := { program := "ytggcbblikgankaadoor", sum := "83d2e2adc88c9e7e4159a2ccea4196835751432207cc6734a6962304015034ae", func := "kinesphere/kinespherelaw30.OptionsFirst", spec := "optionsFirst", inPlace := ["internal/bytealg.IndexByteString"], unfollowed := true, recurses := true, named := ["kinesphere/expand.kinds", "kinesphere/space.flat"], apart := false, laid := [("kinesphere/space.flat", laid_kinesphere_space_flat), ("kinesphere/expand.kinds", laid_kinesphere_expand_kinds)], narrowed := true }
def OptionsFirstUptoSaid : Prop := optionsFirstUptoRow.holds Tryd.pinned (OpenSpec.upto optionsFirstSpec)

/-- 'kinespherelaw30.OptionsMirror', WHERE WHAT IT READS IS OF BULK AT MOST 1048576: true; the input reads as it did. -/
def optionsMirrorUptoRow : OpenClaim := { program := "ytggcbblikgankaadoor", sum := "83d2e2adc88c9e7e4159a2ccea4196835751432207cc6734a6962304015034ae", func := "kinesphere/kinespherelaw30.OptionsMirror", spec := "optionsMirror", inPlace := ["internal/bytealg.IndexByteString"], unfollowed := true, recurses := true, named := ["kinesphere/expand.kinds", "kinesphere/space.flat"], apart := false, laid := [("kinesphere/space.flat", laid_kinesphere_space_flat), ("kinesphere/expand.kinds", laid_kinesphere_expand_kinds)], narrowed := true }
def OptionsMirrorUptoSaid : Prop := optionsMirrorUptoRow.holds Tryd.pinned (OpenSpec.upto optionsMirrorSpec)

/-- 'kinespherelaw30.OptionsTolerance', WHERE WHAT IT READS IS OF BULK AT MOST 1048576: true; the input reads as it did. -/
def optionsToleranceUptoRow : OpenClaim := { program := "ytggcbblikgankaadoor", sum := "83d2e2adc88c9e7e4159a2ccea4196835751432207cc6734a6962304015034ae", func := "kinesphere/kinespherelaw30.OptionsTolerance", spec := "optionsTolerance", inPlace := ["internal/bytealg.IndexByteString"], unfollowed := true, recurses := true, named := ["kinesphere/expand.kinds", "kinesphere/space.flat"], apart := false, laid := [("kinesphere/space.flat", laid_kinesphere_space_flat), ("kinesphere/expand.kinds", laid_kinesphere_expand_kinds)], narrowed := true }
def OptionsToleranceUptoSaid : Prop := optionsToleranceUptoRow.holds Tryd.pinned (OpenSpec.upto optionsToleranceSpec)

/-- 'kinespherelaw30.OptionsWeaker', WHERE WHAT IT READS IS OF BULK AT MOST 1048576: true; the input reads as it did. -/
def optionsWeakerUptoRow : OpenClaim := { program := "ytggcbblikgankaadoor", sum := "83d2e2adc88c9e7e4159a2ccea4196835751432207cc6734a6962304015034ae", func := "kinesphere/kinespherelaw30.OptionsWeaker", spec := "optionsWeaker", inPlace := ["internal/bytealg.IndexByteString"], unfollowed := true, recurses := true, named := ["kinesphere/expand.kinds", "kinesphere/space.flat"], apart := false, laid := [("kinesphere/space.flat", laid_kinesphere_space_flat), ("kinesphere/expand.kinds", laid_kinesphere_expand_kinds)], narrowed := true }
def OptionsWeakerUptoSaid : Prop := optionsWeakerUptoRow.holds Tryd.pinned (OpenSpec.upto optionsWeakerSpec)

/-- 'kinespherelaw47.CastingEither', WHERE WHAT IT READS IS OF BULK AT MOST 1048576: true; the input reads as it did. -/
def castingEitherUptoRow : OpenClaim := { program := "ytggcbblikgankaadoor", sum := "83d2e2adc88c9e7e4159a2ccea4196835751432207cc6734a6962304015034ae", func := "kinesphere/kinespherelaw47.CastingEither", spec := "castingEither", inPlace := ["internal/bytealg.IndexByteString"], unfollowed := true, recurses := true, named := ["kinesphere/expand.kinds", "kinesphere/space.flat"], apart := false, laid := [("kinesphere/space.flat", laid_kinesphere_space_flat), ("kinesphere/expand.kinds", laid_kinesphere_expand_kinds)], narrowed := true }
def CastingEitherUptoSaid : Prop := castingEitherUptoRow.holds Tryd.pinned (OpenSpec.upto castingEitherSpec)

/-- 'kinespherelaw47.CastingBound', WHERE WHAT IT READS IS OF BULK AT MOST 1048576: true; the input reads as it did. -/
def castingBoundUptoRow : OpenClaim := { program := "ytggcbblikgankaadoor", sum := "83d2e2adc88c9e7e4159a2ccea4196835751432207cc6734a6962304015034ae", func := "kinesphere/kinespherelaw47.CastingBound", spec := "castingBound", inPlace := ["internal/bytealg.IndexByteString"], unfollowed := true, recurses := true, named := ["kinesphere/expand.kinds", "kinesphere/space.flat"], apart := false, laid := [("kinesphere/space.flat", laid_kinesphere_space_flat), ("kinesphere/expand.kinds", laid_kinesphere_expand_kinds)], narrowed := true }
def CastingBoundUptoSaid : Prop := castingBoundUptoRow.holds Tryd.pinned (OpenSpec.upto castingBoundSpec)

/-- 'kinespherelaw47.CastingAble', WHERE WHAT IT READS IS OF BULK AT MOST 1048576: true; the input reads as it did. -/
def castingAbleUptoRow : OpenClaim := { program := "ytggcbblikgankaadoor", sum := "83d2e2adc88c9e7e4159a2ccea4196835751432207cc6734a6962304015034ae", func := "kinesphere/kinespherelaw47.CastingAble", spec := "castingAble", inPlace := ["internal/bytealg.IndexByteString"], unfollowed := true, recurses := true, named := ["kinesphere/expand.kinds", "kinesphere/space.flat"], apart := false, laid := [("kinesphere/space.flat", laid_kinesphere_space_flat), ("kinesphere/expand.kinds", laid_kinesphere_expand_kinds)], narrowed := true }
def CastingAbleUptoSaid : Prop := castingAbleUptoRow.holds Tryd.pinned (OpenSpec.upto castingAbleSpec)

/-- 'kinespherelaw47.CastingMore', WHERE WHAT IT READS IS OF BULK AT MOST 1048576: true; the input reads as it did. -/
def castingMoreUptoRow : OpenClaim := { program := "ytggcbblikgankaadoor", sum := "83d2e2adc88c9e7e4159a2ccea4196835751432207cc6734a6962304015034ae", func := "kinesphere/kinespherelaw47.CastingMore", spec := "castingMore", inPlace := ["internal/bytealg.IndexByteString"], unfollowed := true, recurses := true, named := ["kinesphere/expand.kinds", "kinesphere/space.flat"], apart := false, laid := [("kinesphere/space.flat", laid_kinesphere_space_flat), ("kinesphere/expand.kinds", laid_kinesphere_expand_kinds)], narrowed := true }
def CastingMoreUptoSaid : Prop := castingMoreUptoRow.holds Tryd.pinned (OpenSpec.upto castingMoreSpec)

/-- 'kinespherelaw47.CastingStronger', WHERE WHAT IT READS IS OF BULK AT MOST 1048576: true; the input reads as it did. -/
def castingStrongerUptoRow : OpenClaim := { program := "ytggcbblikgankaadoor", sum := "83d2e2adc88c9e7e4159a2ccea4196835751432207cc6734a6962304015034ae", func := "kinesphere/kinespherelaw47.CastingStronger", spec := "castingStronger", inPlace := ["internal/bytealg.IndexByteString"], unfollowed := true, recurses := true, named := ["kinesphere/expand.kinds", "kinesphere/space.flat"], apart := false, laid := [("kinesphere/space.flat", laid_kinesphere_space_flat), ("kinesphere/expand.kinds", laid_kinesphere_expand_kinds)], narrowed := true }
def CastingStrongerUptoSaid : Prop := castingStrongerUptoRow.holds Tryd.pinned (OpenSpec.upto castingStrongerSpec)

end Rows
end Go.Proofs.YtggcbblikgankaaDoor

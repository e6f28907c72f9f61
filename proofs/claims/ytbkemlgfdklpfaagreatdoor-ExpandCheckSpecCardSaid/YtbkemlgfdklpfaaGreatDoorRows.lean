/-
  NARROWER THAN 'FOR EVERY INPUT', by the rows' own cells (each row's printed sentence says how): ExpandSpec: loops, laid · ExpandCheckSpec: laid · ExpandWritten: loops, laid · ExpandEach: loops, laid · ExpandLater: loops, laid · ExpandMirror: loops, laid.
  DERIVED. THE GIVEN ROWS OF THIS SEAT. 6 by the template 'for every input the law returns true; each argument reads behind the call as it read before'; 0 by the template 'total and deterministic' (their statements: YtbkemlgfdklpfaaGreatDoorTotals.lean).
  GIVEN WITH THE SEED: the statements are not yours to turn. If you find one false, say at which input.
  Laid BY PROGRAM, IN A SANDBOX (cutbox-rows.mjs): the forced cells as the released guide's own fill.sh prints them over the translation 28f667afa6cd0221… (all of the seat's roots in one cut). By AI agents, Wed Nov 11 2026. No macro, syntax, notation, axiom, sorry.
-/
import Derived.Test.YtbkemlgfdklpfaaGreatDoorChecked
import GoSem.Claim
import GoSem.ClaimJoined
import GoSem.ClaimMapViews
import Derived.JoinedTies
import Derived.KernelRfl
namespace Go.Proofs.YtbkemlgfdklpfaaGreatDoor
/- THE CELL 'sum', in the pinned program and in every row, IS THE sha256 OF THE DUMP (.gsa) THAT YtbkemlgfdklpfaaGreatDoorProg.lean LOADS. Nothing in Lean hashes anything: it is a label: what it is worth is what the hold of that sum in a sandbox is worth. -/
noncomputable def Tryz.pinned : Pinned := { name := "ytbkemlgfdklpfaagreatdoor", sum := "28f667afa6cd02215f08f952fa6ece3ecaa11e4528c749249e63606e4571cbf8", checked := Tryz.checked }
namespace Rows
def none {H : Type} : Left H := { results := [], args := [] }

/- WHAT THE LISTED PACKAGE-LEVEL VARIABLES READ AS WHEN THE CALL BEGINS. Each datum BY PROGRAM (the guide's laid-datum.mjs) off the statement by which the dump's own 'gosem.cut.vars' lays the variable. In a bare row this is a premise. The card (YtbkemlgfdklpfaaGreatDoorCards.lean) ties it to the program's text. -/
def laid_kinesphere_expand_kinds {H : Type} : DataW H := .agg [.agg [.lit (.bool false), .lit (.bool false), .lit (.bool false), .lit (.int .i64 0), .lit (.int .i64 0), .lit (.int .i64 0)], .agg [.lit (.bool true), .lit (.bool true), .lit (.bool false), .lit (.int .i64 1), .lit (.int .i64 0), .lit (.int .i64 16)], .agg [.lit (.bool false), .lit (.bool true), .lit (.bool false), .lit (.int .i64 1), .lit (.int .i64 0), .lit (.int .i64 16)], .agg [.lit (.bool true), .lit (.bool true), .lit (.bool false), .lit (.int .i64 0), .lit (.int .i64 3), .lit (.int .i64 0)], .agg [.lit (.bool true), .lit (.bool true), .lit (.bool false), .lit (.int .i64 0), .lit (.int .i64 3), .lit (.int .i64 0)], .agg [.lit (.bool false), .lit (.bool true), .lit (.bool false), .lit (.int .i64 0), .lit (.int .i64 3), .lit (.int .i64 0)], .agg [.lit (.bool false), .lit (.bool false), .lit (.bool false), .lit (.int .i64 0), .lit (.int .i64 0), .lit (.int .i64 7)], .agg [.lit (.bool false), .lit (.bool false), .lit (.bool true), .lit (.int .i64 0), .lit (.int .i64 0), .lit (.int .i64 0)], .agg [.lit (.bool false), .lit (.bool false), .lit (.bool true), .lit (.int .i64 0), .lit (.int .i64 0), .lit (.int .i64 0)], .agg [.lit (.bool true), .lit (.bool false), .lit (.bool false), .lit (.int .i64 0), .lit (.int .i64 3), .lit (.int .i64 0)]]

/-- 'kinespherelaw19.ExpandSpec': WHATEVER THE INPUT: true; the input reads as it did. -/
def expandSpecSpec : ChangeSpec := { name := "expandSpec", fn := fun _ => fun
  | [d] => { results := [.lit (.bool true)], args := [d] }
  | _ => none }
def expandSpecRow : OpenClaim := { program := "ytbkemlgfdklpfaagreatdoor", sum := "28f667afa6cd02215f08f952fa6ece3ecaa11e4528c749249e63606e4571cbf8", func := "kinesphere/kinespherelaw19.ExpandSpec", spec := "expandSpec", inPlace := ["internal/bytealg.IndexByteString", "internal/bytealg.IndexString"], unfollowed := true, recurses := true, named := ["internal/bytealg.MaxLen", "kinesphere/expand.kinds"], loops := true, apart := false, laid := [("kinesphere/expand.kinds", laid_kinesphere_expand_kinds)] }
def ExpandSpecSaid : Prop := expandSpecRow.holds Tryz.pinned (OpenSpec.ofChange expandSpecSpec)

/-- ITS FALSE NEIGHBOUR: 'it returns false'. Refute it at one input. -/
def expandSpecWrong : ChangeSpec := { name := "expandSpec", fn := fun _ => fun
  | [d] => { results := [.lit (.bool false)], args := [d] }
  | _ => none }
def ExpandSpecWrongFalsely : Prop := expandSpecRow.holds Tryz.pinned (OpenSpec.ofChange expandSpecWrong)

/-- 'kinespherelaw19.ExpandCheckSpec': WHATEVER THE INPUT: true; the input reads as it did. -/
def expandCheckSpecSpec : ChangeSpec := { name := "expandCheckSpec", fn := fun _ => fun
  | [d1, d2, d3] => { results := [.lit (.bool true)], args := [d1, d2, d3] }
  | _ => none }
def expandCheckSpecRow : OpenClaim := { program := "ytbkemlgfdklpfaagreatdoor", sum := "28f667afa6cd02215f08f952fa6ece3ecaa11e4528c749249e63606e4571cbf8", func := "kinesphere/kinespherelaw19.ExpandCheckSpec", spec := "expandCheckSpec", inPlace := ["internal/bytealg.IndexByteString", "internal/bytealg.IndexString"], unfollowed := true, recurses := true, named := ["internal/bytealg.MaxLen", "kinesphere/expand.kinds"], apart := false, laid := [("kinesphere/expand.kinds", laid_kinesphere_expand_kinds)] }
def ExpandCheckSpecSaid : Prop := expandCheckSpecRow.holds Tryz.pinned (OpenSpec.ofChange expandCheckSpecSpec)

/-- ITS FALSE NEIGHBOUR: 'it returns false'. Refute it at one input. -/
def expandCheckSpecWrong : ChangeSpec := { name := "expandCheckSpec", fn := fun _ => fun
  | [d1, d2, d3] => { results := [.lit (.bool false)], args := [d1, d2, d3] }
  | _ => none }
def ExpandCheckSpecWrongFalsely : Prop := expandCheckSpecRow.holds Tryz.pinned (OpenSpec.ofChange expandCheckSpecWrong)

/-- 'kinespherelaw19.ExpandWritten': WHATEVER THE INPUT: true; the input reads as it did. -/
def expandWrittenSpec : ChangeSpec := { name := "expandWritten", fn := fun _ => fun
  | [d] => { results := [.lit (.bool true)], args := [d] }
  | _ => none }
def expandWrittenRow : OpenClaim := { program := "ytbkemlgfdklpfaagreatdoor", sum := "28f667afa6cd02215f08f952fa6ece3ecaa11e4528c749249e63606e4571cbf8", func := "kinesphere/kinespherelaw19.ExpandWritten", spec := "expandWritten", inPlace := ["internal/bytealg.IndexByteString", "internal/bytealg.IndexString"], unfollowed := true, recurses := true, named := ["internal/bytealg.MaxLen", "kinesphere/expand.kinds"], loops := true, apart := false, laid := [("kinesphere/expand.kinds", laid_kinesphere_expand_kinds)] }
def ExpandWrittenSaid : Prop := expandWrittenRow.holds Tryz.pinned (OpenSpec.ofChange expandWrittenSpec)

/-- ITS FALSE NEIGHBOUR: 'it returns false'. Refute it at one input. -/
def expandWrittenWrong : ChangeSpec := { name := "expandWritten", fn := fun _ => fun
  | [d] => { results := [.lit (.bool false)], args := [d] }
  | _ => none }
def ExpandWrittenWrongFalsely : Prop := expandWrittenRow.holds Tryz.pinned (OpenSpec.ofChange expandWrittenWrong)

/-- 'kinespherelaw19.ExpandEach': WHATEVER THE INPUT: true; the input reads as it did. -/
def expandEachSpec : ChangeSpec := { name := "expandEach", fn := fun _ => fun
  | [d] => { results := [.lit (.bool true)], args := [d] }
  | _ => none }
def expandEachRow : OpenClaim := { program := "ytbkemlgfdklpfaagreatdoor", sum := "28f667afa6cd02215f08f952fa6ece3ecaa11e4528c749249e63606e4571cbf8", func := "kinesphere/kinespherelaw19.ExpandEach", spec := "expandEach", inPlace := ["internal/bytealg.IndexByteString", "internal/bytealg.IndexString"], unfollowed := true, recurses := true, named := ["internal/bytealg.MaxLen", "kinesphere/expand.kinds"], loops := true, apart := false, laid := [("kinesphere/expand.kinds", laid_kinesphere_expand_kinds)] }
def ExpandEachSaid : Prop := expandEachRow.holds Tryz.pinned (OpenSpec.ofChange expandEachSpec)

/-- ITS FALSE NEIGHBOUR: 'it returns false'. Refute it at one input. -/
def expandEachWrong : ChangeSpec := { name := "expandEach", fn := fun _ => fun
  | [d] => { results := [.lit (.bool false)], args := [d] }
  | _ => none }
def ExpandEachWrongFalsely : Prop := expandEachRow.holds Tryz.pinned (OpenSpec.ofChange expandEachWrong)

/-- 'kinespherelaw19.ExpandLater': WHATEVER THE INPUT: true; the input reads as it did. -/
def expandLaterSpec : ChangeSpec := { name := "expandLater", fn := fun _ => fun
  | [d1, d2] => { results := [.lit (.bool true)], args := [d1, d2] }
  | _ => none }
def expandLaterRow : OpenClaim := { program := "ytbkemlgfdklpfaagreatdoor", sum := "28f667afa6cd02215f08f952fa6ece3ecaa11e4528c749249e63606e4571cbf8", func := "kinesphere/kinespherelaw19.ExpandLater", spec := "expandLater", inPlace := ["internal/bytealg.IndexByteString", "internal/bytealg.IndexString"], unfollowed := true, recurses := true, named := ["internal/bytealg.MaxLen", "kinesphere/expand.kinds"], loops := true, apart := false, laid := [("kinesphere/expand.kinds", laid_kinesphere_expand_kinds)] }
def ExpandLaterSaid : Prop := expandLaterRow.holds Tryz.pinned (OpenSpec.ofChange expandLaterSpec)

/-- ITS FALSE NEIGHBOUR: 'it returns false'. Refute it at one input. -/
def expandLaterWrong : ChangeSpec := { name := "expandLater", fn := fun _ => fun
  | [d1, d2] => { results := [.lit (.bool false)], args := [d1, d2] }
  | _ => none }
def ExpandLaterWrongFalsely : Prop := expandLaterRow.holds Tryz.pinned (OpenSpec.ofChange expandLaterWrong)

/-- 'kinespherelaw19.ExpandMirror': WHATEVER THE INPUT: true; the input reads as it did. -/
def expandMirrorSpec : ChangeSpec := { name := "expandMirror", fn := fun _ => fun
  | [d] => { results := [.lit (.bool true)], args := [d] }
  | _ => none }
def expandMirrorRow : OpenClaim := { program := "ytbkemlgfdklpfaagreatdoor", sum := "28f667afa6cd02215f08f952fa6ece3ecaa11e4528c749249e63606e4571cbf8", func := "kinesphere/kinespherelaw19.ExpandMirror", spec := "expandMirror", inPlace := ["internal/bytealg.IndexByteString", "internal/bytealg.IndexString"], unfollowed := true, recurses := true, named := ["internal/bytealg.MaxLen", "kinesphere/expand.kinds"], loops := true, apart := false, laid := [("kinesphere/expand.kinds", laid_kinesphere_expand_kinds)] }
def ExpandMirrorSaid : Prop := expandMirrorRow.holds Tryz.pinned (OpenSpec.ofChange expandMirrorSpec)

/-- ITS FALSE NEIGHBOUR: 'it returns false'. Refute it at one input. -/
def expandMirrorWrong : ChangeSpec := { name := "expandMirror", fn := fun _ => fun
  | [d] => { results := [.lit (.bool false)], args := [d] }
  | _ => none }
def ExpandMirrorWrongFalsely : Prop := expandMirrorRow.holds Tryz.pinned (OpenSpec.ofChange expandMirrorWrong)

/- THE SECOND FORM. 'bulk': how many values and letters a reading holds, each counted each time it is reached (what is shared counts as often as it is met; a slice's spare places count too). A statement '..UptoSaid' is the law's where the arguments, and the package variables that the reading takes, are together of bulk at most 1048576: NARROWER than '..Said'. Prove '..Said' where nothing that the law and all that it calls make is longer than what came in: it says more and counts as full. Else prove '..UptoSaid'. A law counts once. -/
mutual
def uptoBulk {H : Type} : DataW H → Nat
  | .lit (.string bytes) => bytes.length + 1
  | .lit _ => 1
  | .nil => 1
  | .ptr d => uptoBulk d + 1
  | .slice elems spare => uptoBulkAll elems + uptoBulkAll spare + 1
  | .agg parts => uptoBulkAll parts + 1
  | .iface _ d => uptoBulk d + 1
  | .map entries => uptoBulkEntries entries + 1
  | .held _ => 1
def uptoBulkAll {H : Type} : List (DataW H) → Nat
  | [] => 0
  | d :: r => uptoBulk d + uptoBulkAll r
def uptoBulkEntries {H : Type} : List (Lit × DataW H) → Nat
  | [] => 0
  | x :: r => uptoBulkEntry x + uptoBulkEntries r
def uptoBulkEntry {H : Type} : Lit × DataW H → Nat
  | (.string bytes, d) => bytes.length + uptoBulk d + 1
  | (_, d) => uptoBulk d + 1
 end
def uptoSmall : (H : Type) → List (DataW H) → Bool := fun _ ds => decide (uptoBulkAll ds ≤ 1048576)
def OpenSpec.upto (s : _root_.Go.ChangeSpec) : _root_.Go.OpenSpec := { _root_.Go.OpenSpec.ofChange s with cond := some uptoSmall }

/-- 'kinespherelaw19.ExpandSpec', WHERE WHAT IT READS IS OF BULK AT MOST 1048576: true; the input reads as it did. -/
def expandSpecUptoRow : OpenClaim := { program := "ytbkemlgfdklpfaagreatdoor", sum := "28f667afa6cd02215f08f952fa6ece3ecaa11e4528c749249e63606e4571cbf8", func := "kinesphere/kinespherelaw19.ExpandSpec", spec := "expandSpec", inPlace := ["internal/bytealg.IndexByteString", "internal/bytealg.IndexString"], unfollowed := true, recurses := true, named := ["internal/bytealg.MaxLen", "kinesphere/expand.kinds"], loops := true, apart := false, laid := [("kinesphere/expand.kinds", laid_kinesphere_expand_kinds)], narrowed := true }
def ExpandSpecUptoSaid : Prop := expandSpecUptoRow.holds Tryz.pinned (OpenSpec.upto expandSpecSpec)

/-- 'kinespherelaw19.ExpandCheckSpec', WHERE WHAT IT READS IS OF BULK AT MOST 1048576: true; the input reads as it did. -/
def expandCheckSpecUptoRow : OpenClaim := { program := "ytbkemlgfdklpfaagreatdoor", sum := "28f667afa6cd02215f08f952fa6ece3ecaa11e4528c749249e63606e4571cbf8", func := "kinesphere/kinespherelaw19.ExpandCheckSpec", spec := "expandCheckSpec", inPlace := ["internal/bytealg.IndexByteString", "internal/bytealg.IndexString"], unfollowed := true, recurses := true, named := ["internal/bytealg.MaxLen", "kinesphere/expand.kinds"], apart := false, laid := [("kinesphere/expand.kinds", laid_kinesphere_expand_kinds)], narrowed := true }
def ExpandCheckSpecUptoSaid : Prop := expandCheckSpecUptoRow.holds Tryz.pinned (OpenSpec.upto expandCheckSpecSpec)

/-- 'kinespherelaw19.ExpandWritten', WHERE WHAT IT READS IS OF BULK AT MOST 1048576: true; the input reads as it did. -/
def expandWrittenUptoRow : OpenClaim := { program := "ytbkemlgfdklpfaagreatdoor", sum := "28f667afa6cd02215f08f952fa6ece3ecaa11e4528c749249e63606e4571cbf8", func := "kinesphere/kinespherelaw19.ExpandWritten", spec := "expandWritten", inPlace := ["internal/bytealg.IndexByteString", "internal/bytealg.IndexString"], unfollowed := true, recurses := true, named := ["internal/bytealg.MaxLen", "kinesphere/expand.kinds"], loops := true, apart := false, laid := [("kinesphere/expand.kinds", laid_kinesphere_expand_kinds)], narrowed := true }
def ExpandWrittenUptoSaid : Prop := expandWrittenUptoRow.holds Tryz.pinned (OpenSpec.upto expandWrittenSpec)

/-- 'kinespherelaw19.ExpandEach', WHERE WHAT IT READS IS OF BULK AT MOST 1048576: true; the input reads as it did. -/
def expandEachUptoRow : OpenClaim := { program := "ytbkemlgfdklpfaagreatdoor", sum := "28f667afa6cd02215f08f952fa6ece3ecaa11e4528c749249e63606e4571cbf8", func := "kinesphere/kinespherelaw19.ExpandEach", spec := "expandEach", inPlace := ["internal/bytealg.IndexByteString", "internal/bytealg.IndexString"], unfollowed := true, recurses := true, named := ["internal/bytealg.MaxLen", "kinesphere/expand.kinds"], loops := true, apart := false, laid := [("kinesphere/expand.kinds", laid_kinesphere_expand_kinds)], narrowed := true }
def ExpandEachUptoSaid : Prop := expandEachUptoRow.holds Tryz.pinned (OpenSpec.upto expandEachSpec)

/-- 'kinespherelaw19.ExpandLater', WHERE WHAT IT READS IS OF BULK AT MOST 1048576: true; the input reads as it did. -/
def expandLaterUptoRow : OpenClaim := { program := "ytbkemlgfdklpfaagreatdoor", sum := "28f667afa6cd02215f08f952fa6ece3ecaa11e4528c749249e63606e4571cbf8", func := "kinesphere/kinespherelaw19.ExpandLater", spec := "expandLater", inPlace := ["internal/bytealg.IndexByteString", "internal/bytealg.IndexString"], unfollowed := true, recurses := true, named := ["internal/bytealg.MaxLen", "kinesphere/expand.kinds"], loops := true, apart := false, laid := [("kinesphere/expand.kinds", laid_kinesphere_expand_kinds)], narrowed := true }
def ExpandLaterUptoSaid : Prop := expandLaterUptoRow.holds Tryz.pinned (OpenSpec.upto expandLaterSpec)

/-- 'kinespherelaw19.ExpandMirror', WHERE WHAT IT READS IS OF BULK AT MOST 1048576: true; the input reads as it did. -/
def expandMirrorUptoRow : OpenClaim := { program := "ytbkemlgfdklpfaagreatdoor", sum := "28f667afa6cd02215f08f952fa6ece3ecaa11e4528c749249e63606e4571cbf8", func := "kinesphere/kinespherelaw19.ExpandMirror", spec := "expandMirror", inPlace := ["internal/bytealg.IndexByteString", "internal/bytealg.IndexString"], unfollowed := true, recurses := true, named := ["internal/bytealg.MaxLen", "kinesphere/expand.kinds"], loops := true, apart := false, laid := [("kinesphere/expand.kinds", laid_kinesphere_expand_kinds)], narrowed := true }
def ExpandMirrorUptoSaid : Prop := expandMirrorUptoRow.holds Tryz.pinned (OpenSpec.upto expandMirrorSpec)

end Rows
end Go.Proofs.YtbkemlgfdklpfaaGreatDoor

/-
  NARROWER THAN 'FOR EVERY INPUT', by the rows' own cells (each row's printed sentence says how): NamesResolved: loops · NamesRename: loops · NamesOrder: loops · NamesMissing: loops · NamesTwice: loops · RulesEnds: loops · RulesSum: loops · RulesLess: loops · RulesRepeat: loops · RulesSpoiled: loops.
  DERIVED. THE GIVEN ROWS OF THIS SEAT. 10 by the template 'for every input the law returns true; each argument reads behind the call as it read before'; 0 by the template 'total and deterministic' (their statements: YtpnbpepkoekkoaaTotals.lean).
  GIVEN WITH THE SEED: the statements are not yours to turn. If you find one false, say at which input.
  Laid BY PROGRAM, IN A SANDBOX (cutbox-rows.mjs): the forced cells as the released guide's own fill.sh prints them over the translation f8f1555b854c134a… (all of the seat's roots in one cut). By AI agents, Wed Nov 11 2026. No macro, syntax, notation, axiom, sorry.
-/
import Derived.Test.YtpnbpepkoekkoaaChecked
import GoSem.Claim
import GoSem.ClaimJoined
import GoSem.ClaimMapViews
import Derived.JoinedTies
import Derived.KernelRfl
namespace Go.Proofs.Ytpnbpepkoekkoaa
/- THE CELL 'sum', in the pinned program and in every row, IS THE sha256 OF THE DUMP (.gsa) THAT YtpnbpepkoekkoaaProg.lean LOADS. Nothing in Lean hashes anything: it is a label: what it is worth is what the hold of that sum in a sandbox is worth. -/
noncomputable def Try.pinned : Pinned := { name := "ytpnbpepkoekkoaa", sum := "f8f1555b854c134aff96ed5e182db480430cbf678a1ef8a93f52c28919dbae3f", checked := Try.checked }
namespace Rows
def none {H : Type} : Left H := { results := [], args := [] }

/-- 'kinespherelaw17.NamesResolved': WHATEVER THE INPUT: true; the input reads as it did. -/
def namesResolvedSpec : ChangeSpec := { name := "namesResolved", fn := fun _ => fun
  | [d1, d2, d3] => { results := [.lit (.bool true)], args := [d1, d2, d3] }
  | _ => none }
def namesResolvedRow : OpenClaim := { program := "ytpnbpepkoekkoaa", sum := "f8f1555b854c134aff96ed5e182db480430cbf678a1ef8a93f52c28919dbae3f", func := "kinesphere/kinespherelaw17.NamesResolved", spec := "namesResolved", inPlace := ["internal/bytealg.IndexByteString", "internal/bytealg.IndexString"], unfollowed := true, recurses := true, named := ["internal/bytealg.MaxLen"], loops := true, apart := false }
def NamesResolvedSaid : Prop := namesResolvedRow.holds Try.pinned (OpenSpec.ofChange namesResolvedSpec)

/-- ITS FALSE NEIGHBOUR: 'it returns false'. Refute it at one input. -/
def namesResolvedWrong : ChangeSpec := { name := "namesResolved", fn := fun _ => fun
  | [d1, d2, d3] => { results := [.lit (.bool false)], args := [d1, d2, d3] }
  | _ => none }
def NamesResolvedWrongFalsely : Prop := namesResolvedRow.holds Try.pinned (OpenSpec.ofChange namesResolvedWrong)

/-- 'kinespherelaw17.NamesRename': WHATEVER THE INPUT: true; the input reads as it did. -/
def namesRenameSpec : ChangeSpec := { name := "namesRename", fn := fun _ => fun
  | [d1, d2, d3, d4] => { results := [.lit (.bool true)], args := [d1, d2, d3, d4] }
  | _ => none }
def namesRenameRow : OpenClaim := { program := "ytpnbpepkoekkoaa", sum := "f8f1555b854c134aff96ed5e182db480430cbf678a1ef8a93f52c28919dbae3f", func := "kinesphere/kinespherelaw17.NamesRename", spec := "namesRename", inPlace := ["internal/bytealg.IndexByteString", "internal/bytealg.IndexString"], unfollowed := true, recurses := true, named := ["internal/bytealg.MaxLen"], loops := true, apart := false }
def NamesRenameSaid : Prop := namesRenameRow.holds Try.pinned (OpenSpec.ofChange namesRenameSpec)

/-- ITS FALSE NEIGHBOUR: 'it returns false'. Refute it at one input. -/
def namesRenameWrong : ChangeSpec := { name := "namesRename", fn := fun _ => fun
  | [d1, d2, d3, d4] => { results := [.lit (.bool false)], args := [d1, d2, d3, d4] }
  | _ => none }
def NamesRenameWrongFalsely : Prop := namesRenameRow.holds Try.pinned (OpenSpec.ofChange namesRenameWrong)

/-- 'kinespherelaw17.NamesOrder': WHATEVER THE INPUT: true; the input reads as it did. -/
def namesOrderSpec : ChangeSpec := { name := "namesOrder", fn := fun _ => fun
  | [d] => { results := [.lit (.bool true)], args := [d] }
  | _ => none }
def namesOrderRow : OpenClaim := { program := "ytpnbpepkoekkoaa", sum := "f8f1555b854c134aff96ed5e182db480430cbf678a1ef8a93f52c28919dbae3f", func := "kinesphere/kinespherelaw17.NamesOrder", spec := "namesOrder", inPlace := ["internal/bytealg.IndexByteString", "internal/bytealg.IndexString"], unfollowed := true, recurses := true, named := ["internal/bytealg.MaxLen"], loops := true, apart := false }
def NamesOrderSaid : Prop := namesOrderRow.holds Try.pinned (OpenSpec.ofChange namesOrderSpec)

/-- ITS FALSE NEIGHBOUR: 'it returns false'. Refute it at one input. -/
def namesOrderWrong : ChangeSpec := { name := "namesOrder", fn := fun _ => fun
  | [d] => { results := [.lit (.bool false)], args := [d] }
  | _ => none }
def NamesOrderWrongFalsely : Prop := namesOrderRow.holds Try.pinned (OpenSpec.ofChange namesOrderWrong)

/-- 'kinespherelaw17.NamesMissing': WHATEVER THE INPUT: true; the input reads as it did. -/
def namesMissingSpec : ChangeSpec := { name := "namesMissing", fn := fun _ => fun
  | [d1, d2, d3] => { results := [.lit (.bool true)], args := [d1, d2, d3] }
  | _ => none }
def namesMissingRow : OpenClaim := { program := "ytpnbpepkoekkoaa", sum := "f8f1555b854c134aff96ed5e182db480430cbf678a1ef8a93f52c28919dbae3f", func := "kinesphere/kinespherelaw17.NamesMissing", spec := "namesMissing", inPlace := ["internal/bytealg.IndexByteString", "internal/bytealg.IndexString"], unfollowed := true, recurses := true, named := ["internal/bytealg.MaxLen"], loops := true, apart := false }
def NamesMissingSaid : Prop := namesMissingRow.holds Try.pinned (OpenSpec.ofChange namesMissingSpec)

/-- ITS FALSE NEIGHBOUR: 'it returns false'. Refute it at one input. -/
def namesMissingWrong : ChangeSpec := { name := "namesMissing", fn := fun _ => fun
  | [d1, d2, d3] => { results := [.lit (.bool false)], args := [d1, d2, d3] }
  | _ => none }
def NamesMissingWrongFalsely : Prop := namesMissingRow.holds Try.pinned (OpenSpec.ofChange namesMissingWrong)

/-- 'kinespherelaw17.NamesTwice': WHATEVER THE INPUT: true; the input reads as it did. -/
def namesTwiceSpec : ChangeSpec := { name := "namesTwice", fn := fun _ => fun
  | [d1, d2, d3, d4] => { results := [.lit (.bool true)], args := [d1, d2, d3, d4] }
  | _ => none }
def namesTwiceRow : OpenClaim := { program := "ytpnbpepkoekkoaa", sum := "f8f1555b854c134aff96ed5e182db480430cbf678a1ef8a93f52c28919dbae3f", func := "kinesphere/kinespherelaw17.NamesTwice", spec := "namesTwice", inPlace := ["internal/bytealg.IndexByteString", "internal/bytealg.IndexString"], unfollowed := true, recurses := true, named := ["internal/bytealg.MaxLen"], loops := true, apart := false }
def NamesTwiceSaid : Prop := namesTwiceRow.holds Try.pinned (OpenSpec.ofChange namesTwiceSpec)

/-- ITS FALSE NEIGHBOUR: 'it returns false'. Refute it at one input. -/
def namesTwiceWrong : ChangeSpec := { name := "namesTwice", fn := fun _ => fun
  | [d1, d2, d3, d4] => { results := [.lit (.bool false)], args := [d1, d2, d3, d4] }
  | _ => none }
def NamesTwiceWrongFalsely : Prop := namesTwiceRow.holds Try.pinned (OpenSpec.ofChange namesTwiceWrong)

/-- 'kinespherelaw18.RulesEnds': WHATEVER THE INPUT: true; the input reads as it did. -/
def rulesEndsSpec : ChangeSpec := { name := "rulesEnds", fn := fun _ => fun
  | [d] => { results := [.lit (.bool true)], args := [d] }
  | _ => none }
def rulesEndsRow : OpenClaim := { program := "ytpnbpepkoekkoaa", sum := "f8f1555b854c134aff96ed5e182db480430cbf678a1ef8a93f52c28919dbae3f", func := "kinesphere/kinespherelaw18.RulesEnds", spec := "rulesEnds", inPlace := ["internal/bytealg.IndexByteString", "internal/bytealg.IndexString"], unfollowed := true, recurses := true, named := ["internal/bytealg.MaxLen"], loops := true, apart := false }
def RulesEndsSaid : Prop := rulesEndsRow.holds Try.pinned (OpenSpec.ofChange rulesEndsSpec)

/-- ITS FALSE NEIGHBOUR: 'it returns false'. Refute it at one input. -/
def rulesEndsWrong : ChangeSpec := { name := "rulesEnds", fn := fun _ => fun
  | [d] => { results := [.lit (.bool false)], args := [d] }
  | _ => none }
def RulesEndsWrongFalsely : Prop := rulesEndsRow.holds Try.pinned (OpenSpec.ofChange rulesEndsWrong)

/-- 'kinespherelaw18.RulesSum': WHATEVER THE INPUT: true; the input reads as it did. -/
def rulesSumSpec : ChangeSpec := { name := "rulesSum", fn := fun _ => fun
  | [d] => { results := [.lit (.bool true)], args := [d] }
  | _ => none }
def rulesSumRow : OpenClaim := { program := "ytpnbpepkoekkoaa", sum := "f8f1555b854c134aff96ed5e182db480430cbf678a1ef8a93f52c28919dbae3f", func := "kinesphere/kinespherelaw18.RulesSum", spec := "rulesSum", inPlace := ["internal/bytealg.IndexByteString", "internal/bytealg.IndexString"], unfollowed := true, recurses := true, named := ["internal/bytealg.MaxLen"], loops := true, apart := false }
def RulesSumSaid : Prop := rulesSumRow.holds Try.pinned (OpenSpec.ofChange rulesSumSpec)

/-- ITS FALSE NEIGHBOUR: 'it returns false'. Refute it at one input. -/
def rulesSumWrong : ChangeSpec := { name := "rulesSum", fn := fun _ => fun
  | [d] => { results := [.lit (.bool false)], args := [d] }
  | _ => none }
def RulesSumWrongFalsely : Prop := rulesSumRow.holds Try.pinned (OpenSpec.ofChange rulesSumWrong)

/-- 'kinespherelaw18.RulesLess': WHATEVER THE INPUT: true; the input reads as it did. -/
def rulesLessSpec : ChangeSpec := { name := "rulesLess", fn := fun _ => fun
  | [d1, d2, d3] => { results := [.lit (.bool true)], args := [d1, d2, d3] }
  | _ => none }
def rulesLessRow : OpenClaim := { program := "ytpnbpepkoekkoaa", sum := "f8f1555b854c134aff96ed5e182db480430cbf678a1ef8a93f52c28919dbae3f", func := "kinesphere/kinespherelaw18.RulesLess", spec := "rulesLess", inPlace := ["internal/bytealg.IndexByteString", "internal/bytealg.IndexString"], unfollowed := true, recurses := true, named := ["internal/bytealg.MaxLen"], loops := true, apart := false }
def RulesLessSaid : Prop := rulesLessRow.holds Try.pinned (OpenSpec.ofChange rulesLessSpec)

/-- ITS FALSE NEIGHBOUR: 'it returns false'. Refute it at one input. -/
def rulesLessWrong : ChangeSpec := { name := "rulesLess", fn := fun _ => fun
  | [d1, d2, d3] => { results := [.lit (.bool false)], args := [d1, d2, d3] }
  | _ => none }
def RulesLessWrongFalsely : Prop := rulesLessRow.holds Try.pinned (OpenSpec.ofChange rulesLessWrong)

/-- 'kinespherelaw18.RulesRepeat': WHATEVER THE INPUT: true; the input reads as it did. -/
def rulesRepeatSpec : ChangeSpec := { name := "rulesRepeat", fn := fun _ => fun
  | [d1, d2, d3] => { results := [.lit (.bool true)], args := [d1, d2, d3] }
  | _ => none }
def rulesRepeatRow : OpenClaim := { program := "ytpnbpepkoekkoaa", sum := "f8f1555b854c134aff96ed5e182db480430cbf678a1ef8a93f52c28919dbae3f", func := "kinesphere/kinespherelaw18.RulesRepeat", spec := "rulesRepeat", inPlace := ["internal/bytealg.IndexByteString", "internal/bytealg.IndexString"], unfollowed := true, recurses := true, named := ["internal/bytealg.MaxLen"], loops := true, apart := false }
def RulesRepeatSaid : Prop := rulesRepeatRow.holds Try.pinned (OpenSpec.ofChange rulesRepeatSpec)

/-- ITS FALSE NEIGHBOUR: 'it returns false'. Refute it at one input. -/
def rulesRepeatWrong : ChangeSpec := { name := "rulesRepeat", fn := fun _ => fun
  | [d1, d2, d3] => { results := [.lit (.bool false)], args := [d1, d2, d3] }
  | _ => none }
def RulesRepeatWrongFalsely : Prop := rulesRepeatRow.holds Try.pinned (OpenSpec.ofChange rulesRepeatWrong)

/-- 'kinespherelaw18.RulesSpoiled': WHATEVER THE INPUT: true; the input reads as it did. -/
def rulesSpoiledSpec : ChangeSpec := { name := "rulesSpoiled", fn := fun _ => fun
  | [d1, d2, d3] => { results := [.lit (.bool true)], args := [d1, d2, d3] }
  | _ => none }
def rulesSpoiledRow : OpenClaim := { program := "ytpnbpepkoekkoaa", sum := "f8f1555b854c134aff96ed5e182db480430cbf678a1ef8a93f52c28919dbae3f", func := "kinesphere/kinespherelaw18.RulesSpoiled", spec := "rulesSpoiled", inPlace := ["internal/bytealg.IndexByteString", "internal/bytealg.IndexString"], unfollowed := true, recurses := true, named := ["internal/bytealg.MaxLen"], loops := true, apart := false }
def RulesSpoiledSaid : Prop := rulesSpoiledRow.holds Try.pinned (OpenSpec.ofChange rulesSpoiledSpec)

/-- ITS FALSE NEIGHBOUR: 'it returns false'. Refute it at one input. -/
def rulesSpoiledWrong : ChangeSpec := { name := "rulesSpoiled", fn := fun _ => fun
  | [d1, d2, d3] => { results := [.lit (.bool false)], args := [d1, d2, d3] }
  | _ => none }
def RulesSpoiledWrongFalsely : Prop := rulesSpoiledRow.holds Try.pinned (OpenSpec.ofChange rulesSpoiledWrong)

/- THE SECOND FORM. 'bulk': how many values and letters a reading holds, each counted each time it is reached (what is shared counts as often as it is met; a slice's spare places count too). A statement '..UptoSaid' is the law's where the arguments, and the package variables that the reading takes, are together of bulk at most 1048576: NARROWER than '..Said'. Prove '..Said' where nothing that the law and all that it calls make is longer than what came in: it says more and counts as full. Else prove '..UptoSaid'. A law counts once. -/
mutual
def uptoBulk {H : Type} : DataW H → Nat
  | .lit (.string bytes) => bytes.length + 1
  | .lit _ => 1
  | .nil => 1
  | .ptr d => uptoBulk d + 1
  | .slice elems spare => uptoBulkAll elems + uptoBulkAll spare + 1
  | .agg parts => uptoBulkAll parts + 1
  | .iface _ d => uptoBulk d + 1
  | .map entries => uptoBulkEntries entries + 1
  | .held _ => 1
def uptoBulkAll {H : Type} : List (DataW H) → Nat
  | [] => 0
  | d :: r => uptoBulk d + uptoBulkAll r
def uptoBulkEntries {H : Type} : List (Lit × DataW H) → Nat
  | [] => 0
  | x :: r => uptoBulkEntry x + uptoBulkEntries r
def uptoBulkEntry {H : Type} : Lit × DataW H → Nat
  | (.string bytes, d) => bytes.length + uptoBulk d + 1
  | (_, d) => uptoBulk d + 1
 end
def uptoSmall : (H : Type) → List (DataW H) → Bool := fun _ ds => decide (uptoBulkAll ds ≤ 1048576)
def OpenSpec.upto (s : _root_.Go.ChangeSpec) : _root_.Go.OpenSpec := { _root_.Go.OpenSpec.ofChange s with cond := some uptoSmall }

/-- 'kinespherelaw17.NamesResolved', WHERE WHAT IT READS IS OF BULK AT MOST 1048576: true; the input reads as it did. -/
def namesResolvedUptoRow : OpenClaim := { program := "ytpnbpepkoekkoaa", sum := "f8f1555b854c134aff96ed5e182db480430cbf678a1ef8a93f52c28919dbae3f", func := "kinesphere/kinespherelaw17.NamesResolved", spec := "namesResolved", inPlace := ["internal/bytealg.IndexByteString", "internal/bytealg.IndexString"], unfollowed := true, recurses := true, named := ["internal/bytealg.MaxLen"], loops := true, apart := false, narrowed := true }
def NamesResolvedUptoSaid : Prop := namesResolvedUptoRow.holds Try.pinned (OpenSpec.upto namesResolvedSpec)

/-- 'kinespherelaw17.NamesRename', WHERE WHAT IT READS IS OF BULK AT MOST 1048576: true; the input reads as it did. -/
def namesRenameUptoRow : OpenClaim := { program := "ytpnbpepkoekkoaa", sum := "f8f1555b854c134aff96ed5e182db480430cbf678a1ef8a93f52c28919dbae3f", func := "kinesphere/kinespherelaw17.NamesRename", spec := "namesRename", inPlace := ["internal/bytealg.IndexByteString", "internal/bytealg.IndexString"], unfollowed := true, recurses := true, named := ["internal/bytealg.MaxLen"], loops := true, apart := false, narrowed := true }
def NamesRenameUptoSaid : Prop := namesRenameUptoRow.holds Try.pinned (OpenSpec.upto namesRenameSpec)

/-- 'kinespherelaw17.NamesOrder', WHERE WHAT IT READS IS OF BULK AT MOST 1048576: true; the input reads as it did. -/
def namesOrderUptoRow : OpenClaim := { program := "ytpnbpepkoekkoaa", sum := "f8f1555b854c134aff96ed5e182db480430cbf678a1ef8a93f52c28919dbae3f", func := "kinesphere/kinespherelaw17.NamesOrder", spec := "namesOrder", inPlace := ["internal/bytealg.IndexByteString", "internal/bytealg.IndexString"], unfollowed := true, recurses := true, named := ["internal/bytealg.MaxLen"], loops := true, apart := false, narrowed := true }
def NamesOrderUptoSaid : Prop := namesOrderUptoRow.holds Try.pinned (OpenSpec.upto namesOrderSpec)

/-- 'kinespherelaw17.NamesMissing', WHERE WHAT IT READS IS OF BULK AT MOST 1048576: true; the input reads as it did. -/
def namesMissingUptoRow : OpenClaim := { program := "ytpnbpepkoekkoaa", sum := "f8f1555b854c134aff96ed5e182db480430cbf678a1ef8a93f52c28919dbae3f", func := "kinesphere/kinespherelaw17.NamesMissing", spec := "namesMissing", inPlace := ["internal/bytealg.IndexByteString", "internal/bytealg.IndexString"], unfollowed := true, recurses := true, named := ["internal/bytealg.MaxLen"], loops := true, apart := false, narrowed := true }
def NamesMissingUptoSaid : Prop := namesMissingUptoRow.holds Try.pinned (OpenSpec.upto namesMissingSpec)

/-- 'kinespherelaw17.NamesTwice', WHERE WHAT IT READS IS OF BULK AT MOST 1048576: true; the input reads as it did. -/
def namesTwiceUptoRow : OpenClaim := { program := "ytpnbpepkoekkoaa", sum := "f8f1555b854c134aff96ed5e182db480430cbf678a1ef8a93f52c28919dbae3f", func := "kinesphere/kinespherelaw17.NamesTwice", spec := "namesTwice", inPlace := ["internal/bytealg.IndexByteString", "internal/bytealg.IndexString"], unfollowed := true, recurses := true, named := ["internal/bytealg.MaxLen"], loops := true, apart := false, narrowed := true }
def NamesTwiceUptoSaid : Prop := namesTwiceUptoRow.holds Try.pinned (OpenSpec.upto namesTwiceSpec)

/-- 'kinespherelaw18.RulesEnds', WHERE WHAT IT READS IS OF BULK AT MOST 1048576: true; the input reads as it did. -/
def rulesEndsUptoRow : OpenClaim := { program := "ytpnbpepkoekkoaa", sum := "f8f1555b854c134aff96ed5e182db480430cbf678a1ef8a93f52c28919dbae3f", func := "kinesphere/kinespherelaw18.RulesEnds", spec := "rulesEnds", inPlace := ["internal/bytealg.IndexByteString", "internal/bytealg.IndexString"], unfollowed := true, recurses := true, named := ["internal/bytealg.MaxLen"], loops := true, apart := false, narrowed := true }
def RulesEndsUptoSaid : Prop := rulesEndsUptoRow.holds Try.pinned (OpenSpec.upto rulesEndsSpec)

/-- 'kinespherelaw18.RulesSum', WHERE WHAT IT READS IS OF BULK AT MOST 1048576: true; the input reads as it did. -/
def rulesSumUptoRow : OpenClaim := { program := "ytpnbpepkoekkoaa", sum := "f8f1555b854c134aff96ed5e182db480430cbf678a1ef8a93f52c28919dbae3f", func := "kinesphere/kinespherelaw18.RulesSum", spec := "rulesSum", inPlace := ["internal/bytealg.IndexByteString", "internal/bytealg.IndexString"], unfollowed := true, recurses := true, named := ["internal/bytealg.MaxLen"], loops := true, apart := false, narrowed := true }
def RulesSumUptoSaid : Prop := rulesSumUptoRow.holds Try.pinned (OpenSpec.upto rulesSumSpec)

/-- 'kinespherelaw18.RulesLess', WHERE WHAT IT READS IS OF BULK AT MOST 1048576: true; the input reads as it did. -/
def rulesLessUptoRow : OpenClaim := { program := "ytpnbpepkoekkoaa", sum := "f8f1555b854c134aff96ed5e182db480430cbf678a1ef8a93f52c28919dbae3f", func := "kinesphere/kinespherelaw18.RulesLess", spec := "rulesLess", inPlace := ["internal/bytealg.IndexByteString", "internal/bytealg.IndexString"], unfollowed := true, recurses := true, named := ["internal/bytealg.MaxLen"], loops := true, apart := false, narrowed := true }
def RulesLessUptoSaid : Prop := rulesLessUptoRow.holds Try.pinned (OpenSpec.upto rulesLessSpec)

/-- 'kinespherelaw18.RulesRepeat', WHERE WHAT IT READS IS OF BULK AT MOST 1048576: true; the input reads as it did. -/
def rulesRepeatUptoRow : OpenClaim := { program := "ytpnbpepkoekkoaa", sum := "f8f1555b854c134aff96ed5e182db480430cbf678a1ef8a93f52c28919dbae3f", func := "kinesphere/kinespherelaw18.RulesRepeat", spec := "rulesRepeat", inPlace := ["internal/bytealg.IndexByteString", "internal/bytealg.IndexString"], unfollowed := true, recurses := true, named := ["internal/bytealg.MaxLen"], loops := true, apart := false, narrowed := true }
def RulesRepeatUptoSaid : Prop := rulesRepeatUptoRow.holds Try.pinned (OpenSpec.upto rulesRepeatSpec)

/-- 'kinespherelaw18.RulesSpoiled', WHERE WHAT IT READS IS OF BULK AT MOST 1048576: true; the input reads as it did. -/
def rulesSpoiledUptoRow : OpenClaim := { program := "ytpnbpepkoekkoaa", sum := "f8f1555b854c134aff96ed5e182db480430cbf678a1ef8a93f52c28919dbae3f", func := "kinesphere/kinespherelaw18.RulesSpoiled", spec := "rulesSpoiled", inPlace := ["internal/bytealg.IndexByteString", "internal/bytealg.IndexString"], unfollowed := true, recurses := true, named := ["internal/bytealg.MaxLen"], loops := true, apart := false, narrowed := true }
def RulesSpoiledUptoSaid : Prop := rulesSpoiledUptoRow.holds Try.pinned (OpenSpec.upto rulesSpoiledSpec)

end Rows
end Go.Proofs.Ytpnbpepkoekkoaa

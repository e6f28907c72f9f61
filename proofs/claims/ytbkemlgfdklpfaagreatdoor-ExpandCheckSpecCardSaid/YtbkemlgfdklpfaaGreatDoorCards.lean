/-
  DERIVED. GIVEN WITH THE SEED: THE CARDS: each row of YtbkemlgfdklpfaaGreatDoorRows.lean that lists a variable, with what it lists TIED to the program's text (the seventh form; the later family's looks); each row that meets fmt, with fmt's text TOLD by the authors' own Lean function (tested against real Go, not proved from fmt's source: count such statements apart). THE CARD IS WHAT COUNTS. Prove the row's statement (the work); the ties are given (YtbkemlgfdklpfaaGreatDoorTie.lean); close each card by the builder's one call (the guide's Derived/Test/ToyasCard.lean, 'card_holds'). Laid BY PROGRAM, IN A SANDBOX (cutbox-door.mjs). By AI agents, Wed Nov 11 2026. No macro, syntax, notation, axiom, sorry.
-/
import Derived.Test.YtbkemlgfdklpfaaGreatDoorRows
import GoSem.ClaimSeven
namespace Go.Proofs.YtbkemlgfdklpfaaGreatDoor
namespace Rows

/-- THE TIED CARD OF 'kinespherelaw19.ExpandSpec'. -/
def expandSpecCard : Claim7 := { stood := { row := expandSpecRow, standIns := [], harness := (true, "50592f7b5422aa26b30b37f9e293ae17dcf2722843dac473a03c09ecdcfab5b5"), looks := true }, kinds := [], alts := [], laidByText := true, laidKinds := [.data], laidTests := true, laidLooks := .later }
def ExpandSpecCardSaid : Prop := Claim7.holds Tryz.pinned (.plain (OpenSpec.ofChange expandSpecSpec)) expandSpecCard

/-- THE TIED CARD OF 'kinespherelaw19.ExpandCheckSpec'. -/
def expandCheckSpecCard : Claim7 := { stood := { row := expandCheckSpecRow, standIns := [], harness := (true, "50592f7b5422aa26b30b37f9e293ae17dcf2722843dac473a03c09ecdcfab5b5"), looks := true }, kinds := [], alts := [], laidByText := true, laidKinds := [.data], laidTests := true, laidLooks := .later }
def ExpandCheckSpecCardSaid : Prop := Claim7.holds Tryz.pinned (.plain (OpenSpec.ofChange expandCheckSpecSpec)) expandCheckSpecCard

/-- THE TIED CARD OF 'kinespherelaw19.ExpandWritten'. -/
def expandWrittenCard : Claim7 := { stood := { row := expandWrittenRow, standIns := [], harness := (true, "50592f7b5422aa26b30b37f9e293ae17dcf2722843dac473a03c09ecdcfab5b5"), looks := true }, kinds := [], alts := [], laidByText := true, laidKinds := [.data], laidTests := true, laidLooks := .later }
def ExpandWrittenCardSaid : Prop := Claim7.holds Tryz.pinned (.plain (OpenSpec.ofChange expandWrittenSpec)) expandWrittenCard

/-- THE TIED CARD OF 'kinespherelaw19.ExpandEach'. -/
def expandEachCard : Claim7 := { stood := { row := expandEachRow, standIns := [], harness := (true, "50592f7b5422aa26b30b37f9e293ae17dcf2722843dac473a03c09ecdcfab5b5"), looks := true }, kinds := [], alts := [], laidByText := true, laidKinds := [.data], laidTests := true, laidLooks := .later }
def ExpandEachCardSaid : Prop := Claim7.holds Tryz.pinned (.plain (OpenSpec.ofChange expandEachSpec)) expandEachCard

/-- THE TIED CARD OF 'kinespherelaw19.ExpandLater'. -/
def expandLaterCard : Claim7 := { stood := { row := expandLaterRow, standIns := [], harness := (true, "50592f7b5422aa26b30b37f9e293ae17dcf2722843dac473a03c09ecdcfab5b5"), looks := true }, kinds := [], alts := [], laidByText := true, laidKinds := [.data], laidTests := true, laidLooks := .later }
def ExpandLaterCardSaid : Prop := Claim7.holds Tryz.pinned (.plain (OpenSpec.ofChange expandLaterSpec)) expandLaterCard

/-- THE TIED CARD OF 'kinespherelaw19.ExpandMirror'. -/
def expandMirrorCard : Claim7 := { stood := { row := expandMirrorRow, standIns := [], harness := (true, "50592f7b5422aa26b30b37f9e293ae17dcf2722843dac473a03c09ecdcfab5b5"), looks := true }, kinds := [], alts := [], laidByText := true, laidKinds := [.data], laidTests := true, laidLooks := .later }
def ExpandMirrorCardSaid : Prop := Claim7.holds Tryz.pinned (.plain (OpenSpec.ofChange expandMirrorSpec)) expandMirrorCard

/-- THE SECOND FORM's CARD OF 'kinespherelaw19.ExpandSpec'. -/
def expandSpecUptoCard : Claim7 := { stood := { row := expandSpecUptoRow, standIns := [], harness := (true, "50592f7b5422aa26b30b37f9e293ae17dcf2722843dac473a03c09ecdcfab5b5"), looks := true }, kinds := [], alts := [], laidByText := true, laidKinds := [.data], laidTests := true, laidLooks := .later }
def ExpandSpecUptoCardSaid : Prop := Claim7.holds Tryz.pinned (.plain (OpenSpec.upto expandSpecSpec)) expandSpecUptoCard

/-- THE SECOND FORM's CARD OF 'kinespherelaw19.ExpandCheckSpec'. -/
def expandCheckSpecUptoCard : Claim7 := { stood := { row := expandCheckSpecUptoRow, standIns := [], harness := (true, "50592f7b5422aa26b30b37f9e293ae17dcf2722843dac473a03c09ecdcfab5b5"), looks := true }, kinds := [], alts := [], laidByText := true, laidKinds := [.data], laidTests := true, laidLooks := .later }
def ExpandCheckSpecUptoCardSaid : Prop := Claim7.holds Tryz.pinned (.plain (OpenSpec.upto expandCheckSpecSpec)) expandCheckSpecUptoCard

/-- THE SECOND FORM's CARD OF 'kinespherelaw19.ExpandWritten'. -/
def expandWrittenUptoCard : Claim7 := { stood := { row := expandWrittenUptoRow, standIns := [], harness := (true, "50592f7b5422aa26b30b37f9e293ae17dcf2722843dac473a03c09ecdcfab5b5"), looks := true }, kinds := [], alts := [], laidByText := true, laidKinds := [.data], laidTests := true, laidLooks := .later }
def ExpandWrittenUptoCardSaid : Prop := Claim7.holds Tryz.pinned (.plain (OpenSpec.upto expandWrittenSpec)) expandWrittenUptoCard

/-- THE SECOND FORM's CARD OF 'kinespherelaw19.ExpandEach'. -/
def expandEachUptoCard : Claim7 := { stood := { row := expandEachUptoRow, standIns := [], harness := (true, "50592f7b5422aa26b30b37f9e293ae17dcf2722843dac473a03c09ecdcfab5b5"), looks := true }, kinds := [], alts := [], laidByText := true, laidKinds := [.data], laidTests := true, laidLooks := .later }
def ExpandEachUptoCardSaid : Prop := Claim7.holds Tryz.pinned (.plain (OpenSpec.upto expandEachSpec)) expandEachUptoCard

/-- THE SECOND FORM's CARD OF 'kinespherelaw19.ExpandLater'. -/
def expandLaterUptoCard : Claim7 := { stood := { row := expandLaterUptoRow, standIns := [], harness := (true, "50592f7b5422aa26b30b37f9e293ae17dcf2722843dac473a03c09ecdcfab5b5"), looks := true }, kinds := [], alts := [], laidByText := true, laidKinds := [.data], laidTests := true, laidLooks := .later }
def ExpandLaterUptoCardSaid : Prop := Claim7.holds Tryz.pinned (.plain (OpenSpec.upto expandLaterSpec)) expandLaterUptoCard

/-- THE SECOND FORM's CARD OF 'kinespherelaw19.ExpandMirror'. -/
def expandMirrorUptoCard : Claim7 := { stood := { row := expandMirrorUptoRow, standIns := [], harness := (true, "50592f7b5422aa26b30b37f9e293ae17dcf2722843dac473a03c09ecdcfab5b5"), looks := true }, kinds := [], alts := [], laidByText := true, laidKinds := [.data], laidTests := true, laidLooks := .later }
def ExpandMirrorUptoCardSaid : Prop := Claim7.holds Tryz.pinned (.plain (OpenSpec.upto expandMirrorSpec)) expandMirrorUptoCard
end Rows
end Go.Proofs.YtbkemlgfdklpfaaGreatDoor

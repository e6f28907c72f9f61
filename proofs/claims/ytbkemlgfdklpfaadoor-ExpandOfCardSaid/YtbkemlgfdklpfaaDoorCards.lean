/-
  DERIVED. GIVEN WITH THE SEED: THE CARDS: each row of YtbkemlgfdklpfaaDoorRows.lean that lists a variable, with what it lists TIED to the program's text (the seventh form; the later family's looks); each row that meets fmt, with fmt's text TOLD by the authors' own Lean function (tested against real Go, not proved from fmt's source: count such statements apart). THE CARD IS WHAT COUNTS. Prove the row's statement (the work); the ties are given (YtbkemlgfdklpfaaDoorTie.lean); close each card by the builder's one call (the guide's Derived/Test/ToyasCard.lean, 'card_holds'). Laid BY PROGRAM, IN A SANDBOX (cutbox-door.mjs). By AI agents, Wed Nov 11 2026. No macro, syntax, notation, axiom, sorry.
-/
import Derived.Test.YtbkemlgfdklpfaaDoorRows
import GoSem.ClaimSeven
namespace Go.Proofs.YtbkemlgfdklpfaaDoor
namespace Rows

/-- THE TIED CARD OF 'kinespherelaw19.ExpandOf'. -/
def expandOfCard : Claim7 := { stood := { row := expandOfRow, standIns := [], harness := (true, "10dc62613b983c88e0a4a58a984f89afa2a0b7349768cb26624e138448c0ecf0"), looks := true }, kinds := [], alts := [], laidByText := true, laidKinds := [.data], laidTests := true, laidLooks := .later }
def ExpandOfCardSaid : Prop := Claim7.holds Tryd.pinned (.plain (OpenSpec.ofChange expandOfSpec)) expandOfCard

/-- THE TIED CARD OF 'kinespherelaw19.ExpandSpoiled'. -/
def expandSpoiledCard : Claim7 := { stood := { row := expandSpoiledRow, standIns := [], harness := (true, "10dc62613b983c88e0a4a58a984f89afa2a0b7349768cb26624e138448c0ecf0"), looks := true }, kinds := [], alts := [], laidByText := true, laidKinds := [.data], laidTests := true, laidLooks := .later }
def ExpandSpoiledCardSaid : Prop := Claim7.holds Tryd.pinned (.plain (OpenSpec.ofChange expandSpoiledSpec)) expandSpoiledCard

/-- THE SECOND FORM's CARD OF 'kinespherelaw19.ExpandOf'. -/
def expandOfUptoCard : Claim7 := { stood := { row := expandOfUptoRow, standIns := [], harness := (true, "10dc62613b983c88e0a4a58a984f89afa2a0b7349768cb26624e138448c0ecf0"), looks := true }, kinds := [], alts := [], laidByText := true, laidKinds := [.data], laidTests := true, laidLooks := .later }
def ExpandOfUptoCardSaid : Prop := Claim7.holds Tryd.pinned (.plain (OpenSpec.upto expandOfSpec)) expandOfUptoCard

/-- THE SECOND FORM's CARD OF 'kinespherelaw19.ExpandSpoiled'. -/
def expandSpoiledUptoCard : Claim7 := { stood := { row := expandSpoiledUptoRow, standIns := [], harness := (true, "10dc62613b983c88e0a4a58a984f89afa2a0b7349768cb26624e138448c0ecf0"), looks := true }, kinds := [], alts := [], laidByText := true, laidKinds := [.data], laidTests := true, laidLooks := .later }
def ExpandSpoiledUptoCardSaid : Prop := Claim7.holds Tryd.pinned (.plain (OpenSpec.upto expandSpoiledSpec)) expandSpoiledUptoCard
end Rows
end Go.Proofs.YtbkemlgfdklpfaaDoor

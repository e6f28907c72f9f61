/-
  DERIVED. GIVEN WITH THE SEED: THE CARDS: each row of YtggcbblikgankaaGreatDoorRows.lean that lists a variable, with what it lists TIED to the program's text (the seventh form; the later family's looks); each row that meets fmt, with fmt's text TOLD by the authors' own Lean function (tested against real Go, not proved from fmt's source: count such statements apart). THE CARD IS WHAT COUNTS. Prove the row's statement (the work); the ties are given (YtggcbblikgankaaGreatDoorTie.lean); close each card by the builder's one call (the guide's Derived/Test/ToyasCard.lean, 'card_holds'). Laid BY PROGRAM, IN A SANDBOX (cutbox-door.mjs). By AI agents, Wed Nov 11 2026. No macro, syntax, notation, axiom, sorry.
-/
import Derived.Test.YtggcbblikgankaaGreatDoorRows
import GoSem.ClaimSeven
namespace Go.Proofs.YtggcbblikgankaaGreatDoor
namespace Rows

/-- THE TIED CARD OF 'kinespherelaw30.OptionsSpec'. -/
def optionsSpecCard : Claim7 := { stood := { row := optionsSpecRow, standIns := [], harness := (true, "efb5e71615a41d855022a83dffbc6523906ae4c7f97ae31cb28890da0a98abb0"), looks := true }, kinds := [], alts := [], laidByText := true, laidKinds := [.data, .data], laidTests := true, laidLooks := .later }
def OptionsSpecCardSaid : Prop := Claim7.holds Tryz.pinned (.plain (OpenSpec.ofChange optionsSpecSpec)) optionsSpecCard

/-- THE TIED CARD OF 'kinespherelaw47.CastingCostsSpec'. -/
def castingCostsSpecCard : Claim7 := { stood := { row := castingCostsSpecRow, standIns := [], harness := (true, "efb5e71615a41d855022a83dffbc6523906ae4c7f97ae31cb28890da0a98abb0"), looks := true }, kinds := [], alts := [], laidByText := true, laidKinds := [.data, .data], laidTests := true, laidLooks := .later }
def CastingCostsSpecCardSaid : Prop := Claim7.holds Tryz.pinned (.plain (OpenSpec.ofChange castingCostsSpecSpec)) castingCostsSpecCard

/-- THE TIED CARD OF 'kinespherelaw47.CastingSpec'. -/
def castingSpecCard : Claim7 := { stood := { row := castingSpecRow, standIns := [], harness := (true, "efb5e71615a41d855022a83dffbc6523906ae4c7f97ae31cb28890da0a98abb0"), looks := true }, kinds := [], alts := [], laidByText := true, laidKinds := [.data, .data], laidTests := true, laidLooks := .later }
def CastingSpecCardSaid : Prop := Claim7.holds Tryz.pinned (.plain (OpenSpec.ofChange castingSpecSpec)) castingSpecCard

/-- THE TIED CARD OF 'kinespherelaw47.CastingDenySpec'. -/
def castingDenySpecCard : Claim7 := { stood := { row := castingDenySpecRow, standIns := [], harness := (true, "efb5e71615a41d855022a83dffbc6523906ae4c7f97ae31cb28890da0a98abb0"), looks := true }, kinds := [], alts := [], laidByText := true, laidKinds := [.data, .data], laidTests := true, laidLooks := .later }
def CastingDenySpecCardSaid : Prop := Claim7.holds Tryz.pinned (.plain (OpenSpec.ofChange castingDenySpecSpec)) castingDenySpecCard

/-- THE SECOND FORM's CARD OF 'kinespherelaw30.OptionsSpec'. -/
def optionsSpecUptoCard : Claim7 := { stood := { row := optionsSpecUptoRow, standIns := [], harness := (true, "efb5e71615a41d855022a83dffbc6523906ae4c7f97ae31cb28890da0a98abb0"), looks := true }, kinds := [], alts := [], laidByText := true, laidKinds := [.data, .data], laidTests := true, laidLooks := .later }
def OptionsSpecUptoCardSaid : Prop := Claim7.holds Tryz.pinned (.plain (OpenSpec.upto optionsSpecSpec)) optionsSpecUptoCard

/-- THE SECOND FORM's CARD OF 'kinespherelaw47.CastingCostsSpec'. -/
def castingCostsSpecUptoCard : Claim7 := { stood := { row := castingCostsSpecUptoRow, standIns := [], harness := (true, "efb5e71615a41d855022a83dffbc6523906ae4c7f97ae31cb28890da0a98abb0"), looks := true }, kinds := [], alts := [], laidByText := true, laidKinds := [.data, .data], laidTests := true, laidLooks := .later }
def CastingCostsSpecUptoCardSaid : Prop := Claim7.holds Tryz.pinned (.plain (OpenSpec.upto castingCostsSpecSpec)) castingCostsSpecUptoCard

/-- THE SECOND FORM's CARD OF 'kinespherelaw47.CastingSpec'. -/
def castingSpecUptoCard : Claim7 := { stood := { row := castingSpecUptoRow, standIns := [], harness := (true, "efb5e71615a41d855022a83dffbc6523906ae4c7f97ae31cb28890da0a98abb0"), looks := true }, kinds := [], alts := [], laidByText := true, laidKinds := [.data, .data], laidTests := true, laidLooks := .later }
def CastingSpecUptoCardSaid : Prop := Claim7.holds Tryz.pinned (.plain (OpenSpec.upto castingSpecSpec)) castingSpecUptoCard

/-- THE SECOND FORM's CARD OF 'kinespherelaw47.CastingDenySpec'. -/
def castingDenySpecUptoCard : Claim7 := { stood := { row := castingDenySpecUptoRow, standIns := [], harness := (true, "efb5e71615a41d855022a83dffbc6523906ae4c7f97ae31cb28890da0a98abb0"), looks := true }, kinds := [], alts := [], laidByText := true, laidKinds := [.data, .data], laidTests := true, laidLooks := .later }
def CastingDenySpecUptoCardSaid : Prop := Claim7.holds Tryz.pinned (.plain (OpenSpec.upto castingDenySpecSpec)) castingDenySpecUptoCard
end Rows
end Go.Proofs.YtggcbblikgankaaGreatDoor

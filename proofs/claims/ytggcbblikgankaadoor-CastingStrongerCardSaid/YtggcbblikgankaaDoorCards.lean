/-
  DERIVED. GIVEN WITH THE SEED: THE CARDS: each row of YtggcbblikgankaaDoorRows.lean that lists a variable, with what it lists TIED to the program's text (the seventh form; the later family's looks); each row that meets fmt, with fmt's text TOLD by the authors' own Lean function (tested against real Go, not proved from fmt's source: count such statements apart). THE CARD IS WHAT COUNTS. Prove the row's statement (the work); the ties are given (YtggcbblikgankaaDoorTie.lean); close each card by the builder's one call (the guide's Derived/Test/ToyasCard.lean, 'card_holds'). Laid BY PROGRAM, IN A SANDBOX (cutbox-door.mjs). By AI agents, Wed Nov 11 2026. No macro, syntax, notation, axiom, sorry.
-/
import Derived.Test.YtggcbblikgankaaDoorRows
import GoSem.ClaimSeven
namespace Go.Proofs.YtggcbblikgankaaDoor
namespace Rows

/-- THE TIED CARD OF 'kinespherelaw30.OptionsAll'. -/
def optionsAllCard : Claim7 := { stood := { row := optionsAllRow, standIns := [], harness := (true, "240339f6024a10cf4d2c22ba862e9da7cc92efcce978b6fec993c7398a58cc4e"), looks := true }, kinds := [], alts := [], laidByText := true, laidKinds := [.data, .data], laidTests := true, laidLooks := .later }
def OptionsAllCardSaid : Prop := Claim7.holds Tryd.pinned (.plain (OpenSpec.ofChange optionsAllSpec)) optionsAllCard

/-- THE TIED CARD OF 'kinespherelaw30.OptionsFirst'. -/
def optionsFirstCard : Claim7 := { stood := { row := optionsFirstRow, standIns := [], harness := (true, "240339f6024a10cf4d2c22ba862e9da7cc92efcce978b6fec993c7398a58cc4e"), looks := true }, kinds := [], alts := [], laidByText := true, laidKinds := [.data, .data], laidTests := true, laidLooks := .later }
def OptionsFirstCardSaid : Prop := Claim7.holds Tryd.pinned (.plain (OpenSpec.ofChange optionsFirstSpec)) optionsFirstCard

/-- THE TIED CARD OF 'kinespherelaw30.OptionsMirror'. -/
def optionsMirrorCard : Claim7 := { stood := { row := optionsMirrorRow, standIns := [], harness := (true, "240339f6024a10cf4d2c22ba862e9da7cc92efcce978b6fec993c7398a58cc4e"), looks := true }, kinds := [], alts := [], laidByText := true, laidKinds := [.data, .data], laidTests := true, laidLooks := .later }
def OptionsMirrorCardSaid : Prop := Claim7.holds Tryd.pinned (.plain (OpenSpec.ofChange optionsMirrorSpec)) optionsMirrorCard

/-- THE TIED CARD OF 'kinespherelaw30.OptionsTolerance'. -/
def optionsToleranceCard : Claim7 := { stood := { row := optionsToleranceRow, standIns := [], harness := (true, "240339f6024a10cf4d2c22ba862e9da7cc92efcce978b6fec993c7398a58cc4e"), looks := true }, kinds := [], alts := [], laidByText := true, laidKinds := [.data, .data], laidTests := true, laidLooks := .later }
def OptionsToleranceCardSaid : Prop := Claim7.holds Tryd.pinned (.plain (OpenSpec.ofChange optionsToleranceSpec)) optionsToleranceCard

/-- THE TIED CARD OF 'kinespherelaw30.OptionsWeaker'. -/
def optionsWeakerCard : Claim7 := { stood := { row := optionsWeakerRow, standIns := [], harness := (true, "240339f6024a10cf4d2c22ba862e9da7cc92efcce978b6fec993c7398a58cc4e"), looks := true }, kinds := [], alts := [], laidByText := true, laidKinds := [.data, .data], laidTests := true, laidLooks := .later }
def OptionsWeakerCardSaid : Prop := Claim7.holds Tryd.pinned (.plain (OpenSpec.ofChange optionsWeakerSpec)) optionsWeakerCard

/-- THE TIED CARD OF 'kinespherelaw47.CastingEither'. -/
def castingEitherCard : Claim7 := { stood := { row := castingEitherRow, standIns := [], harness := (true, "240339f6024a10cf4d2c22ba862e9da7cc92efcce978b6fec993c7398a58cc4e"), looks := true }, kinds := [], alts := [], laidByText := true, laidKinds := [.data, .data], laidTests := true, laidLooks := .later }
def CastingEitherCardSaid : Prop := Claim7.holds Tryd.pinned (.plain (OpenSpec.ofChange castingEitherSpec)) castingEitherCard

/-- THE TIED CARD OF 'kinespherelaw47.CastingBound'. -/
def castingBoundCard : Claim7 := { stood := { row := castingBoundRow, standIns := [], harness := (true, "240339f6024a10cf4d2c22ba862e9da7cc92efcce978b6fec993c7398a58cc4e"), looks := true }, kinds := [], alts := [], laidByText := true, laidKinds := [.data, .data], laidTests := true, laidLooks := .later }
def CastingBoundCardSaid : Prop := Claim7.holds Tryd.pinned (.plain (OpenSpec.ofChange castingBoundSpec)) castingBoundCard

/-- THE TIED CARD OF 'kinespherelaw47.CastingAble'. -/
def castingAbleCard : Claim7 := { stood := { row := castingAbleRow, standIns := [], harness := (true, "240339f6024a10cf4d2c22ba862e9da7cc92efcce978b6fec993c7398a58cc4e"), looks := true }, kinds := [], alts := [], laidByText := true, laidKinds := [.data, .data], laidTests := true, laidLooks := .later }
def CastingAbleCardSaid : Prop := Claim7.holds Tryd.pinned (.plain (OpenSpec.ofChange castingAbleSpec)) castingAbleCard

/-- THE TIED CARD OF 'kinespherelaw47.CastingMore'. -/
def castingMoreCard : Claim7 := { stood := { row := castingMoreRow, standIns := [], harness := (true, "240339f6024a10cf4d2c22ba862e9da7cc92efcce978b6fec993c7398a58cc4e"), looks := true }, kinds := [], alts := [], laidByText := true, laidKinds := [.data, .data], laidTests := true, laidLooks := .later }
def CastingMoreCardSaid : Prop := Claim7.holds Tryd.pinned (.plain (OpenSpec.ofChange castingMoreSpec)) castingMoreCard

/-- THE TIED CARD OF 'kinespherelaw47.CastingStronger'. -/
def castingStrongerCard : Claim7 := { stood := { row := castingStrongerRow, standIns := [], harness := (true, "240339f6024a10cf4d2c22ba862e9da7cc92efcce978b6fec993c7398a58cc4e"), looks := true }, kinds := [], alts := [], laidByText := true, laidKinds := [.data, .data], laidTests := true, laidLooks := .later }
def CastingStrongerCardSaid : Prop := Claim7.holds Tryd.pinned (.plain (OpenSpec.ofChange castingStrongerSpec)) castingStrongerCard

/-- THE SECOND FORM's CARD OF 'kinespherelaw30.OptionsAll'. -/
def optionsAllUptoCard : Claim7 := { stood := { row := optionsAllUptoRow, standIns := [], harness := (true, "240339f6024a10cf4d2c22ba862e9da7cc92efcce978b6fec993c7398a58cc4e"), looks := true }, kinds := [], alts := [], laidByText := true, laidKinds := [.data, .data], laidTests := true, laidLooks := .later }
def OptionsAllUptoCardSaid : Prop := Claim7.holds Tryd.pinned (.plain (OpenSpec.upto optionsAllSpec)) optionsAllUptoCard

/-- THE SECOND FORM's CARD OF 'kinespherelaw30.OptionsFirst'. -/
def optionsFirstUptoCard : Claim7 := { stood := { row := optionsFirstUptoRow, standIns := [], harness := (true, "240339f6024a10cf4d2c22ba862e9da7cc92efcce978b6fec993c7398a58cc4e"), looks := true }, kinds := [], alts := [], laidByText := true, laidKinds := [.data, .data], laidTests := true, laidLooks := .later }
def OptionsFirstUptoCardSaid : Prop := Claim7.holds Tryd.pinned (.plain (OpenSpec.upto optionsFirstSpec)) optionsFirstUptoCard

/-- THE SECOND FORM's CARD OF 'kinespherelaw30.OptionsMirror'. -/
def optionsMirrorUptoCard : Claim7 := { stood := { row := optionsMirrorUptoRow, standIns := [], harness := (true, "240339f6024a10cf4d2c22ba862e9da7cc92efcce978b6fec993c7398a58cc4e"), looks := true }, kinds := [], alts := [], laidByText := true, laidKinds := [.data, .data], laidTests := true, laidLooks := .later }
def OptionsMirrorUptoCardSaid : Prop := Claim7.holds Tryd.pinned (.plain (OpenSpec.upto optionsMirrorSpec)) optionsMirrorUptoCard

/-- THE SECOND FORM's CARD OF 'kinespherelaw30.OptionsTolerance'. -/
def optionsToleranceUptoCard : Claim7 := { stood := { row := optionsToleranceUptoRow, standIns := [], harness := (true, "240339f6024a10cf4d2c22ba862e9da7cc92efcce978b6fec993c7398a58cc4e"), looks := true }, kinds := [], alts := [], laidByText := true, laidKinds := [.data, .data], laidTests := true, laidLooks := .later }
def OptionsToleranceUptoCardSaid : Prop := Claim7.holds Tryd.pinned (.plain (OpenSpec.upto optionsToleranceSpec)) optionsToleranceUptoCard

/-- THE SECOND FORM's CARD OF 'kinespherelaw30.OptionsWeaker'. -/
def optionsWeakerUptoCard : Claim7 := { stood := { row := optionsWeakerUptoRow, standIns := [], harness := (true, "240339f6024a10cf4d2c22ba862e9da7cc92efcce978b6fec993c7398a58cc4e"), looks := true }, kinds := [], alts := [], laidByText := true, laidKinds := [.data, .data], laidTests := true, laidLooks := .later }
def OptionsWeakerUptoCardSaid : Prop := Claim7.holds Tryd.pinned (.plain (OpenSpec.upto optionsWeakerSpec)) optionsWeakerUptoCard

/-- THE SECOND FORM's CARD OF 'kinespherelaw47.CastingEither'. -/
def castingEitherUptoCard : Claim7 := { stood := { row := castingEitherUptoRow, standIns := [], harness := (true, "240339f6024a10cf4d2c22ba862e9da7cc92efcce978b6fec993c7398a58cc4e"), looks := true }, kinds := [], alts := [], laidByText := true, laidKinds := [.data, .data], laidTests := true, laidLooks := .later }
def CastingEitherUptoCardSaid : Prop := Claim7.holds Tryd.pinned (.plain (OpenSpec.upto castingEitherSpec)) castingEitherUptoCard

/-- THE SECOND FORM's CARD OF 'kinespherelaw47.CastingBound'. -/
def castingBoundUptoCard : Claim7 := { stood := { row := castingBoundUptoRow, standIns := [], harness := (true, "240339f6024a10cf4d2c22ba862e9da7cc92efcce978b6fec993c7398a58cc4e"), looks := true }, kinds := [], alts := [], laidByText := true, laidKinds := [.data, .data], laidTests := true, laidLooks := .later }
def CastingBoundUptoCardSaid : Prop := Claim7.holds Tryd.pinned (.plain (OpenSpec.upto castingBoundSpec)) castingBoundUptoCard

/-- THE SECOND FORM's CARD OF 'kinespherelaw47.CastingAble'. -/
def castingAbleUptoCard : Claim7 := { stood := { row := castingAbleUptoRow, standIns := [], harness := (true, "240339f6024a10cf4d2c22ba862e9da7cc92efcce978b6fec993c7398a58cc4e"), looks := true }, kinds := [], alts := [], laidByText := true, laidKinds := [.data, .data], laidTests := true, laidLooks := .later }
def CastingAbleUptoCardSaid : Prop := Claim7.holds Tryd.pinned (.plain (OpenSpec.upto castingAbleSpec)) castingAbleUptoCard

/-- THE SECOND FORM's CARD OF 'kinespherelaw47.CastingMore'. -/
def castingMoreUptoCard : Claim7 := { stood := { row := castingMoreUptoRow, standIns := [], harness := (true, "240339f6024a10cf4d2c22ba862e9da7cc92efcce978b6fec993c7398a58cc4e"), looks := true }, kinds := [], alts := [], laidByText := true, laidKinds := [.data, .data], laidTests := true, laidLooks := .later }
def CastingMoreUptoCardSaid : Prop := Claim7.holds Tryd.pinned (.plain (OpenSpec.upto castingMoreSpec)) castingMoreUptoCard

/-- THE SECOND FORM's CARD OF 'kinespherelaw47.CastingStronger'. -/
def castingStrongerUptoCard : Claim7 := { stood := { row := castingStrongerUptoRow, standIns := [], harness := (true, "240339f6024a10cf4d2c22ba862e9da7cc92efcce978b6fec993c7398a58cc4e"), looks := true }, kinds := [], alts := [], laidByText := true, laidKinds := [.data, .data], laidTests := true, laidLooks := .later }
def CastingStrongerUptoCardSaid : Prop := Claim7.holds Tryd.pinned (.plain (OpenSpec.upto castingStrongerSpec)) castingStrongerUptoCard
end Rows
end Go.Proofs.YtggcbblikgankaaDoor

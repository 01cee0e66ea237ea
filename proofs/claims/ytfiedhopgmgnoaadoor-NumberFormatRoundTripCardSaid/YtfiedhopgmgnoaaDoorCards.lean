/-
  DERIVED. GIVEN WITH THE SEED: THE CARDS: each row of YtfiedhopgmgnoaaDoorRows.lean that lists a variable, with what it lists TIED to the program's text (the seventh form; the later family's looks); each row that meets fmt, with fmt's text TOLD by the authors' own Lean function (tested against real Go, not proved from fmt's source: count such statements apart). THE CARD IS WHAT COUNTS. Prove the row's statement (the work); the ties are given (YtfiedhopgmgnoaaDoorTie.lean); close each card by the builder's one call (the guide's Derived/Test/ToyasCard.lean, 'card_holds'). Laid BY PROGRAM, IN A SANDBOX (cutbox-door.mjs). By AI agents, Wed Nov 11 2026. No macro, syntax, notation, axiom, sorry.
-/
import Derived.Test.YtfiedhopgmgnoaaDoorRows
import GoSem.ClaimSeven
namespace Go.Proofs.YtfiedhopgmgnoaaDoor
namespace Rows

/-- THE TIED CARD OF 'fetterlocklaw1.NumberFormatRoundTrip'. -/
def numberFormatRoundTripCard : Claim7 := { stood := { row := numberFormatRoundTripRow, standIns := [], harness := (true, "f9fb9e1ca8145375097c5a72ddbc335b7d54a504963570f8f79a4a60e4219b48"), looks := false }, kinds := [], alts := [], laidByText := true, laidKinds := [.data, .pinned], laidTests := true, laidLooks := .later }
def NumberFormatRoundTripCardSaid : Prop := Claim7.holds Tryd.pinned (.plain (OpenSpec.ofChange numberFormatRoundTripSpec)) numberFormatRoundTripCard

/-- THE TIED CARD OF 'fetterlocklaw1.NumberParseMatchesSpec'. -/
def numberParseMatchesSpecCard : Claim7 := { stood := { row := numberParseMatchesSpecRow, standIns := [], harness := (true, "f9fb9e1ca8145375097c5a72ddbc335b7d54a504963570f8f79a4a60e4219b48"), looks := false }, kinds := [], alts := [], laidByText := true, laidKinds := [.data, .pinned], laidTests := true, laidLooks := .later }
def NumberParseMatchesSpecCardSaid : Prop := Claim7.holds Tryd.pinned (.plain (OpenSpec.ofChange numberParseMatchesSpecSpec)) numberParseMatchesSpecCard

/-- THE TIED CARD OF 'fetterlocklaw1.NumberOrderIsTotal'. -/
def numberOrderIsTotalCard : Claim7 := { stood := { row := numberOrderIsTotalRow, standIns := [], harness := (true, "f9fb9e1ca8145375097c5a72ddbc335b7d54a504963570f8f79a4a60e4219b48"), looks := false }, kinds := [], alts := [], laidByText := true, laidKinds := [.data, .pinned], laidTests := true, laidLooks := .later }
def NumberOrderIsTotalCardSaid : Prop := Claim7.holds Tryd.pinned (.plain (OpenSpec.ofChange numberOrderIsTotalSpec)) numberOrderIsTotalCard

/-- THE TIED CARD OF 'fetterlocklaw1.NumberArithmeticMatchesSpec'. -/
def numberArithmeticMatchesSpecCard : Claim7 := { stood := { row := numberArithmeticMatchesSpecRow, standIns := [], harness := (true, "f9fb9e1ca8145375097c5a72ddbc335b7d54a504963570f8f79a4a60e4219b48"), looks := false }, kinds := [], alts := [], laidByText := true, laidKinds := [.data, .pinned], laidTests := true, laidLooks := .later }
def NumberArithmeticMatchesSpecCardSaid : Prop := Claim7.holds Tryd.pinned (.plain (OpenSpec.ofChange numberArithmeticMatchesSpecSpec)) numberArithmeticMatchesSpecCard

/-- THE TIED CARD OF 'fetterlocklaw1.NumberFieldLaws'. -/
def numberFieldLawsCard : Claim7 := { stood := { row := numberFieldLawsRow, standIns := [], harness := (true, "f9fb9e1ca8145375097c5a72ddbc335b7d54a504963570f8f79a4a60e4219b48"), looks := false }, kinds := [], alts := [], laidByText := true, laidKinds := [.data, .pinned], laidTests := true, laidLooks := .later }
def NumberFieldLawsCardSaid : Prop := Claim7.holds Tryd.pinned (.plain (OpenSpec.ofChange numberFieldLawsSpec)) numberFieldLawsCard

/-- THE TIED CARD OF 'fetterlocklaw1.NumberIntsRoundTrip'. -/
def numberIntsRoundTripCard : Claim7 := { stood := { row := numberIntsRoundTripRow, standIns := [], harness := (true, "f9fb9e1ca8145375097c5a72ddbc335b7d54a504963570f8f79a4a60e4219b48"), looks := false }, kinds := [], alts := [], laidByText := true, laidKinds := [.data, .pinned], laidTests := true, laidLooks := .later }
def NumberIntsRoundTripCardSaid : Prop := Claim7.holds Tryd.pinned (.plain (OpenSpec.ofChange numberIntsRoundTripSpec)) numberIntsRoundTripCard

/-- THE SECOND FORM's CARD OF 'fetterlocklaw1.NumberFormatRoundTrip'. -/
def numberFormatRoundTripUptoCard : Claim7 := { stood := { row := numberFormatRoundTripUptoRow, standIns := [], harness := (true, "f9fb9e1ca8145375097c5a72ddbc335b7d54a504963570f8f79a4a60e4219b48"), looks := false }, kinds := [], alts := [], laidByText := true, laidKinds := [.data, .pinned], laidTests := true, laidLooks := .later }
def NumberFormatRoundTripUptoCardSaid : Prop := Claim7.holds Tryd.pinned (.plain (OpenSpec.upto numberFormatRoundTripSpec)) numberFormatRoundTripUptoCard

/-- THE SECOND FORM's CARD OF 'fetterlocklaw1.NumberParseMatchesSpec'. -/
def numberParseMatchesSpecUptoCard : Claim7 := { stood := { row := numberParseMatchesSpecUptoRow, standIns := [], harness := (true, "f9fb9e1ca8145375097c5a72ddbc335b7d54a504963570f8f79a4a60e4219b48"), looks := false }, kinds := [], alts := [], laidByText := true, laidKinds := [.data, .pinned], laidTests := true, laidLooks := .later }
def NumberParseMatchesSpecUptoCardSaid : Prop := Claim7.holds Tryd.pinned (.plain (OpenSpec.upto numberParseMatchesSpecSpec)) numberParseMatchesSpecUptoCard

/-- THE SECOND FORM's CARD OF 'fetterlocklaw1.NumberOrderIsTotal'. -/
def numberOrderIsTotalUptoCard : Claim7 := { stood := { row := numberOrderIsTotalUptoRow, standIns := [], harness := (true, "f9fb9e1ca8145375097c5a72ddbc335b7d54a504963570f8f79a4a60e4219b48"), looks := false }, kinds := [], alts := [], laidByText := true, laidKinds := [.data, .pinned], laidTests := true, laidLooks := .later }
def NumberOrderIsTotalUptoCardSaid : Prop := Claim7.holds Tryd.pinned (.plain (OpenSpec.upto numberOrderIsTotalSpec)) numberOrderIsTotalUptoCard

/-- THE SECOND FORM's CARD OF 'fetterlocklaw1.NumberArithmeticMatchesSpec'. -/
def numberArithmeticMatchesSpecUptoCard : Claim7 := { stood := { row := numberArithmeticMatchesSpecUptoRow, standIns := [], harness := (true, "f9fb9e1ca8145375097c5a72ddbc335b7d54a504963570f8f79a4a60e4219b48"), looks := false }, kinds := [], alts := [], laidByText := true, laidKinds := [.data, .pinned], laidTests := true, laidLooks := .later }
def NumberArithmeticMatchesSpecUptoCardSaid : Prop := Claim7.holds Tryd.pinned (.plain (OpenSpec.upto numberArithmeticMatchesSpecSpec)) numberArithmeticMatchesSpecUptoCard

/-- THE SECOND FORM's CARD OF 'fetterlocklaw1.NumberFieldLaws'. -/
def numberFieldLawsUptoCard : Claim7 := { stood := { row := numberFieldLawsUptoRow, standIns := [], harness := (true, "f9fb9e1ca8145375097c5a72ddbc335b7d54a504963570f8f79a4a60e4219b48"), looks := false }, kinds := [], alts := [], laidByText := true, laidKinds := [.data, .pinned], laidTests := true, laidLooks := .later }
def NumberFieldLawsUptoCardSaid : Prop := Claim7.holds Tryd.pinned (.plain (OpenSpec.upto numberFieldLawsSpec)) numberFieldLawsUptoCard

/-- THE SECOND FORM's CARD OF 'fetterlocklaw1.NumberIntsRoundTrip'. -/
def numberIntsRoundTripUptoCard : Claim7 := { stood := { row := numberIntsRoundTripUptoRow, standIns := [], harness := (true, "f9fb9e1ca8145375097c5a72ddbc335b7d54a504963570f8f79a4a60e4219b48"), looks := false }, kinds := [], alts := [], laidByText := true, laidKinds := [.data, .pinned], laidTests := true, laidLooks := .later }
def NumberIntsRoundTripUptoCardSaid : Prop := Claim7.holds Tryd.pinned (.plain (OpenSpec.upto numberIntsRoundTripSpec)) numberIntsRoundTripUptoCard
end Rows
end Go.Proofs.YtfiedhopgmgnoaaDoor

/-
  DERIVED. GIVEN WITH THE SEED: THE CARDS: each row of YteopmkcogmnpnaaDoorRows.lean that lists a variable, with what it lists TIED to the program's text (the seventh form; the later family's looks); each row that meets fmt, with fmt's text TOLD by the authors' own Lean function (tested against real Go, not proved from fmt's source: count such statements apart). THE CARD IS WHAT COUNTS. Prove the row's statement (the work); the ties are given (YteopmkcogmnpnaaDoorTie.lean); close each card by the builder's one call (the guide's Derived/Test/ToyasCard.lean, 'card_holds'). Laid BY PROGRAM, IN A SANDBOX (cutbox-door.mjs). By AI agents, Wed Nov 11 2026. No macro, syntax, notation, axiom, sorry.
-/
import Derived.Test.YteopmkcogmnpnaaDoorRows
import GoSem.ClaimSeven
namespace Go.Proofs.YteopmkcogmnpnaaDoor
namespace Rows

/-- THE TIED CARD OF 'fetterlocklaw1.NumberParseMatchesSpec'. -/
def numberParseMatchesSpecCard : Claim7 := { stood := { row := numberParseMatchesSpecRow, standIns := [], harness := (true, "3e1345808a339de41e15f6700353e648bfc7de0d2a75c6bb5730fc878169b3b0"), looks := false }, kinds := [], alts := [], laidByText := true, laidKinds := [.data, .pinned], laidTests := true, laidLooks := .later }
def NumberParseMatchesSpecCardSaid : Prop := Claim7.holds Tryd.pinned (.plain (OpenSpec.ofChange numberParseMatchesSpecSpec)) numberParseMatchesSpecCard

/-- THE TIED CARD OF 'fetterlocklaw1.NumberArithmeticMatchesSpec'. -/
def numberArithmeticMatchesSpecCard : Claim7 := { stood := { row := numberArithmeticMatchesSpecRow, standIns := [], harness := (true, "3e1345808a339de41e15f6700353e648bfc7de0d2a75c6bb5730fc878169b3b0"), looks := false }, kinds := [], alts := [], laidByText := true, laidKinds := [.data, .pinned], laidTests := true, laidLooks := .later }
def NumberArithmeticMatchesSpecCardSaid : Prop := Claim7.holds Tryd.pinned (.plain (OpenSpec.ofChange numberArithmeticMatchesSpecSpec)) numberArithmeticMatchesSpecCard

/-- THE TIED CARD OF 'fetterlocklaw1.NumberIntsRoundTrip'. -/
def numberIntsRoundTripCard : Claim7 := { stood := { row := numberIntsRoundTripRow, standIns := [], harness := (true, "3e1345808a339de41e15f6700353e648bfc7de0d2a75c6bb5730fc878169b3b0"), looks := false }, kinds := [], alts := [], laidByText := true, laidKinds := [.data, .pinned], laidTests := true, laidLooks := .later }
def NumberIntsRoundTripCardSaid : Prop := Claim7.holds Tryd.pinned (.plain (OpenSpec.ofChange numberIntsRoundTripSpec)) numberIntsRoundTripCard

/-- THE TIED CARD OF 'fetterlocklaw1.NumberToIntMatchesSpec'. -/
def numberToIntMatchesSpecCard : Claim7 := { stood := { row := numberToIntMatchesSpecRow, standIns := [], harness := (true, "3e1345808a339de41e15f6700353e648bfc7de0d2a75c6bb5730fc878169b3b0"), looks := false }, kinds := [], alts := [], laidByText := true, laidKinds := [.data, .pinned], laidTests := true, laidLooks := .later }
def NumberToIntMatchesSpecCardSaid : Prop := Claim7.holds Tryd.pinned (.plain (OpenSpec.ofChange numberToIntMatchesSpecSpec)) numberToIntMatchesSpecCard

/-- THE SECOND FORM's CARD OF 'fetterlocklaw1.NumberParseMatchesSpec'. -/
def numberParseMatchesSpecUptoCard : Claim7 := { stood := { row := numberParseMatchesSpecUptoRow, standIns := [], harness := (true, "3e1345808a339de41e15f6700353e648bfc7de0d2a75c6bb5730fc878169b3b0"), looks := false }, kinds := [], alts := [], laidByText := true, laidKinds := [.data, .pinned], laidTests := true, laidLooks := .later }
def NumberParseMatchesSpecUptoCardSaid : Prop := Claim7.holds Tryd.pinned (.plain (OpenSpec.upto numberParseMatchesSpecSpec)) numberParseMatchesSpecUptoCard

/-- THE SECOND FORM's CARD OF 'fetterlocklaw1.NumberArithmeticMatchesSpec'. -/
def numberArithmeticMatchesSpecUptoCard : Claim7 := { stood := { row := numberArithmeticMatchesSpecUptoRow, standIns := [], harness := (true, "3e1345808a339de41e15f6700353e648bfc7de0d2a75c6bb5730fc878169b3b0"), looks := false }, kinds := [], alts := [], laidByText := true, laidKinds := [.data, .pinned], laidTests := true, laidLooks := .later }
def NumberArithmeticMatchesSpecUptoCardSaid : Prop := Claim7.holds Tryd.pinned (.plain (OpenSpec.upto numberArithmeticMatchesSpecSpec)) numberArithmeticMatchesSpecUptoCard

/-- THE SECOND FORM's CARD OF 'fetterlocklaw1.NumberIntsRoundTrip'. -/
def numberIntsRoundTripUptoCard : Claim7 := { stood := { row := numberIntsRoundTripUptoRow, standIns := [], harness := (true, "3e1345808a339de41e15f6700353e648bfc7de0d2a75c6bb5730fc878169b3b0"), looks := false }, kinds := [], alts := [], laidByText := true, laidKinds := [.data, .pinned], laidTests := true, laidLooks := .later }
def NumberIntsRoundTripUptoCardSaid : Prop := Claim7.holds Tryd.pinned (.plain (OpenSpec.upto numberIntsRoundTripSpec)) numberIntsRoundTripUptoCard

/-- THE SECOND FORM's CARD OF 'fetterlocklaw1.NumberToIntMatchesSpec'. -/
def numberToIntMatchesSpecUptoCard : Claim7 := { stood := { row := numberToIntMatchesSpecUptoRow, standIns := [], harness := (true, "3e1345808a339de41e15f6700353e648bfc7de0d2a75c6bb5730fc878169b3b0"), looks := false }, kinds := [], alts := [], laidByText := true, laidKinds := [.data, .pinned], laidTests := true, laidLooks := .later }
def NumberToIntMatchesSpecUptoCardSaid : Prop := Claim7.holds Tryd.pinned (.plain (OpenSpec.upto numberToIntMatchesSpecSpec)) numberToIntMatchesSpecUptoCard
end Rows
end Go.Proofs.YteopmkcogmnpnaaDoor

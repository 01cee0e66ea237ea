/-
  DERIVED. GIVEN WITH THE SEED: THE CARDS: each row of YtdfcpkjphdepcaaGreatDoorRows.lean that lists a variable, with what it lists TIED to the program's text (the seventh form; the later family's looks); each row that meets fmt, with fmt's text TOLD by the authors' own Lean function (tested against real Go, not proved from fmt's source: count such statements apart). THE CARD IS WHAT COUNTS. Prove the row's statement (the work); the ties are given (YtdfcpkjphdepcaaGreatDoorTie.lean); close each card by the builder's one call (the guide's Derived/Test/ToyasCard.lean, 'card_holds'). Laid BY PROGRAM, IN A SANDBOX (cutbox-door.mjs). By AI agents, Wed Nov 11 2026. No macro, syntax, notation, axiom, sorry.
-/
import Derived.Test.YtdfcpkjphdepcaaGreatDoorRows
import GoSem.ClaimSeven
namespace Go.Proofs.YtdfcpkjphdepcaaGreatDoor
namespace Rows

/-- THE TIED CARD OF 'fetterlocklaw1.NumberShiftMatchesSpec'. -/
def numberShiftMatchesSpecCard : Claim7 := { stood := { row := numberShiftMatchesSpecRow, standIns := [], harness := (true, "9c6573c54897b1464c09fa1e1e7180b58587e5194e3c0cda980fa9f4cd3dd9b8"), looks := false }, kinds := [], alts := [], laidByText := true, laidKinds := [.data, .pinned], laidTests := true, laidLooks := .later }
def NumberShiftMatchesSpecCardSaid : Prop := Claim7.holds Tryz.pinned (.plain (OpenSpec.ofChange numberShiftMatchesSpecSpec)) numberShiftMatchesSpecCard

/-- THE TIED CARD OF 'fetterlocklaw1.NumberBitsMatchSpec'. -/
def numberBitsMatchSpecCard : Claim7 := { stood := { row := numberBitsMatchSpecRow, standIns := [], harness := (true, "9c6573c54897b1464c09fa1e1e7180b58587e5194e3c0cda980fa9f4cd3dd9b8"), looks := false }, kinds := [], alts := [], laidByText := true, laidKinds := [.data, .pinned], laidTests := true, laidLooks := .later }
def NumberBitsMatchSpecCardSaid : Prop := Claim7.holds Tryz.pinned (.plain (OpenSpec.ofChange numberBitsMatchSpecSpec)) numberBitsMatchSpecCard

/-- THE TIED CARD OF 'fetterlocklaw1.NumberPowerMatchesSpec'. -/
def numberPowerMatchesSpecCard : Claim7 := { stood := { row := numberPowerMatchesSpecRow, standIns := [], harness := (true, "9c6573c54897b1464c09fa1e1e7180b58587e5194e3c0cda980fa9f4cd3dd9b8"), looks := false }, kinds := [], alts := [], laidByText := true, laidKinds := [.data, .pinned], laidTests := true, laidLooks := .later }
def NumberPowerMatchesSpecCardSaid : Prop := Claim7.holds Tryz.pinned (.plain (OpenSpec.ofChange numberPowerMatchesSpecSpec)) numberPowerMatchesSpecCard

/-- THE SECOND FORM's CARD OF 'fetterlocklaw1.NumberShiftMatchesSpec'. -/
def numberShiftMatchesSpecUptoCard : Claim7 := { stood := { row := numberShiftMatchesSpecUptoRow, standIns := [], harness := (true, "9c6573c54897b1464c09fa1e1e7180b58587e5194e3c0cda980fa9f4cd3dd9b8"), looks := false }, kinds := [], alts := [], laidByText := true, laidKinds := [.data, .pinned], laidTests := true, laidLooks := .later }
def NumberShiftMatchesSpecUptoCardSaid : Prop := Claim7.holds Tryz.pinned (.plain (OpenSpec.upto numberShiftMatchesSpecSpec)) numberShiftMatchesSpecUptoCard

/-- THE SECOND FORM's CARD OF 'fetterlocklaw1.NumberBitsMatchSpec'. -/
def numberBitsMatchSpecUptoCard : Claim7 := { stood := { row := numberBitsMatchSpecUptoRow, standIns := [], harness := (true, "9c6573c54897b1464c09fa1e1e7180b58587e5194e3c0cda980fa9f4cd3dd9b8"), looks := false }, kinds := [], alts := [], laidByText := true, laidKinds := [.data, .pinned], laidTests := true, laidLooks := .later }
def NumberBitsMatchSpecUptoCardSaid : Prop := Claim7.holds Tryz.pinned (.plain (OpenSpec.upto numberBitsMatchSpecSpec)) numberBitsMatchSpecUptoCard

/-- THE SECOND FORM's CARD OF 'fetterlocklaw1.NumberPowerMatchesSpec'. -/
def numberPowerMatchesSpecUptoCard : Claim7 := { stood := { row := numberPowerMatchesSpecUptoRow, standIns := [], harness := (true, "9c6573c54897b1464c09fa1e1e7180b58587e5194e3c0cda980fa9f4cd3dd9b8"), looks := false }, kinds := [], alts := [], laidByText := true, laidKinds := [.data, .pinned], laidTests := true, laidLooks := .later }
def NumberPowerMatchesSpecUptoCardSaid : Prop := Claim7.holds Tryz.pinned (.plain (OpenSpec.upto numberPowerMatchesSpecSpec)) numberPowerMatchesSpecUptoCard
end Rows
end Go.Proofs.YtdfcpkjphdepcaaGreatDoor

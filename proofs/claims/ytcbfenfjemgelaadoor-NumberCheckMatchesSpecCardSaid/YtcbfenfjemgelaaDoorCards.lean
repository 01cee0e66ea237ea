/-
  DERIVED. GIVEN WITH THE SEED: THE CARDS: each row of YtcbfenfjemgelaaDoorRows.lean that lists a variable, with what it lists TIED to the program's text (the seventh form; the later family's looks); each row that meets fmt, with fmt's text TOLD by the authors' own Lean function (tested against real Go, not proved from fmt's source: count such statements apart). THE CARD IS WHAT COUNTS. Prove the row's statement (the work); the ties are given (YtcbfenfjemgelaaDoorTie.lean); close each card by the builder's one call (the guide's Derived/Test/ToyasCard.lean, 'card_holds'). Laid BY PROGRAM, IN A SANDBOX (cutbox-door.mjs). By AI agents, Wed Nov 11 2026. No macro, syntax, notation, axiom, sorry.
-/
import Derived.Test.YtcbfenfjemgelaaDoorRows
import GoSem.ClaimSeven
namespace Go.Proofs.YtcbfenfjemgelaaDoor
namespace Rows

/-- THE TIED CARD OF 'fetterlocklaw1.NumberCheckMatchesSpec'. -/
def numberCheckMatchesSpecCard : Claim7 := { stood := { row := numberCheckMatchesSpecRow, standIns := [], harness := (true, "d2cdc8d69ff6e1b59c0369b7585f67053895c836abb31c42886b34881f3b2053"), looks := false }, kinds := [], alts := [], laidByText := true, laidKinds := [.data, .pinned], laidTests := true, laidLooks := .later }
def NumberCheckMatchesSpecCardSaid : Prop := Claim7.holds Tryd.pinned (.plain (OpenSpec.ofChange numberCheckMatchesSpecSpec)) numberCheckMatchesSpecCard

/-- THE SECOND FORM's CARD OF 'fetterlocklaw1.NumberCheckMatchesSpec'. -/
def numberCheckMatchesSpecUptoCard : Claim7 := { stood := { row := numberCheckMatchesSpecUptoRow, standIns := [], harness := (true, "d2cdc8d69ff6e1b59c0369b7585f67053895c836abb31c42886b34881f3b2053"), looks := false }, kinds := [], alts := [], laidByText := true, laidKinds := [.data, .pinned], laidTests := true, laidLooks := .later }
def NumberCheckMatchesSpecUptoCardSaid : Prop := Claim7.holds Tryd.pinned (.plain (OpenSpec.upto numberCheckMatchesSpecSpec)) numberCheckMatchesSpecUptoCard
end Rows
end Go.Proofs.YtcbfenfjemgelaaDoor

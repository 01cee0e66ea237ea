/-
  DERIVED. GIVEN WITH THE SEED: THE CARDS: each row of YtdmhkhnnomdkcaaDoorRows.lean that lists a variable, with what it lists TIED to the program's text (the seventh form; the later family's looks); each row that meets fmt, with fmt's text TOLD by the authors' own Lean function (tested against real Go, not proved from fmt's source: count such statements apart). THE CARD IS WHAT COUNTS. Prove the row's statement (the work); the ties are given (YtdmhkhnnomdkcaaDoorTie.lean); close each card by the builder's one call (the guide's Derived/Test/ToyasCard.lean, 'card_holds'). Laid BY PROGRAM, IN A SANDBOX (cutbox-door.mjs). By AI agents, Wed Nov 11 2026. No macro, syntax, notation, axiom, sorry.
-/
import Derived.Test.YtdmhkhnnomdkcaaDoorRows
import GoSem.ClaimSeven
namespace Go.Proofs.YtdmhkhnnomdkcaaDoor
namespace Rows

/-- THE TIED CARD OF 'fetterlocklaw1.NumberBitsAddUp'. -/
def numberBitsAddUpCard : Claim7 := { stood := { row := numberBitsAddUpRow, standIns := [], harness := (true, "d3f081ef8dfabbf7fc5a03ba2202601e3bbe37a833188ed24a80a15e7840953d"), looks := false }, kinds := [], alts := [], laidByText := true, laidKinds := [.data, .pinned], laidTests := true, laidLooks := .later }
def NumberBitsAddUpCardSaid : Prop := Claim7.holds Tryd.pinned (.plain (OpenSpec.ofChange numberBitsAddUpSpec)) numberBitsAddUpCard

/-- THE TIED CARD OF 'fetterlocklaw1.NumberPowersAdd'. -/
def numberPowersAddCard : Claim7 := { stood := { row := numberPowersAddRow, standIns := [], harness := (true, "d3f081ef8dfabbf7fc5a03ba2202601e3bbe37a833188ed24a80a15e7840953d"), looks := false }, kinds := [], alts := [], laidByText := true, laidKinds := [.data, .pinned], laidTests := true, laidLooks := .later }
def NumberPowersAddCardSaid : Prop := Claim7.holds Tryd.pinned (.plain (OpenSpec.ofChange numberPowersAddSpec)) numberPowersAddCard

/-- THE SECOND FORM's CARD OF 'fetterlocklaw1.NumberBitsAddUp'. -/
def numberBitsAddUpUptoCard : Claim7 := { stood := { row := numberBitsAddUpUptoRow, standIns := [], harness := (true, "d3f081ef8dfabbf7fc5a03ba2202601e3bbe37a833188ed24a80a15e7840953d"), looks := false }, kinds := [], alts := [], laidByText := true, laidKinds := [.data, .pinned], laidTests := true, laidLooks := .later }
def NumberBitsAddUpUptoCardSaid : Prop := Claim7.holds Tryd.pinned (.plain (OpenSpec.upto numberBitsAddUpSpec)) numberBitsAddUpUptoCard

/-- THE SECOND FORM's CARD OF 'fetterlocklaw1.NumberPowersAdd'. -/
def numberPowersAddUptoCard : Claim7 := { stood := { row := numberPowersAddUptoRow, standIns := [], harness := (true, "d3f081ef8dfabbf7fc5a03ba2202601e3bbe37a833188ed24a80a15e7840953d"), looks := false }, kinds := [], alts := [], laidByText := true, laidKinds := [.data, .pinned], laidTests := true, laidLooks := .later }
def NumberPowersAddUptoCardSaid : Prop := Claim7.holds Tryd.pinned (.plain (OpenSpec.upto numberPowersAddSpec)) numberPowersAddUptoCard
end Rows
end Go.Proofs.YtdmhkhnnomdkcaaDoor

/-
  DERIVED. GIVEN WITH THE SEED: THE CARDS: each row of YtdmhkhnnomdkcaaGreatDoorRows.lean that lists a variable, with what it lists TIED to the program's text (the seventh form; the later family's looks); each row that meets fmt, with fmt's text TOLD by the authors' own Lean function (tested against real Go, not proved from fmt's source: count such statements apart). THE CARD IS WHAT COUNTS. Prove the row's statement (the work); the ties are given (YtdmhkhnnomdkcaaGreatDoorTie.lean); close each card by the builder's one call (the guide's Derived/Test/ToyasCard.lean, 'card_holds'). Laid BY PROGRAM, IN A SANDBOX (cutbox-door.mjs). By AI agents, Wed Nov 11 2026. No macro, syntax, notation, axiom, sorry.
-/
import Derived.Test.YtdmhkhnnomdkcaaGreatDoorRows
import GoSem.ClaimSeven
namespace Go.Proofs.YtdmhkhnnomdkcaaGreatDoor
namespace Rows

/-- THE TIED CARD OF 'fetterlocklaw1.NumberBitsMatchSpec'. -/
def numberBitsMatchSpecCard : Claim7 := { stood := { row := numberBitsMatchSpecRow, standIns := [], harness := (true, "87e85821a4c2f24173bb014ee9c85747591694bd0a622006ce256c772aa00f05"), looks := false }, kinds := [], alts := [], laidByText := true, laidKinds := [.data, .pinned], laidTests := true, laidLooks := .later }
def NumberBitsMatchSpecCardSaid : Prop := Claim7.holds Tryz.pinned (.plain (OpenSpec.ofChange numberBitsMatchSpecSpec)) numberBitsMatchSpecCard

/-- THE SECOND FORM's CARD OF 'fetterlocklaw1.NumberBitsMatchSpec'. -/
def numberBitsMatchSpecUptoCard : Claim7 := { stood := { row := numberBitsMatchSpecUptoRow, standIns := [], harness := (true, "87e85821a4c2f24173bb014ee9c85747591694bd0a622006ce256c772aa00f05"), looks := false }, kinds := [], alts := [], laidByText := true, laidKinds := [.data, .pinned], laidTests := true, laidLooks := .later }
def NumberBitsMatchSpecUptoCardSaid : Prop := Claim7.holds Tryz.pinned (.plain (OpenSpec.upto numberBitsMatchSpecSpec)) numberBitsMatchSpecUptoCard
end Rows
end Go.Proofs.YtdmhkhnnomdkcaaGreatDoor

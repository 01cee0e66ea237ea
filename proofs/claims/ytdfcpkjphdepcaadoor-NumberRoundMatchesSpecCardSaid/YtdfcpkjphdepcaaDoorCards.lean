/-
  DERIVED. GIVEN WITH THE SEED: THE CARDS: each row of YtdfcpkjphdepcaaDoorRows.lean that lists a variable, with what it lists TIED to the program's text (the seventh form; the later family's looks); each row that meets fmt, with fmt's text TOLD by the authors' own Lean function (tested against real Go, not proved from fmt's source: count such statements apart). THE CARD IS WHAT COUNTS. Prove the row's statement (the work); the ties are given (YtdfcpkjphdepcaaDoorTie.lean); close each card by the builder's one call (the guide's Derived/Test/ToyasCard.lean, 'card_holds'). Laid BY PROGRAM, IN A SANDBOX (cutbox-door.mjs). By AI agents, Wed Nov 11 2026. No macro, syntax, notation, axiom, sorry.
-/
import Derived.Test.YtdfcpkjphdepcaaDoorRows
import GoSem.ClaimSeven
namespace Go.Proofs.YtdfcpkjphdepcaaDoor
namespace Rows

/-- THE TIED CARD OF 'fetterlocklaw1.NumberBitsAddUp'. -/
def numberBitsAddUpCard : Claim7 := { stood := { row := numberBitsAddUpRow, standIns := [], harness := (true, "1dd3f2f4bab6dc23923f748e24344c945cdc53fc74789d8a56661b106f19dd3f"), looks := false }, kinds := [], alts := [], laidByText := true, laidKinds := [.data, .pinned], laidTests := true, laidLooks := .later }
def NumberBitsAddUpCardSaid : Prop := Claim7.holds Tryd.pinned (.plain (OpenSpec.ofChange numberBitsAddUpSpec)) numberBitsAddUpCard

/-- THE TIED CARD OF 'fetterlocklaw1.NumberPowersAdd'. -/
def numberPowersAddCard : Claim7 := { stood := { row := numberPowersAddRow, standIns := [], harness := (true, "1dd3f2f4bab6dc23923f748e24344c945cdc53fc74789d8a56661b106f19dd3f"), looks := false }, kinds := [], alts := [], laidByText := true, laidKinds := [.data, .pinned], laidTests := true, laidLooks := .later }
def NumberPowersAddCardSaid : Prop := Claim7.holds Tryd.pinned (.plain (OpenSpec.ofChange numberPowersAddSpec)) numberPowersAddCard

/-- THE TIED CARD OF 'fetterlocklaw1.NumberRoundMatchesSpec'. -/
def numberRoundMatchesSpecCard : Claim7 := { stood := { row := numberRoundMatchesSpecRow, standIns := [], harness := (true, "1dd3f2f4bab6dc23923f748e24344c945cdc53fc74789d8a56661b106f19dd3f"), looks := false }, kinds := [], alts := [], laidByText := true, laidKinds := [.data, .pinned], laidTests := true, laidLooks := .later }
def NumberRoundMatchesSpecCardSaid : Prop := Claim7.holds Tryd.pinned (.plain (OpenSpec.ofChange numberRoundMatchesSpecSpec)) numberRoundMatchesSpecCard

/-- THE SECOND FORM's CARD OF 'fetterlocklaw1.NumberBitsAddUp'. -/
def numberBitsAddUpUptoCard : Claim7 := { stood := { row := numberBitsAddUpUptoRow, standIns := [], harness := (true, "1dd3f2f4bab6dc23923f748e24344c945cdc53fc74789d8a56661b106f19dd3f"), looks := false }, kinds := [], alts := [], laidByText := true, laidKinds := [.data, .pinned], laidTests := true, laidLooks := .later }
def NumberBitsAddUpUptoCardSaid : Prop := Claim7.holds Tryd.pinned (.plain (OpenSpec.upto numberBitsAddUpSpec)) numberBitsAddUpUptoCard

/-- THE SECOND FORM's CARD OF 'fetterlocklaw1.NumberPowersAdd'. -/
def numberPowersAddUptoCard : Claim7 := { stood := { row := numberPowersAddUptoRow, standIns := [], harness := (true, "1dd3f2f4bab6dc23923f748e24344c945cdc53fc74789d8a56661b106f19dd3f"), looks := false }, kinds := [], alts := [], laidByText := true, laidKinds := [.data, .pinned], laidTests := true, laidLooks := .later }
def NumberPowersAddUptoCardSaid : Prop := Claim7.holds Tryd.pinned (.plain (OpenSpec.upto numberPowersAddSpec)) numberPowersAddUptoCard

/-- THE SECOND FORM's CARD OF 'fetterlocklaw1.NumberRoundMatchesSpec'. -/
def numberRoundMatchesSpecUptoCard : Claim7 := { stood := { row := numberRoundMatchesSpecUptoRow, standIns := [], harness := (true, "1dd3f2f4bab6dc23923f748e24344c945cdc53fc74789d8a56661b106f19dd3f"), looks := false }, kinds := [], alts := [], laidByText := true, laidKinds := [.data, .pinned], laidTests := true, laidLooks := .later }
def NumberRoundMatchesSpecUptoCardSaid : Prop := Claim7.holds Tryd.pinned (.plain (OpenSpec.upto numberRoundMatchesSpecSpec)) numberRoundMatchesSpecUptoCard
end Rows
end Go.Proofs.YtdfcpkjphdepcaaDoor

/- What number.Check answers. -/
import Derived.Test.YtfiedhopgmgnoaaDoorCheck
namespace Go.Proofs.YtfiedhopgmgnoaaDoor
open Go.RowKit NumB
set_option linter.unusedVariables false
set_option linter.unusedSimpArgs false

/-- What Check answers at a sign and two canonical naturals, the second positive. -/
def checkN (neg : Bool) (x y : Nat) : Int := if x = 0 then (if neg = false ∧ y = 1 then 0 else 2) else if y = 1 ∨ x = 1 ∨ Nat.gcd x y = 1 then 0 else 2

end Go.Proofs.YtfiedhopgmgnoaaDoor

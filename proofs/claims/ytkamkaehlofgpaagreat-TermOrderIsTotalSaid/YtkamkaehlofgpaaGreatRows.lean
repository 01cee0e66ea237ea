/-
  NARROWER THAN 'FOR EVERY INPUT', by the rows' own cells (each row's printed sentence says how): TermOrderIsTotal: loops · TermApplyMatchesSpec: loops · TermMatchMaps: loops.
  DERIVED. THE GIVEN ROWS OF THIS SEAT. 3 by the template 'for every input the law returns true; each argument reads behind the call as it read before'; 0 by the template 'total and deterministic' (their statements: YtkamkaehlofgpaaGreatTotals.lean).
  GIVEN WITH THE SEED: the statements are not yours to turn. If you find one false, say at which input.
  Laid BY PROGRAM, IN A SANDBOX (cutbox-rows.mjs): the forced cells as the released guide's own fill.sh prints them over the translation 185cdad7a1b1e875… (all of the seat's roots in one cut). By AI agents, Wed Nov 11 2026. No macro, syntax, notation, axiom, sorry.
-/
import Derived.Test.YtkamkaehlofgpaaGreatChecked
import GoSem.Claim
import GoSem.ClaimJoined
import GoSem.ClaimMapViews
import Derived.JoinedTies
import Derived.KernelRfl
namespace Go.Proofs.YtkamkaehlofgpaaGreat
/- THE CELL 'sum', in the pinned program and in every row, IS THE sha256 OF THE DUMP (.gsa) THAT YtkamkaehlofgpaaGreatProg.lean LOADS. Nothing in Lean hashes anything: it is a label: what it is worth is what the hold of that sum in a sandbox is worth. -/
noncomputable def Tryz.pinned : Pinned := { name := "ytkamkaehlofgpaagreat", sum := "185cdad7a1b1e8756046a7505ceb7bfacd3cfe9fe7b5f254d73a7120b3e7ffc4", checked := Tryz.checked }
namespace Rows
def none {H : Type} : Left H := { results := [], args := [] }

/-- 'fetterlocklaw2.TermOrderIsTotal': WHATEVER THE INPUT: true; the input reads as it did. -/
def termOrderIsTotalSpec : ChangeSpec := { name := "termOrderIsTotal", fn := fun _ => fun
  | [d1, d2, d3] => { results := [.lit (.bool true)], args := [d1, d2, d3] }
  | _ => none }
def termOrderIsTotalRow : OpenClaim := { program := "ytkamkaehlofgpaagreat", sum := "185cdad7a1b1e8756046a7505ceb7bfacd3cfe9fe7b5f254d73a7120b3e7ffc4", func := "fetterlock/fetterlocklaw2.TermOrderIsTotal", spec := "termOrderIsTotal", inPlace := ["internal/abi.NoEscape", "internal/bytealg.abigen_runtime_cmpstring"], unfollowed := true, recurses := true, loops := true, plainKeys := false, apart := false }
def TermOrderIsTotalSaid : Prop := termOrderIsTotalRow.holds Tryz.pinned (OpenSpec.ofChange termOrderIsTotalSpec)

/-- ITS FALSE NEIGHBOUR: 'it returns false'. Refute it at one input. -/
def termOrderIsTotalWrong : ChangeSpec := { name := "termOrderIsTotal", fn := fun _ => fun
  | [d1, d2, d3] => { results := [.lit (.bool false)], args := [d1, d2, d3] }
  | _ => none }
def TermOrderIsTotalWrongFalsely : Prop := termOrderIsTotalRow.holds Tryz.pinned (OpenSpec.ofChange termOrderIsTotalWrong)

/-- 'fetterlocklaw2.TermApplyMatchesSpec': WHATEVER THE INPUT: true; the input reads as it did. -/
def termApplyMatchesSpecSpec : ChangeSpec := { name := "termApplyMatchesSpec", fn := fun _ => fun
  | [d1, d2, d3] => { results := [.lit (.bool true)], args := [d1, d2, d3] }
  | _ => none }
def termApplyMatchesSpecRow : OpenClaim := { program := "ytkamkaehlofgpaagreat", sum := "185cdad7a1b1e8756046a7505ceb7bfacd3cfe9fe7b5f254d73a7120b3e7ffc4", func := "fetterlock/fetterlocklaw2.TermApplyMatchesSpec", spec := "termApplyMatchesSpec", inPlace := ["internal/abi.NoEscape"], unfollowed := true, recurses := true, loops := true, plainKeys := false, apart := false }
def TermApplyMatchesSpecSaid : Prop := termApplyMatchesSpecRow.holds Tryz.pinned (OpenSpec.ofChange termApplyMatchesSpecSpec)

/-- ITS FALSE NEIGHBOUR: 'it returns false'. Refute it at one input. -/
def termApplyMatchesSpecWrong : ChangeSpec := { name := "termApplyMatchesSpec", fn := fun _ => fun
  | [d1, d2, d3] => { results := [.lit (.bool false)], args := [d1, d2, d3] }
  | _ => none }
def TermApplyMatchesSpecWrongFalsely : Prop := termApplyMatchesSpecRow.holds Tryz.pinned (OpenSpec.ofChange termApplyMatchesSpecWrong)

/-- 'fetterlocklaw2.TermMatchMaps': WHATEVER THE INPUT: true; the input reads as it did. -/
def termMatchMapsSpec : ChangeSpec := { name := "termMatchMaps", fn := fun _ => fun
  | [d1, d2] => { results := [.lit (.bool true)], args := [d1, d2] }
  | _ => none }
def termMatchMapsRow : OpenClaim := { program := "ytkamkaehlofgpaagreat", sum := "185cdad7a1b1e8756046a7505ceb7bfacd3cfe9fe7b5f254d73a7120b3e7ffc4", func := "fetterlock/fetterlocklaw2.TermMatchMaps", spec := "termMatchMaps", inPlace := ["internal/bytealg.abigen_runtime_cmpstring", "internal/abi.NoEscape"], unfollowed := true, recurses := true, loops := true, plainKeys := false, apart := false }
def TermMatchMapsSaid : Prop := termMatchMapsRow.holds Tryz.pinned (OpenSpec.ofChange termMatchMapsSpec)

/-- ITS FALSE NEIGHBOUR: 'it returns false'. Refute it at one input. -/
def termMatchMapsWrong : ChangeSpec := { name := "termMatchMaps", fn := fun _ => fun
  | [d1, d2] => { results := [.lit (.bool false)], args := [d1, d2] }
  | _ => none }
def TermMatchMapsWrongFalsely : Prop := termMatchMapsRow.holds Tryz.pinned (OpenSpec.ofChange termMatchMapsWrong)

/- THE SECOND FORM. 'bulk': how many values and letters a reading holds, each counted each time it is reached (what is shared counts as often as it is met; a slice's spare places count too). A statement '..UptoSaid' is the law's where the arguments, and the package variables that the reading takes, are together of bulk at most 1048576: NARROWER than '..Said'. Prove '..Said' where nothing that the law and all that it calls make is longer than what came in: it says more and counts as full. Else prove '..UptoSaid'. A law counts once. -/
mutual
def uptoBulk {H : Type} : DataW H → Nat
  | .lit (.string bytes) => bytes.length + 1
  | .lit _ => 1
  | .nil => 1
  | .ptr d => uptoBulk d + 1
  | .slice elems spare => uptoBulkAll elems + uptoBulkAll spare + 1
  | .agg parts => uptoBulkAll parts + 1
  | .iface _ d => uptoBulk d + 1
  | .map entries => uptoBulkEntries entries + 1
  | .held _ => 1
def uptoBulkAll {H : Type} : List (DataW H) → Nat
  | [] => 0
  | d :: r => uptoBulk d + uptoBulkAll r
def uptoBulkEntries {H : Type} : List (Lit × DataW H) → Nat
  | [] => 0
  | x :: r => uptoBulkEntry x + uptoBulkEntries r
def uptoBulkEntry {H : Type} : Lit × DataW H → Nat
  | (.string bytes, d) => bytes.length + uptoBulk d + 1
  | (_, d) => uptoBulk d + 1
 end
def uptoSmall : (H : Type) → List (DataW H) → Bool := fun _ ds => decide (uptoBulkAll ds ≤ 1048576)
def OpenSpec.upto (s : _root_.Go.ChangeSpec) : _root_.Go.OpenSpec := { _root_.Go.OpenSpec.ofChange s with cond := some uptoSmall }

/-- 'fetterlocklaw2.TermOrderIsTotal', WHERE WHAT IT READS IS OF BULK AT MOST 1048576: true; the input reads as it did. -/
def termOrderIsTotalUptoRow : OpenClaim := { program := "ytkamkaehlofgpaagreat", sum := "185cdad7a1b1e8756046a7505ceb7bfacd3cfe9fe7b5f254d73a7120b3e7ffc4", func := "fetterlock/fetterlocklaw2.TermOrderIsTotal", spec := "termOrderIsTotal", inPlace := ["internal/abi.NoEscape", "internal/bytealg.abigen_runtime_cmpstring"], unfollowed := true, recurses := true, loops := true, plainKeys := false, apart := false, narrowed := true }
def TermOrderIsTotalUptoSaid : Prop := termOrderIsTotalUptoRow.holds Tryz.pinned (OpenSpec.upto termOrderIsTotalSpec)

/-- 'fetterlocklaw2.TermApplyMatchesSpec', WHERE WHAT IT READS IS OF BULK AT MOST 1048576: true; the input reads as it did. -/
def termApplyMatchesSpecUptoRow : OpenClaim := { program := "ytkamkaehlofgpaagreat", sum := "185cdad7a1b1e8756046a7505ceb7bfacd3cfe9fe7b5f254d73a7120b3e7ffc4", func := "fetterlock/fetterlocklaw2.TermApplyMatchesSpec", spec := "termApplyMatchesSpec", inPlace := ["internal/abi.NoEscape"], unfollowed := true, recurses := true, loops := true, plainKeys := false, apart := false, narrowed := true }
def TermApplyMatchesSpecUptoSaid : Prop := termApplyMatchesSpecUptoRow.holds Tryz.pinned (OpenSpec.upto termApplyMatchesSpecSpec)

/-- 'fetterlocklaw2.TermMatchMaps', WHERE WHAT IT READS IS OF BULK AT MOST 1048576: true; the input reads as it did. -/
def termMatchMapsUptoRow : OpenClaim := { program := "ytkamkaehlofgpaagreat", sum := "185cdad7a1b1e8756046a7505ceb7bfacd3cfe9fe7b5f254d73a7120b3e7ffc4", func := "fetterlock/fetterlocklaw2.TermMatchMaps", spec := "termMatchMaps", inPlace := ["internal/bytealg.abigen_runtime_cmpstring", "internal/abi.NoEscape"], unfollowed := true, recurses := true, loops := true, plainKeys := false, apart := false, narrowed := true }
def TermMatchMapsUptoSaid : Prop := termMatchMapsUptoRow.holds Tryz.pinned (OpenSpec.upto termMatchMapsSpec)

end Rows
end Go.Proofs.YtkamkaehlofgpaaGreat

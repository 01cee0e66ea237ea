/- number.Check$1: does the list end with a zero. -/
import Derived.Test.YtfiedhopgmgnoaaDoorCompare
namespace Go.Proofs.YtfiedhopgmgnoaaDoor
open Go.RowKit NumB
set_option linter.unusedVariables false
set_option linter.unusedSimpArgs false

/-- Does the list end with a zero? -/
def lastB (xs : List Nat) : Bool := decide (0 < xs.length ∧ xs.getD (xs.length - 1) 0 = 0)

set_option maxRecDepth 100000 in
theorem last_any (xs : List Nat) (va : Value) (w : World) (ha : Sl .u32 w va xs) :
    Calls Tryd.prog 67 #[va] w fun e w' => e = .returned (.bool (lastB xs)) ∧ w = w' := by
  obtain ⟨A, ca, rfl, hca, hma, hra⟩ := ha
  unfold maxLen at hma
  have HE : Hid (lastB xs = decide (0 < xs.length ∧ xs.getD (xs.length - 1) 0 = 0)) := rfl
  generalize lastB xs = bb at *
  generalize hn : xs.length = n at *
  rcases Nat.eq_zero_or_pos n with hn0 | hn0
  · subst hn0
    have E : Hid (bb = false) := by unfold Hid; rw [HE.out]; exact decide_eq_false (by omega)
    clear HE hra hn
    go_enter Tryd.func67, Tryd.ntmps67
    go_wp2
    go_ret
    exact ⟨congrArg (fun b => Ending.returned (.bool b)) E.out.symm, rfl⟩
  · obtain ⟨k, rfl⟩ : ∃ k, n = k + 1 := ⟨n - 1, by omega⟩
    obtain ⟨b, o, p, rfl, hb, hpe, hcp⟩ := hra.at_ (i := k) (by omega)
    have hk : ((k + 1 : Nat) : Int) - 1 = (k : Int) := by omega
    have hk1 : (k : Int) < ((k + 1 : Nat) : Int) := by omega
    have hk2 : (0 : Int) < ((k + 1 : Nat) : Int) := by omega
    by_cases h : p = 0
    · subst h
      have E : Hid (bb = true) := by unfold Hid; rw [HE.out]; exact decide_eq_true ⟨by omega, hpe⟩
      clear HE hra hn hpe
      go_enter Tryd.func67, Tryd.ntmps67
      go_wp2
      go_ret
      exact ⟨congrArg (fun b => Ending.returned (.bool b)) E.out.symm, rfl⟩
    · have hb1 : ((p : Int) == 0) = false := beq_eq_false_iff_ne.2 (by omega)
      have E : Hid (bb = false) := by unfold Hid; rw [HE.out]; exact decide_eq_false (fun h' => h (hpe ▸ h'.2))
      clear HE hra hn hpe h
      go_enter Tryd.func67, Tryd.ntmps67
      go_wp2
      go_ret
      exact ⟨congrArg (fun b => Ending.returned (.bool b)) E.out.symm, rfl⟩
end Go.Proofs.YtfiedhopgmgnoaaDoor

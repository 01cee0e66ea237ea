/- fetterlockref1.Fault: too many limbs. -/
import Derived.Test.YtcbfenfjemgelaaDoorCheckN
import Derived.Test.YtcbfenfjemgelaaDoorRGcd
namespace Go.Proofs.YtcbfenfjemgelaaDoor
open Go.RowKit NumB
set_option linter.unusedVariables false

set_option maxRecDepth 100000 in
set_option maxHeartbeats 1600000 in
theorem fault_big (neg : Bool) (xs ys : List Nat) (va vb : Value) (w : World) (ha : Sl .u32 w va xs) (hb : Sl .u32 w vb ys) (hx : 128 < xs.length ∨ 128 < ys.length) :
    Calls Tryd.prog 5 #[.agg #[.bool neg, va, vb]] w fun e w' => e = .returned (.int .i64 3) ∧ Below w.heap.size w w' := by
  obtain ⟨A, ca, rfl, hca, hma, hra⟩ := ha
  obtain ⟨A', cb, rfl, hcb, hmb, hrb⟩ := hb
  unfold maxLen at hma hmb
  generalize xs.length = n at *
  generalize ys.length = m at *
  clear hra hrb
  by_cases h : 128 < n
  · clear hx
    go_enter Tryd.func5, Tryd.ntmps5
    go_wp2
    go_ret
    exact ⟨rfl, (Below.refl _ _).alloc (Nat.le_refl _) _⟩
  · have hm : 128 < m := by omega
    have hn : n ≤ 128 := by omega
    clear hx h
    go_enter Tryd.func5, Tryd.ntmps5
    go_wp2
    go_ret
    exact ⟨rfl, (Below.refl _ _).alloc (Nat.le_refl _) _⟩

end Go.Proofs.YtcbfenfjemgelaaDoor

/- fetterlockref1.Fault: too many limbs. fetterlockref1.Fault: a list that ends with a zero, or an empty denominator. -/
import Derived.Test.YtfiedhopgmgnoaaDoorJo11
import Derived.Test.YtfiedhopgmgnoaaDoorJo32
set_option linter.unusedVariables false
set_option linter.unusedSimpArgs false
namespace Go.Proofs.YtfiedhopgmgnoaaDoor
open Go.RowKit NumB
set_option linter.unusedVariables false
set_option linter.unusedSimpArgs false

set_option maxRecDepth 100000 in
set_option maxHeartbeats 1600000 in
theorem fault_big (neg : Bool) (xs ys : List Nat) (va vb : Value) (w : World) (ha : Sl .u32 w va xs) (hb : Sl .u32 w vb ys) (hx : 128 < xs.length ∨ 128 < ys.length) :
    Calls Tryd.prog 15 #[.agg #[.bool neg, va, vb]] w fun e w' => e = .returned (.int .i64 3) ∧ Below w.heap.size w w' := by
  obtain ⟨A, ca, rfl, hca, hma, hra⟩ := ha
  obtain ⟨A', cb, rfl, hcb, hmb, hrb⟩ := hb
  unfold maxLen at hma hmb
  generalize xs.length = n at *
  generalize ys.length = m at *
  clear hra hrb
  by_cases h : 128 < n
  · clear hx
    go_enter Tryd.func15, Tryd.ntmps15
    go_wp2
    go_ret
    exact ⟨rfl, (Below.refl _ _).alloc (Nat.le_refl _) _⟩
  · have hm : 128 < m := by omega
    have hn : n ≤ 128 := by omega
    clear hx h
    go_enter Tryd.func15, Tryd.ntmps15
    go_wp2
    go_ret
    exact ⟨rfl, (Below.refl _ _).alloc (Nat.le_refl _) _⟩

end Go.Proofs.YtfiedhopgmgnoaaDoor
namespace Go.Proofs.YtfiedhopgmgnoaaDoor
open Go.RowKit NumB
set_option linter.unusedVariables false
set_option linter.unusedSimpArgs false

theorem lastB_pos {xs : List Nat} {k : Nat} (hn : xs.length = k + 1) : lastB xs = decide (xs.getD k 0 = 0) := by
  unfold lastB
  rw [hn]
  exact decide_eq_decide.2 ⟨fun h => h.2, fun h => ⟨by omega, h⟩⟩
theorem lastB_nil {xs : List Nat} (hn : xs.length = 0) : lastB xs = false := decide_eq_false (by omega)

set_option maxRecDepth 100000 in
set_option maxHeartbeats 1600000 in
theorem fault_last (neg : Bool) (xs ys : List Nat) (va vb : Value) (w : World) (ha : Sl .u32 w va xs) (hb : Sl .u32 w vb ys) (hx : xs.length ≤ 128) (hy : ys.length ≤ 128) (hl : lastB xs = true ∨ lastB ys = true ∨ ys.length = 0) :
    Calls Tryd.prog 15 #[.agg #[.bool neg, va, vb]] w fun e w' => e = .returned (.int .i64 2) ∧ Below w.heap.size w w' := by
  have hbo : ∀ o : Obj, Below w.heap.size w (w.alloc o) := fun o => (Below.refl _ _).alloc (Nat.le_refl _) o
  obtain ⟨A, ca, rfl, hca, hma, hra⟩ := ha
  obtain ⟨A', cb, rfl, hcb, hmb, hrb⟩ := hb
  unfold maxLen at hma hmb
  have HBO := Lib.hid hbo
  clear hbo
  generalize hn : xs.length = n at *
  generalize hm : ys.length = m at *
  rcases Nat.eq_zero_or_pos m with hm0 | hm0
  · subst hm0
    clear hl hra hrb hn hm
    go_enter Tryd.func15, Tryd.ntmps15
    go_wp2
    go_ret
    exact ⟨rfl, HBO.out _⟩
  · obtain ⟨k, rfl⟩ : ∃ k, m = k + 1 := ⟨m - 1, by omega⟩
    obtain ⟨b, o, p, rfl, hbb, hpe, hcp⟩ := hrb.at_ (i := k) (by omega)
    have hk : ((k + 1 : Nat) : Int) - 1 = (k : Int) := by omega
    have hk1 : (k : Int) < ((k + 1 : Nat) : Int) := by omega
    have hk2 : (((k + 1 : Nat) : Int) == 0) = false := beq_eq_false_iff_ne.2 (by omega)
    rw [lastB_pos hm, hpe] at hl
    clear hrb hm
    by_cases hp : p = 0
    · subst hp
      clear hl hra hn hpe
      go_enter Tryd.func15, Tryd.ntmps15
      go_wp2
      go_ret
      exact ⟨rfl, HBO.out _⟩
    · have hp0 : ((p : Int) == 0) = false := beq_eq_false_iff_ne.2 (by omega)
      have hl1 : lastB xs = true := by
        rcases hl with h | h | h
        · exact h
        · exact absurd (of_decide_eq_true h) hp
        · omega
      rcases Nat.eq_zero_or_pos n with hn0 | hn0
      · rw [lastB_nil (by omega)] at hl1; exact absurd hl1 (by decide)
      · obtain ⟨j, rfl⟩ : ∃ j, n = j + 1 := ⟨n - 1, by omega⟩
        obtain ⟨b2, o2, q, rfl, hbb2, hqe, hcq⟩ := hra.at_ (i := j) (by omega)
        rw [lastB_pos hn, hqe] at hl1
        obtain rfl : q = 0 := of_decide_eq_true hl1
        have hj : ((j + 1 : Nat) : Int) - 1 = (j : Int) := by omega
        have hj1 : (j : Int) < ((j + 1 : Nat) : Int) := by omega
        have hj2 : (0 : Int) < ((j + 1 : Nat) : Int) := by omega
        clear hl hra hn hpe hp hl1 hqe
        go_enter Tryd.func15, Tryd.ntmps15
        go_wp2
        go_ret
        exact ⟨rfl, HBO.out _⟩
end Go.Proofs.YtfiedhopgmgnoaaDoor

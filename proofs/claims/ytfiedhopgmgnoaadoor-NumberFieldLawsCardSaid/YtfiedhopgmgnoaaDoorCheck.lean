/- number.Check. -/
import Derived.Test.YtfiedhopgmgnoaaDoorLast
import Derived.Test.YtfiedhopgmgnoaaDoorGcd
namespace Go.Proofs.YtfiedhopgmgnoaaDoor
open Go.RowKit NumB
set_option linter.unusedVariables false
set_option linter.unusedSimpArgs false

set_option maxRecDepth 100000 in
set_option maxHeartbeats 1600000 in
theorem check_big (neg : Bool) (xs ys : List Nat) (va vb : Value) (w : World) (ha : Sl .u32 w va xs) (hb : Sl .u32 w vb ys) (hx : 128 < xs.length ∨ 128 < ys.length) :
    Calls Tryd.prog 28 #[.agg #[.bool neg, va, vb]] w fun e w' => e = .returned (.int .i64 3) ∧ Below w.heap.size w w' := by
  obtain ⟨A, ca, rfl, hca, hma, hra⟩ := ha
  obtain ⟨A', cb, rfl, hcb, hmb, hrb⟩ := hb
  unfold maxLen at hma hmb
  generalize xs.length = n at *
  generalize ys.length = m at *
  clear hra hrb
  by_cases h : 128 < n
  · clear hx
    go_enter Tryd.func28, Tryd.ntmps28
    go_wp2
    go_ret
    exact ⟨rfl, (Below.refl _ _).alloc (Nat.le_refl _) _⟩
  · have hm : 128 < m := by omega
    have hn : n ≤ 128 := by omega
    clear hx h
    go_enter Tryd.func28, Tryd.ntmps28
    go_wp2
    go_ret
    exact ⟨rfl, (Below.refl _ _).alloc (Nat.le_refl _) _⟩

set_option maxRecDepth 100000 in
set_option maxHeartbeats 1600000 in
theorem check_last (neg : Bool) (xs ys : List Nat) (va vb : Value) (w : World) (ha : Sl .u32 w va xs) (hb : Sl .u32 w vb ys) (hx : xs.length ≤ 128) (hy : ys.length ≤ 128) (hl : lastB xs = true ∨ lastB ys = true ∨ ys.length = 0) :
    Calls Tryd.prog 28 #[.agg #[.bool neg, va, vb]] w fun e w' => e = .returned (.int .i64 2) ∧ Below w.heap.size w w' := by
  have HA := Lib.hid ha
  have HB := Lib.hid hb
  obtain ⟨A, ca, rfl, hca, hma, hra⟩ := ha
  obtain ⟨A', cb, rfl, hcb, hmb, hrb⟩ := hb
  clear hra hrb
  unfold maxLen at hma hmb
  generalize xs.length = n at *
  generalize ys.length = m at *
  by_cases hl1 : lastB xs = true
  · have HL := Lib.hid hl1
    clear hl hl1
    go_enter Tryd.func28, Tryd.ntmps28
    go_wp2_with fail
    refine (last_any xs _ _ (by exact HA.out.to ((Below.refl _ _).alloc (Nat.le_refl _) _))).mono ?_
    rintro e w1 ⟨rfl, rfl⟩
    rw [HL.out]
    go_wp2
    go_ret
    exact ⟨rfl, (Below.refl _ _).alloc (Nat.le_refl _) _⟩
  · have HL : Hid (lastB xs = false) := by unfold Hid; simpa using hl1
    have hl2 : lastB ys = true ∨ m = 0 := by rcases hl with h | h; exact absurd h hl1; exact h
    clear hl hl1
    by_cases hl1 : lastB ys = true
    · have HL2 := Lib.hid hl1
      clear hl2 hl1
      go_enter Tryd.func28, Tryd.ntmps28
      go_wp2_with fail
      refine (last_any xs _ _ (by exact HA.out.to ((Below.refl _ _).alloc (Nat.le_refl _) _))).mono ?_
      rintro e w1 ⟨rfl, rfl⟩
      rw [HL.out]
      go_wp2_with fail
      refine (last_any ys _ _ (by exact HB.out.to ((Below.refl _ _).alloc (Nat.le_refl _) _))).mono ?_
      rintro e w1 ⟨rfl, rfl⟩
      rw [HL2.out]
      go_wp2
      go_ret
      exact ⟨rfl, (Below.refl _ _).alloc (Nat.le_refl _) _⟩
    · have HL2 : Hid (lastB ys = false) := by unfold Hid; simpa using hl1
      obtain rfl : m = 0 := by rcases hl2 with h | h; exact absurd h hl1; exact h
      clear hl2 hl1
      go_enter Tryd.func28, Tryd.ntmps28
      go_wp2_with fail
      refine (last_any xs _ _ (by exact HA.out.to ((Below.refl _ _).alloc (Nat.le_refl _) _))).mono ?_
      rintro e w1 ⟨rfl, rfl⟩
      rw [HL.out]
      go_wp2_with fail
      refine (last_any ys _ _ (by exact HB.out.to ((Below.refl _ _).alloc (Nat.le_refl _) _))).mono ?_
      rintro e w1 ⟨rfl, rfl⟩
      rw [HL2.out]
      go_wp2
      go_ret
      exact ⟨rfl, (Below.refl _ _).alloc (Nat.le_refl _) _⟩
end Go.Proofs.YtfiedhopgmgnoaaDoor

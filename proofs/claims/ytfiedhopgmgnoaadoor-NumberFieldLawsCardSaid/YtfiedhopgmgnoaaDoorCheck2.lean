/- number.Check at lists without a last zero. -/
import Derived.Test.YtfiedhopgmgnoaaDoorCheckN
namespace Go.Proofs.YtfiedhopgmgnoaaDoor
open Go.RowKit NumB
set_option linter.unusedVariables false
set_option linter.unusedSimpArgs false

set_option maxRecDepth 100000 in
set_option maxHeartbeats 3200000 in
theorem check_zero (neg : Bool) (x y : Nat) (va vb : Value) (w : World) (ha : Nat32 w va x) (hb : Nat32 w vb y) (hx : (digs W32 x).length ≤ 128) (hy : (digs W32 y).length ≤ 128) (hy0 : 0 < (digs W32 y).length) (h0 : 0 < (digs W32 x).length ↔ 0 < x) (hx0 : x = 0) (hl1 : lastB (digs W32 x) = false) (hl2 : lastB (digs W32 y) = false) :
    Calls Tryd.prog 28 #[.agg #[.bool neg, va, vb]] w fun e w' => e = .returned (.int .i64 (checkN neg x y)) ∧ Below w.heap.size w w' := by
  have HA := Lib.hid ha
  have HB := Lib.hid hb
  obtain ⟨A, ca, rfl, hca, hma, hra⟩ := ha
  obtain ⟨A', cb, rfl, hcb, hmb, hrb⟩ := hb
  have HL := Lib.hid hl1
  have HL2 := Lib.hid hl2
  have HX := Lib.hid (And.intro hx hy)
  clear hra hrb hl1 hl2
  unfold maxLen at hma hmb
  generalize hn : (digs W32 x).length = n at *
  generalize hm : (digs W32 y).length = m at *
  have HN := Lib.hid (And.intro hn hm)
  have hm1 : ((m : Int) == 0) = false := beq_eq_false_iff_ne.2 (by omega)
  clear hn hm
  have HSA : ∀ o : Obj, Hid (Nat32 (w.alloc o) (.slice A n ca) x) := fun o => HA.out.to ((Below.refl _ _).alloc (Nat.le_refl _) o)
  have HSB : ∀ o : Obj, Hid (Nat32 (w.alloc o) (.slice A' m cb) y) := fun o => HB.out.to ((Below.refl _ _).alloc (Nat.le_refl _) o)
  clear HA HB
  · obtain rfl : n = 0 := by omega
    cases neg with
    | true =>
      have E : Hid (checkN true x y = 2) := by unfold Hid checkN; rw [if_pos hx0, if_neg (by simp)]
      clear h0 hx0
      go_enter Tryd.func28, Tryd.ntmps28
      go_wp2_with fail
      refine (last_any (digs W32 x) _ _ (by exact (HSA _).out)).mono ?_
      rintro e w1 ⟨rfl, rfl⟩
      rw [HL.out]
      go_wp2_with fail
      refine (last_any (digs W32 y) _ _ (by exact (HSB _).out)).mono ?_
      rintro e w1 ⟨rfl, rfl⟩
      rw [HL2.out]
      go_wp2
      go_ret
      rw [E.out]
      exact ⟨rfl, (Below.refl _ _).alloc (Nat.le_refl _) _⟩
    | false =>
      have E : Hid (checkN false x y = if y = 1 then 0 else 2) := by unfold Hid checkN; rw [if_pos hx0]; simp
      clear h0 hx0
      by_cases hy1 : y = 1
      · have HO := Lib.hid (oneB_true hy1)
        rw [if_pos hy1] at E
        clear hy1
        go_enter Tryd.func28, Tryd.ntmps28
        go_wp2_with fail
        refine (last_any (digs W32 x) _ _ (by exact (HSA _).out)).mono ?_
        rintro e w1 ⟨rfl, rfl⟩
        rw [HL.out]
        go_wp2_with fail
        refine (last_any (digs W32 y) _ _ (by exact (HSB _).out)).mono ?_
        rintro e w1 ⟨rfl, rfl⟩
        rw [HL2.out]
        go_wp2_with fail
        refine (isOne_any y _ _ (by exact (HSB _).out)).mono ?_
        rintro e w1 ⟨rfl, rfl⟩
        rw [HO.out]
        go_wp2_with fail
        refine (isOne_any y _ _ (by exact (HSB _).out)).mono ?_
        rintro e w1 ⟨rfl, rfl⟩
        rw [HO.out]
        go_wp2
        go_ret
        rw [E.out]
        exact ⟨rfl, (Below.refl _ _).alloc (Nat.le_refl _) _⟩
      · have HO := Lib.hid (oneB_false hy1)
        rw [if_neg hy1] at E
        clear hy1
        go_enter Tryd.func28, Tryd.ntmps28
        go_wp2_with fail
        refine (last_any (digs W32 x) _ _ (by exact (HSA _).out)).mono ?_
        rintro e w1 ⟨rfl, rfl⟩
        rw [HL.out]
        go_wp2_with fail
        refine (last_any (digs W32 y) _ _ (by exact (HSB _).out)).mono ?_
        rintro e w1 ⟨rfl, rfl⟩
        rw [HL2.out]
        go_wp2_with fail
        refine (isOne_any y _ _ (by exact (HSB _).out)).mono ?_
        rintro e w1 ⟨rfl, rfl⟩
        rw [HO.out]
        go_wp2
        go_ret
        rw [E.out]
        exact ⟨rfl, (Below.refl _ _).alloc (Nat.le_refl _) _⟩
end Go.Proofs.YtfiedhopgmgnoaaDoor

/- number.Check at a positive numerator. -/
import Derived.Test.YtfiedhopgmgnoaaDoorCheckN
namespace Go.Proofs.YtfiedhopgmgnoaaDoor
open Go.RowKit NumB
set_option linter.unusedVariables false
set_option linter.unusedSimpArgs false

set_option maxRecDepth 100000 in
set_option maxHeartbeats 3200000 in
theorem check_pos (neg : Bool) (x y : Nat) (va vb : Value) (w : World) (ha : Nat32 w va x) (hb : Nat32 w vb y) (hx : (digs W32 x).length ≤ 128) (hy : (digs W32 y).length ≤ 128) (hy0 : 0 < (digs W32 y).length) (h0 : 0 < (digs W32 x).length ↔ 0 < x) (hx0 : 0 < x) (hl1 : lastB (digs W32 x) = false) (hl2 : lastB (digs W32 y) = false) :
    Calls Tryd.prog 28 #[.agg #[.bool neg, va, vb]] w fun e w' => e = .returned (.int .i64 (checkN neg x y)) ∧ Below w.heap.size w w' := by
  have HA := Lib.hid ha
  have HB := Lib.hid hb
  obtain ⟨A, ca, rfl, hca, hma, hra⟩ := ha
  obtain ⟨A', cb, rfl, hcb, hmb, hrb⟩ := hb
  have HL := Lib.hid hl1
  have HL2 := Lib.hid hl2
  have HX := Lib.hid (And.intro hx hy)
  clear hra hrb hl1 hl2
  unfold maxLen at hma hmb
  generalize hn : (digs W32 x).length = n at *
  generalize hm : (digs W32 y).length = m at *
  have HN := Lib.hid (And.intro hn hm)
  have hm1 : ((m : Int) == 0) = false := beq_eq_false_iff_ne.2 (by omega)
  clear hn hm
  have HSA : ∀ o : Obj, Hid (Nat32 (w.alloc o) (.slice A n ca) x) := fun o => HA.out.to ((Below.refl _ _).alloc (Nat.le_refl _) o)
  have HSB : ∀ o : Obj, Hid (Nat32 (w.alloc o) (.slice A' m cb) y) := fun o => HB.out.to ((Below.refl _ _).alloc (Nat.le_refl _) o)
  clear HA HB
  have hn1 : ((n : Int) == 0) = false := beq_eq_false_iff_ne.2 (by omega)
  have HX0 : Hid (x ≠ 0) := by unfold Hid; omega
  clear h0 hx0
  by_cases hy1 : y = 1
  · have HO := Lib.hid (oneB_true hy1)
    have E : Hid (checkN neg x y = 0) := by unfold Hid checkN; rw [if_neg HX0.out, if_pos (.inl hy1)]
    clear hy1
    go_enter Tryd.func28, Tryd.ntmps28
    go_wp2_with fail
    refine (last_any (digs W32 x) _ _ (by exact (HSA _).out)).mono ?_
    rintro e w1 ⟨rfl, rfl⟩
    rw [HL.out]
    go_wp2_with fail
    refine (last_any (digs W32 y) _ _ (by exact (HSB _).out)).mono ?_
    rintro e w1 ⟨rfl, rfl⟩
    rw [HL2.out]
    go_wp2_with fail
    refine (isOne_any y _ _ (by exact (HSB _).out)).mono ?_
    rintro e w1 ⟨rfl, rfl⟩
    rw [HO.out]
    go_wp2
    go_ret
    rw [E.out]
    exact ⟨rfl, (Below.refl _ _).alloc (Nat.le_refl _) _⟩
  · have HO := Lib.hid (oneB_false hy1)
    by_cases hx1 : x = 1
    · have HOX := Lib.hid (oneB_true hx1)
      have E : Hid (checkN neg x y = 0) := by unfold Hid checkN; rw [if_neg HX0.out, if_pos (.inr (.inl hx1))]
      clear hy1 hx1
      go_enter Tryd.func28, Tryd.ntmps28
      go_wp2_with fail
      refine (last_any (digs W32 x) _ _ (by exact (HSA _).out)).mono ?_
      rintro e w1 ⟨rfl, rfl⟩
      rw [HL.out]
      go_wp2_with fail
      refine (last_any (digs W32 y) _ _ (by exact (HSB _).out)).mono ?_
      rintro e w1 ⟨rfl, rfl⟩
      rw [HL2.out]
      go_wp2_with fail
      refine (isOne_any y _ _ (by exact (HSB _).out)).mono ?_
      rintro e w1 ⟨rfl, rfl⟩
      rw [HO.out]
      go_wp2_with fail
      refine (isOne_any x _ _ (by exact (HSA _).out)).mono ?_
      rintro e w1 ⟨rfl, rfl⟩
      rw [HOX.out]
      go_wp2
      go_ret
      rw [E.out]
      exact ⟨rfl, (Below.refl _ _).alloc (Nat.le_refl _) _⟩
    · have HOX := Lib.hid (oneB_false hx1)
      by_cases hg : Nat.gcd x y = 1
      · have HG := Lib.hid (oneB_true hg)
        have E : Hid (checkN neg x y = 0) := by unfold Hid checkN; rw [if_neg HX0.out, if_pos (.inr (.inr hg))]
        clear hy1 hx1 hg
        go_enter Tryd.func28, Tryd.ntmps28
        go_wp2_with fail
        refine (last_any (digs W32 x) _ _ (by exact (HSA _).out)).mono ?_
        rintro e w1 ⟨rfl, rfl⟩
        rw [HL.out]
        go_wp2_with fail
        refine (last_any (digs W32 y) _ _ (by exact (HSB _).out)).mono ?_
        rintro e w1 ⟨rfl, rfl⟩
        rw [HL2.out]
        go_wp2_with fail
        refine (isOne_any y _ _ (by exact (HSB _).out)).mono ?_
        rintro e w1 ⟨rfl, rfl⟩
        rw [HO.out]
        go_wp2_with fail
        refine (isOne_any x _ _ (by exact (HSA _).out)).mono ?_
        rintro e w1 ⟨rfl, rfl⟩
        rw [HOX.out]
        go_wp2_with fail
        refine (gcd_any x y _ _ _ (by exact (HSA _).out) (by exact (HSB _).out) (by rw [HN.out.1]; exact Nat.le_trans HX.out.1 (by omega)) (by rw [HN.out.2]; exact Nat.le_trans HX.out.2 (by omega))).mono ?_
        rintro e w2 ⟨v2, rfl, hn2, hb2⟩
        have H2 := Lib.hid (And.intro hn2 hb2)
        clear hn2 hb2
        go_wp2_with fail
        refine (isOne_any (Nat.gcd x y) _ _ H2.out.1).mono ?_
        rintro e w1 ⟨rfl, rfl⟩
        rw [HG.out]
        go_wp2
        go_ret
        rw [E.out]
        exact ⟨rfl, ((Below.refl _ _).alloc (Nat.le_refl _) _).trans (H2.out.2.mono (by simp))⟩
      · have HG := Lib.hid (oneB_false hg)
        have E : Hid (checkN neg x y = 2) := by unfold Hid checkN; rw [if_neg HX0.out, if_neg (by rintro (h | h | h); exact hy1 h; exact hx1 h; exact hg h)]
        clear hy1 hx1 hg
        go_enter Tryd.func28, Tryd.ntmps28
        go_wp2_with fail
        refine (last_any (digs W32 x) _ _ (by exact (HSA _).out)).mono ?_
        rintro e w1 ⟨rfl, rfl⟩
        rw [HL.out]
        go_wp2_with fail
        refine (last_any (digs W32 y) _ _ (by exact (HSB _).out)).mono ?_
        rintro e w1 ⟨rfl, rfl⟩
        rw [HL2.out]
        go_wp2_with fail
        refine (isOne_any y _ _ (by exact (HSB _).out)).mono ?_
        rintro e w1 ⟨rfl, rfl⟩
        rw [HO.out]
        go_wp2_with fail
        refine (isOne_any x _ _ (by exact (HSA _).out)).mono ?_
        rintro e w1 ⟨rfl, rfl⟩
        rw [HOX.out]
        go_wp2_with fail
        refine (gcd_any x y _ _ _ (by exact (HSA _).out) (by exact (HSB _).out) (by rw [HN.out.1]; exact Nat.le_trans HX.out.1 (by omega)) (by rw [HN.out.2]; exact Nat.le_trans HX.out.2 (by omega))).mono ?_
        rintro e w2 ⟨v2, rfl, hn2, hb2⟩
        have H2 := Lib.hid (And.intro hn2 hb2)
        clear hn2 hb2
        go_wp2_with fail
        refine (isOne_any (Nat.gcd x y) _ _ H2.out.1).mono ?_
        rintro e w1 ⟨rfl, rfl⟩
        rw [HG.out]
        go_wp2
        go_ret
        rw [E.out]
        exact ⟨rfl, ((Below.refl _ _).alloc (Nat.le_refl _) _).trans (H2.out.2.mono (by simp))⟩
end Go.Proofs.YtfiedhopgmgnoaaDoor

/-  -/
import Derived.Test.YtdmhkhnnomdkcaaDoorJo5
import Derived.Test.YtdmhkhnnomdkcaaDoorJo8
set_option linter.unusedVariables false
set_option linter.unusedSimpArgs false
/- number.Check$1: does the list end with a zero. -/
namespace Go.Proofs.YtdmhkhnnomdkcaaDoor
open Go.RowKit NumB
set_option linter.unusedVariables false
set_option linter.unusedSimpArgs false

/-- Does the list end with a zero? -/
def lastB (xs : List Nat) : Bool := decide (0 < xs.length ∧ xs.getD (xs.length - 1) 0 = 0)

set_option maxRecDepth 100000 in
theorem last_any (xs : List Nat) (va : Value) (w : World) (ha : Sl .u32 w va xs) :
    Calls Tryd.prog 44 #[va] w fun e w' => e = .returned (.bool (lastB xs)) ∧ w = w' := by
  obtain ⟨A, ca, rfl, hca, hma, hra⟩ := ha
  unfold maxLen at hma
  have HE : Hid (lastB xs = decide (0 < xs.length ∧ xs.getD (xs.length - 1) 0 = 0)) := rfl
  generalize lastB xs = bb at *
  generalize hn : xs.length = n at *
  rcases Nat.eq_zero_or_pos n with hn0 | hn0
  · subst hn0
    have E : Hid (bb = false) := by unfold Hid; rw [HE.out]; exact decide_eq_false (by omega)
    clear HE hra hn
    go_enter Tryd.func44, Tryd.ntmps44
    go_wp2
    go_ret
    exact ⟨congrArg (fun b => Ending.returned (.bool b)) E.out.symm, rfl⟩
  · obtain ⟨k, rfl⟩ : ∃ k, n = k + 1 := ⟨n - 1, by omega⟩
    obtain ⟨b, o, p, rfl, hb, hpe, hcp⟩ := hra.at_ (i := k) (by omega)
    have hk : ((k + 1 : Nat) : Int) - 1 = (k : Int) := by omega
    have hk1 : (k : Int) < ((k + 1 : Nat) : Int) := by omega
    have hk2 : (0 : Int) < ((k + 1 : Nat) : Int) := by omega
    by_cases h : p = 0
    · subst h
      have E : Hid (bb = true) := by unfold Hid; rw [HE.out]; exact decide_eq_true ⟨by omega, hpe⟩
      clear HE hra hn hpe
      go_enter Tryd.func44, Tryd.ntmps44
      go_wp2
      go_ret
      exact ⟨congrArg (fun b => Ending.returned (.bool b)) E.out.symm, rfl⟩
    · have hb1 : ((p : Int) == 0) = false := beq_eq_false_iff_ne.2 (by omega)
      have E : Hid (bb = false) := by unfold Hid; rw [HE.out]; exact decide_eq_false (fun h' => h (hpe ▸ h'.2))
      clear HE hra hn hpe h
      go_enter Tryd.func44, Tryd.ntmps44
      go_wp2
      go_ret
      exact ⟨congrArg (fun b => Ending.returned (.bool b)) E.out.symm, rfl⟩
end Go.Proofs.YtdmhkhnnomdkcaaDoor
/- number.Check. -/
namespace Go.Proofs.YtdmhkhnnomdkcaaDoor
open Go.RowKit NumB
set_option linter.unusedVariables false
set_option linter.unusedSimpArgs false

set_option maxRecDepth 100000 in
set_option maxHeartbeats 1600000 in
theorem check_big (neg : Bool) (xs ys : List Nat) (va vb : Value) (w : World) (ha : Sl .u32 w va xs) (hb : Sl .u32 w vb ys) (hx : 128 < xs.length ∨ 128 < ys.length) :
    Calls Tryd.prog 32 #[.agg #[.bool neg, va, vb]] w fun e w' => e = .returned (.int .i64 3) ∧ Below w.heap.size w w' := by
  obtain ⟨A, ca, rfl, hca, hma, hra⟩ := ha
  obtain ⟨A', cb, rfl, hcb, hmb, hrb⟩ := hb
  unfold maxLen at hma hmb
  generalize xs.length = n at *
  generalize ys.length = m at *
  clear hra hrb
  by_cases h : 128 < n
  · clear hx
    go_enter Tryd.func32, Tryd.ntmps32
    go_wp2
    go_ret
    exact ⟨rfl, (Below.refl _ _).alloc (Nat.le_refl _) _⟩
  · have hm : 128 < m := by omega
    have hn : n ≤ 128 := by omega
    clear hx h
    go_enter Tryd.func32, Tryd.ntmps32
    go_wp2
    go_ret
    exact ⟨rfl, (Below.refl _ _).alloc (Nat.le_refl _) _⟩

set_option maxRecDepth 100000 in
set_option maxHeartbeats 1600000 in
theorem check_last (neg : Bool) (xs ys : List Nat) (va vb : Value) (w : World) (ha : Sl .u32 w va xs) (hb : Sl .u32 w vb ys) (hx : xs.length ≤ 128) (hy : ys.length ≤ 128) (hl : lastB xs = true ∨ lastB ys = true ∨ ys.length = 0) :
    Calls Tryd.prog 32 #[.agg #[.bool neg, va, vb]] w fun e w' => e = .returned (.int .i64 2) ∧ Below w.heap.size w w' := by
  have HA := Lib.hid ha
  have HB := Lib.hid hb
  obtain ⟨A, ca, rfl, hca, hma, hra⟩ := ha
  obtain ⟨A', cb, rfl, hcb, hmb, hrb⟩ := hb
  clear hra hrb
  unfold maxLen at hma hmb
  generalize xs.length = n at *
  generalize ys.length = m at *
  by_cases hl1 : lastB xs = true
  · have HL := Lib.hid hl1
    clear hl hl1
    go_enter Tryd.func32, Tryd.ntmps32
    go_wp2_with fail
    refine (last_any xs _ _ (by exact HA.out.to ((Below.refl _ _).alloc (Nat.le_refl _) _))).mono ?_
    rintro e w1 ⟨rfl, rfl⟩
    rw [HL.out]
    go_wp2
    go_ret
    exact ⟨rfl, (Below.refl _ _).alloc (Nat.le_refl _) _⟩
  · have HL : Hid (lastB xs = false) := by unfold Hid; simpa using hl1
    have hl2 : lastB ys = true ∨ m = 0 := by rcases hl with h | h; exact absurd h hl1; exact h
    clear hl hl1
    by_cases hl1 : lastB ys = true
    · have HL2 := Lib.hid hl1
      clear hl2 hl1
      go_enter Tryd.func32, Tryd.ntmps32
      go_wp2_with fail
      refine (last_any xs _ _ (by exact HA.out.to ((Below.refl _ _).alloc (Nat.le_refl _) _))).mono ?_
      rintro e w1 ⟨rfl, rfl⟩
      rw [HL.out]
      go_wp2_with fail
      refine (last_any ys _ _ (by exact HB.out.to ((Below.refl _ _).alloc (Nat.le_refl _) _))).mono ?_
      rintro e w1 ⟨rfl, rfl⟩
      rw [HL2.out]
      go_wp2
      go_ret
      exact ⟨rfl, (Below.refl _ _).alloc (Nat.le_refl _) _⟩
    · have HL2 : Hid (lastB ys = false) := by unfold Hid; simpa using hl1
      obtain rfl : m = 0 := by rcases hl2 with h | h; exact absurd h hl1; exact h
      clear hl2 hl1
      go_enter Tryd.func32, Tryd.ntmps32
      go_wp2_with fail
      refine (last_any xs _ _ (by exact HA.out.to ((Below.refl _ _).alloc (Nat.le_refl _) _))).mono ?_
      rintro e w1 ⟨rfl, rfl⟩
      rw [HL.out]
      go_wp2_with fail
      refine (last_any ys _ _ (by exact HB.out.to ((Below.refl _ _).alloc (Nat.le_refl _) _))).mono ?_
      rintro e w1 ⟨rfl, rfl⟩
      rw [HL2.out]
      go_wp2
      go_ret
      exact ⟨rfl, (Below.refl _ _).alloc (Nat.le_refl _) _⟩
end Go.Proofs.YtdmhkhnnomdkcaaDoor
/- What number.Check answers. -/
namespace Go.Proofs.YtdmhkhnnomdkcaaDoor
open Go.RowKit NumB
set_option linter.unusedVariables false
set_option linter.unusedSimpArgs false

/-- What Check answers at a sign and two canonical naturals, the second positive. -/
def checkN (neg : Bool) (x y : Nat) : Int := if x = 0 then (if neg = false ∧ y = 1 then 0 else 2) else if y = 1 ∨ x = 1 ∨ Nat.gcd x y = 1 then 0 else 2

end Go.Proofs.YtdmhkhnnomdkcaaDoor
/- number.Check at lists without a last zero. -/
namespace Go.Proofs.YtdmhkhnnomdkcaaDoor
open Go.RowKit NumB
set_option linter.unusedVariables false
set_option linter.unusedSimpArgs false

set_option maxRecDepth 100000 in
set_option maxHeartbeats 3200000 in
theorem check_zero (neg : Bool) (x y : Nat) (va vb : Value) (w : World) (ha : Nat32 w va x) (hb : Nat32 w vb y) (hx : (digs W32 x).length ≤ 128) (hy : (digs W32 y).length ≤ 128) (hy0 : 0 < (digs W32 y).length) (h0 : 0 < (digs W32 x).length ↔ 0 < x) (hx0 : x = 0) (hl1 : lastB (digs W32 x) = false) (hl2 : lastB (digs W32 y) = false) :
    Calls Tryd.prog 32 #[.agg #[.bool neg, va, vb]] w fun e w' => e = .returned (.int .i64 (checkN neg x y)) ∧ Below w.heap.size w w' := by
  have HA := Lib.hid ha
  have HB := Lib.hid hb
  obtain ⟨A, ca, rfl, hca, hma, hra⟩ := ha
  obtain ⟨A', cb, rfl, hcb, hmb, hrb⟩ := hb
  have HL := Lib.hid hl1
  have HL2 := Lib.hid hl2
  have HX := Lib.hid (And.intro hx hy)
  clear hra hrb hl1 hl2
  unfold maxLen at hma hmb
  generalize hn : (digs W32 x).length = n at *
  generalize hm : (digs W32 y).length = m at *
  have HN := Lib.hid (And.intro hn hm)
  have hm1 : ((m : Int) == 0) = false := beq_eq_false_iff_ne.2 (by omega)
  clear hn hm
  have HSA : ∀ o : Obj, Hid (Nat32 (w.alloc o) (.slice A n ca) x) := fun o => HA.out.to ((Below.refl _ _).alloc (Nat.le_refl _) o)
  have HSB : ∀ o : Obj, Hid (Nat32 (w.alloc o) (.slice A' m cb) y) := fun o => HB.out.to ((Below.refl _ _).alloc (Nat.le_refl _) o)
  clear HA HB
  · obtain rfl : n = 0 := by omega
    cases neg with
    | true =>
      have E : Hid (checkN true x y = 2) := by unfold Hid checkN; rw [if_pos hx0, if_neg (by simp)]
      clear h0 hx0
      go_enter Tryd.func32, Tryd.ntmps32
      go_wp2_with fail
      refine (last_any (digs W32 x) _ _ (by exact (HSA _).out)).mono ?_
      rintro e w1 ⟨rfl, rfl⟩
      rw [HL.out]
      go_wp2_with fail
      refine (last_any (digs W32 y) _ _ (by exact (HSB _).out)).mono ?_
      rintro e w1 ⟨rfl, rfl⟩
      rw [HL2.out]
      go_wp2
      go_ret
      rw [E.out]
      exact ⟨rfl, (Below.refl _ _).alloc (Nat.le_refl _) _⟩
    | false =>
      have E : Hid (checkN false x y = if y = 1 then 0 else 2) := by unfold Hid checkN; rw [if_pos hx0]; simp
      clear h0 hx0
      by_cases hy1 : y = 1
      · have HO := Lib.hid (oneB_true hy1)
        rw [if_pos hy1] at E
        clear hy1
        go_enter Tryd.func32, Tryd.ntmps32
        go_wp2_with fail
        refine (last_any (digs W32 x) _ _ (by exact (HSA _).out)).mono ?_
        rintro e w1 ⟨rfl, rfl⟩
        rw [HL.out]
        go_wp2_with fail
        refine (last_any (digs W32 y) _ _ (by exact (HSB _).out)).mono ?_
        rintro e w1 ⟨rfl, rfl⟩
        rw [HL2.out]
        go_wp2_with fail
        refine (isOne_any y _ _ (by exact (HSB _).out)).mono ?_
        rintro e w1 ⟨rfl, rfl⟩
        rw [HO.out]
        go_wp2_with fail
        refine (isOne_any y _ _ (by exact (HSB _).out)).mono ?_
        rintro e w1 ⟨rfl, rfl⟩
        rw [HO.out]
        go_wp2
        go_ret
        rw [E.out]
        exact ⟨rfl, (Below.refl _ _).alloc (Nat.le_refl _) _⟩
      · have HO := Lib.hid (oneB_false hy1)
        rw [if_neg hy1] at E
        clear hy1
        go_enter Tryd.func32, Tryd.ntmps32
        go_wp2_with fail
        refine (last_any (digs W32 x) _ _ (by exact (HSA _).out)).mono ?_
        rintro e w1 ⟨rfl, rfl⟩
        rw [HL.out]
        go_wp2_with fail
        refine (last_any (digs W32 y) _ _ (by exact (HSB _).out)).mono ?_
        rintro e w1 ⟨rfl, rfl⟩
        rw [HL2.out]
        go_wp2_with fail
        refine (isOne_any y _ _ (by exact (HSB _).out)).mono ?_
        rintro e w1 ⟨rfl, rfl⟩
        rw [HO.out]
        go_wp2
        go_ret
        rw [E.out]
        exact ⟨rfl, (Below.refl _ _).alloc (Nat.le_refl _) _⟩
end Go.Proofs.YtdmhkhnnomdkcaaDoor
/- number.Check at a positive numerator. -/
namespace Go.Proofs.YtdmhkhnnomdkcaaDoor
open Go.RowKit NumB
set_option linter.unusedVariables false
set_option linter.unusedSimpArgs false

set_option maxRecDepth 100000 in
set_option maxHeartbeats 3200000 in
theorem check_pos (neg : Bool) (x y : Nat) (va vb : Value) (w : World) (ha : Nat32 w va x) (hb : Nat32 w vb y) (hx : (digs W32 x).length ≤ 128) (hy : (digs W32 y).length ≤ 128) (hy0 : 0 < (digs W32 y).length) (h0 : 0 < (digs W32 x).length ↔ 0 < x) (hx0 : 0 < x) (hl1 : lastB (digs W32 x) = false) (hl2 : lastB (digs W32 y) = false) :
    Calls Tryd.prog 32 #[.agg #[.bool neg, va, vb]] w fun e w' => e = .returned (.int .i64 (checkN neg x y)) ∧ Below w.heap.size w w' := by
  have HA := Lib.hid ha
  have HB := Lib.hid hb
  obtain ⟨A, ca, rfl, hca, hma, hra⟩ := ha
  obtain ⟨A', cb, rfl, hcb, hmb, hrb⟩ := hb
  have HL := Lib.hid hl1
  have HL2 := Lib.hid hl2
  have HX := Lib.hid (And.intro hx hy)
  clear hra hrb hl1 hl2
  unfold maxLen at hma hmb
  generalize hn : (digs W32 x).length = n at *
  generalize hm : (digs W32 y).length = m at *
  have HN := Lib.hid (And.intro hn hm)
  have hm1 : ((m : Int) == 0) = false := beq_eq_false_iff_ne.2 (by omega)
  clear hn hm
  have HSA : ∀ o : Obj, Hid (Nat32 (w.alloc o) (.slice A n ca) x) := fun o => HA.out.to ((Below.refl _ _).alloc (Nat.le_refl _) o)
  have HSB : ∀ o : Obj, Hid (Nat32 (w.alloc o) (.slice A' m cb) y) := fun o => HB.out.to ((Below.refl _ _).alloc (Nat.le_refl _) o)
  clear HA HB
  have hn1 : ((n : Int) == 0) = false := beq_eq_false_iff_ne.2 (by omega)
  have HX0 : Hid (x ≠ 0) := by unfold Hid; omega
  clear h0 hx0
  by_cases hy1 : y = 1
  · have HO := Lib.hid (oneB_true hy1)
    have E : Hid (checkN neg x y = 0) := by unfold Hid checkN; rw [if_neg HX0.out, if_pos (.inl hy1)]
    clear hy1
    go_enter Tryd.func32, Tryd.ntmps32
    go_wp2_with fail
    refine (last_any (digs W32 x) _ _ (by exact (HSA _).out)).mono ?_
    rintro e w1 ⟨rfl, rfl⟩
    rw [HL.out]
    go_wp2_with fail
    refine (last_any (digs W32 y) _ _ (by exact (HSB _).out)).mono ?_
    rintro e w1 ⟨rfl, rfl⟩
    rw [HL2.out]
    go_wp2_with fail
    refine (isOne_any y _ _ (by exact (HSB _).out)).mono ?_
    rintro e w1 ⟨rfl, rfl⟩
    rw [HO.out]
    go_wp2
    go_ret
    rw [E.out]
    exact ⟨rfl, (Below.refl _ _).alloc (Nat.le_refl _) _⟩
  · have HO := Lib.hid (oneB_false hy1)
    by_cases hx1 : x = 1
    · have HOX := Lib.hid (oneB_true hx1)
      have E : Hid (checkN neg x y = 0) := by unfold Hid checkN; rw [if_neg HX0.out, if_pos (.inr (.inl hx1))]
      clear hy1 hx1
      go_enter Tryd.func32, Tryd.ntmps32
      go_wp2_with fail
      refine (last_any (digs W32 x) _ _ (by exact (HSA _).out)).mono ?_
      rintro e w1 ⟨rfl, rfl⟩
      rw [HL.out]
      go_wp2_with fail
      refine (last_any (digs W32 y) _ _ (by exact (HSB _).out)).mono ?_
      rintro e w1 ⟨rfl, rfl⟩
      rw [HL2.out]
      go_wp2_with fail
      refine (isOne_any y _ _ (by exact (HSB _).out)).mono ?_
      rintro e w1 ⟨rfl, rfl⟩
      rw [HO.out]
      go_wp2_with fail
      refine (isOne_any x _ _ (by exact (HSA _).out)).mono ?_
      rintro e w1 ⟨rfl, rfl⟩
      rw [HOX.out]
      go_wp2
      go_ret
      rw [E.out]
      exact ⟨rfl, (Below.refl _ _).alloc (Nat.le_refl _) _⟩
    · have HOX := Lib.hid (oneB_false hx1)
      by_cases hg : Nat.gcd x y = 1
      · have HG := Lib.hid (oneB_true hg)
        have E : Hid (checkN neg x y = 0) := by unfold Hid checkN; rw [if_neg HX0.out, if_pos (.inr (.inr hg))]
        clear hy1 hx1 hg
        go_enter Tryd.func32, Tryd.ntmps32
        go_wp2_with fail
        refine (last_any (digs W32 x) _ _ (by exact (HSA _).out)).mono ?_
        rintro e w1 ⟨rfl, rfl⟩
        rw [HL.out]
        go_wp2_with fail
        refine (last_any (digs W32 y) _ _ (by exact (HSB _).out)).mono ?_
        rintro e w1 ⟨rfl, rfl⟩
        rw [HL2.out]
        go_wp2_with fail
        refine (isOne_any y _ _ (by exact (HSB _).out)).mono ?_
        rintro e w1 ⟨rfl, rfl⟩
        rw [HO.out]
        go_wp2_with fail
        refine (isOne_any x _ _ (by exact (HSA _).out)).mono ?_
        rintro e w1 ⟨rfl, rfl⟩
        rw [HOX.out]
        go_wp2_with fail
        refine (gcd_any x y _ _ _ (by exact (HSA _).out) (by exact (HSB _).out) (by rw [HN.out.1]; exact Nat.le_trans HX.out.1 (by omega)) (by rw [HN.out.2]; exact Nat.le_trans HX.out.2 (by omega))).mono ?_
        rintro e w2 ⟨v2, rfl, hn2, hb2⟩
        have H2 := Lib.hid (And.intro hn2 hb2)
        clear hn2 hb2
        go_wp2_with fail
        refine (isOne_any (Nat.gcd x y) _ _ H2.out.1).mono ?_
        rintro e w1 ⟨rfl, rfl⟩
        rw [HG.out]
        go_wp2
        go_ret
        rw [E.out]
        exact ⟨rfl, ((Below.refl _ _).alloc (Nat.le_refl _) _).trans (H2.out.2.mono (by simp))⟩
      · have HG := Lib.hid (oneB_false hg)
        have E : Hid (checkN neg x y = 2) := by unfold Hid checkN; rw [if_neg HX0.out, if_neg (by rintro (h | h | h); exact hy1 h; exact hx1 h; exact hg h)]
        clear hy1 hx1 hg
        go_enter Tryd.func32, Tryd.ntmps32
        go_wp2_with fail
        refine (last_any (digs W32 x) _ _ (by exact (HSA _).out)).mono ?_
        rintro e w1 ⟨rfl, rfl⟩
        rw [HL.out]
        go_wp2_with fail
        refine (last_any (digs W32 y) _ _ (by exact (HSB _).out)).mono ?_
        rintro e w1 ⟨rfl, rfl⟩
        rw [HL2.out]
        go_wp2_with fail
        refine (isOne_any y _ _ (by exact (HSB _).out)).mono ?_
        rintro e w1 ⟨rfl, rfl⟩
        rw [HO.out]
        go_wp2_with fail
        refine (isOne_any x _ _ (by exact (HSA _).out)).mono ?_
        rintro e w1 ⟨rfl, rfl⟩
        rw [HOX.out]
        go_wp2_with fail
        refine (gcd_any x y _ _ _ (by exact (HSA _).out) (by exact (HSB _).out) (by rw [HN.out.1]; exact Nat.le_trans HX.out.1 (by omega)) (by rw [HN.out.2]; exact Nat.le_trans HX.out.2 (by omega))).mono ?_
        rintro e w2 ⟨v2, rfl, hn2, hb2⟩
        have H2 := Lib.hid (And.intro hn2 hb2)
        clear hn2 hb2
        go_wp2_with fail
        refine (isOne_any (Nat.gcd x y) _ _ H2.out.1).mono ?_
        rintro e w1 ⟨rfl, rfl⟩
        rw [HG.out]
        go_wp2
        go_ret
        rw [E.out]
        exact ⟨rfl, ((Below.refl _ _).alloc (Nat.le_refl _) _).trans (H2.out.2.mono (by simp))⟩
end Go.Proofs.YtdmhkhnnomdkcaaDoor
/- number.Check, whole. -/
namespace Go.Proofs.YtdmhkhnnomdkcaaDoor
open Go.RowKit NumB
set_option linter.unusedVariables false
set_option linter.unusedSimpArgs false

/-- What Check answers at a sign and two lists of limbs. -/
def checkL (neg : Bool) (xs ys : List Nat) : Int :=
  if 128 < xs.length ∨ 128 < ys.length then 3 else if lastB xs = true ∨ lastB ys = true ∨ ys.length = 0 then 2 else checkN neg (val W32 xs) (val W32 ys)

theorem top_of_last {xs : List Nat} (h : lastB xs = false) : Top xs := by
  intro hl
  have h1 : ¬ (0 < xs.length ∧ xs.getD (xs.length - 1) 0 = 0) := of_decide_eq_false h
  apply h1
  rw [List.getLast?_eq_getElem?] at hl
  constructor
  · rcases Nat.eq_zero_or_pos xs.length with h0 | h0
    · rw [List.getElem?_eq_none (by omega)] at hl; exact absurd hl (by simp)
    · exact h0
  · rw [List.getD_eq_getElem?_getD, hl]; rfl

theorem check_any (neg : Bool) (xs ys : List Nat) (va vb : Value) (w : World) (ha : Sl .u32 w va xs) (hb : Sl .u32 w vb ys) (hox : Ok W32 xs) (hoy : Ok W32 ys) :
    Calls Tryd.prog 32 #[.agg #[.bool neg, va, vb]] w fun e w' => e = .returned (.int .i64 (checkL neg xs ys)) ∧ Below w.heap.size w w' := by
  unfold checkL
  by_cases h1 : 128 < xs.length ∨ 128 < ys.length
  · rw [if_pos h1]; exact check_big neg xs ys va vb w ha hb h1
  rw [if_neg h1]
  by_cases h2 : lastB xs = true ∨ lastB ys = true ∨ ys.length = 0
  · rw [if_pos h2]; exact check_last neg xs ys va vb w ha hb (by omega) (by omega) h2
  rw [if_neg h2]
  have hlx : lastB xs = false := by cases h : lastB xs with | false => rfl | true => exact absurd (.inl h) h2
  have hly : lastB ys = false := by cases h : lastB ys with | false => rfl | true => exact absurd (.inr (.inl h)) h2
  have hl0 : 0 < ys.length := Nat.pos_of_ne_zero fun h => h2 (.inr (.inr h))
  have ex := digs_eq W32_gt hox (top_of_last hlx) rfl
  have ey := digs_eq W32_gt hoy (top_of_last hly) rfl
  have h0 : 0 < (digs W32 (val W32 xs)).length ↔ 0 < val W32 xs := by
    have h3 := digs_nil (B := W32) (n := val W32 xs) W32_gt
    constructor
    · intro h
      rcases Nat.eq_zero_or_pos (val W32 xs) with h4 | h4
      · rw [h3.2 h4] at h; exact absurd h (by simp)
      · exact h4
    · intro h
      exact List.length_pos_iff.2 fun h4 => by have := h3.1 h4; omega
  have hA : Nat32 w va (val W32 xs) := by unfold Nat32; rw [ex]; exact ha
  have hB : Nat32 w vb (val W32 ys) := by unfold Nat32; rw [ey]; exact hb
  rcases Nat.eq_zero_or_pos (val W32 xs) with hz | hz
  · exact check_zero neg _ _ va vb w hA hB (by rw [ex]; omega) (by rw [ey]; omega) (by rw [ey]; exact hl0) h0 hz (by rw [ex]; exact hlx) (by rw [ey]; exact hly)
  · exact check_pos neg _ _ va vb w hA hB (by rw [ex]; omega) (by rw [ey]; omega) (by rw [ey]; exact hl0) h0 hz (by rw [ex]; exact hlx) (by rw [ey]; exact hly)
end Go.Proofs.YtdmhkhnnomdkcaaDoor

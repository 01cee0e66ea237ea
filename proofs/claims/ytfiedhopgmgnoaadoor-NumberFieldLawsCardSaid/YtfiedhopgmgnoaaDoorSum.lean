/- number.sum. Conditions: at most 50000 limbs. -/
import Derived.Test.YtfiedhopgmgnoaaDoorChecks
import Derived.Test.YtfiedhopgmgnoaaDoorAdd
import Derived.Test.YtfiedhopgmgnoaaDoorSub
import Derived.Test.YtfiedhopgmgnoaaDoorMul
namespace Go.Proofs.YtfiedhopgmgnoaaDoor
open Go.RowKit NumB
set_option linter.unusedVariables false
set_option linter.unusedSimpArgs false

theorem digs_len_mul (x y : Nat) : (digs W32 (x * y)).length ≤ (digs W32 x).length + (digs W32 y).length := by
  refine digs_len_le W32_gt ?_
  rw [Nat.pow_add]
  exact Nat.mul_lt_mul'' (digs_lt W32_gt) (digs_lt W32_gt)
theorem digs_len_add {x y n : Nat} (hx : (digs W32 x).length ≤ n) (hy : (digs W32 y).length ≤ n) : (digs W32 (x + y)).length ≤ n + 1 := by
  refine digs_len_le W32_gt ?_
  have h1 := Nat.lt_of_lt_of_le (digs_lt (n := x) W32_gt) (Nat.pow_le_pow_right (n := W32) (by decide) hx)
  have h2 := Nat.lt_of_lt_of_le (digs_lt (n := y) W32_gt) (Nat.pow_le_pow_right (n := W32) (by decide) hy)
  rw [Nat.pow_succ]
  have h3 : W32 ^ n * 2 ≤ W32 ^ n * W32 := Nat.mul_le_mul_left _ (by decide)
  omega
theorem digs_len_sub {x y n : Nat} (hx : (digs W32 x).length ≤ n) : (digs W32 (x - y)).length ≤ n := Nat.le_trans (digs_len_mono W32_gt (Nat.sub_le _ _)) hx

/-- The sum of two naturals with signs. -/
def sumN (na : Bool) (x : Nat) (nb : Bool) (y : Nat) : Bool × Nat := if na = nb then (na, x + y) else if y ≤ x then (na, x - y) else (nb, y - x)
theorem sumN_len {na nb : Bool} {x y n : Nat} (hx : (digs W32 x).length ≤ n) (hy : (digs W32 y).length ≤ n) : (digs W32 (sumN na x nb y).2).length ≤ n + 1 := by
  unfold sumN
  split
  · exact digs_len_add hx hy
  · split
    · exact Nat.le_trans (digs_len_sub hx) (by omega)
    · exact Nat.le_trans (digs_len_sub hy) (by omega)

def SumPost (w : World) (r : Bool × Nat) (e : Ending) (w' : World) : Prop := ∃ v, e = .returned (.tuple #[.bool r.1, v]) ∧ Nat32 w' v r.2 ∧ Below w.heap.size w w'

theorem nats_two {w : World} {A B : Value} {x y : Nat} (ha : Nat32 w A x) (hb : Nat32 w B y) (t : TypeId) : Nats (w.alloc (.cells #[A, B] t)) w.heap.size 0 [x, y] := by
  refine ⟨by simp, fun i hi => ?_⟩
  have hk := Blk.new w t #[A, B]
  rcases i with _ | _ | i
  · exact ⟨A, hk.cell 0, ha.to (below_one _ _)⟩
  · exact ⟨B, hk.cell 1, hb.to (below_one _ _)⟩
  · simp at hi; omega

set_option maxRecDepth 100000 in
set_option maxHeartbeats 3200000 in
theorem sum_any (na nb : Bool) (x y : Nat) (va vb : Value) (w : World) (ha : Nat32 w va x) (hb : Nat32 w vb y) (hx : (digs W32 x).length ≤ 50000) (hy : (digs W32 y).length ≤ 50000) :
    Calls Tryd.prog 86 #[.bool na, va, .bool nb, vb] w (SumPost w (sumN na x nb y)) := by
  have HA := Lib.hid ha
  have HB := Lib.hid hb
  obtain ⟨A, n, c, rfl, hn⟩ := ha.form
  obtain ⟨A', m, d, rfl, hm⟩ := hb.form
  have HX := Lib.hid (And.intro hx hy)
  clear ha hb hn hm hx hy
  by_cases hs : na = nb
  · have E : Hid (sumN na x nb y = (na, x + y)) := by unfold Hid sumN; rw [if_pos hs]
    have HS : Hid ((digs W32 [x, y].sum).length ≤ 100000) := Nat.le_trans (by simpa using digs_len_add HX.out.1 HX.out.2) (by omega)
    subst hs
    have hbe : (na == na) = true := by simp
    go_enter Tryd.func86, Tryd.ntmps86
    go_wp2_with fail
    refine (add_any [x, y] _ 0 2 2 _ rfl (by exact nats_two HA.out HB.out _) HS.out (by omega)).mono ?_
    rintro e w1 ⟨v1, rfl, hn1, hb1⟩
    go_wp2
    go_ret2
    rw [E.out]
    exact ⟨_, rfl, by simpa using hn1, (below_one w _).trans (hb1.mono (below_one w _).size)⟩
  · have hbe : (na == nb) = false := beq_eq_false_iff_ne.2 hs
    by_cases hle : y ≤ x
    · have E : Hid (sumN na x nb y = (na, x - y)) := by unfold Hid sumN; rw [if_neg hs, if_pos hle]
      have HLE := Lib.hid hle
      have hc : 0 ≤ cmpI x y := cmpI_nonneg.2 hle
      generalize hcc : cmpI x y = z at *
      have HC := Lib.hid hcc
      have hbd := cmpI_bd x y
      rw [hcc] at hbd
      clear hcc hs hle
      go_enter Tryd.func86, Tryd.ntmps86
      go_wp2_with fail
      refine (compare_any x y _ _ _ HA.out HB.out).mono ?_
      rintro e w1 ⟨rfl, k1, rfl⟩
      rw [HC.out]
      go_wp2_with fail
      refine (sub_any x y _ _ _ (by exact HA.out) (by exact HB.out) (Nat.le_trans HX.out.1 (by omega)) HLE.out).mono ?_
      rintro e w1 ⟨v1, rfl, hn1, hb1⟩
      go_wp2
      go_ret2
      rw [E.out]
      exact ⟨_, rfl, hn1, below_undrewN hb1⟩
    · have E : Hid (sumN na x nb y = (nb, y - x)) := by unfold Hid sumN; rw [if_neg hs, if_neg hle]
      have HLE : Hid (x ≤ y) := by unfold Hid; omega
      have hc : cmpI x y < 0 := cmpI_neg.2 (by omega)
      generalize hcc : cmpI x y = z at *
      have HC := Lib.hid hcc
      have hbd := cmpI_bd x y
      rw [hcc] at hbd
      clear hcc hs hle
      go_enter Tryd.func86, Tryd.ntmps86
      go_wp2_with fail
      refine (compare_any x y _ _ _ HA.out HB.out).mono ?_
      rintro e w1 ⟨rfl, k1, rfl⟩
      rw [HC.out]
      go_wp2_with fail
      refine (sub_any y x _ _ _ (by exact HB.out) (by exact HA.out) (Nat.le_trans HX.out.2 (by omega)) HLE.out).mono ?_
      rintro e w1 ⟨v1, rfl, hn1, hb1⟩
      go_wp2
      go_ret2
      rw [E.out]
      exact ⟨_, rfl, hn1, below_undrewN hb1⟩
end Go.Proofs.YtfiedhopgmgnoaaDoor

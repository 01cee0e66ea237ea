/- nat.Gcd: the greatest common divisor. Conditions: at most 50000 limbs. number.Check. What number.Check answers. number.Check at lists without a last zero. -/
import Derived.Test.YtfiedhopgmgnoaaDoorJo3
import Derived.Test.YtfiedhopgmgnoaaDoorJo10
set_option linter.unusedVariables false
set_option linter.unusedSimpArgs false
namespace Go.Proofs.YtfiedhopgmgnoaaDoor
open Go.RowKit NumB
set_option linter.unusedVariables false
set_option linter.unusedSimpArgs false

theorem Nat32.to {w w' : World} {v : Value} {x : Nat} (h : Nat32 w v x) (hb : Below w.heap.size w w') : Nat32 w' v x := Sl.to h hb
theorem gcd_step (p q : Nat) : Nat.gcd q (p % q) = Nat.gcd p q := by
  rw [Nat.gcd_comm q (p % q), ← Nat.gcd_rec, Nat.gcd_comm]

/-- A post: one slice that reads as a natural number. -/
def NPost (w : World) (x : Nat) (e : Ending) (w' : World) : Prop := ∃ v, e = .returned v ∧ Nat32 w' v x ∧ Below w.heap.size w w'

set_option maxRecDepth 100000 in
set_option maxHeartbeats 1600000 in
theorem gcd_any (x y : Nat) (va vb : Value) (w : World) (ha : Nat32 w va x) (hb : Nat32 w vb y) (hx : (digs W32 x).length ≤ 50000) (hy : (digs W32 y).length ≤ 50000) :
    Calls Tryd.prog 68 #[va, vb] w (NPost w (Nat.gcd x y)) := by
  have HA := Lib.hid ha
  have HB := Lib.hid hb
  clear ha hb
  go_enter Tryd.func68, Tryd.ntmps68
  go_wp2
  go_loopg [0, 1, 5, 6] y (fun gk s0 s1 s5 s6 wr => ∃ p : Nat, Hid (Nat32 wr s0 p) ∧ Hid (Nat32 wr s1 gk) ∧ Hid (Nat.gcd p gk = Nat.gcd x y) ∧ Hid (Below w.heap.size w wr) ∧ (digs W32 p).length ≤ 50000 ∧ (digs W32 gk).length ≤ 50000)
  case atStart => exact ⟨x, HA.out, HB.out, rfl, Below.refl _ _, hx, hy⟩
  case round =>
    obtain ⟨p, HP, HQ, HG, HBe, hp, hq⟩ := hrel
    by_cases h0 : gk = 0
    · subst h0
      obtain ⟨A, c, hs1, hc, hm, hr⟩ := HQ.out
      rw [digs_zero] at hs1
      subst hs1
      clear hr hc
      go_wp2_with (go_at_call 94; refine (clone_any (digs W32 p) _ _ HP.out (by omega)).mono ?_; rintro e w2 ⟨v2, rfl, hown, hbel⟩)
      go_ret
      have hg := HG.out
      rw [Nat.gcd_zero_right] at hg
      exact ⟨_, rfl, by rw [← hg]; exact hown.sl, HBe.out.trans (hbel.mono HBe.out.size)⟩
    · obtain ⟨A, c, hs1, hc, hm, hr⟩ := HQ.out
      have hl : 0 < (digs W32 gk).length := by
        rcases Nat.eq_zero_or_pos (digs W32 gk).length with h1 | h1
        · exact absurd ((digs_nil W32_gt).1 (List.eq_nil_of_length_eq_zero h1)) h0
        · exact h1
      generalize hle : (digs W32 gk).length = l at hs1 hl hq
      subst hs1
      have HLE := Lib.hid hle
      clear hle hr hc
      go_wp2_with fail
      refine (divMod_any p gk _ _ _ HP.out HQ.out hp (by omega)).mono ?_
      rintro e w2 ⟨v2, u2, rfl, hv2, hu2, hb2⟩
      have HU2 := Lib.hid hu2
      have HB2 := Lib.hid hb2
      clear hv2 hu2 hb2
      go_wp2
      go_roundg (p % gk)
      case measure => exact Nat.mod_lt _ (by omega)
      case rel =>
        refine ⟨gk, HQ.out.to HB2.out, HU2.out, (gcd_step p gk).trans HG.out, HBe.out.trans (HB2.out.mono HBe.out.size), by rw [HLE.out]; exact hq, ?_⟩
        have := digs_len_mono (B := W32) W32_gt (Nat.le_of_lt (Nat.mod_lt p (show 0 < gk by omega)))
        rw [HLE.out] at this
        omega
end Go.Proofs.YtfiedhopgmgnoaaDoor
namespace Go.Proofs.YtfiedhopgmgnoaaDoor
open Go.RowKit NumB
set_option linter.unusedVariables false
set_option linter.unusedSimpArgs false

set_option maxRecDepth 100000 in
set_option maxHeartbeats 1600000 in
theorem check_big (neg : Bool) (xs ys : List Nat) (va vb : Value) (w : World) (ha : Sl .u32 w va xs) (hb : Sl .u32 w vb ys) (hx : 128 < xs.length ∨ 128 < ys.length) :
    Calls Tryd.prog 28 #[.agg #[.bool neg, va, vb]] w fun e w' => e = .returned (.int .i64 3) ∧ Below w.heap.size w w' := by
  obtain ⟨A, ca, rfl, hca, hma, hra⟩ := ha
  obtain ⟨A', cb, rfl, hcb, hmb, hrb⟩ := hb
  unfold maxLen at hma hmb
  generalize xs.length = n at *
  generalize ys.length = m at *
  clear hra hrb
  by_cases h : 128 < n
  · clear hx
    go_enter Tryd.func28, Tryd.ntmps28
    go_wp2
    go_ret
    exact ⟨rfl, (Below.refl _ _).alloc (Nat.le_refl _) _⟩
  · have hm : 128 < m := by omega
    have hn : n ≤ 128 := by omega
    clear hx h
    go_enter Tryd.func28, Tryd.ntmps28
    go_wp2
    go_ret
    exact ⟨rfl, (Below.refl _ _).alloc (Nat.le_refl _) _⟩

set_option maxRecDepth 100000 in
set_option maxHeartbeats 1600000 in
theorem check_last (neg : Bool) (xs ys : List Nat) (va vb : Value) (w : World) (ha : Sl .u32 w va xs) (hb : Sl .u32 w vb ys) (hx : xs.length ≤ 128) (hy : ys.length ≤ 128) (hl : lastB xs = true ∨ lastB ys = true ∨ ys.length = 0) :
    Calls Tryd.prog 28 #[.agg #[.bool neg, va, vb]] w fun e w' => e = .returned (.int .i64 2) ∧ Below w.heap.size w w' := by
  have HA := Lib.hid ha
  have HB := Lib.hid hb
  obtain ⟨A, ca, rfl, hca, hma, hra⟩ := ha
  obtain ⟨A', cb, rfl, hcb, hmb, hrb⟩ := hb
  clear hra hrb
  unfold maxLen at hma hmb
  generalize xs.length = n at *
  generalize ys.length = m at *
  by_cases hl1 : lastB xs = true
  · have HL := Lib.hid hl1
    clear hl hl1
    go_enter Tryd.func28, Tryd.ntmps28
    go_wp2_with fail
    refine (last_any xs _ _ (by exact HA.out.to ((Below.refl _ _).alloc (Nat.le_refl _) _))).mono ?_
    rintro e w1 ⟨rfl, rfl⟩
    rw [HL.out]
    go_wp2
    go_ret
    exact ⟨rfl, (Below.refl _ _).alloc (Nat.le_refl _) _⟩
  · have HL : Hid (lastB xs = false) := by unfold Hid; simpa using hl1
    have hl2 : lastB ys = true ∨ m = 0 := by rcases hl with h | h; exact absurd h hl1; exact h
    clear hl hl1
    by_cases hl1 : lastB ys = true
    · have HL2 := Lib.hid hl1
      clear hl2 hl1
      go_enter Tryd.func28, Tryd.ntmps28
      go_wp2_with fail
      refine (last_any xs _ _ (by exact HA.out.to ((Below.refl _ _).alloc (Nat.le_refl _) _))).mono ?_
      rintro e w1 ⟨rfl, rfl⟩
      rw [HL.out]
      go_wp2_with fail
      refine (last_any ys _ _ (by exact HB.out.to ((Below.refl _ _).alloc (Nat.le_refl _) _))).mono ?_
      rintro e w1 ⟨rfl, rfl⟩
      rw [HL2.out]
      go_wp2
      go_ret
      exact ⟨rfl, (Below.refl _ _).alloc (Nat.le_refl _) _⟩
    · have HL2 : Hid (lastB ys = false) := by unfold Hid; simpa using hl1
      obtain rfl : m = 0 := by rcases hl2 with h | h; exact absurd h hl1; exact h
      clear hl2 hl1
      go_enter Tryd.func28, Tryd.ntmps28
      go_wp2_with fail
      refine (last_any xs _ _ (by exact HA.out.to ((Below.refl _ _).alloc (Nat.le_refl _) _))).mono ?_
      rintro e w1 ⟨rfl, rfl⟩
      rw [HL.out]
      go_wp2_with fail
      refine (last_any ys _ _ (by exact HB.out.to ((Below.refl _ _).alloc (Nat.le_refl _) _))).mono ?_
      rintro e w1 ⟨rfl, rfl⟩
      rw [HL2.out]
      go_wp2
      go_ret
      exact ⟨rfl, (Below.refl _ _).alloc (Nat.le_refl _) _⟩
end Go.Proofs.YtfiedhopgmgnoaaDoor
namespace Go.Proofs.YtfiedhopgmgnoaaDoor
open Go.RowKit NumB
set_option linter.unusedVariables false
set_option linter.unusedSimpArgs false

/-- What Check answers at a sign and two canonical naturals, the second positive. -/
def checkN (neg : Bool) (x y : Nat) : Int := if x = 0 then (if neg = false ∧ y = 1 then 0 else 2) else if y = 1 ∨ x = 1 ∨ Nat.gcd x y = 1 then 0 else 2

end Go.Proofs.YtfiedhopgmgnoaaDoor
namespace Go.Proofs.YtfiedhopgmgnoaaDoor
open Go.RowKit NumB
set_option linter.unusedVariables false
set_option linter.unusedSimpArgs false

set_option maxRecDepth 100000 in
set_option maxHeartbeats 3200000 in
theorem check_zero (neg : Bool) (x y : Nat) (va vb : Value) (w : World) (ha : Nat32 w va x) (hb : Nat32 w vb y) (hx : (digs W32 x).length ≤ 128) (hy : (digs W32 y).length ≤ 128) (hy0 : 0 < (digs W32 y).length) (h0 : 0 < (digs W32 x).length ↔ 0 < x) (hx0 : x = 0) (hl1 : lastB (digs W32 x) = false) (hl2 : lastB (digs W32 y) = false) :
    Calls Tryd.prog 28 #[.agg #[.bool neg, va, vb]] w fun e w' => e = .returned (.int .i64 (checkN neg x y)) ∧ Below w.heap.size w w' := by
  have HA := Lib.hid ha
  have HB := Lib.hid hb
  obtain ⟨A, ca, rfl, hca, hma, hra⟩ := ha
  obtain ⟨A', cb, rfl, hcb, hmb, hrb⟩ := hb
  have HL := Lib.hid hl1
  have HL2 := Lib.hid hl2
  have HX := Lib.hid (And.intro hx hy)
  clear hra hrb hl1 hl2
  unfold maxLen at hma hmb
  generalize hn : (digs W32 x).length = n at *
  generalize hm : (digs W32 y).length = m at *
  have HN := Lib.hid (And.intro hn hm)
  have hm1 : ((m : Int) == 0) = false := beq_eq_false_iff_ne.2 (by omega)
  clear hn hm
  have HSA : ∀ o : Obj, Hid (Nat32 (w.alloc o) (.slice A n ca) x) := fun o => HA.out.to ((Below.refl _ _).alloc (Nat.le_refl _) o)
  have HSB : ∀ o : Obj, Hid (Nat32 (w.alloc o) (.slice A' m cb) y) := fun o => HB.out.to ((Below.refl _ _).alloc (Nat.le_refl _) o)
  clear HA HB
  · obtain rfl : n = 0 := by omega
    cases neg with
    | true =>
      have E : Hid (checkN true x y = 2) := by unfold Hid checkN; rw [if_pos hx0, if_neg (by simp)]
      clear h0 hx0
      go_enter Tryd.func28, Tryd.ntmps28
      go_wp2_with fail
      refine (last_any (digs W32 x) _ _ (by exact (HSA _).out)).mono ?_
      rintro e w1 ⟨rfl, rfl⟩
      rw [HL.out]
      go_wp2_with fail
      refine (last_any (digs W32 y) _ _ (by exact (HSB _).out)).mono ?_
      rintro e w1 ⟨rfl, rfl⟩
      rw [HL2.out]
      go_wp2
      go_ret
      rw [E.out]
      exact ⟨rfl, (Below.refl _ _).alloc (Nat.le_refl _) _⟩
    | false =>
      have E : Hid (checkN false x y = if y = 1 then 0 else 2) := by unfold Hid checkN; rw [if_pos hx0]; simp
      clear h0 hx0
      by_cases hy1 : y = 1
      · have HO := Lib.hid (oneB_true hy1)
        rw [if_pos hy1] at E
        clear hy1
        go_enter Tryd.func28, Tryd.ntmps28
        go_wp2_with fail
        refine (last_any (digs W32 x) _ _ (by exact (HSA _).out)).mono ?_
        rintro e w1 ⟨rfl, rfl⟩
        rw [HL.out]
        go_wp2_with fail
        refine (last_any (digs W32 y) _ _ (by exact (HSB _).out)).mono ?_
        rintro e w1 ⟨rfl, rfl⟩
        rw [HL2.out]
        go_wp2_with fail
        refine (isOne_any y _ _ (by exact (HSB _).out)).mono ?_
        rintro e w1 ⟨rfl, rfl⟩
        rw [HO.out]
        go_wp2_with fail
        refine (isOne_any y _ _ (by exact (HSB _).out)).mono ?_
        rintro e w1 ⟨rfl, rfl⟩
        rw [HO.out]
        go_wp2
        go_ret
        rw [E.out]
        exact ⟨rfl, (Below.refl _ _).alloc (Nat.le_refl _) _⟩
      · have HO := Lib.hid (oneB_false hy1)
        rw [if_neg hy1] at E
        clear hy1
        go_enter Tryd.func28, Tryd.ntmps28
        go_wp2_with fail
        refine (last_any (digs W32 x) _ _ (by exact (HSA _).out)).mono ?_
        rintro e w1 ⟨rfl, rfl⟩
        rw [HL.out]
        go_wp2_with fail
        refine (last_any (digs W32 y) _ _ (by exact (HSB _).out)).mono ?_
        rintro e w1 ⟨rfl, rfl⟩
        rw [HL2.out]
        go_wp2_with fail
        refine (isOne_any y _ _ (by exact (HSB _).out)).mono ?_
        rintro e w1 ⟨rfl, rfl⟩
        rw [HO.out]
        go_wp2
        go_ret
        rw [E.out]
        exact ⟨rfl, (Below.refl _ _).alloc (Nat.le_refl _) _⟩
end Go.Proofs.YtfiedhopgmgnoaaDoor

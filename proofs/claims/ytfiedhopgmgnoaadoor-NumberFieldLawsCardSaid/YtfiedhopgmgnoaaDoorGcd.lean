/- nat.Gcd: the greatest common divisor. Conditions: at most 50000 limbs. -/
import Derived.Test.YtfiedhopgmgnoaaDoorDivMod
namespace Go.Proofs.YtfiedhopgmgnoaaDoor
open Go.RowKit NumB
set_option linter.unusedVariables false
set_option linter.unusedSimpArgs false

theorem Nat32.to {w w' : World} {v : Value} {x : Nat} (h : Nat32 w v x) (hb : Below w.heap.size w w') : Nat32 w' v x := Sl.to h hb
theorem gcd_step (p q : Nat) : Nat.gcd q (p % q) = Nat.gcd p q := by
  rw [Nat.gcd_comm q (p % q), ← Nat.gcd_rec, Nat.gcd_comm]

/-- A post: one slice that reads as a natural number. -/
def NPost (w : World) (x : Nat) (e : Ending) (w' : World) : Prop := ∃ v, e = .returned v ∧ Nat32 w' v x ∧ Below w.heap.size w w'

set_option maxRecDepth 100000 in
set_option maxHeartbeats 1600000 in
theorem gcd_any (x y : Nat) (va vb : Value) (w : World) (ha : Nat32 w va x) (hb : Nat32 w vb y) (hx : (digs W32 x).length ≤ 50000) (hy : (digs W32 y).length ≤ 50000) :
    Calls Tryd.prog 68 #[va, vb] w (NPost w (Nat.gcd x y)) := by
  have HA := Lib.hid ha
  have HB := Lib.hid hb
  clear ha hb
  go_enter Tryd.func68, Tryd.ntmps68
  go_wp2
  go_loopg [0, 1, 5, 6] y (fun gk s0 s1 s5 s6 wr => ∃ p : Nat, Hid (Nat32 wr s0 p) ∧ Hid (Nat32 wr s1 gk) ∧ Hid (Nat.gcd p gk = Nat.gcd x y) ∧ Hid (Below w.heap.size w wr) ∧ (digs W32 p).length ≤ 50000 ∧ (digs W32 gk).length ≤ 50000)
  case atStart => exact ⟨x, HA.out, HB.out, rfl, Below.refl _ _, hx, hy⟩
  case round =>
    obtain ⟨p, HP, HQ, HG, HBe, hp, hq⟩ := hrel
    by_cases h0 : gk = 0
    · subst h0
      obtain ⟨A, c, hs1, hc, hm, hr⟩ := HQ.out
      rw [digs_zero] at hs1
      subst hs1
      clear hr hc
      go_wp2_with (go_at_call 94; refine (clone_any (digs W32 p) _ _ HP.out (by omega)).mono ?_; rintro e w2 ⟨v2, rfl, hown, hbel⟩)
      go_ret
      have hg := HG.out
      rw [Nat.gcd_zero_right] at hg
      exact ⟨_, rfl, by rw [← hg]; exact hown.sl, HBe.out.trans (hbel.mono HBe.out.size)⟩
    · obtain ⟨A, c, hs1, hc, hm, hr⟩ := HQ.out
      have hl : 0 < (digs W32 gk).length := by
        rcases Nat.eq_zero_or_pos (digs W32 gk).length with h1 | h1
        · exact absurd ((digs_nil W32_gt).1 (List.eq_nil_of_length_eq_zero h1)) h0
        · exact h1
      generalize hle : (digs W32 gk).length = l at hs1 hl hq
      subst hs1
      have HLE := Lib.hid hle
      clear hle hr hc
      go_wp2_with fail
      refine (divMod_any p gk _ _ _ HP.out HQ.out hp (by omega)).mono ?_
      rintro e w2 ⟨v2, u2, rfl, hv2, hu2, hb2⟩
      have HU2 := Lib.hid hu2
      have HB2 := Lib.hid hb2
      clear hv2 hu2 hb2
      go_wp2
      go_roundg (p % gk)
      case measure => exact Nat.mod_lt _ (by omega)
      case rel =>
        refine ⟨gk, HQ.out.to HB2.out, HU2.out, (gcd_step p gk).trans HG.out, HBe.out.trans (HB2.out.mono HBe.out.size), by rw [HLE.out]; exact hq, ?_⟩
        have := digs_len_mono (B := W32) W32_gt (Nat.le_of_lt (Nat.mod_lt p (show 0 < gk by omega)))
        rw [HLE.out] at this
        omega
end Go.Proofs.YtfiedhopgmgnoaaDoor

/- fetterlocklaw1.sameLimbs, same. -/
import Derived.Test.YtfiedhopgmgnoaaDoorGv
import Derived.Deep.RegionHeld3
namespace Go.Proofs.YtfiedhopgmgnoaaDoor
open Go.RowKit NumB
set_option linter.unusedVariables false
set_option linter.unusedSimpArgs false

def eqB (xs ys : List Nat) : Bool := decide (xs = ys)
theorem eqB_true {xs ys : List Nat} (h : xs = ys) : eqB xs ys = true := decide_eq_true h
theorem eqB_false {xs ys : List Nat} (h : xs ≠ ys) : eqB xs ys = false := decide_eq_false h

theorem take_step {xs ys : List Nat} {j : Nat} (h1 : j < xs.length) (h2 : j < ys.length) (h : xs.take j = ys.take j) (he : xs.getD j 0 = ys.getD j 0) : xs.take (j + 1) = ys.take (j + 1) := by
  rw [List.take_succ_eq_append_getElem h1, List.take_succ_eq_append_getElem h2, h, ← getD_lt h1, ← getD_lt h2, he]

set_option maxRecDepth 100000 in
set_option maxHeartbeats 1600000 in
theorem sameLimbs_any (xs ys : List Nat) (va vb : Value) (w : World) (ha : Sl .u32 w va xs) (hb : Sl .u32 w vb ys) :
    Calls Tryd.prog 37 #[va, vb] w fun e w' => e = .returned (.bool (eqB xs ys)) ∧ ∃ m, w' = w.drewN m := by
  obtain ⟨A, ca, rfl, hca, hma, hra⟩ := ha
  obtain ⟨A', cb, rfl, hcb, hmb, hrb⟩ := hb
  unfold maxLen at hma hmb
  generalize hn : xs.length = n at *
  generalize hm : ys.length = m at *
  by_cases hne : n = m
  · subst hne
    have HL := Lib.hid (And.intro hn hm)
    have HA := Lib.hid hra
    have HB := Lib.hid hrb
    clear hn hm hra hrb
    have hb1 : ((n : Int) != (n : Int)) = false := by simp
    go_enter Tryd.func37, Tryd.ntmps37
    go_wp2
    go_loopg [5] n (fun g i wr => ∃ j m : Nat, g + j = n ∧ i = .int .i64 (j : Int) ∧ Hid (xs.take j = ys.take j) ∧ Hid (wr = w.drewN m))
    case atStart => exact ⟨0, 0, by omega, rfl, rfl, rfl⟩
    case round =>
      obtain ⟨j, dr, hgj, rfl, HV, HW⟩ := hrel
      obtain rfl := HW.out
      by_cases h0 : j < n
      · obtain ⟨b, o, p, rfl, hb, hpe, hcp⟩ := HA.out.at_ (i := j) h0
        obtain ⟨b', o', q, rfl, hb', hqe, hcq⟩ := HB.out.at_ (i := j) h0
        have HP : Hid (xs.getD j 0 = p ∧ ys.getD j 0 = q) := ⟨hpe, hqe⟩
        clear hpe hqe
        have hi0 : (0 : Int) ≤ (j : Int) := by omega
        have hi1 : (j : Int) < (n : Int) := by omega
        by_cases hpq : p = q
        · subst hpq
          have hbn : ((p : Int) != (p : Int)) = false := by simp
          go_wp2
          go_quiet (fail)
          go_wp2
          go_roundg (gk - 1)
          case measure => omega
          case rel => exact ⟨j + 1, _, by omega, by go_num, take_step (by rw [HL.out.1]; exact h0) (by rw [HL.out.2]; exact h0) HV.out (HP.out.1.trans HP.out.2.symm), rfl⟩
        · have hbn : ((p : Int) != (q : Int)) = true := by rw [bne_iff_ne]; omega
          have E : Hid (eqB xs ys = false) := eqB_false (by rintro rfl; exact hpq (HP.out.1.symm.trans HP.out.2))
          clear hpq
          go_wp2
          go_quiet (fail)
          go_wp2
          go_ret
          rw [E.out]
          exact ⟨rfl, _, by rw [World.drewN_drewN]⟩
      · obtain rfl : j = n := by omega
        have E : Hid (eqB xs ys = true) := eqB_true (by have h := HV.out; rwa [List.take_of_length_le (by rw [HL.out.1]; exact Nat.le_refl _), List.take_of_length_le (by rw [HL.out.2]; exact Nat.le_refl _)] at h)
        go_wp2
        go_ret
        rw [E.out]
        exact ⟨rfl, dr, rfl⟩
  · have hb1 : ((n : Int) != (m : Int)) = true := by rw [bne_iff_ne]; omega
    have E : Hid (eqB xs ys = false) := eqB_false (by rintro rfl; omega)
    clear hn hm hne hra hrb
    go_enter Tryd.func37, Tryd.ntmps37
    go_wp2
    go_ret
    rw [E.out]
    exact ⟨rfl, 0, rfl⟩

/-- Two numbers are the same. -/
def sameB (a b : LN) : Bool := (a.neg == b.neg) && (eqB a.num b.num && eqB a.den b.den)
theorem sameB_true {a b : LN} (h : a = b) : sameB a b = true := by
  subst h
  unfold sameB
  rw [eqB_true rfl, eqB_true rfl]
  simp
end Go.Proofs.YtfiedhopgmgnoaaDoor

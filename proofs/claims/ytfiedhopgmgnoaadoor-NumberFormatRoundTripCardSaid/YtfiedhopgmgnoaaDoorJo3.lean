/- nat.sign, nat.Compare, nat.IsOne: comparisons of natural numbers. Conditions: none. number.Check$1: does the list end with a zero. -/
import Derived.Test.YtfiedhopgmgnoaaDoorJo2
set_option linter.unusedVariables false
set_option linter.unusedSimpArgs false
namespace Go.Proofs.YtfiedhopgmgnoaaDoor
open Go.RowKit NumB
set_option linter.unusedVariables false
set_option linter.unusedSimpArgs false

theorem ret_i {k : IntKind} {a b : Int} (h : a = b) : Ending.returned (.int k a) = .returned (.int k b) := by rw [h]

/-- The sign of an int. -/
def sgnI (n : Int) : Int := if n < 0 then -1 else if 0 < n then 1 else 0

theorem sign_any (n : Int) (w : World) : Calls Tryd.prog 104 #[.int .i64 n] w fun e w' => e = .returned (.int .i64 (sgnI n)) ∧ w = w' := by
  by_cases h1 : n < 0
  · have e : sgnI n = -1 := by unfold sgnI; rw [if_pos h1]
    have E := Lib.hid e
    clear e
    go_enter Tryd.func104, Tryd.ntmps104
    go_wp2
    go_ret
    exact ⟨ret_i E.out.symm, rfl⟩
  · by_cases h2 : 0 < n
    · have e : sgnI n = 1 := by unfold sgnI; rw [if_neg h1, if_pos h2]
      have E := Lib.hid e
      clear e
      go_enter Tryd.func104, Tryd.ntmps104
      go_wp2
      go_ret
      exact ⟨ret_i E.out.symm, rfl⟩
    · have e : sgnI n = 0 := by unfold sgnI; rw [if_neg h1, if_neg h2]
      have E := Lib.hid e
      clear e
      go_enter Tryd.func104, Tryd.ntmps104
      go_wp2
      go_ret
      exact ⟨ret_i E.out.symm, rfl⟩

set_option maxHeartbeats 400000 in
theorem compare_any (x y : Nat) (va vb : Value) (w : World) (ha : Nat32 w va x) (hb : Nat32 w vb y) :
    Calls Tryd.prog 85 #[va, vb] w fun e w' => e = .returned (.int .i64 (cmpI x y)) ∧ ∃ m, w' = w.drewN m := by
  obtain ⟨A, ca, rfl, hca, hma, hra⟩ := ha
  obtain ⟨A', cb, rfl, hcb, hmb, hrb⟩ := hb
  unfold maxLen at hma hmb
  have hxv := val_digs W32_gt x
  have hyv := val_digs W32_gt y
  have hxo := ok_digs W32_gt x
  have hyo := ok_digs W32_gt y
  have hxt := top_digs W32_gt x
  have hyt := top_digs W32_gt y
  generalize digs W32 x = xs at *
  generalize digs W32 y = ys at *
  generalize hn : xs.length = n at *
  generalize hm : ys.length = m at *
  by_cases hne : n = m
  · subst hne
    have HE : Hid ((val W32 xs = x ∧ val W32 ys = y) ∧ (Ok W32 xs ∧ Ok W32 ys) ∧ xs.length = n ∧ ys.length = n) := ⟨⟨hxv, hyv⟩, ⟨hxo, hyo⟩, hn, hm⟩
    have HA := Lib.hid hra
    have HB := Lib.hid hrb
    clear hxv hyv hxo hyo hxt hyt hn hm hra hrb
    have hb1 : ((n : Int) != (n : Int)) = false := by simp
    go_enter Tryd.func85, Tryd.ntmps85
    go_wp2
    go_loopg [5] (n + 1) (fun g i wr => ∃ j m : Nat, g = j + 1 ∧ j ≤ n ∧ i = .int .i64 ((j : Int) - 1) ∧ Hid (val W32 (xs.drop j) = val W32 (ys.drop j)) ∧ Hid (wr = w.drewN m))
    case atStart => exact ⟨n, 0, rfl, Nat.le_refl _, rfl, by obtain ⟨_, _, h1, h2⟩ := HE.out; unfold Hid; rw [List.drop_eq_nil_of_le (by omega), List.drop_eq_nil_of_le (by omega)], rfl⟩
    case round =>
      obtain ⟨j, dr, rfl, hj, rfl, HV, HW⟩ := hrel
      obtain rfl := HW.out
      by_cases h0 : 0 < j
      · obtain ⟨b, o, p, rfl, hb, hpe, hcp⟩ := HA.out.at_ (i := j - 1) (by omega)
        obtain ⟨b', o', q, rfl, hb', hqe, hcq⟩ := HB.out.at_ (i := j - 1) (by omega)
        have HP : Hid (xs.getD (j - 1) 0 = p ∧ ys.getD (j - 1) 0 = q) := ⟨hpe, hqe⟩
        clear hpe hqe
        have hi0 : (0 : Int) ≤ (j : Int) - 1 := by omega
        have hi1 : (j : Int) - 1 < (n : Int) := by omega
        by_cases hpq : p = q
        · subst hpq
          have hbn : ((p : Int) != (p : Int)) = false := by simp
          go_wp2
          go_quiet (fail)
          go_wp2
          go_roundg j
          case measure => omega
          case rel =>
            refine ⟨j - 1, _, by omega, by omega, ?_, ?_, rfl⟩
            · congr 1; omega
            · have h1 := val_drop_step W32 xs (j - 1)
              have h2 := val_drop_step W32 ys (j - 1)
              rw [HP.out.1, Nat.sub_add_cancel h0, HV.out] at h1
              rw [HP.out.2, Nat.sub_add_cancel h0] at h2
              exact h1.trans h2.symm
        · have hbn : ((p : Int) != (q : Int)) = true := by rw [bne_iff_ne]; omega
          by_cases hlt : p < q
          · go_wp2
            go_quiet (fail)
            go_wp2
            go_quiet (fail)
            go_wp2
            go_ret
            refine ⟨ret_i ?_, _, by rw [World.drewN_drewN, World.drewN_drewN]⟩
            obtain ⟨⟨hx, hy⟩, ⟨ox, oy⟩, l1, l2⟩ := HE.out
            rw [cmpI_lt]
            rw [← hx, ← hy]
            exact val_lt_of_digit ox (j := j - 1) (by omega) (by rw [Nat.sub_add_cancel h0]; exact HV.out) (by rw [HP.out.1, HP.out.2]; exact hlt)
          · have hgt : q < p := by omega
            go_wp2
            go_quiet (fail)
            go_wp2
            go_quiet (fail)
            go_wp2
            go_ret
            refine ⟨ret_i ?_, _, by rw [World.drewN_drewN, World.drewN_drewN]⟩
            obtain ⟨⟨hx, hy⟩, ⟨ox, oy⟩, l1, l2⟩ := HE.out
            rw [cmpI_gt]
            rw [← hx, ← hy]
            exact val_lt_of_digit oy (j := j - 1) (by omega) (by rw [Nat.sub_add_cancel h0]; exact HV.out.symm) (by rw [HP.out.1, HP.out.2]; exact hgt)
      · obtain rfl : j = 0 := by omega
        go_wp2
        go_ret
        refine ⟨ret_i ?_, dr, rfl⟩
        obtain ⟨⟨hx, hy⟩, _⟩ := HE.out
        have := HV.out
        rw [List.drop_zero, List.drop_zero, hx, hy] at this
        exact (cmpI_eq this).symm
  · have hb1 : ((n : Int) != (m : Int)) = true := by rw [bne_iff_ne]; omega
    have e : sgnI ((n : Int) - (m : Int)) = cmpI x y := by
      rcases Nat.lt_or_ge n m with h | h
      · rw [cmpI_lt (by rw [← hxv, ← hyv]; exact val_lt_of_len (by decide) hxo hyt (by omega))]
        unfold sgnI; rw [if_pos (by omega)]
      · rw [cmpI_gt (by rw [← hxv, ← hyv]; exact val_lt_of_len (by decide) hyo hxt (by omega))]
        unfold sgnI; rw [if_neg (by omega), if_pos (by omega)]
    have E := Lib.hid e
    clear e hxv hyv hxo hyo hxt hyt hn hm hne hra hrb
    go_enter Tryd.func85, Tryd.ntmps85
    go_wp2_with (go_at_call 104; refine (sign_any _ _).mono ?_; rintro e w' ⟨rfl, rfl⟩)
    go_ret
    exact ⟨ret_i E.out, 0, rfl⟩

/-- Is it 1? -/
def oneB (x : Nat) : Bool := decide (x = 1)
theorem oneB_true {x : Nat} (h : x = 1) : oneB x = true := decide_eq_true h
theorem oneB_false {x : Nat} (h : x ≠ 1) : oneB x = false := decide_eq_false h

theorem isOne_any (x : Nat) (va : Value) (w : World) (ha : Nat32 w va x) :
    Calls Tryd.prog 30 #[va] w fun e w' => e = .returned (.bool (oneB x)) ∧ w = w' := by
  obtain ⟨A, ca, rfl, hca, hma, hra⟩ := ha
  unfold maxLen at hma
  have hxv := val_digs W32_gt x
  have h1 : x = 1 → (digs W32 x).length = 1 := by
    rintro rfl
    have : digs W32 1 = [1] := digs_eq (l := [1]) W32_gt (Ok.cons (by decide) Ok.nil) (by simp [Top]) rfl
    rw [this]; rfl
  generalize digs W32 x = xs at *
  generalize hn : xs.length = n at *
  by_cases hn1 : n = 1
  · subst hn1
    obtain ⟨b, o, p, rfl, hb, hpe, hcp⟩ := hra.at_ (i := 0) (by omega)
    rw [Nat.add_zero] at hcp
    have hp : p = x := by
      match xs, hn with
      | [q], _ => simp only [List.getD_cons_zero] at hpe; simp only [val_cons, val_nil, Nat.mul_zero, Nat.add_zero] at hxv; omega
    subst hp
    by_cases h : p = 1
    · subst h
      clear hxv h1 hra hpe hn
      have E := Lib.hid (oneB_true (x := 1) rfl)
      go_enter Tryd.func30, Tryd.ntmps30
      go_wp2
      go_ret
      exact ⟨congrArg (fun b => Ending.returned (.bool b)) E.out.symm, rfl⟩
    · have hb1 : ((p : Int) == 1) = false := beq_eq_false_iff_ne.2 (by omega)
      have E := Lib.hid (oneB_false h)
      clear hxv h1 hra hpe hn h
      go_enter Tryd.func30, Tryd.ntmps30
      go_wp2
      go_ret
      exact ⟨congrArg (fun b => Ending.returned (.bool b)) E.out.symm, rfl⟩
  · have hb1 : ((n : Int) == 1) = false := beq_eq_false_iff_ne.2 (by omega)
    have E := Lib.hid (oneB_false (x := x) (fun h => hn1 (h1 h)))
    clear hxv h1 hra hn hn1
    go_enter Tryd.func30, Tryd.ntmps30
    go_wp2
    go_ret
    exact ⟨congrArg (fun b => Ending.returned (.bool b)) E.out.symm, rfl⟩
end Go.Proofs.YtfiedhopgmgnoaaDoor
namespace Go.Proofs.YtfiedhopgmgnoaaDoor
open Go.RowKit NumB
set_option linter.unusedVariables false
set_option linter.unusedSimpArgs false

/-- Does the list end with a zero? -/
def lastB (xs : List Nat) : Bool := decide (0 < xs.length ∧ xs.getD (xs.length - 1) 0 = 0)

set_option maxRecDepth 100000 in
theorem last_any (xs : List Nat) (va : Value) (w : World) (ha : Sl .u32 w va xs) :
    Calls Tryd.prog 67 #[va] w fun e w' => e = .returned (.bool (lastB xs)) ∧ w = w' := by
  obtain ⟨A, ca, rfl, hca, hma, hra⟩ := ha
  unfold maxLen at hma
  have HE : Hid (lastB xs = decide (0 < xs.length ∧ xs.getD (xs.length - 1) 0 = 0)) := rfl
  generalize lastB xs = bb at *
  generalize hn : xs.length = n at *
  rcases Nat.eq_zero_or_pos n with hn0 | hn0
  · subst hn0
    have E : Hid (bb = false) := by unfold Hid; rw [HE.out]; exact decide_eq_false (by omega)
    clear HE hra hn
    go_enter Tryd.func67, Tryd.ntmps67
    go_wp2
    go_ret
    exact ⟨congrArg (fun b => Ending.returned (.bool b)) E.out.symm, rfl⟩
  · obtain ⟨k, rfl⟩ : ∃ k, n = k + 1 := ⟨n - 1, by omega⟩
    obtain ⟨b, o, p, rfl, hb, hpe, hcp⟩ := hra.at_ (i := k) (by omega)
    have hk : ((k + 1 : Nat) : Int) - 1 = (k : Int) := by omega
    have hk1 : (k : Int) < ((k + 1 : Nat) : Int) := by omega
    have hk2 : (0 : Int) < ((k + 1 : Nat) : Int) := by omega
    by_cases h : p = 0
    · subst h
      have E : Hid (bb = true) := by unfold Hid; rw [HE.out]; exact decide_eq_true ⟨by omega, hpe⟩
      clear HE hra hn hpe
      go_enter Tryd.func67, Tryd.ntmps67
      go_wp2
      go_ret
      exact ⟨congrArg (fun b => Ending.returned (.bool b)) E.out.symm, rfl⟩
    · have hb1 : ((p : Int) == 0) = false := beq_eq_false_iff_ne.2 (by omega)
      have E : Hid (bb = false) := by unfold Hid; rw [HE.out]; exact decide_eq_false (fun h' => h (hpe ▸ h'.2))
      clear HE hra hn hpe h
      go_enter Tryd.func67, Tryd.ntmps67
      go_wp2
      go_ret
      exact ⟨congrArg (fun b => Ending.returned (.bool b)) E.out.symm, rfl⟩
end Go.Proofs.YtfiedhopgmgnoaaDoor

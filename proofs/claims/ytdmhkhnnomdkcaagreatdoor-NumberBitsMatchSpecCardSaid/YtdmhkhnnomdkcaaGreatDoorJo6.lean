/-  -/
import Derived.Test.YtdmhkhnnomdkcaaGreatDoorJo1
import Derived.Test.YtdmhkhnnomdkcaaGreatDoorJo3
set_option linter.unusedVariables false
set_option linter.unusedSimpArgs false
/- Plain facts for the division of long numbers by the schoolbook method, with a guess of each digit (no program). -/
namespace Go.Proofs.YtdmhkhnnomdkcaaGreatDoor.NumB

theorem val_top2 (B : Nat) (xs : List Nat) {n : Nat} (hn : 2 ≤ n) (hl : xs.length = n) :
    val B xs = (xs.getD (n - 1) 0 * B + xs.getD (n - 2) 0) * B ^ (n - 2) + val B (xs.take (n - 2)) := by
  have h1 := val_split B xs (n - 2)
  have h2 := val_drop_step B xs (n - 2)
  have h3 := val_drop_step B xs (n - 2 + 1)
  rw [List.drop_eq_nil_of_le (i := n - 2 + 1 + 1) (by omega), val_nil, Nat.mul_zero, show n - 2 + 1 = n - 1 from by omega] at h3
  rw [Nat.add_zero] at h3
  rw [show n - 2 + 1 = n - 1 from by omega, h3] at h2
  rw [h1, h2, Nat.mul_comm (B ^ (n - 2)), Nat.add_comm (xs.getD (n - 2) 0), Nat.mul_comm B, Nat.add_comm]

/-- A guess that is too great for the first digits is too great. -/
theorem kd_gt {U V t v R ur vr g : Nat} (hV : V = v * R + vr) (hU : U = t * R + ur) (hur : ur < R) (h : t < g * v) (hV0 : 0 < V) : U / V < g := by
  rw [Nat.div_lt_iff_lt_mul hV0, hU, hV]
  have h1 : (t + 1) * R ≤ g * v * R := Nat.mul_le_mul_right _ h
  have h2 : g * (v * R + vr) = g * v * R + g * vr := by rw [Nat.mul_add, Nat.mul_assoc]
  rw [Nat.add_mul, Nat.one_mul] at h1
  omega

/-- A guess that fits the first digits is at most one too great. -/
theorem kd_le {U V t v R ur vr g : Nat} (hV : V = v * R + vr) (hU : U = t * R + ur) (hvr : vr < R) (h : g * v ≤ t) (hg : g ≤ v) (hV0 : 0 < V) : g ≤ U / V + 1 := by
  rcases Nat.eq_zero_or_pos g with h0 | h0
  · rw [h0]; exact Nat.zero_le _
  have h1 : g - 1 ≤ U / V := by
    rw [Nat.le_div_iff_mul_le hV0, hU]
    have e : (g - 1) * V + V = g * V := by
      rw [← Nat.succ_mul]; congr 1; omega
    have h2 : g * V = g * v * R + g * vr := by rw [hV, Nat.mul_add, Nat.mul_assoc]
    have h3 : g * v * R ≤ t * R := Nat.mul_le_mul_right _ h
    have h4 : g * vr ≤ v * R := Nat.mul_le_mul hg (by omega)
    omega
  omega

/-- The guess is below the base where the rest has passed it. -/
theorem kd_break {g r v1 t un u1 B : Nat} (ht : t = un * B + u1) (hu1 : u1 < B) (hun : un ≤ v1) (he : g * v1 + r = t) (hr : B ≤ r) (hv1 : 0 < v1) : g < B := by
  rcases Nat.lt_or_ge g B with h | h
  · exact h
  · have h1 : B * v1 ≤ g * v1 := Nat.mul_le_mul_right _ h
    have h2 : un * B ≤ v1 * B := Nat.mul_le_mul_right _ hun
    rw [Nat.mul_comm B v1] at h1
    omega
theorem kd_fits {g r v1 v2 t u2 B : Nat} (he : g * v1 + r = t) (h : g * v2 ≤ r * B + u2) : g * (v1 * B + v2) ≤ t * B + u2 := by
  rw [Nat.mul_add, ← Nat.mul_assoc, ← he, Nat.add_mul]
  omega
theorem kd_over {g r v1 v2 t u2 B : Nat} (he : g * v1 + r = t) (h : r * B + u2 < g * v2) : t * B + u2 < g * (v1 * B + v2) := by
  rw [Nat.mul_add, ← Nat.mul_assoc, ← he, Nat.add_mul]
  omega
theorem kd_small {g r v2 u2 B : Nat} (hg : g < B) (hv2 : v2 < B) (hr : B ≤ r) : g * v2 ≤ r * B + u2 := by
  have h1 : g * v2 ≤ B * B := Nat.mul_le_mul (by omega) (by omega)
  have h2 : B * B ≤ r * B := Nat.mul_le_mul_right _ hr
  omega

/-- The highest digit of the dividend is at most that of the divisor. -/
theorem kd_top {U V un v1 B n : Nat} (hU : un * B ^ n ≤ U) (hV : V < (v1 + 1) * B ^ (n - 1)) (hlt : U < V * B) (hn : 0 < n) (hB : 0 < B) : un ≤ v1 := by
  rcases Nat.lt_or_ge v1 un with h | h
  · exfalso
    have h1 : (v1 + 1) * B ^ n ≤ un * B ^ n := Nat.mul_le_mul_right _ h
    have h2 : V * B < (v1 + 1) * B ^ (n - 1) * B := Nat.mul_lt_mul_of_pos_right hV hB
    rw [Nat.mul_assoc, ← Nat.pow_succ, show (n - 1).succ = n from by omega] at h2
    omega
  · exact h

/-- One digit of the product taken away. -/
theorem ms_step {Vu Vc Vv P g u v c b x b' B : Nat} (h : Vu + P * (b + c) = Vc + g * Vv) (hx : u + B * b' = x + (c + g * v) % B + b) :
    (Vu + P * u) + (P * B) * (b' + (c + g * v) / B) = (Vc + P * x) + g * (Vv + P * v) := by
  have h1 := mod_div_step P B (c + g * v)
  have h2 : P * u + P * B * b' = P * x + P * ((c + g * v) % B) + P * b := by
    rw [Nat.mul_assoc, ← Nat.mul_add, hx, Nat.mul_add, Nat.mul_add]
  have h3 : g * (Vv + P * v) = g * Vv + P * (g * v) := by rw [Nat.mul_add, Nat.mul_left_comm]
  rw [Nat.mul_add] at h
  rw [Nat.mul_add] at h1
  rw [Nat.mul_add, h3]
  omega

end Go.Proofs.YtdmhkhnnomdkcaaGreatDoor.NumB
/- nat.sign, nat.Compare, nat.IsOne: comparisons of natural numbers. Conditions: none. -/
namespace Go.Proofs.YtdmhkhnnomdkcaaGreatDoor
open Go.RowKit NumB
set_option linter.unusedVariables false
set_option linter.unusedSimpArgs false

theorem ret_i {k : IntKind} {a b : Int} (h : a = b) : Ending.returned (.int k a) = .returned (.int k b) := by rw [h]

/-- The sign of an int. -/
def sgnI (n : Int) : Int := if n < 0 then -1 else if 0 < n then 1 else 0

theorem sign_any (n : Int) (w : World) : Calls Tryz.prog 99 #[.int .i64 n] w fun e w' => e = .returned (.int .i64 (sgnI n)) ∧ w = w' := by
  by_cases h1 : n < 0
  · have e : sgnI n = -1 := by unfold sgnI; rw [if_pos h1]
    have E := Lib.hid e
    clear e
    go_enter Tryz.func99, Tryz.ntmps99
    go_wp2
    go_ret
    exact ⟨ret_i E.out.symm, rfl⟩
  · by_cases h2 : 0 < n
    · have e : sgnI n = 1 := by unfold sgnI; rw [if_neg h1, if_pos h2]
      have E := Lib.hid e
      clear e
      go_enter Tryz.func99, Tryz.ntmps99
      go_wp2
      go_ret
      exact ⟨ret_i E.out.symm, rfl⟩
    · have e : sgnI n = 0 := by unfold sgnI; rw [if_neg h1, if_neg h2]
      have E := Lib.hid e
      clear e
      go_enter Tryz.func99, Tryz.ntmps99
      go_wp2
      go_ret
      exact ⟨ret_i E.out.symm, rfl⟩

set_option maxHeartbeats 400000 in
theorem compare_any (x y : Nat) (va vb : Value) (w : World) (ha : Nat32 w va x) (hb : Nat32 w vb y) :
    Calls Tryz.prog 86 #[va, vb] w fun e w' => e = .returned (.int .i64 (cmpI x y)) ∧ ∃ m, w' = w.drewN m := by
  obtain ⟨A, ca, rfl, hca, hma, hra⟩ := ha
  obtain ⟨A', cb, rfl, hcb, hmb, hrb⟩ := hb
  unfold maxLen at hma hmb
  have hxv := val_digs W32_gt x
  have hyv := val_digs W32_gt y
  have hxo := ok_digs W32_gt x
  have hyo := ok_digs W32_gt y
  have hxt := top_digs W32_gt x
  have hyt := top_digs W32_gt y
  generalize digs W32 x = xs at *
  generalize digs W32 y = ys at *
  generalize hn : xs.length = n at *
  generalize hm : ys.length = m at *
  by_cases hne : n = m
  · subst hne
    have HE : Hid ((val W32 xs = x ∧ val W32 ys = y) ∧ (Ok W32 xs ∧ Ok W32 ys) ∧ xs.length = n ∧ ys.length = n) := ⟨⟨hxv, hyv⟩, ⟨hxo, hyo⟩, hn, hm⟩
    have HA := Lib.hid hra
    have HB := Lib.hid hrb
    clear hxv hyv hxo hyo hxt hyt hn hm hra hrb
    have hb1 : ((n : Int) != (n : Int)) = false := by simp
    go_enter Tryz.func86, Tryz.ntmps86
    go_wp2
    go_loopg [5] (n + 1) (fun g i wr => ∃ j m : Nat, g = j + 1 ∧ j ≤ n ∧ i = .int .i64 ((j : Int) - 1) ∧ Hid (val W32 (xs.drop j) = val W32 (ys.drop j)) ∧ Hid (wr = w.drewN m))
    case atStart => exact ⟨n, 0, rfl, Nat.le_refl _, rfl, by obtain ⟨_, _, h1, h2⟩ := HE.out; unfold Hid; rw [List.drop_eq_nil_of_le (by omega), List.drop_eq_nil_of_le (by omega)], rfl⟩
    case round =>
      obtain ⟨j, dr, rfl, hj, rfl, HV, HW⟩ := hrel
      obtain rfl := HW.out
      by_cases h0 : 0 < j
      · obtain ⟨b, o, p, rfl, hb, hpe, hcp⟩ := HA.out.at_ (i := j - 1) (by omega)
        obtain ⟨b', o', q, rfl, hb', hqe, hcq⟩ := HB.out.at_ (i := j - 1) (by omega)
        have HP : Hid (xs.getD (j - 1) 0 = p ∧ ys.getD (j - 1) 0 = q) := ⟨hpe, hqe⟩
        clear hpe hqe
        have hi0 : (0 : Int) ≤ (j : Int) - 1 := by omega
        have hi1 : (j : Int) - 1 < (n : Int) := by omega
        by_cases hpq : p = q
        · subst hpq
          have hbn : ((p : Int) != (p : Int)) = false := by simp
          go_wp2
          go_quiet (fail)
          go_wp2
          go_roundg j
          case measure => omega
          case rel =>
            refine ⟨j - 1, _, by omega, by omega, ?_, ?_, rfl⟩
            · congr 1; omega
            · have h1 := val_drop_step W32 xs (j - 1)
              have h2 := val_drop_step W32 ys (j - 1)
              rw [HP.out.1, Nat.sub_add_cancel h0, HV.out] at h1
              rw [HP.out.2, Nat.sub_add_cancel h0] at h2
              exact h1.trans h2.symm
        · have hbn : ((p : Int) != (q : Int)) = true := by rw [bne_iff_ne]; omega
          by_cases hlt : p < q
          · go_wp2
            go_quiet (fail)
            go_wp2
            go_quiet (fail)
            go_wp2
            go_ret
            refine ⟨ret_i ?_, _, by rw [World.drewN_drewN, World.drewN_drewN]⟩
            obtain ⟨⟨hx, hy⟩, ⟨ox, oy⟩, l1, l2⟩ := HE.out
            rw [cmpI_lt]
            rw [← hx, ← hy]
            exact val_lt_of_digit ox (j := j - 1) (by omega) (by rw [Nat.sub_add_cancel h0]; exact HV.out) (by rw [HP.out.1, HP.out.2]; exact hlt)
          · have hgt : q < p := by omega
            go_wp2
            go_quiet (fail)
            go_wp2
            go_quiet (fail)
            go_wp2
            go_ret
            refine ⟨ret_i ?_, _, by rw [World.drewN_drewN, World.drewN_drewN]⟩
            obtain ⟨⟨hx, hy⟩, ⟨ox, oy⟩, l1, l2⟩ := HE.out
            rw [cmpI_gt]
            rw [← hx, ← hy]
            exact val_lt_of_digit oy (j := j - 1) (by omega) (by rw [Nat.sub_add_cancel h0]; exact HV.out.symm) (by rw [HP.out.1, HP.out.2]; exact hgt)
      · obtain rfl : j = 0 := by omega
        go_wp2
        go_ret
        refine ⟨ret_i ?_, dr, rfl⟩
        obtain ⟨⟨hx, hy⟩, _⟩ := HE.out
        have := HV.out
        rw [List.drop_zero, List.drop_zero, hx, hy] at this
        exact (cmpI_eq this).symm
  · have hb1 : ((n : Int) != (m : Int)) = true := by rw [bne_iff_ne]; omega
    have e : sgnI ((n : Int) - (m : Int)) = cmpI x y := by
      rcases Nat.lt_or_ge n m with h | h
      · rw [cmpI_lt (by rw [← hxv, ← hyv]; exact val_lt_of_len (by decide) hxo hyt (by omega))]
        unfold sgnI; rw [if_pos (by omega)]
      · rw [cmpI_gt (by rw [← hxv, ← hyv]; exact val_lt_of_len (by decide) hyo hxt (by omega))]
        unfold sgnI; rw [if_neg (by omega), if_pos (by omega)]
    have E := Lib.hid e
    clear e hxv hyv hxo hyo hxt hyt hn hm hne hra hrb
    go_enter Tryz.func86, Tryz.ntmps86
    go_wp2_with (go_at_call 99; refine (sign_any _ _).mono ?_; rintro e w' ⟨rfl, rfl⟩)
    go_ret
    exact ⟨ret_i E.out, 0, rfl⟩

/-- Is it 1? -/
def oneB (x : Nat) : Bool := decide (x = 1)
theorem oneB_true {x : Nat} (h : x = 1) : oneB x = true := decide_eq_true h
theorem oneB_false {x : Nat} (h : x ≠ 1) : oneB x = false := decide_eq_false h

theorem isOne_any (x : Nat) (va : Value) (w : World) (ha : Nat32 w va x) :
    Calls Tryz.prog 35 #[va] w fun e w' => e = .returned (.bool (oneB x)) ∧ w = w' := by
  obtain ⟨A, ca, rfl, hca, hma, hra⟩ := ha
  unfold maxLen at hma
  have hxv := val_digs W32_gt x
  have h1 : x = 1 → (digs W32 x).length = 1 := by
    rintro rfl
    have : digs W32 1 = [1] := digs_eq (l := [1]) W32_gt (Ok.cons (by decide) Ok.nil) (by simp [Top]) rfl
    rw [this]; rfl
  generalize digs W32 x = xs at *
  generalize hn : xs.length = n at *
  by_cases hn1 : n = 1
  · subst hn1
    obtain ⟨b, o, p, rfl, hb, hpe, hcp⟩ := hra.at_ (i := 0) (by omega)
    rw [Nat.add_zero] at hcp
    have hp : p = x := by
      match xs, hn with
      | [q], _ => simp only [List.getD_cons_zero] at hpe; simp only [val_cons, val_nil, Nat.mul_zero, Nat.add_zero] at hxv; omega
    subst hp
    by_cases h : p = 1
    · subst h
      clear hxv h1 hra hpe hn
      have E := Lib.hid (oneB_true (x := 1) rfl)
      go_enter Tryz.func35, Tryz.ntmps35
      go_wp2
      go_ret
      exact ⟨congrArg (fun b => Ending.returned (.bool b)) E.out.symm, rfl⟩
    · have hb1 : ((p : Int) == 1) = false := beq_eq_false_iff_ne.2 (by omega)
      have E := Lib.hid (oneB_false h)
      clear hxv h1 hra hpe hn h
      go_enter Tryz.func35, Tryz.ntmps35
      go_wp2
      go_ret
      exact ⟨congrArg (fun b => Ending.returned (.bool b)) E.out.symm, rfl⟩
  · have hb1 : ((n : Int) == 1) = false := beq_eq_false_iff_ne.2 (by omega)
    have E := Lib.hid (oneB_false (x := x) (fun h => hn1 (h1 h)))
    clear hxv h1 hra hn hn1
    go_enter Tryz.func35, Tryz.ntmps35
    go_wp2
    go_ret
    exact ⟨congrArg (fun b => Ending.returned (.bool b)) E.out.symm, rfl⟩
end Go.Proofs.YtdmhkhnnomdkcaaGreatDoor

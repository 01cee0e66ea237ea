/-  -/
import Derived.Test.YtkamkaehlofgpaaJo1
set_option linter.unusedVariables false
set_option linter.unusedSimpArgs false
/- Plain facts for the division of long numbers by the schoolbook method, with a guess of each digit (no program). -/
namespace Go.Proofs.Ytkamkaehlofgpaa.NumB

theorem val_top2 (B : Nat) (xs : List Nat) {n : Nat} (hn : 2 ≤ n) (hl : xs.length = n) :
    val B xs = (xs.getD (n - 1) 0 * B + xs.getD (n - 2) 0) * B ^ (n - 2) + val B (xs.take (n - 2)) := by
  have h1 := val_split B xs (n - 2)
  have h2 := val_drop_step B xs (n - 2)
  have h3 := val_drop_step B xs (n - 2 + 1)
  rw [List.drop_eq_nil_of_le (i := n - 2 + 1 + 1) (by omega), val_nil, Nat.mul_zero, show n - 2 + 1 = n - 1 from by omega] at h3
  rw [Nat.add_zero] at h3
  rw [show n - 2 + 1 = n - 1 from by omega, h3] at h2
  rw [h1, h2, Nat.mul_comm (B ^ (n - 2)), Nat.add_comm (xs.getD (n - 2) 0), Nat.mul_comm B, Nat.add_comm]

/-- A guess that is too great for the first digits is too great. -/
theorem kd_gt {U V t v R ur vr g : Nat} (hV : V = v * R + vr) (hU : U = t * R + ur) (hur : ur < R) (h : t < g * v) (hV0 : 0 < V) : U / V < g := by
  rw [Nat.div_lt_iff_lt_mul hV0, hU, hV]
  have h1 : (t + 1) * R ≤ g * v * R := Nat.mul_le_mul_right _ h
  have h2 : g * (v * R + vr) = g * v * R + g * vr := by rw [Nat.mul_add, Nat.mul_assoc]
  rw [Nat.add_mul, Nat.one_mul] at h1
  omega

/-- A guess that fits the first digits is at most one too great. -/
theorem kd_le {U V t v R ur vr g : Nat} (hV : V = v * R + vr) (hU : U = t * R + ur) (hvr : vr < R) (h : g * v ≤ t) (hg : g ≤ v) (hV0 : 0 < V) : g ≤ U / V + 1 := by
  rcases Nat.eq_zero_or_pos g with h0 | h0
  · rw [h0]; exact Nat.zero_le _
  have h1 : g - 1 ≤ U / V := by
    rw [Nat.le_div_iff_mul_le hV0, hU]
    have e : (g - 1) * V + V = g * V := by
      rw [← Nat.succ_mul]; congr 1; omega
    have h2 : g * V = g * v * R + g * vr := by rw [hV, Nat.mul_add, Nat.mul_assoc]
    have h3 : g * v * R ≤ t * R := Nat.mul_le_mul_right _ h
    have h4 : g * vr ≤ v * R := Nat.mul_le_mul hg (by omega)
    omega
  omega

/-- The guess is below the base where the rest has passed it. -/
theorem kd_break {g r v1 t un u1 B : Nat} (ht : t = un * B + u1) (hu1 : u1 < B) (hun : un ≤ v1) (he : g * v1 + r = t) (hr : B ≤ r) (hv1 : 0 < v1) : g < B := by
  rcases Nat.lt_or_ge g B with h | h
  · exact h
  · have h1 : B * v1 ≤ g * v1 := Nat.mul_le_mul_right _ h
    have h2 : un * B ≤ v1 * B := Nat.mul_le_mul_right _ hun
    rw [Nat.mul_comm B v1] at h1
    omega
theorem kd_fits {g r v1 v2 t u2 B : Nat} (he : g * v1 + r = t) (h : g * v2 ≤ r * B + u2) : g * (v1 * B + v2) ≤ t * B + u2 := by
  rw [Nat.mul_add, ← Nat.mul_assoc, ← he, Nat.add_mul]
  omega
theorem kd_over {g r v1 v2 t u2 B : Nat} (he : g * v1 + r = t) (h : r * B + u2 < g * v2) : t * B + u2 < g * (v1 * B + v2) := by
  rw [Nat.mul_add, ← Nat.mul_assoc, ← he, Nat.add_mul]
  omega
theorem kd_small {g r v2 u2 B : Nat} (hg : g < B) (hv2 : v2 < B) (hr : B ≤ r) : g * v2 ≤ r * B + u2 := by
  have h1 : g * v2 ≤ B * B := Nat.mul_le_mul (by omega) (by omega)
  have h2 : B * B ≤ r * B := Nat.mul_le_mul_right _ hr
  omega

/-- The highest digit of the dividend is at most that of the divisor. -/
theorem kd_top {U V un v1 B n : Nat} (hU : un * B ^ n ≤ U) (hV : V < (v1 + 1) * B ^ (n - 1)) (hlt : U < V * B) (hn : 0 < n) (hB : 0 < B) : un ≤ v1 := by
  rcases Nat.lt_or_ge v1 un with h | h
  · exfalso
    have h1 : (v1 + 1) * B ^ n ≤ un * B ^ n := Nat.mul_le_mul_right _ h
    have h2 : V * B < (v1 + 1) * B ^ (n - 1) * B := Nat.mul_lt_mul_of_pos_right hV hB
    rw [Nat.mul_assoc, ← Nat.pow_succ, show (n - 1).succ = n from by omega] at h2
    omega
  · exact h

/-- One digit of the product taken away. -/
theorem ms_step {Vu Vc Vv P g u v c b x b' B : Nat} (h : Vu + P * (b + c) = Vc + g * Vv) (hx : u + B * b' = x + (c + g * v) % B + b) :
    (Vu + P * u) + (P * B) * (b' + (c + g * v) / B) = (Vc + P * x) + g * (Vv + P * v) := by
  have h1 := mod_div_step P B (c + g * v)
  have h2 : P * u + P * B * b' = P * x + P * ((c + g * v) % B) + P * b := by
    rw [Nat.mul_assoc, ← Nat.mul_add, hx, Nat.mul_add, Nat.mul_add]
  have h3 : g * (Vv + P * v) = g * Vv + P * (g * v) := by rw [Nat.mul_add, Nat.mul_left_comm]
  rw [Nat.mul_add] at h
  rw [Nat.mul_add] at h1
  rw [Nat.mul_add, h3]
  omega

end Go.Proofs.Ytkamkaehlofgpaa.NumB

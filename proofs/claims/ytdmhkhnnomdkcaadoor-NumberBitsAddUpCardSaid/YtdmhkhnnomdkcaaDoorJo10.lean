/-  -/
import Derived.Test.YtdmhkhnnomdkcaaDoorJo2
import Derived.Test.YtdmhkhnnomdkcaaDoorJo9
set_option linter.unusedVariables false
set_option linter.unusedSimpArgs false
/- nat.Mul: the product. Conditions: at most 50000 limbs. -/
namespace Go.Proofs.YtdmhkhnnomdkcaaDoor
open Go.RowKit NumB
set_option linter.unusedVariables false
set_option linter.unusedSimpArgs false

theorem mul_alg {V Vo Vy P Q x y o c B s : Nat} (hs : s = c + (x * y + o)) (hP : P = Q * B) (h : V + P * c = Vo + Q * x * Vy) (W : Nat) :
    (V + P * (s % W)) + (P * W) * (s / W) = (Vo + P * o) + Q * x * (Vy + B * y) := by
  have h1 := mod_div_step P W s
  have h2 : P * s = P * c + (P * (x * y) + P * o) := by rw [hs, Nat.mul_add, Nat.mul_add]
  have h3 : Q * x * (B * y) = P * (x * y) := by
    rw [hP]; simp only [Nat.mul_comm, Nat.mul_left_comm, Nat.mul_assoc]
  rw [Nat.mul_add (Q * x), h3]
  omega
theorem mul_inner {out o2 ys : List Nat} {i k c x y o s : Nat} (hlen : i + k < o2.length) (ho : out.getD (i + k) 0 = o) (hy : ys.getD k 0 = y) (hs : s = c + (x * y + o))
    (h : val W32 (o2.take (i + k)) + W32 ^ (i + k) * c = val W32 (out.take (i + k)) + W32 ^ i * x * val W32 (ys.take k)) :
    val W32 ((o2.set (i + k) (s % 4294967296)).take (i + (k + 1))) + W32 ^ (i + (k + 1)) * (s / 4294967296) = val W32 (out.take (i + (k + 1))) + W32 ^ i * x * val W32 (ys.take (k + 1)) := by
  rw [← Nat.add_assoc, val_take_succ, val_take_succ, val_take_succ, take_set_lt _ _ _ _ (Nat.le_refl _), getD_set_self _ _ _ hlen, ho, hy, Nat.pow_succ]
  exact mul_alg hs (Nat.pow_add _ _ _) h W32
theorem mul_outer {out o2 xs ys : List Nat} {i m c x Y : Nat} (hlen : i + m < o2.length) (hm : ys.length = m) (hY : val W32 ys = Y) (hx : xs.getD i 0 = x)
    (h : val W32 (o2.take (i + m)) + W32 ^ (i + m) * c = val W32 (out.take (i + m)) + W32 ^ i * x * val W32 (ys.take m)) (ho : val W32 (out.take (i + m)) = val W32 (xs.take i) * Y) :
    val W32 ((o2.set (i + m) c).take (i + 1 + m)) = val W32 (xs.take (i + 1)) * Y := by
  rw [show i + 1 + m = i + m + 1 from by omega, val_take_succ, val_take_succ, take_set_lt _ _ _ _ (Nat.le_refl _), getD_set_self _ _ _ hlen, h, ho, val_take_all W32 ys (by omega), hY, hx, Nat.add_mul]

set_option maxRecDepth 100000 in
set_option maxHeartbeats 3200000 in
theorem mul_any (x y : Nat) (va vb : Value) (w : World) (ha : Nat32 w va x) (hb : Nat32 w vb y) (hx : (digs W32 x).length ≤ 50000) (hy : (digs W32 y).length ≤ 50000) :
    Calls Tryd.prog 27 #[va, vb] w (NPost w (x * y)) := by
  obtain ⟨A, ca, rfl, hca, hma, hra⟩ := ha
  obtain ⟨A', cb, rfl, hcb, hmb, hrb⟩ := hb
  unfold maxLen at hma hmb
  have HX := Lib.hid (And.intro (And.intro (val_digs W32_gt x) (val_digs W32_gt y)) (And.intro (ok_digs W32_gt x) (ok_digs W32_gt y)))
  generalize digs W32 x = xs at *
  generalize digs W32 y = ys at *
  generalize hn : xs.length = n at *
  generalize hm : ys.length = m at *
  have HRA := Lib.hid hra
  have HRB := Lib.hid hrb
  clear hra hrb hn hm
  obtain ⟨i0, hi0, hz0, hz1, hz2⟩ := info_parts info_u32
  have HI := Lib.hid hi0
  have HZ0 := Lib.hid hz0
  have HZ1 := Lib.hid hz1
  have HZ2 := Lib.hid hz2
  clear hi0 hz0 hz1 hz2
  go_enter Tryd.func27, Tryd.ntmps27
  go_wp2_with (at_make; refine wpList_make_full _ rfl _ _ 22 rfl w.heap.size 35 i0 (.int .u32 0) 1 Tryd.underlying22 HI.out HZ0.out HZ1.out .i64 .i64 _ _ (n + m) rfl rfl (by omega) (by omega) (by rw [HZ2.out]; omega) (by unfold maxLen; omega) (Nat.le_refl _) ?_; intro w1 hown1 hg1)
  have HO1 := Lib.hid (Own.made hown1)
  have HB1 := Lib.hid ((Below.refl w.heap.size w).grown hg1 (Nat.le_refl _) (by simp))
  clear hown1 hg1
  go_loopg [19, 6, 7, 8, 9, 10] n (fun gk si s6 s7 s8 s9 s10 wr => ∃ (i : Nat) (out : List Nat), gk + i = n ∧ si = .int .i64 (i : Int) ∧ Hid (Own .u32 35 wr w.heap.size w.heap.size (n + m) (n + m) out) ∧ Hid (Ok W32 out) ∧ Hid (∀ q, i + m ≤ q → out.getD q 0 = 0) ∧ Hid (val W32 (out.take (i + m)) = val W32 (xs.take i) * y) ∧ Hid (Below w.heap.size w wr))
  case atStart => exact ⟨0, List.replicate (n + m) 0, by omega, rfl, HO1.out, ok_replicate (by decide), fun q _ => getD_replicate _ _, by unfold Hid; rw [List.take_replicate, val_replicate]; simp, HB1.out⟩
  case round =>
    obtain ⟨i, out, hgi, rfl, HO, HOK, HZ, HE, HB⟩ := hrel
    obtain ⟨wo, rfl⟩ : ∃ wo : World, wo = wr := ⟨_, rfl⟩
    by_cases hi : i < n
    · obtain ⟨b, o, p, rfl, hb, hpe, hcp⟩ := (HRA.out.below HB.out).at_ (i := i) hi
      have hpb : p < 4294967296 := by rw [← hpe]; exact HX.out.2.1.getD (by decide) _
      have HP := Lib.hid hpe
      clear hpe
      go_wp2_with fail
      clear hcp
      go_loopg [26, 8, 9, 10] m (fun gk2 sk s8 s9 s10 wr => ∃ (k c : Nat) (o2 : List Nat), gk2 + k = m ∧ sk = .int .i64 (k : Int) ∧ s8 = .int .u64 (c : Int) ∧ c < 4294967296 ∧ Hid (Own .u32 35 wr w.heap.size w.heap.size (n + m) (n + m) o2) ∧ Hid (Ok W32 o2) ∧ Hid (∀ q, i + k ≤ q → o2.getD q 0 = out.getD q 0) ∧ Hid (val W32 (o2.take (i + k)) + W32 ^ (i + k) * c = val W32 (out.take (i + k)) + W32 ^ i * p * val W32 (ys.take k)) ∧ Hid (Below w.heap.size w wr))
      case atStart => exact ⟨0, 0, out, by omega, rfl, rfl, by omega, HO.out, HOK.out, fun _ _ => rfl, by unfold Hid; simp, HB.out⟩
      case round =>
        obtain ⟨k, c, o2, hgk, rfl, rfl, hc, HO2, HOK2, HJ2, HE2, HB2⟩ := hrel
        by_cases hk : k < m
        · obtain ⟨b', o', q, rfl, hb', hqe, hcq⟩ := (HRB.out.below HB2.out).at_ (i := k) hk
          have hqb : q < 4294967296 := by rw [← hqe]; exact HX.out.2.2.getD (by decide) _
          have HQ := Lib.hid hqe
          clear hqe
          obtain ⟨r, hr⟩ : ∃ r, out.getD (i + k) 0 = r := ⟨_, rfl⟩
          have HR := Lib.hid hr
          have hrb : r < 4294967296 := by rw [← hr]; exact HOK.out.getD (by decide) _
          have hcr : wr.cell? ⟨w.heap.size, i + k, none⟩ = some (.int .u32 (r : Int)) := by rw [← hr, ← HJ2.out _ (Nat.le_refl _)]; exact HO2.out.cell (by omega)
          have hf := HO2.out.frozen (i + k)
          clear hr
          obtain ⟨pq, hpq⟩ : ∃ pq, pq = p * q := ⟨_, rfl⟩
          have HPQ := Lib.hid hpq
          have hpqb : pq ≤ 18446744065119617025 := by rw [hpq]; exact Nat.mul_le_mul (show p ≤ 4294967295 by omega) (show q ≤ 4294967295 by omega)
          have hpqi : (p : Int) * (q : Int) = (pq : Int) := by rw [hpq, Int.natCast_mul]
          clear hpq
          go_wp2
          go_roundg (gk - 1)
          case measure => omega
          case rel =>
            have el : ((c : Int) + ((pq : Int) + (r : Int))) % 4294967296 = (((c + (pq + r)) % 4294967296 : Nat) : Int) := by omega
            have eh : ((c : Int) + ((pq : Int) + (r : Int))) / 4294967296 = (((c + (pq + r)) / 4294967296 : Nat) : Int) := by omega
            rw [el, eh]
            refine ⟨k + 1, (c + (pq + r)) / 4294967296, o2.set (i + k) ((c + (pq + r)) % 4294967296), by omega, by go_num, rfl, by omega, HO2.out.stored _ _, HOK2.out.set (Nat.mod_lt _ (by decide)), ?_, mul_inner (by rw [HO2.out.1]; omega) HR.out HQ.out (by rw [HPQ.out]) HE2.out, HB2.out.setCell (Nat.le_refl _) _⟩
            intro q' hq'
            rw [NumB.getD_set_ne _ _ _ _ (by omega)]
            exact HJ2.out q' (by omega)
        · obtain rfl : k = m := by omega
          clear hgk hk
          obtain ⟨r, hcr⟩ : ∃ r : Nat, wr.cell? ⟨w.heap.size, i + k, none⟩ = some (.int .u32 (r : Int)) := ⟨_, HO2.out.cell (by omega)⟩
          have hf := HO2.out.frozen (i + k)
          go_wp2
          go_roundg (n - (i + 1))
          case measure => omega
          case rel =>
            refine ⟨i + 1, o2.set (i + k) c, by omega, by go_num, HO2.out.stored _ _, HOK2.out.set hc, ?_, mul_outer (by rw [HO2.out.1]; omega) HRB.out.1 HX.out.1.2 HP.out HE2.out HE.out, HB2.out.setCell (Nat.le_refl _) _⟩
            intro q' hq'
            rw [NumB.getD_set_ne _ _ _ _ (by omega), HJ2.out q' (by omega)]
            exact HZ.out q' (by omega)
    · obtain rfl : i = n := by omega
      clear hgi hi
      go_wp2_with (go_at_call 15; refine (trim_sl out _ _ HO.out.sl HOK.out).mono ?_; rintro e w' ⟨v', rfl, hn', rfl⟩)
      go_ret
      have he := HE.out
      rw [val_take_all W32 out (by rw [HO.out.1]; exact Nat.le_refl _), val_take_all W32 xs (by rw [HRA.out.1]; exact Nat.le_refl _), HX.out.1.1] at he
      rw [he] at hn'
      exact ⟨_, rfl, hn', HB.out⟩
end Go.Proofs.YtdmhkhnnomdkcaaDoor
/- Binary digits of naturals, and division bit by bit: plain mathematics. -/
namespace Go.Proofs.YtdmhkhnnomdkcaaDoor
open Go.RowKit NumB
set_option linter.unusedVariables false
set_option linter.unusedSimpArgs false

/-- The number of binary digits. -/
def blen (x : Nat) : Nat := if x = 0 then 0 else Nat.log2 x + 1
theorem blen_zero : blen 0 = 0 := rfl
theorem blen_eq {x k : Nat} (h1 : 2 ^ k ≤ x) (h2 : x < 2 ^ (k + 1)) : blen x = k + 1 := by
  have hx : x ≠ 0 := by have := Nat.pow_pos (n := k) (show 0 < 2 by omega); omega
  unfold blen
  rw [if_neg hx, (Nat.log2_eq_iff hx).2 ⟨h1, h2⟩]
theorem blen_bd {x : Nat} (hx : 0 < x) : ∃ k, blen x = k + 1 ∧ 2 ^ k ≤ x ∧ x < 2 ^ (k + 1) :=
  ⟨Nat.log2 x, by unfold blen; rw [if_neg (by omega)], (Nat.log2_eq_iff (by omega)).1 rfl⟩
theorem blen_lt (x : Nat) : x < 2 ^ blen x := by
  rcases Nat.eq_zero_or_pos x with h | h
  · subst h; exact Nat.pow_pos (by omega)
  · obtain ⟨k, e, _, h2⟩ := blen_bd h
    rw [e]; exact h2
theorem blen_le {x k : Nat} (h : x < 2 ^ k) : blen x ≤ k := by
  rcases Nat.eq_zero_or_pos x with h0 | h0
  · subst h0; exact Nat.zero_le _
  · obtain ⟨j, e, h1, _⟩ := blen_bd h0
    rw [e]
    have : 2 ^ j < 2 ^ k := Nat.lt_of_le_of_lt h1 h
    exact (Nat.pow_lt_pow_iff_right (by omega)).1 this
theorem blen_gt {x k : Nat} (h : 2 ^ k ≤ x) : k < blen x := by
  rcases Nat.lt_or_ge k (blen x) with h1 | h1
  · exact h1
  · have := Nat.lt_of_lt_of_le (blen_lt x) (Nat.pow_le_pow_right (by omega) h1)
    omega
theorem blen_step {x : Nat} (hx : 0 < x) : blen x = blen (x / 2) + 1 := by
  rcases Nat.lt_or_ge x 2 with h | h
  · obtain rfl : x = 1 := by omega
    rfl
  · obtain ⟨k, e, h1, h2⟩ := blen_bd (x := x / 2) (by omega)
    rw [e]
    refine blen_eq ?_ ?_
    · rw [Nat.pow_succ]; omega
    · rw [Nat.pow_succ]; omega
theorem blen_pos {x : Nat} : 0 < blen x ↔ 0 < x := by
  constructor
  · intro h
    rcases Nat.eq_zero_or_pos x with h0 | h0
    · subst h0; exact absurd h (by decide)
    · exact h0
  · intro h; rw [blen_step h]; omega
theorem blen_shift {k t l : Nat} (ht : 0 < t) (hl : l < 2 ^ k) : blen (l + 2 ^ k * t) = k + blen t := by
  obtain ⟨j, e, h1, h2⟩ := blen_bd ht
  rw [e, show k + (j + 1) = (k + j) + 1 from by omega]
  refine blen_eq ?_ ?_
  · rw [Nat.pow_add]
    exact Nat.le_trans (Nat.mul_le_mul_left _ h1) (Nat.le_add_left _ _)
  · rw [show k + j + 1 = k + (j + 1) from by omega, Nat.pow_add]
    have : 2 ^ k * (t + 1) ≤ 2 ^ k * 2 ^ (j + 1) := Nat.mul_le_mul_left _ h2
    rw [Nat.mul_add] at this
    omega
/-- The number of binary digits, by the highest digit in base 2^16. -/
theorem blen_top {x n t : Nat} (hn : (digs W16 x).length = n + 1) (ht : (digs W16 x).getD n 0 = t) : blen x = 16 * n + blen t := by
  have h1 := val_take_succ W16 (digs W16 x) n
  rw [val_take_all W16 _ (by omega), val_digs W16_gt, ht] at h1
  have h2 := val_take_lt (ok_digs W16_gt x) (j := n) (by omega)
  have ht0 : 0 < t := by
    rcases Nat.eq_zero_or_pos t with h | h
    · subst h
      have h3 := digs_ge W16_gt (n := x) (by intro h; subst h; rw [digs_zero] at hn; cases hn)
      rw [hn, Nat.add_sub_cancel] at h3
      omega
    · exact h
  have e : W16 ^ n = 2 ^ (16 * n) := by rw [Nat.pow_mul]; rfl
  rw [e] at h1 h2
  rw [h1]
  exact blen_shift ht0 h2
theorem blen_digs {x n : Nat} (h : (digs W16 x).length ≤ n) : blen x ≤ 16 * n := by
  refine blen_le (Nat.lt_of_lt_of_le (digs_lt W16_gt) ?_)
  rw [Nat.pow_mul]
  exact Nat.pow_le_pow_right (by decide) h

/-- One step of the division: the next bit comes in. -/
theorem div_bit {x y j b : Nat} (hy : 0 < y) (hb : x / 2 ^ j % 2 = b) : x / 2 ^ j = 2 * (x / 2 ^ (j + 1)) + b := by
  have e : x / 2 ^ (j + 1) = x / 2 ^ j / 2 := by rw [Nat.pow_succ, Nat.div_div_eq_div_mul]
  rw [e]; omega
theorem div_yes {X y r b X' : Nat} (hy : 0 < y) (hX : X' = 2 * X + b) (hb : b < 2) (hr : r = X % y) (h : y ≤ 2 * r + b) : X' % y = 2 * r + b - y ∧ X' / y = 2 * (X / y) + 1 := by
  have h0 := Nat.div_add_mod X y
  have h1 : r < y := by rw [hr]; exact Nat.mod_lt _ hy
  rw [← hr] at h0
  have e : X' = (2 * r + b - y) + y * (2 * (X / y) + 1) := by
    rw [hX, Nat.mul_add, Nat.mul_one, Nat.mul_left_comm]; omega
  rw [e]
  exact ⟨by rw [Nat.add_mul_mod_self_left, Nat.mod_eq_of_lt (by omega)], by rw [Nat.add_mul_div_left _ _ hy, Nat.div_eq_of_lt (by omega), Nat.zero_add]⟩
theorem div_no {X y r b X' : Nat} (hy : 0 < y) (hX : X' = 2 * X + b) (hb : b < 2) (hr : r = X % y) (h : 2 * r + b < y) : X' % y = 2 * r + b ∧ X' / y = 2 * (X / y) := by
  have h0 := Nat.div_add_mod X y
  rw [← hr] at h0
  have e : X' = (2 * r + b) + y * (2 * (X / y)) := by
    rw [hX, Nat.mul_left_comm]; omega
  rw [e]
  exact ⟨by rw [Nat.add_mul_mod_self_left, Nat.mod_eq_of_lt h], by rw [Nat.add_mul_div_left _ _ hy, Nat.div_eq_of_lt h, Nat.zero_add]⟩
/-- A digit whose low bits are 0. -/
theorem low_zero {out : List Nat} {j q d : Nat} (ho : Ok W16 out) (hv : val W16 out = 2 ^ (j + 1) * q) (hd : out.getD (j / 16) 0 = d) : ∃ e, d = e * 2 ^ (j % 16 + 1) := by
  have h1 := val_split W16 out (j / 16)
  rw [val_drop_step, hd] at h1
  have h2 := val_take_lt' (by decide) ho (j / 16)
  generalize val W16 (out.take (j / 16)) = V at h1 h2
  generalize val W16 (out.drop (j / 16 + 1)) = R at h1
  have e1 : 2 ^ (j + 1) = W16 ^ (j / 16) * 2 ^ (j % 16 + 1) := by
    rw [show W16 = 2 ^ 16 from rfl, ← Nat.pow_mul, ← Nat.pow_add]; congr 1; omega
  have hm : j % 16 < 16 := Nat.mod_lt _ (by omega)
  have e2 : W16 = 2 ^ (j % 16 + 1) * 2 ^ (15 - j % 16) := by
    rw [← Nat.pow_add, show j % 16 + 1 + (15 - j % 16) = 16 from by omega]; rfl
  rw [hv, e1, Nat.mul_assoc] at h1
  generalize W16 ^ (j / 16) = P at h1 h2
  have hP : 0 < P := by omega
  have h3 : (P * (2 ^ (j % 16 + 1) * q)) / P = (V + P * (d + W16 * R)) / P := by rw [h1]
  rw [Nat.mul_div_cancel_left _ hP, Nat.add_mul_div_left _ _ hP, Nat.div_eq_of_lt h2, Nat.zero_add, e2] at h3
  generalize 2 ^ (15 - j % 16) = T at h3
  generalize 2 ^ (j % 16 + 1) = U at *
  refine ⟨q - T * R, ?_⟩
  rw [Nat.sub_mul, Nat.mul_comm q U, Nat.mul_right_comm, Nat.mul_comm T U]
  omega
theorem or_bit {d s e : Nat} (hd : d = e * 2 ^ (s + 1)) : d ||| 2 ^ s = d + 2 ^ s := by
  rw [hd, ← Nat.shiftLeft_eq, ← Nat.shiftLeft_add_eq_or_of_lt (by rw [Nat.pow_succ]; have := Nat.pow_pos (n := s) (show 0 < 2 by omega); omega)]
theorem val_set {out : List Nat} {k d e : Nat} (hk : k < out.length) (hd : out.getD k 0 = d) : val W16 (out.set k (d + e)) = val W16 out + W16 ^ k * e := by
  have h1 := val_split W16 out (k + 1)
  have h2 := val_split W16 (out.set k (d + e)) (k + 1)
  rw [val_take_succ, take_set_lt _ _ _ _ (Nat.le_refl _), getD_set_self _ _ _ hk, List.drop_set_of_lt (by omega)] at h2
  rw [val_take_succ, hd] at h1
  rw [h1, h2, Nat.mul_add]; omega
theorem set_bit {out : List Nat} {j q d : Nat} (hk : j / 16 < out.length) (hv : val W16 out = 2 ^ (j + 1) * q) (hd : out.getD (j / 16) 0 = d) : val W16 (out.set (j / 16) (d + 2 ^ (j % 16))) = 2 ^ j * (2 * q + 1) := by
  rw [val_set hk hd, hv, show W16 = 2 ^ 16 from rfl, ← Nat.pow_mul, ← Nat.pow_add, show 16 * (j / 16) + j % 16 = j from by omega, Nat.pow_succ, Nat.mul_add, Nat.mul_one, Nat.mul_assoc]
theorem bit_lt16 {d s e : Nat} (hs : s < 16) (hd : d < 65536) (h : d = e * 2 ^ (s + 1)) : d + 2 ^ s < 65536 := by
  have h1 : (65536 : Nat) = 2 ^ (s + 1) * 2 ^ (15 - s) := by rw [← Nat.pow_add, show s + 1 + (15 - s) = 16 from by omega]
  have h2 : e < 2 ^ (15 - s) := by
    rcases Nat.lt_or_ge e (2 ^ (15 - s)) with h3 | h3
    · exact h3
    · have := Nat.mul_le_mul_left (2 ^ (s + 1)) h3
      rw [← h1, Nat.mul_comm, ← h] at this
      omega
  have h3 : (e + 1) * 2 ^ (s + 1) ≤ 2 ^ (15 - s) * 2 ^ (s + 1) := Nat.mul_le_mul_right _ h2
  rw [Nat.mul_comm (2 ^ (15 - s)), ← h1, Nat.add_mul, ← h, Nat.one_mul, Nat.pow_succ] at h3
  have := Nat.pow_pos (n := s) (show 0 < 2 by omega)
  omega
theorem or_i64 (a b : Nat) (ha : a < 4294967296) (hb : b < 4294967296) : bits .or .i64 (a : Int) (b : Int) = ((a ||| b : Nat) : Int) := by
  have hx : a ||| b < 2 ^ 63 := Nat.lt_trans (Nat.or_lt_two_pow (n := 32) (by omega) (by omega)) (by decide)
  show IntKind.i64.wrap ((BitVec.ofInt 64 (a : Int) ||| BitVec.ofInt 64 (b : Int)).toNat : Int) = _
  have e1 : (BitVec.ofInt 64 (a : Int)).toNat = a := by rw [BitVec.ofInt_natCast, BitVec.toNat_ofNat]; omega
  have e2 : (BitVec.ofInt 64 (b : Int)).toNat = b := by rw [BitVec.ofInt_natCast, BitVec.toNat_ofNat]; omega
  rw [BitVec.toNat_or, e1, e2, IntKind.wrap_i64]
  omega
end Go.Proofs.YtdmhkhnnomdkcaaDoor

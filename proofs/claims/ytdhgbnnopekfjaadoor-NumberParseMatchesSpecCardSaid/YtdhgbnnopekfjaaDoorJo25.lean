/- Binary digits of naturals, and division bit by bit: plain mathematics. fetterlockref1.LenNat. Conditions: at most 1000000 digits. fetterlockref1.AddNat. Conditions: at most 100000 digits. -/
import Derived.Test.YtdhgbnnopekfjaaDoorJo2
import Derived.Test.YtdhgbnnopekfjaaDoorJo20
import Derived.Test.YtdhgbnnopekfjaaDoorJo21
import Derived.Test.YtdhgbnnopekfjaaDoorJo24
set_option linter.unusedVariables false
set_option linter.unusedSimpArgs false
namespace Go.Proofs.YtdhgbnnopekfjaaDoor
open Go.RowKit NumB
set_option linter.unusedVariables false
set_option linter.unusedSimpArgs false

/-- The number of binary digits. -/
def blen (x : Nat) : Nat := if x = 0 then 0 else Nat.log2 x + 1
theorem blen_zero : blen 0 = 0 := rfl
theorem blen_eq {x k : Nat} (h1 : 2 ^ k ≤ x) (h2 : x < 2 ^ (k + 1)) : blen x = k + 1 := by
  have hx : x ≠ 0 := by have := Nat.pow_pos (n := k) (show 0 < 2 by omega); omega
  unfold blen
  rw [if_neg hx, (Nat.log2_eq_iff hx).2 ⟨h1, h2⟩]
theorem blen_bd {x : Nat} (hx : 0 < x) : ∃ k, blen x = k + 1 ∧ 2 ^ k ≤ x ∧ x < 2 ^ (k + 1) :=
  ⟨Nat.log2 x, by unfold blen; rw [if_neg (by omega)], (Nat.log2_eq_iff (by omega)).1 rfl⟩
theorem blen_lt (x : Nat) : x < 2 ^ blen x := by
  rcases Nat.eq_zero_or_pos x with h | h
  · subst h; exact Nat.pow_pos (by omega)
  · obtain ⟨k, e, _, h2⟩ := blen_bd h
    rw [e]; exact h2
theorem blen_le {x k : Nat} (h : x < 2 ^ k) : blen x ≤ k := by
  rcases Nat.eq_zero_or_pos x with h0 | h0
  · subst h0; exact Nat.zero_le _
  · obtain ⟨j, e, h1, _⟩ := blen_bd h0
    rw [e]
    have : 2 ^ j < 2 ^ k := Nat.lt_of_le_of_lt h1 h
    exact (Nat.pow_lt_pow_iff_right (by omega)).1 this
theorem blen_gt {x k : Nat} (h : 2 ^ k ≤ x) : k < blen x := by
  rcases Nat.lt_or_ge k (blen x) with h1 | h1
  · exact h1
  · have := Nat.lt_of_lt_of_le (blen_lt x) (Nat.pow_le_pow_right (by omega) h1)
    omega
theorem blen_step {x : Nat} (hx : 0 < x) : blen x = blen (x / 2) + 1 := by
  rcases Nat.lt_or_ge x 2 with h | h
  · obtain rfl : x = 1 := by omega
    rfl
  · obtain ⟨k, e, h1, h2⟩ := blen_bd (x := x / 2) (by omega)
    rw [e]
    refine blen_eq ?_ ?_
    · rw [Nat.pow_succ]; omega
    · rw [Nat.pow_succ]; omega
theorem blen_pos {x : Nat} : 0 < blen x ↔ 0 < x := by
  constructor
  · intro h
    rcases Nat.eq_zero_or_pos x with h0 | h0
    · subst h0; exact absurd h (by decide)
    · exact h0
  · intro h; rw [blen_step h]; omega
theorem blen_shift {k t l : Nat} (ht : 0 < t) (hl : l < 2 ^ k) : blen (l + 2 ^ k * t) = k + blen t := by
  obtain ⟨j, e, h1, h2⟩ := blen_bd ht
  rw [e, show k + (j + 1) = (k + j) + 1 from by omega]
  refine blen_eq ?_ ?_
  · rw [Nat.pow_add]
    exact Nat.le_trans (Nat.mul_le_mul_left _ h1) (Nat.le_add_left _ _)
  · rw [show k + j + 1 = k + (j + 1) from by omega, Nat.pow_add]
    have : 2 ^ k * (t + 1) ≤ 2 ^ k * 2 ^ (j + 1) := Nat.mul_le_mul_left _ h2
    rw [Nat.mul_add] at this
    omega
/-- The number of binary digits, by the highest digit in base 2^16. -/
theorem blen_top {x n t : Nat} (hn : (digs W16 x).length = n + 1) (ht : (digs W16 x).getD n 0 = t) : blen x = 16 * n + blen t := by
  have h1 := val_take_succ W16 (digs W16 x) n
  rw [val_take_all W16 _ (by omega), val_digs W16_gt, ht] at h1
  have h2 := val_take_lt (ok_digs W16_gt x) (j := n) (by omega)
  have ht0 : 0 < t := by
    rcases Nat.eq_zero_or_pos t with h | h
    · subst h
      have h3 := digs_ge W16_gt (n := x) (by intro h; subst h; rw [digs_zero] at hn; cases hn)
      rw [hn, Nat.add_sub_cancel] at h3
      omega
    · exact h
  have e : W16 ^ n = 2 ^ (16 * n) := by rw [Nat.pow_mul]; rfl
  rw [e] at h1 h2
  rw [h1]
  exact blen_shift ht0 h2
theorem blen_digs {x n : Nat} (h : (digs W16 x).length ≤ n) : blen x ≤ 16 * n := by
  refine blen_le (Nat.lt_of_lt_of_le (digs_lt W16_gt) ?_)
  rw [Nat.pow_mul]
  exact Nat.pow_le_pow_right (by decide) h

/-- One step of the division: the next bit comes in. -/
theorem div_bit {x y j b : Nat} (hy : 0 < y) (hb : x / 2 ^ j % 2 = b) : x / 2 ^ j = 2 * (x / 2 ^ (j + 1)) + b := by
  have e : x / 2 ^ (j + 1) = x / 2 ^ j / 2 := by rw [Nat.pow_succ, Nat.div_div_eq_div_mul]
  rw [e]; omega
theorem div_yes {X y r b X' : Nat} (hy : 0 < y) (hX : X' = 2 * X + b) (hb : b < 2) (hr : r = X % y) (h : y ≤ 2 * r + b) : X' % y = 2 * r + b - y ∧ X' / y = 2 * (X / y) + 1 := by
  have h0 := Nat.div_add_mod X y
  have h1 : r < y := by rw [hr]; exact Nat.mod_lt _ hy
  rw [← hr] at h0
  have e : X' = (2 * r + b - y) + y * (2 * (X / y) + 1) := by
    rw [hX, Nat.mul_add, Nat.mul_one, Nat.mul_left_comm]; omega
  rw [e]
  exact ⟨by rw [Nat.add_mul_mod_self_left, Nat.mod_eq_of_lt (by omega)], by rw [Nat.add_mul_div_left _ _ hy, Nat.div_eq_of_lt (by omega), Nat.zero_add]⟩
theorem div_no {X y r b X' : Nat} (hy : 0 < y) (hX : X' = 2 * X + b) (hb : b < 2) (hr : r = X % y) (h : 2 * r + b < y) : X' % y = 2 * r + b ∧ X' / y = 2 * (X / y) := by
  have h0 := Nat.div_add_mod X y
  rw [← hr] at h0
  have e : X' = (2 * r + b) + y * (2 * (X / y)) := by
    rw [hX, Nat.mul_left_comm]; omega
  rw [e]
  exact ⟨by rw [Nat.add_mul_mod_self_left, Nat.mod_eq_of_lt h], by rw [Nat.add_mul_div_left _ _ hy, Nat.div_eq_of_lt h, Nat.zero_add]⟩
/-- A digit whose low bits are 0. -/
theorem low_zero {out : List Nat} {j q d : Nat} (ho : Ok W16 out) (hv : val W16 out = 2 ^ (j + 1) * q) (hd : out.getD (j / 16) 0 = d) : ∃ e, d = e * 2 ^ (j % 16 + 1) := by
  have h1 := val_split W16 out (j / 16)
  rw [val_drop_step, hd] at h1
  have h2 := val_take_lt' (by decide) ho (j / 16)
  generalize val W16 (out.take (j / 16)) = V at h1 h2
  generalize val W16 (out.drop (j / 16 + 1)) = R at h1
  have e1 : 2 ^ (j + 1) = W16 ^ (j / 16) * 2 ^ (j % 16 + 1) := by
    rw [show W16 = 2 ^ 16 from rfl, ← Nat.pow_mul, ← Nat.pow_add]; congr 1; omega
  have hm : j % 16 < 16 := Nat.mod_lt _ (by omega)
  have e2 : W16 = 2 ^ (j % 16 + 1) * 2 ^ (15 - j % 16) := by
    rw [← Nat.pow_add, show j % 16 + 1 + (15 - j % 16) = 16 from by omega]; rfl
  rw [hv, e1, Nat.mul_assoc] at h1
  generalize W16 ^ (j / 16) = P at h1 h2
  have hP : 0 < P := by omega
  have h3 : (P * (2 ^ (j % 16 + 1) * q)) / P = (V + P * (d + W16 * R)) / P := by rw [h1]
  rw [Nat.mul_div_cancel_left _ hP, Nat.add_mul_div_left _ _ hP, Nat.div_eq_of_lt h2, Nat.zero_add, e2] at h3
  generalize 2 ^ (15 - j % 16) = T at h3
  generalize 2 ^ (j % 16 + 1) = U at *
  refine ⟨q - T * R, ?_⟩
  rw [Nat.sub_mul, Nat.mul_comm q U, Nat.mul_right_comm, Nat.mul_comm T U]
  omega
theorem or_bit {d s e : Nat} (hd : d = e * 2 ^ (s + 1)) : d ||| 2 ^ s = d + 2 ^ s := by
  rw [hd, ← Nat.shiftLeft_eq, ← Nat.shiftLeft_add_eq_or_of_lt (by rw [Nat.pow_succ]; have := Nat.pow_pos (n := s) (show 0 < 2 by omega); omega)]
theorem val_set {out : List Nat} {k d e : Nat} (hk : k < out.length) (hd : out.getD k 0 = d) : val W16 (out.set k (d + e)) = val W16 out + W16 ^ k * e := by
  have h1 := val_split W16 out (k + 1)
  have h2 := val_split W16 (out.set k (d + e)) (k + 1)
  rw [val_take_succ, take_set_lt _ _ _ _ (Nat.le_refl _), getD_set_self _ _ _ hk, List.drop_set_of_lt (by omega)] at h2
  rw [val_take_succ, hd] at h1
  rw [h1, h2, Nat.mul_add]; omega
theorem set_bit {out : List Nat} {j q d : Nat} (hk : j / 16 < out.length) (hv : val W16 out = 2 ^ (j + 1) * q) (hd : out.getD (j / 16) 0 = d) : val W16 (out.set (j / 16) (d + 2 ^ (j % 16))) = 2 ^ j * (2 * q + 1) := by
  rw [val_set hk hd, hv, show W16 = 2 ^ 16 from rfl, ← Nat.pow_mul, ← Nat.pow_add, show 16 * (j / 16) + j % 16 = j from by omega, Nat.pow_succ, Nat.mul_add, Nat.mul_one, Nat.mul_assoc]
theorem bit_lt16 {d s e : Nat} (hs : s < 16) (hd : d < 65536) (h : d = e * 2 ^ (s + 1)) : d + 2 ^ s < 65536 := by
  have h1 : (65536 : Nat) = 2 ^ (s + 1) * 2 ^ (15 - s) := by rw [← Nat.pow_add, show s + 1 + (15 - s) = 16 from by omega]
  have h2 : e < 2 ^ (15 - s) := by
    rcases Nat.lt_or_ge e (2 ^ (15 - s)) with h3 | h3
    · exact h3
    · have := Nat.mul_le_mul_left (2 ^ (s + 1)) h3
      rw [← h1, Nat.mul_comm, ← h] at this
      omega
  have h3 : (e + 1) * 2 ^ (s + 1) ≤ 2 ^ (15 - s) * 2 ^ (s + 1) := Nat.mul_le_mul_right _ h2
  rw [Nat.mul_comm (2 ^ (15 - s)), ← h1, Nat.add_mul, ← h, Nat.one_mul, Nat.pow_succ] at h3
  have := Nat.pow_pos (n := s) (show 0 < 2 by omega)
  omega
theorem or_i64 (a b : Nat) (ha : a < 4294967296) (hb : b < 4294967296) : bits .or .i64 (a : Int) (b : Int) = ((a ||| b : Nat) : Int) := by
  have hx : a ||| b < 2 ^ 63 := Nat.lt_trans (Nat.or_lt_two_pow (n := 32) (by omega) (by omega)) (by decide)
  show IntKind.i64.wrap ((BitVec.ofInt 64 (a : Int) ||| BitVec.ofInt 64 (b : Int)).toNat : Int) = _
  have e1 : (BitVec.ofInt 64 (a : Int)).toNat = a := by rw [BitVec.ofInt_natCast, BitVec.toNat_ofNat]; omega
  have e2 : (BitVec.ofInt 64 (b : Int)).toNat = b := by rw [BitVec.ofInt_natCast, BitVec.toNat_ofNat]; omega
  rw [BitVec.toNat_or, e1, e2, IntKind.wrap_i64]
  omega
end Go.Proofs.YtdhgbnnopekfjaaDoor
namespace Go.Proofs.YtdhgbnnopekfjaaDoor
open Go.RowKit NumB
set_option linter.unusedVariables false
set_option linter.unusedSimpArgs false

set_option maxRecDepth 100000 in
set_option maxHeartbeats 1600000 in
theorem rlen_any (x : Nat) (v : Value) (w : World) (h : Nat16 w v x) (hx : (digs W16 x).length ≤ 1000000) :
    Calls Tryd.prog 89 #[v] w fun e w' => e = .returned (.int .i64 (blen x : Int)) ∧ w = w' := by
  obtain ⟨A, c, rfl, hc, hm, hr⟩ := h
  unfold maxLen at hm
  have HT := Lib.hid (fun n t (hn : (digs W16 x).length = n + 1) (ht : (digs W16 x).getD n 0 = t) => blen_top hn ht)
  have HZ := Lib.hid (len_pos16 (x := x) rfl)
  have HO := Lib.hid (ok_digs W16_gt x)
  generalize digs W16 x = xs at *
  generalize hn : xs.length = n at *
  have HN := Lib.hid hn
  have HR := Lib.hid hr
  clear hn hr
  rcases Nat.eq_zero_or_pos n with h0 | h0
  · subst h0
    have HX0 : Hid (blen x = 0) := by
      have : ¬ 0 < x := fun h => absurd (HZ.out.2 h) (by omega)
      have e : x = 0 := by omega
      subst e; rfl
    have hb0 : decide ((0 : Int) < ((0 : Nat) : Int)) = false := rfl
    go_enter Tryd.func89, Tryd.ntmps89
    go_wp2
    go_ret
    rw [HX0.out]
    exact ⟨rfl, rfl⟩
  · obtain ⟨b, o, t, rfl, hb, hte, hcell⟩ := HR.out.at_ (i := n - 1) (by omega)
    have htb : t < 65536 := by rw [← hte]; exact HO.out.getD (by decide) _
    have HB : Hid (blen x = 16 * (n - 1) + blen t) := HT.out (n - 1) t (by omega) hte
    have hcast : ((n : Int) - 1) = ((n - 1 : Nat) : Int) := by omega
    have htl : blen t ≤ 16 := blen_le (by omega)
    generalize hn1 : n - 1 = n1 at *
    clear hte
    go_enter Tryd.func89, Tryd.ntmps89
    go_wp2
    go_loop [3, 4] (fun s3 s4 => ∃ (u : Nat) (r : Nat), s4 = .int .i64 (r : Int) ∧ s3 = .int .i64 (u : Int) ∧ r < 65536 ∧ Hid (u + blen r = blen x) ∧ u ≤ 16 * n1 + 16) (fun _ s4 => (intOf s4).toNat)
    case atStart => exact ⟨16 * n1, t, rfl, by go_num, htb, by unfold Hid; rw [HB.out], by omega⟩
    case round =>
      obtain ⟨u, r, rfl, rfl, hrb, HU, hu⟩ := hrel
      by_cases hr0 : 0 < r
      · have hst := blen_step hr0
        have HS := Lib.hid hst
        clear hst
        go_wp2
        go_round
        case rel => exact ⟨u + 1, r / 2, by go_num, by go_num, by omega, by have := HU.out; have := HS.out; unfold Hid; omega, by have := HU.out; have := HS.out; have := HB.out; omega⟩
        case measure => simp [intOf]; omega
      · obtain rfl : r = 0 := by omega
        go_wp2
        go_ret
        have := HU.out
        rw [blen_zero, Nat.add_zero] at this
        rw [← this]
        exact ⟨rfl, rfl⟩
end Go.Proofs.YtdhgbnnopekfjaaDoor
namespace Go.Proofs.YtdhgbnnopekfjaaDoor
open Go.RowKit NumB
set_option linter.unusedVariables false
set_option linter.unusedSimpArgs false

theorem radd_step {xs ys out : List Nat} {j ca p q s : Nat} (hl : out.length = j) (hp : xs.getD j 0 = p) (hq : ys.getD j 0 = q) (hs : s = p + q + ca)
    (he : val W16 out + W16 ^ j * ca = val W16 (xs.take j) + val W16 (ys.take j)) :
    val W16 (out ++ [s % 65536]) + W16 ^ (j + 1) * (s / 65536) = val W16 (xs.take (j + 1)) + val W16 (ys.take (j + 1)) := by
  rw [val_take_succ, val_take_succ, val_snoc, hl, hp, hq, Nat.pow_succ, Nat.mul_assoc]
  have h0 : s % 65536 + 65536 * (s / 65536) = s := Nat.mod_add_div s 65536
  have h1 : W16 ^ j * (s % 65536) + W16 ^ j * (W16 * (s / 65536)) = W16 ^ j * p + W16 ^ j * q + W16 ^ j * ca := by
    rw [← Nat.mul_add, show W16 * (s / 65536) = 65536 * (s / 65536) from rfl, h0, hs, Nat.mul_add, Nat.mul_add]
  omega

set_option maxRecDepth 100000 in
set_option maxHeartbeats 3200000 in
theorem radd_any (x y : Nat) (va vb : Value) (w : World) (ha : Nat16 w va x) (hb : Nat16 w vb y) (hx : (digs W16 x).length ≤ 100000) (hy : (digs W16 y).length ≤ 100000) :
    Calls Tryd.prog 67 #[va, vb] w (RPost w (x + y)) := by
  have HA0 := Lib.hid ha
  have HB0 := Lib.hid hb
  obtain ⟨A, cpa, rfl, hca, hma, hra⟩ := ha
  obtain ⟨A', cpb, rfl, hcb, hmb, hrb⟩ := hb
  have HX := Lib.hid (And.intro (And.intro (val_digs W16_gt x) (val_digs W16_gt y)) (And.intro (ok_digs W16_gt x) (ok_digs W16_gt y)))
  unfold maxLen at hma hmb
  unfold Nat16 at HA0 HB0
  generalize digs W16 x = xs at *
  generalize digs W16 y = ys at *
  generalize hn : xs.length = n at *
  generalize hm : ys.length = m at *
  have HL := Lib.hid (And.intro hn hm)
  clear hra hrb hm hn
  obtain ⟨M, hM1, hM2, hM3⟩ : ∃ M : Nat, n ≤ M ∧ m ≤ M ∧ (M = n ∨ M = m) := ⟨max n m, by omega, by omega, by omega⟩
  have hM4 : M ≤ 100000 := by omega
  go_enter Tryd.func67, Tryd.ntmps67
  go_wp2
  go_loopg [5, 6, 7, 8] (M + 2) (fun gk so sc si s8 wr => ∃ (j ca : Nat) (out : List Nat), gk + j = M + 2 ∧ j ≤ M + 1 ∧ (j = M + 1 → ca = 0) ∧ si = .int .i64 (j : Int) ∧ sc = .int .i64 (ca : Int) ∧ ca ≤ 1 ∧ Hid (OwnV .i64 3 wr w.heap.size so out) ∧ Hid (out.length = j ∧ Ok W16 out) ∧ Hid (val W16 out + W16 ^ j * ca = val W16 (xs.take j) + val W16 (ys.take j)) ∧ Hid (Below w.heap.size w wr))
  case atStart => exact ⟨0, 0, [], by omega, by omega, fun _ => rfl, rfl, rfl, by omega, OwnV.nil_ _, ⟨rfl, Ok.nil⟩, by unfold Hid; simp, Below.refl _ _⟩
  case round =>
    obtain ⟨j, ca, out, hgj, hjM, hjc, rfl, rfl, hca1, HS, HV, HE, HB⟩ := hrel
    by_cases hex : n ≤ j ∧ m ≤ j ∧ ca = 0
    · obtain ⟨hj1, hj2, rfl⟩ := hex
      have hn1 : ¬ (j < n) := by omega
      have hn2 : ¬ (j < m) := by omega
      clear hjc
      go_wp2_with (go_at_call 79; refine (rtrim_any out _ _ HS.out.sl HV.out.2).mono ?_; rintro e w' ⟨v', rfl, hn', rfl⟩)
      go_ret
      have he := HE.out
      rw [Nat.mul_zero, Nat.add_zero, val_take_all W16 xs (by rw [HL.out.1]; exact hj1), val_take_all W16 ys (by rw [HL.out.2]; exact hj2), HX.out.1.1, HX.out.1.2] at he
      rw [he] at hn'
      exact ⟨_, rfl, hn', HB.out⟩
    · have hjM2 : j ≤ M := by
        rcases Nat.lt_or_ge M j with h | h
        · exact absurd ⟨by omega, by omega, hjc (by omega)⟩ hex
        · exact h
      have hcase : j < n ∨ (n ≤ j ∧ j < m) ∨ (n ≤ j ∧ m ≤ j ∧ 0 < ca) := by
        rcases Nat.lt_or_ge j n with h | h
        · exact .inl h
        · rcases Nat.lt_or_ge j m with h' | h'
          · exact .inr (.inl ⟨h, h'⟩)
          · exact .inr (.inr ⟨h, h', Nat.pos_of_ne_zero fun h0 => hex ⟨h, h', h0⟩⟩)
      obtain ⟨p, hpe⟩ : ∃ p, xs.getD j 0 = p := ⟨_, rfl⟩
      obtain ⟨q, hqe⟩ : ∃ q, ys.getD j 0 = q := ⟨_, rfl⟩
      have hpb : p < 65536 := by rw [← hpe]; exact HX.out.2.1.getD (by decide) _
      have hqb : q < 65536 := by rw [← hqe]; exact HX.out.2.2.getD (by decide) _
      have HP := Lib.hid hpe
      have HQ := Lib.hid hqe
      have HPQ0 : Hid (n ≤ j → m ≤ j → p = 0 ∧ q = 0) := fun h h' => ⟨by rw [← hpe]; exact getD_ge (by rw [HL.out.1]; exact h), by rw [← hqe]; exact getD_ge (by rw [HL.out.2]; exact h')⟩
      clear hpe hqe hex hjc
      obtain ⟨s, hs⟩ : ∃ s : Nat, s = p + q + ca := ⟨_, rfl⟩
      have HSS := Lib.hid hs
      have hsi : (p : Int) + (q : Int) + (ca : Int) = (s : Int) := by omega
      have hsb : s ≤ 131071 := by omega
      have HSA : Hid (Sl .i64 wr (.slice A n cpa) xs) := HA0.out.to HB.out
      have HSB : Hid (Sl .i64 wr (.slice A' m cpb) ys) := HB0.out.to HB.out
      have HLEN : Hid (out.length + [s % 65536].length ≤ 1000000) := by have := HV.out.1; unfold Hid; simp; omega
      clear hs
      obtain ⟨lo, hlo⟩ : ∃ lo : Nat, lo = s % 65536 := ⟨_, rfl⟩
      obtain ⟨hi, hhi⟩ : ∃ hi : Nat, hi = s / 65536 := ⟨_, rfl⟩
      have hloi : (s : Int) % 65536 = (lo : Int) := by omega
      have hhii : (s : Int) / 65536 = (hi : Int) := by omega
      have hlob : lo < 65536 := by omega
      have hhib : hi ≤ 1 := by omega
      rw [← hlo] at HLEN
      have HLO := Lib.hid (And.intro hlo hhi)
      clear hlo hhi
      rcases hcase with hlt | ⟨hn1, hlt⟩ | ⟨hn1, hn2, hc0⟩
      all_goals
        go_wp2_with fail
        refine (rdigit_eq xs _ j p _ (by exact HSA.out) (by omega) HP.out).mono ?_
        rintro e w1 ⟨rfl, rfl⟩
        go_wp2_with fail
        refine (rdigit_eq ys _ j q _ (by exact HSB.out) (by omega) HQ.out).mono ?_
        rintro e w1 ⟨rfl, rfl⟩
        go_wp2_with (at_builtin; go_must (refine wpList_push wr rfl _ _ 36 rfl .i64 3 8 Tryd.underlying36 info_i64 (by decide) w.heap.size _ out [lo] (by rfl) (by rfl) HS.out HLEN.out HB.out.size _ rfl ?_); intro v1 w1 hown1 hb1)
        go_roundg (gk - 1)
        case measure => omega
        case rel =>
          obtain ⟨e1, e2⟩ := HV.out
          obtain ⟨f1, f2⟩ := HLO.out
          refine ⟨j + 1, hi, out ++ [lo], by omega, by omega, ?_, by go_num, rfl, hhib, hown1, ⟨by simp; omega, e2.append (Ok.cons hlob Ok.nil)⟩, ?_, HB.out.trans hb1⟩
          · intro hj1
            have h1 := HPQ0.out (by omega) (by omega)
            have h2 := HSS.out
            omega
          · rw [f1, f2]; exact radd_step e1 HP.out HQ.out HSS.out HE.out
end Go.Proofs.YtdhgbnnopekfjaaDoor

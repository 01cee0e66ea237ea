/- The canonical number of an integer: more plain facts. Binary digits of naturals, and division bit by bit: plain mathematics. nat.Len. Conditions: at most 1000000 limbs. The integer root: plain facts. No program. Quotients, rounded: plain facts. No program. -/
import Derived.Test.YtdfcpkjphdepcaaDoorShelf
import Derived.Test.YtdfcpkjphdepcaaDoorJo2
import Derived.Test.YtdfcpkjphdepcaaDoorJo9
import Derived.Test.YtdfcpkjphdepcaaDoorJo25
set_option linter.unusedVariables false
set_option linter.unusedSimpArgs false
namespace Go.Proofs.YtdfcpkjphdepcaaDoor
open Go.RowKit NumB
set_option linter.unusedVariables false
set_option linter.unusedSimpArgs false

theorem intL_rat (s : Bool) (k : Nat) : (intL s k).q = ((RatB.sg s k : Int) : Rat) := by
  unfold LN.q RatB.q
  rw [intL_x, intL_y, Rat.mkRat_one]
  show ((RatB.sg (s && decide (0 < k)) k : Int) : Rat) = _
  rw [RatB.sg_and]
/-- A valid integer is the canonical number of it. -/
theorem LN.as_int {a : LN} (ho : a.ok) (he : a.err = 0) (hy : a.y = 1) : a = intL a.neg a.x ∧ fitB a.x 1 = true ∧ (a.x = 0 → a.neg = false) := by
  obtain ⟨h1, h2, h3, h4, h5⟩ := LN.good ho he
  refine ⟨?_, decide_eq_true ⟨by rw [h1]; exact h3, by rw [digs_one32]; decide⟩, h5.2.2⟩
  have hn : (a.neg && decide (0 < a.x)) = a.neg := by
    rcases Nat.eq_zero_or_pos a.x with h | h
    · rw [h5.2.2 h]; rfl
    · simp [h]
  unfold intL
  rw [hn, h1, ← hy, h2]
theorem fit_le {x y : Nat} (h : fitB x 1 = true) (hl : y ≤ x) : fitB y 1 = true := by
  have := of_decide_eq_true (show decide _ = true from h)
  exact decide_eq_true ⟨Nat.le_trans (digs_len_mono W32_gt hl) this.1, this.2⟩
theorem fit_len {x : Nat} : fitB x 1 = true ↔ (digs W32 x).length ≤ 128 := by
  constructor
  · intro h; exact (of_decide_eq_true (show decide _ = true from h)).1
  · intro h; exact decide_eq_true ⟨h, by rw [digs_one32]; decide⟩
theorem opS_int {s : Bool} {k : Nat} (h : fitB k 1 = true) : opS 0 (s && decide (0 < k)) k 1 = (intL s k, 0) := by
  unfold opS
  rw [if_pos rfl, h, if_pos rfl]; rfl
theorem intL_neg {s : Bool} {k : Nat} (h : k = 0 → s = false) : (intL s k).neg = s := by
  show (s && decide (0 < k)) = s
  rcases Nat.eq_zero_or_pos k with h0 | h0
  · rw [h h0]; rfl
  · simp [h0]
theorem intL_eq {s t : Bool} {k : Nat} (h : 0 < k → s = t) : intL s k = intL t k := by
  unfold intL
  rcases Nat.eq_zero_or_pos k with h0 | h0
  · subst h0; simp
  · rw [h h0]
theorem bx_zero {b : LN} (hb : b.ok) (he : b.err = 0) : b.num.length = 0 ↔ b.x = 0 := by
  obtain ⟨h1, _⟩ := LN.good hb he
  rw [← h1]
  have := len_pos32 (x := b.x) (n := (digs W32 b.x).length) rfl
  omega
end Go.Proofs.YtdfcpkjphdepcaaDoor
namespace Go.Proofs.YtdfcpkjphdepcaaDoor
open Go.RowKit NumB
set_option linter.unusedVariables false
set_option linter.unusedSimpArgs false

/-- The number of binary digits. -/
def blen (x : Nat) : Nat := if x = 0 then 0 else Nat.log2 x + 1
theorem blen_zero : blen 0 = 0 := rfl
theorem blen_eq {x k : Nat} (h1 : 2 ^ k ≤ x) (h2 : x < 2 ^ (k + 1)) : blen x = k + 1 := by
  have hx : x ≠ 0 := by have := Nat.pow_pos (n := k) (show 0 < 2 by omega); omega
  unfold blen
  rw [if_neg hx, (Nat.log2_eq_iff hx).2 ⟨h1, h2⟩]
theorem blen_bd {x : Nat} (hx : 0 < x) : ∃ k, blen x = k + 1 ∧ 2 ^ k ≤ x ∧ x < 2 ^ (k + 1) :=
  ⟨Nat.log2 x, by unfold blen; rw [if_neg (by omega)], (Nat.log2_eq_iff (by omega)).1 rfl⟩
theorem blen_lt (x : Nat) : x < 2 ^ blen x := by
  rcases Nat.eq_zero_or_pos x with h | h
  · subst h; exact Nat.pow_pos (by omega)
  · obtain ⟨k, e, _, h2⟩ := blen_bd h
    rw [e]; exact h2
theorem blen_le {x k : Nat} (h : x < 2 ^ k) : blen x ≤ k := by
  rcases Nat.eq_zero_or_pos x with h0 | h0
  · subst h0; exact Nat.zero_le _
  · obtain ⟨j, e, h1, _⟩ := blen_bd h0
    rw [e]
    have : 2 ^ j < 2 ^ k := Nat.lt_of_le_of_lt h1 h
    exact (Nat.pow_lt_pow_iff_right (by omega)).1 this
theorem blen_gt {x k : Nat} (h : 2 ^ k ≤ x) : k < blen x := by
  rcases Nat.lt_or_ge k (blen x) with h1 | h1
  · exact h1
  · have := Nat.lt_of_lt_of_le (blen_lt x) (Nat.pow_le_pow_right (by omega) h1)
    omega
theorem blen_step {x : Nat} (hx : 0 < x) : blen x = blen (x / 2) + 1 := by
  rcases Nat.lt_or_ge x 2 with h | h
  · obtain rfl : x = 1 := by omega
    rfl
  · obtain ⟨k, e, h1, h2⟩ := blen_bd (x := x / 2) (by omega)
    rw [e]
    refine blen_eq ?_ ?_
    · rw [Nat.pow_succ]; omega
    · rw [Nat.pow_succ]; omega
theorem blen_pos {x : Nat} : 0 < blen x ↔ 0 < x := by
  constructor
  · intro h
    rcases Nat.eq_zero_or_pos x with h0 | h0
    · subst h0; exact absurd h (by decide)
    · exact h0
  · intro h; rw [blen_step h]; omega
theorem blen_shift {k t l : Nat} (ht : 0 < t) (hl : l < 2 ^ k) : blen (l + 2 ^ k * t) = k + blen t := by
  obtain ⟨j, e, h1, h2⟩ := blen_bd ht
  rw [e, show k + (j + 1) = (k + j) + 1 from by omega]
  refine blen_eq ?_ ?_
  · rw [Nat.pow_add]
    exact Nat.le_trans (Nat.mul_le_mul_left _ h1) (Nat.le_add_left _ _)
  · rw [show k + j + 1 = k + (j + 1) from by omega, Nat.pow_add]
    have : 2 ^ k * (t + 1) ≤ 2 ^ k * 2 ^ (j + 1) := Nat.mul_le_mul_left _ h2
    rw [Nat.mul_add] at this
    omega
/-- The number of binary digits, by the highest digit in base 2^16. -/
theorem blen_top {x n t : Nat} (hn : (digs W16 x).length = n + 1) (ht : (digs W16 x).getD n 0 = t) : blen x = 16 * n + blen t := by
  have h1 := val_take_succ W16 (digs W16 x) n
  rw [val_take_all W16 _ (by omega), val_digs W16_gt, ht] at h1
  have h2 := val_take_lt (ok_digs W16_gt x) (j := n) (by omega)
  have ht0 : 0 < t := by
    rcases Nat.eq_zero_or_pos t with h | h
    · subst h
      have h3 := digs_ge W16_gt (n := x) (by intro h; subst h; rw [digs_zero] at hn; cases hn)
      rw [hn, Nat.add_sub_cancel] at h3
      omega
    · exact h
  have e : W16 ^ n = 2 ^ (16 * n) := by rw [Nat.pow_mul]; rfl
  rw [e] at h1 h2
  rw [h1]
  exact blen_shift ht0 h2
theorem blen_digs {x n : Nat} (h : (digs W16 x).length ≤ n) : blen x ≤ 16 * n := by
  refine blen_le (Nat.lt_of_lt_of_le (digs_lt W16_gt) ?_)
  rw [Nat.pow_mul]
  exact Nat.pow_le_pow_right (by decide) h

/-- One step of the division: the next bit comes in. -/
theorem div_bit {x y j b : Nat} (hy : 0 < y) (hb : x / 2 ^ j % 2 = b) : x / 2 ^ j = 2 * (x / 2 ^ (j + 1)) + b := by
  have e : x / 2 ^ (j + 1) = x / 2 ^ j / 2 := by rw [Nat.pow_succ, Nat.div_div_eq_div_mul]
  rw [e]; omega
theorem div_yes {X y r b X' : Nat} (hy : 0 < y) (hX : X' = 2 * X + b) (hb : b < 2) (hr : r = X % y) (h : y ≤ 2 * r + b) : X' % y = 2 * r + b - y ∧ X' / y = 2 * (X / y) + 1 := by
  have h0 := Nat.div_add_mod X y
  have h1 : r < y := by rw [hr]; exact Nat.mod_lt _ hy
  rw [← hr] at h0
  have e : X' = (2 * r + b - y) + y * (2 * (X / y) + 1) := by
    rw [hX, Nat.mul_add, Nat.mul_one, Nat.mul_left_comm]; omega
  rw [e]
  exact ⟨by rw [Nat.add_mul_mod_self_left, Nat.mod_eq_of_lt (by omega)], by rw [Nat.add_mul_div_left _ _ hy, Nat.div_eq_of_lt (by omega), Nat.zero_add]⟩
theorem div_no {X y r b X' : Nat} (hy : 0 < y) (hX : X' = 2 * X + b) (hb : b < 2) (hr : r = X % y) (h : 2 * r + b < y) : X' % y = 2 * r + b ∧ X' / y = 2 * (X / y) := by
  have h0 := Nat.div_add_mod X y
  rw [← hr] at h0
  have e : X' = (2 * r + b) + y * (2 * (X / y)) := by
    rw [hX, Nat.mul_left_comm]; omega
  rw [e]
  exact ⟨by rw [Nat.add_mul_mod_self_left, Nat.mod_eq_of_lt h], by rw [Nat.add_mul_div_left _ _ hy, Nat.div_eq_of_lt h, Nat.zero_add]⟩
/-- A digit whose low bits are 0. -/
theorem low_zero {out : List Nat} {j q d : Nat} (ho : Ok W16 out) (hv : val W16 out = 2 ^ (j + 1) * q) (hd : out.getD (j / 16) 0 = d) : ∃ e, d = e * 2 ^ (j % 16 + 1) := by
  have h1 := val_split W16 out (j / 16)
  rw [val_drop_step, hd] at h1
  have h2 := val_take_lt' (by decide) ho (j / 16)
  generalize val W16 (out.take (j / 16)) = V at h1 h2
  generalize val W16 (out.drop (j / 16 + 1)) = R at h1
  have e1 : 2 ^ (j + 1) = W16 ^ (j / 16) * 2 ^ (j % 16 + 1) := by
    rw [show W16 = 2 ^ 16 from rfl, ← Nat.pow_mul, ← Nat.pow_add]; congr 1; omega
  have hm : j % 16 < 16 := Nat.mod_lt _ (by omega)
  have e2 : W16 = 2 ^ (j % 16 + 1) * 2 ^ (15 - j % 16) := by
    rw [← Nat.pow_add, show j % 16 + 1 + (15 - j % 16) = 16 from by omega]; rfl
  rw [hv, e1, Nat.mul_assoc] at h1
  generalize W16 ^ (j / 16) = P at h1 h2
  have hP : 0 < P := by omega
  have h3 : (P * (2 ^ (j % 16 + 1) * q)) / P = (V + P * (d + W16 * R)) / P := by rw [h1]
  rw [Nat.mul_div_cancel_left _ hP, Nat.add_mul_div_left _ _ hP, Nat.div_eq_of_lt h2, Nat.zero_add, e2] at h3
  generalize 2 ^ (15 - j % 16) = T at h3
  generalize 2 ^ (j % 16 + 1) = U at *
  refine ⟨q - T * R, ?_⟩
  rw [Nat.sub_mul, Nat.mul_comm q U, Nat.mul_right_comm, Nat.mul_comm T U]
  omega
theorem or_bit {d s e : Nat} (hd : d = e * 2 ^ (s + 1)) : d ||| 2 ^ s = d + 2 ^ s := by
  rw [hd, ← Nat.shiftLeft_eq, ← Nat.shiftLeft_add_eq_or_of_lt (by rw [Nat.pow_succ]; have := Nat.pow_pos (n := s) (show 0 < 2 by omega); omega)]
theorem val_set {out : List Nat} {k d e : Nat} (hk : k < out.length) (hd : out.getD k 0 = d) : val W16 (out.set k (d + e)) = val W16 out + W16 ^ k * e := by
  have h1 := val_split W16 out (k + 1)
  have h2 := val_split W16 (out.set k (d + e)) (k + 1)
  rw [val_take_succ, take_set_lt _ _ _ _ (Nat.le_refl _), getD_set_self _ _ _ hk, List.drop_set_of_lt (by omega)] at h2
  rw [val_take_succ, hd] at h1
  rw [h1, h2, Nat.mul_add]; omega
theorem set_bit {out : List Nat} {j q d : Nat} (hk : j / 16 < out.length) (hv : val W16 out = 2 ^ (j + 1) * q) (hd : out.getD (j / 16) 0 = d) : val W16 (out.set (j / 16) (d + 2 ^ (j % 16))) = 2 ^ j * (2 * q + 1) := by
  rw [val_set hk hd, hv, show W16 = 2 ^ 16 from rfl, ← Nat.pow_mul, ← Nat.pow_add, show 16 * (j / 16) + j % 16 = j from by omega, Nat.pow_succ, Nat.mul_add, Nat.mul_one, Nat.mul_assoc]
theorem bit_lt16 {d s e : Nat} (hs : s < 16) (hd : d < 65536) (h : d = e * 2 ^ (s + 1)) : d + 2 ^ s < 65536 := by
  have h1 : (65536 : Nat) = 2 ^ (s + 1) * 2 ^ (15 - s) := by rw [← Nat.pow_add, show s + 1 + (15 - s) = 16 from by omega]
  have h2 : e < 2 ^ (15 - s) := by
    rcases Nat.lt_or_ge e (2 ^ (15 - s)) with h3 | h3
    · exact h3
    · have := Nat.mul_le_mul_left (2 ^ (s + 1)) h3
      rw [← h1, Nat.mul_comm, ← h] at this
      omega
  have h3 : (e + 1) * 2 ^ (s + 1) ≤ 2 ^ (15 - s) * 2 ^ (s + 1) := Nat.mul_le_mul_right _ h2
  rw [Nat.mul_comm (2 ^ (15 - s)), ← h1, Nat.add_mul, ← h, Nat.one_mul, Nat.pow_succ] at h3
  have := Nat.pow_pos (n := s) (show 0 < 2 by omega)
  omega
theorem or_i64 (a b : Nat) (ha : a < 4294967296) (hb : b < 4294967296) : bits .or .i64 (a : Int) (b : Int) = ((a ||| b : Nat) : Int) := by
  have hx : a ||| b < 2 ^ 63 := Nat.lt_trans (Nat.or_lt_two_pow (n := 32) (by omega) (by omega)) (by decide)
  show IntKind.i64.wrap ((BitVec.ofInt 64 (a : Int) ||| BitVec.ofInt 64 (b : Int)).toNat : Int) = _
  have e1 : (BitVec.ofInt 64 (a : Int)).toNat = a := by rw [BitVec.ofInt_natCast, BitVec.toNat_ofNat]; omega
  have e2 : (BitVec.ofInt 64 (b : Int)).toNat = b := by rw [BitVec.ofInt_natCast, BitVec.toNat_ofNat]; omega
  rw [BitVec.toNat_or, e1, e2, IntKind.wrap_i64]
  omega
end Go.Proofs.YtdfcpkjphdepcaaDoor
namespace Go.Proofs.YtdfcpkjphdepcaaDoor
open Go.RowKit NumB
set_option linter.unusedVariables false
set_option linter.unusedSimpArgs false

theorem bitLenAux_eq : ∀ (f x : Nat), x < 2 ^ f → Lib.bitLenAux f x = blen x
  | 0, x, h => by
    have : x = 0 := by simpa using h
    subst this; rfl
  | f + 1, x, h => by
    unfold Lib.bitLenAux
    rcases Nat.eq_zero_or_pos x with h0 | h0
    · subst h0; rfl
    · rw [if_neg (by omega), bitLenAux_eq f (x / 2) (by rw [Nat.pow_succ] at h; omega), blen_step h0]; omega
theorem bitLen_eq {x : Nat} (h : x < 18446744073709551616) : Lib.bitLen x = blen x := bitLenAux_eq 64 x h
theorem blen_top32 {x n t : Nat} (hn : (digs W32 x).length = n + 1) (ht : (digs W32 x).getD n 0 = t) : blen x = 32 * n + blen t := by
  have h1 := val_take_succ W32 (digs W32 x) n
  rw [val_take_all W32 _ (by omega), val_digs W32_gt, ht] at h1
  have h2 := val_take_lt (ok_digs W32_gt x) (j := n) (by omega)
  have ht0 : 0 < t := by
    rcases Nat.eq_zero_or_pos t with h | h
    · subst h
      have h3 := digs_ge W32_gt (n := x) (by intro h; subst h; rw [digs_zero] at hn; cases hn)
      rw [hn, Nat.add_sub_cancel] at h3
      omega
    · exact h
  have e : W32 ^ n = 2 ^ (32 * n) := by rw [Nat.pow_mul]; rfl
  rw [e] at h1 h2
  rw [h1]
  exact blen_shift ht0 h2

theorem blen_digs32 {x n : Nat} (h : (digs W32 x).length ≤ n) : blen x ≤ 32 * n := by
  refine blen_le (Nat.lt_of_lt_of_le (digs_lt W32_gt) ?_)
  rw [Nat.pow_mul]
  exact Nat.pow_le_pow_right (by decide) h
theorem pow_lenG {k m : Nat} (h : k < 32 * m) : (digs W32 (2 ^ k)).length ≤ m := by
  refine digs_len_le (k := m) W32_gt ?_
  have e : W32 ^ m = 2 ^ (32 * m) := by rw [Nat.pow_mul]; rfl
  rw [e]
  exact Nat.pow_lt_pow_right (by decide) h
theorem pow_len32 {k : Nat} (h : k ≤ 3000) : (digs W32 (2 ^ k)).length ≤ 200 := pow_lenG (by omega)

set_option maxRecDepth 100000 in
set_option maxHeartbeats 1600000 in
theorem len_any (x : Nat) (v : Value) (w : World) (h : Nat32 w v x) (hx : (digs W32 x).length ≤ 1000000) :
    Calls Tryd.prog 72 #[v] w fun e w' => e = .returned (.int .i64 (blen x : Int)) ∧ w' = w := by
  obtain ⟨A, c, rfl, hc, hm, hr⟩ := h
  unfold maxLen at hm
  have HT := Lib.hid (fun n t (hn : (digs W32 x).length = n + 1) (ht : (digs W32 x).getD n 0 = t) => blen_top32 hn ht)
  have HZ := Lib.hid (len_pos32 (x := x) rfl)
  have HO := Lib.hid (ok_digs W32_gt x)
  generalize digs W32 x = xs at *
  generalize hn : xs.length = n at *
  have HN := Lib.hid hn
  have HR := Lib.hid hr
  clear hn hr
  rcases Nat.eq_zero_or_pos n with h0 | h0
  · subst h0
    have HX0 : Hid (blen x = 0) := by
      have : ¬ 0 < x := fun h => absurd (HZ.out.2 h) (by omega)
      have e : x = 0 := by omega
      subst e; rfl
    go_enter Tryd.func72, Tryd.ntmps72
    go_wp2
    go_ret
    rw [HX0.out]
    exact ⟨rfl, rfl⟩
  · obtain ⟨b, o, t, rfl, hb, hte, hcell⟩ := HR.out.at_ (i := n - 1) (by omega)
    have htb : t < 4294967296 := by rw [← hte]; exact HO.out.getD (by decide) _
    have HB : Hid (blen x = 32 * (n - 1) + blen t) := HT.out (n - 1) t (by omega) hte
    have hn0 : ((n : Int) == 0) = false := beq_eq_false_iff_ne.2 (by omega)
    have htl : blen t ≤ 32 := blen_le (by omega)
    have HC : Hid (∀ W : World, Calls Tryd.prog 82 #[.int .u32 (t : Int)] W fun e w' => e = .returned (.int .i64 (blen t : Int)) ∧ w' = W) := fun W => by
      have := Tryd.bits_Len32 (t : Int) W (by omega) (by omega)
      rw [Int.toNat_natCast, bitLen_eq (by omega)] at this
      exact this
    obtain ⟨l, hl⟩ : ∃ l, blen t = l := ⟨_, rfl⟩
    rw [hl] at HB HC htl
    have hix : ((n : Int) - 1).toNat = n - 1 := by omega
    clear hte hl
    go_enter Tryd.func72, Tryd.ntmps72
    go_wp2_with fail
    refine (HC.out _).mono ?_
    rintro e w1 ⟨rfl, rfl⟩
    go_wp2
    go_ret
    have := HB.out
    have e1 : (32 * ((n : Int) - 1) + (l : Int)) = ((blen x : Nat) : Int) := by omega
    rw [← e1]
    exact ⟨rfl, rfl⟩
end Go.Proofs.YtdfcpkjphdepcaaDoor
namespace Go.Proofs.YtdfcpkjphdepcaaDoor
open NumB
set_option linter.unusedVariables false
set_option linter.unusedSimpArgs false

/-- r is the integer root of x. -/
def IsRt (x r : Nat) : Prop := r * r ≤ x ∧ x < (r + 1) * (r + 1)
theorem sq_le {a b : Nat} (h : a ≤ b) : a * a ≤ b * b := Nat.mul_le_mul h h
theorem IsRt.le {x r s : Nat} (h : IsRt x r) (hs : s * s ≤ x) : s ≤ r := by
  rcases Nat.lt_or_ge r s with h1 | h1
  · have := sq_le (show r + 1 ≤ s from h1)
    have := h.2
    omega
  · exact h1
theorem IsRt.unique {x r s : Nat} (h1 : IsRt x r) (h2 : IsRt x s) : r = s := Nat.le_antisymm (h2.le h1.1) (h1.le h2.1)
theorem rt_exists : ∀ x : Nat, ∃ r, IsRt x r
  | 0 => ⟨0, by unfold IsRt; omega⟩
  | x + 1 => by
    obtain ⟨r, h1, h2⟩ := rt_exists x
    by_cases h : x + 1 < (r + 1) * (r + 1)
    · exact ⟨r, by omega, h⟩
    · refine ⟨r + 1, by omega, ?_⟩
      have : (r + 1 + 1) * (r + 1 + 1) = (r + 1) * (r + 1) + 2 * (r + 1) + 1 := by
        rw [Nat.add_mul, Nat.mul_add]; omega
      omega
noncomputable def isqrt (x : Nat) : Nat := Classical.choose (rt_exists x)
theorem isqrt_spec (x : Nat) : IsRt x (isqrt x) := Classical.choose_spec (rt_exists x)
theorem isqrt_eq {x r : Nat} (h : IsRt x r) : isqrt x = r := (isqrt_spec x).unique h
theorem isqrt_le (x : Nat) : isqrt x ≤ x := by
  have h := (isqrt_spec x).1
  rcases Nat.eq_zero_or_pos (isqrt x) with h0 | h0
  · omega
  · exact Nat.le_trans (Nat.le_mul_of_pos_left _ h0) h
theorem isqrt_pos {x : Nat} (h : 0 < x) : 0 < isqrt x := by
  rcases Nat.eq_zero_or_pos (isqrt x) with h0 | h0
  · have := (isqrt_spec x).2; rw [h0] at this; omega
  · exact h0
/-- One step of Newton's method stays at or above the root. -/
theorem newton_ge {a x r : Nat} (hx : 0 < x) (h : IsRt a r) : r ≤ (x + a / x) / 2 := by
  have key : 2 * r ≤ x + a / x := by
    rcases Nat.lt_or_ge (x + a / x) (2 * r) with h1 | h1
    · exfalso
      have h2 : a < x * (a / x + 1) := Nat.lt_mul_div_succ a hx
      obtain ⟨q, hq⟩ : ∃ q, a / x = q := ⟨_, rfl⟩
      rw [hq] at h1 h2
      have h3 : q + 1 ≤ 2 * r - x := by omega
      have h4 : a < x * (2 * r - x) := Nat.lt_of_lt_of_le h2 (Nat.mul_le_mul_left _ h3)
      have h5 : x * (2 * r - x) ≤ r * r := by
        obtain ⟨d, hd⟩ : ∃ d, 2 * r = x + d := ⟨2 * r - x, by omega⟩
        rw [show 2 * r - x = d by omega]
        have h6 : (x + d) * (x + d) = 4 * (r * r) := by rw [← hd, Nat.mul_mul_mul_comm]
        have h7 : 4 * (x * d) ≤ (x + d) * (x + d) := by
          have e : (x + d) * (x + d) = x * x + d * d + 2 * (x * d) := by rw [Nat.add_mul, Nat.mul_add, Nat.mul_add, Nat.mul_comm d x]; omega
          rw [e]
          rcases Nat.le_total x d with hle | hle
          · obtain ⟨c, rfl⟩ := Nat.exists_eq_add_of_le hle
            have e1 : (x + c) * (x + c) = x * x + 2 * (x * c) + c * c := by rw [Nat.add_mul, Nat.mul_add, Nat.mul_add, Nat.mul_comm c x]; omega
            rw [e1, Nat.mul_add]; omega
          · obtain ⟨c, rfl⟩ := Nat.exists_eq_add_of_le hle
            have e1 : (d + c) * (d + c) = d * d + 2 * (d * c) + c * c := by rw [Nat.add_mul, Nat.mul_add, Nat.mul_add, Nat.mul_comm c d]; omega
            rw [e1, Nat.add_mul, Nat.mul_comm c d]; omega
        omega
      have := h.1
      omega
    · exact h1
  omega
/-- Where the step does not go down, the root is found. -/
theorem newton_end {a x r : Nat} (hx : 0 < x) (h : IsRt a r) (hr : r ≤ x) (hs : x ≤ (x + a / x) / 2) : x = r := by
  have h1 : x ≤ a / x := by omega
  have h2 : x * x ≤ a := Nat.le_trans (Nat.mul_le_mul_left x h1) (Nat.mul_div_le a x)
  exact Nat.le_antisymm (h.le h2) hr
theorem newton_start {a : Nat} : isqrt a ≤ 2 ^ ((blen a + 1) / 2) := by
  have h1 := blen_lt a
  have h2 := (isqrt_spec a).1
  rcases Nat.lt_or_ge (2 ^ ((blen a + 1) / 2)) (isqrt a) with h | h
  · exfalso
    have h3 := sq_le (Nat.le_of_lt h)
    rw [← Nat.pow_add] at h3
    have h4 : 2 ^ blen a ≤ 2 ^ ((blen a + 1) / 2 + (blen a + 1) / 2) := Nat.pow_le_pow_right (by decide) (by omega)
    omega
  · exact h
/-- The root, bit by bit. -/
theorem bits_start (a : Nat) : a < (0 + 2 ^ (blen a / 2 + 1 + 1)) * (0 + 2 ^ (blen a / 2 + 1 + 1)) := by
  rw [Nat.zero_add, ← Nat.pow_add]
  exact Nat.lt_of_lt_of_le (blen_lt a) (Nat.pow_le_pow_right (by decide) (by omega))
theorem bits_no {a o i : Nat} (h : ¬ (o + 2 ^ i) * (o + 2 ^ i) ≤ a) : a < (o + 2 ^ i) * (o + 2 ^ i) := by omega
theorem bits_yes {a o i : Nat} (h : a < (o + 2 ^ (i + 1)) * (o + 2 ^ (i + 1))) : a < (o + 2 ^ i + 2 ^ i) * (o + 2 ^ i + 2 ^ i) := by
  have e : o + 2 ^ (i + 1) = o + 2 ^ i + 2 ^ i := by rw [Nat.pow_succ]; omega
  rw [e] at h; exact h
end Go.Proofs.YtdfcpkjphdepcaaDoor
namespace Go.Proofs.YtdfcpkjphdepcaaDoor
set_option linter.unusedVariables false

/-- A quotient, rounded away from 0 where told and where something is left. -/
def flo (up : Bool) (x y : Nat) : Nat := x / y + (if up && decide (0 < x % y) then 1 else 0)
theorem flo_true {x y : Nat} (h : 0 < x % y) : flo true x y = x / y + 1 := by unfold flo; simp [h]
theorem flo_rest {up : Bool} {x y : Nat} (h : x % y = 0) : flo up x y = x / y := by unfold flo; simp [h]
theorem flo_false {x y : Nat} : flo false x y = x / y := by unfold flo; simp
end Go.Proofs.YtdfcpkjphdepcaaDoor

/-  -/
import Derived.Test.YtdmhkhnnomdkcaaDoorJo20
import Derived.Test.YtdmhkhnnomdkcaaDoorJo23
import Derived.Test.YtdmhkhnnomdkcaaDoorJo26
import Derived.Test.YtdmhkhnnomdkcaaDoorJo29
set_option linter.unusedVariables false
set_option linter.unusedSimpArgs false
/- The greatest common divisor as the law asks for it: the program's and the document's answers agree, the quotients have no common divisor. -/
namespace Go.Proofs.YtdmhkhnnomdkcaaDoor
open Go.RowKit NumB
set_option linter.unusedVariables false
set_option linter.unusedSimpArgs false

theorem intL_q (s : Bool) (k : Nat) : (intL s k).q = ((RatB.sg s k : Int) : Rat) := by
  unfold LN.q RatB.q
  rw [intL_x, intL_y, Rat.mkRat_one]
  show ((RatB.sg (s && decide (0 < k)) k : Int) : Rat) = _
  rw [RatB.sg_and]
/-- A valid integer is the canonical number of it. -/
theorem LN.int_eq {a : LN} (ho : a.ok) (he : a.err = 0) (hy : a.y = 1) : a = intL a.neg a.x ∧ fitB a.x 1 = true := by
  obtain ⟨h1, h2, h3, h4, h5⟩ := LN.good ho he
  refine ⟨?_, decide_eq_true ⟨by rw [h1]; exact h3, by rw [digs_one32]; decide⟩⟩
  have hn : (a.neg && decide (0 < a.x)) = a.neg := by
    rcases Nat.eq_zero_or_pos a.x with h | h
    · rw [h5.2.2 h]; rfl
    · simp [h]
  unfold intL
  rw [hn, h1, ← hy, h2]
theorem fit_mono {x y : Nat} (h : fitB x 1 = true) (hl : y ≤ x) : fitB y 1 = true := by
  have := of_decide_eq_true (show decide _ = true from h)
  exact decide_eq_true ⟨Nat.le_trans (digs_len_mono W32_gt hl) this.1, this.2⟩
theorem intL_len (s : Bool) {k : Nat} (h : 0 < k) : (intL s k).num.length ≠ 0 := by
  show (digs W32 k).length ≠ 0
  have := val_digs W32_gt k
  intro h0
  rw [List.length_eq_zero_iff.1 h0] at this
  have : val W32 [] = 0 := rfl
  omega
theorem intL_zero_len (s : Bool) : (intL s 0).num.length = 0 := by
  show (digs W32 0).length = 0
  rw [digs_zero]; rfl
theorem rtwoGS_eq (a b : LN) : rtwoGS 103 a b = gcdS a b := by
  have hf : fracS 0 false (Nat.gcd a.x b.x) 1 = rtwoGSI 103 a b := by
    unfold fracS rtwoGSI
    rw [Nat.gcd_one_right, Nat.div_one, Nat.div_one]
  unfold rtwoGS gcdS intErr2
  by_cases h : err2 a.err b.err = 0
  · by_cases h2 : a.y = 1 ∧ b.y = 1
    · simp [h, h2, hf]
    · simp [h, h2]
  · simp [h]
theorem intL_same (s : Bool) (k : Nat) : intL (intL s k).neg (intL s k).x = intL s k := by
  unfold intL LN.x
  simp [val_digs W32_gt]
/-- Division of an integer by a divisor of it. -/
theorem divS_int {s : Bool} {x g : Nat} (hg : 0 < g) (hd : g ∣ x) (hx : fitB x 1 = true) (hgf : fitB g 1 = true) : divS (intL s x) (intL false g) = (intL s (x / g), 0) := by
  have h1 := intL_fit (s := s) hx
  have h2 := intL_fit (s := false) hgf
  have h3 := intL_fit (s := s) (fit_mono hx (Nat.div_le_self x g))
  refine divS_eq h1.1 h2.1 h3.1 h1.2 h2.2 h3.2 (intL_len _ hg) ?_
  rw [intL_q, intL_q, intL_q, ← Rat.intCast_mul]
  congr 1
  have := Nat.div_mul_cancel hd
  unfold RatB.sg
  cases s with
  | false => simp only [Bool.false_eq_true, if_false]; rw [← Int.natCast_mul, this]
  | true => simp only [if_true, Bool.false_eq_true, if_false]; rw [Int.neg_mul, ← Int.natCast_mul, this]
theorem gcdS_int {s t : Bool} {x y : Nat} (hx : fitB x 1 = true) (hy : fitB y 1 = true) (hg : fitB (Nat.gcd x y) 1 = true) : gcdS (intL s x) (intL t y) = (intL false (Nat.gcd x y), 0) := by
  unfold gcdS
  rw [if_pos (intErr2_zero.2 ⟨⟨(intL_fit hx).2, (intL_fit hy).2⟩, intL_y _ _, intL_y _ _⟩), intL_x, intL_x]
  exact fracS_int hg
theorem gcd_fit {x y : Nat} (hx : fitB x 1 = true) (hy : fitB y 1 = true) : fitB (Nat.gcd x y) 1 = true := by
  rcases Nat.eq_zero_or_pos x with h | h
  · rw [h, Nat.gcd_zero_left]; exact hy
  · exact fit_mono hx (Nat.gcd_le_left _ h)
/-- What the law asks. -/
theorem gcd_law {a b : LN} (ha : a.ok) (hb : b.ok) : ((gcdS a b).2 ≠ 0 ∧ (gcdS a b).1 = zeroL) ∨ ((gcdS a b).2 = 0 ∧ (gcdS a b).1.err = 0 ∧ (signS (gcdS a b).1 = 0 ∨ (signS (gcdS a b).1 = 1 ∧ ∃ x y : LN, divS a (gcdS a b).1 = (x, 0) ∧ divS b (gcdS a b).1 = (y, 0) ∧ gcdS x y = (intL false 1, 0)))) := by
  by_cases h : intErr2 a b = 0
  · right
    obtain ⟨⟨ea, eb⟩, ya, yb⟩ := intErr2_zero.1 h
    obtain ⟨e1, f1⟩ := LN.int_eq ha ea ya
    obtain ⟨e2, f2⟩ := LN.int_eq hb eb yb
    generalize a.neg = s at *
    generalize a.x = x at *
    generalize b.neg = t at *
    generalize b.x = y at *
    subst e1 e2
    have hg := gcd_fit f1 f2
    rw [gcdS_int f1 f2 hg]
    refine ⟨rfl, (intL_fit hg).2, ?_⟩
    rcases Nat.eq_zero_or_pos (Nat.gcd x y) with h0 | h0
    · left
      show signS (intL false (Nat.gcd x y)) = 0
      rw [h0]; unfold signS; rw [if_pos (intL_zero_len _)]
    · right
      refine ⟨?_, intL s (x / Nat.gcd x y), intL t (y / Nat.gcd x y), divS_int h0 (Nat.gcd_dvd_left _ _) f1 hg, divS_int h0 (Nat.gcd_dvd_right _ _) f2 hg, ?_⟩
      · show signS (intL false (Nat.gcd x y)) = 1
        unfold signS; rw [if_neg (intL_len _ h0)]; rfl
      · have h1 : Nat.gcd (x / Nat.gcd x y) (y / Nat.gcd x y) = 1 := by rw [Nat.gcd_div (Nat.gcd_dvd_left x y) (Nat.gcd_dvd_right x y), Nat.div_self h0]
        have := gcdS_int (s := s) (t := t) (fit_mono f1 (Nat.div_le_self x (Nat.gcd x y))) (fit_mono f2 (Nat.div_le_self y (Nat.gcd x y))) (by rw [h1]; exact fit_64 (by decide))
        rw [h1] at this
        exact this
  · left
    unfold gcdS
    rw [if_neg h]
    exact ⟨h, rfl⟩
end Go.Proofs.YtdmhkhnnomdkcaaDoor
/- number.Bits: what it answers, and that limbs in two's complement bring it. No program. -/
namespace Go.Proofs.YtdmhkhnnomdkcaaDoor
open Go.RowKit NumB
set_option linter.unusedVariables false
set_option linter.unusedSimpArgs false

/-- The absolute value of the answer. -/
def bitsM (o : Nat) (a b : LN) : Nat := bmag o a.neg b.neg a.x b.x + if bop o a.neg b.neg then 1 else 0
/-- What Bits answers: the operation is o + 1. -/
def bitsS (op : Int) (a b : LN) : LN × Int := if intErr2 a b = 0 then (if 1 ≤ op ∧ op ≤ 3 then fracS 0 (bop (op.toNat - 1) a.neg b.neg) (bitsM (op.toNat - 1) a b) 1 else (zeroL, 1)) else (zeroL, intErr2 a b)

theorem nbop_limb {o a b r s : Nat} (ha : a < 4294967296) (hb : b < 4294967296) : nbop o (a + 4294967296 * r) (b + 4294967296 * s) = nbop o a b + 4294967296 * nbop o r s := by
  have e : (4294967296 : Nat) = 2 ^ 32 := rfl
  rw [e] at ha hb ⊢
  have hn : nbop o a b < 2 ^ 32 := nbop_lt ha hb
  refine Nat.eq_of_testBit_eq fun i => ?_
  rw [nbop_bit, Nat.add_comm a, Nat.add_comm b, Nat.add_comm (nbop o a b), Nat.testBit_two_pow_mul_add r ha, Nat.testBit_two_pow_mul_add s hb, Nat.testBit_two_pow_mul_add _ hn]
  by_cases h : i < 32
  · simp only [if_pos h, nbop_bit]
  · simp only [if_neg h, nbop_bit]
theorem nbop_zero (o : Nat) : nbop o 0 0 = 0 := by
  unfold nbop
  split
  · rfl
  · split <;> rfl
theorem val_zip (o : Nat) : ∀ xs ys : List Nat, Ok W32 xs → Ok W32 ys → xs.length = ys.length → val W32 (List.zipWith (nbop o) xs ys) = nbop o (val W32 xs) (val W32 ys)
  | [], [], _, _, _ => (nbop_zero o).symm
  | x :: xs, y :: ys, hx, hy, hl => by
    rw [List.zipWith_cons_cons, val_cons, val_cons, val_cons, val_zip o xs ys hx.tail hy.tail (by simpa using hl)]
    exact (nbop_limb hx.head hy.head).symm
theorem ok_zip (o : Nat) : ∀ xs ys : List Nat, Ok W32 xs → Ok W32 ys → Ok W32 (List.zipWith (nbop o) xs ys)
  | [], _, _, _ => Ok.nil
  | _ :: _, [], _, _ => Ok.nil
  | x :: xs, y :: ys, hx, hy => by
    rw [List.zipWith_cons_cons]
    exact Ok.cons (show _ < 2 ^ 32 from nbop_lt hx.head hy.head) (ok_zip o xs ys hx.tail hy.tail)
theorem zip_len (o : Nat) {xs ys : List Nat} {n : Nat} (hx : xs.length = n) (hy : ys.length = n) : (List.zipWith (nbop o) xs ys).length = n := by rw [List.length_zipWith, hx, hy, Nat.min_self]
theorem zip_getD (o : Nat) {xs ys : List Nat} {n j : Nat} (hx : xs.length = n) (hy : ys.length = n) (hj : j < n) : (List.zipWith (nbop o) xs ys).getD j 0 = nbop o (xs.getD j 0) (ys.getD j 0) := by
  simp [List.getD_eq_getElem?_getD, List.getElem?_zipWith, hx, hy, hj]
/-- One limb after the other is replaced. -/
theorem part_getD {zs xs : List Nat} {n j : Nat} (hz : zs.length = n) (hx : xs.length = n) (hj : j < n) : (zs.take j ++ xs.drop j).getD j 0 = xs.getD j 0 := by
  simp [List.getD_eq_getElem?_getD, List.getElem?_append, hz, hx, Nat.min_eq_left (Nat.le_of_lt hj)]
theorem part_set {zs xs : List Nat} {n j : Nat} (hz : zs.length = n) (hx : xs.length = n) (hj : j < n) : (zs.take j ++ xs.drop j).set j (zs.getD j 0) = zs.take (j + 1) ++ xs.drop (j + 1) := by
  refine List.ext_getElem? fun i => ?_
  rw [List.getElem?_set]
  simp only [List.getElem?_append, List.getElem?_take, List.getElem?_drop, List.length_append, List.length_take, List.length_drop, hz, hx, Nat.min_eq_left (Nat.le_of_lt hj), Nat.min_eq_left (show j + 1 ≤ n from hj), List.getD_eq_getElem?_getD]
  by_cases h1 : j = i
  · subst h1
    have h2 : j < zs.length := by omega
    simp [h2]
    omega
  · by_cases h2 : i < j
    · have h3 : i < j + 1 := by omega
      simp [h1, h2, h3]
    · have h3 : ¬ i < j + 1 := by omega
      simp [h1, h2, h3]
      congr 1
      omega
theorem part_all {zs xs : List Nat} {n : Nat} (hz : zs.length = n) (hx : xs.length = n) : zs.take n ++ xs.drop n = zs := by
  rw [List.take_of_length_le (by omega), List.drop_eq_nil_of_le (by omega), List.append_nil]

theorem twN_tw {n x : Nat} {neg : Bool} (hp : neg = true → 0 < x) (hx : x < W32 ^ n) : twN n neg x = tw (32 * n) neg x := by
  have e : W32 ^ n = 2 ^ (32 * n) := by rw [Nat.pow_mul]; rfl
  unfold twN tw
  cases neg with
  | false => rfl
  | true =>
    have := hp rfl
    rw [if_pos rfl, if_pos rfl, ← e, Nat.mod_eq_of_lt (by omega)]
theorem cpl_le (neg : Bool) (x : Nat) : cpl neg x ≤ x := by unfold cpl; split <;> omega
/-- What comes out at last. -/
theorem bits_out {o n : Nat} {a b : LN} (ha : a.ok) (hb : b.ok) (ea : a.err = 0) (eb : b.err = 0) (hn : a.num.length ≤ n ∧ b.num.length ≤ n) :
    nbop o (twN (n + 1) a.neg a.x) (twN (n + 1) b.neg b.x) / 2 ^ (32 * n + 31) = (if bop o a.neg b.neg then 1 else 0) ∧
    (bop o a.neg b.neg = false → nbop o (twN (n + 1) a.neg a.x) (twN (n + 1) b.neg b.x) = bitsM o a b) ∧
    (bop o a.neg b.neg = true → (W32 ^ (n + 1) - nbop o (twN (n + 1) a.neg a.x) (twN (n + 1) b.neg b.x)) % W32 ^ (n + 1) = bitsM o a b) ∧ bitsM o a b ≤ W32 ^ n := by
  have ca := (LN.good ha ea).2.2.2.2
  have cb := (LN.good hb eb).2.2.2.2
  have e : W32 ^ n = 2 ^ (32 * n) := by rw [Nat.pow_mul]; rfl
  have e1 : W32 ^ (n + 1) = 2 ^ (32 * n + 31 + 1) := by rw [show 32 * n + 31 + 1 = 32 * (n + 1) by omega, Nat.pow_mul]; rfl
  have pa : a.neg = true → 0 < a.x := fun h => by
    rcases Nat.eq_zero_or_pos a.x with h0 | h0
    · rw [ca.2.2 h0] at h; cases h
    · exact h0
  have pb : b.neg = true → 0 < b.x := fun h => by
    rcases Nat.eq_zero_or_pos b.x with h0 | h0
    · rw [cb.2.2 h0] at h; cases h
    · exact h0
  have la : a.x < 2 ^ (32 * n) := by rw [← e]; exact Nat.lt_of_lt_of_le (val_lt ha.1) (Nat.pow_le_pow_right (by decide) hn.1)
  have lb : b.x < 2 ^ (32 * n) := by rw [← e]; exact Nat.lt_of_lt_of_le (val_lt hb.1) (Nat.pow_le_pow_right (by decide) hn.2)
  have h32 : 2 ^ (32 * n) ≤ 2 ^ (32 * n + 31) := Nat.pow_le_pow_right (by omega) (by omega)
  have h33 : 2 ^ (32 * n + 31) < 2 ^ (32 * n + 31 + 1) := Nat.pow_lt_pow_right (by omega) (by omega)
  have l1a : a.x < W32 ^ (n + 1) := by rw [e1]; omega
  have l1b : b.x < W32 ^ (n + 1) := by rw [e1]; omega
  rw [twN_tw pa l1a, twN_tw pb l1b, show 32 * (n + 1) = 32 * n + 31 + 1 by omega]
  have xa := cpl_le a.neg a.x
  have xb := cpl_le b.neg b.x
  have hm := bmag_lt (o := o) (na := a.neg) (nb := b.neg) (x := a.x) (y := b.x) (n := 32 * n) (by omega) (by omega)
  have ht := nbop_tw (o := o) (N := 32 * n + 31 + 1) (na := a.neg) (nb := b.neg) (x := a.x) (y := b.x) (by omega) (by omega) pa pb
  refine ⟨nbop_top (by omega) (by omega) pa pb, fun h => ?_, fun h => ?_, ?_⟩
  · rw [ht]; unfold bitsM; rw [h]; rfl
  · rw [ht]
    unfold bitsM
    rw [h, if_pos rfl, e1]
    unfold tw
    rw [if_pos rfl, Nat.mod_eq_of_lt (by omega)]
    omega
  · rw [e]; unfold bitsM; split <;> omega
theorem bitsM_len {o n : Nat} {a b : LN} (h : bitsM o a b ≤ W32 ^ n) : (digs W32 (bitsM o a b)).length ≤ n + 1 := digs_len_le W32_gt (Nat.lt_of_le_of_lt h (Nat.pow_lt_pow_right (by decide) (by omega)))
end Go.Proofs.YtdmhkhnnomdkcaaDoor
/- Bitwise combinations add up, of the plain functions. No program. -/
namespace Go.Proofs.YtdmhkhnnomdkcaaDoor
open Go.RowKit NumB
set_option linter.unusedVariables false
set_option linter.unusedSimpArgs false

/-- An integer as a number, or an error. -/
def intO (t : Int) : LN × Int := opS 0 (decide (t < 0)) t.natAbs 1
theorem fracS_intO (s : Bool) (n : Nat) : fracS 0 s n 1 = intO (RatB.sg s n) := by
  unfold fracS intO
  rw [Nat.gcd_one_right, Nat.div_one, Nat.div_one, RatB.sg_natAbs]
  congr 1
  unfold RatB.sg
  cases s with
  | false => simp
  | true => simp
theorem intO_ok {t : Int} (h : (intO t).2 = 0) : (intO t).1.err = 0 ∧ (intO t).1.y = 1 ∧ RatB.sg (intO t).1.neg (intO t).1.x = t := by
  unfold intO opS at *
  rw [if_pos rfl] at h ⊢
  cases hf : fitB t.natAbs 1 with
  | false => rw [hf] at h; simp at h
  | true =>
    have hf2 := of_decide_eq_true (show decide _ = true from hf)
    simp only [if_true]
    refine ⟨checkL_good hf2.1 hf2.2 (by omega) (Nat.gcd_one_right _) (fun h => by simp; omega), val_digs W32_gt 1, ?_⟩
    show RatB.sg (decide (t < 0)) (val W32 (digs W32 t.natAbs)) = t
    rw [val_digs W32_gt]
    unfold RatB.sg
    by_cases h0 : t < 0
    · rw [if_pos (decide_eq_true h0)]; omega
    · rw [if_neg (by simpa using h0)]; omega
theorem addS_intO {a b : LN} (ea : a.err = 0) (eb : b.err = 0) (ya : a.y = 1) (yb : b.y = 1) : addS a b = intO (RatB.sg a.neg a.x + RatB.sg b.neg b.x) := by
  unfold addS
  rw [ea, eb, ya, yb, Nat.mul_one, Nat.mul_one]
  have h := sumN_sg a.neg b.neg a.x b.x
  rw [← h]
  exact fracS_intO _ _

theorem tw_int {N x : Nat} {neg : Bool} (h : x ≤ 2 ^ N) : ((tw N neg x : Nat) : Int) = RatB.sg neg x + (if neg then ((2 ^ N : Nat) : Int) else 0) := by
  unfold tw RatB.sg
  cases neg with
  | false => simp
  | true =>
    rw [if_pos rfl, if_pos rfl, if_pos rfl, Int.ofNat_sub h]
    omega
/-- The answer as an integer. -/
def bitsZ (o : Nat) (a b : LN) : Int := RatB.sg (bop o a.neg b.neg) (bitsM o a b)
theorem bitsZ_tw {a b : LN} (ha : a.ok) (hb : b.ok) (ea : a.err = 0) (eb : b.err = 0) : ∃ N, ((tw N a.neg a.x : Nat) : Int) = RatB.sg a.neg a.x + (if a.neg then ((2 ^ N : Nat) : Int) else 0) ∧ ((tw N b.neg b.x : Nat) : Int) = RatB.sg b.neg b.x + (if b.neg then ((2 ^ N : Nat) : Int) else 0) ∧
    ∀ o, ((nbop o (tw N a.neg a.x) (tw N b.neg b.x) : Nat) : Int) = bitsZ o a b + (if bop o a.neg b.neg then ((2 ^ N : Nat) : Int) else 0) := by
  have ca := (LN.good ha ea).2.2.2.2
  have cb := (LN.good hb eb).2.2.2.2
  have pa : a.neg = true → 0 < a.x := fun h => by
    rcases Nat.eq_zero_or_pos a.x with h0 | h0
    · rw [ca.2.2 h0] at h; cases h
    · exact h0
  have pb : b.neg = true → 0 < b.x := fun h => by
    rcases Nat.eq_zero_or_pos b.x with h0 | h0
    · rw [cb.2.2 h0] at h; cases h
    · exact h0
  obtain ⟨N, la, lb⟩ : ∃ N, a.x < 2 ^ N ∧ b.x < 2 ^ N := ⟨a.x + b.x, Nat.lt_of_le_of_lt (Nat.le_add_right _ b.x) Nat.lt_two_pow_self, Nat.lt_of_le_of_lt (Nat.le_add_left _ a.x) Nat.lt_two_pow_self⟩
  refine ⟨N, tw_int (by omega), tw_int (by omega), fun o => ?_⟩
  have xa := cpl_le a.neg a.x
  have xb := cpl_le b.neg b.x
  have hm := bmag_lt (o := o) (na := a.neg) (nb := b.neg) (x := a.x) (y := b.x) (n := N) (by omega) (by omega)
  rw [nbop_tw (by omega) (by omega) pa pb]
  exact tw_int (by split <;> omega)
theorem bits_sums {a b : LN} (ha : a.ok) (hb : b.ok) (ea : a.err = 0) (eb : b.err = 0) : bitsZ 0 a b + bitsZ 2 a b = bitsZ 1 a b ∧ bitsZ 0 a b + bitsZ 1 a b = RatB.sg a.neg a.x + RatB.sg b.neg b.x := by
  obtain ⟨N, h1, h2, h3⟩ := bitsZ_tw ha hb ea eb
  have f0 := h3 0
  have f1 := h3 1
  have f2 := h3 2
  have s1 : nbop 0 (tw N a.neg a.x) (tw N b.neg b.x) + nbop 1 (tw N a.neg a.x) (tw N b.neg b.x) = tw N a.neg a.x + tw N b.neg b.x := and_add_or _ _
  have s2 : nbop 0 (tw N a.neg a.x) (tw N b.neg b.x) + nbop 2 (tw N a.neg a.x) (tw N b.neg b.x) = nbop 1 (tw N a.neg a.x) (tw N b.neg b.x) := and_add_xor _ _
  generalize nbop 0 _ _ = n0 at *
  generalize nbop 1 _ _ = n1 at *
  generalize nbop 2 _ _ = n2 at *
  generalize tw N a.neg a.x = ta at *
  generalize tw N b.neg b.x = tb at *
  generalize (2 ^ N : Nat) = P at *
  unfold bop at f0 f1 f2
  cases hna : a.neg <;> cases hnb : b.neg <;> rw [hna] at h1 f0 f1 f2 <;> rw [hnb] at h2 f0 f1 f2 <;> simp at h1 h2 f0 f1 f2 <;> constructor <;> omega

theorem bitsS_intO {o : Nat} {a b : LN} {op : Int} (h : (bitsS op a b).2 = 0) (ho : op = (o : Int) + 1) (hb : o < 3) : bitsS op a b = intO (bitsZ o a b) ∧ (a.err = 0 ∧ b.err = 0) ∧ a.y = 1 ∧ b.y = 1 := by
  have hop : 1 ≤ op ∧ op ≤ 3 := by omega
  have e : op.toNat - 1 = o := by omega
  by_cases h0 : intErr2 a b = 0
  · refine ⟨?_, intErr2_zero.1 h0⟩
    unfold bitsS
    rw [if_pos h0, if_pos hop, e, fracS_intO]
    rfl
  · unfold bitsS at h
    rw [if_neg h0] at h
    exact absurd h h0
/-- What the law asks. -/
theorem add_up {a b : LN} (ha : a.ok) (hb : b.ok) (h0 : (bitsS 1 a b).2 = 0) (h1 : (bitsS 2 a b).2 = 0) (h2 : (bitsS 3 a b).2 = 0) :
    addS (bitsS 1 a b).1 (bitsS 3 a b).1 = ((bitsS 2 a b).1, 0) ∧ addS (bitsS 1 a b).1 (bitsS 2 a b).1 = addS a b := by
  obtain ⟨e0, ⟨ea, eb⟩, ya, yb⟩ := bitsS_intO (o := 0) h0 (by omega) (by omega)
  obtain ⟨e1, _⟩ := bitsS_intO (o := 1) h1 (by omega) (by omega)
  obtain ⟨e2, _⟩ := bitsS_intO (o := 2) h2 (by omega) (by omega)
  obtain ⟨s1, s2⟩ := bits_sums ha hb ea eb
  rw [e0] at h0 ⊢
  rw [e1] at h1 ⊢
  rw [e2] at h2 ⊢
  obtain ⟨p1, p2, p3⟩ := intO_ok h0
  obtain ⟨q1, q2, q3⟩ := intO_ok h1
  obtain ⟨r1, r2, r3⟩ := intO_ok h2
  refine ⟨?_, ?_⟩
  · rw [addS_intO p1 r1 p2 r2, p3, r3, s1]
    exact Prod.ext rfl h1
  · rw [addS_intO p1 q1 p2 q2, p3, q3, s2, addS_intO ea eb ya yb]
end Go.Proofs.YtdmhkhnnomdkcaaDoor

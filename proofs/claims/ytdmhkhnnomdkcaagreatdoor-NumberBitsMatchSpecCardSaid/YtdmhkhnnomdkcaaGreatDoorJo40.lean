/-  -/
import Derived.Test.YtdmhkhnnomdkcaaGreatDoorJo23
import Derived.Test.YtdmhkhnnomdkcaaGreatDoorJo36
import Derived.Test.YtdmhkhnnomdkcaaGreatDoorJo37
import Derived.Test.YtdmhkhnnomdkcaaGreatDoorJo39
set_option linter.unusedVariables false
set_option linter.unusedSimpArgs false
/- number.Sign; fetterlocklaw1.same. -/
namespace Go.Proofs.YtdmhkhnnomdkcaaGreatDoor
open Go.RowKit NumB
set_option linter.unusedVariables false
set_option linter.unusedSimpArgs false

/-- The sign of a valid number. -/
def signS (a : LN) : Int := if a.num.length = 0 then 0 else if a.neg then -1 else 1

set_option maxRecDepth 100000 in
set_option maxHeartbeats 3200000 in
theorem same_S (a b : LN) (va vb : Value) (w : World) (ha : GV w va a) (hb : GV w vb b) : Calls Tryz.prog 7 #[va, vb] w fun e w' => e = .returned (.bool (sameB a b)) ∧ Below w.heap.size w w' := by
  obtain ⟨A1, A2, rfl, h1, h2, _, _⟩ := ha
  obtain ⟨A3, A4, rfl, h3, h4, _, _⟩ := hb
  have HB2 : Hid (∀ o1 o2 : Obj, Below w.heap.size w ((w.alloc o1).alloc o2)) := fun o1 o2 => (below_one w o1).alloc (by simp) o2
  have HS1 : Hid (∀ (W : World), Below w.heap.size w W → Calls Tryz.prog 30 #[A1, A3] W fun e w' => e = .returned (.bool (eqB a.num b.num)) ∧ ∃ m, w' = W.drewN m) := fun W hW => sameLimbs_any a.num b.num A1 A3 W (h1.to hW) (h3.to hW)
  have HS2 : Hid (∀ (W : World), Below w.heap.size w W → Calls Tryz.prog 30 #[A2, A4] W fun e w' => e = .returned (.bool (eqB a.den b.den)) ∧ ∃ m, w' = W.drewN m) := fun W hW => sameLimbs_any a.den b.den A2 A4 W (h2.to hW) (h4.to hW)
  obtain ⟨B1, c1, rfl, _⟩ := h1
  obtain ⟨B2, c2, rfl, _⟩ := h2
  obtain ⟨B3, c3, rfl, _⟩ := h3
  obtain ⟨B4, c4, rfl, _⟩ := h4
  have HE : Hid (sameB a b = ((a.neg == b.neg) && (eqB a.num b.num && eqB a.den b.den))) := rfl
  generalize sameB a b = r at *
  generalize eqB a.num b.num = p at *
  generalize eqB a.den b.den = q at *
  generalize a.num.length = n1 at *
  generalize a.den.length = n2 at *
  generalize b.num.length = n3 at *
  generalize b.den.length = n4 at *
  generalize a.neg = na at *
  generalize b.neg = nb at *
  by_cases hn : na = nb
  · have hn1 : (na == nb) = true := by simp [hn]
    rw [hn1] at HE
    subst hn
    cases p with
    | true =>
      go_enter Tryz.func7, Tryz.ntmps7
      go_wp2_with fail
      refine (HS1.out _ (by exact HB2.out _ _)).mono ?_
      rintro e w1 ⟨rfl, k1, rfl⟩
      go_wp2_with fail
      refine (HS2.out _ (by exact below_drewN (HB2.out _ _) _)).mono ?_
      rintro e w1 ⟨rfl, k2, rfl⟩
      go_wp2_with fail
      go_ret
      rw [HE.out]
      exact ⟨by cases q <;> rfl, below_drewN (HB2.out _ _) _⟩
    | false =>
      go_enter Tryz.func7, Tryz.ntmps7
      go_wp2_with fail
      refine (HS1.out _ (by exact HB2.out _ _)).mono ?_
      rintro e w1 ⟨rfl, k1, rfl⟩
      go_wp2_with fail
      go_ret
      rw [HE.out]
      exact ⟨rfl, below_drewN (HB2.out _ _) _⟩
  · have hn1 : (na == nb) = false := by simp [hn]
    rw [hn1] at HE
    clear hn
    go_enter Tryz.func7, Tryz.ntmps7
    go_wp2_with fail
    go_ret
    rw [HE.out]
    exact ⟨rfl, HB2.out _ _⟩
end Go.Proofs.YtdmhkhnnomdkcaaGreatDoor
/- The greatest common divisor as the law asks for it: the program's and the document's answers agree, the quotients have no common divisor. -/
namespace Go.Proofs.YtdmhkhnnomdkcaaGreatDoor
open Go.RowKit NumB
set_option linter.unusedVariables false
set_option linter.unusedSimpArgs false

theorem intL_q (s : Bool) (k : Nat) : (intL s k).q = ((RatB.sg s k : Int) : Rat) := by
  unfold LN.q RatB.q
  rw [intL_x, intL_y, Rat.mkRat_one]
  show ((RatB.sg (s && decide (0 < k)) k : Int) : Rat) = _
  rw [RatB.sg_and]
/-- A valid integer is the canonical number of it. -/
theorem LN.int_eq {a : LN} (ho : a.ok) (he : a.err = 0) (hy : a.y = 1) : a = intL a.neg a.x ∧ fitB a.x 1 = true := by
  obtain ⟨h1, h2, h3, h4, h5⟩ := LN.good ho he
  refine ⟨?_, decide_eq_true ⟨by rw [h1]; exact h3, by rw [digs_one32]; decide⟩⟩
  have hn : (a.neg && decide (0 < a.x)) = a.neg := by
    rcases Nat.eq_zero_or_pos a.x with h | h
    · rw [h5.2.2 h]; rfl
    · simp [h]
  unfold intL
  rw [hn, h1, ← hy, h2]
theorem fit_mono {x y : Nat} (h : fitB x 1 = true) (hl : y ≤ x) : fitB y 1 = true := by
  have := of_decide_eq_true (show decide _ = true from h)
  exact decide_eq_true ⟨Nat.le_trans (digs_len_mono W32_gt hl) this.1, this.2⟩
theorem intL_len (s : Bool) {k : Nat} (h : 0 < k) : (intL s k).num.length ≠ 0 := by
  show (digs W32 k).length ≠ 0
  have := val_digs W32_gt k
  intro h0
  rw [List.length_eq_zero_iff.1 h0] at this
  have : val W32 [] = 0 := rfl
  omega
theorem intL_zero_len (s : Bool) : (intL s 0).num.length = 0 := by
  show (digs W32 0).length = 0
  rw [digs_zero]; rfl
theorem rtwoGS_eq (a b : LN) : rtwoGS 103 a b = gcdS a b := by
  have hf : fracS 0 false (Nat.gcd a.x b.x) 1 = rtwoGSI 103 a b := by
    unfold fracS rtwoGSI
    rw [Nat.gcd_one_right, Nat.div_one, Nat.div_one]
  unfold rtwoGS gcdS intErr2
  by_cases h : err2 a.err b.err = 0
  · by_cases h2 : a.y = 1 ∧ b.y = 1
    · simp [h, h2, hf]
    · simp [h, h2]
  · simp [h]
theorem intL_same (s : Bool) (k : Nat) : intL (intL s k).neg (intL s k).x = intL s k := by
  unfold intL LN.x
  simp [val_digs W32_gt]
/-- Division of an integer by a divisor of it. -/
theorem divS_int {s : Bool} {x g : Nat} (hg : 0 < g) (hd : g ∣ x) (hx : fitB x 1 = true) (hgf : fitB g 1 = true) : divS (intL s x) (intL false g) = (intL s (x / g), 0) := by
  have h1 := intL_fit (s := s) hx
  have h2 := intL_fit (s := false) hgf
  have h3 := intL_fit (s := s) (fit_mono hx (Nat.div_le_self x g))
  refine divS_eq h1.1 h2.1 h3.1 h1.2 h2.2 h3.2 (intL_len _ hg) ?_
  rw [intL_q, intL_q, intL_q, ← Rat.intCast_mul]
  congr 1
  have := Nat.div_mul_cancel hd
  unfold RatB.sg
  cases s with
  | false => simp only [Bool.false_eq_true, if_false]; rw [← Int.natCast_mul, this]
  | true => simp only [if_true, Bool.false_eq_true, if_false]; rw [Int.neg_mul, ← Int.natCast_mul, this]
theorem gcdS_int {s t : Bool} {x y : Nat} (hx : fitB x 1 = true) (hy : fitB y 1 = true) (hg : fitB (Nat.gcd x y) 1 = true) : gcdS (intL s x) (intL t y) = (intL false (Nat.gcd x y), 0) := by
  unfold gcdS
  rw [if_pos (intErr2_zero.2 ⟨⟨(intL_fit hx).2, (intL_fit hy).2⟩, intL_y _ _, intL_y _ _⟩), intL_x, intL_x]
  exact fracS_int hg
theorem gcd_fit {x y : Nat} (hx : fitB x 1 = true) (hy : fitB y 1 = true) : fitB (Nat.gcd x y) 1 = true := by
  rcases Nat.eq_zero_or_pos x with h | h
  · rw [h, Nat.gcd_zero_left]; exact hy
  · exact fit_mono hx (Nat.gcd_le_left _ h)
/-- What the law asks. -/
theorem gcd_law {a b : LN} (ha : a.ok) (hb : b.ok) : ((gcdS a b).2 ≠ 0 ∧ (gcdS a b).1 = zeroL) ∨ ((gcdS a b).2 = 0 ∧ (gcdS a b).1.err = 0 ∧ (signS (gcdS a b).1 = 0 ∨ (signS (gcdS a b).1 = 1 ∧ ∃ x y : LN, divS a (gcdS a b).1 = (x, 0) ∧ divS b (gcdS a b).1 = (y, 0) ∧ gcdS x y = (intL false 1, 0)))) := by
  by_cases h : intErr2 a b = 0
  · right
    obtain ⟨⟨ea, eb⟩, ya, yb⟩ := intErr2_zero.1 h
    obtain ⟨e1, f1⟩ := LN.int_eq ha ea ya
    obtain ⟨e2, f2⟩ := LN.int_eq hb eb yb
    generalize a.neg = s at *
    generalize a.x = x at *
    generalize b.neg = t at *
    generalize b.x = y at *
    subst e1 e2
    have hg := gcd_fit f1 f2
    rw [gcdS_int f1 f2 hg]
    refine ⟨rfl, (intL_fit hg).2, ?_⟩
    rcases Nat.eq_zero_or_pos (Nat.gcd x y) with h0 | h0
    · left
      show signS (intL false (Nat.gcd x y)) = 0
      rw [h0]; unfold signS; rw [if_pos (intL_zero_len _)]
    · right
      refine ⟨?_, intL s (x / Nat.gcd x y), intL t (y / Nat.gcd x y), divS_int h0 (Nat.gcd_dvd_left _ _) f1 hg, divS_int h0 (Nat.gcd_dvd_right _ _) f2 hg, ?_⟩
      · show signS (intL false (Nat.gcd x y)) = 1
        unfold signS; rw [if_neg (intL_len _ h0)]; rfl
      · have h1 : Nat.gcd (x / Nat.gcd x y) (y / Nat.gcd x y) = 1 := by rw [Nat.gcd_div (Nat.gcd_dvd_left x y) (Nat.gcd_dvd_right x y), Nat.div_self h0]
        have := gcdS_int (s := s) (t := t) (fit_mono f1 (Nat.div_le_self x (Nat.gcd x y))) (fit_mono f2 (Nat.div_le_self y (Nat.gcd x y))) (by rw [h1]; exact fit_64 (by decide))
        rw [h1] at this
        exact this
  · left
    unfold gcdS
    rw [if_neg h]
    exact ⟨h, rfl⟩
end Go.Proofs.YtdmhkhnnomdkcaaGreatDoor
/- number.Bits: what it answers, and that limbs in two's complement bring it. No program. -/
namespace Go.Proofs.YtdmhkhnnomdkcaaGreatDoor
open Go.RowKit NumB
set_option linter.unusedVariables false
set_option linter.unusedSimpArgs false

/-- The absolute value of the answer. -/
def bitsM (o : Nat) (a b : LN) : Nat := bmag o a.neg b.neg a.x b.x + if bop o a.neg b.neg then 1 else 0
/-- What Bits answers: the operation is o + 1. -/
def bitsS (op : Int) (a b : LN) : LN × Int := if intErr2 a b = 0 then (if 1 ≤ op ∧ op ≤ 3 then fracS 0 (bop (op.toNat - 1) a.neg b.neg) (bitsM (op.toNat - 1) a b) 1 else (zeroL, 1)) else (zeroL, intErr2 a b)

theorem nbop_limb {o a b r s : Nat} (ha : a < 4294967296) (hb : b < 4294967296) : nbop o (a + 4294967296 * r) (b + 4294967296 * s) = nbop o a b + 4294967296 * nbop o r s := by
  have e : (4294967296 : Nat) = 2 ^ 32 := rfl
  rw [e] at ha hb ⊢
  have hn : nbop o a b < 2 ^ 32 := nbop_lt ha hb
  refine Nat.eq_of_testBit_eq fun i => ?_
  rw [nbop_bit, Nat.add_comm a, Nat.add_comm b, Nat.add_comm (nbop o a b), Nat.testBit_two_pow_mul_add r ha, Nat.testBit_two_pow_mul_add s hb, Nat.testBit_two_pow_mul_add _ hn]
  by_cases h : i < 32
  · simp only [if_pos h, nbop_bit]
  · simp only [if_neg h, nbop_bit]
theorem nbop_zero (o : Nat) : nbop o 0 0 = 0 := by
  unfold nbop
  split
  · rfl
  · split <;> rfl
theorem val_zip (o : Nat) : ∀ xs ys : List Nat, Ok W32 xs → Ok W32 ys → xs.length = ys.length → val W32 (List.zipWith (nbop o) xs ys) = nbop o (val W32 xs) (val W32 ys)
  | [], [], _, _, _ => (nbop_zero o).symm
  | x :: xs, y :: ys, hx, hy, hl => by
    rw [List.zipWith_cons_cons, val_cons, val_cons, val_cons, val_zip o xs ys hx.tail hy.tail (by simpa using hl)]
    exact (nbop_limb hx.head hy.head).symm
theorem ok_zip (o : Nat) : ∀ xs ys : List Nat, Ok W32 xs → Ok W32 ys → Ok W32 (List.zipWith (nbop o) xs ys)
  | [], _, _, _ => Ok.nil
  | _ :: _, [], _, _ => Ok.nil
  | x :: xs, y :: ys, hx, hy => by
    rw [List.zipWith_cons_cons]
    exact Ok.cons (show _ < 2 ^ 32 from nbop_lt hx.head hy.head) (ok_zip o xs ys hx.tail hy.tail)
theorem zip_len (o : Nat) {xs ys : List Nat} {n : Nat} (hx : xs.length = n) (hy : ys.length = n) : (List.zipWith (nbop o) xs ys).length = n := by rw [List.length_zipWith, hx, hy, Nat.min_self]
theorem zip_getD (o : Nat) {xs ys : List Nat} {n j : Nat} (hx : xs.length = n) (hy : ys.length = n) (hj : j < n) : (List.zipWith (nbop o) xs ys).getD j 0 = nbop o (xs.getD j 0) (ys.getD j 0) := by
  simp [List.getD_eq_getElem?_getD, List.getElem?_zipWith, hx, hy, hj]
/-- One limb after the other is replaced. -/
theorem part_getD {zs xs : List Nat} {n j : Nat} (hz : zs.length = n) (hx : xs.length = n) (hj : j < n) : (zs.take j ++ xs.drop j).getD j 0 = xs.getD j 0 := by
  simp [List.getD_eq_getElem?_getD, List.getElem?_append, hz, hx, Nat.min_eq_left (Nat.le_of_lt hj)]
theorem part_set {zs xs : List Nat} {n j : Nat} (hz : zs.length = n) (hx : xs.length = n) (hj : j < n) : (zs.take j ++ xs.drop j).set j (zs.getD j 0) = zs.take (j + 1) ++ xs.drop (j + 1) := by
  refine List.ext_getElem? fun i => ?_
  rw [List.getElem?_set]
  simp only [List.getElem?_append, List.getElem?_take, List.getElem?_drop, List.length_append, List.length_take, List.length_drop, hz, hx, Nat.min_eq_left (Nat.le_of_lt hj), Nat.min_eq_left (show j + 1 ≤ n from hj), List.getD_eq_getElem?_getD]
  by_cases h1 : j = i
  · subst h1
    have h2 : j < zs.length := by omega
    simp [h2]
    omega
  · by_cases h2 : i < j
    · have h3 : i < j + 1 := by omega
      simp [h1, h2, h3]
    · have h3 : ¬ i < j + 1 := by omega
      simp [h1, h2, h3]
      congr 1
      omega
theorem part_all {zs xs : List Nat} {n : Nat} (hz : zs.length = n) (hx : xs.length = n) : zs.take n ++ xs.drop n = zs := by
  rw [List.take_of_length_le (by omega), List.drop_eq_nil_of_le (by omega), List.append_nil]

theorem twN_tw {n x : Nat} {neg : Bool} (hp : neg = true → 0 < x) (hx : x < W32 ^ n) : twN n neg x = tw (32 * n) neg x := by
  have e : W32 ^ n = 2 ^ (32 * n) := by rw [Nat.pow_mul]; rfl
  unfold twN tw
  cases neg with
  | false => rfl
  | true =>
    have := hp rfl
    rw [if_pos rfl, if_pos rfl, ← e, Nat.mod_eq_of_lt (by omega)]
theorem cpl_le (neg : Bool) (x : Nat) : cpl neg x ≤ x := by unfold cpl; split <;> omega
/-- What comes out at last. -/
theorem bits_out {o n : Nat} {a b : LN} (ha : a.ok) (hb : b.ok) (ea : a.err = 0) (eb : b.err = 0) (hn : a.num.length ≤ n ∧ b.num.length ≤ n) :
    nbop o (twN (n + 1) a.neg a.x) (twN (n + 1) b.neg b.x) / 2 ^ (32 * n + 31) = (if bop o a.neg b.neg then 1 else 0) ∧
    (bop o a.neg b.neg = false → nbop o (twN (n + 1) a.neg a.x) (twN (n + 1) b.neg b.x) = bitsM o a b) ∧
    (bop o a.neg b.neg = true → (W32 ^ (n + 1) - nbop o (twN (n + 1) a.neg a.x) (twN (n + 1) b.neg b.x)) % W32 ^ (n + 1) = bitsM o a b) ∧ bitsM o a b ≤ W32 ^ n := by
  have ca := (LN.good ha ea).2.2.2.2
  have cb := (LN.good hb eb).2.2.2.2
  have e : W32 ^ n = 2 ^ (32 * n) := by rw [Nat.pow_mul]; rfl
  have e1 : W32 ^ (n + 1) = 2 ^ (32 * n + 31 + 1) := by rw [show 32 * n + 31 + 1 = 32 * (n + 1) by omega, Nat.pow_mul]; rfl
  have pa : a.neg = true → 0 < a.x := fun h => by
    rcases Nat.eq_zero_or_pos a.x with h0 | h0
    · rw [ca.2.2 h0] at h; cases h
    · exact h0
  have pb : b.neg = true → 0 < b.x := fun h => by
    rcases Nat.eq_zero_or_pos b.x with h0 | h0
    · rw [cb.2.2 h0] at h; cases h
    · exact h0
  have la : a.x < 2 ^ (32 * n) := by rw [← e]; exact Nat.lt_of_lt_of_le (val_lt ha.1) (Nat.pow_le_pow_right (by decide) hn.1)
  have lb : b.x < 2 ^ (32 * n) := by rw [← e]; exact Nat.lt_of_lt_of_le (val_lt hb.1) (Nat.pow_le_pow_right (by decide) hn.2)
  have h32 : 2 ^ (32 * n) ≤ 2 ^ (32 * n + 31) := Nat.pow_le_pow_right (by omega) (by omega)
  have h33 : 2 ^ (32 * n + 31) < 2 ^ (32 * n + 31 + 1) := Nat.pow_lt_pow_right (by omega) (by omega)
  have l1a : a.x < W32 ^ (n + 1) := by rw [e1]; omega
  have l1b : b.x < W32 ^ (n + 1) := by rw [e1]; omega
  rw [twN_tw pa l1a, twN_tw pb l1b, show 32 * (n + 1) = 32 * n + 31 + 1 by omega]
  have xa := cpl_le a.neg a.x
  have xb := cpl_le b.neg b.x
  have hm := bmag_lt (o := o) (na := a.neg) (nb := b.neg) (x := a.x) (y := b.x) (n := 32 * n) (by omega) (by omega)
  have ht := nbop_tw (o := o) (N := 32 * n + 31 + 1) (na := a.neg) (nb := b.neg) (x := a.x) (y := b.x) (by omega) (by omega) pa pb
  refine ⟨nbop_top (by omega) (by omega) pa pb, fun h => ?_, fun h => ?_, ?_⟩
  · rw [ht]; unfold bitsM; rw [h]; rfl
  · rw [ht]
    unfold bitsM
    rw [h, if_pos rfl, e1]
    unfold tw
    rw [if_pos rfl, Nat.mod_eq_of_lt (by omega)]
    omega
  · rw [e]; unfold bitsM; split <;> omega
theorem bitsM_len {o n : Nat} {a b : LN} (h : bitsM o a b ≤ W32 ^ n) : (digs W32 (bitsM o a b)).length ≤ n + 1 := digs_len_le W32_gt (Nat.lt_of_le_of_lt h (Nat.pow_lt_pow_right (by decide) (by omega)))
end Go.Proofs.YtdmhkhnnomdkcaaGreatDoor

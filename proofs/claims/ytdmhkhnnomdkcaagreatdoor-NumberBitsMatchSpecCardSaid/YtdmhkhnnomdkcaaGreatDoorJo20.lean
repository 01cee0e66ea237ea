/-  -/
import Derived.Deep.RegionHeld3
import Derived.Lib.SliceRun
import Derived.Test.YtdmhkhnnomdkcaaGreatDoorJo3
import Derived.Test.YtdmhkhnnomdkcaaGreatDoorJo17
import Derived.Test.YtdmhkhnnomdkcaaGreatDoorJo18
import Derived.Test.YtdmhkhnnomdkcaaGreatDoorJo19
set_option linter.unusedVariables false
set_option linter.unusedSimpArgs false
/- Rational numbers in lowest terms, as a sign, a numerator and a denominator: plain facts. No program. -/
namespace Go.Proofs.YtdmhkhnnomdkcaaGreatDoor.RatB
set_option linter.unusedVariables false
set_option linter.unusedSimpArgs false

/-- A natural number with a sign. -/
def sg (neg : Bool) (x : Nat) : Int := if neg then -(x : Int) else (x : Int)
theorem sg_natAbs (neg : Bool) (x : Nat) : (sg neg x).natAbs = x := by unfold sg; cases neg <;> simp
theorem sg_zero (neg : Bool) : sg neg 0 = 0 := by unfold sg; cases neg <;> simp
theorem sg_and (neg : Bool) (x : Nat) : sg (neg && decide (0 < x)) x = sg neg x := by
  rcases Nat.eq_zero_or_pos x with h | h
  · subst h; rw [sg_zero, sg_zero]
  · simp [h]
theorem sg_mul (a b : Bool) (x y : Nat) : sg (a != b) (x * y) = sg a x * sg b y := by
  unfold sg; cases a <;> cases b <;> simp [Int.neg_mul, Int.mul_neg]

/-- A triple in lowest terms. -/
def Canon (neg : Bool) (x y : Nat) : Prop := 0 < y ∧ Nat.gcd x y = 1 ∧ (x = 0 → neg = false)
/-- The rational number. -/
def q (neg : Bool) (x y : Nat) : Rat := mkRat (sg neg x) y

theorem q_num {neg : Bool} {x y : Nat} (h : Canon neg x y) : (q neg x y).num = sg neg x ∧ (q neg x y).den = y := by
  have hc : (sg neg x).natAbs.Coprime y := by rw [sg_natAbs]; exact h.2.1
  have e := Rat.mk_eq_mkRat (sg neg x) y (Nat.pos_iff_ne_zero.1 h.1) hc
  unfold q
  rw [← e]
  exact ⟨rfl, rfl⟩
theorem q_inj {n1 n2 : Bool} {x1 x2 y1 y2 : Nat} (h1 : Canon n1 x1 y1) (h2 : Canon n2 x2 y2) (h : q n1 x1 y1 = q n2 x2 y2) : n1 = n2 ∧ x1 = x2 ∧ y1 = y2 := by
  have a := q_num h1
  have b := q_num h2
  rw [h] at a
  have e1 : sg n1 x1 = sg n2 x2 := a.1.symm.trans b.1
  have e2 : y1 = y2 := a.2.symm.trans b.2
  have e3 : x1 = x2 := by rw [← sg_natAbs n1 x1, e1, sg_natAbs]
  refine ⟨?_, e3, e2⟩
  subst e3
  rcases Nat.eq_zero_or_pos x1 with h0 | h0
  · rw [h1.2.2 h0, h2.2.2 h0]
  · cases n1 <;> cases n2 <;> simp [sg] at e1 <;> first | rfl | omega

/-- Lowest terms. -/
theorem canon_norm {neg : Bool} {n d : Nat} (hd : 0 < d) : Canon (neg && decide (0 < n)) (n / Nat.gcd n d) (d / Nat.gcd n d) := by
  have hg : 0 < Nat.gcd n d := Nat.gcd_pos_of_pos_right _ hd
  refine ⟨Nat.div_pos (Nat.le_of_dvd hd (Nat.gcd_dvd_right _ _)) hg, ?_, ?_⟩
  · rw [Nat.gcd_div (Nat.gcd_dvd_left _ _) (Nat.gcd_dvd_right _ _), Nat.div_self hg]
  · intro h
    have h0 : n = 0 := by
      have := Nat.div_mul_cancel (Nat.gcd_dvd_left n d)
      rw [h, Nat.zero_mul] at this
      exact this.symm
    subst h0
    simp
theorem q_norm {neg : Bool} {n d : Nat} (hd : 0 < d) : q (neg && decide (0 < n)) (n / Nat.gcd n d) (d / Nat.gcd n d) = mkRat (sg neg n) d := by
  have hg : 0 < Nat.gcd n d := Nat.gcd_pos_of_pos_right _ hd
  have e1 := Nat.div_mul_cancel (Nat.gcd_dvd_left n d)
  have e2 := Nat.div_mul_cancel (Nat.gcd_dvd_right n d)
  have hs : sg (neg && decide (0 < n)) (n / Nat.gcd n d) * (Nat.gcd n d : Int) = sg neg n := by
    rcases Nat.eq_zero_or_pos n with h0 | h0
    · subst h0; simp [sg_zero]
    · have : ((n / Nat.gcd n d : Nat) : Int) * (Nat.gcd n d : Int) = (n : Int) := by rw [← Int.natCast_mul, e1]
      unfold sg
      cases neg
      · simpa using this
      · simp only [h0, decide_true, Bool.and_true, if_true, Int.neg_mul]; rw [this]
  unfold q
  have := Rat.mkRat_mul_left (n := sg (neg && decide (0 < n)) (n / Nat.gcd n d)) (d := d / Nat.gcd n d) (a := Nat.gcd n d) (Nat.pos_iff_ne_zero.1 hg)
  rw [← this, Int.mul_comm, hs, Nat.mul_comm, e2]

/-- Sum, product, quotient. -/
theorem q_add {n1 n2 : Bool} {x1 x2 y1 y2 : Nat} (h1 : 0 < y1) (h2 : 0 < y2) : mkRat (sg n1 (x1 * y2) + sg n2 (x2 * y1)) (y1 * y2) = q n1 x1 y1 + q n2 x2 y2 := by
  unfold q
  rw [Rat.mkRat_add_mkRat _ _ (Nat.pos_iff_ne_zero.1 h1) (Nat.pos_iff_ne_zero.1 h2)]
  congr 1
  unfold sg; cases n1 <;> cases n2 <;> simp [Int.neg_mul]
theorem q_neg (n : Bool) (x y : Nat) : q (!n) x y = -q n x y := by
  unfold q
  rw [Rat.neg_mkRat]
  congr 1
  unfold sg; cases n <;> simp
theorem q_mul {n1 n2 : Bool} {x1 x2 y1 y2 : Nat} : mkRat (sg (n1 != n2) (x1 * x2)) (y1 * y2) = q n1 x1 y1 * q n2 x2 y2 := by
  unfold q
  rw [Rat.mkRat_mul_mkRat, sg_mul]
theorem q_zero {n : Bool} {x y : Nat} (h : Canon n x y) : q n x y = 0 ↔ x = 0 := by
  constructor
  · intro e
    have := (q_num h).1
    rw [e] at this
    have h2 : (sg n x).natAbs = 0 := by rw [← this]; rfl
    rwa [sg_natAbs] at h2
  · intro e
    subst e
    unfold q; rw [sg_zero]; simp
theorem q_inv {n : Bool} {x y : Nat} (hx : 0 < x) (hy : 0 < y) : q n y x * q n x y = 1 := by
  unfold q
  rw [Rat.mkRat_mul_mkRat]
  have e : sg n y * sg n x = ((y * x : Nat) : Int) := by unfold sg; cases n <;> simp [Int.neg_mul, Int.mul_neg]
  rw [e, Nat.mul_comm x y]
  have h : y * x ≠ 0 := Nat.pos_iff_ne_zero.1 (Nat.mul_pos hy hx)
  have := Rat.mkRat_mul_left (n := 1) (d := 1) (a := y * x) h
  rw [Int.mul_one, Nat.mul_one] at this
  rw [this]; rfl
end Go.Proofs.YtdmhkhnnomdkcaaGreatDoor.RatB
/- Numbers as lists of limbs, valid or not: what the operations answer, as plain functions. -/
namespace Go.Proofs.YtdmhkhnnomdkcaaGreatDoor
open Go.RowKit NumB
set_option linter.unusedVariables false
set_option linter.unusedSimpArgs false

/-- A sign and two lists of limbs. -/
structure LN where
  neg : Bool
  num : List Nat
  den : List Nat
/-- The zero number, which is not valid. -/
def zeroL : LN := ⟨false, [], []⟩
def LN.ok (a : LN) : Prop := Ok W32 a.num ∧ Ok W32 a.den
def LN.err (a : LN) : Int := checkL a.neg a.num a.den
def LN.x (a : LN) : Nat := val W32 a.num
def LN.y (a : LN) : Nat := val W32 a.den

/-- A value that reads as a number. -/
def GV (w : World) (v : Value) (a : LN) : Prop := ∃ A B, v = .agg #[.bool a.neg, A, B] ∧ Sl .u32 w A a.num ∧ Sl .u32 w B a.den ∧ a.ok
theorem GV.to {w w' : World} {v : Value} {a : LN} (h : GV w v a) (hb : Below w.heap.size w w') : GV w' v a := by
  obtain ⟨A, B, e, h1, h2, h3⟩ := h
  exact ⟨A, B, e, h1.to hb, h2.to hb, h3⟩
theorem GV.form {w : World} {v : Value} {a : LN} (h : GV w v a) : ∃ A n c B m d, v = .agg #[.bool a.neg, .slice A n c, .slice B m d] ∧ n = a.num.length ∧ m = a.den.length := by
  obtain ⟨A, B, rfl, ⟨A1, c1, rfl, _⟩, ⟨B1, d1, rfl, _⟩, _⟩ := h
  exact ⟨_, _, _, _, _, _, rfl, rfl, rfl⟩
theorem GV.parts {w : World} {s : Bool} {A B : Value} {a : LN} (h : GV w (.agg #[.bool s, A, B]) a) : s = a.neg ∧ Sl .u32 w A a.num ∧ Sl .u32 w B a.den ∧ a.ok := by
  obtain ⟨A', B', e, h1, h2, h3⟩ := h
  simp only [Value.agg.injEq, Array.mk.injEq, List.cons.injEq, Value.bool.injEq, and_true] at e
  obtain ⟨rfl, rfl, rfl⟩ := e
  exact ⟨rfl, h1, h2, h3⟩
theorem GV.ok {w : World} {v : Value} {a : LN} (h : GV w v a) : a.ok := by obtain ⟨_, _, _, _, _, h⟩ := h; exact h
theorem GV.zero (w : World) : GV w zeroNum zeroL := ⟨_, _, rfl, (OwnV.nil_ (B := 0) (T := 0) w).sl, (OwnV.nil_ (B := 0) (T := 0) w).sl, Ok.nil, Ok.nil⟩
theorem GV.of_num {w : World} {v : Value} {s : Bool} {x y : Nat} (h : NumV w v s x y) : GV w v ⟨s, digs W32 x, digs W32 y⟩ := by
  obtain ⟨A, B, e, h1, h2⟩ := h
  exact ⟨A, B, e, h1, h2, ok_digs W32_gt _, ok_digs W32_gt _⟩
theorem two_gv {w : World} {A1 A2 A3 A4 : Value} {a b : LN} (h1 : GV w (.agg #[.bool a.neg, A1, A2]) a) (h2 : GV w (.agg #[.bool b.neg, A3, A4]) b) : Two w a.neg b.neg A1 A2 A3 A4 a.num a.den b.num b.den :=
  ⟨h1.parts.2.1, h1.parts.2.2.1, h2.parts.2.1, h2.parts.2.2.1⟩

/-- A number and an error. -/
def SPost (w : World) (r : LN × Int) (e : Ending) (w' : World) : Prop := ∃ v, e = .returned (.tuple #[v, .int .i64 r.2]) ∧ GV w' v r.1 ∧ Below w.heap.size w w'
/-- An error, a number that is too long, or a number. -/
def opS (er : Int) (s : Bool) (x y : Nat) : LN × Int := if er = 0 then (if fitB x y then (⟨s, digs W32 x, digs W32 y⟩, 0) else (zeroL, 3)) else (zeroL, er)
theorem OpPost.toS {w w' : World} {er : Int} {s : Bool} {x y : Nat} {e : Ending} (h : OpPost w er s x y e w') : SPost w (opS er s x y) e w' := by
  unfold opS
  rcases h with ⟨h, he, hb⟩ | ⟨h, ⟨hf, v, he, hn, hb⟩ | ⟨hf, he, hb⟩⟩
  · rw [if_neg h]; exact ⟨_, he, GV.zero _, hb⟩
  · rw [if_pos h, if_pos hf]; exact ⟨_, he, GV.of_num hn, hb⟩
  · rw [if_pos h, if_neg (by rw [hf]; simp)]; exact ⟨_, he, GV.zero _, hb⟩
theorem FitPost.toS {w w' : World} {s : Bool} {x y : Nat} {e : Ending} (h : FitPost w s x y e w') : SPost w (opS 0 s x y) e w' := OpPost.toS (.inr ⟨rfl, h⟩)

/-- A fraction in lowest terms. -/
def fracS (er : Int) (s : Bool) (n d : Nat) : LN × Int := opS er (s && decide (0 < n)) (n / Nat.gcd n d) (d / Nat.gcd n d)
/-- The sum. -/
def addS (a b : LN) : LN × Int := fracS (err2 a.err b.err) (sumN a.neg (a.x * b.y) b.neg (b.x * a.y)).1 (sumN a.neg (a.x * b.y) b.neg (b.x * a.y)).2 (a.y * b.y)

theorem addNum_S (a b : LN) (va vb : Value) (w : World) (ha : GV w va a) (hb : GV w vb b) : Calls Tryz.prog 32 #[va, vb] w (SPost w (addS a b)) := by
  obtain ⟨A1, A2, rfl, h1, h2, o1, o2⟩ := ha
  obtain ⟨A3, A4, rfl, h3, h4, o3, o4⟩ := hb
  exact (addNum_any a.neg b.neg a.num a.den b.num b.den A1 A2 A3 A4 w ⟨h1, h2, h3, h4⟩ o1 o2 o3 o4 _ _ _ rfl rfl).mono fun _ _ h => OpPost.toS h

/-- A valid number in lowest terms. -/
theorem LN.good {a : LN} (ho : a.ok) (h : a.err = 0) : digs W32 a.x = a.num ∧ digs W32 a.y = a.den ∧ a.num.length ≤ 128 ∧ a.den.length ≤ 128 ∧ RatB.Canon a.neg a.x a.y := by
  obtain ⟨h1, h2, h3, h4, h5, h6, h7⟩ := checkL_zero ho.1 ho.2 h
  exact ⟨h1, h2, h3, h4, h5, h6, h7⟩
end Go.Proofs.YtdmhkhnnomdkcaaGreatDoor
/- fetterlocklaw1.sameLimbs, same. -/
namespace Go.Proofs.YtdmhkhnnomdkcaaGreatDoor
open Go.RowKit NumB
set_option linter.unusedVariables false
set_option linter.unusedSimpArgs false

def eqB (xs ys : List Nat) : Bool := decide (xs = ys)
theorem eqB_true {xs ys : List Nat} (h : xs = ys) : eqB xs ys = true := decide_eq_true h
theorem eqB_false {xs ys : List Nat} (h : xs ≠ ys) : eqB xs ys = false := decide_eq_false h

theorem take_step {xs ys : List Nat} {j : Nat} (h1 : j < xs.length) (h2 : j < ys.length) (h : xs.take j = ys.take j) (he : xs.getD j 0 = ys.getD j 0) : xs.take (j + 1) = ys.take (j + 1) := by
  rw [List.take_succ_eq_append_getElem h1, List.take_succ_eq_append_getElem h2, h, ← getD_lt h1, ← getD_lt h2, he]

set_option maxRecDepth 100000 in
set_option maxHeartbeats 1600000 in
theorem sameLimbs_any (xs ys : List Nat) (va vb : Value) (w : World) (ha : Sl .u32 w va xs) (hb : Sl .u32 w vb ys) :
    Calls Tryz.prog 30 #[va, vb] w fun e w' => e = .returned (.bool (eqB xs ys)) ∧ ∃ m, w' = w.drewN m := by
  obtain ⟨A, ca, rfl, hca, hma, hra⟩ := ha
  obtain ⟨A', cb, rfl, hcb, hmb, hrb⟩ := hb
  unfold maxLen at hma hmb
  generalize hn : xs.length = n at *
  generalize hm : ys.length = m at *
  by_cases hne : n = m
  · subst hne
    have HL := Lib.hid (And.intro hn hm)
    have HA := Lib.hid hra
    have HB := Lib.hid hrb
    clear hn hm hra hrb
    have hb1 : ((n : Int) != (n : Int)) = false := by simp
    go_enter Tryz.func30, Tryz.ntmps30
    go_wp2
    go_loopg [5] n (fun g i wr => ∃ j m : Nat, g + j = n ∧ i = .int .i64 (j : Int) ∧ Hid (xs.take j = ys.take j) ∧ Hid (wr = w.drewN m))
    case atStart => exact ⟨0, 0, by omega, rfl, rfl, rfl⟩
    case round =>
      obtain ⟨j, dr, hgj, rfl, HV, HW⟩ := hrel
      obtain rfl := HW.out
      by_cases h0 : j < n
      · obtain ⟨b, o, p, rfl, hb, hpe, hcp⟩ := HA.out.at_ (i := j) h0
        obtain ⟨b', o', q, rfl, hb', hqe, hcq⟩ := HB.out.at_ (i := j) h0
        have HP : Hid (xs.getD j 0 = p ∧ ys.getD j 0 = q) := ⟨hpe, hqe⟩
        clear hpe hqe
        have hi0 : (0 : Int) ≤ (j : Int) := by omega
        have hi1 : (j : Int) < (n : Int) := by omega
        by_cases hpq : p = q
        · subst hpq
          have hbn : ((p : Int) != (p : Int)) = false := by simp
          go_wp2
          go_quiet (fail)
          go_wp2
          go_roundg (gk - 1)
          case measure => omega
          case rel => exact ⟨j + 1, _, by omega, by go_num, take_step (by rw [HL.out.1]; exact h0) (by rw [HL.out.2]; exact h0) HV.out (HP.out.1.trans HP.out.2.symm), rfl⟩
        · have hbn : ((p : Int) != (q : Int)) = true := by rw [bne_iff_ne]; omega
          have E : Hid (eqB xs ys = false) := eqB_false (by rintro rfl; exact hpq (HP.out.1.symm.trans HP.out.2))
          clear hpq
          go_wp2
          go_quiet (fail)
          go_wp2
          go_ret
          rw [E.out]
          exact ⟨rfl, _, by rw [World.drewN_drewN]⟩
      · obtain rfl : j = n := by omega
        have E : Hid (eqB xs ys = true) := eqB_true (by have h := HV.out; rwa [List.take_of_length_le (by rw [HL.out.1]; exact Nat.le_refl _), List.take_of_length_le (by rw [HL.out.2]; exact Nat.le_refl _)] at h)
        go_wp2
        go_ret
        rw [E.out]
        exact ⟨rfl, dr, rfl⟩
  · have hb1 : ((n : Int) != (m : Int)) = true := by rw [bne_iff_ne]; omega
    have E : Hid (eqB xs ys = false) := eqB_false (by rintro rfl; omega)
    clear hn hm hne hra hrb
    go_enter Tryz.func30, Tryz.ntmps30
    go_wp2
    go_ret
    rw [E.out]
    exact ⟨rfl, 0, rfl⟩

/-- Two numbers are the same. -/
def sameB (a b : LN) : Bool := (a.neg == b.neg) && (eqB a.num b.num && eqB a.den b.den)
theorem sameB_true {a b : LN} (h : a = b) : sameB a b = true := by
  subst h
  unfold sameB
  rw [eqB_true rfl, eqB_true rfl]
  simp
end Go.Proofs.YtdmhkhnnomdkcaaGreatDoor
/- nat.FromDecimal: digits alone. Conditions: at most 10000 bytes. -/
namespace Go.Proofs.YtdmhkhnnomdkcaaGreatDoor
open Go.RowKit NumB
set_option linter.unusedVariables false
set_option linter.unusedSimpArgs false

theorem digs32_dec {x n : Nat} (h : x < 10 ^ n) : (digs W32 x).length ≤ n := digs_len_le W32_gt (Nat.lt_of_lt_of_le h (Nat.pow_le_pow_left (by decide) n))

theorem dig_at {t : ByteArray} (h : allDig t.data.toList = true) {i : Nat} (hi : i < t.size) : 48 ≤ t[i].toNat ∧ t[i].toNat ≤ 57 := by
  have hm : t[i] ∈ t.data.toList := by show t.data[i] ∈ t.data.toList; exact Array.getElem_mem_toList _
  exact of_decide_eq_true (List.all_eq_true.1 h _ hm)
theorem dval_at {t : ByteArray} {i c : Nat} (hi : i < t.size) (hc : t[i].toNat = c) : dval (t.data.toList.take (i + 1)) = dval (t.data.toList.take i) * 10 + (c - 48) := by
  rw [← hc]
  exact dval_take_succ (by simpa using hi)
theorem dval_take_lt {t : ByteArray} (h : allDig t.data.toList = true) {i : Nat} (hi : i ≤ 9) : dval (t.data.toList.take i) < 1000000000 := by
  refine Nat.lt_of_lt_of_le (dval_lt (allDig_take h i)) (Nat.le_trans (Nat.pow_le_pow_right (by decide) (Nat.le_trans (List.length_take_le _ _) hi)) (by decide))
theorem ten_le {i : Nat} (h : i ≤ 9) : 10 ^ i ≤ 1000000000 := Nat.le_trans (Nat.pow_le_pow_right (by decide) h) (by decide)
theorem small32 {x : Nat} (h : x ≤ 1000000000) : (digs W32 x).length ≤ 1 := digs_len_le W32_gt (by unfold W32; omega)

/-- What is left to be read, and what has been read. -/
def FD (w wr : World) (D : Nat) (t : ByteArray) (v : Value) : Prop := allDig t.data.toList = true ∧ ∃ a : Nat, Nat32 wr v a ∧ a * 10 ^ t.size + dval t.data.toList = D ∧ Below w.heap.size w wr

set_option maxRecDepth 100000 in
set_option maxHeartbeats 6400000 in
theorem fromDec_any (s : ByteArray) (w : World) (hs : s.size ≤ 10000) (hd : allDig s.data.toList = true) :
    Calls Tryz.prog 56 #[.string s] w (NPost w (dval s.data.toList)) := by
  have HDL : Hid (∀ a, a ≤ dval s.data.toList → (digs W32 a).length ≤ 10000) := fun a ha => Nat.le_trans (digs32_dec (Nat.lt_of_le_of_lt ha (dval_lt hd))) (by have := Lib.size_eq s; omega)
  have H0 := Lib.hid hd
  clear hd
  generalize hD : dval s.data.toList = D at *
  have HD := Lib.hid hD
  clear hD
  go_enter Tryz.func56, Tryz.ntmps56
  go_wp2
  go_loopg [0, 3, 4, 5, 6, 7] s.size (fun gk s0 s3 s4 s5 s6 s7 wr => ∃ t : ByteArray, s0 = .string t ∧ t.size = gk ∧ gk ≤ 10000 ∧ Hid (FD w wr D t s3))
  case atStart => exact ⟨s, rfl, rfl, hs, H0.out, 0, nat32_zero _, by rw [HD.out]; omega, Below.refl _ _⟩
  case round =>
    obtain ⟨t, rfl, htk, hk, HF⟩ := hrel
    have HTK := Lib.hid htk
    by_cases h0 : 0 < gk
    · obtain ⟨n, hn, hn1, hn9, hngk⟩ : ∃ n : Nat, ((gk : Int) - 1) % 9 + 1 = (n : Int) ∧ 1 ≤ n ∧ n ≤ 9 ∧ n ≤ gk := ⟨(gk - 1) % 9 + 1, by omega, by omega, by omega, by omega⟩
      go_wp2
      clear hn
      go_loopg [17, 5, 6, 7] n (fun gj s17 s5 s6 s7 wq => ∃ i p q : Nat, gj + i = n ∧ s17 = .int .i64 (i : Int) ∧ s5 = .int .u64 (p : Int) ∧ s6 = .int .u64 (q : Int) ∧ p < 1000000000 ∧ q ≤ 1000000000 ∧ Hid (p = dval (t.data.toList.take i) ∧ q = 10 ^ i) ∧ wr = wq)
      case atStart => exact ⟨0, 0, 1, by omega, rfl, rfl, rfl, by omega, by omega, ⟨rfl, rfl⟩, rfl⟩
      case round =>
        obtain ⟨i, p, q, hgj, rfl, rfl, rfl, hp, hq, HPQ, rfl⟩ := hrel
        by_cases hi : i < n
        · have hit : i < t.size := by omega
          obtain ⟨c, hc⟩ : ∃ c : Nat, t[i].toNat = c := ⟨_, rfl⟩
          have hdig : 48 ≤ c ∧ c ≤ 57 := by rw [← hc]; exact dig_at HF.out.1 hit
          have HE := Lib.hid (dval_at hit hc)
          go_wp2
          go_roundg (gk - 1)
          case measure => omega
          case rel =>
            have e1 : p * 10 + (c - 48) = dval (t.data.toList.take (i + 1)) := by rw [HE.out, ← HPQ.out.1]
            have e2 : q * 10 = 10 ^ (i + 1) := by rw [HPQ.out.2, Nat.pow_succ]
            exact ⟨i + 1, p * 10 + (c - 48), q * 10, by omega, by go_num, congrArg (Value.int .u64) (by omega), by go_num, by rw [e1]; exact dval_take_lt HF.out.1 (by omega), by rw [e2]; exact ten_le (by omega), ⟨e1, e2⟩, rfl⟩
        · obtain rfl : i = n := by omega
          obtain ⟨a, ha, hae, hab⟩ := HF.out.2
          have HA := Lib.hid ha
          have HAB := Lib.hid hab
          have hle : a ≤ D := by rw [← hae]; exact Nat.le_trans (Nat.le_mul_of_pos_right _ (Nat.pow_pos (by decide))) (Nat.le_add_right _ _)
          have HAL := Lib.hid (HDL.out a hle)
          have HAE := Lib.hid hae
          have HQL := Lib.hid (small32 hq)
          have HPL := Lib.hid (small32 (Nat.le_of_lt hp))
          clear ha hae hab hle
          go_wp2_with fail
          refine (of_any q _ (by omega)).mono ?_
          rintro e w1 ⟨v1, rfl, hn1, hb1⟩
          have HN1 := Lib.hid hn1
          have HB1 := Lib.hid hb1
          clear hn1 hb1
          go_wp2_with fail
          refine (mul_any a q _ _ _ (by exact HA.out.to HB1.out) (by exact HN1.out) (Nat.le_trans HAL.out (by omega)) (Nat.le_trans HQL.out (by omega))).mono ?_
          rintro e w2 ⟨v2, rfl, hn2, hb2⟩
          have HN2 := Lib.hid hn2
          have HB2 := Lib.hid (HB1.out.trans (hb2.mono HB1.out.size))
          clear hn2 hb2
          go_wp2_with fail
          refine (of_any p _ (by omega)).mono ?_
          rintro e w3 ⟨v3, rfl, hn3, hb3⟩
          have HN3 := Lib.hid hn3
          have HN4 := Lib.hid (HN2.out.to hb3)
          have HB3 := Lib.hid (HB2.out.trans (hb3.mono HB2.out.size))
          clear hn3 hb3
          go_wp2_with fail
          refine (plus_any (a * q) p _ _ _ (by exact HN4.out) (by exact HN3.out) (Nat.le_trans (digs_len_mul a q) (by have := HAL.out; have := HQL.out; omega)) (Nat.le_trans HPL.out (by omega))).mono ?_
          rintro e w4 ⟨v4, rfl, hn4, hb4⟩
          have HN5 := Lib.hid hn4
          have HB4 := Lib.hid (HB3.out.trans (hb4.mono HB3.out.size))
          clear hn4 hb4
          go_wp2
          go_roundg (t.size - i)
          case measure => omega
          case rel =>
            rw [← htk]
            have hdr : (t.extract i t.size).data.toList = t.data.toList.drop i := Lib.extract_to_end t i
            have hsz : (t.extract i t.size).size = t.size - i := by rw [Lib.size_eq, hdr, List.length_drop, ← Lib.size_eq]
            have hlen : t.data.toList.length = t.size := (Lib.size_eq t).symm
            refine ⟨_, rfl, hsz, by omega, ?_, a * q + p, HN5.out, ?_, HAB.out.trans (HB4.out.mono HAB.out.size)⟩
            · rw [hdr]; exact allDig_drop HF.out.1 _
            · rw [hdr, hsz, HPQ.out.1, HPQ.out.2, ← hlen, dval_split _ _ _ (by omega), hlen]; exact HAE.out
    · obtain rfl : gk = 0 := by omega
      go_wp2
      go_ret
      obtain ⟨a, ha, hae, hab⟩ := HF.out.2
      have h1 : t.data.toList = [] := List.eq_nil_of_length_eq_zero (by have := Lib.size_eq t; omega)
      rw [h1, htk, Nat.pow_zero, Nat.mul_one, dval_nil, Nat.add_zero] at hae
      subst hae
      exact ⟨_, rfl, ha, hab⟩
end Go.Proofs.YtdmhkhnnomdkcaaGreatDoor

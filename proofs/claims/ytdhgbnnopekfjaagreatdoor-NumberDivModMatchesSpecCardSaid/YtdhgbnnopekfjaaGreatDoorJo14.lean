/- Rational numbers in lowest terms, as a sign, a numerator and a denominator: plain facts. No program. Numbers as lists of limbs, valid or not: what the operations answer, as plain functions. fetterlocklaw1.sameLimbs, same. Decimal texts: plain facts. No program. -/
import Derived.Deep.RegionHeld3
import Derived.Test.YtdhgbnnopekfjaaGreatDoorJo1
import Derived.Test.YtdhgbnnopekfjaaGreatDoorJo13
set_option linter.unusedVariables false
set_option linter.unusedSimpArgs false
namespace Go.Proofs.YtdhgbnnopekfjaaGreatDoor.RatB
set_option linter.unusedVariables false
set_option linter.unusedSimpArgs false

/-- A natural number with a sign. -/
def sg (neg : Bool) (x : Nat) : Int := if neg then -(x : Int) else (x : Int)
theorem sg_natAbs (neg : Bool) (x : Nat) : (sg neg x).natAbs = x := by unfold sg; cases neg <;> simp
theorem sg_zero (neg : Bool) : sg neg 0 = 0 := by unfold sg; cases neg <;> simp
theorem sg_and (neg : Bool) (x : Nat) : sg (neg && decide (0 < x)) x = sg neg x := by
  rcases Nat.eq_zero_or_pos x with h | h
  · subst h; rw [sg_zero, sg_zero]
  · simp [h]
theorem sg_mul (a b : Bool) (x y : Nat) : sg (a != b) (x * y) = sg a x * sg b y := by
  unfold sg; cases a <;> cases b <;> simp [Int.neg_mul, Int.mul_neg]

/-- A triple in lowest terms. -/
def Canon (neg : Bool) (x y : Nat) : Prop := 0 < y ∧ Nat.gcd x y = 1 ∧ (x = 0 → neg = false)
/-- The rational number. -/
def q (neg : Bool) (x y : Nat) : Rat := mkRat (sg neg x) y

theorem q_num {neg : Bool} {x y : Nat} (h : Canon neg x y) : (q neg x y).num = sg neg x ∧ (q neg x y).den = y := by
  have hc : (sg neg x).natAbs.Coprime y := by rw [sg_natAbs]; exact h.2.1
  have e := Rat.mk_eq_mkRat (sg neg x) y (Nat.pos_iff_ne_zero.1 h.1) hc
  unfold q
  rw [← e]
  exact ⟨rfl, rfl⟩
theorem q_inj {n1 n2 : Bool} {x1 x2 y1 y2 : Nat} (h1 : Canon n1 x1 y1) (h2 : Canon n2 x2 y2) (h : q n1 x1 y1 = q n2 x2 y2) : n1 = n2 ∧ x1 = x2 ∧ y1 = y2 := by
  have a := q_num h1
  have b := q_num h2
  rw [h] at a
  have e1 : sg n1 x1 = sg n2 x2 := a.1.symm.trans b.1
  have e2 : y1 = y2 := a.2.symm.trans b.2
  have e3 : x1 = x2 := by rw [← sg_natAbs n1 x1, e1, sg_natAbs]
  refine ⟨?_, e3, e2⟩
  subst e3
  rcases Nat.eq_zero_or_pos x1 with h0 | h0
  · rw [h1.2.2 h0, h2.2.2 h0]
  · cases n1 <;> cases n2 <;> simp [sg] at e1 <;> first | rfl | omega

/-- Lowest terms. -/
theorem canon_norm {neg : Bool} {n d : Nat} (hd : 0 < d) : Canon (neg && decide (0 < n)) (n / Nat.gcd n d) (d / Nat.gcd n d) := by
  have hg : 0 < Nat.gcd n d := Nat.gcd_pos_of_pos_right _ hd
  refine ⟨Nat.div_pos (Nat.le_of_dvd hd (Nat.gcd_dvd_right _ _)) hg, ?_, ?_⟩
  · rw [Nat.gcd_div (Nat.gcd_dvd_left _ _) (Nat.gcd_dvd_right _ _), Nat.div_self hg]
  · intro h
    have h0 : n = 0 := by
      have := Nat.div_mul_cancel (Nat.gcd_dvd_left n d)
      rw [h, Nat.zero_mul] at this
      exact this.symm
    subst h0
    simp
theorem q_norm {neg : Bool} {n d : Nat} (hd : 0 < d) : q (neg && decide (0 < n)) (n / Nat.gcd n d) (d / Nat.gcd n d) = mkRat (sg neg n) d := by
  have hg : 0 < Nat.gcd n d := Nat.gcd_pos_of_pos_right _ hd
  have e1 := Nat.div_mul_cancel (Nat.gcd_dvd_left n d)
  have e2 := Nat.div_mul_cancel (Nat.gcd_dvd_right n d)
  have hs : sg (neg && decide (0 < n)) (n / Nat.gcd n d) * (Nat.gcd n d : Int) = sg neg n := by
    rcases Nat.eq_zero_or_pos n with h0 | h0
    · subst h0; simp [sg_zero]
    · have : ((n / Nat.gcd n d : Nat) : Int) * (Nat.gcd n d : Int) = (n : Int) := by rw [← Int.natCast_mul, e1]
      unfold sg
      cases neg
      · simpa using this
      · simp only [h0, decide_true, Bool.and_true, if_true, Int.neg_mul]; rw [this]
  unfold q
  have := Rat.mkRat_mul_left (n := sg (neg && decide (0 < n)) (n / Nat.gcd n d)) (d := d / Nat.gcd n d) (a := Nat.gcd n d) (Nat.pos_iff_ne_zero.1 hg)
  rw [← this, Int.mul_comm, hs, Nat.mul_comm, e2]

/-- Sum, product, quotient. -/
theorem q_add {n1 n2 : Bool} {x1 x2 y1 y2 : Nat} (h1 : 0 < y1) (h2 : 0 < y2) : mkRat (sg n1 (x1 * y2) + sg n2 (x2 * y1)) (y1 * y2) = q n1 x1 y1 + q n2 x2 y2 := by
  unfold q
  rw [Rat.mkRat_add_mkRat _ _ (Nat.pos_iff_ne_zero.1 h1) (Nat.pos_iff_ne_zero.1 h2)]
  congr 1
  unfold sg; cases n1 <;> cases n2 <;> simp [Int.neg_mul]
theorem q_neg (n : Bool) (x y : Nat) : q (!n) x y = -q n x y := by
  unfold q
  rw [Rat.neg_mkRat]
  congr 1
  unfold sg; cases n <;> simp
theorem q_mul {n1 n2 : Bool} {x1 x2 y1 y2 : Nat} : mkRat (sg (n1 != n2) (x1 * x2)) (y1 * y2) = q n1 x1 y1 * q n2 x2 y2 := by
  unfold q
  rw [Rat.mkRat_mul_mkRat, sg_mul]
theorem q_zero {n : Bool} {x y : Nat} (h : Canon n x y) : q n x y = 0 ↔ x = 0 := by
  constructor
  · intro e
    have := (q_num h).1
    rw [e] at this
    have h2 : (sg n x).natAbs = 0 := by rw [← this]; rfl
    rwa [sg_natAbs] at h2
  · intro e
    subst e
    unfold q; rw [sg_zero]; simp
theorem q_inv {n : Bool} {x y : Nat} (hx : 0 < x) (hy : 0 < y) : q n y x * q n x y = 1 := by
  unfold q
  rw [Rat.mkRat_mul_mkRat]
  have e : sg n y * sg n x = ((y * x : Nat) : Int) := by unfold sg; cases n <;> simp [Int.neg_mul, Int.mul_neg]
  rw [e, Nat.mul_comm x y]
  have h : y * x ≠ 0 := Nat.pos_iff_ne_zero.1 (Nat.mul_pos hy hx)
  have := Rat.mkRat_mul_left (n := 1) (d := 1) (a := y * x) h
  rw [Int.mul_one, Nat.mul_one] at this
  rw [this]; rfl
end Go.Proofs.YtdhgbnnopekfjaaGreatDoor.RatB
namespace Go.Proofs.YtdhgbnnopekfjaaGreatDoor
open Go.RowKit NumB
set_option linter.unusedVariables false
set_option linter.unusedSimpArgs false

/-- A sign and two lists of limbs. -/
structure LN where
  neg : Bool
  num : List Nat
  den : List Nat
/-- The zero number, which is not valid. -/
def zeroL : LN := ⟨false, [], []⟩
def LN.ok (a : LN) : Prop := Ok W32 a.num ∧ Ok W32 a.den
def LN.err (a : LN) : Int := checkL a.neg a.num a.den
def LN.x (a : LN) : Nat := val W32 a.num
def LN.y (a : LN) : Nat := val W32 a.den

/-- A value that reads as a number. -/
def GV (w : World) (v : Value) (a : LN) : Prop := ∃ A B, v = .agg #[.bool a.neg, A, B] ∧ Sl .u32 w A a.num ∧ Sl .u32 w B a.den ∧ a.ok
theorem GV.to {w w' : World} {v : Value} {a : LN} (h : GV w v a) (hb : Below w.heap.size w w') : GV w' v a := by
  obtain ⟨A, B, e, h1, h2, h3⟩ := h
  exact ⟨A, B, e, h1.to hb, h2.to hb, h3⟩
theorem GV.form {w : World} {v : Value} {a : LN} (h : GV w v a) : ∃ A n c B m d, v = .agg #[.bool a.neg, .slice A n c, .slice B m d] ∧ n = a.num.length ∧ m = a.den.length := by
  obtain ⟨A, B, rfl, ⟨A1, c1, rfl, _⟩, ⟨B1, d1, rfl, _⟩, _⟩ := h
  exact ⟨_, _, _, _, _, _, rfl, rfl, rfl⟩
theorem GV.parts {w : World} {s : Bool} {A B : Value} {a : LN} (h : GV w (.agg #[.bool s, A, B]) a) : s = a.neg ∧ Sl .u32 w A a.num ∧ Sl .u32 w B a.den ∧ a.ok := by
  obtain ⟨A', B', e, h1, h2, h3⟩ := h
  simp only [Value.agg.injEq, Array.mk.injEq, List.cons.injEq, Value.bool.injEq, and_true] at e
  obtain ⟨rfl, rfl, rfl⟩ := e
  exact ⟨rfl, h1, h2, h3⟩
theorem GV.ok {w : World} {v : Value} {a : LN} (h : GV w v a) : a.ok := by obtain ⟨_, _, _, _, _, h⟩ := h; exact h
theorem GV.zero (w : World) : GV w zeroNum zeroL := ⟨_, _, rfl, (OwnV.nil_ (B := 0) (T := 0) w).sl, (OwnV.nil_ (B := 0) (T := 0) w).sl, Ok.nil, Ok.nil⟩
theorem GV.of_num {w : World} {v : Value} {s : Bool} {x y : Nat} (h : NumV w v s x y) : GV w v ⟨s, digs W32 x, digs W32 y⟩ := by
  obtain ⟨A, B, e, h1, h2⟩ := h
  exact ⟨A, B, e, h1, h2, ok_digs W32_gt _, ok_digs W32_gt _⟩
theorem two_gv {w : World} {A1 A2 A3 A4 : Value} {a b : LN} (h1 : GV w (.agg #[.bool a.neg, A1, A2]) a) (h2 : GV w (.agg #[.bool b.neg, A3, A4]) b) : Two w a.neg b.neg A1 A2 A3 A4 a.num a.den b.num b.den :=
  ⟨h1.parts.2.1, h1.parts.2.2.1, h2.parts.2.1, h2.parts.2.2.1⟩

/-- A number and an error. -/
def SPost (w : World) (r : LN × Int) (e : Ending) (w' : World) : Prop := ∃ v, e = .returned (.tuple #[v, .int .i64 r.2]) ∧ GV w' v r.1 ∧ Below w.heap.size w w'
/-- An error, a number that is too long, or a number. -/
def opS (er : Int) (s : Bool) (x y : Nat) : LN × Int := if er = 0 then (if fitB x y then (⟨s, digs W32 x, digs W32 y⟩, 0) else (zeroL, 3)) else (zeroL, er)
theorem OpPost.toS {w w' : World} {er : Int} {s : Bool} {x y : Nat} {e : Ending} (h : OpPost w er s x y e w') : SPost w (opS er s x y) e w' := by
  unfold opS
  rcases h with ⟨h, he, hb⟩ | ⟨h, ⟨hf, v, he, hn, hb⟩ | ⟨hf, he, hb⟩⟩
  · rw [if_neg h]; exact ⟨_, he, GV.zero _, hb⟩
  · rw [if_pos h, if_pos hf]; exact ⟨_, he, GV.of_num hn, hb⟩
  · rw [if_pos h, if_neg (by rw [hf]; simp)]; exact ⟨_, he, GV.zero _, hb⟩
theorem FitPost.toS {w w' : World} {s : Bool} {x y : Nat} {e : Ending} (h : FitPost w s x y e w') : SPost w (opS 0 s x y) e w' := OpPost.toS (.inr ⟨rfl, h⟩)

/-- A fraction in lowest terms. -/
def fracS (er : Int) (s : Bool) (n d : Nat) : LN × Int := opS er (s && decide (0 < n)) (n / Nat.gcd n d) (d / Nat.gcd n d)
/-- The sum. -/
def addS (a b : LN) : LN × Int := fracS (err2 a.err b.err) (sumN a.neg (a.x * b.y) b.neg (b.x * a.y)).1 (sumN a.neg (a.x * b.y) b.neg (b.x * a.y)).2 (a.y * b.y)

theorem addNum_S (a b : LN) (va vb : Value) (w : World) (ha : GV w va a) (hb : GV w vb b) : Calls Tryz.prog 13 #[va, vb] w (SPost w (addS a b)) := by
  obtain ⟨A1, A2, rfl, h1, h2, o1, o2⟩ := ha
  obtain ⟨A3, A4, rfl, h3, h4, o3, o4⟩ := hb
  exact (addNum_any a.neg b.neg a.num a.den b.num b.den A1 A2 A3 A4 w ⟨h1, h2, h3, h4⟩ o1 o2 o3 o4 _ _ _ rfl rfl).mono fun _ _ h => OpPost.toS h

/-- A valid number in lowest terms. -/
theorem LN.good {a : LN} (ho : a.ok) (h : a.err = 0) : digs W32 a.x = a.num ∧ digs W32 a.y = a.den ∧ a.num.length ≤ 128 ∧ a.den.length ≤ 128 ∧ RatB.Canon a.neg a.x a.y := by
  obtain ⟨h1, h2, h3, h4, h5, h6, h7⟩ := checkL_zero ho.1 ho.2 h
  exact ⟨h1, h2, h3, h4, h5, h6, h7⟩
end Go.Proofs.YtdhgbnnopekfjaaGreatDoor
namespace Go.Proofs.YtdhgbnnopekfjaaGreatDoor
open Go.RowKit NumB
set_option linter.unusedVariables false
set_option linter.unusedSimpArgs false

def eqB (xs ys : List Nat) : Bool := decide (xs = ys)
theorem eqB_true {xs ys : List Nat} (h : xs = ys) : eqB xs ys = true := decide_eq_true h
theorem eqB_false {xs ys : List Nat} (h : xs ≠ ys) : eqB xs ys = false := decide_eq_false h

theorem take_step {xs ys : List Nat} {j : Nat} (h1 : j < xs.length) (h2 : j < ys.length) (h : xs.take j = ys.take j) (he : xs.getD j 0 = ys.getD j 0) : xs.take (j + 1) = ys.take (j + 1) := by
  rw [List.take_succ_eq_append_getElem h1, List.take_succ_eq_append_getElem h2, h, ← getD_lt h1, ← getD_lt h2, he]

set_option maxRecDepth 100000 in
set_option maxHeartbeats 1600000 in
theorem sameLimbs_any (xs ys : List Nat) (va vb : Value) (w : World) (ha : Sl .u32 w va xs) (hb : Sl .u32 w vb ys) :
    Calls Tryz.prog 45 #[va, vb] w fun e w' => e = .returned (.bool (eqB xs ys)) ∧ ∃ m, w' = w.drewN m := by
  obtain ⟨A, ca, rfl, hca, hma, hra⟩ := ha
  obtain ⟨A', cb, rfl, hcb, hmb, hrb⟩ := hb
  unfold maxLen at hma hmb
  generalize hn : xs.length = n at *
  generalize hm : ys.length = m at *
  by_cases hne : n = m
  · subst hne
    have HL := Lib.hid (And.intro hn hm)
    have HA := Lib.hid hra
    have HB := Lib.hid hrb
    clear hn hm hra hrb
    have hb1 : ((n : Int) != (n : Int)) = false := by simp
    go_enter Tryz.func45, Tryz.ntmps45
    go_wp2
    go_loopg [5] n (fun g i wr => ∃ j m : Nat, g + j = n ∧ i = .int .i64 (j : Int) ∧ Hid (xs.take j = ys.take j) ∧ Hid (wr = w.drewN m))
    case atStart => exact ⟨0, 0, by omega, rfl, rfl, rfl⟩
    case round =>
      obtain ⟨j, dr, hgj, rfl, HV, HW⟩ := hrel
      obtain rfl := HW.out
      by_cases h0 : j < n
      · obtain ⟨b, o, p, rfl, hb, hpe, hcp⟩ := HA.out.at_ (i := j) h0
        obtain ⟨b', o', q, rfl, hb', hqe, hcq⟩ := HB.out.at_ (i := j) h0
        have HP : Hid (xs.getD j 0 = p ∧ ys.getD j 0 = q) := ⟨hpe, hqe⟩
        clear hpe hqe
        have hi0 : (0 : Int) ≤ (j : Int) := by omega
        have hi1 : (j : Int) < (n : Int) := by omega
        by_cases hpq : p = q
        · subst hpq
          have hbn : ((p : Int) != (p : Int)) = false := by simp
          go_wp2
          go_quiet (fail)
          go_wp2
          go_roundg (gk - 1)
          case measure => omega
          case rel => exact ⟨j + 1, _, by omega, by go_num, take_step (by rw [HL.out.1]; exact h0) (by rw [HL.out.2]; exact h0) HV.out (HP.out.1.trans HP.out.2.symm), rfl⟩
        · have hbn : ((p : Int) != (q : Int)) = true := by rw [bne_iff_ne]; omega
          have E : Hid (eqB xs ys = false) := eqB_false (by rintro rfl; exact hpq (HP.out.1.symm.trans HP.out.2))
          clear hpq
          go_wp2
          go_quiet (fail)
          go_wp2
          go_ret
          rw [E.out]
          exact ⟨rfl, _, by rw [World.drewN_drewN]⟩
      · obtain rfl : j = n := by omega
        have E : Hid (eqB xs ys = true) := eqB_true (by have h := HV.out; rwa [List.take_of_length_le (by rw [HL.out.1]; exact Nat.le_refl _), List.take_of_length_le (by rw [HL.out.2]; exact Nat.le_refl _)] at h)
        go_wp2
        go_ret
        rw [E.out]
        exact ⟨rfl, dr, rfl⟩
  · have hb1 : ((n : Int) != (m : Int)) = true := by rw [bne_iff_ne]; omega
    have E : Hid (eqB xs ys = false) := eqB_false (by rintro rfl; omega)
    clear hn hm hne hra hrb
    go_enter Tryz.func45, Tryz.ntmps45
    go_wp2
    go_ret
    rw [E.out]
    exact ⟨rfl, 0, rfl⟩

/-- Two numbers are the same. -/
def sameB (a b : LN) : Bool := (a.neg == b.neg) && (eqB a.num b.num && eqB a.den b.den)
theorem sameB_true {a b : LN} (h : a = b) : sameB a b = true := by
  subst h
  unfold sameB
  rw [eqB_true rfl, eqB_true rfl]
  simp
end Go.Proofs.YtdhgbnnopekfjaaGreatDoor
namespace Go.Proofs.YtdhgbnnopekfjaaGreatDoor.NumB

/-- The value of decimal digits, most significant first. -/
def dval (l : List UInt8) : Nat := l.foldl (fun a c => a * 10 + (c.toNat - 48)) 0
def isDig (c : UInt8) : Bool := decide (48 ≤ c.toNat ∧ c.toNat ≤ 57)
def allDig (l : List UInt8) : Bool := l.all isDig
/-- Digits alone, at least one. -/
def digitsB (l : List UInt8) : Bool := !l.isEmpty && allDig l

theorem foldl_dval (l : List UInt8) (a : Nat) : l.foldl (fun a c => a * 10 + (c.toNat - 48)) a = a * 10 ^ l.length + dval l := by
  induction l generalizing a with
  | nil => simp [dval]
  | cons c l ih =>
    unfold dval
    rw [List.foldl_cons, List.foldl_cons, ih, ih (0 * 10 + (c.toNat - 48)), List.length_cons, Nat.pow_succ, Nat.zero_mul, Nat.zero_add, Nat.add_mul, Nat.mul_assoc, Nat.mul_comm 10]
    omega
theorem dval_append (l m : List UInt8) : dval (l ++ m) = dval l * 10 ^ m.length + dval m := by
  have : dval (l ++ m) = m.foldl (fun a c => a * 10 + (c.toNat - 48)) (dval l) := by unfold dval; rw [List.foldl_append]
  rw [this, foldl_dval]
theorem dval_nil : dval [] = 0 := rfl
theorem dval_lt {l : List UInt8} (h : allDig l = true) : dval l < 10 ^ l.length := by
  induction l with
  | nil => simp [dval]
  | cons c l ih =>
    simp only [allDig, List.all_cons, Bool.and_eq_true] at h
    have h1 := ih h.2
    have h2 : c.toNat ≤ 57 := (of_decide_eq_true h.1).2
    have e : dval (c :: l) = dval [c] * 10 ^ l.length + dval l := dval_append [c] l
    have e1 : dval [c] = c.toNat - 48 := by simp [dval]
    rw [e, e1, List.length_cons, Nat.pow_succ]
    have h3 : (c.toNat - 48) * 10 ^ l.length ≤ 9 * 10 ^ l.length := Nat.mul_le_mul_right _ (by omega)
    omega
theorem allDig_take {l : List UInt8} (h : allDig l = true) (n : Nat) : allDig (l.take n) = true := List.all_eq_true.2 fun x hx => List.all_eq_true.1 h x (List.mem_of_mem_take hx)
theorem allDig_drop {l : List UInt8} (h : allDig l = true) (n : Nat) : allDig (l.drop n) = true := List.all_eq_true.2 fun x hx => List.all_eq_true.1 h x (List.mem_of_mem_drop hx)
theorem dval_take_succ {l : List UInt8} {i : Nat} (h : i < l.length) : dval (l.take (i + 1)) = dval (l.take i) * 10 + (l[i].toNat - 48) := by
  rw [List.take_succ_eq_append_getElem h, dval_append]
  simp [dval]
theorem dval_split (l : List UInt8) (n : Nat) (a : Nat) (h : n ≤ l.length) : (a * 10 ^ n + dval (l.take n)) * 10 ^ (l.length - n) + dval (l.drop n) = a * 10 ^ l.length + dval l := by
  have e : dval l = dval (l.take n) * 10 ^ (l.length - n) + dval (l.drop n) := by
    conv => lhs; rw [← List.take_append_drop n l]
    rw [dval_append, List.length_drop]
  have e2 : 10 ^ l.length = 10 ^ n * 10 ^ (l.length - n) := by rw [← Nat.pow_add]; congr 1; omega
  rw [e, e2, Nat.add_mul, Nat.mul_assoc, Nat.add_assoc]

/-- The decimal digits of a number, most significant first, as bytes; none for 0. -/
def decL (x : Nat) : List UInt8 := ((digs 10 x).map fun d => (48 + d).toUInt8).reverse
/-- Its text. -/
def dec (x : Nat) : List UInt8 := if x = 0 then [48] else decL x

/-- Nine digits of a number below 10^9, most significant first. -/
def pad9 (g : Nat) : List Nat := (List.range 9).map fun k => g / 10 ^ (8 - k) % 10
theorem pad9_len (g : Nat) : (pad9 g).length = 9 := by simp [pad9]
theorem pad9_get {g k : Nat} (h : k < 9) : (pad9 g).getD k 0 = g / 10 ^ (8 - k) % 10 := by
  rw [getD_lt (by rw [pad9_len]; exact h)]; simp [pad9]
theorem pad9_ok (g : Nat) : Ok 10 (pad9 g) := by
  intro d hd
  obtain ⟨k, _, rfl⟩ := List.mem_map.1 hd
  exact Nat.mod_lt _ (by decide)
theorem pad9_val {g : Nat} (h : g < 1000000000) : val 10 (pad9 g).reverse = g := by
  simp [pad9, List.range, List.range.loop]
  omega

theorem flat_ok {l : List Nat} : Ok 10 (l.flatMap pad9) := by
  intro d hd
  obtain ⟨g, _, h⟩ := List.mem_flatMap.1 hd
  exact pad9_ok g d h
theorem flat_val {l : List Nat} (h : Ok 1000000000 l) : val 10 (l.reverse.flatMap pad9).reverse = val 1000000000 l := by
  induction l with
  | nil => rfl
  | cons g l ih =>
    rw [List.reverse_cons, List.flatMap_append, List.reverse_append, val_append, ih h.tail]
    simp only [List.flatMap_cons, List.flatMap_nil, List.append_nil]
    rw [pad9_val h.head, List.length_reverse, pad9_len, val_cons]

/-- Without leading zeros. -/
theorem strip_eq {l : List Nat} {x : Nat} (ho : Ok 10 l) (hv : val 10 l.reverse = x) : l.dropWhile (· == 0) = (digs 10 x).reverse := by
  have key : ∀ l : List Nat, Ok 10 l → (l.dropWhile (· == 0)) = (digs 10 (val 10 l.reverse)).reverse := by
    intro l
    induction l with
    | nil => intro _; simp [digs_zero]
    | cons d l ih =>
      intro ho
      rw [List.dropWhile_cons]
      by_cases hd : d = 0
      · subst hd
        simp only [beq_self_eq_true, if_true]
        rw [ih ho.tail]
        congr 2
        rw [List.reverse_cons, val_append]
        simp
      · rw [if_neg (by simpa using hd)]
        have : digs 10 (val 10 (d :: l).reverse) = (d :: l).reverse := by
          refine digs_val (by decide) (fun x hx => ho x (List.mem_reverse.1 hx)) ?_
          unfold Top
          rw [List.getLast?_reverse]
          simp [hd]
        rw [this, List.reverse_reverse]
  rw [← hv]
  exact key l ho
theorem decL_eq (x : Nat) : decL x = ((digs 10 x).reverse).map fun d => (48 + d).toUInt8 := by unfold decL; rw [List.map_reverse]
theorem groups_dec {x : Nat} : ((((digs 1000000000 x).reverse).flatMap pad9).dropWhile (· == 0)).map (fun d => (48 + d).toUInt8) = decL x := by
  rw [decL_eq, strip_eq flat_ok (flat_val (ok_digs (by decide) x)), val_digs (by decide)]
theorem decL_ne {x : Nat} (h : x ≠ 0) : decL x ≠ [] := by
  unfold decL
  intro e
  have := congrArg List.length e
  simp at this
  exact h ((digs_nil (B := 10) (by decide)).1 this)
theorem dec_eleven : dec 11 = [49, 49] := by
  have : digs 10 11 = [1, 1] := digs_eq (by decide) (Ok.cons (by decide) (Ok.cons (by decide) Ok.nil)) (by simp [Top]) (by simp)
  simp [dec, decL, this]
theorem dec_two : dec 2 = [50] := by
  have : digs 10 2 = [2] := digs_eq (by decide) (Ok.cons (by decide) Ok.nil) (by simp [Top]) (by simp)
  simp [dec, decL, this]
end Go.Proofs.YtdhgbnnopekfjaaGreatDoor.NumB

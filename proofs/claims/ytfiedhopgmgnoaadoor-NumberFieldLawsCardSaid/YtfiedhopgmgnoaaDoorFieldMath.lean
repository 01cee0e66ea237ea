/- The field laws, of the plain functions. -/
import Derived.Test.YtfiedhopgmgnoaaDoorSame
import Derived.Test.YtfiedhopgmgnoaaDoorCounted
namespace Go.Proofs.YtfiedhopgmgnoaaDoor
open Go.RowKit NumB
set_option linter.unusedVariables false
set_option linter.unusedSimpArgs false

def LN.q (a : LN) : Rat := RatB.q a.neg a.x a.y
def mulS (a b : LN) : LN × Int := fracS (err2 a.err b.err) (a.neg != b.neg) (a.x * b.x) (a.y * b.y)
def subS (a b : LN) : LN × Int := fracS (err2 a.err b.err) (sumN a.neg (a.x * b.y) (b.neg != true) (b.x * a.y)).1 (sumN a.neg (a.x * b.y) (b.neg != true) (b.x * a.y)).2 (a.y * b.y)
def divS (a b : LN) : LN × Int := if err2 a.err b.err = 0 then (if b.num.length = 0 then (zeroL, 10) else fracS 0 (a.neg != b.neg) (a.x * b.y) (a.y * b.x)) else (zeroL, err2 a.err b.err)

theorem sumN_sg (na nb : Bool) (x y : Nat) : RatB.sg (sumN na x nb y).1 (sumN na x nb y).2 = RatB.sg na x + RatB.sg nb y := by
  unfold sumN
  by_cases h : na = nb
  · subst h; rw [if_pos rfl]; unfold RatB.sg; cases na <;> simp <;> omega
  · rw [if_neg h]
    by_cases h2 : y ≤ x
    · rw [if_pos h2]; unfold RatB.sg; cases na <;> cases nb <;> simp at h ⊢ <;> omega
    · rw [if_neg h2]; unfold RatB.sg; cases na <;> cases nb <;> simp at h ⊢ <;> omega

theorem opS_err {er : Int} {s : Bool} {x y : Nat} (h : (opS er s x y).2 = 0) : er = 0 := by
  unfold opS at h
  by_cases he : er = 0
  · exact he
  · rw [if_neg he] at h; exact h
theorem fracS_ok {s : Bool} {n d : Nat} (hd : 0 < d) (h : (fracS 0 s n d).2 = 0) : (fracS 0 s n d).1.ok ∧ (fracS 0 s n d).1.err = 0 ∧ (fracS 0 s n d).1.q = mkRat (RatB.sg s n) d := by
  have hc := RatB.canon_norm (neg := s) (n := n) hd
  have hq := RatB.q_norm (neg := s) (n := n) hd
  unfold fracS opS at *
  rw [if_pos rfl] at h ⊢
  generalize (s && decide (0 < n)) = s' at *
  generalize n / Nat.gcd n d = x' at *
  generalize d / Nat.gcd n d = y' at *
  cases hf : fitB x' y' with
  | false => rw [hf] at h; simp at h
  | true =>
    have hf2 := of_decide_eq_true (show decide _ = true from hf)
    simp only [if_true]
    refine ⟨⟨ok_digs W32_gt _, ok_digs W32_gt _⟩, checkL_good hf2.1 hf2.2 hc.1 hc.2.1 hc.2.2, ?_⟩
    unfold LN.q LN.x LN.y
    rw [val_digs W32_gt, val_digs W32_gt]
    exact hq
theorem fracS_eq {s : Bool} {n d : Nat} {c : LN} (hd : 0 < d) (hc : c.ok) (he : c.err = 0) (h : mkRat (RatB.sg s n) d = c.q) : fracS 0 s n d = (c, 0) := by
  obtain ⟨g1, g2, g3, g4, g5⟩ := LN.good hc he
  have hcn := RatB.canon_norm (neg := s) (n := n) hd
  have hq := RatB.q_norm (neg := s) (n := n) hd
  rw [h] at hq
  obtain ⟨e1, e2, e3⟩ := RatB.q_inj hcn g5 hq
  unfold fracS opS
  rw [if_pos rfl, e1, e2, e3, if_pos, g1, g2]
  exact decide_eq_true ⟨by rw [g1]; exact g3, by rw [g2]; exact g4⟩

theorem addS_ok {a b : LN} (ha : a.ok) (hb : b.ok) (h : (addS a b).2 = 0) : a.err = 0 ∧ b.err = 0 ∧ (addS a b).1.ok ∧ (addS a b).1.err = 0 ∧ (addS a b).1.q = a.q + b.q := by
  have he := opS_err h
  obtain ⟨e1, e2⟩ := err2_zero.1 he
  have ga := (LN.good ha e1).2.2.2.2
  have gb := (LN.good hb e2).2.2.2.2
  unfold addS at *
  rw [he] at h ⊢
  obtain ⟨f1, f2, f3⟩ := fracS_ok (Nat.mul_pos ga.1 gb.1) h
  refine ⟨e1, e2, f1, f2, f3.trans ?_⟩
  rw [sumN_sg, RatB.q_add ga.1 gb.1]; rfl
theorem mulS_ok {a b : LN} (ha : a.ok) (hb : b.ok) (h : (mulS a b).2 = 0) : a.err = 0 ∧ b.err = 0 ∧ (mulS a b).1.ok ∧ (mulS a b).1.err = 0 ∧ (mulS a b).1.q = a.q * b.q := by
  have he := opS_err h
  obtain ⟨e1, e2⟩ := err2_zero.1 he
  have ga := (LN.good ha e1).2.2.2.2
  have gb := (LN.good hb e2).2.2.2.2
  unfold mulS at *
  rw [he] at h ⊢
  obtain ⟨f1, f2, f3⟩ := fracS_ok (Nat.mul_pos ga.1 gb.1) h
  refine ⟨e1, e2, f1, f2, f3.trans ?_⟩
  rw [RatB.q_mul]; rfl
theorem addS_eq {a b c : LN} (ha : a.ok) (hb : b.ok) (hc : c.ok) (ea : a.err = 0) (eb : b.err = 0) (ec : c.err = 0) (h : a.q + b.q = c.q) : addS a b = (c, 0) := by
  have ga := (LN.good ha ea).2.2.2.2
  have gb := (LN.good hb eb).2.2.2.2
  unfold addS
  rw [err2_zero.2 ⟨ea, eb⟩]
  refine fracS_eq (Nat.mul_pos ga.1 gb.1) hc ec ?_
  rw [sumN_sg, RatB.q_add ga.1 gb.1, ← h]; rfl
theorem subS_eq {a b c : LN} (ha : a.ok) (hb : b.ok) (hc : c.ok) (ea : a.err = 0) (eb : b.err = 0) (ec : c.err = 0) (h : a.q - b.q = c.q) : subS a b = (c, 0) := by
  have ga := (LN.good ha ea).2.2.2.2
  have gb := (LN.good hb eb).2.2.2.2
  unfold subS
  rw [err2_zero.2 ⟨ea, eb⟩]
  refine fracS_eq (Nat.mul_pos ga.1 gb.1) hc ec ?_
  rw [sumN_sg, RatB.q_add ga.1 gb.1, ← h, show (b.neg != true) = !b.neg by cases b.neg <;> rfl, RatB.q_neg, Rat.sub_eq_add_neg]; rfl
theorem divS_eq {a b c : LN} (ha : a.ok) (hb : b.ok) (hc : c.ok) (ea : a.err = 0) (eb : b.err = 0) (ec : c.err = 0) (hn : b.num.length ≠ 0) (h : c.q * b.q = a.q) : divS a b = (c, 0) := by
  obtain ⟨_, _, _, _, ga⟩ := LN.good ha ea
  obtain ⟨g1, _, _, _, gb⟩ := LN.good hb eb
  have hx : 0 < b.x := by
    rcases Nat.eq_zero_or_pos b.x with h0 | h0
    · rw [h0, digs_zero] at g1; exact absurd (by rw [← g1]; rfl) hn
    · exact h0
  unfold divS
  rw [if_pos (err2_zero.2 ⟨ea, eb⟩), if_neg hn]
  refine fracS_eq (Nat.mul_pos ga.1 hx) hc ec ?_
  have e1 : mkRat (RatB.sg (a.neg != b.neg) (a.x * b.y)) (a.y * b.x) = RatB.q a.neg a.x a.y * RatB.q b.neg b.y b.x := RatB.q_mul
  have e2 := RatB.q_inv (n := b.neg) hx gb.1
  rw [e1]
  have e3 : RatB.q a.neg a.x a.y = c.q * RatB.q b.neg b.x b.y := h.symm
  rw [e3, Rat.mul_assoc, Rat.mul_comm (RatB.q b.neg b.x b.y), e2, Rat.mul_one]

/-- What the law asks. -/
theorem field_law {a b c : LN} (ha : a.ok) (hb : b.ok) (hc : c.ok) (h1 : (addS a b).2 = 0) (h2 : (mulS (addS a b).1 c).2 = 0) (h3 : (mulS a c).2 = 0) (h4 : (mulS b c).2 = 0) :
    addS (mulS a c).1 (mulS b c).1 = ((mulS (addS a b).1 c).1, 0) ∧ subS (addS a b).1 b = (a, 0) ∧ c.err = 0 ∧ (c.num.length ≠ 0 → divS (mulS a c).1 c = (a, 0)) := by
  obtain ⟨a1, a2, a3, a4, a5⟩ := addS_ok ha hb h1
  obtain ⟨b1, b2, b3, b4, b5⟩ := mulS_ok a3 hc h2
  obtain ⟨c1, c2, c3, c4, c5⟩ := mulS_ok ha hc h3
  obtain ⟨d1, d2, d3, d4, d5⟩ := mulS_ok hb hc h4
  refine ⟨addS_eq c3 d3 b3 c4 d4 b4 ?_, subS_eq a3 hb ha a4 a2 a1 ?_, b2, fun hn => divS_eq c3 hc ha c4 b2 a1 hn c5.symm⟩
  · rw [c5, d5, b5, a5, Rat.add_mul]
  · rw [a5]; grind
end Go.Proofs.YtfiedhopgmgnoaaDoor

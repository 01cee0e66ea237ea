/-  -/
import Derived.Deep.RegionHeld3
import Derived.Test.YtkamkaehlofgpaaJo11
import Derived.Test.YtkamkaehlofgpaaJo19
import Derived.Test.YtkamkaehlofgpaaJo20
import Derived.Test.YtkamkaehlofgpaaJo23
set_option linter.unusedVariables false
set_option linter.unusedSimpArgs false
/- number.Parse, at any text. -/
namespace Go.Proofs.Ytkamkaehlofgpaa
open Go.RowKit NumB
set_option linter.unusedVariables false
set_option linter.unusedSimpArgs false

/-- The parts of a text: the sign, the text before and behind the r, whether there is one. -/
def pNeg (l : List UInt8) : Bool := Lib.hasPrefix l [45]
def pCut (l : List UInt8) : List UInt8 × List UInt8 × Bool := cutB (Lib.trimPrefix l [45]) 114
def pDen (l : List UInt8) : Nat := if (pCut l).2.2 then dval (pCut l).2.1 else 1
/-- The error of a text. -/
def parseErr (l : List UInt8) : Int :=
  if 2500 < l.length then 3 else if digitsB (pCut l).1 = false ∨ ((pCut l).2.2 = true ∧ digitsB (pCut l).2.1 = false) then 6 else if pDen l = 0 then 10 else 0

theorem trimPrefix_len (l p : List UInt8) : (Lib.trimPrefix l p).length ≤ l.length := by
  unfold Lib.trimPrefix
  split
  · rw [List.length_drop]; omega
  · exact Nat.le_refl _
theorem cutB_len (l : List UInt8) (c : UInt8) : (cutB l c).1.length ≤ l.length ∧ (cutB l c).2.1.length ≤ l.length := by
  unfold cutB
  split
  · exact ⟨List.length_take_le' _ _, by rw [List.length_drop]; omega⟩
  · exact ⟨Nat.le_refl _, by simp⟩
theorem size_mk (l : List UInt8) : (⟨l.toArray⟩ : ByteArray).size = l.length := by rw [Lib.size_eq]

def ParsePost (w : World) (l : List UInt8) : Ending → World → Prop :=
  OpPost w (parseErr l) (pNeg l && decide (0 < dval (pCut l).1)) (dval (pCut l).1 / Nat.gcd (dval (pCut l).1) (pDen l)) (pDen l / Nat.gcd (dval (pCut l).1) (pDen l))

end Go.Proofs.Ytkamkaehlofgpaa
/- number.Format, at any number. -/
namespace Go.Proofs.Ytkamkaehlofgpaa
open Go.RowKit NumB
set_option linter.unusedVariables false
set_option linter.unusedSimpArgs false

/-- The text of a number. -/
def fmtL (neg : Bool) (x y : Nat) : List UInt8 := (if neg then [45] else []) ++ dec x ++ (if y = 1 then [] else 114 :: dec y)

def FmtPost (w : World) (err : Int) (l : List UInt8) (e : Ending) (w' : World) : Prop :=
  e = .returned (.tuple #[.string ⟨(if err = 0 then l else []).toArray⟩, .int .i64 err]) ∧ Below w.heap.size w w'

theorem digs10_len {x n : Nat} (h : (digs W32 x).length ≤ n) : (digs 10 x).length ≤ 10 * n := by
  refine digs_len_le (by decide) (Nat.lt_of_lt_of_le (digs_lt W32_gt) ?_)
  rw [Nat.pow_mul]
  exact Nat.le_trans (Nat.pow_le_pow_right (by decide) h) (Nat.pow_le_pow_left (by decide) n)
theorem dec_len {x : Nat} (h : (digs W32 x).length ≤ 128) : (dec x).length ≤ 1300 := by
  have h1 := digs10_len h
  unfold dec
  split
  · simp
  · unfold decL; rw [List.length_reverse, List.length_map]; omega

end Go.Proofs.Ytkamkaehlofgpaa
/- fetterlocklaw1.counted: a small sum, from text to text. -/
namespace Go.Proofs.Ytkamkaehlofgpaa
open Go.RowKit NumB
set_option linter.unusedVariables false
set_option linter.unusedSimpArgs false

/-- A canonical number in lowest terms has no fault. -/
theorem checkL_good {neg : Bool} {x y : Nat} (hx : (digs W32 x).length ≤ 128) (hy : (digs W32 y).length ≤ 128) (hy0 : 0 < y) (hg : Nat.gcd x y = 1) (hs : x = 0 → neg = false) : checkL neg (digs W32 x) (digs W32 y) = 0 := by
  have last : ∀ z, lastB (digs W32 z) = false := fun z => by
    unfold lastB
    refine decide_eq_false fun h => ?_
    have ht := top_digs W32_gt z
    apply ht
    rw [List.getLast?_eq_getElem?]
    have h2 := h.2
    rw [List.getD_eq_getElem?_getD, List.getElem?_eq_getElem (by omega)] at h2
    rw [List.getElem?_eq_getElem (by omega)]
    simpa using h2
  unfold checkL
  rw [if_neg (by omega), if_neg, val_digs W32_gt, val_digs W32_gt]
  · unfold checkN
    by_cases h0 : x = 0
    · rw [if_pos h0, if_pos ⟨hs h0, by rw [h0, Nat.gcd_zero_left] at hg; exact hg⟩]
    · rw [if_neg h0, if_pos (.inr (.inr hg))]
  · rintro (h | h | h)
    · rw [last] at h; cases h
    · rw [last] at h; cases h
    · exact absurd ((digs_nil W32_gt).1 (List.eq_nil_of_length_eq_zero h)) (by omega)

theorem small128 {x : Nat} (h : x ≤ 1000) : (digs W32 x).length ≤ 128 := Nat.le_trans (small32 (by omega)) (by omega)

/-- A number without an error. -/
def RawPostT (w : World) (neg : Bool) (x y : Nat) (e : Ending) (w' : World) : Prop := ∃ v, e = .returned (.tuple #[v, .int .i64 0]) ∧ NumV w' v neg x y ∧ Below w.heap.size w w'
theorem rawPostT_of {w w' : World} {sg neg : Bool} {x y a b : Nat} {e : Ending} (hab : a ≤ 1000 ∧ b ≤ 1000) (hq : sg = neg ∧ x = a ∧ y = b) (h : OpPost w 0 sg x y e w') : RawPostT w neg a b e w' := by
  obtain ⟨rfl, rfl, rfl⟩ := hq
  rcases h with ⟨h, _⟩ | ⟨_, ⟨_, v, he, hn, hb⟩ | ⟨hf, _⟩⟩
  · exact absurd rfl h
  · exact ⟨v, he, hn, hb⟩
  · exact absurd (decide_eq_true (⟨small128 hab.1, small128 hab.2⟩ : _ ∧ _)) (by unfold fitB at hf; rw [hf]; simp)

theorem two_of {w : World} {na nb : Bool} {A1 A2 A3 A4 : Value} {xa ya xb yb : Nat} (h1 : NumV w (.agg #[.bool na, A1, A2]) na xa ya) (h2 : NumV w (.agg #[.bool nb, A3, A4]) nb xb yb) : Two w na nb A1 A2 A3 A4 (digs W32 xa) (digs W32 ya) (digs W32 xb) (digs W32 yb) :=
  ⟨h1.parts.2.1, h1.parts.2.2, h2.parts.2.1, h2.parts.2.2⟩
theorem fmt_eleven : fmtL false 11 2 = [49, 49, 114, 50] := by
  unfold fmtL
  rw [dec_eleven, dec_two]
  rfl

def tA : ByteArray := ⟨#[45, 48, 54, 114, 52]⟩
def tB : ByteArray := ⟨#[55]⟩

end Go.Proofs.Ytkamkaehlofgpaa
/- The field laws, of the plain functions. -/
namespace Go.Proofs.Ytkamkaehlofgpaa
open Go.RowKit NumB
set_option linter.unusedVariables false
set_option linter.unusedSimpArgs false

def LN.q (a : LN) : Rat := RatB.q a.neg a.x a.y
def mulS (a b : LN) : LN × Int := fracS (err2 a.err b.err) (a.neg != b.neg) (a.x * b.x) (a.y * b.y)
def subS (a b : LN) : LN × Int := fracS (err2 a.err b.err) (sumN a.neg (a.x * b.y) (b.neg != true) (b.x * a.y)).1 (sumN a.neg (a.x * b.y) (b.neg != true) (b.x * a.y)).2 (a.y * b.y)
def divS (a b : LN) : LN × Int := if err2 a.err b.err = 0 then (if b.num.length = 0 then (zeroL, 10) else fracS 0 (a.neg != b.neg) (a.x * b.y) (a.y * b.x)) else (zeroL, err2 a.err b.err)

theorem sumN_sg (na nb : Bool) (x y : Nat) : RatB.sg (sumN na x nb y).1 (sumN na x nb y).2 = RatB.sg na x + RatB.sg nb y := by
  unfold sumN
  by_cases h : na = nb
  · subst h; rw [if_pos rfl]; unfold RatB.sg; cases na <;> simp <;> omega
  · rw [if_neg h]
    by_cases h2 : y ≤ x
    · rw [if_pos h2]; unfold RatB.sg; cases na <;> cases nb <;> simp at h ⊢ <;> omega
    · rw [if_neg h2]; unfold RatB.sg; cases na <;> cases nb <;> simp at h ⊢ <;> omega

theorem opS_err {er : Int} {s : Bool} {x y : Nat} (h : (opS er s x y).2 = 0) : er = 0 := by
  unfold opS at h
  by_cases he : er = 0
  · exact he
  · rw [if_neg he] at h; exact h
theorem fracS_ok {s : Bool} {n d : Nat} (hd : 0 < d) (h : (fracS 0 s n d).2 = 0) : (fracS 0 s n d).1.ok ∧ (fracS 0 s n d).1.err = 0 ∧ (fracS 0 s n d).1.q = mkRat (RatB.sg s n) d := by
  have hc := RatB.canon_norm (neg := s) (n := n) hd
  have hq := RatB.q_norm (neg := s) (n := n) hd
  unfold fracS opS at *
  rw [if_pos rfl] at h ⊢
  generalize (s && decide (0 < n)) = s' at *
  generalize n / Nat.gcd n d = x' at *
  generalize d / Nat.gcd n d = y' at *
  cases hf : fitB x' y' with
  | false => rw [hf] at h; simp at h
  | true =>
    have hf2 := of_decide_eq_true (show decide _ = true from hf)
    simp only [if_true]
    refine ⟨⟨ok_digs W32_gt _, ok_digs W32_gt _⟩, checkL_good hf2.1 hf2.2 hc.1 hc.2.1 hc.2.2, ?_⟩
    unfold LN.q LN.x LN.y
    rw [val_digs W32_gt, val_digs W32_gt]
    exact hq
theorem fracS_eq {s : Bool} {n d : Nat} {c : LN} (hd : 0 < d) (hc : c.ok) (he : c.err = 0) (h : mkRat (RatB.sg s n) d = c.q) : fracS 0 s n d = (c, 0) := by
  obtain ⟨g1, g2, g3, g4, g5⟩ := LN.good hc he
  have hcn := RatB.canon_norm (neg := s) (n := n) hd
  have hq := RatB.q_norm (neg := s) (n := n) hd
  rw [h] at hq
  obtain ⟨e1, e2, e3⟩ := RatB.q_inj hcn g5 hq
  unfold fracS opS
  rw [if_pos rfl, e1, e2, e3, if_pos, g1, g2]
  exact decide_eq_true ⟨by rw [g1]; exact g3, by rw [g2]; exact g4⟩

theorem addS_ok {a b : LN} (ha : a.ok) (hb : b.ok) (h : (addS a b).2 = 0) : a.err = 0 ∧ b.err = 0 ∧ (addS a b).1.ok ∧ (addS a b).1.err = 0 ∧ (addS a b).1.q = a.q + b.q := by
  have he := opS_err h
  obtain ⟨e1, e2⟩ := err2_zero.1 he
  have ga := (LN.good ha e1).2.2.2.2
  have gb := (LN.good hb e2).2.2.2.2
  unfold addS at *
  rw [he] at h ⊢
  obtain ⟨f1, f2, f3⟩ := fracS_ok (Nat.mul_pos ga.1 gb.1) h
  refine ⟨e1, e2, f1, f2, f3.trans ?_⟩
  rw [sumN_sg, RatB.q_add ga.1 gb.1]; rfl
theorem mulS_ok {a b : LN} (ha : a.ok) (hb : b.ok) (h : (mulS a b).2 = 0) : a.err = 0 ∧ b.err = 0 ∧ (mulS a b).1.ok ∧ (mulS a b).1.err = 0 ∧ (mulS a b).1.q = a.q * b.q := by
  have he := opS_err h
  obtain ⟨e1, e2⟩ := err2_zero.1 he
  have ga := (LN.good ha e1).2.2.2.2
  have gb := (LN.good hb e2).2.2.2.2
  unfold mulS at *
  rw [he] at h ⊢
  obtain ⟨f1, f2, f3⟩ := fracS_ok (Nat.mul_pos ga.1 gb.1) h
  refine ⟨e1, e2, f1, f2, f3.trans ?_⟩
  rw [RatB.q_mul]; rfl
theorem addS_eq {a b c : LN} (ha : a.ok) (hb : b.ok) (hc : c.ok) (ea : a.err = 0) (eb : b.err = 0) (ec : c.err = 0) (h : a.q + b.q = c.q) : addS a b = (c, 0) := by
  have ga := (LN.good ha ea).2.2.2.2
  have gb := (LN.good hb eb).2.2.2.2
  unfold addS
  rw [err2_zero.2 ⟨ea, eb⟩]
  refine fracS_eq (Nat.mul_pos ga.1 gb.1) hc ec ?_
  rw [sumN_sg, RatB.q_add ga.1 gb.1, ← h]; rfl
theorem subS_eq {a b c : LN} (ha : a.ok) (hb : b.ok) (hc : c.ok) (ea : a.err = 0) (eb : b.err = 0) (ec : c.err = 0) (h : a.q - b.q = c.q) : subS a b = (c, 0) := by
  have ga := (LN.good ha ea).2.2.2.2
  have gb := (LN.good hb eb).2.2.2.2
  unfold subS
  rw [err2_zero.2 ⟨ea, eb⟩]
  refine fracS_eq (Nat.mul_pos ga.1 gb.1) hc ec ?_
  rw [sumN_sg, RatB.q_add ga.1 gb.1, ← h, show (b.neg != true) = !b.neg by cases b.neg <;> rfl, RatB.q_neg, Rat.sub_eq_add_neg]; rfl
theorem divS_eq {a b c : LN} (ha : a.ok) (hb : b.ok) (hc : c.ok) (ea : a.err = 0) (eb : b.err = 0) (ec : c.err = 0) (hn : b.num.length ≠ 0) (h : c.q * b.q = a.q) : divS a b = (c, 0) := by
  obtain ⟨_, _, _, _, ga⟩ := LN.good ha ea
  obtain ⟨g1, _, _, _, gb⟩ := LN.good hb eb
  have hx : 0 < b.x := by
    rcases Nat.eq_zero_or_pos b.x with h0 | h0
    · rw [h0, digs_zero] at g1; exact absurd (by rw [← g1]; rfl) hn
    · exact h0
  unfold divS
  rw [if_pos (err2_zero.2 ⟨ea, eb⟩), if_neg hn]
  refine fracS_eq (Nat.mul_pos ga.1 hx) hc ec ?_
  have e1 : mkRat (RatB.sg (a.neg != b.neg) (a.x * b.y)) (a.y * b.x) = RatB.q a.neg a.x a.y * RatB.q b.neg b.y b.x := RatB.q_mul
  have e2 := RatB.q_inv (n := b.neg) hx gb.1
  rw [e1]
  have e3 : RatB.q a.neg a.x a.y = c.q * RatB.q b.neg b.x b.y := h.symm
  rw [e3, Rat.mul_assoc, Rat.mul_comm (RatB.q b.neg b.x b.y), e2, Rat.mul_one]

/-- What the law asks. -/
theorem field_law {a b c : LN} (ha : a.ok) (hb : b.ok) (hc : c.ok) (h1 : (addS a b).2 = 0) (h2 : (mulS (addS a b).1 c).2 = 0) (h3 : (mulS a c).2 = 0) (h4 : (mulS b c).2 = 0) :
    addS (mulS a c).1 (mulS b c).1 = ((mulS (addS a b).1 c).1, 0) ∧ subS (addS a b).1 b = (a, 0) ∧ c.err = 0 ∧ (c.num.length ≠ 0 → divS (mulS a c).1 c = (a, 0)) := by
  obtain ⟨a1, a2, a3, a4, a5⟩ := addS_ok ha hb h1
  obtain ⟨b1, b2, b3, b4, b5⟩ := mulS_ok a3 hc h2
  obtain ⟨c1, c2, c3, c4, c5⟩ := mulS_ok ha hc h3
  obtain ⟨d1, d2, d3, d4, d5⟩ := mulS_ok hb hc h4
  refine ⟨addS_eq c3 d3 b3 c4 d4 b4 ?_, subS_eq a3 hb ha a4 a2 a1 ?_, b2, fun hn => divS_eq c3 hc ha c4 b2 a1 hn c5.symm⟩
  · rw [c5, d5, b5, a5, Rat.add_mul]
  · rw [a5]; grind
end Go.Proofs.Ytkamkaehlofgpaa
/- fetterlockref1.Of: a number as a fraction of naturals in base 2^16. Conditions: at most 100000 limbs. -/
namespace Go.Proofs.Ytkamkaehlofgpaa
open Go.RowKit NumB
set_option linter.unusedVariables false
set_option linter.unusedSimpArgs false

/-- A fraction of the reference's. -/
def RV (w : World) (v : Value) (neg : Bool) (x y : Nat) : Prop := ∃ A B, v = .agg #[.bool neg, A, B] ∧ Nat16 w A x ∧ Nat16 w B y
theorem RV.to {w w' : World} {v : Value} {neg : Bool} {x y : Nat} (h : RV w v neg x y) (hb : Below w.heap.size w w') : RV w' v neg x y := by
  obtain ⟨A, B, e, h1, h2⟩ := h
  exact ⟨A, B, e, h1.to hb, h2.to hb⟩
theorem Nat16.form {w : World} {v : Value} {x : Nat} (h : Nat16 w v x) : ∃ A n c, v = .slice A n c ∧ n = (digs W16 x).length := by
  obtain ⟨A, c, e, _⟩ := h
  exact ⟨A, _, c, e, rfl⟩
theorem RV.form {w : World} {v : Value} {neg : Bool} {x y : Nat} (h : RV w v neg x y) : ∃ A n c B m d, v = .agg #[.bool neg, .slice A n c, .slice B m d] ∧ n = (digs W16 x).length ∧ m = (digs W16 y).length := by
  obtain ⟨A, B, rfl, h1, h2⟩ := h
  obtain ⟨A1, n, c, rfl, e1⟩ := h1.form
  obtain ⟨B1, m, d, rfl, e2⟩ := h2.form
  exact ⟨_, _, _, _, _, _, rfl, e1, e2⟩
theorem RV.parts {w : World} {s neg : Bool} {A B : Value} {x y : Nat} (h : RV w (.agg #[.bool s, A, B]) neg x y) : s = neg ∧ Nat16 w A x ∧ Nat16 w B y := by
  obtain ⟨A', B', e, h1, h2⟩ := h
  simp only [Value.agg.injEq, Array.mk.injEq, List.cons.injEq, Value.bool.injEq, and_true] at e
  obtain ⟨rfl, rfl, rfl⟩ := e
  exact ⟨rfl, h1, h2⟩
theorem Nat16.put3 {w : World} {v : Value} {x g : Nat} {t : TypeId} {neg : Bool} {A A' : Option Addr} {n m ca cb : Nat} (h : Nat16 w v x) (hg : Blk w g t #[.bool neg, .slice A n ca, .slice A' m cb]) (a b c : Value) : Nat16 (put3 w g a b c) v x :=
  Sl.boxed h hg noInts_num (Nat.le_of_eq (put3_size w g a b c).symm) (put3_far w g a b c)
theorem RV.put3 {w : World} {v : Value} {neg s : Bool} {x y g : Nat} {t : TypeId} {A A' : Option Addr} {n m ca cb : Nat} (h : RV w v neg x y) (hg : Blk w g t #[.bool s, .slice A n ca, .slice A' m cb]) (a b c : Value) : RV (put3 w g a b c) v neg x y := by
  obtain ⟨va, vb, rfl, h1, h2⟩ := h
  exact ⟨va, vb, rfl, h1.put3 hg a b c, h2.put3 hg a b c⟩
def RVPost (w : World) (neg : Bool) (x y : Nat) (e : Ending) (w' : World) : Prop := ∃ v, e = .returned v ∧ RV w' v neg x y ∧ Below w.heap.size w w'

theorem blk2 (w : World) (t u : TypeId) (a b : Array Value) : Blk ((w.alloc (.cells a t)).alloc (.cells b u)) w.heap.size t a ∧ Blk ((w.alloc (.cells a t)).alloc (.cells b u)) (w.heap.size + 1) u b := by
  refine ⟨(Blk.new w t a).alloc _, ?_⟩
  have := Blk.new (w.alloc (.cells a t)) u b
  simpa using this
theorem below_two (w : World) (o1 o2 : Obj) : Below w.heap.size w ((w.alloc o1).alloc o2) := (below_one w o1).alloc (by simp) o2

set_option maxRecDepth 100000 in
set_option maxHeartbeats 6400000 in
theorem rof_any (a : LN) (v : Value) (w : World) (h : GV w v a) (hl1 : a.num.length ≤ 100000) (hl2 : a.den.length ≤ 100000) : Calls Try.prog 63 #[v] w (RVPost w a.neg a.x a.y) := by
  obtain ⟨A, B, rfl, ha, hb, ox, oy⟩ := h
  have HN1 : Hid (∀ (o1 o2 : Obj), Calls Try.prog 31 #[A] ((w.alloc o1).alloc o2).drew (RPost ((w.alloc o1).alloc o2).drew a.x)) := fun o1 o2 => natOf_sl a.num A _ (ha.to (below_two w o1 o2).drew) ox hl1
  have HN2 : Hid (∀ (o1 o2 : Obj) (W : World), Below ((w.alloc o1).alloc o2).drew.heap.size ((w.alloc o1).alloc o2).drew W → Calls Try.prog 31 #[B] W (RPost W a.y)) := fun o1 o2 W hW => natOf_sl a.den B _ ((hb.to (below_two w o1 o2).drew).to hW) oy hl2
  have HB0 : Hid (∀ o1 o2 : Obj, Below w.heap.size w ((w.alloc o1).alloc o2).drew) := fun o1 o2 => (below_two w o1 o2).drew
  obtain ⟨A, ca, rfl, _⟩ := ha
  obtain ⟨A', cb, rfl, _⟩ := hb
  generalize a.num.length = n at *
  generalize a.den.length = m at *
  generalize a.neg = neg at *
  generalize a.x = x at *
  generalize a.y = y at *
  clear ox oy hl1 hl2
  have HBK := Lib.hid (blk2 w 25 111 #[.bool neg, .slice A n ca, .slice A' m cb] #[.bool false, .slice none 0 0, .slice none 0 0])
  have hk : ∀ W1 W' : World, Below W1.heap.size W1 W' → (W1.cell? ⟨w.heap.size, 0, none⟩ = some (.bool neg) ∧ W1.cell? ⟨w.heap.size, 1, none⟩ = some (.slice A n ca) ∧ W1.cell? ⟨w.heap.size, 2, none⟩ = some (.slice A' m cb) ∧ w.heap.size + 1 < W1.heap.size) → (W'.cell? ⟨w.heap.size, 0, none⟩ = some (.bool neg) ∧ W'.cell? ⟨w.heap.size, 1, none⟩ = some (.slice A n ca) ∧ W'.cell? ⟨w.heap.size, 2, none⟩ = some (.slice A' m cb) ∧ w.heap.size + 1 < W'.heap.size) :=
    fun W1 W' h1 ⟨h3, h4, h5, h2⟩ => ⟨(h1.cell (p := ⟨w.heap.size, 0, none⟩) (by show w.heap.size < _; omega)).trans h3, (h1.cell (p := ⟨w.heap.size, 1, none⟩) (by show w.heap.size < _; omega)).trans h4, (h1.cell (p := ⟨w.heap.size, 2, none⟩) (by show w.heap.size < _; omega)).trans h5, Nat.lt_of_lt_of_le h2 h1.size⟩
  have HK := Lib.hid hk
  clear hk
  go_enter Try.func63, Try.ntmps63
  go_wp2_with fail
  go_region_held3 (fun w' => w'.cell? ⟨w.heap.size, 0, none⟩ = some (.bool neg) ∧ w'.cell? ⟨w.heap.size, 1, none⟩ = some (.slice A n ca) ∧ w'.cell? ⟨w.heap.size, 2, none⟩ = some (.slice A' m cb) ∧ w.heap.size + 1 < w'.heap.size)
    (first | go_keep | (refine HK.out _ _ (by assumption) ?_; go_keep))
    (first
      | (go_at_call 31; ((with_reducible refine (HN1.out _ _).mono ?_)); rintro e w1 ⟨v1, rfl, hn1, hb1⟩)
      | (go_at_call 31; ((with_reducible refine (HN2.out _ _ _ (by exact hb1)).mono ?_)); rintro e w2 ⟨v2, rfl, hn2, hb2⟩; obtain ⟨C1, _, d1, rfl, rfl⟩ := hn1.form; obtain ⟨C2, _, d2, rfl, rfl⟩ := hn2.form; have hblk := (HBK.out.2.drew.to hb1).to hb2; have hc0 := hblk.cell 0; have hc1 := hblk.cell 1; have hc2 := hblk.cell 2; have hf0 := hblk.frozen 0; have hf1 := hblk.frozen 1; have hf2 := hblk.frozen 2; simp only [List.getElem?_toArray, List.getElem?_cons_zero, List.getElem?_cons_succ] at hc0 hc1 hc2))
  all_goals
    go_wp2_with fail
    refine bodyPost_ret (v := .agg #[.bool neg, .slice C1 (digs W16 x).length d1, .slice C2 (digs W16 y).length d2]) (by simp [results, Try.results63, go_sem, hc0, hc1, hc2]) rfl ⟨_, rfl, ?_, ?_⟩
    · exact RV.put3 (w := w2) ⟨_, _, rfl, hn1.to hb2, hn2⟩ hblk _ _ _
    · exact put3_below (((HB0.out _ _).trans (hb1.mono (HB0.out _ _).size)).trans (hb2.mono (Nat.le_trans (HB0.out _ _).size hb1.size))) (by omega) _ _ _
end Go.Proofs.Ytkamkaehlofgpaa
/- fetterlockref1.IsInt; Fault at any number. -/
namespace Go.Proofs.Ytkamkaehlofgpaa
open Go.RowKit NumB
set_option linter.unusedVariables false
set_option linter.unusedSimpArgs false

theorem fault_S (a : LN) (v : Value) (w : World) (h : GV w v a) : Calls Try.prog 21 #[v] w fun e w' => e = .returned (.int .i64 a.err) ∧ Below w.heap.size w w' := by
  obtain ⟨A, B, rfl, ha, hb, ox, oy⟩ := h
  exact fault_any a.neg a.num a.den A B w ha hb ox oy
theorem LN.len16 {a : LN} (ho : a.ok) (h : a.err = 0) : (digs W16 a.x).length ≤ 256 ∧ (digs W16 a.y).length ≤ 256 := by
  obtain ⟨_, _, h3, h4, _⟩ := LN.good ho h
  exact ⟨digs16_val_le ho.1 h3, digs16_val_le ho.2 h4⟩

set_option maxRecDepth 100000 in
set_option maxHeartbeats 1600000 in
theorem risInt_any (neg : Bool) (x y : Nat) (v : Value) (w : World) (h : RV w v neg x y) (hy : (digs W16 y).length ≤ 1000000) :
    Calls Try.prog 74 #[v] w fun e w' => e = .returned (.bool (cmpI y 1 == 0)) ∧ Below w.heap.size w w' := by
  obtain ⟨A1, A2, rfl, h1, h2⟩ := h
  obtain ⟨B1, n1, c1, rfl, e1⟩ := h1.form
  obtain ⟨B2, n2, c2, rfl, e2⟩ := h2.form
  have HN := Lib.hid h2
  have HL := Lib.hid hy
  have HOne : ∀ o : Obj, Nat16 ((w.alloc o).alloc (.cells #[.int .i64 1] 3)) (.slice (some ⟨w.heap.size + 1, 0, none⟩) 1 1) 1 := fun o => by
    have h := one16 (w.alloc o)
    rw [show (w.alloc o).heap.size = w.heap.size + 1 from by simp] at h
    exact h
  clear h1 h2 e1 e2 hy
  go_enter Try.func74, Try.ntmps74
  go_wp2_with fail
  refine (rcmp_any y 1 _ _ _ (by exact HN.out.to (below_two w _ _)) (HOne _) HL.out (by rw [digs_one16]; decide)).mono ?_
  rintro e w1 ⟨rfl, rfl⟩
  go_wp2_with fail
  go_ret
  exact ⟨rfl, below_two w _ _⟩

theorem cmpI_one_true {y : Nat} (h : y = 1) : (cmpI y 1 == 0) = true := by subst h; decide
theorem cmpI_one_false {y : Nat} (h : y ≠ 1) : (cmpI y 1 == 0) = false := by
  rcases Nat.lt_trichotomy y 1 with h1 | h1 | h1
  · rw [cmpI_lt h1]; rfl
  · exact absurd h1 h
  · rw [cmpI_gt h1]; rfl
end Go.Proofs.Ytkamkaehlofgpaa

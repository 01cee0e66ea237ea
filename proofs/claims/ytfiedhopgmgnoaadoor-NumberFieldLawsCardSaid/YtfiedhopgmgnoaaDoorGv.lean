/- Numbers as lists of limbs, valid or not: what the operations answer, as plain functions. -/
import Derived.Test.YtfiedhopgmgnoaaDoorAddNum
import Derived.Test.YtfiedhopgmgnoaaDoorRatMath
namespace Go.Proofs.YtfiedhopgmgnoaaDoor
open Go.RowKit NumB
set_option linter.unusedVariables false
set_option linter.unusedSimpArgs false

/-- A sign and two lists of limbs. -/
structure LN where
  neg : Bool
  num : List Nat
  den : List Nat
/-- The zero number, which is not valid. -/
def zeroL : LN := ⟨false, [], []⟩
def LN.ok (a : LN) : Prop := Ok W32 a.num ∧ Ok W32 a.den
def LN.err (a : LN) : Int := checkL a.neg a.num a.den
def LN.x (a : LN) : Nat := val W32 a.num
def LN.y (a : LN) : Nat := val W32 a.den

/-- A value that reads as a number. -/
def GV (w : World) (v : Value) (a : LN) : Prop := ∃ A B, v = .agg #[.bool a.neg, A, B] ∧ Sl .u32 w A a.num ∧ Sl .u32 w B a.den ∧ a.ok
theorem GV.to {w w' : World} {v : Value} {a : LN} (h : GV w v a) (hb : Below w.heap.size w w') : GV w' v a := by
  obtain ⟨A, B, e, h1, h2, h3⟩ := h
  exact ⟨A, B, e, h1.to hb, h2.to hb, h3⟩
theorem GV.form {w : World} {v : Value} {a : LN} (h : GV w v a) : ∃ A n c B m d, v = .agg #[.bool a.neg, .slice A n c, .slice B m d] ∧ n = a.num.length ∧ m = a.den.length := by
  obtain ⟨A, B, rfl, ⟨A1, c1, rfl, _⟩, ⟨B1, d1, rfl, _⟩, _⟩ := h
  exact ⟨_, _, _, _, _, _, rfl, rfl, rfl⟩
theorem GV.parts {w : World} {s : Bool} {A B : Value} {a : LN} (h : GV w (.agg #[.bool s, A, B]) a) : s = a.neg ∧ Sl .u32 w A a.num ∧ Sl .u32 w B a.den ∧ a.ok := by
  obtain ⟨A', B', e, h1, h2, h3⟩ := h
  simp only [Value.agg.injEq, Array.mk.injEq, List.cons.injEq, Value.bool.injEq, and_true] at e
  obtain ⟨rfl, rfl, rfl⟩ := e
  exact ⟨rfl, h1, h2, h3⟩
theorem GV.ok {w : World} {v : Value} {a : LN} (h : GV w v a) : a.ok := by obtain ⟨_, _, _, _, _, h⟩ := h; exact h
theorem GV.zero (w : World) : GV w zeroNum zeroL := ⟨_, _, rfl, (OwnV.nil_ (B := 0) (T := 0) w).sl, (OwnV.nil_ (B := 0) (T := 0) w).sl, Ok.nil, Ok.nil⟩
theorem GV.of_num {w : World} {v : Value} {s : Bool} {x y : Nat} (h : NumV w v s x y) : GV w v ⟨s, digs W32 x, digs W32 y⟩ := by
  obtain ⟨A, B, e, h1, h2⟩ := h
  exact ⟨A, B, e, h1, h2, ok_digs W32_gt _, ok_digs W32_gt _⟩
theorem two_gv {w : World} {A1 A2 A3 A4 : Value} {a b : LN} (h1 : GV w (.agg #[.bool a.neg, A1, A2]) a) (h2 : GV w (.agg #[.bool b.neg, A3, A4]) b) : Two w a.neg b.neg A1 A2 A3 A4 a.num a.den b.num b.den :=
  ⟨h1.parts.2.1, h1.parts.2.2.1, h2.parts.2.1, h2.parts.2.2.1⟩

/-- A number and an error. -/
def SPost (w : World) (r : LN × Int) (e : Ending) (w' : World) : Prop := ∃ v, e = .returned (.tuple #[v, .int .i64 r.2]) ∧ GV w' v r.1 ∧ Below w.heap.size w w'
/-- An error, a number that is too long, or a number. -/
def opS (er : Int) (s : Bool) (x y : Nat) : LN × Int := if er = 0 then (if fitB x y then (⟨s, digs W32 x, digs W32 y⟩, 0) else (zeroL, 3)) else (zeroL, er)
theorem OpPost.toS {w w' : World} {er : Int} {s : Bool} {x y : Nat} {e : Ending} (h : OpPost w er s x y e w') : SPost w (opS er s x y) e w' := by
  unfold opS
  rcases h with ⟨h, he, hb⟩ | ⟨h, ⟨hf, v, he, hn, hb⟩ | ⟨hf, he, hb⟩⟩
  · rw [if_neg h]; exact ⟨_, he, GV.zero _, hb⟩
  · rw [if_pos h, if_pos hf]; exact ⟨_, he, GV.of_num hn, hb⟩
  · rw [if_pos h, if_neg (by rw [hf]; simp)]; exact ⟨_, he, GV.zero _, hb⟩
theorem FitPost.toS {w w' : World} {s : Bool} {x y : Nat} {e : Ending} (h : FitPost w s x y e w') : SPost w (opS 0 s x y) e w' := OpPost.toS (.inr ⟨rfl, h⟩)

/-- A fraction in lowest terms. -/
def fracS (er : Int) (s : Bool) (n d : Nat) : LN × Int := opS er (s && decide (0 < n)) (n / Nat.gcd n d) (d / Nat.gcd n d)
/-- The sum. -/
def addS (a b : LN) : LN × Int := fracS (err2 a.err b.err) (sumN a.neg (a.x * b.y) b.neg (b.x * a.y)).1 (sumN a.neg (a.x * b.y) b.neg (b.x * a.y)).2 (a.y * b.y)

theorem addNum_S (a b : LN) (va vb : Value) (w : World) (ha : GV w va a) (hb : GV w vb b) : Calls Tryd.prog 19 #[va, vb] w (SPost w (addS a b)) := by
  obtain ⟨A1, A2, rfl, h1, h2, o1, o2⟩ := ha
  obtain ⟨A3, A4, rfl, h3, h4, o3, o4⟩ := hb
  exact (addNum_any a.neg b.neg a.num a.den b.num b.den A1 A2 A3 A4 w ⟨h1, h2, h3, h4⟩ o1 o2 o3 o4 _ _ _ rfl rfl).mono fun _ _ h => OpPost.toS h

/-- A valid number in lowest terms. -/
theorem LN.good {a : LN} (ho : a.ok) (h : a.err = 0) : digs W32 a.x = a.num ∧ digs W32 a.y = a.den ∧ a.num.length ≤ 128 ∧ a.den.length ≤ 128 ∧ RatB.Canon a.neg a.x a.y := by
  obtain ⟨h1, h2, h3, h4, h5, h6, h7⟩ := checkL_zero ho.1 ho.2 h
  exact ⟨h1, h2, h3, h4, h5, h6, h7⟩
end Go.Proofs.YtfiedhopgmgnoaaDoor

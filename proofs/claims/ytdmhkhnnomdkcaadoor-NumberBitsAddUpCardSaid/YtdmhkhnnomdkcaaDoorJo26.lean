/-  -/
import Derived.Test.YtdmhkhnnomdkcaaDoorRows
import Derived.WalkKit
import Derived.ProofKit
import Derived.OpenShut
import Derived.Lib.SmallJoins
import Derived.Deep.DeepHandedRow
import Derived.Lay
import Derived.Test.YtdmhkhnnomdkcaaDoorJo2
import Derived.Test.YtdmhkhnnomdkcaaDoorJo20
import Derived.Test.YtdmhkhnnomdkcaaDoorJo22
import Derived.Test.YtdmhkhnnomdkcaaDoorJo25
set_option linter.unusedVariables false
set_option linter.unusedSimpArgs false
/- number.ToInt, at any number. -/
namespace Go.Proofs.YtdmhkhnnomdkcaaDoor
open Go.RowKit NumB
set_option linter.unusedVariables false
set_option linter.unusedSimpArgs false

/-- What ToInt answers. -/
def toIntS (a : LN) : Int × Int := if intErr a = 0 then (if a.neg then (if a.x ≤ 9223372036854775808 then (-(a.x : Int), 0) else (0, 3)) else (if a.x ≤ 9223372036854775807 then ((a.x : Int), 0) else (0, 3))) else (0, intErr a)
theorem intErr_zero {a : LN} : intErr a = 0 ↔ a.err = 0 ∧ a.y = 1 := by
  unfold intErr
  by_cases h : a.err = 0
  · by_cases h2 : a.y = 1
    · simp [h, h2]
    · simp [h, h2]
  · simp [h]
theorem intErr_bd (a : LN) : 0 ≤ intErr a ∧ intErr a ≤ 7 := by
  have h : 0 ≤ a.err ∧ a.err ≤ 3 := checkL_bd _ _ _
  unfold intErr
  split
  · split <;> omega
  · omega
theorem val_two {xs : List Nat} (h : xs.length ≤ 2) : val W32 xs = xs.getD 0 0 + 4294967296 * xs.getD 1 0 := by
  rcases xs with _ | ⟨a, _ | ⟨b, _ | ⟨c, l⟩⟩⟩
  · rfl
  · simp
  · simp [W32]
  · simp at h
theorem or_zero_u64 (p : Nat) (hp : p < 4294967296) : bits .or .u64 0 (p : Int) = (p : Int) := by
  have h := u64_or 0 (p : Int) (by omega) (by omega) (by omega) (by omega)
  rw [h]; simp

end Go.Proofs.YtdmhkhnnomdkcaaDoor
/- The canonical number of an integer: plain facts. -/
namespace Go.Proofs.YtdmhkhnnomdkcaaDoor
open Go.RowKit NumB
set_option linter.unusedVariables false
set_option linter.unusedSimpArgs false

/-- The canonical number of an integer. -/
def intL (s : Bool) (k : Nat) : LN := ⟨s && decide (0 < k), digs W32 k, digs W32 1⟩
theorem fracS_int {s : Bool} {k : Nat} (h : fitB k 1 = true) : fracS 0 s k 1 = (intL s k, 0) := by
  unfold fracS opS
  rw [Nat.gcd_one_right, Nat.div_one, Nat.div_one, if_pos rfl, h, if_pos rfl]
  rfl
theorem fit_64 {k : Nat} (h : k < 18446744073709551616) : fitB k 1 = true := decide_eq_true ⟨Nat.le_trans (digs_len_le (k := 2) W32_gt (by unfold W32; omega)) (by omega), by rw [digs_one32]; decide⟩
theorem intL_fit {s : Bool} {k : Nat} (h : fitB k 1 = true) : (intL s k).ok ∧ (intL s k).err = 0 := by
  have h1 := fracS_ok (s := s) (n := k) (d := 1) (by omega) (by rw [fracS_int h])
  rw [fracS_int h] at h1
  exact ⟨h1.1, h1.2.1⟩
theorem intL_ok (s : Bool) {k : Nat} (h : k < 18446744073709551616) : (intL s k).ok ∧ (intL s k).err = 0 := intL_fit (fit_64 h)
theorem intL_x (s : Bool) (k : Nat) : (intL s k).x = k := val_digs W32_gt k
theorem intL_y (s : Bool) (k : Nat) : (intL s k).y = 1 := val_digs W32_gt 1
theorem intL_int {s : Bool} {k : Nat} (h : k < 18446744073709551616) : intErr (intL s k) = 0 := intErr_zero.2 ⟨(intL_ok s h).2, intL_y s k⟩
theorem toIntS_pos {k : Nat} (h : k ≤ 9223372036854775807) : toIntS (intL false k) = ((k : Int), 0) := by
  unfold toIntS
  rw [if_pos (intL_int (by omega)), intL_x, show (intL false k).neg = false from rfl]
  simp [h]
theorem toIntS_neg {k : Nat} (h0 : 0 < k) (h : k ≤ 9223372036854775808) : toIntS (intL true k) = (-(k : Int), 0) := by
  unfold toIntS
  rw [if_pos (intL_int (by omega)), intL_x, show (intL true k).neg = true from by simp [intL, h0]]
  simp [h]
end Go.Proofs.YtdmhkhnnomdkcaaDoor
/- The canonical number of an integer: more plain facts. -/
namespace Go.Proofs.YtdmhkhnnomdkcaaDoor
open Go.RowKit NumB
set_option linter.unusedVariables false
set_option linter.unusedSimpArgs false

theorem intL_rat (s : Bool) (k : Nat) : (intL s k).q = ((RatB.sg s k : Int) : Rat) := by
  unfold LN.q RatB.q
  rw [intL_x, intL_y, Rat.mkRat_one]
  show ((RatB.sg (s && decide (0 < k)) k : Int) : Rat) = _
  rw [RatB.sg_and]
/-- A valid integer is the canonical number of it. -/
theorem LN.as_int {a : LN} (ho : a.ok) (he : a.err = 0) (hy : a.y = 1) : a = intL a.neg a.x ∧ fitB a.x 1 = true ∧ (a.x = 0 → a.neg = false) := by
  obtain ⟨h1, h2, h3, h4, h5⟩ := LN.good ho he
  refine ⟨?_, decide_eq_true ⟨by rw [h1]; exact h3, by rw [digs_one32]; decide⟩, h5.2.2⟩
  have hn : (a.neg && decide (0 < a.x)) = a.neg := by
    rcases Nat.eq_zero_or_pos a.x with h | h
    · rw [h5.2.2 h]; rfl
    · simp [h]
  unfold intL
  rw [hn, h1, ← hy, h2]
theorem fit_le {x y : Nat} (h : fitB x 1 = true) (hl : y ≤ x) : fitB y 1 = true := by
  have := of_decide_eq_true (show decide _ = true from h)
  exact decide_eq_true ⟨Nat.le_trans (digs_len_mono W32_gt hl) this.1, this.2⟩
theorem fit_len {x : Nat} : fitB x 1 = true ↔ (digs W32 x).length ≤ 128 := by
  constructor
  · intro h; exact (of_decide_eq_true (show decide _ = true from h)).1
  · intro h; exact decide_eq_true ⟨h, by rw [digs_one32]; decide⟩
theorem opS_int {s : Bool} {k : Nat} (h : fitB k 1 = true) : opS 0 (s && decide (0 < k)) k 1 = (intL s k, 0) := by
  unfold opS
  rw [if_pos rfl, h, if_pos rfl]; rfl
theorem intL_neg {s : Bool} {k : Nat} (h : k = 0 → s = false) : (intL s k).neg = s := by
  show (s && decide (0 < k)) = s
  rcases Nat.eq_zero_or_pos k with h0 | h0
  · rw [h h0]; rfl
  · simp [h0]
theorem intL_eq {s t : Bool} {k : Nat} (h : 0 < k → s = t) : intL s k = intL t k := by
  unfold intL
  rcases Nat.eq_zero_or_pos k with h0 | h0
  · subst h0; simp
  · rw [h h0]
theorem bx_zero {b : LN} (hb : b.ok) (he : b.err = 0) : b.num.length = 0 ↔ b.x = 0 := by
  obtain ⟨h1, _⟩ := LN.good hb he
  rw [← h1]
  have := len_pos32 (x := b.x) (n := (digs W32 b.x).length) rfl
  omega
end Go.Proofs.YtdmhkhnnomdkcaaDoor
/- Powers with small exponents, of the plain functions: a power with the sum of two exponents is the product of the powers. -/
namespace Go.Proofs.YtdmhkhnnomdkcaaDoor
open Go.RowKit NumB
set_option linter.unusedVariables false
set_option linter.unusedSimpArgs false

theorem oddB_succ (n : Nat) : oddB (n + 1) = !oddB n := by
  unfold oddB
  rcases Nat.mod_two_eq_zero_or_one n with h | h
  · rw [h, show (n + 1) % 2 = 1 by omega]; rfl
  · rw [h, show (n + 1) % 2 = 0 by omega]; rfl
theorem q_pow (s : Bool) (x y n : Nat) : RatB.q (s && oddB n) (x ^ n) (y ^ n) = (RatB.q s x y) ^ n := by
  induction n with
  | zero => rw [Nat.pow_zero, Nat.pow_zero, Rat.pow_zero, show oddB 0 = false from rfl, Bool.and_false]; rfl
  | succ n ih =>
    rw [Rat.pow_succ, ← ih, ← RatB.q_mul, Nat.pow_succ, Nat.pow_succ, oddB_succ]
    unfold RatB.q
    congr 2
    cases s <;> cases oddB n <;> rfl
theorem rat_pow_add (r : Rat) (m n : Nat) : r ^ (m + n) = r ^ m * r ^ n := by
  induction n with
  | zero => rw [Nat.add_zero, Rat.pow_zero, Rat.mul_one]
  | succ n ih => rw [← Nat.add_assoc, Rat.pow_succ, ih, Rat.pow_succ, Rat.mul_assoc]
theorem eq_inv_of_mul {a b : Rat} (h : a * b = 1) : a = b⁻¹ := by
  have hb : b ≠ 0 := by rintro rfl; rw [Rat.mul_zero] at h; exact absurd h (by decide)
  have h2 := congrArg (· * b⁻¹) h
  simp only [Rat.mul_assoc, Rat.mul_inv_cancel _ hb, Rat.mul_one, Rat.one_mul] at h2
  exact h2
/-- The parts of a power. -/
def pwX (s : Bool) (x y n : Nat) : Nat := if s then y ^ n else x ^ n
def pwY (s : Bool) (x y n : Nat) : Nat := if s then x ^ n else y ^ n
theorem pw_canon {g s : Bool} {x y n : Nat} (h : RatB.Canon g x y) (hz : x = 0 → n = 0 ∨ s = false) : RatB.Canon (g && oddB n) (pwX s x y n) (pwY s x y n) := by
  obtain ⟨h1, h2, h3⟩ := h
  have hy : 0 < y ^ n := Nat.pow_pos h1
  unfold pwX pwY
  cases s with
  | true =>
    rw [if_pos rfl, if_pos rfl]
    refine ⟨?_, ?_, fun h => absurd h (by omega)⟩
    · rcases Nat.eq_zero_or_pos x with h | h
      · rcases hz h with h4 | h4
        · subst h4; rw [Nat.pow_zero]; omega
        · cases h4
      · exact Nat.pow_pos h
    · rw [Nat.gcd_comm]; exact pow_gcd h2 n n
  | false =>
    rw [if_neg (by simp), if_neg (by simp)]
    refine ⟨hy, pow_gcd h2 n n, fun h => ?_⟩
    have : x = 0 := by
      rcases Nat.eq_zero_or_pos x with h4 | h4
      · exact h4
      · have := Nat.pow_pos (n := n) h4; omega
    rw [h3 this]; rfl
theorem pw_q {g s : Bool} {x y n : Nat} (h : RatB.Canon g x y) (hz : x = 0 → n = 0 ∨ s = false) : RatB.q (g && oddB n) (pwX s x y n) (pwY s x y n) = (RatB.q g x y) ^ (RatB.sg s n : Int) := by
  have hc := pw_canon h hz
  unfold pwX pwY at *
  cases s with
  | true =>
    rw [if_pos rfl, if_pos rfl] at *
    have e : RatB.sg true n = -(n : Int) := rfl
    rw [e, Rat.zpow_neg, Rat.zpow_natCast, ← q_pow]
    exact eq_inv_of_mul (RatB.q_inv hc.1 (Nat.pow_pos h.1))
  | false =>
    rw [if_neg (by simp), if_neg (by simp)] at *
    have e : RatB.sg false n = (n : Int) := rfl
    rw [e, Rat.zpow_natCast, ← q_pow]

theorem powS_form {a : LN} (ha : a.ok) (he : a.err = 0) {s : Bool} {n : Nat} (hn : n ≤ 4096) (hz : a.x = 0 → n = 0 ∨ s = false) : powS a (intL s n) = opS 0 (a.neg && oddB n) (pwX s a.x a.y n) (pwY s a.x a.y n) := by
  obtain ⟨g1, g2, g3, g4, g5⟩ := LN.good ha he
  have hb := intL_ok s (k := n) (by omega)
  unfold powS
  rw [he, hb.2, if_pos (show err2 0 0 = 0 from rfl), if_pos (intL_y s n)]
  unfold powI
  rw [intL_x]
  unfold pwX pwY
  by_cases h0 : n = 0
  · subst h0
    rw [if_pos rfl, Nat.pow_zero, Nat.pow_zero, ite_self, show oddB 0 = false from rfl, Bool.and_false]
  rw [if_neg h0]
  have hneg : (intL s n).neg = s := by show (s && decide (0 < n)) = s; rw [decide_eq_true (by omega)]; simp
  rw [hneg]
  by_cases hx : a.x = 0
  · have hs : s = false := (hz hx).resolve_left h0
    have hy : a.y = 1 := by have := g5.2.1; rw [hx, Nat.gcd_zero_left] at this; exact this
    subst hs
    rw [if_neg (by simp), if_pos (.inl hx), if_neg (by simp), if_neg (by simp), hx, hy, Nat.one_pow, Nat.zero_pow (by omega)]
  rw [if_neg (by simp [hx])]
  by_cases h1 : a.x = 1 ∧ a.y = 1
  · rw [if_pos (.inr h1), h1.1, h1.2, Nat.one_pow, ite_self]
  rw [if_neg (by rintro (h | h); exact hx h; exact h1 h), if_neg (by omega)]
  unfold opS
  rw [if_pos rfl]
  have e : (powOk a.x n && powOk a.y n) = fitB (if s = true then a.y ^ n else a.x ^ n) (if s = true then a.x ^ n else a.y ^ n) := by
    unfold powOk fitB
    cases s with
    | true => rw [if_pos rfl, if_pos rfl, Bool.and_comm, Bool.decide_and]
    | false => rw [if_neg (by simp), if_neg (by simp), Bool.decide_and]
  rw [e]
  cases hf : fitB (if s = true then a.y ^ n else a.x ^ n) (if s = true then a.x ^ n else a.y ^ n) with
  | true => rfl
  | false => rfl
theorem powS_err {a b : LN} (h : (powS a b).2 = 0) : a.err = 0 := by
  unfold powS at h
  by_cases he : err2 a.err b.err = 0
  · exact (err2_zero.1 he).1
  · rw [if_neg he] at h; exact absurd h he
theorem powS_zero {a : LN} {s : Bool} {n : Nat} (hn : n ≤ 4096) (h : (powS a (intL s n)).2 = 0) (hx : a.x = 0) : n = 0 ∨ s = false := by
  have he := powS_err h
  rcases Nat.eq_zero_or_pos n with h0 | h0
  · exact .inl h0
  · refine .inr ?_
    have hb := intL_ok s (k := n) (by omega)
    unfold powS at h
    rw [he, hb.2, if_pos (show err2 0 0 = 0 from rfl), if_pos (intL_y s n)] at h
    unfold powI at h
    rw [intL_x, if_neg (by omega)] at h
    have hneg : (intL s n).neg = s := by show (s && decide (0 < n)) = s; rw [decide_eq_true h0]; simp
    rw [hneg] at h
    cases s with
    | false => rfl
    | true => rw [if_pos ⟨hx, rfl⟩] at h; exact absurd h (by decide)
theorem opS_ok {s : Bool} {x y : Nat} (hc : RatB.Canon s x y) (h : (opS 0 s x y).2 = 0) : (opS 0 s x y).1.ok ∧ (opS 0 s x y).1.err = 0 ∧ (opS 0 s x y).1.q = RatB.q s x y := by
  unfold opS at *
  rw [if_pos rfl] at h ⊢
  cases hf : fitB x y with
  | false => rw [hf] at h; simp at h
  | true =>
    have hf2 := of_decide_eq_true (show decide _ = true from hf)
    simp only [if_true]
    refine ⟨⟨ok_digs W32_gt _, ok_digs W32_gt _⟩, checkL_good hf2.1 hf2.2 hc.1 hc.2.1 hc.2.2, ?_⟩
    unfold LN.q LN.x LN.y
    rw [val_digs W32_gt, val_digs W32_gt]
theorem opS_eq {s : Bool} {x y : Nat} {c : LN} (hc : RatB.Canon s x y) (ho : c.ok) (he : c.err = 0) (h : RatB.q s x y = c.q) : opS 0 s x y = (c, 0) := by
  obtain ⟨g1, g2, g3, g4, g5⟩ := LN.good ho he
  obtain ⟨e1, e2, e3⟩ := RatB.q_inj hc g5 h
  unfold opS
  rw [if_pos rfl, e1, e2, e3, if_pos, g1, g2]
  exact decide_eq_true ⟨by rw [g1]; exact g3, by rw [g2]; exact g4⟩
theorem powS_ok {a : LN} (ha : a.ok) {s : Bool} {n : Nat} (hn : n ≤ 4096) (h : (powS a (intL s n)).2 = 0) :
    a.err = 0 ∧ (a.x = 0 → n = 0 ∨ s = false) ∧ (powS a (intL s n)).1.ok ∧ (powS a (intL s n)).1.err = 0 ∧ (powS a (intL s n)).1.q = a.q ^ (RatB.sg s n : Int) := by
  have he := powS_err h
  have hz := fun hx => powS_zero hn h hx
  have hc := (LN.good ha he).2.2.2.2
  rw [powS_form ha he hn hz] at h ⊢
  obtain ⟨h1, h2, h3⟩ := opS_ok (pw_canon hc hz) h
  exact ⟨he, hz, h1, h2, h3.trans (pw_q hc hz)⟩
theorem powS_eq {a c : LN} (ha : a.ok) (he : a.err = 0) {s : Bool} {n : Nat} (hn : n ≤ 4096) (hz : a.x = 0 → n = 0 ∨ s = false) (hc : c.ok) (ec : c.err = 0) (h : c.q = a.q ^ (RatB.sg s n : Int)) : powS a (intL s n) = (c, 0) := by
  have hcn := (LN.good ha he).2.2.2.2
  rw [powS_form ha he hn hz]
  exact opS_eq (pw_canon hcn hz) hc ec ((pw_q hcn hz).trans h.symm)

/-- An int as a number. -/
def intZ (k : Int) : LN := intL (decide (k < 0)) k.natAbs
theorem sg_int (k : Int) : RatB.sg (decide (k < 0)) k.natAbs = k := by
  unfold RatB.sg
  by_cases h : k < 0 <;> simp [h] <;> omega
theorem q_ne {a : LN} (ha : a.ok) (he : a.err = 0) (hx : a.x ≠ 0) : a.q ≠ 0 := fun h => hx ((RatB.q_zero (LN.good ha he).2.2.2.2).1 h)
theorem q_eq_zero {a : LN} (ha : a.ok) (he : a.err = 0) (hx : a.x = 0) : a.q = 0 := (RatB.q_zero (LN.good ha he).2.2.2.2).2 hx
/-- What the law asks. -/
theorem powers_law {a : LN} (ha : a.ok) {m n : Int} (hm : m.natAbs ≤ 1000) (hn : n.natAbs ≤ 1000) (h1 : (powS a (intZ m)).2 = 0) (h2 : (powS a (intZ n)).2 = 0) (h3 : (mulS (powS a (intZ m)).1 (powS a (intZ n)).1).2 = 0) :
    powS a (intZ (m + n)) = ((mulS (powS a (intZ m)).1 (powS a (intZ n)).1).1, 0) := by
  obtain ⟨he, z1, a1, a2, a3⟩ := powS_ok ha (by omega) h1
  obtain ⟨_, z2, b1, b2, b3⟩ := powS_ok ha (by omega) h2
  obtain ⟨_, _, c1, c2, c3⟩ := mulS_ok a1 b1 h3
  rw [sg_int] at a3 b3
  have hm0 : a.x = 0 → 0 ≤ m := fun hx => by
    rcases z1 hx with h | h
    · omega
    · simpa using h
  have hn0 : a.x = 0 → 0 ≤ n := fun hx => by
    rcases z2 hx with h | h
    · omega
    · simpa using h
  refine powS_eq ha he (by omega) (fun hx => .inr ?_) c1 c2 ?_
  · have := hm0 hx; have := hn0 hx; simp; omega
  · refine Eq.trans c3 ?_
    show (powS a (intZ m)).1.q * (powS a (intZ n)).1.q = _
    rw [show (powS a (intZ m)).1.q = a.q ^ m from a3, show (powS a (intZ n)).1.q = a.q ^ n from b3, sg_int]
    by_cases hx : a.x = 0
    · obtain ⟨u, rfl⟩ := Int.eq_ofNat_of_zero_le (hm0 hx)
      obtain ⟨v, rfl⟩ := Int.eq_ofNat_of_zero_le (hn0 hx)
      rw [← Int.natCast_add, Rat.zpow_natCast, Rat.zpow_natCast, Rat.zpow_natCast, rat_pow_add]
    · rw [Rat.zpow_add (q_ne ha he hx)]
end Go.Proofs.YtdmhkhnnomdkcaaDoor
/- number.Sign; fetterlocklaw1.same. -/
namespace Go.Proofs.YtdmhkhnnomdkcaaDoor
open Go.RowKit NumB
set_option linter.unusedVariables false
set_option linter.unusedSimpArgs false

/-- The sign of a valid number. -/
def signS (a : LN) : Int := if a.num.length = 0 then 0 else if a.neg then -1 else 1

set_option maxRecDepth 100000 in
set_option maxHeartbeats 3200000 in
theorem same_S (a b : LN) (va vb : Value) (w : World) (ha : GV w va a) (hb : GV w vb b) : Calls Tryd.prog 8 #[va, vb] w fun e w' => e = .returned (.bool (sameB a b)) ∧ Below w.heap.size w w' := by
  obtain ⟨A1, A2, rfl, h1, h2, _, _⟩ := ha
  obtain ⟨A3, A4, rfl, h3, h4, _, _⟩ := hb
  have HB2 : Hid (∀ o1 o2 : Obj, Below w.heap.size w ((w.alloc o1).alloc o2)) := fun o1 o2 => (below_one w o1).alloc (by simp) o2
  have HS1 : Hid (∀ (W : World), Below w.heap.size w W → Calls Tryd.prog 21 #[A1, A3] W fun e w' => e = .returned (.bool (eqB a.num b.num)) ∧ ∃ m, w' = W.drewN m) := fun W hW => sameLimbs_any a.num b.num A1 A3 W (h1.to hW) (h3.to hW)
  have HS2 : Hid (∀ (W : World), Below w.heap.size w W → Calls Tryd.prog 21 #[A2, A4] W fun e w' => e = .returned (.bool (eqB a.den b.den)) ∧ ∃ m, w' = W.drewN m) := fun W hW => sameLimbs_any a.den b.den A2 A4 W (h2.to hW) (h4.to hW)
  obtain ⟨B1, c1, rfl, _⟩ := h1
  obtain ⟨B2, c2, rfl, _⟩ := h2
  obtain ⟨B3, c3, rfl, _⟩ := h3
  obtain ⟨B4, c4, rfl, _⟩ := h4
  have HE : Hid (sameB a b = ((a.neg == b.neg) && (eqB a.num b.num && eqB a.den b.den))) := rfl
  generalize sameB a b = r at *
  generalize eqB a.num b.num = p at *
  generalize eqB a.den b.den = q at *
  generalize a.num.length = n1 at *
  generalize a.den.length = n2 at *
  generalize b.num.length = n3 at *
  generalize b.den.length = n4 at *
  generalize a.neg = na at *
  generalize b.neg = nb at *
  by_cases hn : na = nb
  · have hn1 : (na == nb) = true := by simp [hn]
    rw [hn1] at HE
    subst hn
    cases p with
    | true =>
      go_enter Tryd.func8, Tryd.ntmps8
      go_wp2_with fail
      refine (HS1.out _ (by exact HB2.out _ _)).mono ?_
      rintro e w1 ⟨rfl, k1, rfl⟩
      go_wp2_with fail
      refine (HS2.out _ (by exact below_drewN (HB2.out _ _) _)).mono ?_
      rintro e w1 ⟨rfl, k2, rfl⟩
      go_wp2_with fail
      go_ret
      rw [HE.out]
      exact ⟨by cases q <;> rfl, below_drewN (HB2.out _ _) _⟩
    | false =>
      go_enter Tryd.func8, Tryd.ntmps8
      go_wp2_with fail
      refine (HS1.out _ (by exact HB2.out _ _)).mono ?_
      rintro e w1 ⟨rfl, k1, rfl⟩
      go_wp2_with fail
      go_ret
      rw [HE.out]
      exact ⟨rfl, below_drewN (HB2.out _ _) _⟩
  · have hn1 : (na == nb) = false := by simp [hn]
    rw [hn1] at HE
    clear hn
    go_enter Tryd.func8, Tryd.ntmps8
    go_wp2_with fail
    go_ret
    rw [HE.out]
    exact ⟨rfl, HB2.out _ _⟩
end Go.Proofs.YtdmhkhnnomdkcaaDoor
/- The frame of a law: arguments read again, the post where only new memory was made; a number that came in, opened. -/
namespace Go.Proofs.YtdmhkhnnomdkcaaDoor
open Go.ChangeShapes Go.WideShapes Go.ChangeAt Go.RowKit Go.Joins NumB
set_option linter.unusedVariables false
set_option linter.unusedSimpArgs false

theorem own : ownKnob Tryd.prog.godebug = none := by kernel_rfl
theorem laidOut : laidOutB Tryd.prog = true := by kernel_rfl

/-- The arguments read again where nothing old has turned. -/
theorem below_trodAll {H : Type} {enc : TypeId × Value → H} {P : Program} (hl : laidOutB P = true) {W W' : World} (hb : Below W.heap.size W W') :
    ∀ {ts : List TypeId} {vs : List Value} {ds : List (DataW H)} {ps : List MemPlace}, (∀ t ∈ ts, P.readableRec t = true ∧ t < P.types.size) → DataW.TrodAll enc P W 0 (fun _ => true) true ts vs ds ps → (∀ x ∈ ps, x.block < W.heap.size) →
      DataW.TrodAll enc P W' 0 (fun b => decide (b < W.heap.size)) true ts vs ds ps
  | [], [], [], _, _, h, _ => h
  | t :: _, _ :: _, _ :: _, _, hT, ⟨p, q, h1, h2, e⟩, hs => ⟨p, q, Below.trod hl (hT t (by simp)).1 (hT t (by simp)).2 h1 hb (fun x hx => hs x (by rw [e]; exact List.mem_append_left _ hx)), below_trodAll hl hb (fun u hu => hT u (by simp [hu])) h2 (fun x hx => hs x (by rw [e]; exact List.mem_append_right _ hx)), e⟩

/-- The post of a law: it answered true, and only new memory was made. -/
theorem post_law {H : Type} {enc : TypeId × Value → H} {f : Func} {s : ChangeSpec} {W W' : World} {args : Array Value} {ds : List (DataW H)} {before : List MemPlace} (hvars : s.vars = [])
    (hW : DataW.Whole enc Tryd.prog f.params.toList s.vars false W args.toList ds [] before)
    (hA : DataW.TrodAll enc Tryd.prog W 0 (fun _ => true) true f.params.toList args.toList ds before)
    (hT : ∀ t ∈ f.params.toList, Tryd.prog.readableRec t = true ∧ t < Tryd.prog.types.size)
    (hres : f.resultTypes = #[4]) (hfn : s.fn H ds = { results := [.lit (.bool true)], args := ds })
    (hb : Below W.heap.size W W') : s.post enc Tryd.prog f false true false false W args (.bool true) W' := by
  have hlt : ∀ p ∈ before, p.block < W.heap.size := fun p hp => hW.lt p hp
  have e : s.fn H (ds ++ []) = { results := [.lit (.bool true)], args := ds } := by rw [List.append_nil]; exact hfn
  refine ⟨ds, [], before, [], before, [], hW, ?_, ?_, ?_, hb.frame _, fun h => by cases h⟩
  · rw [e, hres]; exact trodAll_mk1 (shut_bool Tryd.underlying4 _)
  · rw [e]; exact below_trodAll laidOut hb hT hA hlt
  · rw [e, hvars]; exact rfl

set_option maxRecDepth 100000 in
/-- A slice of limbs that came in. -/
theorem open_limbs {H : Type} {enc : TypeId × Value → H} {W : World} {n : Nat} {v : Value} {y : DataW H × List MemPlace}
    (h : DataW.trod enc Tryd.prog W 0 (fun _ => true) true n 22 [v] = some y) : ∃ xs : List Nat, Sl .u32 W v xs ∧ Ok W32 xs := by
  rcases open_ints Tryd.underlying22 Tryd.underlying35 (by kernel_rfl) h with ⟨hcs, hx⟩ | ⟨a, len, cap, zs, hcs, _, hl, hm, hz, hx, hcell, hwz⟩
  · simp only [List.cons.injEq, and_true] at hcs
    subst hcs
    exact ⟨[], (OwnV.nil_ (B := 0) (T := 0) W).sl, Ok.nil⟩
  · simp only [List.cons.injEq, and_true] at hcs
    subst hcs
    simp only [if_true] at hz
    have hwf : ∀ z ∈ zs, 0 ≤ z ∧ z < 4294967296 := fun z hzm => by
      have := bounds_u32 (hwz z hzm)
      omega
    have hget : ∀ i, i < zs.length → ((zs.map Int.toNat).getD i 0 : Int) = zs.getD i 0 := fun i hi => by
      rw [List.getD_eq_getElem?_getD, List.getD_eq_getElem?_getD, List.getElem?_map, List.getElem?_eq_getElem hi]
      have := hwf _ (List.getElem_mem hi)
      simp only [Option.map_some, Option.getD_some]
      omega
    refine ⟨(zs.map Int.toNat).take len, ?_, ?_⟩
    · refine Sl.of_rd (n := cap) (xs := zs.map Int.toNat) ?_ hl (Nat.le_refl _) hm rfl
      refine ⟨by simp [hz], fun hn => ?_⟩
      obtain ⟨b, off, rfl, hc⟩ := ints_at hcell (by omega)
      refine ⟨b, off, rfl, ?_, fun i hi => ?_⟩
      · have := hc 0 (by omega)
        rcases Nat.lt_or_ge b W.heap.size with h1 | h1
        · exact h1
        · simp [World.cell?, Array.getElem?_eq_none h1] at this
      · rw [hc i (by omega), hget i (by omega)]
    · intro x hx
      obtain ⟨z, hzm, rfl⟩ := List.mem_map.1 (List.mem_of_mem_take hx)
      have := hwf z hzm
      show z.toNat < 4294967296
      omega

set_option maxRecDepth 100000 in
/-- A number that came in: a sign and two lists of limbs. -/
theorem open_number {H : Type} {enc : TypeId × Value → H} {W : World} {base : Nat} {v : Value} {d : DataW H} {p : List MemPlace}
    (hv : Value.okWide Tryd.prog W .any base 24 v) (h : DataW.Trod enc Tryd.prog W 0 (fun _ => true) true 24 v d p) :
    ∃ (neg : Bool) (va vb : Value) (xs ys : List Nat), v = .agg #[.bool neg, va, vb] ∧ Sl .u32 W va xs ∧ Sl .u32 W vb ys ∧ Ok W32 xs ∧ Ok W32 ys := by
  obtain ⟨c0, c1, c2, y0, y1, y2, m, rfl, _, _, h0, h1, h2⟩ := open_agg3 Tryd.underlying24 (by kernel_rfl) (by kernel_rfl) hv h
  obtain ⟨b, e0, _⟩ := DataW.trod_bool Tryd.underlying4 h0
  simp only [List.cons.injEq, and_true] at e0
  subst e0
  obtain ⟨xs, hx, ox⟩ := open_limbs h1
  obtain ⟨ys, hy, oy⟩ := open_limbs h2
  exact ⟨b, c1, c2, xs, ys, rfl, hx, hy, ox, oy⟩

end Go.Proofs.YtdmhkhnnomdkcaaDoor

/-  -/
import Derived.Deep.RegionHeld3
import Derived.Test.YtkamkaehlofgpaaJo10
set_option linter.unusedVariables false
set_option linter.unusedSimpArgs false
/- nat.Add: the sum of several numbers. Conditions: the sum has at most 100000 limbs. -/
namespace Go.Proofs.Ytkamkaehlofgpaa
open Go.RowKit NumB
set_option linter.unusedVariables false
set_option linter.unusedSimpArgs false

theorem sum_take_succ (ns : List Nat) (j : Nat) (h : j < ns.length) : (ns.take (j + 1)).sum = (ns.take j).sum + ns.getD j 0 := by
  rw [List.take_succ_eq_append_getElem h, List.sum_append, getD_lt h]; simp
theorem sum_take_le (ns : List Nat) (j : Nat) : (ns.take j).sum ≤ ns.sum := by
  have h := congrArg List.sum (List.take_append_drop j ns)
  rw [List.sum_append] at h
  omega
theorem getD_le_sum (ns : List Nat) (j : Nat) : ns.getD j 0 ≤ ns.sum := by
  rcases Nat.lt_or_ge j ns.length with h | h
  · have h1 := sum_take_succ ns j h
    have h2 := sum_take_le ns (j + 1)
    omega
  · rw [getD_ge h]; exact Nat.zero_le _

/-- A slice of slices, each of which reads as a number. -/
def Nats (w : World) (b o : Nat) (ns : List Nat) : Prop := b < w.heap.size ∧ ∀ i, i < ns.length → ∃ v, w.cell? ⟨b, o + i, none⟩ = some v ∧ Nat32 w v (ns.getD i 0)

end Go.Proofs.Ytkamkaehlofgpaa
/- nat.Sub: a difference that is not negative. Conditions: at most 100000 limbs. -/
namespace Go.Proofs.Ytkamkaehlofgpaa
open Go.RowKit NumB
set_option linter.unusedVariables false
set_option linter.unusedSimpArgs false

theorem sb_cell (p l b : Nat) (hp : p < 4294967296) (hl : l ≤ 1) (hb : b < 4294967296) :
    ∃ x c : Nat, IntKind.u64.wrap (IntKind.u64.wrap ((p : Int) - (l : Int)) - (b : Int)) % 4294967296 = (x : Int) ∧
      bits .and .u64 (IntKind.u64.wrap (IntKind.u64.wrap ((p : Int) - (l : Int)) - (b : Int)) / 4294967296) 1 = (c : Int) ∧ x < 4294967296 ∧ c ≤ 1 ∧ p + 4294967296 * c = x + b + l := by
  have e : IntKind.u64.wrap (IntKind.u64.wrap ((p : Int) - (l : Int)) - (b : Int)) = (((p + 18446744073709551616 - l - b) % 18446744073709551616 : Nat) : Int) := by
    rw [IntKind.wrap_u64, IntKind.wrap_u64]; omega
  rw [e]
  generalize hX : (p + 18446744073709551616 - l - b) % 18446744073709551616 = X
  refine ⟨X % 4294967296, X / 4294967296 % 2, (of_cast X).1, ?_, by omega, by omega, by omega⟩
  rw [(of_cast X).2, and_one_u64' _ (by omega)]
theorem sb_cell1 (p l : Nat) (hp : p < 4294967296) (hl : l ≤ 1) :
    ∃ x c : Nat, IntKind.u64.wrap ((p : Int) - (l : Int)) % 4294967296 = (x : Int) ∧
      bits .and .u64 (IntKind.u64.wrap ((p : Int) - (l : Int)) / 4294967296) 1 = (c : Int) ∧ x < 4294967296 ∧ c ≤ 1 ∧ p + 4294967296 * c = x + 0 + l := by
  have e : IntKind.u64.wrap ((p : Int) - (l : Int)) = (((p + 18446744073709551616 - l) % 18446744073709551616 : Nat) : Int) := by
    rw [IntKind.wrap_u64]; omega
  rw [e]
  generalize hX : (p + 18446744073709551616 - l) % 18446744073709551616 = X
  refine ⟨X % 4294967296, X / 4294967296 % 2, (of_cast X).1, ?_, by omega, by omega, by omega⟩
  rw [(of_cast X).2, and_one_u64' _ (by omega)]
theorem sub_list {xs ys out : List Nat} {j bo p q z c : Nat} (hj : j < out.length) (hp : xs.getD j 0 = p) (hq : ys.getD j 0 = q) (hz : p + 4294967296 * c = z + q + bo)
    (he : val W32 (xs.take j) + W32 ^ j * bo = val W32 (out.take j) + val W32 (ys.take j)) :
    val W32 (xs.take (j + 1)) + W32 ^ (j + 1) * c = val W32 ((out.set j z).take (j + 1)) + val W32 (ys.take (j + 1)) := by
  rw [val_take_succ, val_take_succ, val_take_succ, take_set_lt _ _ _ _ (Nat.le_refl _), getD_set_self _ _ _ hj, hp, hq, Nat.pow_succ, Nat.mul_assoc]
  have h1 : W32 ^ j * p + W32 ^ j * (W32 * c) = W32 ^ j * z + W32 ^ j * q + W32 ^ j * bo := by
    rw [← Nat.mul_add, show W32 * c = 4294967296 * c from rfl, hz, Nat.mul_add, Nat.mul_add]
  omega
theorem sub_end {xs ys out : List Nat} {n bo x y : Nat} (hx : val W32 xs = x) (hy : val W32 ys = y) (hl : xs.length = n) (hm : ys.length ≤ n) (ho : out.length = n) (ook : Ok W32 out) (hle : y ≤ x)
    (he : val W32 (xs.take n) + W32 ^ n * bo = val W32 (out.take n) + val W32 (ys.take n)) : val W32 out = x - y := by
  rw [val_take_all W32 out (by omega), val_take_all W32 xs (by omega), val_take_all W32 ys (by omega), hx, hy] at he
  have h1 := val_lt ook
  rw [ho] at h1
  rcases Nat.eq_zero_or_pos bo with h0 | h0
  · rw [h0, Nat.mul_zero, Nat.add_zero] at he
    omega
  · exfalso
    have h4 : W32 ^ n * 1 ≤ W32 ^ n * bo := Nat.mul_le_mul_left _ h0
    omega

end Go.Proofs.Ytkamkaehlofgpaa
/- nat.Mul: the product. Conditions: at most 50000 limbs. -/
namespace Go.Proofs.Ytkamkaehlofgpaa
open Go.RowKit NumB
set_option linter.unusedVariables false
set_option linter.unusedSimpArgs false

theorem mul_alg {V Vo Vy P Q x y o c B s : Nat} (hs : s = c + (x * y + o)) (hP : P = Q * B) (h : V + P * c = Vo + Q * x * Vy) (W : Nat) :
    (V + P * (s % W)) + (P * W) * (s / W) = (Vo + P * o) + Q * x * (Vy + B * y) := by
  have h1 := mod_div_step P W s
  have h2 : P * s = P * c + (P * (x * y) + P * o) := by rw [hs, Nat.mul_add, Nat.mul_add]
  have h3 : Q * x * (B * y) = P * (x * y) := by
    rw [hP]; simp only [Nat.mul_comm, Nat.mul_left_comm, Nat.mul_assoc]
  rw [Nat.mul_add (Q * x), h3]
  omega
theorem mul_inner {out o2 ys : List Nat} {i k c x y o s : Nat} (hlen : i + k < o2.length) (ho : out.getD (i + k) 0 = o) (hy : ys.getD k 0 = y) (hs : s = c + (x * y + o))
    (h : val W32 (o2.take (i + k)) + W32 ^ (i + k) * c = val W32 (out.take (i + k)) + W32 ^ i * x * val W32 (ys.take k)) :
    val W32 ((o2.set (i + k) (s % 4294967296)).take (i + (k + 1))) + W32 ^ (i + (k + 1)) * (s / 4294967296) = val W32 (out.take (i + (k + 1))) + W32 ^ i * x * val W32 (ys.take (k + 1)) := by
  rw [← Nat.add_assoc, val_take_succ, val_take_succ, val_take_succ, take_set_lt _ _ _ _ (Nat.le_refl _), getD_set_self _ _ _ hlen, ho, hy, Nat.pow_succ]
  exact mul_alg hs (Nat.pow_add _ _ _) h W32
theorem mul_outer {out o2 xs ys : List Nat} {i m c x Y : Nat} (hlen : i + m < o2.length) (hm : ys.length = m) (hY : val W32 ys = Y) (hx : xs.getD i 0 = x)
    (h : val W32 (o2.take (i + m)) + W32 ^ (i + m) * c = val W32 (out.take (i + m)) + W32 ^ i * x * val W32 (ys.take m)) (ho : val W32 (out.take (i + m)) = val W32 (xs.take i) * Y) :
    val W32 ((o2.set (i + m) c).take (i + 1 + m)) = val W32 (xs.take (i + 1)) * Y := by
  rw [show i + 1 + m = i + m + 1 from by omega, val_take_succ, val_take_succ, take_set_lt _ _ _ _ (Nat.le_refl _), getD_set_self _ _ _ hlen, h, ho, val_take_all W32 ys (by omega), hY, hx, Nat.add_mul]

end Go.Proofs.Ytkamkaehlofgpaa
/- number.sum. Conditions: at most 50000 limbs. -/
namespace Go.Proofs.Ytkamkaehlofgpaa
open Go.RowKit NumB
set_option linter.unusedVariables false
set_option linter.unusedSimpArgs false

theorem digs_len_mul (x y : Nat) : (digs W32 (x * y)).length ≤ (digs W32 x).length + (digs W32 y).length := by
  refine digs_len_le W32_gt ?_
  rw [Nat.pow_add]
  exact Nat.mul_lt_mul'' (digs_lt W32_gt) (digs_lt W32_gt)
theorem digs_len_add {x y n : Nat} (hx : (digs W32 x).length ≤ n) (hy : (digs W32 y).length ≤ n) : (digs W32 (x + y)).length ≤ n + 1 := by
  refine digs_len_le W32_gt ?_
  have h1 := Nat.lt_of_lt_of_le (digs_lt (n := x) W32_gt) (Nat.pow_le_pow_right (n := W32) (by decide) hx)
  have h2 := Nat.lt_of_lt_of_le (digs_lt (n := y) W32_gt) (Nat.pow_le_pow_right (n := W32) (by decide) hy)
  rw [Nat.pow_succ]
  have h3 : W32 ^ n * 2 ≤ W32 ^ n * W32 := Nat.mul_le_mul_left _ (by decide)
  omega
theorem digs_len_sub {x y n : Nat} (hx : (digs W32 x).length ≤ n) : (digs W32 (x - y)).length ≤ n := Nat.le_trans (digs_len_mono W32_gt (Nat.sub_le _ _)) hx

/-- The sum of two naturals with signs. -/
def sumN (na : Bool) (x : Nat) (nb : Bool) (y : Nat) : Bool × Nat := if na = nb then (na, x + y) else if y ≤ x then (na, x - y) else (nb, y - x)
theorem sumN_len {na nb : Bool} {x y n : Nat} (hx : (digs W32 x).length ≤ n) (hy : (digs W32 y).length ≤ n) : (digs W32 (sumN na x nb y).2).length ≤ n + 1 := by
  unfold sumN
  split
  · exact digs_len_add hx hy
  · split
    · exact Nat.le_trans (digs_len_sub hx) (by omega)
    · exact Nat.le_trans (digs_len_sub hy) (by omega)

def SumPost (w : World) (r : Bool × Nat) (e : Ending) (w' : World) : Prop := ∃ v, e = .returned (.tuple #[.bool r.1, v]) ∧ Nat32 w' v r.2 ∧ Below w.heap.size w w'

theorem nats_two {w : World} {A B : Value} {x y : Nat} (ha : Nat32 w A x) (hb : Nat32 w B y) (t : TypeId) : Nats (w.alloc (.cells #[A, B] t)) w.heap.size 0 [x, y] := by
  refine ⟨by simp, fun i hi => ?_⟩
  have hk := Blk.new w t #[A, B]
  rcases i with _ | _ | i
  · exact ⟨A, hk.cell 0, ha.to (below_one _ _)⟩
  · exact ⟨B, hk.cell 1, hb.to (below_one _ _)⟩
  · simp at hi; omega
theorem nats_two' {w : World} {A B : Value} {x y g : Nat} (hg : w.heap.size = g) (ha : Nat32 w A x) (hb : Nat32 w B y) (t : TypeId) : Nats (w.alloc (.cells #[A, B] t)) g 0 [x, y] := by subst hg; exact nats_two ha hb t

end Go.Proofs.Ytkamkaehlofgpaa
/- number.add. Conditions: at most 10000 limbs. -/
namespace Go.Proofs.Ytkamkaehlofgpaa
open Go.RowKit NumB
set_option linter.unusedVariables false
set_option linter.unusedSimpArgs false

/-- The cells of three blocks of numbers, the third new. -/
def Box2 (w : World) (g : Nat) (na nb : Bool) (A1 A2 A3 A4 : Value) : Prop :=
  w.cell? ⟨g, 0, none⟩ = some (.bool na) ∧ w.cell? ⟨g, 1, none⟩ = some A1 ∧ w.cell? ⟨g, 2, none⟩ = some A2 ∧ w.cell? ⟨g + 1, 0, none⟩ = some (.bool nb) ∧ w.cell? ⟨g + 1, 1, none⟩ = some A3 ∧ w.cell? ⟨g + 1, 2, none⟩ = some A4 ∧ g + 2 < w.heap.size

theorem Box2.to {w w' : World} {g : Nat} {na nb : Bool} {A1 A2 A3 A4 : Value} (h : Box2 w g na nb A1 A2 A3 A4) (hb : Below w.heap.size w w') : Box2 w' g na nb A1 A2 A3 A4 := by
  obtain ⟨h0, h1, h2, h3, h4, h5, h6⟩ := h
  exact ⟨(hb.cell (p := ⟨g, 0, none⟩) (by show g < _; omega)).trans h0, (hb.cell (p := ⟨g, 1, none⟩) (by show g < _; omega)).trans h1, (hb.cell (p := ⟨g, 2, none⟩) (by show g < _; omega)).trans h2, (hb.cell (p := ⟨g + 1, 0, none⟩) (by show g + 1 < _; omega)).trans h3, (hb.cell (p := ⟨g + 1, 1, none⟩) (by show g + 1 < _; omega)).trans h4, (hb.cell (p := ⟨g + 1, 2, none⟩) (by show g + 1 < _; omega)).trans h5, Nat.lt_of_lt_of_le h6 hb.size⟩

theorem below_three (w : World) (o1 o2 o3 : Obj) : Below w.heap.size w (((w.alloc o1).alloc o2).alloc o3) := (((Below.refl _ _).alloc (Nat.le_refl _) o1).alloc (by simp) o2).alloc (by simp; omega) o3

end Go.Proofs.Ytkamkaehlofgpaa
/- number.Add, at any two numbers. -/
namespace Go.Proofs.Ytkamkaehlofgpaa
open Go.RowKit NumB
set_option linter.unusedVariables false
set_option linter.unusedSimpArgs false

/-- What a number without fault is. -/
theorem checkL_zero {neg : Bool} {xs ys : List Nat} (ox : Ok W32 xs) (oy : Ok W32 ys) (h : checkL neg xs ys = 0) :
    digs W32 (val W32 xs) = xs ∧ digs W32 (val W32 ys) = ys ∧ xs.length ≤ 128 ∧ ys.length ≤ 128 ∧ 0 < val W32 ys ∧ Nat.gcd (val W32 xs) (val W32 ys) = 1 ∧ (val W32 xs = 0 → neg = false) := by
  unfold checkL at h
  by_cases h1 : 128 < xs.length ∨ 128 < ys.length
  · rw [if_pos h1] at h; omega
  rw [if_neg h1] at h
  by_cases h2 : lastB xs = true ∨ lastB ys = true ∨ ys.length = 0
  · rw [if_pos h2] at h; omega
  rw [if_neg h2] at h
  have hlx : lastB xs = false := by cases h : lastB xs with | false => rfl | true => exact absurd (.inl h) h2
  have hly : lastB ys = false := by cases h : lastB ys with | false => rfl | true => exact absurd (.inr (.inl h)) h2
  have hy0 : ys ≠ [] := by rintro rfl; exact h2 (.inr (.inr rfl))
  have hvy := val_pos (B := W32) (by decide) (top_of_last hly) hy0
  refine ⟨digs_val W32_gt ox (top_of_last hlx), digs_val W32_gt oy (top_of_last hly), by omega, by omega, hvy, ?_, ?_⟩
  · unfold checkN at h
    by_cases hx : val W32 xs = 0
    · rw [if_pos hx] at h
      by_cases h3 : neg = false ∧ val W32 ys = 1
      · rw [hx, h3.2]; rfl
      · rw [if_neg h3] at h; omega
    · rw [if_neg hx] at h
      by_cases h3 : val W32 ys = 1 ∨ val W32 xs = 1 ∨ Nat.gcd (val W32 xs) (val W32 ys) = 1
      · rcases h3 with h3 | h3 | h3
        · rw [h3, Nat.gcd_one_right]
        · rw [h3, Nat.gcd_one_left]
        · exact h3
      · rw [if_neg h3] at h; omega
  · intro hx
    unfold checkN at h
    rw [if_pos hx] at h
    by_cases h3 : neg = false ∧ val W32 ys = 1
    · exact h3.1
    · rw [if_neg h3] at h; omega

/-- An error, or a number that may be too long. -/
def OpPost (w : World) (err : Int) (sg : Bool) (x y : Nat) (e : Ending) (w' : World) : Prop :=
  (err ≠ 0 ∧ e = .returned (.tuple #[zeroNum, .int .i64 err]) ∧ Below w.heap.size w w') ∨ (err = 0 ∧ FitPost w sg x y e w')

/-- The first of two errors. -/
def err2 (a b : Int) : Int := if a = 0 then b else a
theorem err2_zero {a b : Int} : err2 a b = 0 ↔ a = 0 ∧ b = 0 := by
  unfold err2; split <;> constructor <;> intro h <;> omega
theorem checkL_bd (neg : Bool) (xs ys : List Nat) : 0 ≤ checkL neg xs ys ∧ checkL neg xs ys ≤ 3 := by
  unfold checkL checkN
  split
  · omega
  · split
    · omega
    · split
      · split <;> omega
      · split <;> omega
theorem err2_bd {a b : Int} (ha : 0 ≤ a ∧ a ≤ 3) (hb : 0 ≤ b ∧ b ≤ 3) : 0 ≤ err2 a b ∧ err2 a b ≤ 3 := by unfold err2; split <;> omega

/-- Three blocks, one after the other. -/
theorem blk3 (w : World) (t : TypeId) (a b c : Array Value) : Blk (((w.alloc (.cells a t)).alloc (.cells b t)).alloc (.cells c t)) w.heap.size t a ∧ Blk (((w.alloc (.cells a t)).alloc (.cells b t)).alloc (.cells c t)) (w.heap.size + 1) t b ∧ Blk (((w.alloc (.cells a t)).alloc (.cells b t)).alloc (.cells c t)) (w.heap.size + 1 + 1) t c := by
  refine ⟨((Blk.new w t a).alloc _).alloc _, ?_, ?_⟩
  · have := (Blk.new (w.alloc (.cells a t)) t b).alloc (.cells c t); simpa using this
  · have := Blk.new ((w.alloc (.cells a t)).alloc (.cells b t)) t c; simpa using this

/-- Two numbers that came in. -/
def Two (w : World) (na nb : Bool) (A1 A2 A3 A4 : Value) (xa ya xb yb : List Nat) : Prop := Sl .u32 w A1 xa ∧ Sl .u32 w A2 ya ∧ Sl .u32 w A3 xb ∧ Sl .u32 w A4 yb
theorem Two.to {w w' : World} {na nb : Bool} {A1 A2 A3 A4 : Value} {xa ya xb yb : List Nat} (h : Two w na nb A1 A2 A3 A4 xa ya xb yb) (hb : Below w.heap.size w w') : Two w' na nb A1 A2 A3 A4 xa ya xb yb := ⟨h.1.to hb, h.2.1.to hb, h.2.2.1.to hb, h.2.2.2.to hb⟩

end Go.Proofs.Ytkamkaehlofgpaa
/- Rational numbers in lowest terms, as a sign, a numerator and a denominator: plain facts. No program. -/
namespace Go.Proofs.Ytkamkaehlofgpaa.RatB
set_option linter.unusedVariables false
set_option linter.unusedSimpArgs false

/-- A natural number with a sign. -/
def sg (neg : Bool) (x : Nat) : Int := if neg then -(x : Int) else (x : Int)
theorem sg_natAbs (neg : Bool) (x : Nat) : (sg neg x).natAbs = x := by unfold sg; cases neg <;> simp
theorem sg_zero (neg : Bool) : sg neg 0 = 0 := by unfold sg; cases neg <;> simp
theorem sg_and (neg : Bool) (x : Nat) : sg (neg && decide (0 < x)) x = sg neg x := by
  rcases Nat.eq_zero_or_pos x with h | h
  · subst h; rw [sg_zero, sg_zero]
  · simp [h]
theorem sg_mul (a b : Bool) (x y : Nat) : sg (a != b) (x * y) = sg a x * sg b y := by
  unfold sg; cases a <;> cases b <;> simp [Int.neg_mul, Int.mul_neg]

/-- A triple in lowest terms. -/
def Canon (neg : Bool) (x y : Nat) : Prop := 0 < y ∧ Nat.gcd x y = 1 ∧ (x = 0 → neg = false)
/-- The rational number. -/
def q (neg : Bool) (x y : Nat) : Rat := mkRat (sg neg x) y

theorem q_num {neg : Bool} {x y : Nat} (h : Canon neg x y) : (q neg x y).num = sg neg x ∧ (q neg x y).den = y := by
  have hc : (sg neg x).natAbs.Coprime y := by rw [sg_natAbs]; exact h.2.1
  have e := Rat.mk_eq_mkRat (sg neg x) y (Nat.pos_iff_ne_zero.1 h.1) hc
  unfold q
  rw [← e]
  exact ⟨rfl, rfl⟩
theorem q_inj {n1 n2 : Bool} {x1 x2 y1 y2 : Nat} (h1 : Canon n1 x1 y1) (h2 : Canon n2 x2 y2) (h : q n1 x1 y1 = q n2 x2 y2) : n1 = n2 ∧ x1 = x2 ∧ y1 = y2 := by
  have a := q_num h1
  have b := q_num h2
  rw [h] at a
  have e1 : sg n1 x1 = sg n2 x2 := a.1.symm.trans b.1
  have e2 : y1 = y2 := a.2.symm.trans b.2
  have e3 : x1 = x2 := by rw [← sg_natAbs n1 x1, e1, sg_natAbs]
  refine ⟨?_, e3, e2⟩
  subst e3
  rcases Nat.eq_zero_or_pos x1 with h0 | h0
  · rw [h1.2.2 h0, h2.2.2 h0]
  · cases n1 <;> cases n2 <;> simp [sg] at e1 <;> first | rfl | omega

/-- Lowest terms. -/
theorem canon_norm {neg : Bool} {n d : Nat} (hd : 0 < d) : Canon (neg && decide (0 < n)) (n / Nat.gcd n d) (d / Nat.gcd n d) := by
  have hg : 0 < Nat.gcd n d := Nat.gcd_pos_of_pos_right _ hd
  refine ⟨Nat.div_pos (Nat.le_of_dvd hd (Nat.gcd_dvd_right _ _)) hg, ?_, ?_⟩
  · rw [Nat.gcd_div (Nat.gcd_dvd_left _ _) (Nat.gcd_dvd_right _ _), Nat.div_self hg]
  · intro h
    have h0 : n = 0 := by
      have := Nat.div_mul_cancel (Nat.gcd_dvd_left n d)
      rw [h, Nat.zero_mul] at this
      exact this.symm
    subst h0
    simp
theorem q_norm {neg : Bool} {n d : Nat} (hd : 0 < d) : q (neg && decide (0 < n)) (n / Nat.gcd n d) (d / Nat.gcd n d) = mkRat (sg neg n) d := by
  have hg : 0 < Nat.gcd n d := Nat.gcd_pos_of_pos_right _ hd
  have e1 := Nat.div_mul_cancel (Nat.gcd_dvd_left n d)
  have e2 := Nat.div_mul_cancel (Nat.gcd_dvd_right n d)
  have hs : sg (neg && decide (0 < n)) (n / Nat.gcd n d) * (Nat.gcd n d : Int) = sg neg n := by
    rcases Nat.eq_zero_or_pos n with h0 | h0
    · subst h0; simp [sg_zero]
    · have : ((n / Nat.gcd n d : Nat) : Int) * (Nat.gcd n d : Int) = (n : Int) := by rw [← Int.natCast_mul, e1]
      unfold sg
      cases neg
      · simpa using this
      · simp only [h0, decide_true, Bool.and_true, if_true, Int.neg_mul]; rw [this]
  unfold q
  have := Rat.mkRat_mul_left (n := sg (neg && decide (0 < n)) (n / Nat.gcd n d)) (d := d / Nat.gcd n d) (a := Nat.gcd n d) (Nat.pos_iff_ne_zero.1 hg)
  rw [← this, Int.mul_comm, hs, Nat.mul_comm, e2]

/-- Sum, product, quotient. -/
theorem q_add {n1 n2 : Bool} {x1 x2 y1 y2 : Nat} (h1 : 0 < y1) (h2 : 0 < y2) : mkRat (sg n1 (x1 * y2) + sg n2 (x2 * y1)) (y1 * y2) = q n1 x1 y1 + q n2 x2 y2 := by
  unfold q
  rw [Rat.mkRat_add_mkRat _ _ (Nat.pos_iff_ne_zero.1 h1) (Nat.pos_iff_ne_zero.1 h2)]
  congr 1
  unfold sg; cases n1 <;> cases n2 <;> simp [Int.neg_mul]
theorem q_neg (n : Bool) (x y : Nat) : q (!n) x y = -q n x y := by
  unfold q
  rw [Rat.neg_mkRat]
  congr 1
  unfold sg; cases n <;> simp
theorem q_mul {n1 n2 : Bool} {x1 x2 y1 y2 : Nat} : mkRat (sg (n1 != n2) (x1 * x2)) (y1 * y2) = q n1 x1 y1 * q n2 x2 y2 := by
  unfold q
  rw [Rat.mkRat_mul_mkRat, sg_mul]
theorem q_zero {n : Bool} {x y : Nat} (h : Canon n x y) : q n x y = 0 ↔ x = 0 := by
  constructor
  · intro e
    have := (q_num h).1
    rw [e] at this
    have h2 : (sg n x).natAbs = 0 := by rw [← this]; rfl
    rwa [sg_natAbs] at h2
  · intro e
    subst e
    unfold q; rw [sg_zero]; simp
theorem q_inv {n : Bool} {x y : Nat} (hx : 0 < x) (hy : 0 < y) : q n y x * q n x y = 1 := by
  unfold q
  rw [Rat.mkRat_mul_mkRat]
  have e : sg n y * sg n x = ((y * x : Nat) : Int) := by unfold sg; cases n <;> simp [Int.neg_mul, Int.mul_neg]
  rw [e, Nat.mul_comm x y]
  have h : y * x ≠ 0 := Nat.pos_iff_ne_zero.1 (Nat.mul_pos hy hx)
  have := Rat.mkRat_mul_left (n := 1) (d := 1) (a := y * x) h
  rw [Int.mul_one, Nat.mul_one] at this
  rw [this]; rfl
end Go.Proofs.Ytkamkaehlofgpaa.RatB
/- Numbers as lists of limbs, valid or not: what the operations answer, as plain functions. -/
namespace Go.Proofs.Ytkamkaehlofgpaa
open Go.RowKit NumB
set_option linter.unusedVariables false
set_option linter.unusedSimpArgs false

/-- A sign and two lists of limbs. -/
structure LN where
  neg : Bool
  num : List Nat
  den : List Nat
/-- The zero number, which is not valid. -/
def zeroL : LN := ⟨false, [], []⟩
def LN.ok (a : LN) : Prop := Ok W32 a.num ∧ Ok W32 a.den
def LN.err (a : LN) : Int := checkL a.neg a.num a.den
def LN.x (a : LN) : Nat := val W32 a.num
def LN.y (a : LN) : Nat := val W32 a.den

/-- A value that reads as a number. -/
def GV (w : World) (v : Value) (a : LN) : Prop := ∃ A B, v = .agg #[.bool a.neg, A, B] ∧ Sl .u32 w A a.num ∧ Sl .u32 w B a.den ∧ a.ok
theorem GV.to {w w' : World} {v : Value} {a : LN} (h : GV w v a) (hb : Below w.heap.size w w') : GV w' v a := by
  obtain ⟨A, B, e, h1, h2, h3⟩ := h
  exact ⟨A, B, e, h1.to hb, h2.to hb, h3⟩
theorem GV.form {w : World} {v : Value} {a : LN} (h : GV w v a) : ∃ A n c B m d, v = .agg #[.bool a.neg, .slice A n c, .slice B m d] ∧ n = a.num.length ∧ m = a.den.length := by
  obtain ⟨A, B, rfl, ⟨A1, c1, rfl, _⟩, ⟨B1, d1, rfl, _⟩, _⟩ := h
  exact ⟨_, _, _, _, _, _, rfl, rfl, rfl⟩
theorem GV.parts {w : World} {s : Bool} {A B : Value} {a : LN} (h : GV w (.agg #[.bool s, A, B]) a) : s = a.neg ∧ Sl .u32 w A a.num ∧ Sl .u32 w B a.den ∧ a.ok := by
  obtain ⟨A', B', e, h1, h2, h3⟩ := h
  simp only [Value.agg.injEq, Array.mk.injEq, List.cons.injEq, Value.bool.injEq, and_true] at e
  obtain ⟨rfl, rfl, rfl⟩ := e
  exact ⟨rfl, h1, h2, h3⟩
theorem GV.ok {w : World} {v : Value} {a : LN} (h : GV w v a) : a.ok := by obtain ⟨_, _, _, _, _, h⟩ := h; exact h
theorem GV.zero (w : World) : GV w zeroNum zeroL := ⟨_, _, rfl, (OwnV.nil_ (B := 0) (T := 0) w).sl, (OwnV.nil_ (B := 0) (T := 0) w).sl, Ok.nil, Ok.nil⟩
theorem GV.of_num {w : World} {v : Value} {s : Bool} {x y : Nat} (h : NumV w v s x y) : GV w v ⟨s, digs W32 x, digs W32 y⟩ := by
  obtain ⟨A, B, e, h1, h2⟩ := h
  exact ⟨A, B, e, h1, h2, ok_digs W32_gt _, ok_digs W32_gt _⟩
theorem two_gv {w : World} {A1 A2 A3 A4 : Value} {a b : LN} (h1 : GV w (.agg #[.bool a.neg, A1, A2]) a) (h2 : GV w (.agg #[.bool b.neg, A3, A4]) b) : Two w a.neg b.neg A1 A2 A3 A4 a.num a.den b.num b.den :=
  ⟨h1.parts.2.1, h1.parts.2.2.1, h2.parts.2.1, h2.parts.2.2.1⟩

/-- A number and an error. -/
def SPost (w : World) (r : LN × Int) (e : Ending) (w' : World) : Prop := ∃ v, e = .returned (.tuple #[v, .int .i64 r.2]) ∧ GV w' v r.1 ∧ Below w.heap.size w w'
/-- An error, a number that is too long, or a number. -/
def opS (er : Int) (s : Bool) (x y : Nat) : LN × Int := if er = 0 then (if fitB x y then (⟨s, digs W32 x, digs W32 y⟩, 0) else (zeroL, 3)) else (zeroL, er)
theorem OpPost.toS {w w' : World} {er : Int} {s : Bool} {x y : Nat} {e : Ending} (h : OpPost w er s x y e w') : SPost w (opS er s x y) e w' := by
  unfold opS
  rcases h with ⟨h, he, hb⟩ | ⟨h, ⟨hf, v, he, hn, hb⟩ | ⟨hf, he, hb⟩⟩
  · rw [if_neg h]; exact ⟨_, he, GV.zero _, hb⟩
  · rw [if_pos h, if_pos hf]; exact ⟨_, he, GV.of_num hn, hb⟩
  · rw [if_pos h, if_neg (by rw [hf]; simp)]; exact ⟨_, he, GV.zero _, hb⟩
theorem FitPost.toS {w w' : World} {s : Bool} {x y : Nat} {e : Ending} (h : FitPost w s x y e w') : SPost w (opS 0 s x y) e w' := OpPost.toS (.inr ⟨rfl, h⟩)

/-- A fraction in lowest terms. -/
def fracS (er : Int) (s : Bool) (n d : Nat) : LN × Int := opS er (s && decide (0 < n)) (n / Nat.gcd n d) (d / Nat.gcd n d)
/-- The sum. -/
def addS (a b : LN) : LN × Int := fracS (err2 a.err b.err) (sumN a.neg (a.x * b.y) b.neg (b.x * a.y)).1 (sumN a.neg (a.x * b.y) b.neg (b.x * a.y)).2 (a.y * b.y)

/-- A valid number in lowest terms. -/
theorem LN.good {a : LN} (ho : a.ok) (h : a.err = 0) : digs W32 a.x = a.num ∧ digs W32 a.y = a.den ∧ a.num.length ≤ 128 ∧ a.den.length ≤ 128 ∧ RatB.Canon a.neg a.x a.y := by
  obtain ⟨h1, h2, h3, h4, h5, h6, h7⟩ := checkL_zero ho.1 ho.2 h
  exact ⟨h1, h2, h3, h4, h5, h6, h7⟩
end Go.Proofs.Ytkamkaehlofgpaa

/- The canonical number of an integer: more plain facts. number.floored. Conditions: at most 40000 limbs. Division with a remainder of integers: plain facts. -/
import Derived.Test.YtdhgbnnopekfjaaGreatDoorJo12
import Derived.Test.YtdhgbnnopekfjaaGreatDoorJo24
import Derived.Test.YtdhgbnnopekfjaaGreatDoorJo29
set_option linter.unusedVariables false
set_option linter.unusedSimpArgs false
namespace Go.Proofs.YtdhgbnnopekfjaaGreatDoor
open Go.RowKit NumB
set_option linter.unusedVariables false
set_option linter.unusedSimpArgs false

theorem intL_rat (s : Bool) (k : Nat) : (intL s k).q = ((RatB.sg s k : Int) : Rat) := by
  unfold LN.q RatB.q
  rw [intL_x, intL_y, Rat.mkRat_one]
  show ((RatB.sg (s && decide (0 < k)) k : Int) : Rat) = _
  rw [RatB.sg_and]
/-- A valid integer is the canonical number of it. -/
theorem LN.as_int {a : LN} (ho : a.ok) (he : a.err = 0) (hy : a.y = 1) : a = intL a.neg a.x ∧ fitB a.x 1 = true ∧ (a.x = 0 → a.neg = false) := by
  obtain ⟨h1, h2, h3, h4, h5⟩ := LN.good ho he
  refine ⟨?_, decide_eq_true ⟨by rw [h1]; exact h3, by rw [digs_one32]; decide⟩, h5.2.2⟩
  have hn : (a.neg && decide (0 < a.x)) = a.neg := by
    rcases Nat.eq_zero_or_pos a.x with h | h
    · rw [h5.2.2 h]; rfl
    · simp [h]
  unfold intL
  rw [hn, h1, ← hy, h2]
theorem fit_le {x y : Nat} (h : fitB x 1 = true) (hl : y ≤ x) : fitB y 1 = true := by
  have := of_decide_eq_true (show decide _ = true from h)
  exact decide_eq_true ⟨Nat.le_trans (digs_len_mono W32_gt hl) this.1, this.2⟩
theorem fit_len {x : Nat} : fitB x 1 = true ↔ (digs W32 x).length ≤ 128 := by
  constructor
  · intro h; exact (of_decide_eq_true (show decide _ = true from h)).1
  · intro h; exact decide_eq_true ⟨h, by rw [digs_one32]; decide⟩
theorem opS_int {s : Bool} {k : Nat} (h : fitB k 1 = true) : opS 0 (s && decide (0 < k)) k 1 = (intL s k, 0) := by
  unfold opS
  rw [if_pos rfl, h, if_pos rfl]; rfl
theorem intL_neg {s : Bool} {k : Nat} (h : k = 0 → s = false) : (intL s k).neg = s := by
  show (s && decide (0 < k)) = s
  rcases Nat.eq_zero_or_pos k with h0 | h0
  · rw [h h0]; rfl
  · simp [h0]
theorem intL_eq {s t : Bool} {k : Nat} (h : 0 < k → s = t) : intL s k = intL t k := by
  unfold intL
  rcases Nat.eq_zero_or_pos k with h0 | h0
  · subst h0; simp
  · rw [h h0]
theorem bx_zero {b : LN} (hb : b.ok) (he : b.err = 0) : b.num.length = 0 ↔ b.x = 0 := by
  obtain ⟨h1, _⟩ := LN.good hb he
  rw [← h1]
  have := len_pos32 (x := b.x) (n := (digs W32 b.x).length) rfl
  omega
end Go.Proofs.YtdhgbnnopekfjaaGreatDoor
namespace Go.Proofs.YtdhgbnnopekfjaaGreatDoor
open Go.RowKit NumB
set_option linter.unusedVariables false
set_option linter.unusedSimpArgs false

/-- A quotient, rounded away from 0 where told and where something is left. -/
def flo (up : Bool) (x y : Nat) : Nat := x / y + (if up && decide (0 < x % y) then 1 else 0)
theorem flo_true {x y : Nat} (h : 0 < x % y) : flo true x y = x / y + 1 := by unfold flo; simp [h]
theorem flo_rest {up : Bool} {x y : Nat} (h : x % y = 0) : flo up x y = x / y := by unfold flo; simp [h]
theorem flo_false {x y : Nat} : flo false x y = x / y := by unfold flo; simp

theorem nats_two' {w : World} {A B : Value} {x y g : Nat} (hg : w.heap.size = g) (ha : Nat32 w A x) (hb : Nat32 w B y) (t : TypeId) : Nats (w.alloc (.cells #[A, B] t)) g 0 [x, y] := by subst hg; exact nats_two ha hb t

set_option maxRecDepth 100000 in
set_option maxHeartbeats 3200000 in
theorem floored_any (neg floor : Bool) (x y : Nat) (va vb : Value) (w : World) (ha : Nat32 w va x) (hb : Nat32 w vb y) (hx : (digs W32 x).length ≤ 40000) (hy : 0 < y) :
    Calls Tryz.prog 28 #[.bool neg, va, vb, .bool floor] w fun e w' => ∃ v, e = .returned v ∧ Nat32 w' v (flo (neg && floor) x y) ∧ Below w.heap.size w w' := by
  have HD : Hid (Calls Tryz.prog 66 #[va, vb] w (DMPost w (x / y) (x % y))) := divMod_any x y va vb w ha hb (by omega) hy
  have HL : Hid ((digs W32 (x / y)).length ≤ 40000) := Nat.le_trans (digs_len_mono W32_gt (Nat.div_le_self _ _)) hx
  obtain ⟨A, n, c, rfl, hn⟩ := ha.form
  obtain ⟨A', m, d, rfl, hm⟩ := hb.form
  have HS : Hid ((digs W32 [x / y, 1].sum).length ≤ 100000) := Nat.le_trans (by simpa using digs_len_add (n := 40000) HL.out (by rw [digs_one32]; decide)) (by omega)
  have HT : Hid (0 < x % y → flo true x y = x / y + 1) := fun h => flo_true h
  have HZ : Hid (x % y = 0 → ∀ up, flo up x y = x / y) := fun h up => flo_rest h
  have HF : Hid (flo false x y = x / y) := flo_false
  generalize x / y = q at *
  generalize x % y = r at *
  clear ha hb hn hm hx hy
  cases neg with
  | false =>
    rw [Bool.false_and, HF.out]
    go_enter Tryz.func28, Tryz.ntmps28
    go_wp2_with fail
    refine HD.out.mono ?_
    rintro e w1 ⟨v1, v2, rfl, hq, hr, hb⟩
    go_wp2_with fail
    go_ret
    exact ⟨_, rfl, hq, hb⟩
  | true =>
    rw [Bool.true_and]
    cases floor with
    | false =>
      rw [HF.out]
      go_enter Tryz.func28, Tryz.ntmps28
      go_wp2_with fail
      refine HD.out.mono ?_
      rintro e w1 ⟨v1, v2, rfl, hq, hr, hb⟩
      go_wp2_with fail
      go_ret
      exact ⟨_, rfl, hq, hb⟩
    | true =>
      rcases Nat.eq_zero_or_pos r with h | h
      · rw [HZ.out h]
        go_enter Tryz.func28, Tryz.ntmps28
        go_wp2_with fail
        refine HD.out.mono ?_
        rintro e w1 ⟨v1, v2, rfl, hq, hr, hb⟩
        have HQ := Lib.hid hq
        have HBB := Lib.hid hb
        obtain ⟨A2, n2, c2, rfl, hn2⟩ := hr.form
        obtain rfl : n2 = 0 := by have := len_pos32 hn2; omega
        clear hq hr hb hn2
        go_wp2_with fail
        go_ret
        exact ⟨_, rfl, HQ.out, HBB.out⟩
      · rw [HT.out h]
        have HR := Lib.hid h
        clear h
        go_enter Tryz.func28, Tryz.ntmps28
        go_wp2_with fail
        refine HD.out.mono ?_
        rintro e w1 ⟨v1, v2, rfl, hq, hr, hb⟩
        have HQ := Lib.hid hq
        have HBB := Lib.hid hb
        obtain ⟨A2, n2, c2, rfl, hn2⟩ := hr.form
        have hn0 : 0 < n2 := (len_pos32 hn2).2 HR.out
        obtain ⟨A3, n3, c3, rfl, hn3⟩ := hq.form
        clear hq hr hb hn2 hn3
        go_wp2_with fail
        refine (add_any [q, 1] _ 0 2 2 _ rfl (by exact nats_two' (by simp) (HQ.out.to (below_one _ _)) (one32' _ _ rfl) _) HS.out (by omega)).mono ?_
        rintro e w2 ⟨v3, rfl, hn1, hb1⟩
        go_wp2
        go_ret
        have h2 : Below w1.heap.size w1 w2 := ((below_one w1 _).alloc (by simp) _).trans (hb1.mono (((below_one w1 _).alloc (by simp) _).size))
        exact ⟨_, rfl, by simpa using hn1, HBB.out.trans (h2.mono HBB.out.size)⟩
end Go.Proofs.YtdhgbnnopekfjaaGreatDoor
namespace Go.Proofs.YtdhgbnnopekfjaaGreatDoor
open Go.RowKit NumB
set_option linter.unusedVariables false
set_option linter.unusedSimpArgs false

/-- The quotient. -/
def dmq (a b : LN) (fl : Bool) : Nat := flo ((a.neg != b.neg) && fl) a.x b.x
/-- The remainder, with its sign. -/
def dmr (a b : LN) (fl : Bool) : Bool × Nat := sumN a.neg a.x ((a.neg != b.neg) == b.neg) (dmq a b fl * b.x)
/-- What DivMod answers. -/
def divModS (a b : LN) (fl : Bool) : (LN × LN) × Int := if intErr2 a b = 0 then (if b.x = 0 then ((zeroL, zeroL), 10) else ((intL (a.neg != b.neg) (dmq a b fl), intL (dmr a b fl).1 (dmr a b fl).2), 0)) else ((zeroL, zeroL), intErr2 a b)

theorem flo_le {up : Bool} {x y : Nat} (hy : 0 < y) : flo up x y ≤ x := by
  unfold flo
  have h1 := Nat.div_le_self x y
  split
  · rename_i h
    simp only [Bool.and_eq_true, decide_eq_true_eq] at h
    have hm := Nat.mod_lt x hy
    have h2 : 2 ≤ y := by omega
    have h3 := Nat.div_add_mod x y
    have h4 : x / y * 2 ≤ y * (x / y) := by rw [Nat.mul_comm]; exact Nat.mul_le_mul_right _ h2
    rcases Nat.eq_zero_or_pos (x / y) with h5 | h5
    · rw [h5] at h3 ⊢; omega
    · omega
  · omega
theorem flo_rest_le {up : Bool} {s : Bool} {x y : Nat} (hy : 0 < y) : (sumN s x (!s) (flo up x y * y)).2 ≤ y := by
  have hm := Nat.mod_lt x hy
  have h3 := Nat.div_add_mod x y
  unfold sumN flo
  rw [if_neg (by cases s <;> simp)]
  split
  · rename_i h
    simp only [Bool.and_eq_true, decide_eq_true_eq] at h
    rw [Nat.add_mul, Nat.one_mul, Nat.mul_comm]
    split <;> (show _ ≤ _; simp only []; omega)
  · rw [Nat.add_zero, Nat.mul_comm]
    split <;> (show _ ≤ _; simp only []; omega)
theorem sign_flip (p q : Bool) : ((p != q) == q) = !p := by cases p <;> cases q <;> rfl
theorem dm_fits {a b : LN} (fl : Bool) (hb0 : 0 < b.x) (ha : fitB a.x 1 = true) (hb : fitB b.x 1 = true) : fitB (dmq a b fl) 1 = true ∧ fitB (dmr a b fl).2 1 = true := by
  refine ⟨fit_le ha (flo_le hb0), fit_le hb ?_⟩
  unfold dmr
  rw [sign_flip]
  exact flo_rest_le hb0

/-- What the law asks of a quotient and a remainder. -/
theorem dm_law {a b : LN} (fl : Bool) (ha : a.ok) (hb : b.ok) (h : (divModS a b fl).2 = 0) : (mulS (divModS a b fl).1.1 b).2 ≠ 0 ∨ addS (mulS (divModS a b fl).1.1 b).1 (divModS a b fl).1.2 = (a, 0) := by
  by_cases h0 : intErr2 a b = 0
  · by_cases h1 : b.x = 0
    · unfold divModS at h; rw [if_pos h0, if_pos h1] at h; exact absurd h (by decide)
    · have hb0 := Nat.pos_of_ne_zero h1
      have he : divModS a b fl = ((intL (a.neg != b.neg) (dmq a b fl), intL (dmr a b fl).1 (dmr a b fl).2), 0) := by unfold divModS; rw [if_pos h0, if_neg h1]
      obtain ⟨⟨ea, eb⟩, ya, yb⟩ := intErr2_zero.1 h0
      obtain ⟨e1, f1, _⟩ := LN.as_int ha ea ya
      obtain ⟨e2, f2, _⟩ := LN.as_int hb eb yb
      obtain ⟨q1, q2⟩ := dm_fits (a := a) (b := b) fl hb0 f1 f2
      rw [he]
      simp only []
      by_cases hm : (mulS (intL (a.neg != b.neg) (dmq a b fl)) b).2 = 0
      · right
        have hq := intL_fit (s := (a.neg != b.neg)) q1
        have hr := intL_fit (s := (dmr a b fl).1) q2
        obtain ⟨_, _, m1, m2, m3⟩ := mulS_ok hq.1 hb hm
        refine addS_eq m1 hr.1 ha m2 hr.2 ea ?_
        rw [m3, intL_rat, intL_rat]
        have hbq : b.q = ((RatB.sg b.neg b.x : Int) : Rat) := by
          have := intL_rat b.neg b.x
          rw [← e2] at this
          exact this
        have haq : a.q = ((RatB.sg a.neg a.x : Int) : Rat) := by
          have := intL_rat a.neg a.x
          rw [← e1] at this
          exact this
        rw [hbq, haq, ← Rat.intCast_mul, ← Rat.intCast_add]
        congr 1
        unfold dmr
        rw [sumN_sg, ← RatB.sg_mul, sign_flip]
        have hs : ((a.neg != b.neg) != b.neg) = a.neg := by cases a.neg <;> cases b.neg <;> rfl
        rw [hs]
        unfold RatB.sg
        cases a.neg <;> simp <;> omega
      · exact .inl hm
  · unfold divModS at h; rw [if_neg h0] at h; exact absurd h h0

/-- A quotient in lowest terms has the same rounding. -/
theorem flo_red {up : Bool} {x y : Nat} (hy : 0 < y) : flo up (x / Nat.gcd x y) (y / Nat.gcd x y) = flo up x y := by
  have hg : 0 < Nat.gcd x y := Nat.gcd_pos_of_pos_right _ hy
  obtain ⟨p, hp⟩ := Nat.gcd_dvd_left x y
  obtain ⟨q, hq⟩ := Nat.gcd_dvd_right x y
  generalize Nat.gcd x y = g at *
  subst hp hq
  rw [Nat.mul_div_cancel_left p hg, Nat.mul_div_cancel_left q hg]
  unfold flo
  rw [Nat.mul_div_mul_left _ _ hg, Nat.mul_mod_mul_left]
  have : (0 < g * (p % q)) ↔ 0 < p % q := by
    constructor
    · intro h; exact Nat.pos_of_ne_zero fun h0 => by rw [h0] at h; simp at h
    · intro h; exact Nat.mul_pos hg h
  simp only [this]
theorem flo_zero {up : Bool} {y : Nat} : flo up 0 y = 0 := by unfold flo; simp
theorem flo_and {s : Bool} {x y : Nat} : flo (s && decide (0 < x)) x y = flo s x y := by
  rcases Nat.eq_zero_or_pos x with h | h
  · subst h; rw [flo_zero, flo_zero]
  · simp [h]
end Go.Proofs.YtdhgbnnopekfjaaGreatDoor

/- Rational numbers in lowest terms, as a sign, a numerator and a denominator: plain facts. No program. -/
namespace Go.Proofs.YtfiedhopgmgnoaaDoor.RatB
set_option linter.unusedVariables false
set_option linter.unusedSimpArgs false

/-- A natural number with a sign. -/
def sg (neg : Bool) (x : Nat) : Int := if neg then -(x : Int) else (x : Int)
theorem sg_natAbs (neg : Bool) (x : Nat) : (sg neg x).natAbs = x := by unfold sg; cases neg <;> simp
theorem sg_zero (neg : Bool) : sg neg 0 = 0 := by unfold sg; cases neg <;> simp
theorem sg_and (neg : Bool) (x : Nat) : sg (neg && decide (0 < x)) x = sg neg x := by
  rcases Nat.eq_zero_or_pos x with h | h
  · subst h; rw [sg_zero, sg_zero]
  · simp [h]
theorem sg_mul (a b : Bool) (x y : Nat) : sg (a != b) (x * y) = sg a x * sg b y := by
  unfold sg; cases a <;> cases b <;> simp [Int.neg_mul, Int.mul_neg]

/-- A triple in lowest terms. -/
def Canon (neg : Bool) (x y : Nat) : Prop := 0 < y ∧ Nat.gcd x y = 1 ∧ (x = 0 → neg = false)
/-- The rational number. -/
def q (neg : Bool) (x y : Nat) : Rat := mkRat (sg neg x) y

theorem q_num {neg : Bool} {x y : Nat} (h : Canon neg x y) : (q neg x y).num = sg neg x ∧ (q neg x y).den = y := by
  have hc : (sg neg x).natAbs.Coprime y := by rw [sg_natAbs]; exact h.2.1
  have e := Rat.mk_eq_mkRat (sg neg x) y (Nat.pos_iff_ne_zero.1 h.1) hc
  unfold q
  rw [← e]
  exact ⟨rfl, rfl⟩
theorem q_inj {n1 n2 : Bool} {x1 x2 y1 y2 : Nat} (h1 : Canon n1 x1 y1) (h2 : Canon n2 x2 y2) (h : q n1 x1 y1 = q n2 x2 y2) : n1 = n2 ∧ x1 = x2 ∧ y1 = y2 := by
  have a := q_num h1
  have b := q_num h2
  rw [h] at a
  have e1 : sg n1 x1 = sg n2 x2 := a.1.symm.trans b.1
  have e2 : y1 = y2 := a.2.symm.trans b.2
  have e3 : x1 = x2 := by rw [← sg_natAbs n1 x1, e1, sg_natAbs]
  refine ⟨?_, e3, e2⟩
  subst e3
  rcases Nat.eq_zero_or_pos x1 with h0 | h0
  · rw [h1.2.2 h0, h2.2.2 h0]
  · cases n1 <;> cases n2 <;> simp [sg] at e1 <;> first | rfl | omega

/-- Lowest terms. -/
theorem canon_norm {neg : Bool} {n d : Nat} (hd : 0 < d) : Canon (neg && decide (0 < n)) (n / Nat.gcd n d) (d / Nat.gcd n d) := by
  have hg : 0 < Nat.gcd n d := Nat.gcd_pos_of_pos_right _ hd
  refine ⟨Nat.div_pos (Nat.le_of_dvd hd (Nat.gcd_dvd_right _ _)) hg, ?_, ?_⟩
  · rw [Nat.gcd_div (Nat.gcd_dvd_left _ _) (Nat.gcd_dvd_right _ _), Nat.div_self hg]
  · intro h
    have h0 : n = 0 := by
      have := Nat.div_mul_cancel (Nat.gcd_dvd_left n d)
      rw [h, Nat.zero_mul] at this
      exact this.symm
    subst h0
    simp
theorem q_norm {neg : Bool} {n d : Nat} (hd : 0 < d) : q (neg && decide (0 < n)) (n / Nat.gcd n d) (d / Nat.gcd n d) = mkRat (sg neg n) d := by
  have hg : 0 < Nat.gcd n d := Nat.gcd_pos_of_pos_right _ hd
  have e1 := Nat.div_mul_cancel (Nat.gcd_dvd_left n d)
  have e2 := Nat.div_mul_cancel (Nat.gcd_dvd_right n d)
  have hs : sg (neg && decide (0 < n)) (n / Nat.gcd n d) * (Nat.gcd n d : Int) = sg neg n := by
    rcases Nat.eq_zero_or_pos n with h0 | h0
    · subst h0; simp [sg_zero]
    · have : ((n / Nat.gcd n d : Nat) : Int) * (Nat.gcd n d : Int) = (n : Int) := by rw [← Int.natCast_mul, e1]
      unfold sg
      cases neg
      · simpa using this
      · simp only [h0, decide_true, Bool.and_true, if_true, Int.neg_mul]; rw [this]
  unfold q
  have := Rat.mkRat_mul_left (n := sg (neg && decide (0 < n)) (n / Nat.gcd n d)) (d := d / Nat.gcd n d) (a := Nat.gcd n d) (Nat.pos_iff_ne_zero.1 hg)
  rw [← this, Int.mul_comm, hs, Nat.mul_comm, e2]

/-- Sum, product, quotient. -/
theorem q_add {n1 n2 : Bool} {x1 x2 y1 y2 : Nat} (h1 : 0 < y1) (h2 : 0 < y2) : mkRat (sg n1 (x1 * y2) + sg n2 (x2 * y1)) (y1 * y2) = q n1 x1 y1 + q n2 x2 y2 := by
  unfold q
  rw [Rat.mkRat_add_mkRat _ _ (Nat.pos_iff_ne_zero.1 h1) (Nat.pos_iff_ne_zero.1 h2)]
  congr 1
  unfold sg; cases n1 <;> cases n2 <;> simp [Int.neg_mul]
theorem q_neg (n : Bool) (x y : Nat) : q (!n) x y = -q n x y := by
  unfold q
  rw [Rat.neg_mkRat]
  congr 1
  unfold sg; cases n <;> simp
theorem q_mul {n1 n2 : Bool} {x1 x2 y1 y2 : Nat} : mkRat (sg (n1 != n2) (x1 * x2)) (y1 * y2) = q n1 x1 y1 * q n2 x2 y2 := by
  unfold q
  rw [Rat.mkRat_mul_mkRat, sg_mul]
theorem q_zero {n : Bool} {x y : Nat} (h : Canon n x y) : q n x y = 0 ↔ x = 0 := by
  constructor
  · intro e
    have := (q_num h).1
    rw [e] at this
    have h2 : (sg n x).natAbs = 0 := by rw [← this]; rfl
    rwa [sg_natAbs] at h2
  · intro e
    subst e
    unfold q; rw [sg_zero]; simp
theorem q_inv {n : Bool} {x y : Nat} (hx : 0 < x) (hy : 0 < y) : q n y x * q n x y = 1 := by
  unfold q
  rw [Rat.mkRat_mul_mkRat]
  have e : sg n y * sg n x = ((y * x : Nat) : Int) := by unfold sg; cases n <;> simp [Int.neg_mul, Int.mul_neg]
  rw [e, Nat.mul_comm x y]
  have h : y * x ≠ 0 := Nat.pos_iff_ne_zero.1 (Nat.mul_pos hy hx)
  have := Rat.mkRat_mul_left (n := 1) (d := 1) (a := y * x) h
  rw [Int.mul_one, Nat.mul_one] at this
  rw [this]; rfl
end Go.Proofs.YtfiedhopgmgnoaaDoor.RatB

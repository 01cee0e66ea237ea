/-  -/
import Derived.Test.YtdmhkhnnomdkcaaGreatDoorShelf
import Derived.Test.YtdmhkhnnomdkcaaGreatDoorJo2
import Derived.Test.YtdmhkhnnomdkcaaGreatDoorJo13
import Derived.Test.YtdmhkhnnomdkcaaGreatDoorJo29
import Derived.Test.YtdmhkhnnomdkcaaGreatDoorJo30
import Derived.Test.YtdmhkhnnomdkcaaGreatDoorJo31
set_option linter.unusedVariables false
set_option linter.unusedSimpArgs false
/- fetterlockref1.Two: what holds within its region that draws its order. -/
namespace Go.Proofs.YtdmhkhnnomdkcaaGreatDoor
open Go.RowKit NumB
set_option linter.unusedVariables false
set_option linter.unusedSimpArgs false

theorem GV.putN {w : World} {v : Value} {a : LN} {g : Nat} {t : TypeId} {s : Bool} {A A' : Option Addr} {n m ca cb : Nat} (h : GV w v a) (hg : Blk w g t #[.bool s, .slice A n ca, .slice A' m cb]) (x y z : Value) : GV (Go.Proofs.YtdmhkhnnomdkcaaGreatDoor.put3 w g x y z) v a := by
  obtain ⟨p, q, e, h1, h2, h3⟩ := h
  exact ⟨p, q, e, Sl.boxed h1 hg noInts_num (Nat.le_of_eq (put3_size w g x y z).symm) (put3_far w g x y z), Sl.boxed h2 hg noInts_num (Nat.le_of_eq (put3_size w g x y z).symm) (put3_far w g x y z), h3⟩
theorem rmade_S (s : Bool) (x y : Nat) (v : Value) (w : World) (h : RV w v s x y) (hl1 : (digs W16 x).length ≤ 100000) (hl2 : (digs W16 y).length ≤ 100000) : Calls Tryz.prog 18 #[v] w (SPost w (opS 0 s x y)) := (rmade_any s x y v w h hl1 hl2).mono fun _ _ h => FitPost.toS h
theorem Steps.gen {P : Program} {ops : Array Oper} {md : Region.Mode} {Q : Exit → Act → World → Prop} {Inv : (Nat → Bool) → Act → World → Prop} {rs : List Nat} (h : ∀ Q, Steps P md ops Q Inv rs) : Steps P md ops Q Inv rs := h Q
/-- The cells of a struct value. -/
def cellsOf : Value → Array Value
  | .agg xs => xs
  | _ => #[]
/-- What holds within the region: which operations have come up, and what they left. -/
def TwoInv (w : World) (ca cb : Array Value) (a b : LN) (L : Nat → Bool) (s28 s30 s10 s11 : Value) (W : World) : Prop :=
  Below w.heap.size w W ∧ Blk W w.heap.size 24 ca ∧ Blk W (w.heap.size + 1) 24 cb ∧ Blk W (w.heap.size + 1 + 1) 24 numZ ∧
  (L 1 = true → RV W s28 a.neg a.x a.y) ∧ (L 3 = true → RV W s30 b.neg b.x b.y) ∧
  (L 4 = true → ∃ g, s10 = .pointer (some ⟨g, 0, none⟩) ∧ w.heap.size + 1 + 1 < g ∧ (L 6 = false → Blk W g 43 numZ) ∧ (L 6 = true → Blk W g 43 (cellsOf s28))) ∧
  (L 5 = true → ∃ g, s11 = .pointer (some ⟨g, 0, none⟩) ∧ w.heap.size + 1 + 1 < g ∧ (L 7 = false → Blk W g 43 numZ) ∧ (L 7 = true → Blk W g 43 (cellsOf s30))) ∧
  (L 4 = true → L 5 = true → s10 ≠ s11) ∧ (L 6 = true → L 1 = true ∧ L 4 = true) ∧ (L 7 = true → L 3 = true ∧ L 5 = true)
section
variable {w W : World} {ca cb : Array Value} {a b : LN} {L : Nat → Bool} {s28 s30 s10 s11 : Value}
theorem TwoInv.ptr_lt {s : Value} {l : Bool} {c : Array Value} (h : ∃ g, s = .pointer (some ⟨g, 0, none⟩) ∧ w.heap.size + 1 + 1 < g ∧ (l = false → Blk W g 43 numZ) ∧ (l = true → Blk W g 43 c)) : ∃ g, s = .pointer (some ⟨g, 0, none⟩) ∧ g < W.heap.size := by
  obtain ⟨g, e, _, h1, h2⟩ := h
  cases l with
  | false => exact ⟨g, e, (h1 rfl).lt⟩
  | true => exact ⟨g, e, (h2 rfl).lt⟩
/-- The first call has answered. -/
theorem TwoInv.call1 (h : TwoInv w ca cb a b L s28 s30 s10 s11 W) (hL : L 1 = false) {W' : World} (hb : Below W.heap.size W W') {v : Value} (hv : RV W' v a.neg a.x a.y) : TwoInv w ca cb a b (fun j => j == 1 || L j) v s30 s10 s11 W' := by
  obtain ⟨h1, h2, h3, h4, h5, h6, h7, h8, h9, h10, h11⟩ := h
  have no6 : L 6 = true → False := fun h => by have := (h10 h).1; rw [hL] at this; cases this
  refine ⟨h1.trans (hb.mono h1.size), h2.to hb, h3.to hb, h4.to hb, fun _ => hv, fun h => (h6 h).to hb, fun h => ?_, fun h => ?_, h9, fun h => (no6 h).elim, h11⟩
  · obtain ⟨g, e1, e2, e3, e4⟩ := h7 h
    exact ⟨g, e1, e2, fun h => (e3 h).to hb, fun h => (no6 h).elim⟩
  · obtain ⟨g, e1, e2, e3, e4⟩ := h8 h
    exact ⟨g, e1, e2, fun h => (e3 h).to hb, fun h => (e4 h).to hb⟩
/-- The second call has answered. -/
theorem TwoInv.call3 (h : TwoInv w ca cb a b L s28 s30 s10 s11 W) (hL : L 3 = false) {W' : World} (hb : Below W.heap.size W W') {v : Value} (hv : RV W' v b.neg b.x b.y) : TwoInv w ca cb a b (fun j => j == 3 || L j) s28 v s10 s11 W' := by
  obtain ⟨h1, h2, h3, h4, h5, h6, h7, h8, h9, h10, h11⟩ := h
  have no7 : L 7 = true → False := fun h => by have := (h11 h).1; rw [hL] at this; cases this
  refine ⟨h1.trans (hb.mono h1.size), h2.to hb, h3.to hb, h4.to hb, fun h => (h5 h).to hb, fun _ => hv, fun h => ?_, fun h => ?_, h9, h10, fun h => (no7 h).elim⟩
  · obtain ⟨g, e1, e2, e3, e4⟩ := h7 h
    exact ⟨g, e1, e2, fun h => (e3 h).to hb, fun h => (e4 h).to hb⟩
  · obtain ⟨g, e1, e2, e3, e4⟩ := h8 h
    exact ⟨g, e1, e2, fun h => (e3 h).to hb, fun h => (no7 h).elim⟩
theorem TwoInv.alloc4 (h : TwoInv w ca cb a b L s28 s30 s10 s11 W) (hL : L 4 = false) : TwoInv w ca cb a b (fun j => j == 4 || L j) s28 s30 (.pointer (some ⟨W.heap.size, 0, none⟩)) s11 (W.alloc (.cells numZ 43)) := by
  obtain ⟨h1, h2, h3, h4, h5, h6, h7, h8, h9, h10, h11⟩ := h
  have hb := below_one W (.cells numZ 43)
  have no6 : L 6 = true → False := fun h => by have := (h10 h).2; rw [hL] at this; cases this
  refine ⟨h1.trans (hb.mono h1.size), h2.to hb, h3.to hb, h4.to hb, fun h => (h5 h).to hb, fun h => (h6 h).to hb, fun h => ⟨_, rfl, h4.lt, fun _ => Blk.new _ _ _, fun h => (no6 h).elim⟩, fun h => ?_, fun _ h => ?_, fun h => (no6 h).elim, h11⟩
  · obtain ⟨g, e1, e2, e3, e4⟩ := h8 h
    exact ⟨g, e1, e2, fun h => (e3 h).to hb, fun h => (e4 h).to hb⟩
  · obtain ⟨g, e1, e2⟩ := TwoInv.ptr_lt (h8 h)
    rw [e1]
    intro e
    simp only [Value.pointer.injEq, Option.some.injEq, Addr.mk.injEq, and_true] at e
    omega
theorem TwoInv.alloc5 (h : TwoInv w ca cb a b L s28 s30 s10 s11 W) (hL : L 5 = false) : TwoInv w ca cb a b (fun j => j == 5 || L j) s28 s30 s10 (.pointer (some ⟨W.heap.size, 0, none⟩)) (W.alloc (.cells numZ 43)) := by
  obtain ⟨h1, h2, h3, h4, h5, h6, h7, h8, h9, h10, h11⟩ := h
  have hb := below_one W (.cells numZ 43)
  have no7 : L 7 = true → False := fun h => by have := (h11 h).2; rw [hL] at this; cases this
  refine ⟨h1.trans (hb.mono h1.size), h2.to hb, h3.to hb, h4.to hb, fun h => (h5 h).to hb, fun h => (h6 h).to hb, fun h => ?_, fun h => ⟨_, rfl, h4.lt, fun _ => Blk.new _ _ _, fun h => (no7 h).elim⟩, fun h _ => ?_, h10, fun h => (no7 h).elim⟩
  · obtain ⟨g, e1, e2, e3, e4⟩ := h7 h
    exact ⟨g, e1, e2, fun h => (e3 h).to hb, fun h => (e4 h).to hb⟩
  · obtain ⟨g, e1, e2⟩ := TwoInv.ptr_lt (h7 h)
    rw [e1]
    intro e
    simp only [Value.pointer.injEq, Option.some.injEq, Addr.mk.injEq, and_true] at e
    omega
theorem TwoInv.store6 {g : Nat} {x y z : Value} (h : TwoInv w ca cb a b L (.agg #[x, y, z]) s30 (.pointer (some ⟨g, 0, none⟩)) s11 W) (hL : L 6 = false) (h1' : L 1 = true) (h4' : L 4 = true) : TwoInv w ca cb a b (fun j => j == 6 || L j) (.agg #[x, y, z]) s30 (.pointer (some ⟨g, 0, none⟩)) s11 (put3 W g x y z) := by
  obtain ⟨h1, h2, h3, h4, h5, h6, h7, h8, h9, h10, h11⟩ := h
  obtain ⟨g0, e1, e2, e3, e4⟩ := h7 h4'
  simp only [Value.pointer.injEq, Option.some.injEq, Addr.mk.injEq, and_true] at e1
  subst e1
  have hk : Blk W g 43 numZ := e3 hL
  unfold numZ at hk
  refine ⟨put3_below h1 (by omega) _ _ _, h2.put3_far (by omega) _ _ _, h3.put3_far (by omega) _ _ _, h4.put3_far (by omega) _ _ _, fun h => (h5 h).put3 hk _ _ _, fun h => (h6 h).put3 hk _ _ _, fun h => ⟨g, rfl, e2, fun h => absurd h (by simp), fun _ => hk.put3_at _ _ _⟩, fun h => ?_, h9, fun _ => ⟨h1', h4'⟩, h11⟩
  obtain ⟨g', f1, f2, f3, f4⟩ := h8 h
  have hne : g' ≠ g := fun e => h9 h4' h (by rw [f1, e])
  exact ⟨g', f1, f2, fun h => (f3 h).put3_far hne _ _ _, fun h => (f4 h).put3_far hne _ _ _⟩
theorem TwoInv.store7 {g : Nat} {x y z : Value} (h : TwoInv w ca cb a b L s28 (.agg #[x, y, z]) s10 (.pointer (some ⟨g, 0, none⟩)) W) (hL : L 7 = false) (h3' : L 3 = true) (h5' : L 5 = true) : TwoInv w ca cb a b (fun j => j == 7 || L j) s28 (.agg #[x, y, z]) s10 (.pointer (some ⟨g, 0, none⟩)) (put3 W g x y z) := by
  obtain ⟨h1, h2, h3, h4, h5, h6, h7, h8, h9, h10, h11⟩ := h
  obtain ⟨g0, e1, e2, e3, e4⟩ := h8 h5'
  simp only [Value.pointer.injEq, Option.some.injEq, Addr.mk.injEq, and_true] at e1
  subst e1
  have hk : Blk W g 43 numZ := e3 hL
  unfold numZ at hk
  refine ⟨put3_below h1 (by omega) _ _ _, h2.put3_far (by omega) _ _ _, h3.put3_far (by omega) _ _ _, h4.put3_far (by omega) _ _ _, fun h => (h5 h).put3 hk _ _ _, fun h => (h6 h).put3 hk _ _ _, fun h => ?_, fun h => ⟨g, rfl, e2, fun h => absurd h (by simp), fun _ => hk.put3_at _ _ _⟩, h9, h10, fun _ => ⟨h3', h5'⟩⟩
  obtain ⟨g', f1, f2, f3, f4⟩ := h7 h
  have hne : g' ≠ g := fun e => h9 h h5' (by rw [f1, e])
  exact ⟨g', f1, f2, fun h => (f3 h).put3_far hne _ _ _, fun h => (f4 h).put3_far hne _ _ _⟩
end
end Go.Proofs.YtdmhkhnnomdkcaaGreatDoor
/- Bitwise combinations of naturals with signs: plain facts. No program. -/
namespace Go.Proofs.YtdmhkhnnomdkcaaGreatDoor
set_option linter.unusedVariables false
set_option linter.unusedSimpArgs false

/-- The operations: 0 and, 1 or, 2 exclusive or. -/
def bop (o : Nat) (p q : Bool) : Bool := if o = 0 then p && q else if o = 1 then p || q else p != q
def nbop (o x y : Nat) : Nat := if o = 0 then x &&& y else if o = 1 then x ||| y else x ^^^ y
theorem nbop_bit (o x y i : Nat) : (nbop o x y).testBit i = bop o (x.testBit i) (y.testBit i) := by
  unfold nbop bop
  split
  · exact Nat.testBit_and _ _ _
  · split
    · exact Nat.testBit_or _ _ _
    · exact Nat.testBit_xor _ _ _
/-- A negative number -n is the complement of n - 1. -/
def cpl (neg : Bool) (x : Nat) : Nat := if neg then x - 1 else x
/-- A bit of the absolute value of the answer. -/
def bfun (o : Nat) (na nb : Bool) (p q : Bool) : Bool := bop o (p != na) (q != nb) != bop o na nb
theorem bfun_ff (o : Nat) (na nb : Bool) : bfun o na nb false false = false := by
  unfold bfun
  cases na <;> cases nb <;> simp
def bmag (o : Nat) (na nb : Bool) (x y : Nat) : Nat := Nat.bitwise (bfun o na nb) (cpl na x) (cpl nb y)
theorem bmag_bit (o : Nat) (na nb : Bool) (x y i : Nat) : (bmag o na nb x y).testBit i = bfun o na nb ((cpl na x).testBit i) ((cpl nb y).testBit i) := Nat.testBit_bitwise (bfun_ff o na nb) _ _ _
theorem bmag_lt {o : Nat} {na nb : Bool} {x y n : Nat} (hx : cpl na x < 2 ^ n) (hy : cpl nb y < 2 ^ n) : bmag o na nb x y < 2 ^ n := Nat.bitwise_lt_two_pow hx hy
/-- Two's complement with N digits. -/
def tw (N : Nat) (neg : Bool) (x : Nat) : Nat := if neg then 2 ^ N - x else x
theorem tw_bit {N : Nat} {neg : Bool} {x : Nat} (hx : cpl neg x < 2 ^ N) (hp : neg = true → 0 < x) (i : Nat) : (tw N neg x).testBit i = (decide (i < N) && ((cpl neg x).testBit i != neg)) := by
  cases neg with
  | false =>
    show x.testBit i = _
    have hx' : x < 2 ^ N := hx
    by_cases h : i < N
    · simp [h, cpl]
    · have : x.testBit i = false := Nat.testBit_lt_two_pow (Nat.lt_of_lt_of_le hx' (Nat.pow_le_pow_right (by omega) (by omega)))
      simp [h, this]
  | true =>
    have h0 := hp rfl
    obtain ⟨z, rfl⟩ : ∃ z, x = z + 1 := ⟨x - 1, by omega⟩
    show (2 ^ N - (z + 1)).testBit i = _
    have hz : z < 2 ^ N := hx
    rw [Nat.testBit_two_pow_sub_succ hz]
    simp [cpl]
theorem tw_lt {N : Nat} {neg : Bool} {x : Nat} (hx : cpl neg x < 2 ^ N) (hp : neg = true → 0 < x) : tw N neg x < 2 ^ N := by
  cases neg with
  | false => exact hx
  | true => have := hp rfl; have := Nat.pow_pos (n := N) (show 0 < 2 by omega); show 2 ^ N - x < _; omega
theorem nbop_lt {o x y N : Nat} (hx : x < 2 ^ N) (hy : y < 2 ^ N) : nbop o x y < 2 ^ N := by
  unfold nbop
  split
  · exact Nat.and_lt_two_pow _ hy
  · split
    · exact Nat.or_lt_two_pow hx hy
    · exact Nat.xor_lt_two_pow hx hy
theorem nbop_tw_bit {o N : Nat} {na nb : Bool} {x y : Nat} (hx : cpl na x < 2 ^ N) (hy : cpl nb y < 2 ^ N) (ha : na = true → 0 < x) (hb : nb = true → 0 < y) {i : Nat} (hi : i < N) :
    (nbop o (tw N na x) (tw N nb y)).testBit i = ((bmag o na nb x y).testBit i != bop o na nb) := by
  rw [nbop_bit, tw_bit hx ha, tw_bit hy hb, bmag_bit]
  simp only [hi, decide_true, Bool.true_and]
  unfold bfun
  generalize bop o _ _ = p
  generalize bop o na nb = q
  cases p <;> cases q <;> rfl
/-- The answer in two's complement is the two's complement of the answer. -/
theorem nbop_tw {o N : Nat} {na nb : Bool} {x y : Nat} (hx : cpl na x < 2 ^ N) (hy : cpl nb y < 2 ^ N) (ha : na = true → 0 < x) (hb : nb = true → 0 < y) :
    nbop o (tw N na x) (tw N nb y) = tw N (bop o na nb) (bmag o na nb x y + (if bop o na nb then 1 else 0)) := by
  refine Nat.eq_of_testBit_eq fun i => ?_
  have hm := bmag_lt (o := o) hx hy
  have e : cpl (bop o na nb) (bmag o na nb x y + (if bop o na nb then 1 else 0)) = bmag o na nb x y := by
    unfold cpl; split <;> rfl
  rw [tw_bit (by rw [e]; exact hm) (by intro h; rw [h]; simp), e]
  by_cases h : i < N
  · rw [nbop_tw_bit hx hy ha hb h]; simp [h]
  · have h1 : nbop o (tw N na x) (tw N nb y) < 2 ^ i := Nat.lt_of_lt_of_le (nbop_lt (tw_lt hx ha) (tw_lt hy hb)) (Nat.pow_le_pow_right (by omega) (by omega))
    rw [Nat.testBit_lt_two_pow h1]; simp [h]
/-- The highest digit is the sign. -/
theorem nbop_top {o N : Nat} {na nb : Bool} {x y : Nat} (hx : cpl na x < 2 ^ N) (hy : cpl nb y < 2 ^ N) (ha : na = true → 0 < x) (hb : nb = true → 0 < y) :
    nbop o (tw (N + 1) na x) (tw (N + 1) nb y) / 2 ^ N = if bop o na nb then 1 else 0 := by
  have h2 : 2 ^ N < 2 ^ (N + 1) := Nat.pow_lt_pow_right (by omega) (by omega)
  have hm := bmag_lt (o := o) hx hy
  rw [nbop_tw (Nat.lt_trans hx h2) (Nat.lt_trans hy h2) ha hb]
  have hp := Nat.pow_pos (n := N) (show 0 < 2 by omega)
  cases bop o na nb with
  | false =>
    show (bmag o na nb x y + 0) / 2 ^ N = 0
    exact Nat.div_eq_of_lt hm
  | true =>
    show (2 ^ (N + 1) - (bmag o na nb x y + 1)) / 2 ^ N = 1
    rw [Nat.pow_succ]
    refine Nat.div_eq_of_lt_le ?_ ?_ <;> omega
/-- The sums that the bitwise combinations meet. -/
theorem and_add_or (x y : Nat) : (x &&& y) + (x ||| y) = x + y := by
  induction x using Nat.strongRecOn generalizing y with
  | _ x ih =>
    rcases Nat.eq_zero_or_pos x with h | h
    · subst h; simp
    · have := ih (x / 2) (Nat.div_lt_self h (by omega)) (y / 2)
      have e1 := Nat.and_div_two (a := x) (b := y)
      have e2 := Nat.or_div_two (a := x) (b := y)
      have f1 : (x &&& y) % 2 = (x % 2) &&& (y % 2) := by
        have := Nat.and_mod_two_pow (a := x) (b := y) (n := 1); simpa using this
      have f2 : (x ||| y) % 2 = (x % 2) ||| (y % 2) := by
        have := Nat.or_mod_two_pow (a := x) (b := y) (n := 1); simpa using this
      have f3 : ((x % 2) &&& (y % 2)) + ((x % 2) ||| (y % 2)) = x % 2 + y % 2 := by
        rcases Nat.mod_two_eq_zero_or_one x with h1 | h1 <;> rcases Nat.mod_two_eq_zero_or_one y with h2 | h2 <;> rw [h1, h2] <;> decide
      omega
theorem and_add_xor (x y : Nat) : (x &&& y) + (x ^^^ y) = x ||| y := by
  induction x using Nat.strongRecOn generalizing y with
  | _ x ih =>
    rcases Nat.eq_zero_or_pos x with h | h
    · subst h; simp
    · have := ih (x / 2) (Nat.div_lt_self h (by omega)) (y / 2)
      have e1 := Nat.and_div_two (a := x) (b := y)
      have e2 := Nat.or_div_two (a := x) (b := y)
      have e3 := Nat.xor_div_two (a := x) (b := y)
      have f1 : (x &&& y) % 2 = (x % 2) &&& (y % 2) := by
        have := Nat.and_mod_two_pow (a := x) (b := y) (n := 1); simpa using this
      have f2 : (x ||| y) % 2 = (x % 2) ||| (y % 2) := by
        have := Nat.or_mod_two_pow (a := x) (b := y) (n := 1); simpa using this
      have f4 : (x ^^^ y) % 2 = (x % 2) ^^^ (y % 2) := by
        have := Nat.xor_mod_two_pow (a := x) (b := y) (n := 1); simpa using this
      have f3 : ((x % 2) &&& (y % 2)) + ((x % 2) ^^^ (y % 2)) = (x % 2) ||| (y % 2) := by
        rcases Nat.mod_two_eq_zero_or_one x with h1 | h1 <;> rcases Nat.mod_two_eq_zero_or_one y with h2 | h2 <;> rw [h1, h2] <;> decide
      omega
end Go.Proofs.YtdmhkhnnomdkcaaGreatDoor
/- fetterlockref1.both: two bits combined. Conditions: one of the three operations. -/
namespace Go.Proofs.YtdmhkhnnomdkcaaGreatDoor
open Go.RowKit NumB
set_option linter.unusedVariables false
set_option linter.unusedSimpArgs false

/-- The signs of the operations. -/
def opc (o : Nat) : Int := if o = 0 then 38 else if o = 1 then 124 else 94
set_option maxRecDepth 100000 in
theorem both_any (o : Nat) (ho : o < 3) (p q : Bool) (w : World) : Calls Tryz.prog 51 #[.int .u8 (opc o), .bool p, .bool q] w fun e w' => e = .returned (.bool (bop o p q)) ∧ w = w' := by
  have h : o = 0 ∨ o = 1 ∨ o = 2 := by omega
  rcases h with rfl | rfl | rfl
  · show Calls _ _ #[.int .u8 38, .bool p, .bool q] w _
    show Calls _ _ _ w fun e w' => e = .returned (.bool (p && q)) ∧ w = w'
    cases p
    all_goals
      go_enter Tryz.func51, Tryz.ntmps51
      go_wp2
      go_ret
      exact ⟨rfl, rfl⟩
  · show Calls _ _ #[.int .u8 124, .bool p, .bool q] w _
    show Calls _ _ _ w fun e w' => e = .returned (.bool (p || q)) ∧ w = w'
    cases p
    all_goals
      go_enter Tryz.func51, Tryz.ntmps51
      go_wp2
      go_ret
      exact ⟨rfl, rfl⟩
  · show Calls _ _ #[.int .u8 94, .bool p, .bool q] w _
    show Calls _ _ _ w fun e w' => e = .returned (.bool (p != q)) ∧ w = w'
    go_enter Tryz.func51, Tryz.ntmps51
    go_wp2
    go_ret
    exact ⟨rfl, rfl⟩
end Go.Proofs.YtdmhkhnnomdkcaaGreatDoor
/- A natural number that is built bit by bit in limbs. No program. -/
namespace Go.Proofs.YtdmhkhnnomdkcaaGreatDoor
open Go.RowKit NumB
set_option linter.unusedVariables false
set_option linter.unusedSimpArgs false

theorem mod_bit (M i : Nat) : M % 2 ^ (i + 1) = M % 2 ^ i + (if M.testBit i then 2 ^ i else 0) := by
  rw [Nat.pow_succ, Nat.mod_mul, Nat.testBit_eq_decide_div_mod_eq]
  rcases Nat.mod_two_eq_zero_or_one (M / 2 ^ i) with h | h <;> rw [h] <;> simp
theorem or_bit2 {d s : Nat} (h : d < 2 ^ s) : d ||| 2 ^ s = d + 2 ^ s := by
  have := Nat.two_pow_add_eq_or_of_lt h 1
  rw [Nat.mul_one] at this
  rw [Nat.or_comm, ← this, Nat.add_comm]
theorem limb_pow {i k s : Nat} (hk : i / 16 = k) (hs : i % 16 = s) : 2 ^ i = W16 ^ k * 2 ^ s := by
  rw [show W16 = 2 ^ 16 from rfl, ← Nat.pow_mul, ← Nat.pow_add]
  congr 1
  omega
theorem limb_lt {out : List Nat} {i k s : Nat} (hv : val W16 out < 2 ^ i) (hk : i / 16 = k) (hs : i % 16 = s) : out.getD k 0 < 2 ^ s := by
  have h1 := val_split W16 out k
  rw [val_drop_step] at h1
  rw [limb_pow hk hs] at hv
  have h2 : W16 ^ k * out.getD k 0 < W16 ^ k * 2 ^ s := by
    rw [Nat.mul_add] at h1
    omega
  exact Nat.lt_of_mul_lt_mul_left h2
theorem set_bit2 {out : List Nat} {i k s : Nat} (hl : k < out.length) (hk : i / 16 = k) (hs : i % 16 = s) : val W16 (out.set k (out.getD k 0 + 2 ^ s)) = val W16 out + 2 ^ i := by
  rw [val_set hl rfl, limb_pow hk hs]
/-- The bit that the code looks at. -/
theorem bmag_bit2 {o : Nat} {na nb : Bool} {x y i : Nat} : (bop o (decide (x / 2 ^ i % 2 = 1) != na) (decide (y / 2 ^ i % 2 = 1) != nb) != bop o na nb) = (Nat.bitwise (bfun o na nb) x y).testBit i := by
  rw [Nat.testBit_bitwise (bfun_ff o na nb), Nat.testBit_eq_decide_div_mod_eq, Nat.testBit_eq_decide_div_mod_eq]
  rfl
end Go.Proofs.YtdmhkhnnomdkcaaGreatDoor
/- Quotients, rounded: plain facts. No program. -/
namespace Go.Proofs.YtdmhkhnnomdkcaaGreatDoor
set_option linter.unusedVariables false

/-- A quotient, rounded away from 0 where told and where something is left. -/
def flo (up : Bool) (x y : Nat) : Nat := x / y + (if up && decide (0 < x % y) then 1 else 0)
theorem flo_true {x y : Nat} (h : 0 < x % y) : flo true x y = x / y + 1 := by unfold flo; simp [h]
theorem flo_rest {up : Bool} {x y : Nat} (h : x % y = 0) : flo up x y = x / y := by unfold flo; simp [h]
theorem flo_false {x y : Nat} : flo false x y = x / y := by unfold flo; simp
end Go.Proofs.YtdmhkhnnomdkcaaGreatDoor

/-  -/
import Derived.Lib.SmallJoins
import Derived.Test.YtdmhkhnnomdkcaaDoorShelf
import Derived.Test.YtdmhkhnnomdkcaaDoorJo3
import Derived.Test.YtdmhkhnnomdkcaaDoorJo7
import Derived.Test.YtdmhkhnnomdkcaaDoorJo13
import Derived.Test.YtdmhkhnnomdkcaaDoorJo17
import Derived.Test.YtdmhkhnnomdkcaaDoorJo21
import Derived.Test.YtdmhkhnnomdkcaaDoorJo23
set_option linter.unusedVariables false
set_option linter.unusedSimpArgs false
/- Bitwise combinations of naturals with signs: plain facts. No program. -/
namespace Go.Proofs.YtdmhkhnnomdkcaaDoor
set_option linter.unusedVariables false
set_option linter.unusedSimpArgs false

/-- The operations: 0 and, 1 or, 2 exclusive or. -/
def bop (o : Nat) (p q : Bool) : Bool := if o = 0 then p && q else if o = 1 then p || q else p != q
def nbop (o x y : Nat) : Nat := if o = 0 then x &&& y else if o = 1 then x ||| y else x ^^^ y
theorem nbop_bit (o x y i : Nat) : (nbop o x y).testBit i = bop o (x.testBit i) (y.testBit i) := by
  unfold nbop bop
  split
  · exact Nat.testBit_and _ _ _
  · split
    · exact Nat.testBit_or _ _ _
    · exact Nat.testBit_xor _ _ _
/-- A negative number -n is the complement of n - 1. -/
def cpl (neg : Bool) (x : Nat) : Nat := if neg then x - 1 else x
/-- A bit of the absolute value of the answer. -/
def bfun (o : Nat) (na nb : Bool) (p q : Bool) : Bool := bop o (p != na) (q != nb) != bop o na nb
theorem bfun_ff (o : Nat) (na nb : Bool) : bfun o na nb false false = false := by
  unfold bfun
  cases na <;> cases nb <;> simp
def bmag (o : Nat) (na nb : Bool) (x y : Nat) : Nat := Nat.bitwise (bfun o na nb) (cpl na x) (cpl nb y)
theorem bmag_bit (o : Nat) (na nb : Bool) (x y i : Nat) : (bmag o na nb x y).testBit i = bfun o na nb ((cpl na x).testBit i) ((cpl nb y).testBit i) := Nat.testBit_bitwise (bfun_ff o na nb) _ _ _
theorem bmag_lt {o : Nat} {na nb : Bool} {x y n : Nat} (hx : cpl na x < 2 ^ n) (hy : cpl nb y < 2 ^ n) : bmag o na nb x y < 2 ^ n := Nat.bitwise_lt_two_pow hx hy
/-- Two's complement with N digits. -/
def tw (N : Nat) (neg : Bool) (x : Nat) : Nat := if neg then 2 ^ N - x else x
theorem tw_bit {N : Nat} {neg : Bool} {x : Nat} (hx : cpl neg x < 2 ^ N) (hp : neg = true → 0 < x) (i : Nat) : (tw N neg x).testBit i = (decide (i < N) && ((cpl neg x).testBit i != neg)) := by
  cases neg with
  | false =>
    show x.testBit i = _
    have hx' : x < 2 ^ N := hx
    by_cases h : i < N
    · simp [h, cpl]
    · have : x.testBit i = false := Nat.testBit_lt_two_pow (Nat.lt_of_lt_of_le hx' (Nat.pow_le_pow_right (by omega) (by omega)))
      simp [h, this]
  | true =>
    have h0 := hp rfl
    obtain ⟨z, rfl⟩ : ∃ z, x = z + 1 := ⟨x - 1, by omega⟩
    show (2 ^ N - (z + 1)).testBit i = _
    have hz : z < 2 ^ N := hx
    rw [Nat.testBit_two_pow_sub_succ hz]
    simp [cpl]
theorem tw_lt {N : Nat} {neg : Bool} {x : Nat} (hx : cpl neg x < 2 ^ N) (hp : neg = true → 0 < x) : tw N neg x < 2 ^ N := by
  cases neg with
  | false => exact hx
  | true => have := hp rfl; have := Nat.pow_pos (n := N) (show 0 < 2 by omega); show 2 ^ N - x < _; omega
theorem nbop_lt {o x y N : Nat} (hx : x < 2 ^ N) (hy : y < 2 ^ N) : nbop o x y < 2 ^ N := by
  unfold nbop
  split
  · exact Nat.and_lt_two_pow _ hy
  · split
    · exact Nat.or_lt_two_pow hx hy
    · exact Nat.xor_lt_two_pow hx hy
theorem nbop_tw_bit {o N : Nat} {na nb : Bool} {x y : Nat} (hx : cpl na x < 2 ^ N) (hy : cpl nb y < 2 ^ N) (ha : na = true → 0 < x) (hb : nb = true → 0 < y) {i : Nat} (hi : i < N) :
    (nbop o (tw N na x) (tw N nb y)).testBit i = ((bmag o na nb x y).testBit i != bop o na nb) := by
  rw [nbop_bit, tw_bit hx ha, tw_bit hy hb, bmag_bit]
  simp only [hi, decide_true, Bool.true_and]
  unfold bfun
  generalize bop o _ _ = p
  generalize bop o na nb = q
  cases p <;> cases q <;> rfl
/-- The answer in two's complement is the two's complement of the answer. -/
theorem nbop_tw {o N : Nat} {na nb : Bool} {x y : Nat} (hx : cpl na x < 2 ^ N) (hy : cpl nb y < 2 ^ N) (ha : na = true → 0 < x) (hb : nb = true → 0 < y) :
    nbop o (tw N na x) (tw N nb y) = tw N (bop o na nb) (bmag o na nb x y + (if bop o na nb then 1 else 0)) := by
  refine Nat.eq_of_testBit_eq fun i => ?_
  have hm := bmag_lt (o := o) hx hy
  have e : cpl (bop o na nb) (bmag o na nb x y + (if bop o na nb then 1 else 0)) = bmag o na nb x y := by
    unfold cpl; split <;> rfl
  rw [tw_bit (by rw [e]; exact hm) (by intro h; rw [h]; simp), e]
  by_cases h : i < N
  · rw [nbop_tw_bit hx hy ha hb h]; simp [h]
  · have h1 : nbop o (tw N na x) (tw N nb y) < 2 ^ i := Nat.lt_of_lt_of_le (nbop_lt (tw_lt hx ha) (tw_lt hy hb)) (Nat.pow_le_pow_right (by omega) (by omega))
    rw [Nat.testBit_lt_two_pow h1]; simp [h]
/-- The highest digit is the sign. -/
theorem nbop_top {o N : Nat} {na nb : Bool} {x y : Nat} (hx : cpl na x < 2 ^ N) (hy : cpl nb y < 2 ^ N) (ha : na = true → 0 < x) (hb : nb = true → 0 < y) :
    nbop o (tw (N + 1) na x) (tw (N + 1) nb y) / 2 ^ N = if bop o na nb then 1 else 0 := by
  have h2 : 2 ^ N < 2 ^ (N + 1) := Nat.pow_lt_pow_right (by omega) (by omega)
  have hm := bmag_lt (o := o) hx hy
  rw [nbop_tw (Nat.lt_trans hx h2) (Nat.lt_trans hy h2) ha hb]
  have hp := Nat.pow_pos (n := N) (show 0 < 2 by omega)
  cases bop o na nb with
  | false =>
    show (bmag o na nb x y + 0) / 2 ^ N = 0
    exact Nat.div_eq_of_lt hm
  | true =>
    show (2 ^ (N + 1) - (bmag o na nb x y + 1)) / 2 ^ N = 1
    rw [Nat.pow_succ]
    refine Nat.div_eq_of_lt_le ?_ ?_ <;> omega
/-- The sums that the bitwise combinations meet. -/
theorem and_add_or (x y : Nat) : (x &&& y) + (x ||| y) = x + y := by
  induction x using Nat.strongRecOn generalizing y with
  | _ x ih =>
    rcases Nat.eq_zero_or_pos x with h | h
    · subst h; simp
    · have := ih (x / 2) (Nat.div_lt_self h (by omega)) (y / 2)
      have e1 := Nat.and_div_two (a := x) (b := y)
      have e2 := Nat.or_div_two (a := x) (b := y)
      have f1 : (x &&& y) % 2 = (x % 2) &&& (y % 2) := by
        have := Nat.and_mod_two_pow (a := x) (b := y) (n := 1); simpa using this
      have f2 : (x ||| y) % 2 = (x % 2) ||| (y % 2) := by
        have := Nat.or_mod_two_pow (a := x) (b := y) (n := 1); simpa using this
      have f3 : ((x % 2) &&& (y % 2)) + ((x % 2) ||| (y % 2)) = x % 2 + y % 2 := by
        rcases Nat.mod_two_eq_zero_or_one x with h1 | h1 <;> rcases Nat.mod_two_eq_zero_or_one y with h2 | h2 <;> rw [h1, h2] <;> decide
      omega
theorem and_add_xor (x y : Nat) : (x &&& y) + (x ^^^ y) = x ||| y := by
  induction x using Nat.strongRecOn generalizing y with
  | _ x ih =>
    rcases Nat.eq_zero_or_pos x with h | h
    · subst h; simp
    · have := ih (x / 2) (Nat.div_lt_self h (by omega)) (y / 2)
      have e1 := Nat.and_div_two (a := x) (b := y)
      have e2 := Nat.or_div_two (a := x) (b := y)
      have e3 := Nat.xor_div_two (a := x) (b := y)
      have f1 : (x &&& y) % 2 = (x % 2) &&& (y % 2) := by
        have := Nat.and_mod_two_pow (a := x) (b := y) (n := 1); simpa using this
      have f2 : (x ||| y) % 2 = (x % 2) ||| (y % 2) := by
        have := Nat.or_mod_two_pow (a := x) (b := y) (n := 1); simpa using this
      have f4 : (x ^^^ y) % 2 = (x % 2) ^^^ (y % 2) := by
        have := Nat.xor_mod_two_pow (a := x) (b := y) (n := 1); simpa using this
      have f3 : ((x % 2) &&& (y % 2)) + ((x % 2) ^^^ (y % 2)) = (x % 2) ||| (y % 2) := by
        rcases Nat.mod_two_eq_zero_or_one x with h1 | h1 <;> rcases Nat.mod_two_eq_zero_or_one y with h2 | h2 <;> rw [h1, h2] <;> decide
      omega
end Go.Proofs.YtdmhkhnnomdkcaaDoor
/- number.negated: limbs in two's complement. Conditions: at most 1000 limbs. -/
namespace Go.Proofs.YtdmhkhnnomdkcaaDoor
open Go.RowKit NumB
set_option linter.unusedVariables false
set_option linter.unusedSimpArgs false

theorem neg_step {V Va P B c x out : Nat} (h : V + P * c + Va = P) (hx : x < B) (ho : out = c + (B - 1 - x)) : (V + P * (out % B)) + (P * B) * (out / B) + (Va + P * x) = P * B := by
  have e := mod_div_step P B out
  have e2 : P * out = P * c + P * (B - 1 - x) := by rw [ho, Nat.mul_add]
  have e3 : P * (B - 1 - x) + P * x + P = P * B := by
    rw [← Nat.mul_add, ← Nat.mul_succ]
    congr 1
    omega
  omega
theorem not_nat (p : Nat) (hp : p < 2 ^ 32) : (2 ^ 32 - 1) ^^^ p = 2 ^ 32 - (p + 1) := by
  refine Nat.eq_of_testBit_eq fun i => ?_
  rw [Nat.testBit_xor, Nat.testBit_two_pow_sub_one, Nat.testBit_two_pow_sub_succ hp]
  by_cases h : i < 32
  · simp [h]
  · have : p.testBit i = false := Nat.testBit_lt_two_pow (Nat.lt_of_lt_of_le hp (Nat.pow_le_pow_right (by omega) (by omega)))
    simp [h, this]
theorem not_u32 (p : Nat) (hp : p < 4294967296) : bits .xor .u32 IntKind.u32.max (p : Int) = ((4294967295 - p : Nat) : Int) := by
  have h := u32_xor 4294967295 (p : Int) (by omega) (by omega) (by omega) (by omega)
  rw [Int.toNat_natCast, show (4294967295 : Int).toNat = 2 ^ 32 - 1 from rfl, not_nat p hp] at h
  exact h.trans (congrArg (fun z : Nat => (z : Int)) (by omega))

set_option maxRecDepth 100000 in
set_option maxHeartbeats 1600000 in
theorem negated_any (xs : List Nat) (v : Value) (w : World) (h : Sl .u32 w v xs) (ho : Ok W32 xs) (hl : xs.length ≤ 1000) :
    Calls Tryd.prog 16 #[v] w fun e w' => ∃ g c out, e = .returned (.slice (some ⟨g, 0, none⟩) xs.length c) ∧ Own .u32 35 w' w.heap.size g xs.length c out ∧ Ok W32 out ∧ val W32 out = (W32 ^ xs.length - val W32 xs) % W32 ^ xs.length ∧ Below w.heap.size w w' := by
  obtain ⟨A, c, rfl, hc, hm, hr⟩ := h
  unfold maxLen at hm
  have HO := Lib.hid ho
  generalize hxl : xs.length = l at *
  have HL := Lib.hid hxl
  have HR := Lib.hid hr
  clear hxl hr ho
  obtain ⟨i0, hi0, hz0, hz1, hz2⟩ := info_parts info_u32
  have HI := Lib.hid hi0
  have HZ0 := Lib.hid hz0
  have HZ1 := Lib.hid hz1
  have HZ2 := Lib.hid hz2
  clear hi0 hz0 hz1 hz2
  go_enter Tryd.func16, Tryd.ntmps16
  go_wp2_with (at_make; refine wpList_make_full _ rfl _ _ 22 rfl w.heap.size 35 i0 (.int .u32 0) 1 Tryd.underlying22 HI.out HZ0.out HZ1.out .i64 .i64 _ _ l rfl rfl (by omega) (by omega) (by rw [HZ2.out]; omega) (by unfold maxLen; omega) (Nat.le_refl _) ?_; intro w1 hown1 hg1)
  have HOW := Lib.hid (Own.made hown1)
  have HB := Lib.hid ((Below.refl w.heap.size w).grown hg1 (Nat.le_refl _) (by simp))
  clear hown1 hg1
  go_loopg [4, 12] l (fun gk s4 s12 wr => ∃ (j c : Nat) (out : List Nat), gk + j = l ∧ s12 = .int .i64 (j : Int) ∧ s4 = .int .u64 (c : Int) ∧ c ≤ 1 ∧ Hid (Own .u32 35 wr w.heap.size w.heap.size l l out) ∧ Hid (Below w.heap.size w wr) ∧ Hid (val W32 (out.take j) + W32 ^ j * c + val W32 (xs.take j) = W32 ^ j) ∧ Hid (Ok W32 out))
  case atStart => exact ⟨0, 1, _, by omega, rfl, rfl, by omega, HOW.out, HB.out, by show _ = _; simp, ok_replicate (by decide)⟩
  case round =>
    obtain ⟨j, cr, out, hg, rfl, rfl, hcr, HOw, HBw, HV, HOo⟩ := hrel
    by_cases hj : j < l
    · obtain ⟨b, o, p, rfl, hb, hpe, hcell⟩ := (HR.out.below HBw.out).at_ (i := j) (by omega)
      have hp : p < 4294967296 := by rw [← hpe]; exact HO.out.getD (by decide) _
      have HP := Lib.hid hpe
      clear hpe
      obtain ⟨y, hy⟩ : ∃ y : Nat, wr.cell? ⟨w.heap.size, j, none⟩ = some (.int .u32 (y : Int)) := ⟨_, HOw.out.cell hj⟩
      have hf := HOw.out.frozen j
      obtain ⟨q, hq, hqe, hqb⟩ : ∃ q : Nat, bits .xor .u32 IntKind.u32.max (p : Int) = (q : Int) ∧ q = 4294967295 - p ∧ q < 4294967296 := ⟨_, not_u32 p hp, rfl, by omega⟩
      have HQ := Lib.hid hqe
      clear hqe
      have hw1 : IntKind.u64.wrap (q : Int) = (q : Int) := by rw [IntKind.wrap_u64]; omega
      have hw2 : IntKind.u64.wrap ((cr : Int) + (q : Int)) = (cr : Int) + (q : Int) := by rw [IntKind.wrap_u64]; omega
      go_wp2
      go_roundg (gk - 1)
      case measure => omega
      case rel =>
        have hlen : out.length = l := HOw.out.1
        refine ⟨j + 1, (cr + q) / 4294967296, out.set j ((cr + q) % 4294967296), by omega, by go_num, congrArg (Value.int .u64) (by omega), by omega, ?_, HBw.out.setCell (Nat.le_refl _) _, ?_, HOo.out.set (by show _ < 4294967296; omega)⟩
        · have := HOw.out.stored j ((cr + q) % 4294967296)
          have e : (((cr + q) % 4294967296 : Nat) : Int) = ((cr : Int) + (q : Int)) % 4294967296 := by omega
          rw [e] at this
          exact this
        · have h1 := neg_step (B := 4294967296) (out := cr + q) HV.out hp (by have := HQ.out; omega)
          show _ = _
          rw [val_take_succ, take_set_lt _ _ _ _ (Nat.le_refl _), getD_set_self _ _ _ (by omega), val_take_succ, HP.out, Nat.pow_succ]
          exact h1
    · obtain rfl : j = l := by omega
      go_wp2
      go_ret
      have hv := HV.out
      have hlen : out.length = j := HOw.out.1
      rw [val_take_all W32 out (by omega), val_take_all W32 xs (by rw [HL.out]; exact Nat.le_refl _)] at hv
      refine ⟨_, _, out, rfl, HOw.out, HOo.out, ?_, HBw.out⟩
      have h2 := val_lt HOo.out
      rw [hlen] at h2
      rcases Nat.eq_zero_or_pos cr with h0 | h0
      · subst h0
        rw [Nat.mul_zero, Nat.add_zero] at hv
        have e : val W32 out = W32 ^ j - val W32 xs := by omega
        rw [← e, Nat.mod_eq_of_lt h2]
      · obtain rfl : cr = 1 := by omega
        rw [Nat.mul_one] at hv
        have e1 : val W32 out = 0 := by omega
        have e2 : val W32 xs = 0 := by omega
        rw [e1, e2, Nat.sub_zero, Nat.mod_self]
end Go.Proofs.YtdmhkhnnomdkcaaDoor
/- number.twos: limbs in two's complement. Conditions: at most 1000 limbs; the number is not longer. -/
namespace Go.Proofs.YtdmhkhnnomdkcaaDoor
open Go.RowKit NumB
set_option linter.unusedVariables false
set_option linter.unusedSimpArgs false

/-- A row of limbs of the call's own with a value. -/
def LimbPost (w : World) (n x : Nat) (e : Ending) (w' : World) : Prop := ∃ g c out, e = .returned (.slice (some ⟨g, 0, none⟩) n c) ∧ Own .u32 35 w' w.heap.size g n c out ∧ Ok W32 out ∧ val W32 out = x ∧ Below w.heap.size w w'
/-- Two's complement with n limbs. -/
def twN (n : Nat) (neg : Bool) (x : Nat) : Nat := if neg then (W32 ^ n - x) % W32 ^ n else x
theorem size_u32T : (Tryd.prog.info? 35).map (·.size) = some 1 := by kernel_rfl

set_option maxRecDepth 100000 in
set_option maxHeartbeats 3200000 in
theorem twos_any (a : LN) (n : Nat) (v : Value) (w : World) (ga : GV w v a) (hn : a.num.length ≤ n) (hnb : n ≤ 1000) :
    Calls Tryd.prog 13 #[v, .int .i64 (n : Int)] w (LimbPost w n (twN n a.neg a.x)) := by
  have HOA := Lib.hid ga.ok.1
  obtain ⟨A1, A2, rfl, h1, h2, _⟩ := ga
  obtain ⟨B1, d1, rfl, hc1, hm1, hr1⟩ := h1
  obtain ⟨B2, d2, rfl, _⟩ := h2
  have HX : Hid (val W32 a.num = a.x) := rfl
  unfold maxLen at hm1
  generalize a.neg = sg at *
  generalize a.x = X at *
  generalize a.den.length = m2 at *
  generalize a.num = xs at *

  generalize hl : xs.length = m at *
  have HL := Lib.hid hl
  have HR := Lib.hid hr1
  clear hl hr1
  obtain ⟨i0, hi0, hz0, hz1, hz2⟩ := info_parts info_u32
  have HI := Lib.hid hi0
  have HZ0 := Lib.hid hz0
  have HZ1 := Lib.hid hz1
  have HZ2 := Lib.hid hz2
  clear hi0 hz0 hz1 hz2
  have KA := Lib.hid (Blk.new w 24 #[.bool sg, .slice B1 m d1, .slice B2 m2 d2])
  have HB0 := Lib.hid (below_one w (.cells #[.bool sg, .slice B1 m d1, .slice B2 m2 d2] 24))
  go_enter Tryd.func13, Tryd.ntmps13
  go_wp2_with (first
    | (at_make; refine wpList_make_full _ rfl _ _ 22 rfl (w.heap.size + 1) 35 i0 (.int .u32 0) 1 Tryd.underlying22 HI.out HZ0.out HZ1.out .i64 .i64 _ _ n rfl rfl (by omega) (by omega) (by rw [HZ2.out]; omega) (by unfold maxLen; omega) (by simp) ?_; intro w1 hown1 hg1; have HB1 : Hid (Below (w.alloc (.cells #[.bool sg, .slice B1 m d1, .slice B2 m2 d2] 24)).heap.size (w.alloc (.cells #[.bool sg, .slice B1 m d1, .slice B2 m2 d2] 24)) w1) := (Below.refl _ _).grown hg1 (Nat.le_refl _) (by simp); have ka0 := (KA.out.to HB1.out).cell 0; have ka1 := (KA.out.to HB1.out).cell 1; simp only [List.getElem?_toArray, List.getElem?_cons_zero, List.getElem?_cons_succ] at ka0 ka1; have HOW : Hid (Own .u32 35 w1 (w.heap.size + 1) (w.heap.size + 1) n n (List.replicate n 0)) := Own.made (by have h := hown1; simpa using h); have HR1 : Hid (Rd .u32 w1 w1.heap.size B1 m xs) := (HR.out.to HB0.out).to HB1.out; clear hown1 hg1)
    | ((with_reducible refine wpList_copy_Own rfl (.tmp 8) (.tmp 10) 22 22 rfl 35 Tryd.underlying22 size_u32T .u32 35 (w.heap.size + 1) (w.heap.size + 1) n (List.replicate n 0) xs B1 m d1 rfl rfl HOW.out HR1.out hn ?_); intro w2 hown2 hb2; have HB2 : Hid (Below w.heap.size w w2) := (HB0.out.trans (HB1.out.mono (by simp))).trans (hb2.mono (by omega)); have HW2 : Hid (Own .u32 35 w2 w.heap.size (w.heap.size + 1) n n (xs ++ (List.replicate n 0).drop m)) := ⟨hown2.1, Joins.ownsRow_le hown2.2 (by omega)⟩; have ka2 : w2.cell? ⟨w.heap.size, 0, none⟩ = some (.bool sg) := (hb2.cell (by show w.heap.size < _; omega)).trans ka0; clear hown2 hb2))
  all_goals
    have HO2 : Hid (Ok W32 (xs ++ (List.replicate n 0).drop m)) := HOA.out.append ((ok_replicate (by decide)).drop _)
    have HV2 : Hid (val W32 (xs ++ (List.replicate n 0).drop m) = X) := by
      show _ = _
      rw [List.drop_replicate, val_append_zeros]; exact HX.out
    generalize xs ++ (List.replicate n 0).drop m = ys at *
    have hlen : ys.length = n := HW2.out.1
  · obtain rfl : sg = true := by assumption
    have HN : Hid (∀ (v : Value) (W : World), Sl .u32 W v ys → Calls Tryd.prog 16 #[v] W fun e w' => ∃ g c out, e = .returned (.slice (some ⟨g, 0, none⟩) n c) ∧ Own .u32 35 w' W.heap.size g n c out ∧ Ok W32 out ∧ val W32 out = (W32 ^ n - X) % W32 ^ n ∧ Below W.heap.size W w') := fun v W h => by
      have := negated_any ys v W h HO2.out (by omega)
      rw [hlen, HV2.out] at this
      exact this
    clear hlen
    go_wp2_with fail
    refine (HN.out _ _ (by exact HW2.out.sl)).mono ?_
    rintro e w3 ⟨g, c, out, rfl, h1, h2, h3, hb⟩
    go_wp2_with fail
    go_ret
    exact ⟨g, c, out, rfl, ⟨h1.1, Joins.ownsRow_le h1.2 HB2.out.size⟩, h2, h3, HB2.out.trans (hb.mono HB2.out.size)⟩
  · obtain rfl : sg = false := by assumption
    clear hlen
    go_ret
    exact ⟨_, _, ys, rfl, HW2.out, HO2.out, HV2.out, HB2.out⟩
end Go.Proofs.YtdmhkhnnomdkcaaDoor
/- fetterlockref1.Plus. Conditions: at most 10000 digits; the denominators are not 0. -/
namespace Go.Proofs.YtdmhkhnnomdkcaaDoor
open Go.RowKit NumB
set_option linter.unusedVariables false
set_option linter.unusedSimpArgs false
theorem digs16_len_add {x y n : Nat} (hx : (digs W16 x).length ≤ n) (hy : (digs W16 y).length ≤ n) : (digs W16 (x + y)).length ≤ n + 1 := by
  refine digs_len_le W16_gt ?_
  have h1 := Nat.lt_of_lt_of_le (digs_lt W16_gt (n := x)) (Nat.pow_le_pow_right (by decide) hx)
  have h2 := Nat.lt_of_lt_of_le (digs_lt W16_gt (n := y)) (Nat.pow_le_pow_right (by decide) hy)
  rw [Nat.pow_succ]
  have h3 : W16 = 65536 := rfl
  generalize W16 ^ n = P at *
  rw [h3]; omega
theorem sumN16_len {na nb : Bool} {x y n : Nat} (hx : (digs W16 x).length ≤ n) (hy : (digs W16 y).length ≤ n) : (digs W16 (sumN na x nb y).2).length ≤ n + 1 := by
  unfold sumN
  split
  · exact digs16_len_add hx hy
  · split
    · exact Nat.le_trans (digs_len_mono W16_gt (Nat.sub_le _ _)) (by omega)
    · exact Nat.le_trans (digs_len_mono W16_gt (Nat.sub_le _ _)) (by omega)

end Go.Proofs.YtdmhkhnnomdkcaaDoor
/- fetterlockref1.IsInt; Fault at any number. -/
namespace Go.Proofs.YtdmhkhnnomdkcaaDoor
open Go.RowKit NumB
set_option linter.unusedVariables false
set_option linter.unusedSimpArgs false

theorem LN.len16 {a : LN} (ho : a.ok) (h : a.err = 0) : (digs W16 a.x).length ≤ 256 ∧ (digs W16 a.y).length ≤ 256 := by
  obtain ⟨_, _, h3, h4, _⟩ := LN.good ho h
  exact ⟨digs16_val_le ho.1 h3, digs16_val_le ho.2 h4⟩

theorem cmpI_one_true {y : Nat} (h : y = 1) : (cmpI y 1 == 0) = true := by subst h; decide
theorem cmpI_one_false {y : Nat} (h : y ≠ 1) : (cmpI y 1 == 0) = false := by
  rcases Nat.lt_trichotomy y 1 with h1 | h1 | h1
  · rw [cmpI_lt h1]; rfl
  · exact absurd h1 h
  · rw [cmpI_gt h1]; rfl
end Go.Proofs.YtdmhkhnnomdkcaaDoor
/- fetterlockref1.Two: what holds within its region that draws its order. -/
namespace Go.Proofs.YtdmhkhnnomdkcaaDoor
open Go.RowKit NumB
set_option linter.unusedVariables false
set_option linter.unusedSimpArgs false

theorem GV.putN {w : World} {v : Value} {a : LN} {g : Nat} {t : TypeId} {s : Bool} {A A' : Option Addr} {n m ca cb : Nat} (h : GV w v a) (hg : Blk w g t #[.bool s, .slice A n ca, .slice A' m cb]) (x y z : Value) : GV (Go.Proofs.YtdmhkhnnomdkcaaDoor.put3 w g x y z) v a := by
  obtain ⟨p, q, e, h1, h2, h3⟩ := h
  exact ⟨p, q, e, Sl.boxed h1 hg noInts_num (Nat.le_of_eq (put3_size w g x y z).symm) (put3_far w g x y z), Sl.boxed h2 hg noInts_num (Nat.le_of_eq (put3_size w g x y z).symm) (put3_far w g x y z), h3⟩
theorem Steps.gen {P : Program} {ops : Array Oper} {md : Region.Mode} {Q : Exit → Act → World → Prop} {Inv : (Nat → Bool) → Act → World → Prop} {rs : List Nat} (h : ∀ Q, Steps P md ops Q Inv rs) : Steps P md ops Q Inv rs := h Q
/-- The cells of a struct value. -/
def cellsOf : Value → Array Value
  | .agg xs => xs
  | _ => #[]
section
variable {w W : World} {ca cb : Array Value} {a b : LN} {L : Nat → Bool} {s28 s30 s10 s11 : Value}
end
end Go.Proofs.YtdmhkhnnomdkcaaDoor
/- fetterlockref1.Two, at + and *. -/
namespace Go.Proofs.YtdmhkhnnomdkcaaDoor
open Go.RowKit NumB
set_option linter.unusedVariables false
set_option linter.unusedSimpArgs false

theorem lenM16 {x y n : Nat} (hx : (digs W16 x).length ≤ n + 1) (hy : (digs W16 y).length ≤ 1000) (h : n ≤ 1000 := by omega) : (digs W16 (x / Nat.gcd x y)).length ≤ 100000 ∧ (digs W16 (y / Nat.gcd x y)).length ≤ 100000 :=
  ⟨Nat.le_trans (digs_len_mono W16_gt (Nat.div_le_self _ _)) (by omega), Nat.le_trans (digs_len_mono W16_gt (Nat.div_le_self _ _)) (by omega)⟩
/-- What Two answers at + and *. -/
def rtwoAS (k : Int) (a b : LN) : LN × Int := if err2 a.err b.err = 0 then (if k = 43 then fracS 0 (sumN a.neg (a.x * b.y) b.neg (b.x * a.y)).1 ((sumN a.neg (a.x * b.y) b.neg (b.x * a.y)).2) (a.y * b.y) else fracS 0 (a.neg != b.neg) (a.x * b.x) (a.y * b.y)) else (zeroL, err2 a.err b.err)

end Go.Proofs.YtdmhkhnnomdkcaaDoor
/- fetterlockref1.Two, at g. -/
namespace Go.Proofs.YtdmhkhnnomdkcaaDoor
open Go.RowKit NumB
set_option linter.unusedVariables false
set_option linter.unusedSimpArgs false

/-- What Two answers at g, for integers. -/
def rtwoGSI (k : Int) (a b : LN) : LN × Int := opS 0 (false && decide (0 < Nat.gcd a.x b.x)) (Nat.gcd a.x b.x) 1
/-- What Two answers at g. -/
def rtwoGS (k : Int) (a b : LN) : LN × Int := if err2 a.err b.err = 0 then (if a.y = 1 ∧ b.y = 1 then rtwoGSI k a b else (zeroL, 7)) else (zeroL, err2 a.err b.err)

end Go.Proofs.YtdmhkhnnomdkcaaDoor

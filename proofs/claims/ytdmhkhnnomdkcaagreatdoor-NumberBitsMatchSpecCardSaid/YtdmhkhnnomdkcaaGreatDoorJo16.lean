/-  -/
import Derived.Test.YtdmhkhnnomdkcaaGreatDoorJo10
import Derived.Test.YtdmhkhnnomdkcaaGreatDoorJo15
set_option linter.unusedVariables false
set_option linter.unusedSimpArgs false
/- number.Check at lists without a last zero. -/
namespace Go.Proofs.YtdmhkhnnomdkcaaGreatDoor
open Go.RowKit NumB
set_option linter.unusedVariables false
set_option linter.unusedSimpArgs false

set_option maxRecDepth 100000 in
set_option maxHeartbeats 3200000 in
theorem check_zero (neg : Bool) (x y : Nat) (va vb : Value) (w : World) (ha : Nat32 w va x) (hb : Nat32 w vb y) (hx : (digs W32 x).length ≤ 128) (hy : (digs W32 y).length ≤ 128) (hy0 : 0 < (digs W32 y).length) (h0 : 0 < (digs W32 x).length ↔ 0 < x) (hx0 : x = 0) (hl1 : lastB (digs W32 x) = false) (hl2 : lastB (digs W32 y) = false) :
    Calls Tryz.prog 58 #[.agg #[.bool neg, va, vb]] w fun e w' => e = .returned (.int .i64 (checkN neg x y)) ∧ Below w.heap.size w w' := by
  have HA := Lib.hid ha
  have HB := Lib.hid hb
  obtain ⟨A, ca, rfl, hca, hma, hra⟩ := ha
  obtain ⟨A', cb, rfl, hcb, hmb, hrb⟩ := hb
  have HL := Lib.hid hl1
  have HL2 := Lib.hid hl2
  have HX := Lib.hid (And.intro hx hy)
  clear hra hrb hl1 hl2
  unfold maxLen at hma hmb
  generalize hn : (digs W32 x).length = n at *
  generalize hm : (digs W32 y).length = m at *
  have HN := Lib.hid (And.intro hn hm)
  have hm1 : ((m : Int) == 0) = false := beq_eq_false_iff_ne.2 (by omega)
  clear hn hm
  have HSA : ∀ o : Obj, Hid (Nat32 (w.alloc o) (.slice A n ca) x) := fun o => HA.out.to ((Below.refl _ _).alloc (Nat.le_refl _) o)
  have HSB : ∀ o : Obj, Hid (Nat32 (w.alloc o) (.slice A' m cb) y) := fun o => HB.out.to ((Below.refl _ _).alloc (Nat.le_refl _) o)
  clear HA HB
  · obtain rfl : n = 0 := by omega
    cases neg with
    | true =>
      have E : Hid (checkN true x y = 2) := by unfold Hid checkN; rw [if_pos hx0, if_neg (by simp)]
      clear h0 hx0
      go_enter Tryz.func58, Tryz.ntmps58
      go_wp2_with fail
      refine (last_any (digs W32 x) _ _ (by exact (HSA _).out)).mono ?_
      rintro e w1 ⟨rfl, rfl⟩
      rw [HL.out]
      go_wp2_with fail
      refine (last_any (digs W32 y) _ _ (by exact (HSB _).out)).mono ?_
      rintro e w1 ⟨rfl, rfl⟩
      rw [HL2.out]
      go_wp2
      go_ret
      rw [E.out]
      exact ⟨rfl, (Below.refl _ _).alloc (Nat.le_refl _) _⟩
    | false =>
      have E : Hid (checkN false x y = if y = 1 then 0 else 2) := by unfold Hid checkN; rw [if_pos hx0]; simp
      clear h0 hx0
      by_cases hy1 : y = 1
      · have HO := Lib.hid (oneB_true hy1)
        rw [if_pos hy1] at E
        clear hy1
        go_enter Tryz.func58, Tryz.ntmps58
        go_wp2_with fail
        refine (last_any (digs W32 x) _ _ (by exact (HSA _).out)).mono ?_
        rintro e w1 ⟨rfl, rfl⟩
        rw [HL.out]
        go_wp2_with fail
        refine (last_any (digs W32 y) _ _ (by exact (HSB _).out)).mono ?_
        rintro e w1 ⟨rfl, rfl⟩
        rw [HL2.out]
        go_wp2_with fail
        refine (isOne_any y _ _ (by exact (HSB _).out)).mono ?_
        rintro e w1 ⟨rfl, rfl⟩
        rw [HO.out]
        go_wp2_with fail
        refine (isOne_any y _ _ (by exact (HSB _).out)).mono ?_
        rintro e w1 ⟨rfl, rfl⟩
        rw [HO.out]
        go_wp2
        go_ret
        rw [E.out]
        exact ⟨rfl, (Below.refl _ _).alloc (Nat.le_refl _) _⟩
      · have HO := Lib.hid (oneB_false hy1)
        rw [if_neg hy1] at E
        clear hy1
        go_enter Tryz.func58, Tryz.ntmps58
        go_wp2_with fail
        refine (last_any (digs W32 x) _ _ (by exact (HSA _).out)).mono ?_
        rintro e w1 ⟨rfl, rfl⟩
        rw [HL.out]
        go_wp2_with fail
        refine (last_any (digs W32 y) _ _ (by exact (HSB _).out)).mono ?_
        rintro e w1 ⟨rfl, rfl⟩
        rw [HL2.out]
        go_wp2_with fail
        refine (isOne_any y _ _ (by exact (HSB _).out)).mono ?_
        rintro e w1 ⟨rfl, rfl⟩
        rw [HO.out]
        go_wp2
        go_ret
        rw [E.out]
        exact ⟨rfl, (Below.refl _ _).alloc (Nat.le_refl _) _⟩
end Go.Proofs.YtdmhkhnnomdkcaaGreatDoor
/- number.Check at a positive numerator. -/
namespace Go.Proofs.YtdmhkhnnomdkcaaGreatDoor
open Go.RowKit NumB
set_option linter.unusedVariables false
set_option linter.unusedSimpArgs false

set_option maxRecDepth 100000 in
set_option maxHeartbeats 3200000 in
theorem check_pos (neg : Bool) (x y : Nat) (va vb : Value) (w : World) (ha : Nat32 w va x) (hb : Nat32 w vb y) (hx : (digs W32 x).length ≤ 128) (hy : (digs W32 y).length ≤ 128) (hy0 : 0 < (digs W32 y).length) (h0 : 0 < (digs W32 x).length ↔ 0 < x) (hx0 : 0 < x) (hl1 : lastB (digs W32 x) = false) (hl2 : lastB (digs W32 y) = false) :
    Calls Tryz.prog 58 #[.agg #[.bool neg, va, vb]] w fun e w' => e = .returned (.int .i64 (checkN neg x y)) ∧ Below w.heap.size w w' := by
  have HA := Lib.hid ha
  have HB := Lib.hid hb
  obtain ⟨A, ca, rfl, hca, hma, hra⟩ := ha
  obtain ⟨A', cb, rfl, hcb, hmb, hrb⟩ := hb
  have HL := Lib.hid hl1
  have HL2 := Lib.hid hl2
  have HX := Lib.hid (And.intro hx hy)
  clear hra hrb hl1 hl2
  unfold maxLen at hma hmb
  generalize hn : (digs W32 x).length = n at *
  generalize hm : (digs W32 y).length = m at *
  have HN := Lib.hid (And.intro hn hm)
  have hm1 : ((m : Int) == 0) = false := beq_eq_false_iff_ne.2 (by omega)
  clear hn hm
  have HSA : ∀ o : Obj, Hid (Nat32 (w.alloc o) (.slice A n ca) x) := fun o => HA.out.to ((Below.refl _ _).alloc (Nat.le_refl _) o)
  have HSB : ∀ o : Obj, Hid (Nat32 (w.alloc o) (.slice A' m cb) y) := fun o => HB.out.to ((Below.refl _ _).alloc (Nat.le_refl _) o)
  clear HA HB
  have hn1 : ((n : Int) == 0) = false := beq_eq_false_iff_ne.2 (by omega)
  have HX0 : Hid (x ≠ 0) := by unfold Hid; omega
  clear h0 hx0
  by_cases hy1 : y = 1
  · have HO := Lib.hid (oneB_true hy1)
    have E : Hid (checkN neg x y = 0) := by unfold Hid checkN; rw [if_neg HX0.out, if_pos (.inl hy1)]
    clear hy1
    go_enter Tryz.func58, Tryz.ntmps58
    go_wp2_with fail
    refine (last_any (digs W32 x) _ _ (by exact (HSA _).out)).mono ?_
    rintro e w1 ⟨rfl, rfl⟩
    rw [HL.out]
    go_wp2_with fail
    refine (last_any (digs W32 y) _ _ (by exact (HSB _).out)).mono ?_
    rintro e w1 ⟨rfl, rfl⟩
    rw [HL2.out]
    go_wp2_with fail
    refine (isOne_any y _ _ (by exact (HSB _).out)).mono ?_
    rintro e w1 ⟨rfl, rfl⟩
    rw [HO.out]
    go_wp2
    go_ret
    rw [E.out]
    exact ⟨rfl, (Below.refl _ _).alloc (Nat.le_refl _) _⟩
  · have HO := Lib.hid (oneB_false hy1)
    by_cases hx1 : x = 1
    · have HOX := Lib.hid (oneB_true hx1)
      have E : Hid (checkN neg x y = 0) := by unfold Hid checkN; rw [if_neg HX0.out, if_pos (.inr (.inl hx1))]
      clear hy1 hx1
      go_enter Tryz.func58, Tryz.ntmps58
      go_wp2_with fail
      refine (last_any (digs W32 x) _ _ (by exact (HSA _).out)).mono ?_
      rintro e w1 ⟨rfl, rfl⟩
      rw [HL.out]
      go_wp2_with fail
      refine (last_any (digs W32 y) _ _ (by exact (HSB _).out)).mono ?_
      rintro e w1 ⟨rfl, rfl⟩
      rw [HL2.out]
      go_wp2_with fail
      refine (isOne_any y _ _ (by exact (HSB _).out)).mono ?_
      rintro e w1 ⟨rfl, rfl⟩
      rw [HO.out]
      go_wp2_with fail
      refine (isOne_any x _ _ (by exact (HSA _).out)).mono ?_
      rintro e w1 ⟨rfl, rfl⟩
      rw [HOX.out]
      go_wp2
      go_ret
      rw [E.out]
      exact ⟨rfl, (Below.refl _ _).alloc (Nat.le_refl _) _⟩
    · have HOX := Lib.hid (oneB_false hx1)
      by_cases hg : Nat.gcd x y = 1
      · have HG := Lib.hid (oneB_true hg)
        have E : Hid (checkN neg x y = 0) := by unfold Hid checkN; rw [if_neg HX0.out, if_pos (.inr (.inr hg))]
        clear hy1 hx1 hg
        go_enter Tryz.func58, Tryz.ntmps58
        go_wp2_with fail
        refine (last_any (digs W32 x) _ _ (by exact (HSA _).out)).mono ?_
        rintro e w1 ⟨rfl, rfl⟩
        rw [HL.out]
        go_wp2_with fail
        refine (last_any (digs W32 y) _ _ (by exact (HSB _).out)).mono ?_
        rintro e w1 ⟨rfl, rfl⟩
        rw [HL2.out]
        go_wp2_with fail
        refine (isOne_any y _ _ (by exact (HSB _).out)).mono ?_
        rintro e w1 ⟨rfl, rfl⟩
        rw [HO.out]
        go_wp2_with fail
        refine (isOne_any x _ _ (by exact (HSA _).out)).mono ?_
        rintro e w1 ⟨rfl, rfl⟩
        rw [HOX.out]
        go_wp2_with fail
        refine (gcd_any x y _ _ _ (by exact (HSA _).out) (by exact (HSB _).out) (by rw [HN.out.1]; exact Nat.le_trans HX.out.1 (by omega)) (by rw [HN.out.2]; exact Nat.le_trans HX.out.2 (by omega))).mono ?_
        rintro e w2 ⟨v2, rfl, hn2, hb2⟩
        have H2 := Lib.hid (And.intro hn2 hb2)
        clear hn2 hb2
        go_wp2_with fail
        refine (isOne_any (Nat.gcd x y) _ _ H2.out.1).mono ?_
        rintro e w1 ⟨rfl, rfl⟩
        rw [HG.out]
        go_wp2
        go_ret
        rw [E.out]
        exact ⟨rfl, ((Below.refl _ _).alloc (Nat.le_refl _) _).trans (H2.out.2.mono (by simp))⟩
      · have HG := Lib.hid (oneB_false hg)
        have E : Hid (checkN neg x y = 2) := by unfold Hid checkN; rw [if_neg HX0.out, if_neg (by rintro (h | h | h); exact hy1 h; exact hx1 h; exact hg h)]
        clear hy1 hx1 hg
        go_enter Tryz.func58, Tryz.ntmps58
        go_wp2_with fail
        refine (last_any (digs W32 x) _ _ (by exact (HSA _).out)).mono ?_
        rintro e w1 ⟨rfl, rfl⟩
        rw [HL.out]
        go_wp2_with fail
        refine (last_any (digs W32 y) _ _ (by exact (HSB _).out)).mono ?_
        rintro e w1 ⟨rfl, rfl⟩
        rw [HL2.out]
        go_wp2_with fail
        refine (isOne_any y _ _ (by exact (HSB _).out)).mono ?_
        rintro e w1 ⟨rfl, rfl⟩
        rw [HO.out]
        go_wp2_with fail
        refine (isOne_any x _ _ (by exact (HSA _).out)).mono ?_
        rintro e w1 ⟨rfl, rfl⟩
        rw [HOX.out]
        go_wp2_with fail
        refine (gcd_any x y _ _ _ (by exact (HSA _).out) (by exact (HSB _).out) (by rw [HN.out.1]; exact Nat.le_trans HX.out.1 (by omega)) (by rw [HN.out.2]; exact Nat.le_trans HX.out.2 (by omega))).mono ?_
        rintro e w2 ⟨v2, rfl, hn2, hb2⟩
        have H2 := Lib.hid (And.intro hn2 hb2)
        clear hn2 hb2
        go_wp2_with fail
        refine (isOne_any (Nat.gcd x y) _ _ H2.out.1).mono ?_
        rintro e w1 ⟨rfl, rfl⟩
        rw [HG.out]
        go_wp2
        go_ret
        rw [E.out]
        exact ⟨rfl, ((Below.refl _ _).alloc (Nat.le_refl _) _).trans (H2.out.2.mono (by simp))⟩
end Go.Proofs.YtdmhkhnnomdkcaaGreatDoor
/- number.Check, whole. -/
namespace Go.Proofs.YtdmhkhnnomdkcaaGreatDoor
open Go.RowKit NumB
set_option linter.unusedVariables false
set_option linter.unusedSimpArgs false

/-- What Check answers at a sign and two lists of limbs. -/
def checkL (neg : Bool) (xs ys : List Nat) : Int :=
  if 128 < xs.length ∨ 128 < ys.length then 3 else if lastB xs = true ∨ lastB ys = true ∨ ys.length = 0 then 2 else checkN neg (val W32 xs) (val W32 ys)

theorem top_of_last {xs : List Nat} (h : lastB xs = false) : Top xs := by
  intro hl
  have h1 : ¬ (0 < xs.length ∧ xs.getD (xs.length - 1) 0 = 0) := of_decide_eq_false h
  apply h1
  rw [List.getLast?_eq_getElem?] at hl
  constructor
  · rcases Nat.eq_zero_or_pos xs.length with h0 | h0
    · rw [List.getElem?_eq_none (by omega)] at hl; exact absurd hl (by simp)
    · exact h0
  · rw [List.getD_eq_getElem?_getD, hl]; rfl

theorem check_any (neg : Bool) (xs ys : List Nat) (va vb : Value) (w : World) (ha : Sl .u32 w va xs) (hb : Sl .u32 w vb ys) (hox : Ok W32 xs) (hoy : Ok W32 ys) :
    Calls Tryz.prog 58 #[.agg #[.bool neg, va, vb]] w fun e w' => e = .returned (.int .i64 (checkL neg xs ys)) ∧ Below w.heap.size w w' := by
  unfold checkL
  by_cases h1 : 128 < xs.length ∨ 128 < ys.length
  · rw [if_pos h1]; exact check_big neg xs ys va vb w ha hb h1
  rw [if_neg h1]
  by_cases h2 : lastB xs = true ∨ lastB ys = true ∨ ys.length = 0
  · rw [if_pos h2]; exact check_last neg xs ys va vb w ha hb (by omega) (by omega) h2
  rw [if_neg h2]
  have hlx : lastB xs = false := by cases h : lastB xs with | false => rfl | true => exact absurd (.inl h) h2
  have hly : lastB ys = false := by cases h : lastB ys with | false => rfl | true => exact absurd (.inr (.inl h)) h2
  have hl0 : 0 < ys.length := Nat.pos_of_ne_zero fun h => h2 (.inr (.inr h))
  have ex := digs_eq W32_gt hox (top_of_last hlx) rfl
  have ey := digs_eq W32_gt hoy (top_of_last hly) rfl
  have h0 : 0 < (digs W32 (val W32 xs)).length ↔ 0 < val W32 xs := by
    have h3 := digs_nil (B := W32) (n := val W32 xs) W32_gt
    constructor
    · intro h
      rcases Nat.eq_zero_or_pos (val W32 xs) with h4 | h4
      · rw [h3.2 h4] at h; exact absurd h (by simp)
      · exact h4
    · intro h
      exact List.length_pos_iff.2 fun h4 => by have := h3.1 h4; omega
  have hA : Nat32 w va (val W32 xs) := by unfold Nat32; rw [ex]; exact ha
  have hB : Nat32 w vb (val W32 ys) := by unfold Nat32; rw [ey]; exact hb
  rcases Nat.eq_zero_or_pos (val W32 xs) with hz | hz
  · exact check_zero neg _ _ va vb w hA hB (by rw [ex]; omega) (by rw [ey]; omega) (by rw [ey]; exact hl0) h0 hz (by rw [ex]; exact hlx) (by rw [ey]; exact hly)
  · exact check_pos neg _ _ va vb w hA hB (by rw [ex]; omega) (by rw [ey]; omega) (by rw [ey]; exact hl0) h0 hz (by rw [ex]; exact hlx) (by rw [ey]; exact hly)
end Go.Proofs.YtdmhkhnnomdkcaaGreatDoor
/- number.made. Conditions: at most 50000 limbs. -/
namespace Go.Proofs.YtdmhkhnnomdkcaaGreatDoor
open Go.RowKit NumB
set_option linter.unusedVariables false
set_option linter.unusedSimpArgs false

theorem NumV.form {w : World} {v : Value} {neg : Bool} {x y : Nat} (h : NumV w v neg x y) : ∃ A n c A' m d, v = .agg #[.bool neg, .slice A n c, .slice A' m d] ∧ n = (digs W32 x).length ∧ m = (digs W32 y).length := by
  obtain ⟨va, vb, rfl, h1, h2⟩ := h
  obtain ⟨A, n, c, rfl, e1⟩ := h1.form
  obtain ⟨A', m, d, rfl, e2⟩ := h2.form
  exact ⟨A, n, c, A', m, d, rfl, e1, e2⟩
theorem NumV.parts {w : World} {va vb : Value} {s neg : Bool} {x y : Nat} (h : NumV w (.agg #[.bool s, va, vb]) neg x y) : s = neg ∧ Nat32 w va x ∧ Nat32 w vb y := by
  obtain ⟨va', vb', e, h1, h2⟩ := h
  simp only [Value.agg.injEq, Array.mk.injEq, List.cons.injEq, Value.bool.injEq, and_true] at e
  obtain ⟨rfl, rfl, rfl⟩ := e
  exact ⟨rfl, h1, h2⟩
theorem NumV.put3 {w : World} {v : Value} {neg s : Bool} {x y g : Nat} {t : TypeId} {A A' : Option Addr} {n m ca cb : Nat} (h : NumV w v neg x y) (hg : Blk w g t #[.bool s, .slice A n ca, .slice A' m cb]) (a b c : Value) : NumV (put3 w g a b c) v neg x y := by
  obtain ⟨va, vb, rfl, h1, h2⟩ := h
  exact ⟨va, vb, rfl, h1.put3 hg a b c, h2.put3 hg a b c⟩

set_option maxRecDepth 100000 in
set_option maxHeartbeats 3200000 in
theorem made_any (neg : Bool) (x y : Nat) (va vb : Value) (w : World) (ha : Nat32 w va x) (hb : Nat32 w vb y) (hy0 : 0 < y) (hx : (digs W32 x).length ≤ 50000) (hy : (digs W32 y).length ≤ 50000) :
    Calls Tryz.prog 36 #[.bool neg, va, vb] w (FitPost w (neg && decide (0 < x)) (x / Nat.gcd x y) (y / Nat.gcd x y)) := by
  have HNX : ∀ o : Obj, Hid (Nat32 (w.alloc o) va x) := fun o => ha.to (below_one w o)
  have HNY : ∀ o : Obj, Hid (Nat32 (w.alloc o) vb y) := fun o => hb.to (below_one w o)
  have HBK := Lib.hid (nilBlk w)
  have HX := Lib.hid (And.intro hy0 (And.intro hx hy))
  clear ha hb hy0 hx hy
  have HR := fun (W : World) (h1 : Nat32 W va x) (h2 : Nat32 W vb y) => Lib.hid (raw_any neg x y va vb W h1 h2 HX.out.1 HX.out.2.1 HX.out.2.2)
  generalize (neg && decide (0 < x)) = sg at *
  generalize x / Nat.gcd x y = x' at *
  generalize y / Nat.gcd x y = y' at *
  have HR := Lib.hid HR
  go_enter Tryz.func36, Tryz.ntmps36
  go_wp2_with fail
  refine ((HR.out _ (by exact (HNX _).out) (by exact (HNY _).out)).out).mono ?_
  rintro e w1 ⟨v1, rfl, hn1, hb1⟩
  have HN1 := Lib.hid hn1
  have HB1 := Lib.hid hb1
  clear hn1 hb1
  go_wp2_with fail
  refine (fits_any sg x' y' _ _ (by exact HN1.out)).mono ?_
  rintro e w2 (⟨hf, v2, rfl, hn2, hb2⟩ | ⟨hf, rfl, hb2⟩)
  · have hblk := (HBK.out.to HB1.out).to hb2
    have HBE : Hid (Below w.heap.size w w2) := ((below_one w _).trans (HB1.out.mono (below_one w _).size)).trans (hb2.mono (Nat.le_trans (below_one w _).size HB1.out.size))
    have HN2 := Lib.hid hn2
    have HF := Lib.hid hf
    have hc0 := hblk.cell 0
    have hc1 := hblk.cell 1
    have hc2 := hblk.cell 2
    have hf0 := hblk.frozen 0
    have hf1 := hblk.frozen 1
    have hf2 := hblk.frozen 2
    have HBLK := Lib.hid hblk
    clear hblk hn2 hb2 hf HB1
    simp only [List.getElem?_toArray, List.getElem?_cons_zero, List.getElem?_cons_succ] at hc0 hc1 hc2
    obtain ⟨A, n, c, A', m, d, rfl, hl1, hl2⟩ := HN2.out.form
    clear hl1 hl2
    go_wp2
    refine bodyPost_ret (v := .tuple #[.agg #[.bool sg, .slice A n c, .slice A' m d], .int .i64 0]) (by rw [results_cell_tmp rfl]; go_simp) rfl (.inl ⟨HF.out, _, rfl, ?_, ?_⟩)
    · exact HN2.out.put3 HBLK.out _ _ _
    · exact put3_below HBE.out (Nat.le_refl _) _ _ _
  · have hblk := (HBK.out.to HB1.out).to hb2
    have HBE : Hid (Below w.heap.size w w2) := ((below_one w _).trans (HB1.out.mono (below_one w _).size)).trans (hb2.mono (Nat.le_trans (below_one w _).size HB1.out.size))
    have HF := Lib.hid hf
    have hc0 := hblk.cell 0
    have hc1 := hblk.cell 1
    have hc2 := hblk.cell 2
    have hf0 := hblk.frozen 0
    have hf1 := hblk.frozen 1
    have hf2 := hblk.frozen 2
    clear hblk hb2 hf HB1
    simp only [List.getElem?_toArray, List.getElem?_cons_zero, List.getElem?_cons_succ] at hc0 hc1 hc2
    unfold zeroNum
    go_wp2
    refine bodyPost_ret (v := .tuple #[zeroNum, .int .i64 3]) (by rw [results_cell_tmp rfl]; go_simp; rfl) rfl (.inr ⟨HF.out, rfl, ?_⟩)
    exact put3_below HBE.out (Nat.le_refl _) _ _ _
end Go.Proofs.YtdmhkhnnomdkcaaGreatDoor

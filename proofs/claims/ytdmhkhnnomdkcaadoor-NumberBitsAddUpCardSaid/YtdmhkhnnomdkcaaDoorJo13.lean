/-  -/
import Derived.Test.YtdmhkhnnomdkcaaDoorJo2
import Derived.Test.YtdmhkhnnomdkcaaDoorJo5
import Derived.Test.YtdmhkhnnomdkcaaDoorJo8
import Derived.Test.YtdmhkhnnomdkcaaDoorJo9
import Derived.Test.YtdmhkhnnomdkcaaDoorJo10
import Derived.Test.YtdmhkhnnomdkcaaDoorJo11
import Derived.Test.YtdmhkhnnomdkcaaDoorJo12
set_option linter.unusedVariables false
set_option linter.unusedSimpArgs false
/- number.made. Conditions: at most 50000 limbs. -/
namespace Go.Proofs.YtdmhkhnnomdkcaaDoor
open Go.RowKit NumB
set_option linter.unusedVariables false
set_option linter.unusedSimpArgs false

theorem NumV.form {w : World} {v : Value} {neg : Bool} {x y : Nat} (h : NumV w v neg x y) : ∃ A n c A' m d, v = .agg #[.bool neg, .slice A n c, .slice A' m d] ∧ n = (digs W32 x).length ∧ m = (digs W32 y).length := by
  obtain ⟨va, vb, rfl, h1, h2⟩ := h
  obtain ⟨A, n, c, rfl, e1⟩ := h1.form
  obtain ⟨A', m, d, rfl, e2⟩ := h2.form
  exact ⟨A, n, c, A', m, d, rfl, e1, e2⟩
theorem NumV.parts {w : World} {va vb : Value} {s neg : Bool} {x y : Nat} (h : NumV w (.agg #[.bool s, va, vb]) neg x y) : s = neg ∧ Nat32 w va x ∧ Nat32 w vb y := by
  obtain ⟨va', vb', e, h1, h2⟩ := h
  simp only [Value.agg.injEq, Array.mk.injEq, List.cons.injEq, Value.bool.injEq, and_true] at e
  obtain ⟨rfl, rfl, rfl⟩ := e
  exact ⟨rfl, h1, h2⟩
theorem NumV.put3 {w : World} {v : Value} {neg s : Bool} {x y g : Nat} {t : TypeId} {A A' : Option Addr} {n m ca cb : Nat} (h : NumV w v neg x y) (hg : Blk w g t #[.bool s, .slice A n ca, .slice A' m cb]) (a b c : Value) : NumV (put3 w g a b c) v neg x y := by
  obtain ⟨va, vb, rfl, h1, h2⟩ := h
  exact ⟨va, vb, rfl, h1.put3 hg a b c, h2.put3 hg a b c⟩

set_option maxRecDepth 100000 in
set_option maxHeartbeats 3200000 in
theorem made_any (neg : Bool) (x y : Nat) (va vb : Value) (w : World) (ha : Nat32 w va x) (hb : Nat32 w vb y) (hy0 : 0 < y) (hx : (digs W32 x).length ≤ 50000) (hy : (digs W32 y).length ≤ 50000) :
    Calls Tryd.prog 23 #[.bool neg, va, vb] w (FitPost w (neg && decide (0 < x)) (x / Nat.gcd x y) (y / Nat.gcd x y)) := by
  have HNX : ∀ o : Obj, Hid (Nat32 (w.alloc o) va x) := fun o => ha.to (below_one w o)
  have HNY : ∀ o : Obj, Hid (Nat32 (w.alloc o) vb y) := fun o => hb.to (below_one w o)
  have HBK := Lib.hid (nilBlk w)
  have HX := Lib.hid (And.intro hy0 (And.intro hx hy))
  clear ha hb hy0 hx hy
  have HR := fun (W : World) (h1 : Nat32 W va x) (h2 : Nat32 W vb y) => Lib.hid (raw_any neg x y va vb W h1 h2 HX.out.1 HX.out.2.1 HX.out.2.2)
  generalize (neg && decide (0 < x)) = sg at *
  generalize x / Nat.gcd x y = x' at *
  generalize y / Nat.gcd x y = y' at *
  have HR := Lib.hid HR
  go_enter Tryd.func23, Tryd.ntmps23
  go_wp2_with fail
  refine ((HR.out _ (by exact (HNX _).out) (by exact (HNY _).out)).out).mono ?_
  rintro e w1 ⟨v1, rfl, hn1, hb1⟩
  have HN1 := Lib.hid hn1
  have HB1 := Lib.hid hb1
  clear hn1 hb1
  go_wp2_with fail
  refine (fits_any sg x' y' _ _ (by exact HN1.out)).mono ?_
  rintro e w2 (⟨hf, v2, rfl, hn2, hb2⟩ | ⟨hf, rfl, hb2⟩)
  · have hblk := (HBK.out.to HB1.out).to hb2
    have HBE : Hid (Below w.heap.size w w2) := ((below_one w _).trans (HB1.out.mono (below_one w _).size)).trans (hb2.mono (Nat.le_trans (below_one w _).size HB1.out.size))
    have HN2 := Lib.hid hn2
    have HF := Lib.hid hf
    have hc0 := hblk.cell 0
    have hc1 := hblk.cell 1
    have hc2 := hblk.cell 2
    have hf0 := hblk.frozen 0
    have hf1 := hblk.frozen 1
    have hf2 := hblk.frozen 2
    have HBLK := Lib.hid hblk
    clear hblk hn2 hb2 hf HB1
    simp only [List.getElem?_toArray, List.getElem?_cons_zero, List.getElem?_cons_succ] at hc0 hc1 hc2
    obtain ⟨A, n, c, A', m, d, rfl, hl1, hl2⟩ := HN2.out.form
    clear hl1 hl2
    go_wp2
    refine bodyPost_ret (v := .tuple #[.agg #[.bool sg, .slice A n c, .slice A' m d], .int .i64 0]) (by rw [results_cell_tmp rfl]; go_simp) rfl (.inl ⟨HF.out, _, rfl, ?_, ?_⟩)
    · exact HN2.out.put3 HBLK.out _ _ _
    · exact put3_below HBE.out (Nat.le_refl _) _ _ _
  · have hblk := (HBK.out.to HB1.out).to hb2
    have HBE : Hid (Below w.heap.size w w2) := ((below_one w _).trans (HB1.out.mono (below_one w _).size)).trans (hb2.mono (Nat.le_trans (below_one w _).size HB1.out.size))
    have HF := Lib.hid hf
    have hc0 := hblk.cell 0
    have hc1 := hblk.cell 1
    have hc2 := hblk.cell 2
    have hf0 := hblk.frozen 0
    have hf1 := hblk.frozen 1
    have hf2 := hblk.frozen 2
    clear hblk hb2 hf HB1
    simp only [List.getElem?_toArray, List.getElem?_cons_zero, List.getElem?_cons_succ] at hc0 hc1 hc2
    unfold zeroNum
    go_wp2
    refine bodyPost_ret (v := .tuple #[zeroNum, .int .i64 3]) (by rw [results_cell_tmp rfl]; go_simp; rfl) rfl (.inr ⟨HF.out, rfl, ?_⟩)
    exact put3_below HBE.out (Nat.le_refl _) _ _ _
end Go.Proofs.YtdmhkhnnomdkcaaDoor
/- number.check: the first error of a list of numbers. -/
namespace Go.Proofs.YtdmhkhnnomdkcaaDoor
open Go.RowKit NumB
set_option linter.unusedVariables false
set_option linter.unusedSimpArgs false

/-- The first of n answers from j on that is not 0. -/
def errsFrom (c : Nat → Int) : Nat → Nat → Int
  | _, 0 => 0
  | j, n + 1 => if c j = 0 then errsFrom c (j + 1) n else c j

/-- A row of k numbers in the block b from o on. -/
def Nums (w : World) (b o k : Nat) (ng : Nat → Bool) (xs ys : Nat → List Nat) : Prop :=
  b < w.heap.size ∧ ∀ i, i < k → ∃ va vb, w.cell? ⟨b, o + i * 3, none⟩ = some (.bool (ng i)) ∧ w.cell? ⟨b, o + i * 3 + 1, none⟩ = some va ∧ w.cell? ⟨b, o + i * 3 + 2, none⟩ = some vb ∧ Sl .u32 w va (xs i) ∧ Sl .u32 w vb (ys i) ∧ Ok W32 (xs i) ∧ Ok W32 (ys i)

set_option maxRecDepth 100000 in
set_option maxHeartbeats 3200000 in
theorem checks_any (b o k cap : Nat) (ng : Nat → Bool) (xs ys : Nat → List Nat) (w : World) (hk : k ≤ 1000) (hN : Nums w b o k ng xs ys) :
    Calls Tryd.prog 19 #[.slice (some ⟨b, o, none⟩) k cap] w fun e w' => e = .returned (.int .i64 (errsFrom (fun i => checkL (ng i) (xs i) (ys i)) 0 k)) ∧ Below w.heap.size w w' := by
  have HN := Lib.hid hN
  clear hN
  have HC : Hid (∀ (i : Nat) (va vb : Value) (W : World), Sl .u32 W va (xs i) → Sl .u32 W vb (ys i) → Ok W32 (xs i) → Ok W32 (ys i) → Calls Tryd.prog 32 #[.agg #[.bool (ng i), va, vb]] W fun e w' => e = .returned (.int .i64 (checkL (ng i) (xs i) (ys i))) ∧ Below W.heap.size W w') :=
    fun i va vb W h1 h2 h3 h4 => check_any (ng i) (xs i) (ys i) va vb W h1 h2 h3 h4
  generalize hc : (fun i => checkL (ng i) (xs i) (ys i)) = c
  have HC2 : Hid (∀ i, checkL (ng i) (xs i) (ys i) = c i) := fun i => by rw [← hc]
  clear hc
  have HD : Hid (∀ (i : Nat) (va vb : Value) (W : World), Sl .u32 W va (xs i) → Sl .u32 W vb (ys i) → Ok W32 (xs i) → Ok W32 (ys i) → Calls Tryd.prog 32 #[.agg #[.bool (ng i), va, vb]] W fun e w' => e = .returned (.int .i64 (c i)) ∧ Below W.heap.size W w') :=
    fun i va vb W h1 h2 h3 h4 => by rw [← HC2.out i]; exact HC.out i va vb W h1 h2 h3 h4
  clear HC HC2
  go_enter Tryd.func19, Tryd.ntmps19
  go_wp2
  go_loopg [8, 4, 5] k (fun gk si s4 s5 wr => ∃ j : Nat, gk + j = k ∧ si = .int .i64 (j : Int) ∧ Hid (errsFrom c j gk = errsFrom c 0 k) ∧ Hid (Below w.heap.size w wr))
  case atStart => exact ⟨0, by omega, rfl, rfl, Below.refl _ _⟩
  case round =>
    obtain ⟨j, hgj, rfl, HE, HB⟩ := hrel
    by_cases hj : j < k
    · obtain ⟨n, rfl⟩ : ∃ n, gk = n + 1 := ⟨gk - 1, by omega⟩
      obtain ⟨va, vb, h0, h1, h2, h3, h4, h5, h6⟩ := HN.out.2 j hj
      have hbl := HN.out.1
      have hc0 : wr.cell? ⟨b, o + j * 3, none⟩ = some (.bool (ng j)) := (HB.out.cell (p := ⟨b, _, none⟩) hbl).trans h0
      have hc1 : wr.cell? ⟨b, o + j * 3 + 1, none⟩ = some va := (HB.out.cell (p := ⟨b, _, none⟩) hbl).trans h1
      have hc2 : wr.cell? ⟨b, o + j * 3 + 2, none⟩ = some vb := (HB.out.cell (p := ⟨b, _, none⟩) hbl).trans h2
      obtain ⟨A, ca, hva, r1⟩ := id h3
      obtain ⟨A', cb, hvb, r2⟩ := id h4
      have HS1 := Lib.hid (h3.to HB.out)
      have HS2 := Lib.hid (h4.to HB.out)
      have HOK := Lib.hid (And.intro h5 h6)
      subst hva hvb
      clear h0 h1 h2 h3 h4 h5 h6 r1 r2
      generalize (xs j).length = n1 at *
      generalize (ys j).length = n2 at *
      by_cases hz : c j = 0
      · have hz1 : (c j != 0) = false := by rw [hz]; rfl
        have HZ := Lib.hid hz
        clear hz
        go_wp2_with (go_at_call 32; go_must (refine (HD.out j _ _ _ (by exact HS1.out.to (below_one _ _)) (by exact HS2.out.to (below_one _ _)) HOK.out.1 HOK.out.2).mono ?_); rintro e w1 ⟨rfl, hb1⟩)
        go_roundg n
        case measure => omega
        case rel => exact ⟨j + 1, by omega, by go_num, by unfold Hid; rw [← HE.out, errsFrom, if_pos HZ.out], (HB.out.alloc HB.out.size _).trans (hb1.mono (Nat.le_trans HB.out.size (below_one _ _).size))⟩
      · have hz1 : (c j != 0) = true := by rw [bne_iff_ne]; exact hz
        have HZ := Lib.hid hz
        clear hz
        go_wp2_with (go_at_call 32; go_must (refine (HD.out j _ _ _ (by exact HS1.out.to (below_one _ _)) (by exact HS2.out.to (below_one _ _)) HOK.out.1 HOK.out.2).mono ?_); rintro e w1 ⟨rfl, hb1⟩)
        go_ret
        exact ⟨by rw [← HE.out, errsFrom, if_neg HZ.out]; rfl, (HB.out.alloc HB.out.size _).trans (hb1.mono (Nat.le_trans HB.out.size (below_one _ _).size))⟩
    · obtain rfl : j = k := by omega
      obtain rfl : gk = 0 := by omega
      clear hgj hj
      go_wp2
      go_ret
      exact ⟨by rw [← HE.out]; rfl, HB.out⟩

/-- Two numbers, one after the other. -/
theorem checks_two (b cap : Nat) (na nb : Bool) (xa ya xb yb : List Nat) (A1 A2 A3 A4 : Value) (w : World) (t : TypeId) (hg : Blk w b t #[.bool na, A1, A2, .bool nb, A3, A4])
    (h1 : Sl .u32 w A1 xa) (h2 : Sl .u32 w A2 ya) (h3 : Sl .u32 w A3 xb) (h4 : Sl .u32 w A4 yb) (o1 : Ok W32 xa) (o2 : Ok W32 ya) (o3 : Ok W32 xb) (o4 : Ok W32 yb) :
    Calls Tryd.prog 19 #[.slice (some ⟨b, 0, none⟩) 2 cap] w fun e w' => e = .returned (.int .i64 (if checkL na xa ya = 0 then checkL nb xb yb else checkL na xa ya)) ∧ Below w.heap.size w w' := by
  have hN : Nums w b 0 2 (fun i => if i = 0 then na else nb) (fun i => if i = 0 then xa else xb) (fun i => if i = 0 then ya else yb) := by
    refine ⟨hg.lt, fun i hi => ?_⟩
    rcases i with _ | _ | i
    · exact ⟨A1, A2, hg.cell 0, hg.cell 1, hg.cell 2, h1, h2, o1, o2⟩
    · exact ⟨A3, A4, hg.cell 3, hg.cell 4, hg.cell 5, h3, h4, o3, o4⟩
    · omega
  refine (checks_any b 0 2 cap _ _ _ w (by omega) hN).mono fun e w' ⟨he, hb⟩ => ⟨he.trans ?_, hb⟩
  have e : errsFrom (fun i => checkL (if i = 0 then na else nb) (if i = 0 then xa else xb) (if i = 0 then ya else yb)) 0 2 = if checkL na xa ya = 0 then checkL nb xb yb else checkL na xa ya := by
    show (if checkL na xa ya = 0 then (if checkL nb xb yb = 0 then 0 else checkL nb xb yb) else checkL na xa ya) = _
    split
    · split <;> simp_all
    · rfl
  rw [e]
/-- One number. -/
theorem checks_one (b cap : Nat) (na : Bool) (xa ya : List Nat) (A1 A2 : Value) (w : World) (t : TypeId) (hg : Blk w b t #[.bool na, A1, A2])
    (h1 : Sl .u32 w A1 xa) (h2 : Sl .u32 w A2 ya) (o1 : Ok W32 xa) (o2 : Ok W32 ya) :
    Calls Tryd.prog 19 #[.slice (some ⟨b, 0, none⟩) 1 cap] w fun e w' => e = .returned (.int .i64 (checkL na xa ya)) ∧ Below w.heap.size w w' := by
  have hN : Nums w b 0 1 (fun i => na) (fun i => xa) (fun i => ya) := by
    refine ⟨hg.lt, fun i hi => ?_⟩
    obtain rfl : i = 0 := by omega
    exact ⟨A1, A2, hg.cell 0, hg.cell 1, hg.cell 2, h1, h2, o1, o2⟩
  refine (checks_any b 0 1 cap _ _ _ w (by omega) hN).mono fun e w' ⟨he, hb⟩ => ⟨he.trans ?_, hb⟩
  have e : errsFrom (fun i => checkL na xa ya) 0 1 = checkL na xa ya := by
    show (if checkL na xa ya = 0 then 0 else checkL na xa ya) = _
    split <;> simp_all
  rw [e]
end Go.Proofs.YtdmhkhnnomdkcaaDoor
/- number.sum. Conditions: at most 50000 limbs. -/
namespace Go.Proofs.YtdmhkhnnomdkcaaDoor
open Go.RowKit NumB
set_option linter.unusedVariables false
set_option linter.unusedSimpArgs false

theorem digs_len_mul (x y : Nat) : (digs W32 (x * y)).length ≤ (digs W32 x).length + (digs W32 y).length := by
  refine digs_len_le W32_gt ?_
  rw [Nat.pow_add]
  exact Nat.mul_lt_mul'' (digs_lt W32_gt) (digs_lt W32_gt)
theorem digs_len_add {x y n : Nat} (hx : (digs W32 x).length ≤ n) (hy : (digs W32 y).length ≤ n) : (digs W32 (x + y)).length ≤ n + 1 := by
  refine digs_len_le W32_gt ?_
  have h1 := Nat.lt_of_lt_of_le (digs_lt (n := x) W32_gt) (Nat.pow_le_pow_right (n := W32) (by decide) hx)
  have h2 := Nat.lt_of_lt_of_le (digs_lt (n := y) W32_gt) (Nat.pow_le_pow_right (n := W32) (by decide) hy)
  rw [Nat.pow_succ]
  have h3 : W32 ^ n * 2 ≤ W32 ^ n * W32 := Nat.mul_le_mul_left _ (by decide)
  omega
theorem digs_len_sub {x y n : Nat} (hx : (digs W32 x).length ≤ n) : (digs W32 (x - y)).length ≤ n := Nat.le_trans (digs_len_mono W32_gt (Nat.sub_le _ _)) hx

/-- The sum of two naturals with signs. -/
def sumN (na : Bool) (x : Nat) (nb : Bool) (y : Nat) : Bool × Nat := if na = nb then (na, x + y) else if y ≤ x then (na, x - y) else (nb, y - x)
theorem sumN_len {na nb : Bool} {x y n : Nat} (hx : (digs W32 x).length ≤ n) (hy : (digs W32 y).length ≤ n) : (digs W32 (sumN na x nb y).2).length ≤ n + 1 := by
  unfold sumN
  split
  · exact digs_len_add hx hy
  · split
    · exact Nat.le_trans (digs_len_sub hx) (by omega)
    · exact Nat.le_trans (digs_len_sub hy) (by omega)

def SumPost (w : World) (r : Bool × Nat) (e : Ending) (w' : World) : Prop := ∃ v, e = .returned (.tuple #[.bool r.1, v]) ∧ Nat32 w' v r.2 ∧ Below w.heap.size w w'

theorem nats_two {w : World} {A B : Value} {x y : Nat} (ha : Nat32 w A x) (hb : Nat32 w B y) (t : TypeId) : Nats (w.alloc (.cells #[A, B] t)) w.heap.size 0 [x, y] := by
  refine ⟨by simp, fun i hi => ?_⟩
  have hk := Blk.new w t #[A, B]
  rcases i with _ | _ | i
  · exact ⟨A, hk.cell 0, ha.to (below_one _ _)⟩
  · exact ⟨B, hk.cell 1, hb.to (below_one _ _)⟩
  · simp at hi; omega
theorem nats_two' {w : World} {A B : Value} {x y g : Nat} (hg : w.heap.size = g) (ha : Nat32 w A x) (hb : Nat32 w B y) (t : TypeId) : Nats (w.alloc (.cells #[A, B] t)) g 0 [x, y] := by subst hg; exact nats_two ha hb t

set_option maxRecDepth 100000 in
set_option maxHeartbeats 3200000 in
theorem sum_any (na nb : Bool) (x y : Nat) (va vb : Value) (w : World) (ha : Nat32 w va x) (hb : Nat32 w vb y) (hx : (digs W32 x).length ≤ 50000) (hy : (digs W32 y).length ≤ 50000) :
    Calls Tryd.prog 34 #[.bool na, va, .bool nb, vb] w (SumPost w (sumN na x nb y)) := by
  have HA := Lib.hid ha
  have HB := Lib.hid hb
  obtain ⟨A, n, c, rfl, hn⟩ := ha.form
  obtain ⟨A', m, d, rfl, hm⟩ := hb.form
  have HX := Lib.hid (And.intro hx hy)
  clear ha hb hn hm hx hy
  by_cases hs : na = nb
  · have E : Hid (sumN na x nb y = (na, x + y)) := by unfold Hid sumN; rw [if_pos hs]
    have HS : Hid ((digs W32 [x, y].sum).length ≤ 100000) := Nat.le_trans (by simpa using digs_len_add HX.out.1 HX.out.2) (by omega)
    subst hs
    have hbe : (na == na) = true := by simp
    go_enter Tryd.func34, Tryd.ntmps34
    go_wp2_with fail
    refine (add_any [x, y] _ 0 2 2 _ rfl (by exact nats_two HA.out HB.out _) HS.out (by omega)).mono ?_
    rintro e w1 ⟨v1, rfl, hn1, hb1⟩
    go_wp2
    go_ret2
    rw [E.out]
    exact ⟨_, rfl, by simpa using hn1, (below_one w _).trans (hb1.mono (below_one w _).size)⟩
  · have hbe : (na == nb) = false := beq_eq_false_iff_ne.2 hs
    by_cases hle : y ≤ x
    · have E : Hid (sumN na x nb y = (na, x - y)) := by unfold Hid sumN; rw [if_neg hs, if_pos hle]
      have HLE := Lib.hid hle
      have hc : 0 ≤ cmpI x y := cmpI_nonneg.2 hle
      generalize hcc : cmpI x y = z at *
      have HC := Lib.hid hcc
      have hbd := cmpI_bd x y
      rw [hcc] at hbd
      clear hcc hs hle
      go_enter Tryd.func34, Tryd.ntmps34
      go_wp2_with fail
      refine (compare_any x y _ _ _ HA.out HB.out).mono ?_
      rintro e w1 ⟨rfl, k1, rfl⟩
      rw [HC.out]
      go_wp2_with fail
      refine (sub_any x y _ _ _ (by exact HA.out) (by exact HB.out) (Nat.le_trans HX.out.1 (by omega)) HLE.out).mono ?_
      rintro e w1 ⟨v1, rfl, hn1, hb1⟩
      go_wp2
      go_ret2
      rw [E.out]
      exact ⟨_, rfl, hn1, below_undrewN hb1⟩
    · have E : Hid (sumN na x nb y = (nb, y - x)) := by unfold Hid sumN; rw [if_neg hs, if_neg hle]
      have HLE : Hid (x ≤ y) := by unfold Hid; omega
      have hc : cmpI x y < 0 := cmpI_neg.2 (by omega)
      generalize hcc : cmpI x y = z at *
      have HC := Lib.hid hcc
      have hbd := cmpI_bd x y
      rw [hcc] at hbd
      clear hcc hs hle
      go_enter Tryd.func34, Tryd.ntmps34
      go_wp2_with fail
      refine (compare_any x y _ _ _ HA.out HB.out).mono ?_
      rintro e w1 ⟨rfl, k1, rfl⟩
      rw [HC.out]
      go_wp2_with fail
      refine (sub_any y x _ _ _ (by exact HB.out) (by exact HA.out) (Nat.le_trans HX.out.2 (by omega)) HLE.out).mono ?_
      rintro e w1 ⟨v1, rfl, hn1, hb1⟩
      go_wp2
      go_ret2
      rw [E.out]
      exact ⟨_, rfl, hn1, below_undrewN hb1⟩
end Go.Proofs.YtdmhkhnnomdkcaaDoor
/- append of some numbers to a slice of the call's own, as a law for the walk. Conditions: at most a million numbers. -/
namespace Go.Proofs.YtdmhkhnnomdkcaaDoor
open Go.RowKit NumB
set_option linter.unusedVariables false
set_option linter.unusedSimpArgs false

theorem news_block {w : World} {k : IntKind} {T : TypeId} {ys : List Nat} : ∀ j u, (cellsN k ys)[j]? = some u → (w.alloc (.cells (cellsN k ys).toArray T)).cell? ((⟨w.heap.size, 0, none⟩ : Addr).add j) = some u := by
  intro j u hu
  have : (⟨w.heap.size, 0, none⟩ : Addr).add j = ⟨w.heap.size, j, none⟩ := by unfold Addr.add; split <;> simp_all
  rw [this, cell_of_row _ w.heap.size j (cellsN k ys).toArray T (0, 0) (heap_alloc_new w _)]
  simpa using hu

theorem wpList_push {P : Program} {ops : Array Oper} {rest : List Oper} {o : Oper} {a : Act} {Q : Exit → Act → World → Prop} (w : World) (hgd : o.guard = none) (s x : Operand) (t : TypeId)
    (ho : o.op = .call { callee := .builtin .append, args := #[s, x], argTypes := #[t, t] })
    (k : IntKind) (T : TypeId) (bytes : Nat) (ht : P.underlying t = some (.slice T)) (hinfo : (P.info? T).map (fun i => (i.zero, i.size, i.bytes)) = some (some (.int k 0), 1, bytes)) (hb8 : bytes ≤ 8)
    (B : Nat) (v : Value) (xs ys : List Nat) (hs : a.eval s = v) (hx : a.eval x = .slice (some ⟨w.heap.size, 0, none⟩) ys.length ys.length) (hown : OwnV k T w B v xs) (hn : xs.length + ys.length ≤ 1000000) (hB : B ≤ w.heap.size) (C : Array Value) (hC : C = (cellsN k ys).toArray)
    (h : ∀ v' w', OwnV k T w' B v' (xs ++ ys) → Below B w w' → wpList P ops Q rest (a.put o.dst v') w') : wpList P ops Q (o :: rest) a (w.alloc (.cells C T)) := by
  subst hC
  obtain ⟨i0, hi0, hz0, hz1, hz2⟩ := info_parts hinfo
  refine wpList_append_own_at _ hgd s x t ho B T i0 (.int k 0) 1 bytes ht hi0 hz0 hz1 hz2 rfl (by decide) v xs.length (cellsN k xs) hs (hown.alloc _) ⟨w.heap.size, 0, none⟩ ys.length ys.length (cellsN k ys) hx (by rw [cellsN_len]; omega) news_block cellsN_one (by unfold maxLen; omega) ?_ (by simp; omega) ?_
  · have : (xs.length + ys.length) * bytes ≤ 1000000 * 8 := Nat.mul_le_mul hn hb8
    omega
  · intro v' w' h1 h2 _ _
    refine h v' w' ?_ (((Below.refl B w).alloc hB _).grown h2 (by simp; omega) (fun g hg => hown.blk g hg))
    unfold OwnV
    rw [List.length_append, ← cellsN_append]
    exact h1

end Go.Proofs.YtdmhkhnnomdkcaaDoor
/- fetterlockref1: trim, digit, bit, natOf. Conditions: at most 100000 digits. -/
namespace Go.Proofs.YtdmhkhnnomdkcaaDoor
open Go.RowKit NumB
set_option linter.unusedVariables false
set_option linter.unusedSimpArgs false

theorem rtrim_end {xs : List Nat} {g : Nat} (ho : Ok W16 xs) (hg : g ≤ xs.length) (hv : val W16 (xs.take g) = val W16 xs) (hl : g = 0 ∨ xs.getD (g - 1) 0 ≠ 0) : xs.take g = digs W16 (val W16 xs) := by
  refine (digs_eq W16_gt (ho.take g) (NumB.top_of_last ?_) hv).symm
  have hlen : (xs.take g).length = g := by rw [List.length_take]; omega
  rcases hl with rfl | hl
  · left; rfl
  · rcases Nat.eq_zero_or_pos g with rfl | h0
    · left; rfl
    · right
      rw [hlen, List.getD_eq_getElem?_getD, List.getElem?_take, if_pos (by omega), ← List.getD_eq_getElem?_getD]
      exact hl

theorem and_one_i64 (y : Nat) (hy : y < 9223372036854775808) : bits .and .i64 (y : Int) 1 = ((y % 2 : Nat) : Int) := by
  have hx : y &&& 1 < 2 ^ 63 := Nat.and_lt_two_pow _ (by omega)
  show IntKind.i64.wrap ((BitVec.ofInt 64 (y : Int) &&& BitVec.ofInt 64 1).toNat : Int) = _
  have e : (BitVec.ofInt 64 (y : Int)).toNat = y := by
    rw [BitVec.ofInt_natCast, BitVec.toNat_ofNat]; exact Nat.mod_eq_of_lt (by omega)
  rw [BitVec.toNat_and, e, show (BitVec.ofInt 64 1).toNat = 1 from rfl, Nat.and_one_is_mod, IntKind.wrap_i64]
  omega

/-- The bit of a number in base 2^16 digits. -/
theorem bit_val (x i : Nat) : (digs W16 x).getD (i / 16) 0 / 2 ^ (i % 16) % 2 = x / 2 ^ i % 2 := by
  have h1 := val_split W16 (digs W16 x) (i / 16)
  have h2 := val_drop_step W16 (digs W16 x) (i / 16)
  rw [val_digs W16_gt, h2] at h1
  have hd : (digs W16 x).getD (i / 16) 0 = x / W16 ^ (i / 16) % W16 := by
    rcases Nat.lt_or_ge (i / 16) (digs W16 x).length with hl | hl
    · have h3 := val_take_lt (ok_digs W16_gt x) (j := i / 16) (by omega)
      have e : x / W16 ^ (i / 16) = (digs W16 x).getD (i / 16) 0 + W16 * val W16 ((digs W16 x).drop (i / 16 + 1)) := by
        have this : x / W16 ^ (i / 16) = (val W16 ((digs W16 x).take (i / 16)) + W16 ^ (i / 16) * ((digs W16 x).getD (i / 16) 0 + W16 * val W16 ((digs W16 x).drop (i / 16 + 1)))) / W16 ^ (i / 16) := congrArg (fun z => z / W16 ^ (i / 16)) h1
        rw [this, Nat.add_mul_div_left _ _ (Nat.pow_pos (by decide)), Nat.div_eq_of_lt h3, Nat.zero_add]
      rw [e, Nat.add_mul_mod_self_left, Nat.mod_eq_of_lt ((ok_digs W16_gt x).getD (by decide) _)]
    · rw [getD_ge hl]
      have h4 : x < W16 ^ (i / 16) := Nat.lt_of_lt_of_le (digs_lt W16_gt) (Nat.pow_le_pow_right (by decide) hl)
      rw [Nat.div_eq_of_lt h4]; rfl
  have e : x / 2 ^ i = x / W16 ^ (i / 16) / 2 ^ (i % 16) := by
    rw [Nat.div_div_eq_div_mul]
    congr 1
    rw [show W16 = 2 ^ 16 from rfl, ← Nat.pow_mul, ← Nat.pow_add]
    congr 1
    omega
  rw [hd, e]
  generalize x / W16 ^ (i / 16) = z
  have hm : i % 16 < 16 := Nat.mod_lt _ (by omega)
  generalize i % 16 = k at hm
  have e2 : W16 = 2 ^ k * (2 * 2 ^ (15 - k)) := by
    rw [← Nat.mul_assoc, Nat.mul_comm (2 ^ k) 2, ← Nat.pow_succ', ← Nat.pow_add, show k + 1 + (15 - k) = 16 from by omega]; rfl
  rw [e2, Nat.mod_mul_right_div_self, Nat.mod_mul_right_mod]

theorem info_i64 : (Tryd.prog.info? 3).map (fun i => (i.zero, i.size, i.bytes)) = some (some (.int .i64 0), 1, 8) := by kernel_rfl

theorem and_low16 (x : Nat) (hx : x < 4294967296) : bits .and .u32 (x : Int) 65535 = ((x % 65536 : Nat) : Int) := by
  have h := u32_and (x : Int) 65535 (by omega) (by omega) (by omega) (by omega)
  rw [Int.toNat_natCast, show (65535 : Int).toNat = 2 ^ 16 - 1 from rfl, Nat.and_two_pow_sub_one_eq_mod] at h
  exact h
theorem val_two16 (out : List Nat) (j lo hi x V : Nat) (hl : out.length = 2 * j) (hv : val W16 out = V) (hx : x = lo + 65536 * hi) : val W16 (out ++ [lo, hi]) = V + W32 ^ j * x := by
  rw [val_append, hv, hl, show W32 = W16 ^ 2 from rfl, Nat.pow_mul, hx]
  simp [W16]

/-- A post: one slice of base 2^16 digits that reads as a natural number. -/
def RPost (w : World) (x : Nat) (e : Ending) (w' : World) : Prop := ∃ v, e = .returned v ∧ Nat16 w' v x ∧ Below w.heap.size w w'

end Go.Proofs.YtdmhkhnnomdkcaaDoor

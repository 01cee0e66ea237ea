/-  -/
import Derived.Deep.RegionHeld3
import Derived.Test.YtdmhkhnnomdkcaaDoorJo10
import Derived.Test.YtdmhkhnnomdkcaaDoorJo13
import Derived.Test.YtdmhkhnnomdkcaaDoorJo15
import Derived.Test.YtdmhkhnnomdkcaaDoorJo21
import Derived.Test.YtdmhkhnnomdkcaaDoorJo22
set_option linter.unusedVariables false
set_option linter.unusedSimpArgs false
/- number.integers, at two numbers; number.whole. -/
namespace Go.Proofs.YtdmhkhnnomdkcaaDoor
open Go.RowKit NumB
set_option linter.unusedVariables false
set_option linter.unusedSimpArgs false

/-- What integers answers at two numbers. -/
def intErr2 (a b : LN) : Int := if err2 a.err b.err = 0 then (if a.y = 1 ∧ b.y = 1 then 0 else 7) else err2 a.err b.err
theorem intErr2_bd (a b : LN) : 0 ≤ intErr2 a b ∧ intErr2 a b ≤ 7 := by
  have h : 0 ≤ err2 a.err b.err ∧ err2 a.err b.err ≤ 3 := err2_bd (checkL_bd _ _ _) (checkL_bd _ _ _)
  unfold intErr2
  split
  · split <;> omega
  · omega

set_option maxRecDepth 100000 in
set_option maxHeartbeats 3200000 in
theorem integers_two (a a' : LN) (b cap : Nat) (A1 A2 A3 A4 : Value) (w : World) (t : TypeId) (hg : Blk w b t #[.bool a.neg, A1, A2, .bool a'.neg, A3, A4]) (h : GV w (.agg #[.bool a.neg, A1, A2]) a) (h' : GV w (.agg #[.bool a'.neg, A3, A4]) a') :
    Calls Tryd.prog 12 #[.slice (some ⟨b, 0, none⟩) 2 cap] w fun e w' => e = .returned (.int .i64 (intErr2 a a')) ∧ Below w.heap.size w w' := by
  obtain ⟨_, g1, g2, gok⟩ := h.parts
  obtain ⟨_, g3, g4, gok'⟩ := h'.parts
  have HC : Hid (Calls Tryd.prog 19 #[.slice (some ⟨b, 0, none⟩) 2 cap] w fun e w' => e = .returned (.int .i64 (err2 a.err a'.err)) ∧ Below w.heap.size w w') := checks_two b cap a.neg a'.neg a.num a.den a'.num a'.den A1 A2 A3 A4 w t hg g1 g2 g3 g4 gok.1 gok.2 gok'.1 gok'.2
  have HBK := Lib.hid hg
  have hbd : 0 ≤ err2 a.err a'.err ∧ err2 a.err a'.err ≤ 3 := err2_bd (checkL_bd _ _ _) (checkL_bd _ _ _)
  obtain ⟨B1, n1, d1, B2, n2, d2, he, hq1, hq2⟩ := h.form
  clear hq1 hq2
  simp only [Value.agg.injEq, Array.mk.injEq, List.cons.injEq, and_true, true_and] at he
  obtain ⟨rfl, rfl⟩ := he
  obtain ⟨B3, n3, d3, B4, n4, d4, he, hq1, hq2⟩ := h'.form
  clear hq1 hq2
  simp only [Value.agg.injEq, Array.mk.injEq, List.cons.injEq, and_true, true_and] at he
  obtain ⟨rfl, rfl⟩ := he
  by_cases e0 : err2 a.err a'.err = 0
  · have HY : Hid (Nat32 w (.slice B2 n2 d2) a.y ∧ Nat32 w (.slice B4 n4 d4) a'.y) := by
      have h2 := (LN.good gok (err2_zero.1 e0).1).2.1
      have h4 := (LN.good gok' (err2_zero.1 e0).2).2.1
      refine ⟨?_, ?_⟩
      · unfold Nat32; rw [h2]; exact g2
      · unfold Nat32; rw [h4]; exact g4
    have HI : Hid (intErr2 a a' = if a.y = 1 ∧ a'.y = 1 then 0 else 7) := by unfold Hid intErr2; rw [if_pos e0]
    rw [e0] at HC
    generalize intErr2 a a' = r at *
    generalize a.y = y at *
    generalize a'.y = y' at *
    generalize a.neg = ng at *
    generalize a'.neg = ng' at *
    clear h h' g1 g2 g3 g4 gok gok' hg hbd e0
    go_enter Tryd.func12, Tryd.ntmps12
    go_wp2_with fail
    refine HC.out.mono ?_
    rintro e w1 ⟨rfl, hb1⟩
    have HB1 := Lib.hid hb1
    clear hb1
    go_wp2_with fail
    go_loopg [13, 5] 2 (fun gk s13 s5 wr => ∃ j : Nat, gk + j = 2 ∧ s13 = .int .i64 (j : Int) ∧ Hid ((0 < j → y = 1) ∧ (1 < j → y' = 1)) ∧ Hid (Below w.heap.size w wr))
    case atStart => exact ⟨0, by omega, rfl, ⟨by omega, by omega⟩, HB1.out⟩
    case round =>
      obtain ⟨j, hgj, rfl, HE, HB⟩ := hrel
      have hk := HBK.out.to HB.out
      have c0 := hk.cell 0
      have c1 := hk.cell 1
      have c2 := hk.cell 2
      have c3 := hk.cell 3
      have c4 := hk.cell 4
      have c5 := hk.cell 5
      simp only [List.getElem?_toArray, List.getElem?_cons_zero, List.getElem?_cons_succ] at c0 c1 c2 c3 c4 c5
      clear hk
      by_cases hj : j = 0
      · subst hj
        obtain rfl : gk = 2 := by omega
        clear hgj c3 c4 c5
        by_cases hy : y = 1
        · have HO := Lib.hid (oneB_true hy)
          have HY1 := Lib.hid hy
          clear hy
          go_wp2_with fail
          refine (isOne_any y _ _ (by exact (HY.out.1.to HB.out).to (below_one _ _))).mono ?_
          rintro e w3 ⟨he, rfl⟩
          rw [HO.out] at he
          subst he
          go_wp2_with fail
          go_roundg 1
          case measure => omega
          case rel => exact ⟨1, by omega, by go_num, ⟨fun _ => HY1.out, fun h => absurd h (by omega)⟩, HB.out.alloc HB.out.size _⟩
        · have HO := Lib.hid (oneB_false hy)
          have HY1 := Lib.hid hy
          clear hy
          go_wp2_with fail
          refine (isOne_any y _ _ (by exact (HY.out.1.to HB.out).to (below_one _ _))).mono ?_
          rintro e w3 ⟨he, rfl⟩
          rw [HO.out] at he
          subst he
          go_wp2_with fail
          go_ret
          rw [HI.out, if_neg (fun h => HY1.out h.1)]
          exact ⟨rfl, HB.out.alloc HB.out.size _⟩
      · by_cases hj1 : j = 1
        · subst hj1
          obtain rfl : gk = 1 := by omega
          clear hgj c0 c1 c2 hj
          by_cases hy : y' = 1
          · have HO := Lib.hid (oneB_true hy)
            have HY1 := Lib.hid hy
            clear hy
            go_wp2_with fail
            refine (isOne_any y' _ _ (by exact (HY.out.2.to HB.out).to (below_one _ _))).mono ?_
            rintro e w3 ⟨he, rfl⟩
            rw [HO.out] at he
            subst he
            go_wp2_with fail
            go_roundg 0
            case measure => omega
            case rel => exact ⟨2, by omega, by go_num, ⟨fun _ => HE.out.1 (by omega), fun _ => HY1.out⟩, HB.out.alloc HB.out.size _⟩
          · have HO := Lib.hid (oneB_false hy)
            have HY1 := Lib.hid hy
            clear hy
            go_wp2_with fail
            refine (isOne_any y' _ _ (by exact (HY.out.2.to HB.out).to (below_one _ _))).mono ?_
            rintro e w3 ⟨he, rfl⟩
            rw [HO.out] at he
            subst he
            go_wp2_with fail
            go_ret
            rw [HI.out, if_neg (fun h => HY1.out h.2)]
            exact ⟨rfl, HB.out.alloc HB.out.size _⟩
        · obtain rfl : j = 2 := by omega
          obtain rfl : gk = 0 := by omega
          have HY1 : Hid (y = 1 ∧ y' = 1) := ⟨HE.out.1 (by omega), HE.out.2 (by omega)⟩
          clear hgj hj hj1 c0 c1 c2 c3 c4 c5
          go_wp2_with fail
          go_ret
          rw [HI.out, if_pos HY1.out]
          exact ⟨rfl, HB.out⟩
  · have b0 : (err2 a.err a'.err != 0) = true := by rw [bne_iff_ne]; exact e0
    have HI : Hid (intErr2 a a' = err2 a.err a'.err) := by unfold Hid intErr2; rw [if_neg e0]
    generalize intErr2 a a' = r at *
    generalize err2 a.err a'.err = z at *
    clear h h' g1 g2 g3 g4 gok gok' hg e0
    go_enter Tryd.func12, Tryd.ntmps12
    go_wp2_with fail
    refine HC.out.mono ?_
    rintro e w1 ⟨rfl, hb1⟩
    have HB1 := Lib.hid hb1
    clear hb1
    go_wp2_with fail
    go_ret
    rw [HI.out]
    exact ⟨rfl, HB1.out⟩

set_option maxRecDepth 100000 in
set_option maxHeartbeats 3200000 in
theorem whole_S (neg : Bool) (x : Nat) (va : Value) (w : World) (ha : Nat32 w va x) (hx : (digs W32 x).length ≤ 50000) :
    Calls Tryd.prog 14 #[.bool neg, va] w (SPost w (fracS 0 neg x 1)) := by
  have HN := Lib.hid ha
  have HBK := Lib.hid (nilBlk w)
  have HM : Hid (∀ (W : World) (va vb : Value), Nat32 W va x → Nat32 W vb 1 → Calls Tryd.prog 23 #[.bool neg, va, vb] W (SPost W (fracS 0 neg x 1))) := fun W va vb h1 h2 => (made_any neg x 1 va vb W h1 h2 (by omega) hx (by rw [digs_one32]; decide)).mono fun _ _ h => FitPost.toS h
  generalize fracS 0 neg x 1 = r at *
  clear ha hx
  go_enter Tryd.func14, Tryd.ntmps14
  go_wp2_with fail
  refine (HM.out _ _ _ (by exact HN.out.to (below_two w _ _)) (by exact one32' _ _ (by simp))).mono ?_
  rintro e w1 ⟨v, rfl, hg, hb⟩
  have KC := Lib.hid ((HBK.out.alloc (.cells #[.int .u32 1] 35)).to hb)
  have HBE : Hid (Below w.heap.size w w1) := (below_two w _ _).trans (hb.mono (below_two w _ _).size)
  have HG := Lib.hid hg
  obtain ⟨C1, q1, r1, C2, q2, r2, rfl, hq1, hq2⟩ := hg.form
  have cc0 := KC.out.cell 0
  have cc1 := KC.out.cell 1
  have cc2 := KC.out.cell 2
  simp only [List.getElem?_toArray, List.getElem?_cons_zero, List.getElem?_cons_succ] at cc0 cc1 cc2
  have fc0 := KC.out.frozen 0
  have fc1 := KC.out.frozen 1
  have fc2 := KC.out.frozen 2
  clear hb hg hq1 hq2
  go_wp2_with fail
  refine bodyPost_ret (v := .tuple #[.agg #[.bool r.1.neg, .slice C1 q1 r1, .slice C2 q2 r2], .int .i64 r.2]) (by rw [results_cell_tmp rfl]; go_simp) rfl ?_
  exact ⟨_, rfl, HG.out.put3 KC.out _ _ _, put3_below HBE.out (Nat.le_refl _) _ _ _⟩
end Go.Proofs.YtdmhkhnnomdkcaaDoor
/- fetterlockref1.LenNat. Conditions: at most 1000000 digits. -/
namespace Go.Proofs.YtdmhkhnnomdkcaaDoor
open Go.RowKit NumB
set_option linter.unusedVariables false
set_option linter.unusedSimpArgs false

end Go.Proofs.YtdmhkhnnomdkcaaDoor
/- fetterlockref1.AddNat. Conditions: at most 100000 digits. -/
namespace Go.Proofs.YtdmhkhnnomdkcaaDoor
open Go.RowKit NumB
set_option linter.unusedVariables false
set_option linter.unusedSimpArgs false

theorem radd_step {xs ys out : List Nat} {j ca p q s : Nat} (hl : out.length = j) (hp : xs.getD j 0 = p) (hq : ys.getD j 0 = q) (hs : s = p + q + ca)
    (he : val W16 out + W16 ^ j * ca = val W16 (xs.take j) + val W16 (ys.take j)) :
    val W16 (out ++ [s % 65536]) + W16 ^ (j + 1) * (s / 65536) = val W16 (xs.take (j + 1)) + val W16 (ys.take (j + 1)) := by
  rw [val_take_succ, val_take_succ, val_snoc, hl, hp, hq, Nat.pow_succ, Nat.mul_assoc]
  have h0 : s % 65536 + 65536 * (s / 65536) = s := Nat.mod_add_div s 65536
  have h1 : W16 ^ j * (s % 65536) + W16 ^ j * (W16 * (s / 65536)) = W16 ^ j * p + W16 ^ j * q + W16 ^ j * ca := by
    rw [← Nat.mul_add, show W16 * (s / 65536) = 65536 * (s / 65536) from rfl, h0, hs, Nat.mul_add, Nat.mul_add]
  omega

theorem digs16_add {x y n : Nat} (hx : (digs W16 x).length ≤ n) (hy : (digs W16 y).length ≤ n) : (digs W16 (x + y)).length ≤ n + 1 := by
  refine digs_len_le W16_gt ?_
  have h1 := Nat.lt_of_lt_of_le (digs_lt (n := x) W16_gt) (Nat.pow_le_pow_right (by decide) hx)
  have h2 := Nat.lt_of_lt_of_le (digs_lt (n := y) W16_gt) (Nat.pow_le_pow_right (by decide) hy)
  rw [Nat.pow_succ]
  have : W16 = 65536 := rfl
  have h3 : W16 ^ n * 2 ≤ W16 ^ n * W16 := Nat.mul_le_mul_left _ (by rw [this]; omega)
  omega

theorem pow_lenR {k m : Nat} (h : k < 16 * m) : (digs W16 (2 ^ k)).length ≤ m := by
  refine digs_len_le (k := m) W16_gt ?_
  have e : W16 ^ m = 2 ^ (16 * m) := by rw [Nat.pow_mul]; rfl
  rw [e]
  exact Nat.pow_lt_pow_right (by decide) h

end Go.Proofs.YtdmhkhnnomdkcaaDoor
/- fetterlockref1.trim and SubNat: where the result lies. Conditions: at most 100000 digits. -/
namespace Go.Proofs.YtdmhkhnnomdkcaaDoor
open Go.RowKit NumB
set_option linter.unusedVariables false
set_option linter.unusedSimpArgs false

/-- A slice that lies in a block from B on. -/
def Fresh (B : Nat) (v : Value) : Prop := ∀ a n c, v = .slice (some a) n c → B ≤ a.block
theorem Sl.far {k : IntKind} {w : World} {v : Value} {xs : List Nat} {B g i : Nat} {u : Value} (h : Sl k w v xs) (hf : Fresh B v) (hg : g < B) : Sl k (w.setCell ⟨g, i, none⟩ u) v xs := by
  obtain ⟨A, c, rfl, h1, h2, h3, h4⟩ := h
  refine ⟨A, c, rfl, h1, h2, h3, fun hn => ?_⟩
  obtain ⟨b, o, rfl, hb, hc⟩ := h4 hn
  have := hf _ _ _ rfl
  refine ⟨b, o, rfl, by simpa [World.setCell] using hb, fun i hi => ?_⟩
  rw [World.cell?_setCell_other _ _ _ _ (by intro e; cases e; exact absurd this (Nat.not_le.2 hg))]
  exact hc i hi

end Go.Proofs.YtdmhkhnnomdkcaaDoor
/- fetterlockref1.DivNat. Conditions: at most 50000 digits; the divisor is not 0. -/
namespace Go.Proofs.YtdmhkhnnomdkcaaDoor
open Go.RowKit NumB
set_option linter.unusedVariables false
set_option linter.unusedSimpArgs false

/-- Two naturals. -/
def RPost2 (w : World) (x y : Nat) (e : Ending) (w' : World) : Prop := ∃ v u, e = .returned (.tuple #[v, u]) ∧ Nat16 w' v x ∧ Nat16 w' u y ∧ Below w.heap.size w w'
theorem nil16 (w : World) : Nat16 w (.slice none 0 0) 0 := by
  unfold Nat16
  rw [digs_zero]
  exact (OwnV.nil_ (B := 0) (T := 0) w).sl
theorem len_small16 {a b n : Nat} (h : a < b) (hb : (digs W16 b).length ≤ n) : (digs W16 a).length ≤ n := Nat.le_trans (digs_len_mono W16_gt (Nat.le_of_lt h)) hb
theorem len_two16 {a b n : Nat} (h : a < 2 * b) (hb : (digs W16 b).length ≤ n) : (digs W16 a).length ≤ n + 1 := by
  refine digs_len_le W16_gt (Nat.lt_of_lt_of_le h ?_)
  rw [Nat.pow_succ]
  have h1 := digs_lt W16_gt (n := b)
  have h2 : W16 ^ (digs W16 b).length ≤ W16 ^ n := Nat.pow_le_pow_right (by decide) hb
  have h3 : W16 = 65536 := rfl
  generalize W16 ^ n = P at *
  rw [h3]; omega

end Go.Proofs.YtdmhkhnnomdkcaaDoor
/- fetterlockref1.Whole. -/
namespace Go.Proofs.YtdmhkhnnomdkcaaDoor
open Go.RowKit NumB
set_option linter.unusedVariables false
set_option linter.unusedSimpArgs false

end Go.Proofs.YtdmhkhnnomdkcaaDoor
/- fetterlockref1.reduce. Conditions: at most 50000 digits; the denominator is not 0. -/
namespace Go.Proofs.YtdmhkhnnomdkcaaDoor
open Go.RowKit NumB
set_option linter.unusedVariables false
set_option linter.unusedSimpArgs false

theorem div_gcd_pos {x g : Nat} (h : g ∣ x) (hg : 0 < g) : 0 < x / g ↔ 0 < x := by
  constructor
  · intro h1
    rcases Nat.eq_zero_or_pos x with h0 | h0
    · subst h0; rw [Nat.zero_div] at h1; exact absurd h1 (by omega)
    · exact h0
  · intro h1; exact Nat.div_pos (Nat.le_of_dvd h1 h) hg

end Go.Proofs.YtdmhkhnnomdkcaaDoor
/- fetterlockref1.Minus, Inverse. -/
namespace Go.Proofs.YtdmhkhnnomdkcaaDoor
open Go.RowKit NumB
set_option linter.unusedVariables false
set_option linter.unusedSimpArgs false

end Go.Proofs.YtdmhkhnnomdkcaaDoor
/- fetterlockref1.MulNat. Conditions: at most 50000 digits. -/
namespace Go.Proofs.YtdmhkhnnomdkcaaDoor
open Go.RowKit NumB
set_option linter.unusedVariables false
set_option linter.unusedSimpArgs false

theorem rmul_inner {out o2 ys : List Nat} {i k c x y o s : Nat} (hlen : i + k < o2.length) (ho : out.getD (i + k) 0 = o) (hy : ys.getD k 0 = y) (hs : s = c + (x * y + o))
    (h : val W16 (o2.take (i + k)) + W16 ^ (i + k) * c = val W16 (out.take (i + k)) + W16 ^ i * x * val W16 (ys.take k)) :
    val W16 ((o2.set (i + k) (s % 65536)).take (i + (k + 1))) + W16 ^ (i + (k + 1)) * (s / 65536) = val W16 (out.take (i + (k + 1))) + W16 ^ i * x * val W16 (ys.take (k + 1)) := by
  rw [← Nat.add_assoc, val_take_succ, val_take_succ, val_take_succ, take_set_lt _ _ _ _ (Nat.le_refl _), getD_set_self _ _ _ hlen, ho, hy, Nat.pow_succ]
  exact mul_alg hs (Nat.pow_add _ _ _) h W16
theorem rmul_outer {out o2 xs ys : List Nat} {i m k x Y : Nat} (hm : ys.length = m) (hY : val W16 ys = Y) (hx : xs.getD i 0 = x) (hk : k = m ∨ k = m + 1) (hz : ∀ q, i + m ≤ q → out.getD q 0 = 0) (hj : ∀ q, i + k ≤ q → o2.getD q 0 = out.getD q 0)
    (h : val W16 (o2.take (i + k)) + W16 ^ (i + k) * 0 = val W16 (out.take (i + k)) + W16 ^ i * x * val W16 (ys.take k)) (ho : val W16 (out.take (i + m)) = val W16 (xs.take i) * Y) :
    val W16 (o2.take (i + 1 + m)) = val W16 (xs.take (i + 1)) * Y := by
  rw [Nat.mul_zero, Nat.add_zero, val_take_all W16 ys (j := k) (by omega), hY] at h
  rw [val_take_succ W16 xs, hx, Nat.add_mul, ← ho]
  rcases hk with rfl | rfl
  · rw [show i + 1 + k = i + k + 1 from by omega, val_take_succ, hj _ (Nat.le_refl _), hz _ (Nat.le_refl _), Nat.mul_zero, Nat.add_zero]
    exact h
  · rw [show i + (m + 1) = i + m + 1 from by omega] at h
    rw [show i + 1 + m = i + m + 1 from by omega, h, val_take_succ, hz _ (Nat.le_refl _), Nat.mul_zero, Nat.add_zero]

end Go.Proofs.YtdmhkhnnomdkcaaDoor
/- number.compare, number.Compare; fetterlockref1.Cmp. -/
namespace Go.Proofs.YtdmhkhnnomdkcaaDoor
open Go.RowKit NumB
set_option linter.unusedVariables false
set_option linter.unusedSimpArgs false

/-- How two fractions compare. -/
def cmpQ (na : Bool) (xa ya : Nat) (nb : Bool) (xb yb : Nat) : Int := if na = nb then (if na then -cmpI (xa * yb) (xb * ya) else cmpI (xa * yb) (xb * ya)) else if na then -1 else 1
theorem cmpI_swap (x y : Nat) : cmpI y x = -cmpI x y := by unfold cmpI; split <;> split <;> (try split) <;> omega
theorem compare_B (x y : Nat) (va vb : Value) (w : World) (ha : Nat32 w va x) (hb : Nat32 w vb y) :
    Calls Tryd.prog 47 #[va, vb] w fun e w' => e = .returned (.int .i64 (cmpI x y)) ∧ Below w.heap.size w w' :=
  (compare_any x y va vb w ha hb).mono fun _ _ ⟨he, m, hm⟩ => ⟨he, by rw [hm]; exact below_of_drewN m⟩
theorem Two.drew2 {w : World} {na nb : Bool} {A1 A2 A3 A4 : Value} {xa ya xb yb : List Nat} (h : Two w na nb A1 A2 A3 A4 xa ya xb yb) (o1 o2 : Obj) : Two ((w.alloc o1).alloc o2).drew na nb A1 A2 A3 A4 xa ya xb yb := h.to (below_two w o1 o2).drew

end Go.Proofs.YtdmhkhnnomdkcaaDoor
/- fetterlockref1.Cmp. -/
namespace Go.Proofs.YtdmhkhnnomdkcaaDoor
open Go.RowKit NumB
set_option linter.unusedVariables false
set_option linter.unusedSimpArgs false

theorem digs16_len_mul (x y : Nat) : (digs W16 (x * y)).length ≤ (digs W16 x).length + (digs W16 y).length := by
  refine digs_len_le W16_gt ?_
  rw [Nat.pow_add]
  exact Nat.mul_lt_mul'' (digs_lt W16_gt) (digs_lt W16_gt)


/-- number.Compare at any two numbers. -/
def cmpS (a b : LN) : Int := cmpQ a.neg a.x a.y b.neg b.x b.y

end Go.Proofs.YtdmhkhnnomdkcaaDoor
/- fetterlockref1.Product. Conditions: at most 10000 digits; the denominators are not 0. -/
namespace Go.Proofs.YtdmhkhnnomdkcaaDoor
open Go.RowKit NumB
set_option linter.unusedVariables false
set_option linter.unusedSimpArgs false

theorem below_3 (w : World) (o1 o2 o3 : Obj) : Below w.heap.size w (((w.alloc o1).alloc o2).alloc o3) := (below_two w o1 o2).alloc (by simp; omega) o3
theorem blk_3 (w : World) (t u v : TypeId) (a b c : Array Value) : Blk (((w.alloc (.cells a t)).alloc (.cells b u)).alloc (.cells c v)) w.heap.size t a ∧ Blk (((w.alloc (.cells a t)).alloc (.cells b u)).alloc (.cells c v)) (w.heap.size + 1) u b ∧ Blk (((w.alloc (.cells a t)).alloc (.cells b u)).alloc (.cells c v)) (w.heap.size + 1 + 1) v c := by
  obtain ⟨h1, h2⟩ := blk2 w t u a b
  refine ⟨h1.alloc _, h2.alloc _, ?_⟩
  have := Blk.new ((w.alloc (.cells a t)).alloc (.cells b u)) v c
  simpa using this

end Go.Proofs.YtdmhkhnnomdkcaaDoor
/- number.Gcd, at any two numbers. -/
namespace Go.Proofs.YtdmhkhnnomdkcaaDoor
open Go.RowKit NumB
set_option linter.unusedVariables false
set_option linter.unusedSimpArgs false

/-- What Gcd answers. -/
def gcdS (a b : LN) : LN × Int := if intErr2 a b = 0 then fracS 0 false (Nat.gcd a.x b.x) 1 else (zeroL, intErr2 a b)
theorem intErr2_zero {a b : LN} : intErr2 a b = 0 ↔ (a.err = 0 ∧ b.err = 0) ∧ a.y = 1 ∧ b.y = 1 := by
  unfold intErr2
  by_cases h : err2 a.err b.err = 0
  · rw [if_pos h]
    have := err2_zero.1 h
    by_cases h2 : a.y = 1 ∧ b.y = 1
    · simp [h2, this]
    · rw [if_neg h2]; simp [h2]
  · rw [if_neg h]
    have : ¬ (a.err = 0 ∧ b.err = 0) := fun hh => h (err2_zero.2 hh)
    simp [h, this]
theorem blk_4 (w : World) (t : TypeId) (o1 o2 o3 : Obj) (c : Array Value) : Blk ((((w.alloc o1).alloc o2).alloc o3).alloc (.cells c t)) (w.heap.size + 1 + 1 + 1) t c := by
  have := Blk.new (((w.alloc o1).alloc o2).alloc o3) t c
  simpa using this
theorem below_4 (w : World) (o1 o2 o3 o4 : Obj) : Below w.heap.size w ((((w.alloc o1).alloc o2).alloc o3).alloc o4) := (below_3 w o1 o2 o3).alloc (by simp; omega) o4

end Go.Proofs.YtdmhkhnnomdkcaaDoor

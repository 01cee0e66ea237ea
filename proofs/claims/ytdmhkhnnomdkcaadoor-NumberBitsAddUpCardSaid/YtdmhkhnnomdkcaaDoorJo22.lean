/-  -/
import Derived.Deep.RegionHeld3
import Derived.Test.YtdmhkhnnomdkcaaDoorJo13
import Derived.Test.YtdmhkhnnomdkcaaDoorJo17
import Derived.Test.YtdmhkhnnomdkcaaDoorJo20
import Derived.Test.YtdmhkhnnomdkcaaDoorJo21
set_option linter.unusedVariables false
set_option linter.unusedSimpArgs false
/- number.integers, at one number. -/
namespace Go.Proofs.YtdmhkhnnomdkcaaDoor
open Go.RowKit NumB
set_option linter.unusedVariables false
set_option linter.unusedSimpArgs false

/-- What integers answers at one number. -/
def intErr (a : LN) : Int := if a.err = 0 then (if a.y = 1 then 0 else 7) else a.err

set_option maxRecDepth 100000 in
set_option maxHeartbeats 3200000 in
theorem integers_one (a : LN) (b cap : Nat) (A1 A2 : Value) (w : World) (t : TypeId) (hg : Blk w b t #[.bool a.neg, A1, A2]) (h : GV w (.agg #[.bool a.neg, A1, A2]) a) :
    Calls Tryd.prog 12 #[.slice (some ⟨b, 0, none⟩) 1 cap] w fun e w' => e = .returned (.int .i64 (intErr a)) ∧ Below w.heap.size w w' := by
  obtain ⟨_, g1, g2, gok⟩ := h.parts
  have HC : Hid (Calls Tryd.prog 19 #[.slice (some ⟨b, 0, none⟩) 1 cap] w fun e w' => e = .returned (.int .i64 a.err) ∧ Below w.heap.size w w') := checks_one b cap a.neg a.num a.den A1 A2 w t hg g1 g2 gok.1 gok.2
  have HBK := Lib.hid hg
  have hbd : 0 ≤ a.err ∧ a.err ≤ 3 := checkL_bd _ _ _
  obtain ⟨B1, n1, d1, B2, n2, d2, he, hq1, hq2⟩ := h.form
  clear hq1 hq2
  simp only [Value.agg.injEq, Array.mk.injEq, List.cons.injEq, and_true, true_and] at he
  obtain ⟨rfl, rfl⟩ := he
  by_cases e0 : a.err = 0
  · have HY : Hid (Nat32 w (.slice B2 n2 d2) a.y) := by
      have h2 := (LN.good gok e0).2.1
      unfold Hid Nat32
      rw [h2]; exact g2
    have HI : Hid (intErr a = if a.y = 1 then 0 else 7) := by unfold Hid intErr; rw [if_pos e0]
    rw [e0] at HC
    generalize intErr a = r at *
    generalize a.y = y at *
    generalize a.neg = ng at *
    clear h g1 g2 gok hg hbd e0
    go_enter Tryd.func12, Tryd.ntmps12
    go_wp2_with fail
    refine HC.out.mono ?_
    rintro e w1 ⟨rfl, hb1⟩
    have HB1 := Lib.hid hb1
    clear hb1
    go_wp2_with fail
    go_loopg [13, 5] 1 (fun gk s13 s5 wr => ∃ j : Nat, gk + j = 1 ∧ s13 = .int .i64 (j : Int) ∧ Hid (0 < j → y = 1) ∧ Hid (Below w.heap.size w wr))
    case atStart => exact ⟨0, by omega, rfl, by unfold Hid; omega, HB1.out⟩
    case round =>
      obtain ⟨j, hgj, rfl, HE, HB⟩ := hrel
      by_cases hj : j = 0
      · subst hj
        obtain rfl : gk = 1 := by omega
        have hk := HBK.out.to HB.out
        have c0 := hk.cell 0
        have c1 := hk.cell 1
        have c2 := hk.cell 2
        simp only [List.getElem?_toArray, List.getElem?_cons_zero, List.getElem?_cons_succ] at c0 c1 c2
        clear hk hgj
        by_cases hy : y = 1
        · have HO := Lib.hid (oneB_true hy)
          have HY1 := Lib.hid hy
          clear hy
          go_wp2_with fail
          refine (isOne_any y _ _ (by exact (HY.out.to HB.out).to (below_one _ _))).mono ?_
          rintro e w3 ⟨he, rfl⟩
          rw [HO.out] at he
          subst he
          go_wp2_with fail
          go_roundg 0
          case measure => omega
          case rel => exact ⟨1, by omega, by go_num, fun _ => HY1.out, HB.out.alloc HB.out.size _⟩
        · have HO := Lib.hid (oneB_false hy)
          have HY1 := Lib.hid hy
          clear hy
          go_wp2_with fail
          refine (isOne_any y _ _ (by exact (HY.out.to HB.out).to (below_one _ _))).mono ?_
          rintro e w3 ⟨he, rfl⟩
          rw [HO.out] at he
          subst he
          go_wp2_with fail
          go_ret
          rw [HI.out, if_neg HY1.out]
          exact ⟨rfl, HB.out.alloc HB.out.size _⟩
      · obtain rfl : j = 1 := by omega
        obtain rfl : gk = 0 := by omega
        have HY1 := Lib.hid (HE.out (by omega))
        clear hgj hj
        go_wp2_with fail
        go_ret
        rw [HI.out, if_pos HY1.out]
        exact ⟨rfl, HB.out⟩
  · have b0 : (a.err != 0) = true := by rw [bne_iff_ne]; exact e0
    have HI : Hid (intErr a = a.err) := by unfold Hid intErr; rw [if_neg e0]
    generalize intErr a = r at *
    generalize a.err = z at *
    clear h g1 g2 gok hg e0
    go_enter Tryd.func12, Tryd.ntmps12
    go_wp2_with fail
    refine HC.out.mono ?_
    rintro e w1 ⟨rfl, hb1⟩
    have HB1 := Lib.hid hb1
    clear hb1
    go_wp2_with fail
    go_ret
    rw [HI.out]
    exact ⟨rfl, HB1.out⟩
end Go.Proofs.YtdmhkhnnomdkcaaDoor
/- number.Mul, at any two numbers. -/
namespace Go.Proofs.YtdmhkhnnomdkcaaDoor
open Go.RowKit NumB
set_option linter.unusedVariables false
set_option linter.unusedSimpArgs false

theorem made_S (neg : Bool) (x y : Nat) (va vb : Value) (w : World) (ha : Nat32 w va x) (hb : Nat32 w vb y) (hy0 : 0 < y) (hx : (digs W32 x).length ≤ 50000) (hy : (digs W32 y).length ≤ 50000) :
    Calls Tryd.prog 23 #[.bool neg, va, vb] w (SPost w (fracS 0 neg x y)) := (made_any neg x y va vb w ha hb hy0 hx hy).mono fun _ _ h => FitPost.toS h
theorem GV.put3 {w : World} {v : Value} {a : LN} {s : Bool} {g : Nat} {t : TypeId} {A A' : Option Addr} {n m ca cb : Nat} (h : GV w v a) (hg : Blk w g t #[.bool s, .slice A n ca, .slice A' m cb]) (x y z : Value) : GV (put3 w g x y z) v a := by
  obtain ⟨A1, B1, e, h1, h2, h3⟩ := h
  exact ⟨A1, B1, e, Sl.boxed h1 hg noInts_num (Nat.le_of_eq (put3_size w g x y z).symm) (put3_far w g x y z), Sl.boxed h2 hg noInts_num (Nat.le_of_eq (put3_size w g x y z).symm) (put3_far w g x y z), h3⟩

set_option maxRecDepth 100000 in
set_option maxHeartbeats 6400000 in
theorem MulNum_ok (na nb : Bool) (xa ya xb yb : Nat) (A1 A2 A3 A4 : Value) (xsa ysa xsb ysb : List Nat) (w : World) (h : Two w na nb A1 A2 A3 A4 xsa ysa xsb ysb) (e1 : digs W32 xa = xsa) (e2 : digs W32 ya = ysa) (e3 : digs W32 xb = xsb) (e4 : digs W32 yb = ysb)
    (l1 : xsa.length ≤ 128) (l2 : ysa.length ≤ 128) (l3 : xsb.length ≤ 128) (l4 : ysb.length ≤ 128) (hya : 0 < ya) (hyb : 0 < yb)
    (HCK : Hid (∀ (W : World) (t : TypeId) (b cap : Nat), W.heap.size = b → Two W na nb A1 A2 A3 A4 xsa ysa xsb ysb → Calls Tryd.prog 19 #[.slice (some ⟨b, 0, none⟩) 2 cap] (W.alloc (.cells #[.bool na, A1, A2, .bool nb, A3, A4] t)) fun e w' => e = .returned (.int .i64 0) ∧ Below (W.alloc (.cells #[.bool na, A1, A2, .bool nb, A3, A4] t)).heap.size (W.alloc (.cells #[.bool na, A1, A2, .bool nb, A3, A4] t)) w')) :
    Calls Tryd.prog 11 #[.agg #[.bool na, A1, A2], .agg #[.bool nb, A3, A4]] w (SPost w (fracS 0 (na != nb) (xa * xb) (ya * yb))) := by
  have HT := Lib.hid h
  have hN : ∀ W : World, Two W na nb A1 A2 A3 A4 xsa ysa xsb ysb → Nat32 W A1 xa ∧ Nat32 W A2 ya ∧ Nat32 W A3 xb ∧ Nat32 W A4 yb := fun W hW => by
    unfold Nat32; rw [e1, e2, e3, e4]; exact hW
  have HN := Lib.hid hN
  have HL : Hid (((digs W32 xa).length ≤ 50000 ∧ (digs W32 ya).length ≤ 50000) ∧ ((digs W32 xb).length ≤ 50000 ∧ (digs W32 yb).length ≤ 50000)) := by rw [e1, e2, e3, e4]; exact ⟨⟨by omega, by omega⟩, by omega, by omega⟩
  have HM : Hid ((digs W32 (xa * xb)).length ≤ 50000 ∧ (digs W32 (ya * yb)).length ≤ 50000) := by
    have m1 := digs_len_mul xa xb
    have m2 := digs_len_mul ya yb
    rw [e1, e3] at m1
    rw [e2, e4] at m2
    exact ⟨by omega, by omega⟩
  have HD0 : Hid (0 < ya * yb) := Nat.mul_pos hya hyb
  obtain ⟨⟨B1, c1, rfl, _⟩, ⟨B2, c2, rfl, _⟩, ⟨B3, c3, rfl, _⟩, ⟨B4, c4, rfl, _⟩⟩ := h
  have HMD := Lib.hid (fun (u v : Value) (W : World) (a1 : Nat32 W u (xa * xb)) (a2 : Nat32 W v (ya * yb)) => made_S (na != nb) (xa * xb) (ya * yb) u v W a1 a2 HD0.out HM.out.1 HM.out.2)
  generalize hz1 : xsa.length = n1 at *
  generalize hz2 : ysa.length = n2 at *
  generalize hz3 : xsb.length = n3 at *
  generalize hz4 : ysb.length = n4 at *
  clear hz1 hz2 hz3 hz4 e1 e2 e3 e4 l1 l2 l3 l4 hya hyb hN
  have hkeep : ∀ W1 W' : World, Below W1.heap.size W1 W' → (W1.cell? ⟨w.heap.size, 0, none⟩ = some (.bool na) ∧ W1.cell? ⟨w.heap.size, 1, none⟩ = some (.slice B1 n1 c1) ∧ W1.cell? ⟨w.heap.size, 2, none⟩ = some (.slice B2 n2 c2) ∧ W1.cell? ⟨w.heap.size + 1, 0, none⟩ = some (.bool nb) ∧ W1.cell? ⟨w.heap.size + 1, 1, none⟩ = some (.slice B3 n3 c3) ∧ W1.cell? ⟨w.heap.size + 1, 2, none⟩ = some (.slice B4 n4 c4) ∧ w.heap.size + 2 < W1.heap.size) → (W'.cell? ⟨w.heap.size, 0, none⟩ = some (.bool na) ∧ W'.cell? ⟨w.heap.size, 1, none⟩ = some (.slice B1 n1 c1) ∧ W'.cell? ⟨w.heap.size, 2, none⟩ = some (.slice B2 n2 c2) ∧ W'.cell? ⟨w.heap.size + 1, 0, none⟩ = some (.bool nb) ∧ W'.cell? ⟨w.heap.size + 1, 1, none⟩ = some (.slice B3 n3 c3) ∧ W'.cell? ⟨w.heap.size + 1, 2, none⟩ = some (.slice B4 n4 c4) ∧ w.heap.size + 2 < W'.heap.size) := fun W1 W' h1 h2 => Box2.to (w := W1) (w' := W') (g := w.heap.size) h2 h1
  have HK := Lib.hid hkeep
  clear hkeep
  have HKP : Hid (∀ (W1 : World) (x y z : Value), (W1.cell? ⟨w.heap.size, 0, none⟩ = some (.bool na) ∧ W1.cell? ⟨w.heap.size, 1, none⟩ = some (.slice B1 n1 c1) ∧ W1.cell? ⟨w.heap.size, 2, none⟩ = some (.slice B2 n2 c2) ∧ W1.cell? ⟨w.heap.size + 1, 0, none⟩ = some (.bool nb) ∧ W1.cell? ⟨w.heap.size + 1, 1, none⟩ = some (.slice B3 n3 c3) ∧ W1.cell? ⟨w.heap.size + 1, 2, none⟩ = some (.slice B4 n4 c4) ∧ w.heap.size + 2 < W1.heap.size) → ((((W1.setCell ⟨w.heap.size + 1 + 1, 0, none⟩ x).setCell ⟨w.heap.size + 1 + 1, 1, none⟩ y).setCell ⟨w.heap.size + 1 + 1, 2, none⟩ z).cell? ⟨w.heap.size, 0, none⟩ = some (.bool na) ∧ (((W1.setCell ⟨w.heap.size + 1 + 1, 0, none⟩ x).setCell ⟨w.heap.size + 1 + 1, 1, none⟩ y).setCell ⟨w.heap.size + 1 + 1, 2, none⟩ z).cell? ⟨w.heap.size, 1, none⟩ = some (.slice B1 n1 c1) ∧ (((W1.setCell ⟨w.heap.size + 1 + 1, 0, none⟩ x).setCell ⟨w.heap.size + 1 + 1, 1, none⟩ y).setCell ⟨w.heap.size + 1 + 1, 2, none⟩ z).cell? ⟨w.heap.size, 2, none⟩ = some (.slice B2 n2 c2) ∧ (((W1.setCell ⟨w.heap.size + 1 + 1, 0, none⟩ x).setCell ⟨w.heap.size + 1 + 1, 1, none⟩ y).setCell ⟨w.heap.size + 1 + 1, 2, none⟩ z).cell? ⟨w.heap.size + 1, 0, none⟩ = some (.bool nb) ∧ (((W1.setCell ⟨w.heap.size + 1 + 1, 0, none⟩ x).setCell ⟨w.heap.size + 1 + 1, 1, none⟩ y).setCell ⟨w.heap.size + 1 + 1, 2, none⟩ z).cell? ⟨w.heap.size + 1, 1, none⟩ = some (.slice B3 n3 c3) ∧ (((W1.setCell ⟨w.heap.size + 1 + 1, 0, none⟩ x).setCell ⟨w.heap.size + 1 + 1, 1, none⟩ y).setCell ⟨w.heap.size + 1 + 1, 2, none⟩ z).cell? ⟨w.heap.size + 1, 2, none⟩ = some (.slice B4 n4 c4) ∧ w.heap.size + 2 < (((W1.setCell ⟨w.heap.size + 1 + 1, 0, none⟩ x).setCell ⟨w.heap.size + 1 + 1, 1, none⟩ y).setCell ⟨w.heap.size + 1 + 1, 2, none⟩ z).heap.size)) := fun W1 x y z ⟨h0, h1, h2, h3, h4, h5, h6⟩ =>
    ⟨(put3_far W1 (w.heap.size + 1 + 1) x y z ⟨w.heap.size, 0, none⟩ (by show w.heap.size ≠ _; omega)).trans h0, (put3_far W1 (w.heap.size + 1 + 1) x y z ⟨w.heap.size, 1, none⟩ (by show w.heap.size ≠ _; omega)).trans h1, (put3_far W1 (w.heap.size + 1 + 1) x y z ⟨w.heap.size, 2, none⟩ (by show w.heap.size ≠ _; omega)).trans h2, (put3_far W1 (w.heap.size + 1 + 1) x y z ⟨w.heap.size + 1, 0, none⟩ (by show w.heap.size + 1 ≠ _; omega)).trans h3, (put3_far W1 (w.heap.size + 1 + 1) x y z ⟨w.heap.size + 1, 1, none⟩ (by show w.heap.size + 1 ≠ _; omega)).trans h4, (put3_far W1 (w.heap.size + 1 + 1) x y z ⟨w.heap.size + 1, 2, none⟩ (by show w.heap.size + 1 ≠ _; omega)).trans h5, by rw [show ((W1.setCell ⟨w.heap.size + 1 + 1, 0, none⟩ x).setCell ⟨w.heap.size + 1 + 1, 1, none⟩ y).setCell ⟨w.heap.size + 1 + 1, 2, none⟩ z = put3 W1 (w.heap.size + 1 + 1) x y z from rfl, put3_size]; exact h6⟩
  generalize fracS 0 (na != nb) (xa * xb) (ya * yb) = r at *
  obtain ⟨rl, re⟩ := r
  go_enter Tryd.func11, Tryd.ntmps11
  go_wp2_with fail
  refine (HCK.out _ _ _ _ (by simp) (by exact HT.out.to (below_three w _ _ _))).mono ?_
  rintro e w1 ⟨rfl, hb1⟩
  have hb0 := (below_one _ _).trans (hb1.mono (below_one _ _).size)
  obtain ⟨k1, k2, k3⟩ := blk3 w 24 #[.bool na, .slice B1 n1 c1, .slice B2 n2 c2] #[.bool nb, .slice B3 n3 c3, .slice B4 n4 c4] #[.bool false, .slice none 0 0, .slice none 0 0]
  have hg1 := k1.to hb0
  have hg2 := k2.to hb0
  have HG3 := Lib.hid (k3.to hb0)
  have HT1 := Lib.hid ((HT.out.to (below_three w _ _ _)).to hb0)
  have HBL : Hid (Below w.heap.size w w1) := (below_three w _ _ _).trans (hb0.mono (below_three w _ _ _).size)
  have a0 := hg1.cell 0
  have a1 := hg1.cell 1
  have a2 := hg1.cell 2
  have b0 := hg2.cell 0
  have b1 := hg2.cell 1
  have b2 := hg2.cell 2
  have hsz : w.heap.size + 2 < w1.heap.size := HG3.out.lt
  clear k1 k2 k3 hg1 hg2 hb0 hb1 HT HCK
  simp only [List.getElem?_toArray, List.getElem?_cons_zero, List.getElem?_cons_succ] at a0 a1 a2 b0 b1 b2
  have HTD : Hid (Two w1.drew na nb (.slice B1 n1 c1) (.slice B2 n2 c2) (.slice B3 n3 c3) (.slice B4 n4 c4) xsa ysa xsb ysb) := HT1.out.to (Below.refl _ _).drew
  have hbne : (na != nb) = !(na == nb) := rfl
  rw [hbne] at HMD
  clear hbne
  have hne1 : (w.heap.size = w.heap.size + 1 + 1) = False := eq_false (by omega)
  have hne2 : (w.heap.size + 1 + 1 = w.heap.size) = False := eq_false (by omega)
  go_wp2_with fail
  go_region_held3 (fun w' => w'.cell? ⟨w.heap.size, 0, none⟩ = some (.bool na) ∧ w'.cell? ⟨w.heap.size, 1, none⟩ = some (.slice B1 n1 c1) ∧ w'.cell? ⟨w.heap.size, 2, none⟩ = some (.slice B2 n2 c2) ∧ w'.cell? ⟨w.heap.size + 1, 0, none⟩ = some (.bool nb) ∧ w'.cell? ⟨w.heap.size + 1, 1, none⟩ = some (.slice B3 n3 c3) ∧ w'.cell? ⟨w.heap.size + 1, 2, none⟩ = some (.slice B4 n4 c4) ∧ w.heap.size + 2 < w'.heap.size)
    (first | go_keep | (refine HKP.out _ _ _ _ ?_; go_keep) | (refine HK.out _ _ (by assumption) ?_; go_keep))
    (first
      | (go_at_call 27; ((with_reducible refine (mul_any xa xb (.slice B1 n1 c1) (.slice B3 n3 c3) _ (by exact (HN.out _ HTD.out).1) (by exact (HN.out _ HTD.out).2.2.1) HL.out.1.1 HL.out.2.1).mono ?_)); rintro e w2 ⟨v2, rfl, hn2, hb2⟩)
      | (go_at_call 27; ((with_reducible refine (mul_any ya yb (.slice B2 n2 c2) (.slice B4 n4 c4) _ (by exact (HN.out _ (HTD.out.to hb2)).2.1) (by exact (HN.out _ (HTD.out.to hb2)).2.2.2) HL.out.1.2 HL.out.2.2).mono ?_)); rintro e w3 ⟨v3, rfl, hn3, hb3⟩)
      | (go_at_call 23; ((with_reducible refine (HMD.out _ _ _ (by exact hn2.to hb3) (by exact hn3)).mono ?_)); rintro e w4 ⟨v4, rfl, hn4, hb4⟩; obtain ⟨A, _, c, B, _, d, rfl, rfl, rfl⟩ := hn4.form; have hblk := ((HG3.out.drew.to hb2).to hb3).to hb4; have hc0 := hblk.cell 0; have hc1 := hblk.cell 1; have hc2 := hblk.cell 2; have hf0 := hblk.frozen 0; have hf1 := hblk.frozen 1; have hf2 := hblk.frozen 2; simp only [List.getElem?_toArray, List.getElem?_cons_zero, List.getElem?_cons_succ] at hc0 hc1 hc2))
  all_goals
    go_wp2_with fail
    refine bodyPost_ret (v := .tuple #[.agg #[.bool rl.neg, .slice A rl.num.length c, .slice B rl.den.length d], .int .i64 re]) (by rw [results_cell_tmp rfl]; go_simp) rfl ⟨_, rfl, ?_, ?_⟩
    · exact hn4.put3 hblk _ _ _
    · exact put3_below ((((HBL.out.drew).trans (hb2.mono HBL.out.drew.size)).trans (hb3.mono (Nat.le_trans HBL.out.drew.size hb2.size))).trans (hb4.mono (Nat.le_trans (Nat.le_trans HBL.out.drew.size hb2.size) hb3.size))) (by omega) _ _ _

set_option maxRecDepth 100000 in
set_option maxHeartbeats 3200000 in
theorem MulNum_err (na nb : Bool) (xsa ysa xsb ysb : List Nat) (A1 A2 A3 A4 : Value) (w : World) (h : Two w na nb A1 A2 A3 A4 xsa ysa xsb ysb) (o1 : Ok W32 xsa) (o2 : Ok W32 ysa) (o3 : Ok W32 xsb) (o4 : Ok W32 ysb) (he : err2 (checkL na xsa ysa) (checkL nb xsb ysb) ≠ 0) :
    Calls Tryd.prog 11 #[.agg #[.bool na, A1, A2], .agg #[.bool nb, A3, A4]] w (SPost w (zeroL, err2 (checkL na xsa ysa) (checkL nb xsb ysb))) := by
  have HT := Lib.hid h
  obtain ⟨⟨B1, c1, rfl, _⟩, ⟨B2, c2, rfl, _⟩, ⟨B3, c3, rfl, _⟩, ⟨B4, c4, rfl, _⟩⟩ := h
  have hbd := err2_bd (checkL_bd na xsa ysa) (checkL_bd nb xsb ysb)
  have HCK := Lib.hid (fun (W : World) (t : TypeId) (b cap : Nat) (hb : W.heap.size = b) (hW : Two W na nb (.slice B1 xsa.length c1) (.slice B2 ysa.length c2) (.slice B3 xsb.length c3) (.slice B4 ysb.length c4) xsa ysa xsb ysb) => checks_two' hW o1 o2 o3 o4 t b cap hb)
  clear o1 o2 o3 o4
  generalize err2 (checkL na xsa ysa) (checkL nb xsb ysb) = er at *
  generalize hz1 : xsa.length = n1 at *
  generalize hz2 : ysa.length = n2 at *
  generalize hz3 : xsb.length = n3 at *
  generalize hz4 : ysb.length = n4 at *
  clear hz1 hz2 hz3 hz4
  have he1 : (er != 0) = true := by rw [bne_iff_ne]; exact he
  clear he
  go_enter Tryd.func11, Tryd.ntmps11
  go_wp2_with fail
  refine (HCK.out _ _ _ _ (by simp) (by exact HT.out.to (below_three w _ _ _))).mono ?_
  rintro e w1 ⟨rfl, hb1⟩
  have hb0 := (below_one _ _).trans (hb1.mono (below_one _ _).size)
  obtain ⟨k1, k2, k3⟩ := blk3 w 24 #[.bool na, .slice B1 n1 c1, .slice B2 n2 c2] #[.bool nb, .slice B3 n3 c3, .slice B4 n4 c4] #[.bool false, .slice none 0 0, .slice none 0 0]
  have hblk := k3.to hb0
  have HBE : Hid (Below w.heap.size w w1) := (below_three w _ _ _).trans (hb0.mono (below_three w _ _ _).size)
  clear k1 k2 k3 hb0 hb1
  have hc0 := hblk.cell 0
  have hc1 := hblk.cell 1
  have hc2 := hblk.cell 2
  have hf0 := hblk.frozen 0
  have hf1 := hblk.frozen 1
  have hf2 := hblk.frozen 2
  have HBLK := Lib.hid hblk
  clear hblk
  simp only [List.getElem?_toArray, List.getElem?_cons_zero, List.getElem?_cons_succ] at hc0 hc1 hc2
  go_wp2_with fail
  refine bodyPost_ret (v := .tuple #[zeroNum, .int .i64 er]) (by rw [results_cell_tmp rfl]; go_simp; rfl) rfl ⟨_, rfl, GV.zero _, ?_⟩
  exact put3_below HBE.out (by omega) _ _ _

theorem mulNum_S (a b : LN) (va vb : Value) (w : World) (ha : GV w va a) (hb : GV w vb b) : Calls Tryd.prog 11 #[va, vb] w (SPost w (mulS a b)) := by
  obtain ⟨A1, A2, rfl, h1, h2, o1, o2⟩ := ha
  obtain ⟨A3, A4, rfl, h3, h4, o3, o4⟩ := hb
  by_cases he : err2 a.err b.err = 0
  · obtain ⟨ea, eb⟩ := err2_zero.1 he
    obtain ⟨p1, p2, p3, p4, p5⟩ := LN.good ⟨o1, o2⟩ ea
    obtain ⟨q1, q2, q3, q4, q5⟩ := LN.good ⟨o3, o4⟩ eb
    have HCK : Hid (∀ (W : World) (t : TypeId) (b' cap : Nat), W.heap.size = b' → Two W a.neg b.neg A1 A2 A3 A4 a.num a.den b.num b.den → Calls Tryd.prog 19 #[.slice (some ⟨b', 0, none⟩) 2 cap] (W.alloc (.cells #[.bool a.neg, A1, A2, .bool b.neg, A3, A4] t)) fun e w' => e = .returned (.int .i64 0) ∧ Below (W.alloc (.cells #[.bool a.neg, A1, A2, .bool b.neg, A3, A4] t)).heap.size (W.alloc (.cells #[.bool a.neg, A1, A2, .bool b.neg, A3, A4] t)) w') := fun W t b' cap hb hW => by
      have h := checks_two' hW o1 o2 o3 o4 t b' cap hb
      rw [show err2 (checkL a.neg a.num a.den) (checkL b.neg b.num b.den) = 0 from he] at h
      exact h
    unfold mulS
    rw [he]
    exact MulNum_ok a.neg b.neg a.x a.y b.x b.y A1 A2 A3 A4 _ _ _ _ w ⟨h1, h2, h3, h4⟩ p1 p2 q1 q2 p3 p4 q3 q4 p5.1 q5.1 HCK
  · unfold mulS fracS opS
    rw [if_neg he]
    exact MulNum_err a.neg b.neg a.num a.den b.num b.den A1 A2 A3 A4 w ⟨h1, h2, h3, h4⟩ o1 o2 o3 o4 he
end Go.Proofs.YtdmhkhnnomdkcaaDoor

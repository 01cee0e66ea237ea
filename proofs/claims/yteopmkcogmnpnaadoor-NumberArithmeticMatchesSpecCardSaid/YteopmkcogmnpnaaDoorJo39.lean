/- number.Div, at any two numbers. NumberArithmeticMatchesSpec: its card, out of its walk. -/
import Derived.Deep.RegionHeld3
import Derived.Test.YteopmkcogmnpnaaDoorCards
import Derived.Test.YteopmkcogmnpnaaDoorTie
import Derived.Test.YteopmkcogmnpnaaDoorJo18
import Derived.Test.YteopmkcogmnpnaaDoorJo27
import Derived.Test.YteopmkcogmnpnaaDoorJo38
set_option linter.unusedVariables false
set_option linter.unusedSimpArgs false
namespace Go.Proofs.YteopmkcogmnpnaaDoor
open Go.RowKit NumB
set_option linter.unusedVariables false
set_option linter.unusedSimpArgs false

set_option maxRecDepth 100000 in
set_option maxHeartbeats 6400000 in
theorem DivNum_ok (na nb : Bool) (xa ya xb yb : Nat) (A1 A2 A3 A4 : Value) (xsa ysa xsb ysb : List Nat) (w : World) (h : Two w na nb A1 A2 A3 A4 xsa ysa xsb ysb) (e1 : digs W32 xa = xsa) (e2 : digs W32 ya = ysa) (e3 : digs W32 xb = xsb) (e4 : digs W32 yb = ysb)
    (l1 : xsa.length ≤ 128) (l2 : ysa.length ≤ 128) (l3 : xsb.length ≤ 128) (l4 : ysb.length ≤ 128) (hya : 0 < ya) (hyb : 0 < yb) (hxb : 0 < xb)
    (HCK : Hid (∀ (W : World) (t : TypeId) (b cap : Nat), W.heap.size = b → Two W na nb A1 A2 A3 A4 xsa ysa xsb ysb → Calls Tryd.prog 37 #[.slice (some ⟨b, 0, none⟩) 2 cap] (W.alloc (.cells #[.bool na, A1, A2, .bool nb, A3, A4] t)) fun e w' => e = .returned (.int .i64 0) ∧ Below (W.alloc (.cells #[.bool na, A1, A2, .bool nb, A3, A4] t)).heap.size (W.alloc (.cells #[.bool na, A1, A2, .bool nb, A3, A4] t)) w')) :
    Calls Tryd.prog 15 #[.agg #[.bool na, A1, A2], .agg #[.bool nb, A3, A4]] w (SPost w (fracS 0 (na != nb) (xa * yb) (ya * xb))) := by
  have HT := Lib.hid h
  have hN : ∀ W : World, Two W na nb A1 A2 A3 A4 xsa ysa xsb ysb → Nat32 W A1 xa ∧ Nat32 W A2 ya ∧ Nat32 W A3 xb ∧ Nat32 W A4 yb := fun W hW => by
    unfold Nat32; rw [e1, e2, e3, e4]; exact hW
  have HN := Lib.hid hN
  have HL : Hid (((digs W32 xa).length ≤ 50000 ∧ (digs W32 ya).length ≤ 50000) ∧ ((digs W32 xb).length ≤ 50000 ∧ (digs W32 yb).length ≤ 50000)) := by rw [e1, e2, e3, e4]; exact ⟨⟨by omega, by omega⟩, by omega, by omega⟩
  have HM : Hid ((digs W32 (xa * yb)).length ≤ 50000 ∧ (digs W32 (ya * xb)).length ≤ 50000) := by
    have m1 := digs_len_mul xa yb
    have m2 := digs_len_mul ya xb
    rw [e1, e4] at m1
    rw [e2, e3] at m2
    exact ⟨by omega, by omega⟩
  have HD0 : Hid (0 < ya * xb) := Nat.mul_pos hya hxb
  obtain ⟨⟨B1, c1, rfl, _⟩, ⟨B2, c2, rfl, _⟩, ⟨B3, c3, rfl, _⟩, ⟨B4, c4, rfl, _⟩⟩ := h
  have HMD := Lib.hid (fun (u v : Value) (W : World) (a1 : Nat32 W u (xa * yb)) (a2 : Nat32 W v (ya * xb)) => made_S (na != nb) (xa * yb) (ya * xb) u v W a1 a2 HD0.out HM.out.1 HM.out.2)
  have hnz : ((xsb.length : Int) == 0) = false := beq_eq_false_iff_ne.2 (by have := (len_pos32 (x := xb) (n := xsb.length) (by rw [e3])).2 hxb; omega)
  generalize hz1 : xsa.length = n1 at *
  generalize hz2 : ysa.length = n2 at *
  generalize hz3 : xsb.length = n3 at *
  generalize hz4 : ysb.length = n4 at *
  clear hz1 hz2 hz3 hz4 e1 e2 e3 e4 l1 l2 l3 l4 hya hyb hN hxb
  have hkeep : ∀ W1 W' : World, Below W1.heap.size W1 W' → (W1.cell? ⟨w.heap.size, 0, none⟩ = some (.bool na) ∧ W1.cell? ⟨w.heap.size, 1, none⟩ = some (.slice B1 n1 c1) ∧ W1.cell? ⟨w.heap.size, 2, none⟩ = some (.slice B2 n2 c2) ∧ W1.cell? ⟨w.heap.size + 1, 0, none⟩ = some (.bool nb) ∧ W1.cell? ⟨w.heap.size + 1, 1, none⟩ = some (.slice B3 n3 c3) ∧ W1.cell? ⟨w.heap.size + 1, 2, none⟩ = some (.slice B4 n4 c4) ∧ w.heap.size + 2 < W1.heap.size) → (W'.cell? ⟨w.heap.size, 0, none⟩ = some (.bool na) ∧ W'.cell? ⟨w.heap.size, 1, none⟩ = some (.slice B1 n1 c1) ∧ W'.cell? ⟨w.heap.size, 2, none⟩ = some (.slice B2 n2 c2) ∧ W'.cell? ⟨w.heap.size + 1, 0, none⟩ = some (.bool nb) ∧ W'.cell? ⟨w.heap.size + 1, 1, none⟩ = some (.slice B3 n3 c3) ∧ W'.cell? ⟨w.heap.size + 1, 2, none⟩ = some (.slice B4 n4 c4) ∧ w.heap.size + 2 < W'.heap.size) := fun W1 W' h1 h2 => Box2.to (w := W1) (w' := W') (g := w.heap.size) h2 h1
  have HK := Lib.hid hkeep
  clear hkeep
  have HKP : Hid (∀ (W1 : World) (x y z : Value), (W1.cell? ⟨w.heap.size, 0, none⟩ = some (.bool na) ∧ W1.cell? ⟨w.heap.size, 1, none⟩ = some (.slice B1 n1 c1) ∧ W1.cell? ⟨w.heap.size, 2, none⟩ = some (.slice B2 n2 c2) ∧ W1.cell? ⟨w.heap.size + 1, 0, none⟩ = some (.bool nb) ∧ W1.cell? ⟨w.heap.size + 1, 1, none⟩ = some (.slice B3 n3 c3) ∧ W1.cell? ⟨w.heap.size + 1, 2, none⟩ = some (.slice B4 n4 c4) ∧ w.heap.size + 2 < W1.heap.size) → ((((W1.setCell ⟨w.heap.size + 1 + 1, 0, none⟩ x).setCell ⟨w.heap.size + 1 + 1, 1, none⟩ y).setCell ⟨w.heap.size + 1 + 1, 2, none⟩ z).cell? ⟨w.heap.size, 0, none⟩ = some (.bool na) ∧ (((W1.setCell ⟨w.heap.size + 1 + 1, 0, none⟩ x).setCell ⟨w.heap.size + 1 + 1, 1, none⟩ y).setCell ⟨w.heap.size + 1 + 1, 2, none⟩ z).cell? ⟨w.heap.size, 1, none⟩ = some (.slice B1 n1 c1) ∧ (((W1.setCell ⟨w.heap.size + 1 + 1, 0, none⟩ x).setCell ⟨w.heap.size + 1 + 1, 1, none⟩ y).setCell ⟨w.heap.size + 1 + 1, 2, none⟩ z).cell? ⟨w.heap.size, 2, none⟩ = some (.slice B2 n2 c2) ∧ (((W1.setCell ⟨w.heap.size + 1 + 1, 0, none⟩ x).setCell ⟨w.heap.size + 1 + 1, 1, none⟩ y).setCell ⟨w.heap.size + 1 + 1, 2, none⟩ z).cell? ⟨w.heap.size + 1, 0, none⟩ = some (.bool nb) ∧ (((W1.setCell ⟨w.heap.size + 1 + 1, 0, none⟩ x).setCell ⟨w.heap.size + 1 + 1, 1, none⟩ y).setCell ⟨w.heap.size + 1 + 1, 2, none⟩ z).cell? ⟨w.heap.size + 1, 1, none⟩ = some (.slice B3 n3 c3) ∧ (((W1.setCell ⟨w.heap.size + 1 + 1, 0, none⟩ x).setCell ⟨w.heap.size + 1 + 1, 1, none⟩ y).setCell ⟨w.heap.size + 1 + 1, 2, none⟩ z).cell? ⟨w.heap.size + 1, 2, none⟩ = some (.slice B4 n4 c4) ∧ w.heap.size + 2 < (((W1.setCell ⟨w.heap.size + 1 + 1, 0, none⟩ x).setCell ⟨w.heap.size + 1 + 1, 1, none⟩ y).setCell ⟨w.heap.size + 1 + 1, 2, none⟩ z).heap.size)) := fun W1 x y z ⟨h0, h1, h2, h3, h4, h5, h6⟩ =>
    ⟨(put3_far W1 (w.heap.size + 1 + 1) x y z ⟨w.heap.size, 0, none⟩ (by show w.heap.size ≠ _; omega)).trans h0, (put3_far W1 (w.heap.size + 1 + 1) x y z ⟨w.heap.size, 1, none⟩ (by show w.heap.size ≠ _; omega)).trans h1, (put3_far W1 (w.heap.size + 1 + 1) x y z ⟨w.heap.size, 2, none⟩ (by show w.heap.size ≠ _; omega)).trans h2, (put3_far W1 (w.heap.size + 1 + 1) x y z ⟨w.heap.size + 1, 0, none⟩ (by show w.heap.size + 1 ≠ _; omega)).trans h3, (put3_far W1 (w.heap.size + 1 + 1) x y z ⟨w.heap.size + 1, 1, none⟩ (by show w.heap.size + 1 ≠ _; omega)).trans h4, (put3_far W1 (w.heap.size + 1 + 1) x y z ⟨w.heap.size + 1, 2, none⟩ (by show w.heap.size + 1 ≠ _; omega)).trans h5, by rw [show ((W1.setCell ⟨w.heap.size + 1 + 1, 0, none⟩ x).setCell ⟨w.heap.size + 1 + 1, 1, none⟩ y).setCell ⟨w.heap.size + 1 + 1, 2, none⟩ z = put3 W1 (w.heap.size + 1 + 1) x y z from rfl, put3_size]; exact h6⟩
  generalize fracS 0 (na != nb) (xa * yb) (ya * xb) = r at *
  obtain ⟨rl, re⟩ := r
  go_enter Tryd.func15, Tryd.ntmps15
  go_wp2_with fail
  refine (HCK.out _ _ _ _ (by simp) (by exact HT.out.to (below_three w _ _ _))).mono ?_
  rintro e w1 ⟨rfl, hb1⟩
  have hb0 := (below_one _ _).trans (hb1.mono (below_one _ _).size)
  obtain ⟨k1, k2, k3⟩ := blk3 w 24 #[.bool na, .slice B1 n1 c1, .slice B2 n2 c2] #[.bool nb, .slice B3 n3 c3, .slice B4 n4 c4] #[.bool false, .slice none 0 0, .slice none 0 0]
  have hg1 := k1.to hb0
  have hg2 := k2.to hb0
  have HG3 := Lib.hid (k3.to hb0)
  have HT1 := Lib.hid ((HT.out.to (below_three w _ _ _)).to hb0)
  have HBL : Hid (Below w.heap.size w w1) := (below_three w _ _ _).trans (hb0.mono (below_three w _ _ _).size)
  have a0 := hg1.cell 0
  have a1 := hg1.cell 1
  have a2 := hg1.cell 2
  have b0 := hg2.cell 0
  have b1 := hg2.cell 1
  have b2 := hg2.cell 2
  have hsz : w.heap.size + 2 < w1.heap.size := HG3.out.lt
  clear k1 k2 k3 hg1 hg2 hb0 hb1 HT HCK
  simp only [List.getElem?_toArray, List.getElem?_cons_zero, List.getElem?_cons_succ] at a0 a1 a2 b0 b1 b2
  have HTD : Hid (Two w1.drew na nb (.slice B1 n1 c1) (.slice B2 n2 c2) (.slice B3 n3 c3) (.slice B4 n4 c4) xsa ysa xsb ysb) := HT1.out.to (Below.refl _ _).drew
  have hbne : (na != nb) = !(na == nb) := rfl
  rw [hbne] at HMD
  clear hbne
  have hne1 : (w.heap.size = w.heap.size + 1 + 1) = False := eq_false (by omega)
  have hne2 : (w.heap.size + 1 + 1 = w.heap.size) = False := eq_false (by omega)
  go_wp2_with fail
  go_region_held3 (fun w' => w'.cell? ⟨w.heap.size, 0, none⟩ = some (.bool na) ∧ w'.cell? ⟨w.heap.size, 1, none⟩ = some (.slice B1 n1 c1) ∧ w'.cell? ⟨w.heap.size, 2, none⟩ = some (.slice B2 n2 c2) ∧ w'.cell? ⟨w.heap.size + 1, 0, none⟩ = some (.bool nb) ∧ w'.cell? ⟨w.heap.size + 1, 1, none⟩ = some (.slice B3 n3 c3) ∧ w'.cell? ⟨w.heap.size + 1, 2, none⟩ = some (.slice B4 n4 c4) ∧ w.heap.size + 2 < w'.heap.size)
    (first | go_keep | (refine HKP.out _ _ _ _ ?_; go_keep) | (refine HK.out _ _ (by assumption) ?_; go_keep))
    (first
      | (go_at_call 52; ((with_reducible refine (mul_any xa yb (.slice B1 n1 c1) (.slice B4 n4 c4) _ (by exact (HN.out _ HTD.out).1) (by exact (HN.out _ HTD.out).2.2.2) HL.out.1.1 HL.out.2.2).mono ?_)); rintro e w2 ⟨v2, rfl, hn2, hb2⟩)
      | (go_at_call 52; ((with_reducible refine (mul_any ya xb (.slice B2 n2 c2) (.slice B3 n3 c3) _ (by exact (HN.out _ (HTD.out.to hb2)).2.1) (by exact (HN.out _ (HTD.out.to hb2)).2.2.1) HL.out.1.2 HL.out.2.1).mono ?_)); rintro e w3 ⟨v3, rfl, hn3, hb3⟩)
      | (go_at_call 29; ((with_reducible refine (HMD.out _ _ _ (by exact hn2.to hb3) (by exact hn3)).mono ?_)); rintro e w4 ⟨v4, rfl, hn4, hb4⟩; obtain ⟨A, _, c, B, _, d, rfl, rfl, rfl⟩ := hn4.form; have hblk := ((HG3.out.drew.to hb2).to hb3).to hb4; have hc0 := hblk.cell 0; have hc1 := hblk.cell 1; have hc2 := hblk.cell 2; have hf0 := hblk.frozen 0; have hf1 := hblk.frozen 1; have hf2 := hblk.frozen 2; simp only [List.getElem?_toArray, List.getElem?_cons_zero, List.getElem?_cons_succ] at hc0 hc1 hc2))
  all_goals
    go_wp2_with fail
    refine bodyPost_ret (v := .tuple #[.agg #[.bool rl.neg, .slice A rl.num.length c, .slice B rl.den.length d], .int .i64 re]) (by rw [results_cell_tmp rfl]; go_simp) rfl ⟨_, rfl, ?_, ?_⟩
    · exact hn4.put3 hblk _ _ _
    · exact put3_below ((((HBL.out.drew).trans (hb2.mono HBL.out.drew.size)).trans (hb3.mono (Nat.le_trans HBL.out.drew.size hb2.size))).trans (hb4.mono (Nat.le_trans (Nat.le_trans HBL.out.drew.size hb2.size) hb3.size))) (by omega) _ _ _

set_option maxRecDepth 100000 in
set_option maxHeartbeats 3200000 in
theorem DivNum_err (na nb : Bool) (xsa ysa xsb ysb : List Nat) (A1 A2 A3 A4 : Value) (w : World) (h : Two w na nb A1 A2 A3 A4 xsa ysa xsb ysb) (o1 : Ok W32 xsa) (o2 : Ok W32 ysa) (o3 : Ok W32 xsb) (o4 : Ok W32 ysb) (he : err2 (checkL na xsa ysa) (checkL nb xsb ysb) ≠ 0) :
    Calls Tryd.prog 15 #[.agg #[.bool na, A1, A2], .agg #[.bool nb, A3, A4]] w (SPost w (zeroL, err2 (checkL na xsa ysa) (checkL nb xsb ysb))) := by
  have HT := Lib.hid h
  obtain ⟨⟨B1, c1, rfl, _⟩, ⟨B2, c2, rfl, _⟩, ⟨B3, c3, rfl, _⟩, ⟨B4, c4, rfl, _⟩⟩ := h
  have hbd := err2_bd (checkL_bd na xsa ysa) (checkL_bd nb xsb ysb)
  have HCK := Lib.hid (fun (W : World) (t : TypeId) (b cap : Nat) (hb : W.heap.size = b) (hW : Two W na nb (.slice B1 xsa.length c1) (.slice B2 ysa.length c2) (.slice B3 xsb.length c3) (.slice B4 ysb.length c4) xsa ysa xsb ysb) => checks_two' hW o1 o2 o3 o4 t b cap hb)
  clear o1 o2 o3 o4
  generalize err2 (checkL na xsa ysa) (checkL nb xsb ysb) = er at *
  generalize hz1 : xsa.length = n1 at *
  generalize hz2 : ysa.length = n2 at *
  generalize hz3 : xsb.length = n3 at *
  generalize hz4 : ysb.length = n4 at *
  clear hz1 hz2 hz3 hz4
  have he1 : (er != 0) = true := by rw [bne_iff_ne]; exact he
  clear he
  go_enter Tryd.func15, Tryd.ntmps15
  go_wp2_with fail
  refine (HCK.out _ _ _ _ (by simp) (by exact HT.out.to (below_three w _ _ _))).mono ?_
  rintro e w1 ⟨rfl, hb1⟩
  have hb0 := (below_one _ _).trans (hb1.mono (below_one _ _).size)
  obtain ⟨k1, k2, k3⟩ := blk3 w 24 #[.bool na, .slice B1 n1 c1, .slice B2 n2 c2] #[.bool nb, .slice B3 n3 c3, .slice B4 n4 c4] #[.bool false, .slice none 0 0, .slice none 0 0]
  have hblk := k3.to hb0
  have HBE : Hid (Below w.heap.size w w1) := (below_three w _ _ _).trans (hb0.mono (below_three w _ _ _).size)
  clear k1 k2 k3 hb0 hb1
  have hc0 := hblk.cell 0
  have hc1 := hblk.cell 1
  have hc2 := hblk.cell 2
  have hf0 := hblk.frozen 0
  have hf1 := hblk.frozen 1
  have hf2 := hblk.frozen 2
  have HBLK := Lib.hid hblk
  clear hblk
  simp only [List.getElem?_toArray, List.getElem?_cons_zero, List.getElem?_cons_succ] at hc0 hc1 hc2
  go_wp2_with fail
  refine bodyPost_ret (v := .tuple #[zeroNum, .int .i64 er]) (by rw [results_cell_tmp rfl]; go_simp; rfl) rfl ⟨_, rfl, GV.zero _, ?_⟩
  exact put3_below HBE.out (by omega) _ _ _

set_option maxRecDepth 100000 in
set_option maxHeartbeats 3200000 in
theorem DivNum_zero (na nb : Bool) (A1 A2 A3 A4 : Value) (xsa ysa xsb ysb : List Nat) (w : World) (h : Two w na nb A1 A2 A3 A4 xsa ysa xsb ysb) (hn : xsb.length = 0)
    (HCK : Hid (∀ (W : World) (t : TypeId) (b cap : Nat), W.heap.size = b → Two W na nb A1 A2 A3 A4 xsa ysa xsb ysb → Calls Tryd.prog 37 #[.slice (some ⟨b, 0, none⟩) 2 cap] (W.alloc (.cells #[.bool na, A1, A2, .bool nb, A3, A4] t)) fun e w' => e = .returned (.int .i64 0) ∧ Below (W.alloc (.cells #[.bool na, A1, A2, .bool nb, A3, A4] t)).heap.size (W.alloc (.cells #[.bool na, A1, A2, .bool nb, A3, A4] t)) w')) :
    Calls Tryd.prog 15 #[.agg #[.bool na, A1, A2], .agg #[.bool nb, A3, A4]] w (SPost w (zeroL, 10)) := by
  have HT := Lib.hid h
  obtain ⟨⟨B1, c1, rfl, _⟩, ⟨B2, c2, rfl, _⟩, ⟨B3, c3, rfl, _⟩, ⟨B4, c4, rfl, _⟩⟩ := h
  rw [hn] at HT HCK ⊢
  clear hn
  generalize hz1 : xsa.length = n1 at *
  generalize hz2 : ysa.length = n2 at *
  generalize hz4 : ysb.length = n4 at *
  clear hz1 hz2 hz4
  go_enter Tryd.func15, Tryd.ntmps15
  go_wp2_with fail
  refine (HCK.out _ _ _ _ (by simp) (by exact HT.out.to (below_three w _ _ _))).mono ?_
  rintro e w1 ⟨rfl, hb1⟩
  have hb0 := (below_one _ _).trans (hb1.mono (below_one _ _).size)
  obtain ⟨k1, k2, k3⟩ := blk3 w 24 #[.bool na, .slice B1 n1 c1, .slice B2 n2 c2] #[.bool nb, .slice B3 0 c3, .slice B4 n4 c4] #[.bool false, .slice none 0 0, .slice none 0 0]
  have hblk := k3.to hb0
  have hg2 := k2.to hb0
  have b1 := hg2.cell 1
  have HBE : Hid (Below w.heap.size w w1) := (below_three w _ _ _).trans (hb0.mono (below_three w _ _ _).size)
  clear k1 k2 k3 hb0 hb1 hg2
  have hc0 := hblk.cell 0
  have hc1 := hblk.cell 1
  have hc2 := hblk.cell 2
  have hf0 := hblk.frozen 0
  have hf1 := hblk.frozen 1
  have hf2 := hblk.frozen 2
  clear hblk
  simp only [List.getElem?_toArray, List.getElem?_cons_zero, List.getElem?_cons_succ] at b1 hc0 hc1 hc2
  go_wp2_with fail
  refine bodyPost_ret (v := .tuple #[zeroNum, .int .i64 10]) (by rw [results_cell_tmp rfl]; go_simp; rfl) rfl ⟨_, rfl, GV.zero _, ?_⟩
  exact put3_below HBE.out (by omega) _ _ _

theorem divNum_S (a b : LN) (va vb : Value) (w : World) (ha : GV w va a) (hb : GV w vb b) : Calls Tryd.prog 15 #[va, vb] w (SPost w (divS a b)) := by
  obtain ⟨A1, A2, rfl, h1, h2, o1, o2⟩ := ha
  obtain ⟨A3, A4, rfl, h3, h4, o3, o4⟩ := hb
  by_cases he : err2 a.err b.err = 0
  · obtain ⟨ea, eb⟩ := err2_zero.1 he
    obtain ⟨p1, p2, p3, p4, p5⟩ := LN.good ⟨o1, o2⟩ ea
    obtain ⟨q1, q2, q3, q4, q5⟩ := LN.good ⟨o3, o4⟩ eb
    have HCK : Hid (∀ (W : World) (t : TypeId) (b' cap : Nat), W.heap.size = b' → Two W a.neg b.neg A1 A2 A3 A4 a.num a.den b.num b.den → Calls Tryd.prog 37 #[.slice (some ⟨b', 0, none⟩) 2 cap] (W.alloc (.cells #[.bool a.neg, A1, A2, .bool b.neg, A3, A4] t)) fun e w' => e = .returned (.int .i64 0) ∧ Below (W.alloc (.cells #[.bool a.neg, A1, A2, .bool b.neg, A3, A4] t)).heap.size (W.alloc (.cells #[.bool a.neg, A1, A2, .bool b.neg, A3, A4] t)) w') := fun W t b' cap hb hW => by
      have h := checks_two' hW o1 o2 o3 o4 t b' cap hb
      rw [show err2 (checkL a.neg a.num a.den) (checkL b.neg b.num b.den) = 0 from he] at h
      exact h
    unfold divS
    rw [if_pos he]
    by_cases hn : b.num.length = 0
    · rw [if_pos hn]
      exact DivNum_zero a.neg b.neg A1 A2 A3 A4 _ _ _ _ w ⟨h1, h2, h3, h4⟩ hn HCK
    · rw [if_neg hn]
      exact DivNum_ok a.neg b.neg a.x a.y b.x b.y A1 A2 A3 A4 _ _ _ _ w ⟨h1, h2, h3, h4⟩ p1 p2 q1 q2 p3 p4 q3 q4 p5.1 q5.1 ((len_pos32 (n := b.num.length) (by rw [q1])).1 (Nat.pos_of_ne_zero hn)) HCK
  · unfold divS
    rw [if_neg he]
    exact DivNum_err a.neg b.neg a.num a.den b.num b.den A1 A2 A3 A4 w ⟨h1, h2, h3, h4⟩ o1 o2 o3 o4 he
end Go.Proofs.YteopmkcogmnpnaaDoor
namespace Go.Proofs.YteopmkcogmnpnaaDoor.LawArith
open Go.ChangeShapes Go.WideShapes Go.ChangeAt Go.RowKit NumB
set_option linter.unusedVariables false
set_option linter.unusedSimpArgs false

/-- What the walk says. -/
def Walk : Prop := ∀ (a0 : LN) (v0 : Value) (a1 : LN) (v1 : Value) (w : World), GV w v0 a0 → GV w v1 a1 →
  Calls Tryd.prog 4 #[v0, v1] w fun e w' => e = .returned (.bool true) ∧ Below w.heap.size w w'

set_option maxRecDepth 100000 in
theorem contract (hwalk : Walk) (H : Type) (enc : TypeId × Value → H) (W : World) (base : Nat) (args : Array Value) (ds gs : List (DataW H)) (before : List MemPlace)
    (hval : ∀ (j : Nat) t v, Tryd.f4.params[j]? = some t → args[j]? = some v → Value.okWide Tryd.prog W .any base t v)
    (hW : DataW.Whole enc Tryd.prog Tryd.f4.params.toList Rows.numberArithmeticMatchesSpecSpec.vars false W args.toList ds gs before) :
    Calls Tryd.prog 4 args W fun e W' => ∃ v, e = .returned v ∧ Rows.numberArithmeticMatchesSpecSpec.post enc Tryd.prog Tryd.f4 false true false false W args v W' := by
  have hW' := hW
  obtain ⟨p, q, hA0, hV, rfl, hfz, hnd⟩ := hW
  have hA : DataW.TrodAll enc Tryd.prog W 0 (fun _ => true) true Tryd.f4.params.toList args.toList ds p := hA0
  have hA1 := hA
  clear hA0
  rw [Tryd.params4] at hA hval
  obtain ⟨v0, vs0, d0, ds0, p0, q0, hargs, rfl, rfl, h0, r0⟩ := trodAll_cons hA
  obtain ⟨v1, vs1, d1, ds1, p1, q1, rfl, rfl, rfl, h1, r1⟩ := trodAll_cons r0
  obtain ⟨rfl, rfl, rfl⟩ := trodAll_nil r1
  obtain rfl : args = #[v0, v1] := by cases args; simp_all
  obtain ⟨rfl, rfl⟩ := trodVars_none hV
  obtain ⟨neg0, va0, vb0, xs0, ys0, rfl, hx0, hy0, ox0, oy0⟩ := open_number (hval 0 24 v0 rfl rfl) h0
  obtain ⟨neg1, va1, vb1, xs1, ys1, rfl, hx1, hy1, ox1, oy1⟩ := open_number (hval 1 24 v1 rfl rfl) h1
  simp only [List.append_nil] at hW' hA1
  refine (hwalk ⟨neg0, xs0, ys0⟩ _ ⟨neg1, xs1, ys1⟩ _ W ⟨va0, vb0, rfl, hx0, hy0, ox0, oy0⟩ ⟨va1, vb1, rfl, hx1, hy1, ox1, oy1⟩).mono fun e W' ⟨he, hb⟩ => ?_
  subst he
  refine ⟨_, rfl, post_law rfl hW' hA1 ?_ rfl rfl hb⟩
  rw [Tryd.params4]
  intro t ht
  have hm : t ∈ [24, 24] := by simpa using ht
  have hall : ([24, 24].all fun u => Tryd.prog.readableRec u && decide (u < Tryd.prog.types.size)) = true := by kernel_rfl
  have := List.all_eq_true.1 hall t hm
  simp only [Bool.and_eq_true, decide_eq_true_eq] at this
  exact this

def wit : Array Value := #[.agg #[.bool false, .slice none 0 0, .slice none 0 0], .agg #[.bool false, .slice none 0 0, .slice none 0 0]]
set_option maxRecDepth 100000 in
theorem laid_met (os : Os) : laidMet Tryd.prog Rows.numberArithmeticMatchesSpecRow.laid ((World.laidAll Tryd.prog os Rows.numberArithmeticMatchesSpecRow.laid).forCall (fun _ _ => 0) ⟨#[], wit, []⟩).memory :=
  laidMet_laidAll wit (by kernel_rfl) (by kernel_rfl)
set_option maxRecDepth 100000 in
theorem reads (os : Os) {H : Type} (enc : TypeId × Value → H) : ∃ ds places, DataW.whole enc Tryd.prog ((World.laidAll Tryd.prog os Rows.numberArithmeticMatchesSpecRow.laid).forCall (fun _ _ => 0) ⟨#[], wit, []⟩).memory Tryd.f4.params.toList Rows.numberArithmeticMatchesSpecSpec.vars false wit.toList 8 = some (ds, [], places) :=
  ⟨[.agg [.lit (.bool false), .nil, .nil], .agg [.lit (.bool false), .nil, .nil]], [], by kernel_rfl⟩

set_option maxRecDepth 100000 in
theorem lifted (hwalk : Walk) (os : Os) (started : os.Started) (H : Type) (enc : TypeId × Value → H) (F : Stop.Interp) :
    ReturnsInHanded {} Tryd.checked os 4 .any ((OpenSpec.ofChange Rows.numberArithmeticMatchesSpecSpec).preRow enc Tryd.prog Tryd.f4 Rows.numberArithmeticMatchesSpecRow.domain false Rows.numberArithmeticMatchesSpecRow.laid) (((OpenSpec.ofChange Rows.numberArithmeticMatchesSpecSpec).at F).post enc Tryd.prog Tryd.f4 false true false false) := by
  obtain ⟨ds, places, hx⟩ := reads os enc
  refine returnsInHanded_of_row (C := Tryd.checked) (s := OpenSpec.ofChange Rows.numberArithmeticMatchesSpecSpec) own started (by kernel_rfl) Tryd.func4
    (witness_row_at (enc := enc) (C := Tryd.checked) false (World.laidAll Tryd.prog os Rows.numberArithmeticMatchesSpecRow.laid) wit rfl (by kernel_rfl) (by kernel_rfl) (by kernel_rfl)
      (OpenSpec.preRow_of_cond 8 hx (by kernel_rfl) (fun k hk => by cases hk) (by kernel_rfl) (laid_met os))) ?_
  intro W base args ds gs before hval hW _ _ _ hL _ _
  exact contract hwalk H enc W base args ds gs before hval hW

set_option maxRecDepth 100000 in
theorem said (hwalk : Walk) : Rows.NumberArithmeticMatchesSpecSaid :=
  OpenClaim.holds_of_cond 4 Tryd.f4 rfl rfl rfl rfl rfl rfl rfl ⟨rfl, rfl, rfl, rfl, rfl⟩ rfl rfl rfl rfl rfl (by kernel_rfl) Tryd.func4 (by kernel_rfl)
    (of_decide_eq_true (by kernel_rfl)) (by unfold Func.isWrapper; first | (rw [if_pos (by decide +kernel)]; kernel_rfl) | (rw [if_neg (by decide +kernel)]; exact ⟨rfl, rfl⟩))
    (fun os started H enc _ F => by rw [OpenClaim.pre_eq_preRow]; exact lifted hwalk os started H enc F)

set_option maxRecDepth 100000 in
theorem plain (f : FuncId) (fn : Func) (hf : Tryd.pinned.checked.prog.funcNamed "fetterlock/fetterlocklaw1.NumberArithmeticMatchesSpec" = some f) (hfn : Tryd.pinned.checked.prog.funcs[f]? = some fn) :
    false = Tryd.pinned.checked.prog.looks [] ∧ ∀ (j : Nat) t, fn.params[j]? = some t → Tryd.pinned.checked.prog.wantsStandIn t = false := by
  obtain rfl : f = 4 := Option.some.inj ((show Tryd.prog.funcNamed "fetterlock/fetterlocklaw1.NumberArithmeticMatchesSpec" = some 4 by kernel_rfl).symm.trans hf) |>.symm
  obtain rfl : fn = Tryd.f4 := (Option.some.inj (Tryd.func4.symm.trans hfn)).symm
  refine ⟨by kernel_rfl, fun j t ht => ?_⟩
  rw [Tryd.params4] at ht
  have hm : t ∈ [24, 24] := by simpa using Array.mem_of_getElem? ht
  have hall : ([24, 24].all fun u => !Tryd.prog.wantsStandIn u) = true := by kernel_rfl
  exact (show Tryd.prog.wantsStandIn t = false by simpa using List.all_eq_true.1 hall t hm)

set_option maxRecDepth 100000 in
theorem card (hwalk : Walk) : Rows.NumberArithmeticMatchesSpecCardSaid :=
  Claim7.holds_tied_plain_at .later [] _ _ _ _ (said hwalk) (fun _ h => by cases h) (by kernel_rfl) (fun _ h => by cases h) numberArithmeticMatchesSpec_row_tie rfl ⟨rfl, rfl⟩ (by kernel_rfl) rfl plain (by kernel_rfl)
end Go.Proofs.YteopmkcogmnpnaaDoor.LawArith

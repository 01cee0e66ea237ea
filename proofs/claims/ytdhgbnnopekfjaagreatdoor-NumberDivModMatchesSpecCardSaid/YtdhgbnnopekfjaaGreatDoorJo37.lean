/- number.Div, at any two numbers. The frame of a law: arguments read again, the post where only new memory was made; a number that came in, opened. -/
import Derived.Deep.RegionHeld3
import Derived.Test.YtdhgbnnopekfjaaGreatDoorRows
import Derived.WalkKit
import Derived.ProofKit
import Derived.OpenShut
import Derived.Lib.SmallJoins
import Derived.Deep.DeepHandedRow
import Derived.Lay
import Derived.Test.YtdhgbnnopekfjaaGreatDoorJo2
import Derived.Test.YtdhgbnnopekfjaaGreatDoorJo24
set_option linter.unusedVariables false
set_option linter.unusedSimpArgs false
namespace Go.Proofs.YtdhgbnnopekfjaaGreatDoor
open Go.RowKit NumB
set_option linter.unusedVariables false
set_option linter.unusedSimpArgs false

set_option maxRecDepth 100000 in
set_option maxHeartbeats 6400000 in
theorem DivNum_ok (na nb : Bool) (xa ya xb yb : Nat) (A1 A2 A3 A4 : Value) (xsa ysa xsb ysb : List Nat) (w : World) (h : Two w na nb A1 A2 A3 A4 xsa ysa xsb ysb) (e1 : digs W32 xa = xsa) (e2 : digs W32 ya = ysa) (e3 : digs W32 xb = xsb) (e4 : digs W32 yb = ysb)
    (l1 : xsa.length ≤ 128) (l2 : ysa.length ≤ 128) (l3 : xsb.length ≤ 128) (l4 : ysb.length ≤ 128) (hya : 0 < ya) (hyb : 0 < yb) (hxb : 0 < xb)
    (HCK : Hid (∀ (W : World) (t : TypeId) (b cap : Nat), W.heap.size = b → Two W na nb A1 A2 A3 A4 xsa ysa xsb ysb → Calls Tryz.prog 48 #[.slice (some ⟨b, 0, none⟩) 2 cap] (W.alloc (.cells #[.bool na, A1, A2, .bool nb, A3, A4] t)) fun e w' => e = .returned (.int .i64 0) ∧ Below (W.alloc (.cells #[.bool na, A1, A2, .bool nb, A3, A4] t)).heap.size (W.alloc (.cells #[.bool na, A1, A2, .bool nb, A3, A4] t)) w')) :
    Calls Tryz.prog 16 #[.agg #[.bool na, A1, A2], .agg #[.bool nb, A3, A4]] w (SPost w (fracS 0 (na != nb) (xa * yb) (ya * xb))) := by
  have HT := Lib.hid h
  have hN : ∀ W : World, Two W na nb A1 A2 A3 A4 xsa ysa xsb ysb → Nat32 W A1 xa ∧ Nat32 W A2 ya ∧ Nat32 W A3 xb ∧ Nat32 W A4 yb := fun W hW => by
    unfold Nat32; rw [e1, e2, e3, e4]; exact hW
  have HN := Lib.hid hN
  have HL : Hid (((digs W32 xa).length ≤ 50000 ∧ (digs W32 ya).length ≤ 50000) ∧ ((digs W32 xb).length ≤ 50000 ∧ (digs W32 yb).length ≤ 50000)) := by rw [e1, e2, e3, e4]; exact ⟨⟨by omega, by omega⟩, by omega, by omega⟩
  have HM : Hid ((digs W32 (xa * yb)).length ≤ 50000 ∧ (digs W32 (ya * xb)).length ≤ 50000) := by
    have m1 := digs_len_mul xa yb
    have m2 := digs_len_mul ya xb
    rw [e1, e4] at m1
    rw [e2, e3] at m2
    exact ⟨by omega, by omega⟩
  have HD0 : Hid (0 < ya * xb) := Nat.mul_pos hya hxb
  obtain ⟨⟨B1, c1, rfl, _⟩, ⟨B2, c2, rfl, _⟩, ⟨B3, c3, rfl, _⟩, ⟨B4, c4, rfl, _⟩⟩ := h
  have HMD := Lib.hid (fun (u v : Value) (W : World) (a1 : Nat32 W u (xa * yb)) (a2 : Nat32 W v (ya * xb)) => made_S (na != nb) (xa * yb) (ya * xb) u v W a1 a2 HD0.out HM.out.1 HM.out.2)
  have hnz : ((xsb.length : Int) == 0) = false := beq_eq_false_iff_ne.2 (by have := (len_pos32 (x := xb) (n := xsb.length) (by rw [e3])).2 hxb; omega)
  generalize hz1 : xsa.length = n1 at *
  generalize hz2 : ysa.length = n2 at *
  generalize hz3 : xsb.length = n3 at *
  generalize hz4 : ysb.length = n4 at *
  clear hz1 hz2 hz3 hz4 e1 e2 e3 e4 l1 l2 l3 l4 hya hyb hN hxb
  have hkeep : ∀ W1 W' : World, Below W1.heap.size W1 W' → (W1.cell? ⟨w.heap.size, 0, none⟩ = some (.bool na) ∧ W1.cell? ⟨w.heap.size, 1, none⟩ = some (.slice B1 n1 c1) ∧ W1.cell? ⟨w.heap.size, 2, none⟩ = some (.slice B2 n2 c2) ∧ W1.cell? ⟨w.heap.size + 1, 0, none⟩ = some (.bool nb) ∧ W1.cell? ⟨w.heap.size + 1, 1, none⟩ = some (.slice B3 n3 c3) ∧ W1.cell? ⟨w.heap.size + 1, 2, none⟩ = some (.slice B4 n4 c4) ∧ w.heap.size + 2 < W1.heap.size) → (W'.cell? ⟨w.heap.size, 0, none⟩ = some (.bool na) ∧ W'.cell? ⟨w.heap.size, 1, none⟩ = some (.slice B1 n1 c1) ∧ W'.cell? ⟨w.heap.size, 2, none⟩ = some (.slice B2 n2 c2) ∧ W'.cell? ⟨w.heap.size + 1, 0, none⟩ = some (.bool nb) ∧ W'.cell? ⟨w.heap.size + 1, 1, none⟩ = some (.slice B3 n3 c3) ∧ W'.cell? ⟨w.heap.size + 1, 2, none⟩ = some (.slice B4 n4 c4) ∧ w.heap.size + 2 < W'.heap.size) := fun W1 W' h1 h2 => Box2.to (w := W1) (w' := W') (g := w.heap.size) h2 h1
  have HK := Lib.hid hkeep
  clear hkeep
  have HKP : Hid (∀ (W1 : World) (x y z : Value), (W1.cell? ⟨w.heap.size, 0, none⟩ = some (.bool na) ∧ W1.cell? ⟨w.heap.size, 1, none⟩ = some (.slice B1 n1 c1) ∧ W1.cell? ⟨w.heap.size, 2, none⟩ = some (.slice B2 n2 c2) ∧ W1.cell? ⟨w.heap.size + 1, 0, none⟩ = some (.bool nb) ∧ W1.cell? ⟨w.heap.size + 1, 1, none⟩ = some (.slice B3 n3 c3) ∧ W1.cell? ⟨w.heap.size + 1, 2, none⟩ = some (.slice B4 n4 c4) ∧ w.heap.size + 2 < W1.heap.size) → ((((W1.setCell ⟨w.heap.size + 1 + 1, 0, none⟩ x).setCell ⟨w.heap.size + 1 + 1, 1, none⟩ y).setCell ⟨w.heap.size + 1 + 1, 2, none⟩ z).cell? ⟨w.heap.size, 0, none⟩ = some (.bool na) ∧ (((W1.setCell ⟨w.heap.size + 1 + 1, 0, none⟩ x).setCell ⟨w.heap.size + 1 + 1, 1, none⟩ y).setCell ⟨w.heap.size + 1 + 1, 2, none⟩ z).cell? ⟨w.heap.size, 1, none⟩ = some (.slice B1 n1 c1) ∧ (((W1.setCell ⟨w.heap.size + 1 + 1, 0, none⟩ x).setCell ⟨w.heap.size + 1 + 1, 1, none⟩ y).setCell ⟨w.heap.size + 1 + 1, 2, none⟩ z).cell? ⟨w.heap.size, 2, none⟩ = some (.slice B2 n2 c2) ∧ (((W1.setCell ⟨w.heap.size + 1 + 1, 0, none⟩ x).setCell ⟨w.heap.size + 1 + 1, 1, none⟩ y).setCell ⟨w.heap.size + 1 + 1, 2, none⟩ z).cell? ⟨w.heap.size + 1, 0, none⟩ = some (.bool nb) ∧ (((W1.setCell ⟨w.heap.size + 1 + 1, 0, none⟩ x).setCell ⟨w.heap.size + 1 + 1, 1, none⟩ y).setCell ⟨w.heap.size + 1 + 1, 2, none⟩ z).cell? ⟨w.heap.size + 1, 1, none⟩ = some (.slice B3 n3 c3) ∧ (((W1.setCell ⟨w.heap.size + 1 + 1, 0, none⟩ x).setCell ⟨w.heap.size + 1 + 1, 1, none⟩ y).setCell ⟨w.heap.size + 1 + 1, 2, none⟩ z).cell? ⟨w.heap.size + 1, 2, none⟩ = some (.slice B4 n4 c4) ∧ w.heap.size + 2 < (((W1.setCell ⟨w.heap.size + 1 + 1, 0, none⟩ x).setCell ⟨w.heap.size + 1 + 1, 1, none⟩ y).setCell ⟨w.heap.size + 1 + 1, 2, none⟩ z).heap.size)) := fun W1 x y z ⟨h0, h1, h2, h3, h4, h5, h6⟩ =>
    ⟨(put3_far W1 (w.heap.size + 1 + 1) x y z ⟨w.heap.size, 0, none⟩ (by show w.heap.size ≠ _; omega)).trans h0, (put3_far W1 (w.heap.size + 1 + 1) x y z ⟨w.heap.size, 1, none⟩ (by show w.heap.size ≠ _; omega)).trans h1, (put3_far W1 (w.heap.size + 1 + 1) x y z ⟨w.heap.size, 2, none⟩ (by show w.heap.size ≠ _; omega)).trans h2, (put3_far W1 (w.heap.size + 1 + 1) x y z ⟨w.heap.size + 1, 0, none⟩ (by show w.heap.size + 1 ≠ _; omega)).trans h3, (put3_far W1 (w.heap.size + 1 + 1) x y z ⟨w.heap.size + 1, 1, none⟩ (by show w.heap.size + 1 ≠ _; omega)).trans h4, (put3_far W1 (w.heap.size + 1 + 1) x y z ⟨w.heap.size + 1, 2, none⟩ (by show w.heap.size + 1 ≠ _; omega)).trans h5, by rw [show ((W1.setCell ⟨w.heap.size + 1 + 1, 0, none⟩ x).setCell ⟨w.heap.size + 1 + 1, 1, none⟩ y).setCell ⟨w.heap.size + 1 + 1, 2, none⟩ z = put3 W1 (w.heap.size + 1 + 1) x y z from rfl, put3_size]; exact h6⟩
  generalize fracS 0 (na != nb) (xa * yb) (ya * xb) = r at *
  obtain ⟨rl, re⟩ := r
  go_enter Tryz.func16, Tryz.ntmps16
  go_wp2_with fail
  refine (HCK.out _ _ _ _ (by simp) (by exact HT.out.to (below_three w _ _ _))).mono ?_
  rintro e w1 ⟨rfl, hb1⟩
  have hb0 := (below_one _ _).trans (hb1.mono (below_one _ _).size)
  obtain ⟨k1, k2, k3⟩ := blk3 w 24 #[.bool na, .slice B1 n1 c1, .slice B2 n2 c2] #[.bool nb, .slice B3 n3 c3, .slice B4 n4 c4] #[.bool false, .slice none 0 0, .slice none 0 0]
  have hg1 := k1.to hb0
  have hg2 := k2.to hb0
  have HG3 := Lib.hid (k3.to hb0)
  have HT1 := Lib.hid ((HT.out.to (below_three w _ _ _)).to hb0)
  have HBL : Hid (Below w.heap.size w w1) := (below_three w _ _ _).trans (hb0.mono (below_three w _ _ _).size)
  have a0 := hg1.cell 0
  have a1 := hg1.cell 1
  have a2 := hg1.cell 2
  have b0 := hg2.cell 0
  have b1 := hg2.cell 1
  have b2 := hg2.cell 2
  have hsz : w.heap.size + 2 < w1.heap.size := HG3.out.lt
  clear k1 k2 k3 hg1 hg2 hb0 hb1 HT HCK
  simp only [List.getElem?_toArray, List.getElem?_cons_zero, List.getElem?_cons_succ] at a0 a1 a2 b0 b1 b2
  have HTD : Hid (Two w1.drew na nb (.slice B1 n1 c1) (.slice B2 n2 c2) (.slice B3 n3 c3) (.slice B4 n4 c4) xsa ysa xsb ysb) := HT1.out.to (Below.refl _ _).drew
  have hbne : (na != nb) = !(na == nb) := rfl
  rw [hbne] at HMD
  clear hbne
  have hne1 : (w.heap.size = w.heap.size + 1 + 1) = False := eq_false (by omega)
  have hne2 : (w.heap.size + 1 + 1 = w.heap.size) = False := eq_false (by omega)
  go_wp2_with fail
  go_region_held3 (fun w' => w'.cell? ⟨w.heap.size, 0, none⟩ = some (.bool na) ∧ w'.cell? ⟨w.heap.size, 1, none⟩ = some (.slice B1 n1 c1) ∧ w'.cell? ⟨w.heap.size, 2, none⟩ = some (.slice B2 n2 c2) ∧ w'.cell? ⟨w.heap.size + 1, 0, none⟩ = some (.bool nb) ∧ w'.cell? ⟨w.heap.size + 1, 1, none⟩ = some (.slice B3 n3 c3) ∧ w'.cell? ⟨w.heap.size + 1, 2, none⟩ = some (.slice B4 n4 c4) ∧ w.heap.size + 2 < w'.heap.size)
    (first | go_keep | (refine HKP.out _ _ _ _ ?_; go_keep) | (refine HK.out _ _ (by assumption) ?_; go_keep))
    (first
      | (go_at_call 30; ((with_reducible refine (mul_any xa yb (.slice B1 n1 c1) (.slice B4 n4 c4) _ (by exact (HN.out _ HTD.out).1) (by exact (HN.out _ HTD.out).2.2.2) HL.out.1.1 HL.out.2.2).mono ?_)); rintro e w2 ⟨v2, rfl, hn2, hb2⟩)
      | (go_at_call 30; ((with_reducible refine (mul_any ya xb (.slice B2 n2 c2) (.slice B3 n3 c3) _ (by exact (HN.out _ (HTD.out.to hb2)).2.1) (by exact (HN.out _ (HTD.out.to hb2)).2.2.1) HL.out.1.2 HL.out.2.1).mono ?_)); rintro e w3 ⟨v3, rfl, hn3, hb3⟩)
      | (go_at_call 49; ((with_reducible refine (HMD.out _ _ _ (by exact hn2.to hb3) (by exact hn3)).mono ?_)); rintro e w4 ⟨v4, rfl, hn4, hb4⟩; obtain ⟨A, _, c, B, _, d, rfl, rfl, rfl⟩ := hn4.form; have hblk := ((HG3.out.drew.to hb2).to hb3).to hb4; have hc0 := hblk.cell 0; have hc1 := hblk.cell 1; have hc2 := hblk.cell 2; have hf0 := hblk.frozen 0; have hf1 := hblk.frozen 1; have hf2 := hblk.frozen 2; simp only [List.getElem?_toArray, List.getElem?_cons_zero, List.getElem?_cons_succ] at hc0 hc1 hc2))
  all_goals
    go_wp2_with fail
    refine bodyPost_ret (v := .tuple #[.agg #[.bool rl.neg, .slice A rl.num.length c, .slice B rl.den.length d], .int .i64 re]) (by rw [results_cell_tmp rfl]; go_simp) rfl ⟨_, rfl, ?_, ?_⟩
    · exact hn4.put3 hblk _ _ _
    · exact put3_below ((((HBL.out.drew).trans (hb2.mono HBL.out.drew.size)).trans (hb3.mono (Nat.le_trans HBL.out.drew.size hb2.size))).trans (hb4.mono (Nat.le_trans (Nat.le_trans HBL.out.drew.size hb2.size) hb3.size))) (by omega) _ _ _

set_option maxRecDepth 100000 in
set_option maxHeartbeats 3200000 in
theorem DivNum_err (na nb : Bool) (xsa ysa xsb ysb : List Nat) (A1 A2 A3 A4 : Value) (w : World) (h : Two w na nb A1 A2 A3 A4 xsa ysa xsb ysb) (o1 : Ok W32 xsa) (o2 : Ok W32 ysa) (o3 : Ok W32 xsb) (o4 : Ok W32 ysb) (he : err2 (checkL na xsa ysa) (checkL nb xsb ysb) ≠ 0) :
    Calls Tryz.prog 16 #[.agg #[.bool na, A1, A2], .agg #[.bool nb, A3, A4]] w (SPost w (zeroL, err2 (checkL na xsa ysa) (checkL nb xsb ysb))) := by
  have HT := Lib.hid h
  obtain ⟨⟨B1, c1, rfl, _⟩, ⟨B2, c2, rfl, _⟩, ⟨B3, c3, rfl, _⟩, ⟨B4, c4, rfl, _⟩⟩ := h
  have hbd := err2_bd (checkL_bd na xsa ysa) (checkL_bd nb xsb ysb)
  have HCK := Lib.hid (fun (W : World) (t : TypeId) (b cap : Nat) (hb : W.heap.size = b) (hW : Two W na nb (.slice B1 xsa.length c1) (.slice B2 ysa.length c2) (.slice B3 xsb.length c3) (.slice B4 ysb.length c4) xsa ysa xsb ysb) => checks_two' hW o1 o2 o3 o4 t b cap hb)
  clear o1 o2 o3 o4
  generalize err2 (checkL na xsa ysa) (checkL nb xsb ysb) = er at *
  generalize hz1 : xsa.length = n1 at *
  generalize hz2 : ysa.length = n2 at *
  generalize hz3 : xsb.length = n3 at *
  generalize hz4 : ysb.length = n4 at *
  clear hz1 hz2 hz3 hz4
  have he1 : (er != 0) = true := by rw [bne_iff_ne]; exact he
  clear he
  go_enter Tryz.func16, Tryz.ntmps16
  go_wp2_with fail
  refine (HCK.out _ _ _ _ (by simp) (by exact HT.out.to (below_three w _ _ _))).mono ?_
  rintro e w1 ⟨rfl, hb1⟩
  have hb0 := (below_one _ _).trans (hb1.mono (below_one _ _).size)
  obtain ⟨k1, k2, k3⟩ := blk3 w 24 #[.bool na, .slice B1 n1 c1, .slice B2 n2 c2] #[.bool nb, .slice B3 n3 c3, .slice B4 n4 c4] #[.bool false, .slice none 0 0, .slice none 0 0]
  have hblk := k3.to hb0
  have HBE : Hid (Below w.heap.size w w1) := (below_three w _ _ _).trans (hb0.mono (below_three w _ _ _).size)
  clear k1 k2 k3 hb0 hb1
  have hc0 := hblk.cell 0
  have hc1 := hblk.cell 1
  have hc2 := hblk.cell 2
  have hf0 := hblk.frozen 0
  have hf1 := hblk.frozen 1
  have hf2 := hblk.frozen 2
  have HBLK := Lib.hid hblk
  clear hblk
  simp only [List.getElem?_toArray, List.getElem?_cons_zero, List.getElem?_cons_succ] at hc0 hc1 hc2
  go_wp2_with fail
  refine bodyPost_ret (v := .tuple #[zeroNum, .int .i64 er]) (by rw [results_cell_tmp rfl]; go_simp; rfl) rfl ⟨_, rfl, GV.zero _, ?_⟩
  exact put3_below HBE.out (by omega) _ _ _

set_option maxRecDepth 100000 in
set_option maxHeartbeats 3200000 in
theorem DivNum_zero (na nb : Bool) (A1 A2 A3 A4 : Value) (xsa ysa xsb ysb : List Nat) (w : World) (h : Two w na nb A1 A2 A3 A4 xsa ysa xsb ysb) (hn : xsb.length = 0)
    (HCK : Hid (∀ (W : World) (t : TypeId) (b cap : Nat), W.heap.size = b → Two W na nb A1 A2 A3 A4 xsa ysa xsb ysb → Calls Tryz.prog 48 #[.slice (some ⟨b, 0, none⟩) 2 cap] (W.alloc (.cells #[.bool na, A1, A2, .bool nb, A3, A4] t)) fun e w' => e = .returned (.int .i64 0) ∧ Below (W.alloc (.cells #[.bool na, A1, A2, .bool nb, A3, A4] t)).heap.size (W.alloc (.cells #[.bool na, A1, A2, .bool nb, A3, A4] t)) w')) :
    Calls Tryz.prog 16 #[.agg #[.bool na, A1, A2], .agg #[.bool nb, A3, A4]] w (SPost w (zeroL, 10)) := by
  have HT := Lib.hid h
  obtain ⟨⟨B1, c1, rfl, _⟩, ⟨B2, c2, rfl, _⟩, ⟨B3, c3, rfl, _⟩, ⟨B4, c4, rfl, _⟩⟩ := h
  rw [hn] at HT HCK ⊢
  clear hn
  generalize hz1 : xsa.length = n1 at *
  generalize hz2 : ysa.length = n2 at *
  generalize hz4 : ysb.length = n4 at *
  clear hz1 hz2 hz4
  go_enter Tryz.func16, Tryz.ntmps16
  go_wp2_with fail
  refine (HCK.out _ _ _ _ (by simp) (by exact HT.out.to (below_three w _ _ _))).mono ?_
  rintro e w1 ⟨rfl, hb1⟩
  have hb0 := (below_one _ _).trans (hb1.mono (below_one _ _).size)
  obtain ⟨k1, k2, k3⟩ := blk3 w 24 #[.bool na, .slice B1 n1 c1, .slice B2 n2 c2] #[.bool nb, .slice B3 0 c3, .slice B4 n4 c4] #[.bool false, .slice none 0 0, .slice none 0 0]
  have hblk := k3.to hb0
  have hg2 := k2.to hb0
  have b1 := hg2.cell 1
  have HBE : Hid (Below w.heap.size w w1) := (below_three w _ _ _).trans (hb0.mono (below_three w _ _ _).size)
  clear k1 k2 k3 hb0 hb1 hg2
  have hc0 := hblk.cell 0
  have hc1 := hblk.cell 1
  have hc2 := hblk.cell 2
  have hf0 := hblk.frozen 0
  have hf1 := hblk.frozen 1
  have hf2 := hblk.frozen 2
  clear hblk
  simp only [List.getElem?_toArray, List.getElem?_cons_zero, List.getElem?_cons_succ] at b1 hc0 hc1 hc2
  go_wp2_with fail
  refine bodyPost_ret (v := .tuple #[zeroNum, .int .i64 10]) (by rw [results_cell_tmp rfl]; go_simp; rfl) rfl ⟨_, rfl, GV.zero _, ?_⟩
  exact put3_below HBE.out (by omega) _ _ _

theorem divNum_S (a b : LN) (va vb : Value) (w : World) (ha : GV w va a) (hb : GV w vb b) : Calls Tryz.prog 16 #[va, vb] w (SPost w (divS a b)) := by
  obtain ⟨A1, A2, rfl, h1, h2, o1, o2⟩ := ha
  obtain ⟨A3, A4, rfl, h3, h4, o3, o4⟩ := hb
  by_cases he : err2 a.err b.err = 0
  · obtain ⟨ea, eb⟩ := err2_zero.1 he
    obtain ⟨p1, p2, p3, p4, p5⟩ := LN.good ⟨o1, o2⟩ ea
    obtain ⟨q1, q2, q3, q4, q5⟩ := LN.good ⟨o3, o4⟩ eb
    have HCK : Hid (∀ (W : World) (t : TypeId) (b' cap : Nat), W.heap.size = b' → Two W a.neg b.neg A1 A2 A3 A4 a.num a.den b.num b.den → Calls Tryz.prog 48 #[.slice (some ⟨b', 0, none⟩) 2 cap] (W.alloc (.cells #[.bool a.neg, A1, A2, .bool b.neg, A3, A4] t)) fun e w' => e = .returned (.int .i64 0) ∧ Below (W.alloc (.cells #[.bool a.neg, A1, A2, .bool b.neg, A3, A4] t)).heap.size (W.alloc (.cells #[.bool a.neg, A1, A2, .bool b.neg, A3, A4] t)) w') := fun W t b' cap hb hW => by
      have h := checks_two' hW o1 o2 o3 o4 t b' cap hb
      rw [show err2 (checkL a.neg a.num a.den) (checkL b.neg b.num b.den) = 0 from he] at h
      exact h
    unfold divS
    rw [if_pos he]
    by_cases hn : b.num.length = 0
    · rw [if_pos hn]
      exact DivNum_zero a.neg b.neg A1 A2 A3 A4 _ _ _ _ w ⟨h1, h2, h3, h4⟩ hn HCK
    · rw [if_neg hn]
      exact DivNum_ok a.neg b.neg a.x a.y b.x b.y A1 A2 A3 A4 _ _ _ _ w ⟨h1, h2, h3, h4⟩ p1 p2 q1 q2 p3 p4 q3 q4 p5.1 q5.1 ((len_pos32 (n := b.num.length) (by rw [q1])).1 (Nat.pos_of_ne_zero hn)) HCK
  · unfold divS
    rw [if_neg he]
    exact DivNum_err a.neg b.neg a.num a.den b.num b.den A1 A2 A3 A4 w ⟨h1, h2, h3, h4⟩ o1 o2 o3 o4 he
end Go.Proofs.YtdhgbnnopekfjaaGreatDoor
namespace Go.Proofs.YtdhgbnnopekfjaaGreatDoor
open Go.ChangeShapes Go.WideShapes Go.ChangeAt Go.RowKit Go.Joins NumB
set_option linter.unusedVariables false
set_option linter.unusedSimpArgs false

theorem own : ownKnob Tryz.prog.godebug = none := by kernel_rfl
theorem laidOut : laidOutB Tryz.prog = true := by kernel_rfl

/-- The arguments read again where nothing old has turned. -/
theorem below_trodAll {H : Type} {enc : TypeId × Value → H} {P : Program} (hl : laidOutB P = true) {W W' : World} (hb : Below W.heap.size W W') :
    ∀ {ts : List TypeId} {vs : List Value} {ds : List (DataW H)} {ps : List MemPlace}, (∀ t ∈ ts, P.readableRec t = true ∧ t < P.types.size) → DataW.TrodAll enc P W 0 (fun _ => true) true ts vs ds ps → (∀ x ∈ ps, x.block < W.heap.size) →
      DataW.TrodAll enc P W' 0 (fun b => decide (b < W.heap.size)) true ts vs ds ps
  | [], [], [], _, _, h, _ => h
  | t :: _, _ :: _, _ :: _, _, hT, ⟨p, q, h1, h2, e⟩, hs => ⟨p, q, Below.trod hl (hT t (by simp)).1 (hT t (by simp)).2 h1 hb (fun x hx => hs x (by rw [e]; exact List.mem_append_left _ hx)), below_trodAll hl hb (fun u hu => hT u (by simp [hu])) h2 (fun x hx => hs x (by rw [e]; exact List.mem_append_right _ hx)), e⟩

/-- The post of a law: it answered true, and only new memory was made. -/
theorem post_law {H : Type} {enc : TypeId × Value → H} {f : Func} {s : ChangeSpec} {W W' : World} {args : Array Value} {ds : List (DataW H)} {before : List MemPlace} (hvars : s.vars = [])
    (hW : DataW.Whole enc Tryz.prog f.params.toList s.vars false W args.toList ds [] before)
    (hA : DataW.TrodAll enc Tryz.prog W 0 (fun _ => true) true f.params.toList args.toList ds before)
    (hT : ∀ t ∈ f.params.toList, Tryz.prog.readableRec t = true ∧ t < Tryz.prog.types.size)
    (hres : f.resultTypes = #[4]) (hfn : s.fn H ds = { results := [.lit (.bool true)], args := ds })
    (hb : Below W.heap.size W W') : s.post enc Tryz.prog f false true false false W args (.bool true) W' := by
  have hlt : ∀ p ∈ before, p.block < W.heap.size := fun p hp => hW.lt p hp
  have e : s.fn H (ds ++ []) = { results := [.lit (.bool true)], args := ds } := by rw [List.append_nil]; exact hfn
  refine ⟨ds, [], before, [], before, [], hW, ?_, ?_, ?_, hb.frame _, fun h => by cases h⟩
  · rw [e, hres]; exact trodAll_mk1 (shut_bool Tryz.underlying4 _)
  · rw [e]; exact below_trodAll laidOut hb hT hA hlt
  · rw [e, hvars]; exact rfl

set_option maxRecDepth 100000 in
/-- A slice of limbs that came in. -/
theorem open_limbs {H : Type} {enc : TypeId × Value → H} {W : World} {n : Nat} {v : Value} {y : DataW H × List MemPlace}
    (h : DataW.trod enc Tryz.prog W 0 (fun _ => true) true n 22 [v] = some y) : ∃ xs : List Nat, Sl .u32 W v xs ∧ Ok W32 xs := by
  rcases open_ints Tryz.underlying22 Tryz.underlying73 (by kernel_rfl) h with ⟨hcs, hx⟩ | ⟨a, len, cap, zs, hcs, _, hl, hm, hz, hx, hcell, hwz⟩
  · simp only [List.cons.injEq, and_true] at hcs
    subst hcs
    exact ⟨[], (OwnV.nil_ (B := 0) (T := 0) W).sl, Ok.nil⟩
  · simp only [List.cons.injEq, and_true] at hcs
    subst hcs
    simp only [if_true] at hz
    have hwf : ∀ z ∈ zs, 0 ≤ z ∧ z < 4294967296 := fun z hzm => by
      have := bounds_u32 (hwz z hzm)
      omega
    have hget : ∀ i, i < zs.length → ((zs.map Int.toNat).getD i 0 : Int) = zs.getD i 0 := fun i hi => by
      rw [List.getD_eq_getElem?_getD, List.getD_eq_getElem?_getD, List.getElem?_map, List.getElem?_eq_getElem hi]
      have := hwf _ (List.getElem_mem hi)
      simp only [Option.map_some, Option.getD_some]
      omega
    refine ⟨(zs.map Int.toNat).take len, ?_, ?_⟩
    · refine Sl.of_rd (n := cap) (xs := zs.map Int.toNat) ?_ hl (Nat.le_refl _) hm rfl
      refine ⟨by simp [hz], fun hn => ?_⟩
      obtain ⟨b, off, rfl, hc⟩ := ints_at hcell (by omega)
      refine ⟨b, off, rfl, ?_, fun i hi => ?_⟩
      · have := hc 0 (by omega)
        rcases Nat.lt_or_ge b W.heap.size with h1 | h1
        · exact h1
        · simp [World.cell?, Array.getElem?_eq_none h1] at this
      · rw [hc i (by omega), hget i (by omega)]
    · intro x hx
      obtain ⟨z, hzm, rfl⟩ := List.mem_map.1 (List.mem_of_mem_take hx)
      have := hwf z hzm
      show z.toNat < 4294967296
      omega

set_option maxRecDepth 100000 in
/-- A number that came in: a sign and two lists of limbs. -/
theorem open_number {H : Type} {enc : TypeId × Value → H} {W : World} {base : Nat} {v : Value} {d : DataW H} {p : List MemPlace}
    (hv : Value.okWide Tryz.prog W .any base 24 v) (h : DataW.Trod enc Tryz.prog W 0 (fun _ => true) true 24 v d p) :
    ∃ (neg : Bool) (va vb : Value) (xs ys : List Nat), v = .agg #[.bool neg, va, vb] ∧ Sl .u32 W va xs ∧ Sl .u32 W vb ys ∧ Ok W32 xs ∧ Ok W32 ys := by
  obtain ⟨c0, c1, c2, y0, y1, y2, m, rfl, _, _, h0, h1, h2⟩ := open_agg3 Tryz.underlying24 (by kernel_rfl) (by kernel_rfl) hv h
  obtain ⟨b, e0, _⟩ := DataW.trod_bool Tryz.underlying4 h0
  simp only [List.cons.injEq, and_true] at e0
  subst e0
  obtain ⟨xs, hx, ox⟩ := open_limbs h1
  obtain ⟨ys, hy, oy⟩ := open_limbs h2
  exact ⟨b, c1, c2, xs, ys, rfl, hx, hy, ox, oy⟩

end Go.Proofs.YtdhgbnnopekfjaaGreatDoor

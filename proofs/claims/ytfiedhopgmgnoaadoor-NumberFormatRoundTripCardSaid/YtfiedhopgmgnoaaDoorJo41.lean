/- NumberOrderIsTotal: for all valid numbers, Compare agrees with the sign of the difference, is antisymmetric and transitive, and is 0 for equal numbers only. -/
import Derived.Deep.RegionHeld3
import Derived.Test.YtfiedhopgmgnoaaDoorJo38
import Derived.Test.YtfiedhopgmgnoaaDoorJo39
import Derived.Test.YtfiedhopgmgnoaaDoorJo40
set_option linter.unusedVariables false
set_option linter.unusedSimpArgs false
namespace Go.Proofs.YtfiedhopgmgnoaaDoor
open Go.RowKit NumB
set_option linter.unusedVariables false
set_option linter.unusedSimpArgs false

theorem fault_S (a : LN) (v : Value) (w : World) (h : GV w v a) : Calls Tryd.prog 15 #[v] w fun e w' => e = .returned (.int .i64 a.err) ∧ Below w.heap.size w w' := by
  obtain ⟨A, B, rfl, ha, hb, ox, oy⟩ := h
  exact fault_any a.neg a.num a.den A B w ha hb ox oy
theorem LN.len16 {a : LN} (ho : a.ok) (h : a.err = 0) : (digs W16 a.x).length ≤ 256 ∧ (digs W16 a.y).length ≤ 256 := by
  obtain ⟨_, _, h3, h4, _⟩ := LN.good ho h
  exact ⟨digs16_val_le ho.1 h3, digs16_val_le ho.2 h4⟩

set_option maxRecDepth 1000000 in
set_option maxHeartbeats 25600000 in
theorem law_order : LawOrder.Walk := by
  intro a0 v0 a1 v1 a2 v2 w g0 g1 g2
  have HOK := Lib.hid (And.intro g0.ok (And.intro g1.ok g2.ok))
  obtain ⟨A0, n0, c0, B0, m0, d0, rfl, hq1, hq2⟩ := g0.form
  clear hq1 hq2
  obtain ⟨A1, n1, c1, B1, m1, d1, rfl, hq1, hq2⟩ := g1.form
  clear hq1 hq2
  obtain ⟨A2, n2, c2, B2, m2, d2, rfl, hq1, hq2⟩ := g2.form
  clear hq1 hq2
  have HB0 : Hid (∀ o1 o2 o3 : Obj, Below w.heap.size w (((w.alloc o1).alloc o2).alloc o3)) := fun o1 o2 o3 => below_three w o1 o2 o3
  have G0 := Lib.hid g0
  have G1 := Lib.hid g1
  have G2 := Lib.hid g2
  have HBK := Lib.hid (blk3 w 24 #[.bool a0.neg, .slice A0 n0 c0, .slice B0 m0 d0] #[.bool a1.neg, .slice A1 n1 c1, .slice B1 m1 d1] #[.bool a2.neg, .slice A2 n2 c2, .slice B2 m2 d2])
  clear g0 g1 g2
  have h0 : 0 ≤ a0.err ∧ a0.err ≤ 3 := checkL_bd _ _ _
  have h1 : 0 ≤ a1.err ∧ a1.err ≤ 3 := checkL_bd _ _ _
  have h2 : 0 ≤ a2.err ∧ a2.err ≤ 3 := checkL_bd _ _ _
  have HF0 := Lib.hid (fun (W : World) (u : Value) (h : GV W u a0) => fault_S a0 u W h)
  have HF1 := Lib.hid (fun (W : World) (u : Value) (h : GV W u a1) => fault_S a1 u W h)
  have HF2 := Lib.hid (fun (W : World) (u : Value) (h : GV W u a2) => fault_S a2 u W h)
  have HC01 := Lib.hid (fun (W : World) (u v : Value) (h : GV W u a0) (h' : GV W v a1) => compare_S a0 a1 u v W h h')
  have HC10 := Lib.hid (fun (W : World) (u v : Value) (h : GV W u a1) (h' : GV W v a0) => compare_S a1 a0 u v W h h')
  have HC12 := Lib.hid (fun (W : World) (u v : Value) (h : GV W u a1) (h' : GV W v a2) => compare_S a1 a2 u v W h h')
  have HC02 := Lib.hid (fun (W : World) (u v : Value) (h : GV W u a0) (h' : GV W v a2) => compare_S a0 a2 u v W h h')
  by_cases e0 : a0.err = 0
  rotate_left
  · have b0 : (a0.err != 0) = true := by rw [bne_iff_ne]; exact e0
    have b1 : (a0.err == 0) = false := beq_eq_false_iff_ne.2 e0
    have E : Hid (err2 a0.err a1.err = a0.err) := by unfold Hid err2; rw [if_neg e0]
    have bs : (a0.err == a0.err) = true := by simp
    generalize hz : (if err2 a0.err a1.err = 0 then cmpS a0 a1 else 0) = cz at *
    clear hz e0
    generalize a0.err = z0 at *
    go_enter Tryd.func5, Tryd.ntmps5
    go_wp2_with fail
    refine (HF0.out _ _ (by exact G0.out.to (HB0.out _ _ _))).mono ?_
    rintro e w1 ⟨he, hb⟩
    subst he
    have K0 := Lib.hid (HBK.out.1.to hb)
    have G0 := Lib.hid ((G0.out.to (HB0.out _ _ _)).to hb)
    have K1 := Lib.hid (HBK.out.2.1.to hb)
    have G1 := Lib.hid ((G1.out.to (HB0.out _ _ _)).to hb)
    have K2 := Lib.hid (HBK.out.2.2.to hb)
    have G2 := Lib.hid ((G2.out.to (HB0.out _ _ _)).to hb)
    have HBE : Hid (Below w.heap.size w w1) := (HB0.out _ _ _).trans (hb.mono (HB0.out _ _ _).size)
    clear hb
    have f00 := K0.out.cell 0
    have f01 := K0.out.cell 1
    have f02 := K0.out.cell 2
    have f10 := K1.out.cell 0
    have f11 := K1.out.cell 1
    have f12 := K1.out.cell 2
    simp only [List.getElem?_toArray, List.getElem?_cons_zero, List.getElem?_cons_succ] at f00 f01 f02 f10 f11 f12
    go_wp2_with fail
    refine (HC01.out _ _ _ (by exact G0.out) (by exact G1.out)).mono ?_
    rintro e w2 ⟨he, hb⟩
    clear f00 f01 f02 f10 f11 f12
    rw [E.out] at he
    subst he
    have K0 := Lib.hid (K0.out.to hb)
    have G0 := Lib.hid ((G0.out).to hb)
    have K1 := Lib.hid (K1.out.to hb)
    have G1 := Lib.hid ((G1.out).to hb)
    have K2 := Lib.hid (K2.out.to hb)
    have G2 := Lib.hid ((G2.out).to hb)
    have HBE : Hid (Below w.heap.size w w2) := HBE.out.trans (hb.mono HBE.out.size)
    clear hb
    have f00 := K0.out.cell 0
    have f01 := K0.out.cell 1
    have f02 := K0.out.cell 2
    simp only [List.getElem?_toArray, List.getElem?_cons_zero, List.getElem?_cons_succ] at f00 f01 f02
    go_wp2_with fail
    refine (HF0.out _ _ (by exact G0.out)).mono ?_
    rintro e w3 ⟨he, hb⟩
    clear f00 f01 f02
    subst he
    have K0 := Lib.hid (K0.out.to hb)
    have G0 := Lib.hid ((G0.out).to hb)
    have K1 := Lib.hid (K1.out.to hb)
    have G1 := Lib.hid ((G1.out).to hb)
    have K2 := Lib.hid (K2.out.to hb)
    have G2 := Lib.hid ((G2.out).to hb)
    have HBE : Hid (Below w.heap.size w w3) := HBE.out.trans (hb.mono HBE.out.size)
    clear hb
    go_wp2_with fail
    refine (counted_any _).mono ?_
    rintro e wz ⟨rfl, hb⟩
    go_wp2_with fail
    go_ret
    exact ⟨rfl, HBE.out.trans (hb.mono HBE.out.size)⟩
  have E0 := Lib.hid e0
  by_cases e1 : a1.err = 0
  rotate_left
  · have b0 : (a1.err != 0) = true := by rw [bne_iff_ne]; exact e1
    have E : Hid (err2 a0.err a1.err = a1.err) := by unfold Hid err2; rw [if_pos e0]
    have bs : (a1.err == a1.err) = true := by simp
    generalize hz : (if err2 a0.err a1.err = 0 then cmpS a0 a1 else 0) = cz at *
    clear hz e0 e1
    generalize a1.err = z1 at *
    go_enter Tryd.func5, Tryd.ntmps5
    go_wp2_with fail
    refine (HF0.out _ _ (by exact G0.out.to (HB0.out _ _ _))).mono ?_
    rintro e w1 ⟨he, hb⟩
    rw [E0.out] at he
    subst he
    have K0 := Lib.hid (HBK.out.1.to hb)
    have G0 := Lib.hid ((G0.out.to (HB0.out _ _ _)).to hb)
    have K1 := Lib.hid (HBK.out.2.1.to hb)
    have G1 := Lib.hid ((G1.out.to (HB0.out _ _ _)).to hb)
    have K2 := Lib.hid (HBK.out.2.2.to hb)
    have G2 := Lib.hid ((G2.out.to (HB0.out _ _ _)).to hb)
    have HBE : Hid (Below w.heap.size w w1) := (HB0.out _ _ _).trans (hb.mono (HB0.out _ _ _).size)
    clear hb
    have f10 := K1.out.cell 0
    have f11 := K1.out.cell 1
    have f12 := K1.out.cell 2
    simp only [List.getElem?_toArray, List.getElem?_cons_zero, List.getElem?_cons_succ] at f10 f11 f12
    go_wp2_with fail
    refine (HF1.out _ _ (by exact G1.out)).mono ?_
    rintro e w2 ⟨he, hb⟩
    clear f10 f11 f12
    subst he
    have K0 := Lib.hid (K0.out.to hb)
    have G0 := Lib.hid ((G0.out).to hb)
    have K1 := Lib.hid (K1.out.to hb)
    have G1 := Lib.hid ((G1.out).to hb)
    have K2 := Lib.hid (K2.out.to hb)
    have G2 := Lib.hid ((G2.out).to hb)
    have HBE : Hid (Below w.heap.size w w2) := HBE.out.trans (hb.mono HBE.out.size)
    clear hb
    have f00 := K0.out.cell 0
    have f01 := K0.out.cell 1
    have f02 := K0.out.cell 2
    have f10 := K1.out.cell 0
    have f11 := K1.out.cell 1
    have f12 := K1.out.cell 2
    simp only [List.getElem?_toArray, List.getElem?_cons_zero, List.getElem?_cons_succ] at f00 f01 f02 f10 f11 f12
    go_wp2_with fail
    refine (HC01.out _ _ _ (by exact G0.out) (by exact G1.out)).mono ?_
    rintro e w3 ⟨he, hb⟩
    clear f00 f01 f02 f10 f11 f12
    rw [E.out] at he
    subst he
    have K0 := Lib.hid (K0.out.to hb)
    have G0 := Lib.hid ((G0.out).to hb)
    have K1 := Lib.hid (K1.out.to hb)
    have G1 := Lib.hid ((G1.out).to hb)
    have K2 := Lib.hid (K2.out.to hb)
    have G2 := Lib.hid ((G2.out).to hb)
    have HBE : Hid (Below w.heap.size w w3) := HBE.out.trans (hb.mono HBE.out.size)
    clear hb
    have f00 := K0.out.cell 0
    have f01 := K0.out.cell 1
    have f02 := K0.out.cell 2
    simp only [List.getElem?_toArray, List.getElem?_cons_zero, List.getElem?_cons_succ] at f00 f01 f02
    go_wp2_with fail
    refine (HF0.out _ _ (by exact G0.out)).mono ?_
    rintro e w4 ⟨he, hb⟩
    clear f00 f01 f02
    rw [E0.out] at he
    subst he
    have K0 := Lib.hid (K0.out.to hb)
    have G0 := Lib.hid ((G0.out).to hb)
    have K1 := Lib.hid (K1.out.to hb)
    have G1 := Lib.hid ((G1.out).to hb)
    have K2 := Lib.hid (K2.out.to hb)
    have G2 := Lib.hid ((G2.out).to hb)
    have HBE : Hid (Below w.heap.size w w4) := HBE.out.trans (hb.mono HBE.out.size)
    clear hb
    have f10 := K1.out.cell 0
    have f11 := K1.out.cell 1
    have f12 := K1.out.cell 2
    simp only [List.getElem?_toArray, List.getElem?_cons_zero, List.getElem?_cons_succ] at f10 f11 f12
    go_wp2_with fail
    refine (HF1.out _ _ (by exact G1.out)).mono ?_
    rintro e w5 ⟨he, hb⟩
    clear f10 f11 f12
    subst he
    have K0 := Lib.hid (K0.out.to hb)
    have G0 := Lib.hid ((G0.out).to hb)
    have K1 := Lib.hid (K1.out.to hb)
    have G1 := Lib.hid ((G1.out).to hb)
    have K2 := Lib.hid (K2.out.to hb)
    have G2 := Lib.hid ((G2.out).to hb)
    have HBE : Hid (Below w.heap.size w w5) := HBE.out.trans (hb.mono HBE.out.size)
    clear hb
    go_wp2_with fail
    refine (counted_any _).mono ?_
    rintro e wz ⟨rfl, hb⟩
    go_wp2_with fail
    go_ret
    exact ⟨rfl, HBE.out.trans (hb.mono HBE.out.size)⟩
  have E1 := Lib.hid e1
  have E : Hid (err2 a0.err a1.err = 0) := err2_zero.2 ⟨e0, e1⟩
  by_cases e2 : a2.err = 0
  rotate_left
  · have b0 : (a2.err != 0) = true := by rw [bne_iff_ne]; exact e2
    clear e0 e1 e2
    generalize cmpS a0 a1 = cz at *
    generalize a2.err = z2 at *
    go_enter Tryd.func5, Tryd.ntmps5
    go_wp2_with fail
    refine (HF0.out _ _ (by exact G0.out.to (HB0.out _ _ _))).mono ?_
    rintro e w1 ⟨he, hb⟩
    rw [E0.out] at he
    subst he
    have K0 := Lib.hid (HBK.out.1.to hb)
    have G0 := Lib.hid ((G0.out.to (HB0.out _ _ _)).to hb)
    have K1 := Lib.hid (HBK.out.2.1.to hb)
    have G1 := Lib.hid ((G1.out.to (HB0.out _ _ _)).to hb)
    have K2 := Lib.hid (HBK.out.2.2.to hb)
    have G2 := Lib.hid ((G2.out.to (HB0.out _ _ _)).to hb)
    have HBE : Hid (Below w.heap.size w w1) := (HB0.out _ _ _).trans (hb.mono (HB0.out _ _ _).size)
    clear hb
    have f10 := K1.out.cell 0
    have f11 := K1.out.cell 1
    have f12 := K1.out.cell 2
    simp only [List.getElem?_toArray, List.getElem?_cons_zero, List.getElem?_cons_succ] at f10 f11 f12
    go_wp2_with fail
    refine (HF1.out _ _ (by exact G1.out)).mono ?_
    rintro e w2 ⟨he, hb⟩
    clear f10 f11 f12
    rw [E1.out] at he
    subst he
    have K0 := Lib.hid (K0.out.to hb)
    have G0 := Lib.hid ((G0.out).to hb)
    have K1 := Lib.hid (K1.out.to hb)
    have G1 := Lib.hid ((G1.out).to hb)
    have K2 := Lib.hid (K2.out.to hb)
    have G2 := Lib.hid ((G2.out).to hb)
    have HBE : Hid (Below w.heap.size w w2) := HBE.out.trans (hb.mono HBE.out.size)
    clear hb
    have f20 := K2.out.cell 0
    have f21 := K2.out.cell 1
    have f22 := K2.out.cell 2
    simp only [List.getElem?_toArray, List.getElem?_cons_zero, List.getElem?_cons_succ] at f20 f21 f22
    go_wp2_with fail
    refine (HF2.out _ _ (by exact G2.out)).mono ?_
    rintro e w3 ⟨he, hb⟩
    clear f20 f21 f22
    subst he
    have K0 := Lib.hid (K0.out.to hb)
    have G0 := Lib.hid ((G0.out).to hb)
    have K1 := Lib.hid (K1.out.to hb)
    have G1 := Lib.hid ((G1.out).to hb)
    have K2 := Lib.hid (K2.out.to hb)
    have G2 := Lib.hid ((G2.out).to hb)
    have HBE : Hid (Below w.heap.size w w3) := HBE.out.trans (hb.mono HBE.out.size)
    clear hb
    have f00 := K0.out.cell 0
    have f01 := K0.out.cell 1
    have f02 := K0.out.cell 2
    have f10 := K1.out.cell 0
    have f11 := K1.out.cell 1
    have f12 := K1.out.cell 2
    simp only [List.getElem?_toArray, List.getElem?_cons_zero, List.getElem?_cons_succ] at f00 f01 f02 f10 f11 f12
    go_wp2_with fail
    refine (HC01.out _ _ _ (by exact G0.out) (by exact G1.out)).mono ?_
    rintro e w4 ⟨he, hb⟩
    clear f00 f01 f02 f10 f11 f12
    rw [E.out, if_pos rfl] at he
    subst he
    have K0 := Lib.hid (K0.out.to hb)
    have G0 := Lib.hid ((G0.out).to hb)
    have K1 := Lib.hid (K1.out.to hb)
    have G1 := Lib.hid ((G1.out).to hb)
    have K2 := Lib.hid (K2.out.to hb)
    have G2 := Lib.hid ((G2.out).to hb)
    have HBE : Hid (Below w.heap.size w w4) := HBE.out.trans (hb.mono HBE.out.size)
    clear hb
    have f00 := K0.out.cell 0
    have f01 := K0.out.cell 1
    have f02 := K0.out.cell 2
    simp only [List.getElem?_toArray, List.getElem?_cons_zero, List.getElem?_cons_succ] at f00 f01 f02
    go_wp2_with fail
    refine (HF0.out _ _ (by exact G0.out)).mono ?_
    rintro e w5 ⟨he, hb⟩
    clear f00 f01 f02
    rw [E0.out] at he
    subst he
    have K0 := Lib.hid (K0.out.to hb)
    have G0 := Lib.hid ((G0.out).to hb)
    have K1 := Lib.hid (K1.out.to hb)
    have G1 := Lib.hid ((G1.out).to hb)
    have K2 := Lib.hid (K2.out.to hb)
    have G2 := Lib.hid ((G2.out).to hb)
    have HBE : Hid (Below w.heap.size w w5) := HBE.out.trans (hb.mono HBE.out.size)
    clear hb
    have f10 := K1.out.cell 0
    have f11 := K1.out.cell 1
    have f12 := K1.out.cell 2
    simp only [List.getElem?_toArray, List.getElem?_cons_zero, List.getElem?_cons_succ] at f10 f11 f12
    go_wp2_with fail
    refine (HF1.out _ _ (by exact G1.out)).mono ?_
    rintro e w6 ⟨he, hb⟩
    clear f10 f11 f12
    rw [E1.out] at he
    subst he
    have K0 := Lib.hid (K0.out.to hb)
    have G0 := Lib.hid ((G0.out).to hb)
    have K1 := Lib.hid (K1.out.to hb)
    have G1 := Lib.hid ((G1.out).to hb)
    have K2 := Lib.hid (K2.out.to hb)
    have G2 := Lib.hid ((G2.out).to hb)
    have HBE : Hid (Below w.heap.size w w6) := HBE.out.trans (hb.mono HBE.out.size)
    clear hb
    go_wp2_with fail
    refine (counted_any _).mono ?_
    rintro e wz ⟨rfl, hb⟩
    go_wp2_with fail
    go_ret
    exact ⟨rfl, HBE.out.trans (hb.mono HBE.out.size)⟩
  have E2 := Lib.hid e2
  have E10 : Hid (err2 a1.err a0.err = 0) := err2_zero.2 ⟨e1, e0⟩
  have E12 : Hid (err2 a1.err a2.err = 0) := err2_zero.2 ⟨e1, e2⟩
  have E02 : Hid (err2 a0.err a2.err = 0) := err2_zero.2 ⟨e0, e2⟩
  obtain ⟨o1, o2, o3, o4, o5⟩ := order_law HOK.out.1 HOK.out.2.1 HOK.out.2.2 e0 e1 e2
  have hl0 := LN.len16 HOK.out.1 e0
  have hl1 := LN.len16 HOK.out.2.1 e1
  have HR0 : Hid (∀ (W : World) (u : Value), GV W u a0 → Calls Tryd.prog 18 #[u] W (RVPost W a0.neg a0.x a0.y)) := fun W u h => rof_any a0 u W h (by have := (LN.good HOK.out.1 e0).2.2.1; omega) (by have := (LN.good HOK.out.1 e0).2.2.2.1; omega)
  have HR1 : Hid (∀ (W : World) (u : Value), GV W u a1 → Calls Tryd.prog 18 #[u] W (RVPost W a1.neg a1.x a1.y)) := fun W u h => rof_any a1 u W h (by have := (LN.good HOK.out.2.1 e1).2.2.1; omega) (by have := (LN.good HOK.out.2.1 e1).2.2.2.1; omega)
  have HRC : Hid (∀ (W : World) (u v : Value), RV W u a0.neg a0.x a0.y → RV W v a1.neg a1.x a1.y → Calls Tryd.prog 17 #[u, v] W fun e w' => e = .returned (.int .i64 (cmpS a0 a1)) ∧ Below W.heap.size W w') := fun W u v h h' => rcmpR_any a0.neg a1.neg a0.x a0.y a1.x a1.y u v W h h' (by omega) (by omega) (by omega) (by omega)
  have HSM := Lib.hid (fun (W : World) (u v : Value) (h : GV W u a0) (h' : GV W v a1) => same_S a0 a1 u v W h h')
  have hk : ∀ W1 W' : World, Below W1.heap.size W1 W' → (W1.cell? ⟨w.heap.size, 0, none⟩ = some (.bool a0.neg) ∧ W1.cell? ⟨w.heap.size, 1, none⟩ = some (.slice A0 n0 c0) ∧ W1.cell? ⟨w.heap.size, 2, none⟩ = some (.slice B0 m0 d0) ∧ W1.cell? ⟨w.heap.size + 1, 0, none⟩ = some (.bool a1.neg) ∧ W1.cell? ⟨w.heap.size + 1, 1, none⟩ = some (.slice A1 n1 c1) ∧ W1.cell? ⟨w.heap.size + 1, 2, none⟩ = some (.slice B1 m1 d1) ∧ w.heap.size + 1 < W1.heap.size) → (W'.cell? ⟨w.heap.size, 0, none⟩ = some (.bool a0.neg) ∧ W'.cell? ⟨w.heap.size, 1, none⟩ = some (.slice A0 n0 c0) ∧ W'.cell? ⟨w.heap.size, 2, none⟩ = some (.slice B0 m0 d0) ∧ W'.cell? ⟨w.heap.size + 1, 0, none⟩ = some (.bool a1.neg) ∧ W'.cell? ⟨w.heap.size + 1, 1, none⟩ = some (.slice A1 n1 c1) ∧ W'.cell? ⟨w.heap.size + 1, 2, none⟩ = some (.slice B1 m1 d1) ∧ w.heap.size + 1 < W'.heap.size) :=
    fun W1 W' h1 ⟨a0, a1, a2, a3, a4, a5, a6⟩ => ⟨(h1.cell (p := ⟨w.heap.size, 0, none⟩) (by show w.heap.size < _; omega)).trans a0, (h1.cell (p := ⟨w.heap.size, 1, none⟩) (by show w.heap.size < _; omega)).trans a1, (h1.cell (p := ⟨w.heap.size, 2, none⟩) (by show w.heap.size < _; omega)).trans a2, (h1.cell (p := ⟨w.heap.size + 1, 0, none⟩) (by show w.heap.size + 1 < _; omega)).trans a3, (h1.cell (p := ⟨w.heap.size + 1, 1, none⟩) (by show w.heap.size + 1 < _; omega)).trans a4, (h1.cell (p := ⟨w.heap.size + 1, 2, none⟩) (by show w.heap.size + 1 < _; omega)).trans a5, Nat.lt_of_lt_of_le a6 h1.size⟩
  have HK := Lib.hid hk
  clear hk e0 e1 e2 hl0 hl1 h0 h1 h2
  generalize cmpS a0 a1 = X at *
  generalize cmpS a1 a0 = Y at *
  generalize cmpS a1 a2 = Z at *
  generalize cmpS a0 a2 = V at *
  have hY : Y = -X := by omega
  subst hY
  have HO := Lib.hid (And.intro o4 o5)
  have HSB := Lib.hid o2.symm
  obtain ⟨x1, x2⟩ := o3
  have hnn : (X != - -X) = false := by simp
  have hnn2 : (X != X) = false := by simp
  have hxx : (X == X) = true := by simp
  have hbb : ((X == 0) != (X == 0)) = false := by simp
  have hbb2 : ((X == 0) == (X == 0)) = true := by simp
  clear o1 o2 o4 o5
  go_enter Tryd.func5, Tryd.ntmps5
  go_wp2_with fail
  refine (HF0.out _ _ (by exact G0.out.to (HB0.out _ _ _))).mono ?_
  rintro e w1 ⟨he, hb⟩
  rw [E0.out] at he
  subst he
  have K0 := Lib.hid (HBK.out.1.to hb)
  have G0 := Lib.hid ((G0.out.to (HB0.out _ _ _)).to hb)
  have K1 := Lib.hid (HBK.out.2.1.to hb)
  have G1 := Lib.hid ((G1.out.to (HB0.out _ _ _)).to hb)
  have K2 := Lib.hid (HBK.out.2.2.to hb)
  have G2 := Lib.hid ((G2.out.to (HB0.out _ _ _)).to hb)
  have HBE : Hid (Below w.heap.size w w1) := (HB0.out _ _ _).trans (hb.mono (HB0.out _ _ _).size)
  clear hb
  have f10 := K1.out.cell 0
  have f11 := K1.out.cell 1
  have f12 := K1.out.cell 2
  simp only [List.getElem?_toArray, List.getElem?_cons_zero, List.getElem?_cons_succ] at f10 f11 f12
  go_wp2_with fail
  refine (HF1.out _ _ (by exact G1.out)).mono ?_
  rintro e w2 ⟨he, hb⟩
  clear f10 f11 f12
  rw [E1.out] at he
  subst he
  have K0 := Lib.hid (K0.out.to hb)
  have G0 := Lib.hid ((G0.out).to hb)
  have K1 := Lib.hid (K1.out.to hb)
  have G1 := Lib.hid ((G1.out).to hb)
  have K2 := Lib.hid (K2.out.to hb)
  have G2 := Lib.hid ((G2.out).to hb)
  have HBE : Hid (Below w.heap.size w w2) := HBE.out.trans (hb.mono HBE.out.size)
  clear hb
  have f20 := K2.out.cell 0
  have f21 := K2.out.cell 1
  have f22 := K2.out.cell 2
  simp only [List.getElem?_toArray, List.getElem?_cons_zero, List.getElem?_cons_succ] at f20 f21 f22
  go_wp2_with fail
  refine (HF2.out _ _ (by exact G2.out)).mono ?_
  rintro e w3 ⟨he, hb⟩
  clear f20 f21 f22
  rw [E2.out] at he
  subst he
  have K0 := Lib.hid (K0.out.to hb)
  have G0 := Lib.hid ((G0.out).to hb)
  have K1 := Lib.hid (K1.out.to hb)
  have G1 := Lib.hid ((G1.out).to hb)
  have K2 := Lib.hid (K2.out.to hb)
  have G2 := Lib.hid ((G2.out).to hb)
  have HBE : Hid (Below w.heap.size w w3) := HBE.out.trans (hb.mono HBE.out.size)
  clear hb
  have f00 := K0.out.cell 0
  have f01 := K0.out.cell 1
  have f02 := K0.out.cell 2
  have f10 := K1.out.cell 0
  have f11 := K1.out.cell 1
  have f12 := K1.out.cell 2
  simp only [List.getElem?_toArray, List.getElem?_cons_zero, List.getElem?_cons_succ] at f00 f01 f02 f10 f11 f12
  go_wp2_with fail
  refine (HC01.out _ _ _ (by exact G0.out) (by exact G1.out)).mono ?_
  rintro e w4 ⟨he, hb⟩
  clear f00 f01 f02 f10 f11 f12
  rw [E.out, if_pos rfl] at he
  subst he
  have K0 := Lib.hid (K0.out.to hb)
  have G0 := Lib.hid ((G0.out).to hb)
  have K1 := Lib.hid (K1.out.to hb)
  have G1 := Lib.hid ((G1.out).to hb)
  have K2 := Lib.hid (K2.out.to hb)
  have G2 := Lib.hid ((G2.out).to hb)
  have HBE : Hid (Below w.heap.size w w4) := HBE.out.trans (hb.mono HBE.out.size)
  clear hb
  have f00 := K0.out.cell 0
  have f01 := K0.out.cell 1
  have f02 := K0.out.cell 2
  have f10 := K1.out.cell 0
  have f11 := K1.out.cell 1
  have f12 := K1.out.cell 2
  simp only [List.getElem?_toArray, List.getElem?_cons_zero, List.getElem?_cons_succ] at f00 f01 f02 f10 f11 f12
  go_wp2_with fail
  refine (HC10.out _ _ _ (by exact G1.out) (by exact G0.out)).mono ?_
  rintro e w5 ⟨he, hb⟩
  clear f00 f01 f02 f10 f11 f12
  rw [E10.out, if_pos rfl] at he
  subst he
  have K0 := Lib.hid (K0.out.to hb)
  have G0 := Lib.hid ((G0.out).to hb)
  have K1 := Lib.hid (K1.out.to hb)
  have G1 := Lib.hid ((G1.out).to hb)
  have K2 := Lib.hid (K2.out.to hb)
  have G2 := Lib.hid ((G2.out).to hb)
  have HBE : Hid (Below w.heap.size w w5) := HBE.out.trans (hb.mono HBE.out.size)
  clear hb
  have f10 := K1.out.cell 0
  have f11 := K1.out.cell 1
  have f12 := K1.out.cell 2
  have f20 := K2.out.cell 0
  have f21 := K2.out.cell 1
  have f22 := K2.out.cell 2
  simp only [List.getElem?_toArray, List.getElem?_cons_zero, List.getElem?_cons_succ] at f10 f11 f12 f20 f21 f22
  go_wp2_with fail
  refine (HC12.out _ _ _ (by exact G1.out) (by exact G2.out)).mono ?_
  rintro e w6 ⟨he, hb⟩
  clear f10 f11 f12 f20 f21 f22
  rw [E12.out, if_pos rfl] at he
  subst he
  have K0 := Lib.hid (K0.out.to hb)
  have G0 := Lib.hid ((G0.out).to hb)
  have K1 := Lib.hid (K1.out.to hb)
  have G1 := Lib.hid ((G1.out).to hb)
  have K2 := Lib.hid (K2.out.to hb)
  have G2 := Lib.hid ((G2.out).to hb)
  have HBE : Hid (Below w.heap.size w w6) := HBE.out.trans (hb.mono HBE.out.size)
  clear hb
  have f00 := K0.out.cell 0
  have f01 := K0.out.cell 1
  have f02 := K0.out.cell 2
  have f20 := K2.out.cell 0
  have f21 := K2.out.cell 1
  have f22 := K2.out.cell 2
  simp only [List.getElem?_toArray, List.getElem?_cons_zero, List.getElem?_cons_succ] at f00 f01 f02 f20 f21 f22
  go_wp2_with fail
  refine (HC02.out _ _ _ (by exact G0.out) (by exact G2.out)).mono ?_
  rintro e w7 ⟨he, hb⟩
  clear f00 f01 f02 f20 f21 f22
  rw [E02.out, if_pos rfl] at he
  subst he
  have K0 := Lib.hid (K0.out.to hb)
  have G0 := Lib.hid ((G0.out).to hb)
  have K1 := Lib.hid (K1.out.to hb)
  have G1 := Lib.hid ((G1.out).to hb)
  have K2 := Lib.hid (K2.out.to hb)
  have G2 := Lib.hid ((G2.out).to hb)
  have HBE : Hid (Below w.heap.size w w7) := HBE.out.trans (hb.mono HBE.out.size)
  clear hb
  have f00 := K0.out.cell 0
  have f01 := K0.out.cell 1
  have f02 := K0.out.cell 2
  have f10 := K1.out.cell 0
  have f11 := K1.out.cell 1
  have f12 := K1.out.cell 2
  simp only [List.getElem?_toArray, List.getElem?_cons_zero, List.getElem?_cons_succ] at f00 f01 f02 f10 f11 f12
  go_wp2_with fail
  refine (HSM.out _ _ _ (by exact G0.out) (by exact G1.out)).mono ?_
  rintro e w8 ⟨he, hb⟩
  clear f00 f01 f02 f10 f11 f12
  rw [HSB.out] at he
  subst he
  have K0 := Lib.hid (K0.out.to hb)
  have G0 := Lib.hid ((G0.out).to hb)
  have K1 := Lib.hid (K1.out.to hb)
  have G1 := Lib.hid ((G1.out).to hb)
  have K2 := Lib.hid (K2.out.to hb)
  have G2 := Lib.hid ((G2.out).to hb)
  have HBE : Hid (Below w.heap.size w w8) := HBE.out.trans (hb.mono HBE.out.size)
  clear hb
  have f00 := K0.out.cell 0
  have f01 := K0.out.cell 1
  have f02 := K0.out.cell 2
  have f10 := K1.out.cell 0
  have f11 := K1.out.cell 1
  have f12 := K1.out.cell 2
  simp only [List.getElem?_toArray, List.getElem?_cons_zero, List.getElem?_cons_succ] at f00 f01 f02 f10 f11 f12
  have hsz : w.heap.size + 1 < w8.heap.size := K1.out.lt
  have HGD0 := Lib.hid (G0.out.to (w' := w8.drew) (Below.refl _ _).drew)
  have HGD1 := Lib.hid (G1.out.to (w' := w8.drew) (Below.refl _ _).drew)
  have HBD : Hid (Below w.heap.size w w8.drew) := HBE.out.drew
  have hcase : 0 < X ∨ (X < 0 ∧ 0 < Z) ∨ (X = 0 ∧ 0 < Z) ∨ (X < 0 ∧ Z < 0 ∧ V = -1) ∨ (X < 0 ∧ Z = 0 ∧ V ≤ 0) ∨ (X = 0 ∧ Z ≤ 0 ∧ V ≤ 0) := by
    rcases Int.lt_or_le 0 X with h | h
    · exact .inl h
    · rcases Int.lt_or_le 0 Z with h' | h'
      · by_cases hx : X = 0
        · exact .inr (.inr (.inl ⟨hx, h'⟩))
        · exact .inr (.inl ⟨by omega, h'⟩)
      · have hv := HO.out.1 h h'
        by_cases hx : X = 0
        · exact .inr (.inr (.inr (.inr (.inr ⟨hx, h', hv⟩))))
        · by_cases hz : Z = 0
          · exact .inr (.inr (.inr (.inr (.inl ⟨by omega, hz, hv⟩))))
          · exact .inr (.inr (.inr (.inl ⟨by omega, by omega, HO.out.2 (by omega) (by omega)⟩)))
  rcases hcase with hc | ⟨hc, hc2⟩ | ⟨rfl, hc2⟩ | ⟨hc, hc2, rfl⟩ | ⟨hc, rfl, hc3⟩ | ⟨rfl, hc2, hc3⟩
  all_goals
    go_wp2_with fail
    go_region_held3 (fun w' => w'.cell? ⟨w.heap.size, 0, none⟩ = some (.bool a0.neg) ∧ w'.cell? ⟨w.heap.size, 1, none⟩ = some (.slice A0 n0 c0) ∧ w'.cell? ⟨w.heap.size, 2, none⟩ = some (.slice B0 m0 d0) ∧ w'.cell? ⟨w.heap.size + 1, 0, none⟩ = some (.bool a1.neg) ∧ w'.cell? ⟨w.heap.size + 1, 1, none⟩ = some (.slice A1 n1 c1) ∧ w'.cell? ⟨w.heap.size + 1, 2, none⟩ = some (.slice B1 m1 d1) ∧ w.heap.size + 1 < w'.heap.size)
      (first | go_keep | (refine HK.out _ _ (by assumption) ?_; go_keep))
      (first
        | (go_at_call 18; ((with_reducible refine (HR0.out _ (.agg #[.bool a0.neg, .slice A0 n0 c0, .slice B0 m0 d0]) (by exact HGD0.out)).mono ?_)); rintro e y1 ⟨u1, rfl, hn1, hb1⟩)
        | (go_at_call 18; ((with_reducible refine (HR1.out _ (.agg #[.bool a1.neg, .slice A1 n1 c1, .slice B1 m1 d1]) (by exact HGD1.out.to hb1)).mono ?_)); rintro e y2 ⟨u2, rfl, hn2, hb2⟩)
        | (go_at_call 17; ((with_reducible refine (HRC.out _ _ _ (by exact hn1.to hb2) (by exact hn2)).mono ?_)); rintro e y3 ⟨rfl, hb3⟩)
        | (go_at_call 11; ((with_reducible refine (counted_any _).mono ?_)); rintro e y4 ⟨rfl, hb4⟩))
    go_wp2_with fail
    go_ret
    exact ⟨rfl, (((HBD.out.trans (hb1.mono HBD.out.size)).trans (hb2.mono (Nat.le_trans HBD.out.size hb1.size))).trans (hb3.mono (Nat.le_trans (Nat.le_trans HBD.out.size hb1.size) hb2.size))).trans (hb4.mono (Nat.le_trans (Nat.le_trans (Nat.le_trans HBD.out.size hb1.size) hb2.size) hb3.size))⟩

theorem numberOrder_holds : Rows.NumberOrderIsTotalCardSaid := LawOrder.card law_order
#print axioms numberOrder_holds
end Go.Proofs.YtfiedhopgmgnoaaDoor

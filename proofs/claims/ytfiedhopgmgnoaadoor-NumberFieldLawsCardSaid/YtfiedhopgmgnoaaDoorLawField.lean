/- NumberFieldLaws: for all numbers for which no error occurs, Mul distributes over Add, Sub undoes Add, and Div undoes Mul. -/
import Derived.Test.YtfiedhopgmgnoaaDoorSubNum
import Derived.Test.YtfiedhopgmgnoaaDoorMulNum
import Derived.Test.YtfiedhopgmgnoaaDoorDivNum
import Derived.Test.YtfiedhopgmgnoaaDoorSign
import Derived.Test.YtfiedhopgmgnoaaDoorCardField
namespace Go.Proofs.YtfiedhopgmgnoaaDoor
open Go.RowKit NumB
set_option linter.unusedVariables false
set_option linter.unusedSimpArgs false

set_option maxRecDepth 1000000 in
set_option maxHeartbeats 12800000 in
theorem law_field : LawField.Walk := by
  intro a0 v0 a1 v1 a2 v2 w g0 g1 g2
  have HOK := Lib.hid (And.intro g0.ok (And.intro g1.ok g2.ok))
  obtain ⟨⟨ls, es⟩, hs⟩ : ∃ r, addS a0 a1 = r := ⟨_, rfl⟩
  obtain ⟨⟨ll, el⟩, hl⟩ : ∃ r, mulS ls a2 = r := ⟨_, rfl⟩
  obtain ⟨⟨lx, ex⟩, hx⟩ : ∃ r, mulS a0 a2 = r := ⟨_, rfl⟩
  obtain ⟨⟨ly, ey⟩, hy⟩ : ∃ r, mulS a1 a2 = r := ⟨_, rfl⟩
  have HLAW : Hid (es = 0 → el = 0 → ex = 0 → ey = 0 → addS lx ly = (ll, 0) ∧ subS ls a1 = (a0, 0) ∧ a2.err = 0 ∧ (a2.num.length ≠ 0 → divS lx a2 = (a0, 0))) := by
    intro e1 e2 e3 e4
    have h := field_law (a := a0) (b := a1) (c := a2) HOK.out.1 HOK.out.2.1 HOK.out.2.2 (by rw [hs]; exact e1) (by rw [hs]; show (mulS ls a2).2 = 0; rw [hl]; exact e2) (by rw [hx]; exact e3) (by rw [hy]; exact e4)
    rw [hs, hx, hy] at h
    show addS lx ly = (ll, 0) ∧ _
    have h2 : mulS (ls, es).1 a2 = (ll, el) := hl
    rw [h2] at h
    exact h
  have HC1 : Hid (∀ (W : World) (u v : Value), GV W u a0 → GV W v a1 → Calls Tryd.prog 19 #[u, v] W (SPost W (ls, es))) := fun W u v h1 h2 => by rw [← hs]; exact addNum_S a0 a1 u v W h1 h2
  have HC2 : Hid (∀ (W : World) (u v : Value), GV W u ls → GV W v a2 → Calls Tryd.prog 22 #[u, v] W (SPost W (ll, el))) := fun W u v h1 h2 => by rw [← hl]; exact mulNum_S ls a2 u v W h1 h2
  have HC3 : Hid (∀ (W : World) (u v : Value), GV W u a0 → GV W v a2 → Calls Tryd.prog 22 #[u, v] W (SPost W (lx, ex))) := fun W u v h1 h2 => by rw [← hx]; exact mulNum_S a0 a2 u v W h1 h2
  have HC4 : Hid (∀ (W : World) (u v : Value), GV W u a1 → GV W v a2 → Calls Tryd.prog 22 #[u, v] W (SPost W (ly, ey))) := fun W u v h1 h2 => by rw [← hy]; exact mulNum_S a1 a2 u v W h1 h2
  clear hs hl hx hy
  obtain ⟨A0, n0, c0, B0, m0, d0, rfl, hq1, hq2⟩ := g0.form
  clear hq1 hq2
  obtain ⟨A1, n1, c1, B1, m1, d1, rfl, hq1, hq2⟩ := g1.form
  clear hq1 hq2
  obtain ⟨A2, n2, c2, B2, m2, d2, rfl, hq1, hq2⟩ := g2.form
  clear hq1 hq2
  have HB0 : Hid (∀ o1 o2 o3 : Obj, Below w.heap.size w (((w.alloc o1).alloc o2).alloc o3)) := fun o1 o2 o3 => below_three w o1 o2 o3
  have G0 := Lib.hid g0
  have G1 := Lib.hid g1
  have G2 := Lib.hid g2
  have HBK := Lib.hid (blk3 w 24 #[.bool a0.neg, .slice A0 n0 c0, .slice B0 m0 d0] #[.bool a1.neg, .slice A1 n1 c1, .slice B1 m1 d1] #[.bool a2.neg, .slice A2 n2 c2, .slice B2 m2 d2])
  clear g0 g1 g2
  go_enter Tryd.func7, Tryd.ntmps7
  go_wp2_with fail
  refine (HC1.out _ _ _ (by exact G0.out.to (HB0.out _ _ _)) (by exact G1.out.to (HB0.out _ _ _))).mono ?_
  rintro e w1 ⟨x1, rfl, hg, hb⟩
  have hg : GV w1 x1 ls := hg
  obtain ⟨AS, nS, cS, BS, mS, dS, rfl, hq1, hq2⟩ := hg.form
  clear hq1 hq2
  have GS := Lib.hid hg
  have K0 := Lib.hid (HBK.out.1.to hb)
  have K1 := Lib.hid (HBK.out.2.1.to hb)
  have K2 := Lib.hid (HBK.out.2.2.to hb)
  have G0 := Lib.hid ((G0.out.to (HB0.out _ _ _)).to hb)
  have G1 := Lib.hid ((G1.out.to (HB0.out _ _ _)).to hb)
  have G2 := Lib.hid ((G2.out.to (HB0.out _ _ _)).to hb)
  have HBE : Hid (Below w.heap.size w w1) := (HB0.out _ _ _).trans (hb.mono (HB0.out _ _ _).size)
  clear hg hb HC1 HBK HB0
  have f120 := fun o : Obj => (K2.out.alloc o).cell 0
  have f121 := fun o : Obj => (K2.out.alloc o).cell 1
  have f122 := fun o : Obj => (K2.out.alloc o).cell 2
  simp only [List.getElem?_toArray, List.getElem?_cons_zero, List.getElem?_cons_succ] at f120 f121 f122
  go_wp2_with fail
  refine (HC2.out _ _ _ (by exact GS.out.to (below_one w1 _)) (by exact G2.out.to (below_one w1 _))).mono ?_
  rintro e w2 ⟨x2, rfl, hg, hb⟩
  clear f120 f121 f122
  have hg : GV w2 x2 ll := hg
  obtain ⟨AL, nL, cL, BL, mL, dL, rfl, hq1, hq2⟩ := hg.form
  clear hq1 hq2
  have K0 := Lib.hid ((K0.out.alloc _).to hb)
  have K1 := Lib.hid ((K1.out.alloc _).to hb)
  have K2 := Lib.hid ((K2.out.alloc _).to hb)
  have KS := Lib.hid ((Blk.new w1 24 #[.bool ls.neg, .slice AS nS cS, .slice BS mS dS]).to hb)
  have G0 := Lib.hid ((G0.out.to (below_one w1 _)).to hb)
  have G1 := Lib.hid ((G1.out.to (below_one w1 _)).to hb)
  have G2 := Lib.hid ((G2.out.to (below_one w1 _)).to hb)
  have GS := Lib.hid ((GS.out.to (below_one w1 _)).to hb)
  have GL := Lib.hid hg
  have HBE : Hid (Below w.heap.size w w2) := (HBE.out.trans ((below_one w1 _).mono HBE.out.size)).trans (hb.mono (Nat.le_trans HBE.out.size (below_one w1 _).size))
  clear hg hb HC2
  have f200 := fun o : Obj => (K0.out.alloc o).cell 0
  have f201 := fun o : Obj => (K0.out.alloc o).cell 1
  have f202 := fun o : Obj => (K0.out.alloc o).cell 2
  have f220 := fun o : Obj => (K2.out.alloc o).cell 0
  have f221 := fun o : Obj => (K2.out.alloc o).cell 1
  have f222 := fun o : Obj => (K2.out.alloc o).cell 2
  simp only [List.getElem?_toArray, List.getElem?_cons_zero, List.getElem?_cons_succ] at f200 f201 f202 f220 f221 f222
  go_wp2_with fail
  refine (HC3.out _ _ _ (by exact G0.out.to (below_one w2 _)) (by exact G2.out.to (below_one w2 _))).mono ?_
  rintro e w3 ⟨x3, rfl, hg, hb⟩
  clear f200 f201 f202 f220 f221 f222
  have hg : GV w3 x3 lx := hg
  obtain ⟨AX, nX, cX, BX, mX, dX, rfl, hq1, hq2⟩ := hg.form
  clear hq1 hq2
  have K0 := Lib.hid ((K0.out.alloc _).to hb)
  have K1 := Lib.hid ((K1.out.alloc _).to hb)
  have K2 := Lib.hid ((K2.out.alloc _).to hb)
  have KS := Lib.hid ((KS.out.alloc _).to hb)
  have KL := Lib.hid ((Blk.new w2 24 #[.bool ll.neg, .slice AL nL cL, .slice BL mL dL]).to hb)
  have G0 := Lib.hid ((G0.out.to (below_one w2 _)).to hb)
  have G1 := Lib.hid ((G1.out.to (below_one w2 _)).to hb)
  have G2 := Lib.hid ((G2.out.to (below_one w2 _)).to hb)
  have GS := Lib.hid ((GS.out.to (below_one w2 _)).to hb)
  have GL := Lib.hid ((GL.out.to (below_one w2 _)).to hb)
  have GX := Lib.hid hg
  have HBE : Hid (Below w.heap.size w w3) := (HBE.out.trans ((below_one w2 _).mono HBE.out.size)).trans (hb.mono (Nat.le_trans HBE.out.size (below_one w2 _).size))
  clear hg hb HC3
  have f310 := fun o : Obj => (K1.out.alloc o).cell 0
  have f311 := fun o : Obj => (K1.out.alloc o).cell 1
  have f312 := fun o : Obj => (K1.out.alloc o).cell 2
  have f320 := fun o : Obj => (K2.out.alloc o).cell 0
  have f321 := fun o : Obj => (K2.out.alloc o).cell 1
  have f322 := fun o : Obj => (K2.out.alloc o).cell 2
  simp only [List.getElem?_toArray, List.getElem?_cons_zero, List.getElem?_cons_succ] at f310 f311 f312 f320 f321 f322
  go_wp2_with fail
  refine (HC4.out _ _ _ (by exact G1.out.to (below_one w3 _)) (by exact G2.out.to (below_one w3 _))).mono ?_
  rintro e w4 ⟨x4, rfl, hg, hb⟩
  clear f310 f311 f312 f320 f321 f322
  have hg : GV w4 x4 ly := hg
  obtain ⟨AY, nY, cY, BY, mY, dY, rfl, hq1, hq2⟩ := hg.form
  clear hq1 hq2
  have K0 := Lib.hid ((K0.out.alloc _).to hb)
  have K1 := Lib.hid ((K1.out.alloc _).to hb)
  have K2 := Lib.hid ((K2.out.alloc _).to hb)
  have KS := Lib.hid ((KS.out.alloc _).to hb)
  have KL := Lib.hid ((KL.out.alloc _).to hb)
  have KX := Lib.hid ((Blk.new w3 24 #[.bool lx.neg, .slice AX nX cX, .slice BX mX dX]).to hb)
  have G0 := Lib.hid ((G0.out.to (below_one w3 _)).to hb)
  have G1 := Lib.hid ((G1.out.to (below_one w3 _)).to hb)
  have G2 := Lib.hid ((G2.out.to (below_one w3 _)).to hb)
  have GS := Lib.hid ((GS.out.to (below_one w3 _)).to hb)
  have GL := Lib.hid ((GL.out.to (below_one w3 _)).to hb)
  have GX := Lib.hid ((GX.out.to (below_one w3 _)).to hb)
  have GY := Lib.hid hg
  have HBE : Hid (Below w.heap.size w w4) := (HBE.out.trans ((below_one w3 _).mono HBE.out.size)).trans (hb.mono (Nat.le_trans HBE.out.size (below_one w3 _).size))
  clear hg hb HC4
  by_cases z1 : es = 0
  rotate_left
  · have b1 : (es != 0) = true := by rw [bne_iff_ne]; exact z1
    clear z1 HLAW
    go_wp2_with fail
    refine (counted_any _).mono ?_
    rintro e w5 ⟨rfl, hb⟩
    go_wp2_with fail
    go_ret
    exact ⟨rfl, (HBE.out.trans ((below_one w4 _).mono HBE.out.size)).trans (hb.mono (Nat.le_trans HBE.out.size (below_one w4 _).size))⟩
  subst z1
  by_cases z1 : el = 0
  rotate_left
  · have b1 : (el != 0) = true := by rw [bne_iff_ne]; exact z1
    clear z1 HLAW
    go_wp2_with fail
    refine (counted_any _).mono ?_
    rintro e w5 ⟨rfl, hb⟩
    go_wp2_with fail
    go_ret
    exact ⟨rfl, (HBE.out.trans ((below_one w4 _).mono HBE.out.size)).trans (hb.mono (Nat.le_trans HBE.out.size (below_one w4 _).size))⟩
  subst z1
  by_cases z1 : ex = 0
  rotate_left
  · have b1 : (ex != 0) = true := by rw [bne_iff_ne]; exact z1
    clear z1 HLAW
    go_wp2_with fail
    refine (counted_any _).mono ?_
    rintro e w5 ⟨rfl, hb⟩
    go_wp2_with fail
    go_ret
    exact ⟨rfl, (HBE.out.trans ((below_one w4 _).mono HBE.out.size)).trans (hb.mono (Nat.le_trans HBE.out.size (below_one w4 _).size))⟩
  subst z1
  by_cases z1 : ey = 0
  rotate_left
  · have b1 : (ey != 0) = true := by rw [bne_iff_ne]; exact z1
    clear z1 HLAW
    go_wp2_with fail
    refine (counted_any _).mono ?_
    rintro e w5 ⟨rfl, hb⟩
    go_wp2_with fail
    go_ret
    exact ⟨rfl, (HBE.out.trans ((below_one w4 _).mono HBE.out.size)).trans (hb.mono (Nat.le_trans HBE.out.size (below_one w4 _).size))⟩
  subst z1
  obtain ⟨hr, hk, hc, hd⟩ := HLAW.out rfl rfl rfl rfl
  have HCE := Lib.hid hc
  have HDV := Lib.hid hd
  have HC5 : Hid (∀ (W : World) (u v : Value), GV W u lx → GV W v ly → Calls Tryd.prog 19 #[u, v] W (SPost W (ll, 0))) := fun W u v h1 h2 => by rw [← hr]; exact addNum_S lx ly u v W h1 h2
  have HC6 : Hid (∀ (W : World) (u v : Value), GV W u ls → GV W v a1 → Calls Tryd.prog 21 #[u, v] W (SPost W (a0, 0))) := fun W u v h1 h2 => by rw [← hk]; exact subNum_S ls a1 u v W h1 h2
  clear hr hk hc hd HLAW
  have f4X0 := fun o : Obj => (KX.out.alloc o).cell 0
  have f4X1 := fun o : Obj => (KX.out.alloc o).cell 1
  have f4X2 := fun o : Obj => (KX.out.alloc o).cell 2
  simp only [List.getElem?_toArray, List.getElem?_cons_zero, List.getElem?_cons_succ] at f4X0 f4X1 f4X2
  go_wp2_with fail
  refine (HC5.out _ _ _ (by exact GX.out.to (below_one w4 _)) (by exact GY.out.to (below_one w4 _))).mono ?_
  rintro e w5 ⟨x5, rfl, hg, hb⟩
  clear f4X0 f4X1 f4X2
  have hg : GV w5 x5 ll := hg
  obtain ⟨AR, nR, cR, BR, mR, dR, rfl, hq1, hq2⟩ := hg.form
  clear hq1 hq2
  have K0 := Lib.hid ((K0.out.alloc _).to hb)
  have K1 := Lib.hid ((K1.out.alloc _).to hb)
  have K2 := Lib.hid ((K2.out.alloc _).to hb)
  have KS := Lib.hid ((KS.out.alloc _).to hb)
  have KL := Lib.hid ((KL.out.alloc _).to hb)
  have KX := Lib.hid ((KX.out.alloc _).to hb)
  have KY := Lib.hid ((Blk.new w4 24 #[.bool ly.neg, .slice AY nY cY, .slice BY mY dY]).to hb)
  have G0 := Lib.hid ((G0.out.to (below_one w4 _)).to hb)
  have G1 := Lib.hid ((G1.out.to (below_one w4 _)).to hb)
  have G2 := Lib.hid ((G2.out.to (below_one w4 _)).to hb)
  have GS := Lib.hid ((GS.out.to (below_one w4 _)).to hb)
  have GL := Lib.hid ((GL.out.to (below_one w4 _)).to hb)
  have GX := Lib.hid ((GX.out.to (below_one w4 _)).to hb)
  have GY := Lib.hid ((GY.out.to (below_one w4 _)).to hb)
  have GR := Lib.hid hg
  have HBE : Hid (Below w.heap.size w w5) := (HBE.out.trans ((below_one w4 _).mono HBE.out.size)).trans (hb.mono (Nat.le_trans HBE.out.size (below_one w4 _).size))
  clear hg hb HC5
  have f5S0 := fun o : Obj => (KS.out.alloc o).cell 0
  have f5S1 := fun o : Obj => (KS.out.alloc o).cell 1
  have f5S2 := fun o : Obj => (KS.out.alloc o).cell 2
  have f510 := fun o : Obj => (K1.out.alloc o).cell 0
  have f511 := fun o : Obj => (K1.out.alloc o).cell 1
  have f512 := fun o : Obj => (K1.out.alloc o).cell 2
  simp only [List.getElem?_toArray, List.getElem?_cons_zero, List.getElem?_cons_succ] at f5S0 f5S1 f5S2 f510 f511 f512
  go_wp2_with fail
  refine (HC6.out _ _ _ (by exact GS.out.to (below_one w5 _)) (by exact G1.out.to (below_one w5 _))).mono ?_
  rintro e w6 ⟨x6, rfl, hg, hb⟩
  clear f5S0 f5S1 f5S2 f510 f511 f512
  have hg : GV w6 x6 a0 := hg
  obtain ⟨AK, nK, cK, BK, mK, dK, rfl, hq1, hq2⟩ := hg.form
  clear hq1 hq2
  have K0 := Lib.hid ((K0.out.alloc _).to hb)
  have K1 := Lib.hid ((K1.out.alloc _).to hb)
  have K2 := Lib.hid ((K2.out.alloc _).to hb)
  have KS := Lib.hid ((KS.out.alloc _).to hb)
  have KL := Lib.hid ((KL.out.alloc _).to hb)
  have KX := Lib.hid ((KX.out.alloc _).to hb)
  have KY := Lib.hid ((KY.out.alloc _).to hb)
  have KR := Lib.hid ((Blk.new w5 24 #[.bool ll.neg, .slice AR nR cR, .slice BR mR dR]).to hb)
  have G0 := Lib.hid ((G0.out.to (below_one w5 _)).to hb)
  have G1 := Lib.hid ((G1.out.to (below_one w5 _)).to hb)
  have G2 := Lib.hid ((G2.out.to (below_one w5 _)).to hb)
  have GS := Lib.hid ((GS.out.to (below_one w5 _)).to hb)
  have GL := Lib.hid ((GL.out.to (below_one w5 _)).to hb)
  have GX := Lib.hid ((GX.out.to (below_one w5 _)).to hb)
  have GY := Lib.hid ((GY.out.to (below_one w5 _)).to hb)
  have GR := Lib.hid ((GR.out.to (below_one w5 _)).to hb)
  have GK := Lib.hid hg
  have HBE : Hid (Below w.heap.size w w6) := (HBE.out.trans ((below_one w5 _).mono HBE.out.size)).trans (hb.mono (Nat.le_trans HBE.out.size (below_one w5 _).size))
  clear hg hb HC6
  have f6L0 := fun o : Obj => (KL.out.alloc o).cell 0
  have f6L1 := fun o : Obj => (KL.out.alloc o).cell 1
  have f6L2 := fun o : Obj => (KL.out.alloc o).cell 2
  have f6R0 := fun o : Obj => (KR.out.alloc o).cell 0
  have f6R1 := fun o : Obj => (KR.out.alloc o).cell 1
  have f6R2 := fun o : Obj => (KR.out.alloc o).cell 2
  have f600 := fun o : Obj => (K0.out.alloc o).cell 0
  have f601 := fun o : Obj => (K0.out.alloc o).cell 1
  have f602 := fun o : Obj => (K0.out.alloc o).cell 2
  simp only [List.getElem?_toArray, List.getElem?_cons_zero, List.getElem?_cons_succ] at f6L0 f6L1 f6L2 f6R0 f6R1 f6R2 f600 f601 f602
  have HSM : Hid (∀ (a b : LN) (W : World) (u v : Value), a = b → GV W u a → GV W v b → Calls Tryd.prog 13 #[u, v] W fun e w' => e = .returned (.bool true) ∧ Below W.heap.size W w') := fun a b W u v h h1 h2 => by
    have := same_S a b u v W h1 h2
    rw [sameB_true h] at this
    exact this
  go_wp2_with fail
  refine (HSM.out ll ll _ _ _ rfl (by exact GL.out.to (below_one w6 _)) (by exact GR.out.to (below_one w6 _))).mono ?_
  rintro e w7 ⟨rfl, hb⟩
  clear f6L0 f6L1 f6L2 f6R0 f6R1 f6R2 f600 f601 f602
  have K0 := Lib.hid ((K0.out.alloc _).to hb)
  have K2 := Lib.hid ((K2.out.alloc _).to hb)
  have KX := Lib.hid ((KX.out.alloc _).to hb)
  have KK := Lib.hid ((Blk.new w6 24 #[.bool a0.neg, .slice AK nK cK, .slice BK mK dK]).to hb)
  have G0 := Lib.hid ((G0.out.to (below_one w6 _)).to hb)
  have G2 := Lib.hid ((G2.out.to (below_one w6 _)).to hb)
  have GX := Lib.hid ((GX.out.to (below_one w6 _)).to hb)
  have GK := Lib.hid ((GK.out.to (below_one w6 _)).to hb)
  have HBE : Hid (Below w.heap.size w w7) := (HBE.out.trans ((below_one w6 _).mono HBE.out.size)).trans (hb.mono (Nat.le_trans HBE.out.size (below_one w6 _).size))
  clear hb
  have f7K0 := KK.out.cell 0
  have f7K1 := KK.out.cell 1
  have f7K2 := KK.out.cell 2
  have f700 := K0.out.cell 0
  have f701 := K0.out.cell 1
  have f702 := K0.out.cell 2
  simp only [List.getElem?_toArray, List.getElem?_cons_zero, List.getElem?_cons_succ] at f7K0 f7K1 f7K2 f700 f701 f702
  go_wp2_with fail
  refine (HSM.out a0 a0 _ _ _ rfl (by exact GK.out) (by exact G0.out)).mono ?_
  rintro e w8 ⟨rfl, hb⟩
  clear f7K0 f7K1 f7K2 f700 f701 f702
  have K0 := Lib.hid (K0.out.to hb)
  have K2 := Lib.hid (K2.out.to hb)
  have KX := Lib.hid (KX.out.to hb)
  have G0 := Lib.hid (G0.out.to hb)
  have G2 := Lib.hid (G2.out.to hb)
  have GX := Lib.hid (GX.out.to hb)
  have HBE : Hid (Below w.heap.size w w8) := HBE.out.trans (hb.mono HBE.out.size)
  clear hb
  have f820 := K2.out.cell 0
  have f821 := K2.out.cell 1
  have f822 := K2.out.cell 2
  simp only [List.getElem?_toArray, List.getElem?_cons_zero, List.getElem?_cons_succ] at f820 f821 f822
  go_wp2_with fail
  refine (sign_S a2 _ _ (by exact G2.out)).mono ?_
  rintro e w9 ⟨he, hb⟩
  rw [HCE.out, if_pos rfl] at he
  subst he
  clear f820 f821 f822
  have K0 := Lib.hid (K0.out.to hb)
  have K2 := Lib.hid (K2.out.to hb)
  have KX := Lib.hid (KX.out.to hb)
  have G0 := Lib.hid (G0.out.to hb)
  have G2 := Lib.hid (G2.out.to hb)
  have GX := Lib.hid (GX.out.to hb)
  have HBE : Hid (Below w.heap.size w w9) := HBE.out.trans (hb.mono HBE.out.size)
  clear hb
  by_cases hn : a2.num.length = 0
  · have hs0 : signS a2 = 0 := by unfold signS; rw [if_pos hn]
    rw [hs0]
    clear hn hs0
    go_wp2_with fail
    refine (counted_any _).mono ?_
    rintro e w10 ⟨rfl, hb⟩
    go_wp2_with fail
    go_ret
    exact ⟨rfl, HBE.out.trans (hb.mono HBE.out.size)⟩
  have hs1 : (signS a2 == 0) = false := by unfold signS; rw [if_neg hn]; cases a2.neg <;> rfl
  have hdv := HDV.out hn
  have HC7 : Hid (∀ (W : World) (u v : Value), GV W u lx → GV W v a2 → Calls Tryd.prog 23 #[u, v] W (SPost W (a0, 0))) := fun W u v h1 h2 => by rw [← hdv]; exact divNum_S lx a2 u v W h1 h2
  generalize signS a2 = sn at *
  clear hn hdv HDV
  have f9X0 := KX.out.cell 0
  have f9X1 := KX.out.cell 1
  have f9X2 := KX.out.cell 2
  have f920 := K2.out.cell 0
  have f921 := K2.out.cell 1
  have f922 := K2.out.cell 2
  simp only [List.getElem?_toArray, List.getElem?_cons_zero, List.getElem?_cons_succ] at f9X0 f9X1 f9X2 f920 f921 f922
  go_wp2_with fail
  refine (HC7.out _ _ _ (by exact GX.out) (by exact G2.out)).mono ?_
  rintro e w10 ⟨x10, rfl, hg, hb⟩
  clear f9X0 f9X1 f9X2 f920 f921 f922
  have hg : GV w10 x10 a0 := hg
  obtain ⟨AQ, nQ, cQ, BQ, mQ, dQ, rfl, hq1, hq2⟩ := hg.form
  clear hq1 hq2
  have GQ := Lib.hid hg
  clear hg
  have K0 := Lib.hid (K0.out.to hb)
  have G0 := Lib.hid (G0.out.to hb)
  have HBE : Hid (Below w.heap.size w w10) := HBE.out.trans (hb.mono HBE.out.size)
  clear hb
  have f1000 := fun o : Obj => (K0.out.alloc o).cell 0
  have f1001 := fun o : Obj => (K0.out.alloc o).cell 1
  have f1002 := fun o : Obj => (K0.out.alloc o).cell 2
  simp only [List.getElem?_toArray, List.getElem?_cons_zero, List.getElem?_cons_succ] at f1000 f1001 f1002
  go_wp2_with fail
  refine (HSM.out a0 a0 _ _ _ rfl (by exact GQ.out.to (below_one w10 _)) (by exact G0.out.to (below_one w10 _))).mono ?_
  rintro e w11 ⟨rfl, hb⟩
  clear f1000 f1001 f1002
  have HBE : Hid (Below w.heap.size w w11) := (HBE.out.trans ((below_one w10 _).mono HBE.out.size)).trans (hb.mono (Nat.le_trans HBE.out.size (below_one w10 _).size))
  clear hb
  go_wp2_with fail
  refine (counted_any _).mono ?_
  rintro e w12 ⟨rfl, hb⟩
  go_wp2_with fail
  go_ret
  exact ⟨rfl, HBE.out.trans (hb.mono HBE.out.size)⟩

theorem numberField_holds : Rows.NumberFieldLawsCardSaid := LawField.card law_field
#print axioms numberField_holds
end Go.Proofs.YtfiedhopgmgnoaaDoor

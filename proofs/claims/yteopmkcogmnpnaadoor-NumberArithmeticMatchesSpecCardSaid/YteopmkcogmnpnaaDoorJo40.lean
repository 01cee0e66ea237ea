/- NumberArithmeticMatchesSpec: for all numbers, Add, Sub, Mul and Div return what is specified. -/
import Derived.Test.YteopmkcogmnpnaaDoorJo21
import Derived.Test.YteopmkcogmnpnaaDoorJo27
import Derived.Test.YteopmkcogmnpnaaDoorJo35
import Derived.Test.YteopmkcogmnpnaaDoorJo36
import Derived.Test.YteopmkcogmnpnaaDoorJo37
import Derived.Test.YteopmkcogmnpnaaDoorJo38
import Derived.Test.YteopmkcogmnpnaaDoorJo39
set_option linter.unusedVariables false
set_option linter.unusedSimpArgs false
namespace Go.Proofs.YteopmkcogmnpnaaDoor
open Go.RowKit NumB
set_option linter.unusedVariables false
set_option linter.unusedSimpArgs false

set_option maxRecDepth 1000000 in
set_option maxHeartbeats 25600000 in
theorem law_arith : LawArith.Walk := by
  intro a0 v0 a1 v1 w g0 g1
  obtain ⟨A0, n0, c0, B0, m0, d0, rfl, hq1, hq2⟩ := g0.form
  clear hq1 hq2
  obtain ⟨A1, n1, c1, B1, m1, d1, rfl, hq1, hq2⟩ := g1.form
  clear hq1 hq2
  have HO := Lib.hid (And.intro g0.ok g1.ok)
  obtain ⟨p1, HF1, HT1⟩ : ∃ p : LN × Int, Hid (∀ (W : World) (u v : Value), GV W u a0 → GV W v a1 → Calls Tryd.prog 11 #[u, v] W (SPost W p)) ∧ Hid (∀ (W : World) (u v : Value), GV W u a0 → GV W v a1 → Calls Tryd.prog 12 #[.int .u8 43, u, v] W (SPost W p)) :=
    ⟨addS a0 a1, fun W u v h1 h2 => addNum_S a0 a1 u v W h1 h2, fun W u v h1 h2 => by
      have := rtwoA 43 (by omega) a0 a1 u v W h1 h2
      rw [rtwoAS_43 HO.out.1 HO.out.2] at this
      exact this⟩
  have hee1 : (p1.2 != p1.2) = false := by simp
  have hfe1 : (p1.2 == p1.2) = true := by simp
  obtain ⟨p2, HF2, HT2⟩ : ∃ p : LN × Int, Hid (∀ (W : World) (u v : Value), GV W u a0 → GV W v a1 → Calls Tryd.prog 13 #[u, v] W (SPost W p)) ∧ Hid (∀ (W : World) (u v : Value), GV W u a0 → GV W v a1 → Calls Tryd.prog 12 #[.int .u8 45, u, v] W (SPost W p)) :=
    ⟨subS a0 a1, fun W u v h1 h2 => subNum_S a0 a1 u v W h1 h2, fun W u v h1 h2 => by
      have := rtwoB 45 (by omega) a0 a1 u v W h1 h2
      rw [rtwoBS_45 HO.out.1 HO.out.2] at this
      exact this⟩
  have hee2 : (p2.2 != p2.2) = false := by simp
  have hfe2 : (p2.2 == p2.2) = true := by simp
  obtain ⟨p3, HF3, HT3⟩ : ∃ p : LN × Int, Hid (∀ (W : World) (u v : Value), GV W u a0 → GV W v a1 → Calls Tryd.prog 14 #[u, v] W (SPost W p)) ∧ Hid (∀ (W : World) (u v : Value), GV W u a0 → GV W v a1 → Calls Tryd.prog 12 #[.int .u8 42, u, v] W (SPost W p)) :=
    ⟨mulS a0 a1, fun W u v h1 h2 => mulNum_S a0 a1 u v W h1 h2, fun W u v h1 h2 => by
      have := rtwoA 42 (by omega) a0 a1 u v W h1 h2
      rw [rtwoAS_42 HO.out.1 HO.out.2] at this
      exact this⟩
  have hee3 : (p3.2 != p3.2) = false := by simp
  have hfe3 : (p3.2 == p3.2) = true := by simp
  obtain ⟨p4, HF4, HT4⟩ : ∃ p : LN × Int, Hid (∀ (W : World) (u v : Value), GV W u a0 → GV W v a1 → Calls Tryd.prog 15 #[u, v] W (SPost W p)) ∧ Hid (∀ (W : World) (u v : Value), GV W u a0 → GV W v a1 → Calls Tryd.prog 12 #[.int .u8 47, u, v] W (SPost W p)) :=
    ⟨divS a0 a1, fun W u v h1 h2 => divNum_S a0 a1 u v W h1 h2, fun W u v h1 h2 => by
      have := rtwoB 47 (by omega) a0 a1 u v W h1 h2
      rw [rtwoBS_47 HO.out.1 HO.out.2] at this
      exact this⟩
  have hee4 : (p4.2 != p4.2) = false := by simp
  have hfe4 : (p4.2 == p4.2) = true := by simp
  have HSM : Hid (∀ (W : World) (u v : Value) (a : LN), GV W u a → GV W v a → Calls Tryd.prog 9 #[u, v] W fun e w' => e = .returned (.bool true) ∧ Below W.heap.size W w') := fun W u v a h1 h2 => by
    have := same_S a a u v W h1 h2
    rw [sameB_true rfl] at this
    exact this
  have KA := Lib.hid ((blk2 w 24 24 #[.bool a0.neg, .slice A0 n0 c0, .slice B0 m0 d0] #[.bool a1.neg, .slice A1 n1 c1, .slice B1 m1 d1]).1)
  have KB := Lib.hid ((blk2 w 24 24 #[.bool a0.neg, .slice A0 n0 c0, .slice B0 m0 d0] #[.bool a1.neg, .slice A1 n1 c1, .slice B1 m1 d1]).2)
  have GA := Lib.hid (g0.to (below_two w (.cells #[.bool a0.neg, .slice A0 n0 c0, .slice B0 m0 d0] 24) (.cells #[.bool a1.neg, .slice A1 n1 c1, .slice B1 m1 d1] 24)))
  have GB := Lib.hid (g1.to (below_two w (.cells #[.bool a0.neg, .slice A0 n0 c0, .slice B0 m0 d0] 24) (.cells #[.bool a1.neg, .slice A1 n1 c1, .slice B1 m1 d1] 24)))
  have HBE := Lib.hid (below_two w (.cells #[.bool a0.neg, .slice A0 n0 c0, .slice B0 m0 d0] 24) (.cells #[.bool a1.neg, .slice A1 n1 c1, .slice B1 m1 d1] 24))
  clear g0 g1 HO
  go_enter Tryd.func4, Tryd.ntmps4
  go_wp2_with fail
  refine (HF1.out _ _ _ (by exact GA.out) (by exact GB.out)).mono ?_
  rintro e w1 ⟨v, rfl, hg, hb⟩
  have KA := Lib.hid (KA.out.to hb)
  have KB := Lib.hid (KB.out.to hb)
  have GA := Lib.hid (GA.out.to hb)
  have GB := Lib.hid (GB.out.to hb)
  have HBE : Hid (Below w.heap.size w w1) := HBE.out.trans ((hb).mono HBE.out.size)
  clear hb
  obtain ⟨Ax1, nx1, cx1, Bx1, mx1, dx1, rfl, hq1, hq2⟩ := hg.form
  have Gx1 := Lib.hid hg
  clear hq1 hq2 hg
  have ka0 := KA.out.cell 0
  have ka1 := KA.out.cell 1
  have ka2 := KA.out.cell 2
  have kb0 := KB.out.cell 0
  have kb1 := KB.out.cell 1
  have kb2 := KB.out.cell 2
  simp only [List.getElem?_toArray, List.getElem?_cons_zero, List.getElem?_cons_succ] at ka0 ka1 ka2 kb0 kb1 kb2
  have ltKAKX := KA.out.lt
  have ltKBKX := KB.out.lt
  have KXN := Lib.hid (Blk.new w1 24 #[.bool p1.1.neg, .slice Ax1 nx1 cx1, .slice Bx1 mx1 dx1])
  have KA := Lib.hid (KA.out.to (below_one w1 (.cells #[.bool p1.1.neg, .slice Ax1 nx1 cx1, .slice Bx1 mx1 dx1] 24)))
  have KB := Lib.hid (KB.out.to (below_one w1 (.cells #[.bool p1.1.neg, .slice Ax1 nx1 cx1, .slice Bx1 mx1 dx1] 24)))
  have GA := Lib.hid (GA.out.to (below_one w1 (.cells #[.bool p1.1.neg, .slice Ax1 nx1 cx1, .slice Bx1 mx1 dx1] 24)))
  have GB := Lib.hid (GB.out.to (below_one w1 (.cells #[.bool p1.1.neg, .slice Ax1 nx1 cx1, .slice Bx1 mx1 dx1] 24)))
  have Gx1 := Lib.hid (Gx1.out.to (below_one w1 (.cells #[.bool p1.1.neg, .slice Ax1 nx1 cx1, .slice Bx1 mx1 dx1] 24)))
  have HBE : Hid (Below w.heap.size w (w1.alloc (.cells #[.bool p1.1.neg, .slice Ax1 nx1 cx1, .slice Bx1 mx1 dx1] 24))) := HBE.out.trans (((below_one w1 (.cells #[.bool p1.1.neg, .slice Ax1 nx1 cx1, .slice Bx1 mx1 dx1] 24))).mono HBE.out.size)
  have KX := KXN
  clear KXN
  have neKAKX : (w.heap.size = w1.heap.size) = False := eq_false (by omega)
  have neKXKA : (w1.heap.size = w.heap.size) = False := eq_false (by omega)
  have neKBKX : (w.heap.size + 1 = w1.heap.size) = False := eq_false (by omega)
  have neKXKB : (w1.heap.size = w.heap.size + 1) = False := eq_false (by omega)
  go_wp2_with fail
  refine (HT1.out _ _ _ (by exact GA.out) (by exact GB.out)).mono ?_
  rintro e w2 ⟨v, rfl, hg, hb⟩
  clear ka0 ka1 ka2 kb0 kb1 kb2
  have KA := Lib.hid (KA.out.to hb)
  have KB := Lib.hid (KB.out.to hb)
  have KX := Lib.hid (KX.out.to hb)
  have GA := Lib.hid (GA.out.to hb)
  have GB := Lib.hid (GB.out.to hb)
  have Gx1 := Lib.hid (Gx1.out.to hb)
  have HBE : Hid (Below w.heap.size w w2) := HBE.out.trans ((hb).mono HBE.out.size)
  clear hb
  obtain ⟨Ay1, ny1, cy1, By1, my1, dy1, rfl, hq1, hq2⟩ := hg.form
  have Gy1 := Lib.hid hg
  clear hq1 hq2 hg
  have kx0 := KX.out.cell 0
  have kx1 := KX.out.cell 1
  have kx2 := KX.out.cell 2
  simp only [List.getElem?_toArray, List.getElem?_cons_zero, List.getElem?_cons_succ] at kx0 kx1 kx2
  have ltKAKY := KA.out.lt
  have ltKBKY := KB.out.lt
  have ltKXKY := KX.out.lt
  have KYN := Lib.hid (Blk.new w2 24 #[.bool p1.1.neg, .slice Ay1 ny1 cy1, .slice By1 my1 dy1])
  have KA := Lib.hid (KA.out.to (below_one w2 (.cells #[.bool p1.1.neg, .slice Ay1 ny1 cy1, .slice By1 my1 dy1] 24)))
  have KB := Lib.hid (KB.out.to (below_one w2 (.cells #[.bool p1.1.neg, .slice Ay1 ny1 cy1, .slice By1 my1 dy1] 24)))
  have KX := Lib.hid (KX.out.to (below_one w2 (.cells #[.bool p1.1.neg, .slice Ay1 ny1 cy1, .slice By1 my1 dy1] 24)))
  have GA := Lib.hid (GA.out.to (below_one w2 (.cells #[.bool p1.1.neg, .slice Ay1 ny1 cy1, .slice By1 my1 dy1] 24)))
  have GB := Lib.hid (GB.out.to (below_one w2 (.cells #[.bool p1.1.neg, .slice Ay1 ny1 cy1, .slice By1 my1 dy1] 24)))
  have Gx1 := Lib.hid (Gx1.out.to (below_one w2 (.cells #[.bool p1.1.neg, .slice Ay1 ny1 cy1, .slice By1 my1 dy1] 24)))
  have Gy1 := Lib.hid (Gy1.out.to (below_one w2 (.cells #[.bool p1.1.neg, .slice Ay1 ny1 cy1, .slice By1 my1 dy1] 24)))
  have HBE : Hid (Below w.heap.size w (w2.alloc (.cells #[.bool p1.1.neg, .slice Ay1 ny1 cy1, .slice By1 my1 dy1] 24))) := HBE.out.trans (((below_one w2 (.cells #[.bool p1.1.neg, .slice Ay1 ny1 cy1, .slice By1 my1 dy1] 24))).mono HBE.out.size)
  have KY := KYN
  clear KYN
  have neKAKY : (w.heap.size = w2.heap.size) = False := eq_false (by omega)
  have neKYKA : (w2.heap.size = w.heap.size) = False := eq_false (by omega)
  have neKBKY : (w.heap.size + 1 = w2.heap.size) = False := eq_false (by omega)
  have neKYKB : (w2.heap.size = w.heap.size + 1) = False := eq_false (by omega)
  have neKXKY : (w1.heap.size = w2.heap.size) = False := eq_false (by omega)
  have neKYKX : (w2.heap.size = w1.heap.size) = False := eq_false (by omega)
  go_wp2_with fail
  refine (HSM.out _ _ _ _ (by exact Gx1.out) (by exact Gy1.out)).mono ?_
  rintro e w3 ⟨rfl, hb⟩
  clear kx0 kx1 kx2
  have KA := Lib.hid (KA.out.to hb)
  have KB := Lib.hid (KB.out.to hb)
  have KX := Lib.hid (KX.out.to hb)
  have KY := Lib.hid (KY.out.to hb)
  have GA := Lib.hid (GA.out.to hb)
  have GB := Lib.hid (GB.out.to hb)
  have Gx1 := Lib.hid (Gx1.out.to hb)
  have Gy1 := Lib.hid (Gy1.out.to hb)
  have HBE : Hid (Below w.heap.size w w3) := HBE.out.trans ((hb).mono HBE.out.size)
  clear hb
  clear Gx1
  clear Gy1
  have ka0 := KA.out.cell 0
  have ka1 := KA.out.cell 1
  have ka2 := KA.out.cell 2
  have kb0 := KB.out.cell 0
  have kb1 := KB.out.cell 1
  have kb2 := KB.out.cell 2
  simp only [List.getElem?_toArray, List.getElem?_cons_zero, List.getElem?_cons_succ] at ka0 ka1 ka2 kb0 kb1 kb2
  go_wp2_with fail
  refine (HF2.out _ _ _ (by exact GA.out) (by exact GB.out)).mono ?_
  rintro e w4 ⟨v, rfl, hg, hb⟩
  clear ka0 ka1 ka2 kb0 kb1 kb2
  have KA := Lib.hid (KA.out.to hb)
  have KB := Lib.hid (KB.out.to hb)
  have KX := Lib.hid (KX.out.to hb)
  have KY := Lib.hid (KY.out.to hb)
  have GA := Lib.hid (GA.out.to hb)
  have GB := Lib.hid (GB.out.to hb)
  have HBE : Hid (Below w.heap.size w w4) := HBE.out.trans ((hb).mono HBE.out.size)
  clear hb
  obtain ⟨Ax2, nx2, cx2, Bx2, mx2, dx2, rfl, hq1, hq2⟩ := hg.form
  have Gx2 := Lib.hid hg
  clear hq1 hq2 hg
  have ka0 := KA.out.cell 0
  have ka1 := KA.out.cell 1
  have ka2 := KA.out.cell 2
  have kb0 := KB.out.cell 0
  have kb1 := KB.out.cell 1
  have kb2 := KB.out.cell 2
  have kx0 := KX.out.cell 0
  have kx1 := KX.out.cell 1
  have kx2 := KX.out.cell 2
  simp only [List.getElem?_toArray, List.getElem?_cons_zero, List.getElem?_cons_succ] at ka0 ka1 ka2 kb0 kb1 kb2 kx0 kx1 kx2
  have fz0 := KX.out.frozen 0
  have fz1 := KX.out.frozen 1
  have fz2 := KX.out.frozen 2
  have GA := Lib.hid (GA.out.putN KX.out (.bool p2.1.neg) (.slice Ax2 nx2 cx2) (.slice Bx2 mx2 dx2))
  have GB := Lib.hid (GB.out.putN KX.out (.bool p2.1.neg) (.slice Ax2 nx2 cx2) (.slice Bx2 mx2 dx2))
  have Gx2 := Lib.hid (Gx2.out.putN KX.out (.bool p2.1.neg) (.slice Ax2 nx2 cx2) (.slice Bx2 mx2 dx2))
  have KA := Lib.hid (KA.out.put3_far (g := w1.heap.size) (by first | omega | simp) (.bool p2.1.neg) (.slice Ax2 nx2 cx2) (.slice Bx2 mx2 dx2))
  have KB := Lib.hid (KB.out.put3_far (g := w1.heap.size) (by first | omega | simp) (.bool p2.1.neg) (.slice Ax2 nx2 cx2) (.slice Bx2 mx2 dx2))
  have KY := Lib.hid (KY.out.put3_far (g := w1.heap.size) (by first | omega | simp) (.bool p2.1.neg) (.slice Ax2 nx2 cx2) (.slice Bx2 mx2 dx2))
  have HBE : Hid (Below w.heap.size w (put3 w4 (w1.heap.size) (.bool p2.1.neg) (.slice Ax2 nx2 cx2) (.slice Bx2 mx2 dx2))) := put3_below HBE.out (by omega) (.bool p2.1.neg) (.slice Ax2 nx2 cx2) (.slice Bx2 mx2 dx2)
  have KX := Lib.hid (KX.out.put3_at (.bool p2.1.neg) (.slice Ax2 nx2 cx2) (.slice Bx2 mx2 dx2))
  go_wp2_with fail
  refine (HT2.out _ _ _ (by exact GA.out) (by exact GB.out)).mono ?_
  rintro e w5 ⟨v, rfl, hg, hb⟩
  clear ka0 ka1 ka2 kb0 kb1 kb2 kx0 kx1 kx2 fz0 fz1 fz2
  have KA := Lib.hid (KA.out.to hb)
  have KB := Lib.hid (KB.out.to hb)
  have KX := Lib.hid (KX.out.to hb)
  have KY := Lib.hid (KY.out.to hb)
  have GA := Lib.hid (GA.out.to hb)
  have GB := Lib.hid (GB.out.to hb)
  have Gx2 := Lib.hid (Gx2.out.to hb)
  have HBE : Hid (Below w.heap.size w w5) := HBE.out.trans ((hb).mono HBE.out.size)
  clear hb
  obtain ⟨Ay2, ny2, cy2, By2, my2, dy2, rfl, hq1, hq2⟩ := hg.form
  have Gy2 := Lib.hid hg
  clear hq1 hq2 hg
  have kx0 := KX.out.cell 0
  have kx1 := KX.out.cell 1
  have kx2 := KX.out.cell 2
  have ky0 := KY.out.cell 0
  have ky1 := KY.out.cell 1
  have ky2 := KY.out.cell 2
  simp only [List.getElem?_toArray, List.getElem?_cons_zero, List.getElem?_cons_succ] at kx0 kx1 kx2 ky0 ky1 ky2
  have fz0 := KY.out.frozen 0
  have fz1 := KY.out.frozen 1
  have fz2 := KY.out.frozen 2
  have GA := Lib.hid (GA.out.putN KY.out (.bool p2.1.neg) (.slice Ay2 ny2 cy2) (.slice By2 my2 dy2))
  have GB := Lib.hid (GB.out.putN KY.out (.bool p2.1.neg) (.slice Ay2 ny2 cy2) (.slice By2 my2 dy2))
  have Gx2 := Lib.hid (Gx2.out.putN KY.out (.bool p2.1.neg) (.slice Ay2 ny2 cy2) (.slice By2 my2 dy2))
  have Gy2 := Lib.hid (Gy2.out.putN KY.out (.bool p2.1.neg) (.slice Ay2 ny2 cy2) (.slice By2 my2 dy2))
  have KA := Lib.hid (KA.out.put3_far (g := w2.heap.size) (by first | omega | simp) (.bool p2.1.neg) (.slice Ay2 ny2 cy2) (.slice By2 my2 dy2))
  have KB := Lib.hid (KB.out.put3_far (g := w2.heap.size) (by first | omega | simp) (.bool p2.1.neg) (.slice Ay2 ny2 cy2) (.slice By2 my2 dy2))
  have KX := Lib.hid (KX.out.put3_far (g := w2.heap.size) (by first | omega | simp) (.bool p2.1.neg) (.slice Ay2 ny2 cy2) (.slice By2 my2 dy2))
  have HBE : Hid (Below w.heap.size w (put3 w5 (w2.heap.size) (.bool p2.1.neg) (.slice Ay2 ny2 cy2) (.slice By2 my2 dy2))) := put3_below HBE.out (by omega) (.bool p2.1.neg) (.slice Ay2 ny2 cy2) (.slice By2 my2 dy2)
  have KY := Lib.hid (KY.out.put3_at (.bool p2.1.neg) (.slice Ay2 ny2 cy2) (.slice By2 my2 dy2))
  go_wp2_with fail
  refine (HSM.out _ _ _ _ (by exact Gx2.out) (by exact Gy2.out)).mono ?_
  rintro e w6 ⟨rfl, hb⟩
  clear kx0 kx1 kx2 ky0 ky1 ky2 fz0 fz1 fz2
  have KA := Lib.hid (KA.out.to hb)
  have KB := Lib.hid (KB.out.to hb)
  have KX := Lib.hid (KX.out.to hb)
  have KY := Lib.hid (KY.out.to hb)
  have GA := Lib.hid (GA.out.to hb)
  have GB := Lib.hid (GB.out.to hb)
  have Gx2 := Lib.hid (Gx2.out.to hb)
  have Gy2 := Lib.hid (Gy2.out.to hb)
  have HBE : Hid (Below w.heap.size w w6) := HBE.out.trans ((hb).mono HBE.out.size)
  clear hb
  clear Gx2
  clear Gy2
  have ka0 := KA.out.cell 0
  have ka1 := KA.out.cell 1
  have ka2 := KA.out.cell 2
  have kb0 := KB.out.cell 0
  have kb1 := KB.out.cell 1
  have kb2 := KB.out.cell 2
  simp only [List.getElem?_toArray, List.getElem?_cons_zero, List.getElem?_cons_succ] at ka0 ka1 ka2 kb0 kb1 kb2
  go_wp2_with fail
  refine (HF3.out _ _ _ (by exact GA.out) (by exact GB.out)).mono ?_
  rintro e w7 ⟨v, rfl, hg, hb⟩
  clear ka0 ka1 ka2 kb0 kb1 kb2
  have KA := Lib.hid (KA.out.to hb)
  have KB := Lib.hid (KB.out.to hb)
  have KX := Lib.hid (KX.out.to hb)
  have KY := Lib.hid (KY.out.to hb)
  have GA := Lib.hid (GA.out.to hb)
  have GB := Lib.hid (GB.out.to hb)
  have HBE : Hid (Below w.heap.size w w7) := HBE.out.trans ((hb).mono HBE.out.size)
  clear hb
  obtain ⟨Ax3, nx3, cx3, Bx3, mx3, dx3, rfl, hq1, hq2⟩ := hg.form
  have Gx3 := Lib.hid hg
  clear hq1 hq2 hg
  have ka0 := KA.out.cell 0
  have ka1 := KA.out.cell 1
  have ka2 := KA.out.cell 2
  have kb0 := KB.out.cell 0
  have kb1 := KB.out.cell 1
  have kb2 := KB.out.cell 2
  have kx0 := KX.out.cell 0
  have kx1 := KX.out.cell 1
  have kx2 := KX.out.cell 2
  simp only [List.getElem?_toArray, List.getElem?_cons_zero, List.getElem?_cons_succ] at ka0 ka1 ka2 kb0 kb1 kb2 kx0 kx1 kx2
  have fz0 := KX.out.frozen 0
  have fz1 := KX.out.frozen 1
  have fz2 := KX.out.frozen 2
  have GA := Lib.hid (GA.out.putN KX.out (.bool p3.1.neg) (.slice Ax3 nx3 cx3) (.slice Bx3 mx3 dx3))
  have GB := Lib.hid (GB.out.putN KX.out (.bool p3.1.neg) (.slice Ax3 nx3 cx3) (.slice Bx3 mx3 dx3))
  have Gx3 := Lib.hid (Gx3.out.putN KX.out (.bool p3.1.neg) (.slice Ax3 nx3 cx3) (.slice Bx3 mx3 dx3))
  have KA := Lib.hid (KA.out.put3_far (g := w1.heap.size) (by first | omega | simp) (.bool p3.1.neg) (.slice Ax3 nx3 cx3) (.slice Bx3 mx3 dx3))
  have KB := Lib.hid (KB.out.put3_far (g := w1.heap.size) (by first | omega | simp) (.bool p3.1.neg) (.slice Ax3 nx3 cx3) (.slice Bx3 mx3 dx3))
  have KY := Lib.hid (KY.out.put3_far (g := w1.heap.size) (by first | omega | simp) (.bool p3.1.neg) (.slice Ax3 nx3 cx3) (.slice Bx3 mx3 dx3))
  have HBE : Hid (Below w.heap.size w (put3 w7 (w1.heap.size) (.bool p3.1.neg) (.slice Ax3 nx3 cx3) (.slice Bx3 mx3 dx3))) := put3_below HBE.out (by omega) (.bool p3.1.neg) (.slice Ax3 nx3 cx3) (.slice Bx3 mx3 dx3)
  have KX := Lib.hid (KX.out.put3_at (.bool p3.1.neg) (.slice Ax3 nx3 cx3) (.slice Bx3 mx3 dx3))
  go_wp2_with fail
  refine (HT3.out _ _ _ (by exact GA.out) (by exact GB.out)).mono ?_
  rintro e w8 ⟨v, rfl, hg, hb⟩
  clear ka0 ka1 ka2 kb0 kb1 kb2 kx0 kx1 kx2 fz0 fz1 fz2
  have KA := Lib.hid (KA.out.to hb)
  have KB := Lib.hid (KB.out.to hb)
  have KX := Lib.hid (KX.out.to hb)
  have KY := Lib.hid (KY.out.to hb)
  have GA := Lib.hid (GA.out.to hb)
  have GB := Lib.hid (GB.out.to hb)
  have Gx3 := Lib.hid (Gx3.out.to hb)
  have HBE : Hid (Below w.heap.size w w8) := HBE.out.trans ((hb).mono HBE.out.size)
  clear hb
  obtain ⟨Ay3, ny3, cy3, By3, my3, dy3, rfl, hq1, hq2⟩ := hg.form
  have Gy3 := Lib.hid hg
  clear hq1 hq2 hg
  have kx0 := KX.out.cell 0
  have kx1 := KX.out.cell 1
  have kx2 := KX.out.cell 2
  have ky0 := KY.out.cell 0
  have ky1 := KY.out.cell 1
  have ky2 := KY.out.cell 2
  simp only [List.getElem?_toArray, List.getElem?_cons_zero, List.getElem?_cons_succ] at kx0 kx1 kx2 ky0 ky1 ky2
  have fz0 := KY.out.frozen 0
  have fz1 := KY.out.frozen 1
  have fz2 := KY.out.frozen 2
  have GA := Lib.hid (GA.out.putN KY.out (.bool p3.1.neg) (.slice Ay3 ny3 cy3) (.slice By3 my3 dy3))
  have GB := Lib.hid (GB.out.putN KY.out (.bool p3.1.neg) (.slice Ay3 ny3 cy3) (.slice By3 my3 dy3))
  have Gx3 := Lib.hid (Gx3.out.putN KY.out (.bool p3.1.neg) (.slice Ay3 ny3 cy3) (.slice By3 my3 dy3))
  have Gy3 := Lib.hid (Gy3.out.putN KY.out (.bool p3.1.neg) (.slice Ay3 ny3 cy3) (.slice By3 my3 dy3))
  have KA := Lib.hid (KA.out.put3_far (g := w2.heap.size) (by first | omega | simp) (.bool p3.1.neg) (.slice Ay3 ny3 cy3) (.slice By3 my3 dy3))
  have KB := Lib.hid (KB.out.put3_far (g := w2.heap.size) (by first | omega | simp) (.bool p3.1.neg) (.slice Ay3 ny3 cy3) (.slice By3 my3 dy3))
  have KX := Lib.hid (KX.out.put3_far (g := w2.heap.size) (by first | omega | simp) (.bool p3.1.neg) (.slice Ay3 ny3 cy3) (.slice By3 my3 dy3))
  have HBE : Hid (Below w.heap.size w (put3 w8 (w2.heap.size) (.bool p3.1.neg) (.slice Ay3 ny3 cy3) (.slice By3 my3 dy3))) := put3_below HBE.out (by omega) (.bool p3.1.neg) (.slice Ay3 ny3 cy3) (.slice By3 my3 dy3)
  have KY := Lib.hid (KY.out.put3_at (.bool p3.1.neg) (.slice Ay3 ny3 cy3) (.slice By3 my3 dy3))
  go_wp2_with fail
  refine (HSM.out _ _ _ _ (by exact Gx3.out) (by exact Gy3.out)).mono ?_
  rintro e w9 ⟨rfl, hb⟩
  clear kx0 kx1 kx2 ky0 ky1 ky2 fz0 fz1 fz2
  have KA := Lib.hid (KA.out.to hb)
  have KB := Lib.hid (KB.out.to hb)
  have KX := Lib.hid (KX.out.to hb)
  have KY := Lib.hid (KY.out.to hb)
  have GA := Lib.hid (GA.out.to hb)
  have GB := Lib.hid (GB.out.to hb)
  have Gx3 := Lib.hid (Gx3.out.to hb)
  have Gy3 := Lib.hid (Gy3.out.to hb)
  have HBE : Hid (Below w.heap.size w w9) := HBE.out.trans ((hb).mono HBE.out.size)
  clear hb
  clear Gx3
  clear Gy3
  have ka0 := KA.out.cell 0
  have ka1 := KA.out.cell 1
  have ka2 := KA.out.cell 2
  have kb0 := KB.out.cell 0
  have kb1 := KB.out.cell 1
  have kb2 := KB.out.cell 2
  simp only [List.getElem?_toArray, List.getElem?_cons_zero, List.getElem?_cons_succ] at ka0 ka1 ka2 kb0 kb1 kb2
  go_wp2_with fail
  refine (HF4.out _ _ _ (by exact GA.out) (by exact GB.out)).mono ?_
  rintro e w10 ⟨v, rfl, hg, hb⟩
  clear ka0 ka1 ka2 kb0 kb1 kb2
  have KA := Lib.hid (KA.out.to hb)
  have KB := Lib.hid (KB.out.to hb)
  have KX := Lib.hid (KX.out.to hb)
  have KY := Lib.hid (KY.out.to hb)
  have GA := Lib.hid (GA.out.to hb)
  have GB := Lib.hid (GB.out.to hb)
  have HBE : Hid (Below w.heap.size w w10) := HBE.out.trans ((hb).mono HBE.out.size)
  clear hb
  obtain ⟨Ax4, nx4, cx4, Bx4, mx4, dx4, rfl, hq1, hq2⟩ := hg.form
  have Gx4 := Lib.hid hg
  clear hq1 hq2 hg
  have ka0 := KA.out.cell 0
  have ka1 := KA.out.cell 1
  have ka2 := KA.out.cell 2
  have kb0 := KB.out.cell 0
  have kb1 := KB.out.cell 1
  have kb2 := KB.out.cell 2
  have kx0 := KX.out.cell 0
  have kx1 := KX.out.cell 1
  have kx2 := KX.out.cell 2
  simp only [List.getElem?_toArray, List.getElem?_cons_zero, List.getElem?_cons_succ] at ka0 ka1 ka2 kb0 kb1 kb2 kx0 kx1 kx2
  have fz0 := KX.out.frozen 0
  have fz1 := KX.out.frozen 1
  have fz2 := KX.out.frozen 2
  have GA := Lib.hid (GA.out.putN KX.out (.bool p4.1.neg) (.slice Ax4 nx4 cx4) (.slice Bx4 mx4 dx4))
  have GB := Lib.hid (GB.out.putN KX.out (.bool p4.1.neg) (.slice Ax4 nx4 cx4) (.slice Bx4 mx4 dx4))
  have Gx4 := Lib.hid (Gx4.out.putN KX.out (.bool p4.1.neg) (.slice Ax4 nx4 cx4) (.slice Bx4 mx4 dx4))
  have KA := Lib.hid (KA.out.put3_far (g := w1.heap.size) (by first | omega | simp) (.bool p4.1.neg) (.slice Ax4 nx4 cx4) (.slice Bx4 mx4 dx4))
  have KB := Lib.hid (KB.out.put3_far (g := w1.heap.size) (by first | omega | simp) (.bool p4.1.neg) (.slice Ax4 nx4 cx4) (.slice Bx4 mx4 dx4))
  have KY := Lib.hid (KY.out.put3_far (g := w1.heap.size) (by first | omega | simp) (.bool p4.1.neg) (.slice Ax4 nx4 cx4) (.slice Bx4 mx4 dx4))
  have HBE : Hid (Below w.heap.size w (put3 w10 (w1.heap.size) (.bool p4.1.neg) (.slice Ax4 nx4 cx4) (.slice Bx4 mx4 dx4))) := put3_below HBE.out (by omega) (.bool p4.1.neg) (.slice Ax4 nx4 cx4) (.slice Bx4 mx4 dx4)
  have KX := Lib.hid (KX.out.put3_at (.bool p4.1.neg) (.slice Ax4 nx4 cx4) (.slice Bx4 mx4 dx4))
  go_wp2_with fail
  refine (HT4.out _ _ _ (by exact GA.out) (by exact GB.out)).mono ?_
  rintro e w11 ⟨v, rfl, hg, hb⟩
  clear ka0 ka1 ka2 kb0 kb1 kb2 kx0 kx1 kx2 fz0 fz1 fz2
  have KA := Lib.hid (KA.out.to hb)
  have KB := Lib.hid (KB.out.to hb)
  have KX := Lib.hid (KX.out.to hb)
  have KY := Lib.hid (KY.out.to hb)
  have GA := Lib.hid (GA.out.to hb)
  have GB := Lib.hid (GB.out.to hb)
  have Gx4 := Lib.hid (Gx4.out.to hb)
  have HBE : Hid (Below w.heap.size w w11) := HBE.out.trans ((hb).mono HBE.out.size)
  clear hb
  obtain ⟨Ay4, ny4, cy4, By4, my4, dy4, rfl, hq1, hq2⟩ := hg.form
  have Gy4 := Lib.hid hg
  clear hq1 hq2 hg
  have kx0 := KX.out.cell 0
  have kx1 := KX.out.cell 1
  have kx2 := KX.out.cell 2
  have ky0 := KY.out.cell 0
  have ky1 := KY.out.cell 1
  have ky2 := KY.out.cell 2
  simp only [List.getElem?_toArray, List.getElem?_cons_zero, List.getElem?_cons_succ] at kx0 kx1 kx2 ky0 ky1 ky2
  have fz0 := KY.out.frozen 0
  have fz1 := KY.out.frozen 1
  have fz2 := KY.out.frozen 2
  have GA := Lib.hid (GA.out.putN KY.out (.bool p4.1.neg) (.slice Ay4 ny4 cy4) (.slice By4 my4 dy4))
  have GB := Lib.hid (GB.out.putN KY.out (.bool p4.1.neg) (.slice Ay4 ny4 cy4) (.slice By4 my4 dy4))
  have Gx4 := Lib.hid (Gx4.out.putN KY.out (.bool p4.1.neg) (.slice Ay4 ny4 cy4) (.slice By4 my4 dy4))
  have Gy4 := Lib.hid (Gy4.out.putN KY.out (.bool p4.1.neg) (.slice Ay4 ny4 cy4) (.slice By4 my4 dy4))
  have KA := Lib.hid (KA.out.put3_far (g := w2.heap.size) (by first | omega | simp) (.bool p4.1.neg) (.slice Ay4 ny4 cy4) (.slice By4 my4 dy4))
  have KB := Lib.hid (KB.out.put3_far (g := w2.heap.size) (by first | omega | simp) (.bool p4.1.neg) (.slice Ay4 ny4 cy4) (.slice By4 my4 dy4))
  have KX := Lib.hid (KX.out.put3_far (g := w2.heap.size) (by first | omega | simp) (.bool p4.1.neg) (.slice Ay4 ny4 cy4) (.slice By4 my4 dy4))
  have HBE : Hid (Below w.heap.size w (put3 w11 (w2.heap.size) (.bool p4.1.neg) (.slice Ay4 ny4 cy4) (.slice By4 my4 dy4))) := put3_below HBE.out (by omega) (.bool p4.1.neg) (.slice Ay4 ny4 cy4) (.slice By4 my4 dy4)
  have KY := Lib.hid (KY.out.put3_at (.bool p4.1.neg) (.slice Ay4 ny4 cy4) (.slice By4 my4 dy4))
  go_wp2_with fail
  refine (HSM.out _ _ _ _ (by exact Gx4.out) (by exact Gy4.out)).mono ?_
  rintro e w12 ⟨rfl, hb⟩
  clear kx0 kx1 kx2 ky0 ky1 ky2 fz0 fz1 fz2
  have KA := Lib.hid (KA.out.to hb)
  have KB := Lib.hid (KB.out.to hb)
  have KX := Lib.hid (KX.out.to hb)
  have KY := Lib.hid (KY.out.to hb)
  have GA := Lib.hid (GA.out.to hb)
  have GB := Lib.hid (GB.out.to hb)
  have Gx4 := Lib.hid (Gx4.out.to hb)
  have Gy4 := Lib.hid (Gy4.out.to hb)
  have HBE : Hid (Below w.heap.size w w12) := HBE.out.trans ((hb).mono HBE.out.size)
  clear hb
  clear Gx4
  clear Gy4
  go_wp2_with fail
  refine (counted_any _).mono ?_
  rintro e wz ⟨rfl, hb⟩
  go_wp2_with fail
  go_ret
  exact ⟨rfl, HBE.out.trans (hb.mono HBE.out.size)⟩

theorem numberArith_holds : Rows.NumberArithmeticMatchesSpecCardSaid := LawArith.card law_arith
#print axioms numberArith_holds
end Go.Proofs.YteopmkcogmnpnaaDoor

/- NumberRoundMatchesSpec: for all numbers and modes, Neg, Abs, Round and Root return what is specified. -/
import Derived.Deep.DeepCutAuto
import Derived.Test.YtdfcpkjphdepcaaDoorJo21
import Derived.Test.YtdfcpkjphdepcaaDoorJo35
import Derived.Test.YtdfcpkjphdepcaaDoorJo36
import Derived.Test.YtdfcpkjphdepcaaDoorJo37
set_option linter.unusedVariables false
set_option linter.unusedSimpArgs false
namespace Go.Proofs.YtdfcpkjphdepcaaDoor
open Go.RowKit NumB
set_option linter.unusedVariables false
set_option linter.unusedSimpArgs false

theorem GV.putN {w : World} {v : Value} {a : LN} {g : Nat} {t : TypeId} {s : Bool} {A A' : Option Addr} {n m ca cb : Nat} (h : GV w v a) (hg : Blk w g t #[.bool s, .slice A n ca, .slice A' m cb]) (x y z : Value) : GV (Go.Proofs.YtdfcpkjphdepcaaDoor.put3 w g x y z) v a := h.putM hg x y z
theorem round_S (m : Int) (hmb : -9223372036854775808 ≤ m ∧ m ≤ 9223372036854775807) (a : LN) (va : Value) (w : World) (ga : GV w va a) : Calls Tryd.prog 17 #[va, .int .i64 m] w (SPost w (roundS m a)) := by
  by_cases hm : m = 4
  · subst hm; exact round4_S a va w ga
  · exact roundNum_S m hm hmb a va w ga

set_option maxRecDepth 1000000 in
set_option maxHeartbeats 25600000 in
theorem law_round : LawRound.Walk := by
  intro a0 v0 m w g0 hmb
  have HO := Lib.hid g0.ok
  obtain ⟨A0, n0, c0, B0, m0, d0, rfl, hq1, hq2⟩ := g0.form
  clear hq1 hq2
  obtain ⟨p1, HF1, HT1⟩ : ∃ p : LN × Int, Hid (∀ (W : World) (u : Value), GV W u a0 → Calls Tryd.prog 13 #[u] W (SPost W p)) ∧ Hid (∀ (W : World) (u : Value), GV W u a0 → Calls Tryd.prog 14 #[.int .u8 110, u] W (SPost W p)) :=
    ⟨negS a0, fun W u h => negNum_S a0 u W h, fun W u h => rone_n a0 u W h⟩
  have hee1 : (p1.2 != p1.2) = false := by simp
  obtain ⟨p2, HF2, HT2⟩ : ∃ p : LN × Int, Hid (∀ (W : World) (u : Value), GV W u a0 → Calls Tryd.prog 15 #[u] W (SPost W p)) ∧ Hid (∀ (W : World) (u : Value), GV W u a0 → Calls Tryd.prog 14 #[.int .u8 97, u] W (SPost W p)) :=
    ⟨absS a0, fun W u h => absNum_S a0 u W h, fun W u h => rone_a a0 u W h⟩
  have hee2 : (p2.2 != p2.2) = false := by simp
  obtain ⟨p3, HF3, HT3⟩ : ∃ p : LN × Int, Hid (∀ (W : World) (u : Value), GV W u a0 → Calls Tryd.prog 16 #[u] W (SPost W p)) ∧ Hid (∀ (W : World) (u : Value), GV W u a0 → Calls Tryd.prog 14 #[.int .u8 115, u] W (SPost W p)) :=
    ⟨rootS a0, fun W u h => rootNum_S a0 u W h, fun W u h => rone_s a0 u W h⟩
  have hee3 : (p3.2 != p3.2) = false := by simp
  have HF4 : Hid (∀ (W : World) (u : Value), GV W u a0 → Calls Tryd.prog 17 #[u, .int .i64 m] W (SPost W (roundS m a0))) := fun W u h => round_S m hmb a0 u W h
  have HFA := Lib.hid (fun (W : World) (u : Value) (h : GV W u a0) => fault_S a0 u W h)
  have HOUT : Hid (¬ (1 ≤ m ∧ m ≤ 4) → roundS m a0 = (zeroL, if a0.err = 0 then 1 else a0.err)) := fun h => by
    unfold roundS
    by_cases e : a0.err = 0
    · rw [if_pos e, if_neg h, if_pos e]
    · rw [if_neg e, if_neg e]
  have HO1 : Hid (m = 1 → ∀ (W : World) (u : Value), GV W u a0 → Calls Tryd.prog 14 #[.int .u8 102, u] W (SPost W (roundS m a0))) := fun e W u h => by rw [e]; exact rone_f a0 u W h
  have HO2 : Hid (m = 2 → ∀ (W : World) (u : Value), GV W u a0 → Calls Tryd.prog 14 #[.int .u8 99, u] W (SPost W (roundS m a0))) := fun e W u h => by rw [e]; exact rone_c a0 u W h
  have HO3 : Hid (m = 3 → ∀ (W : World) (u : Value), GV W u a0 → Calls Tryd.prog 14 #[.int .u8 116, u] W (SPost W (roundS m a0))) := fun e W u h => by rw [e]; exact rone_t a0 u W h
  have HO4 : Hid (m = 4 → ∀ (W : World) (u : Value), GV W u a0 → Calls Tryd.prog 14 #[.int .u8 114, u] W (SPost W (roundS m a0))) := fun e W u h => by rw [e]; exact rone_r a0 u W h
  generalize roundS m a0 = p4 at *
  have hbd : 0 ≤ a0.err ∧ a0.err ≤ 3 := checkL_bd _ _ _
  obtain ⟨fz, HFZ⟩ : ∃ fz : Int, Hid (fz = if a0.err = 0 then 1 else a0.err) := ⟨_, rfl⟩
  rw [← HFZ.out] at HOUT
  have hee4 : (p4.2 == p4.2) = true := by simp
  have HSM : Hid (∀ (W : World) (u v : Value) (a : LN), GV W u a → GV W v a → Calls Tryd.prog 9 #[u, v] W fun e w' => e = .returned (.bool true) ∧ Below W.heap.size W w') := fun W u v a h1 h2 => by
    have := same_S a a u v W h1 h2
    rw [sameB_true rfl] at this
    exact this
  have KA := Lib.hid (Blk.new w 24 #[.bool a0.neg, .slice A0 n0 c0, .slice B0 m0 d0])
  have GA := Lib.hid (g0.to (below_one w (.cells #[.bool a0.neg, .slice A0 n0 c0, .slice B0 m0 d0] 24)))
  have HBE := Lib.hid (below_one w (.cells #[.bool a0.neg, .slice A0 n0 c0, .slice B0 m0 d0] 24))
  clear g0 HO
  go_enter Tryd.func5, Tryd.ntmps5
  go_wp2_with fail
  refine (HF1.out _ _ (by exact GA.out)).mono ?_
  rintro e w1 ⟨v, rfl, hg, hb⟩
  have KA := Lib.hid (KA.out.to hb)
  have GA := Lib.hid (GA.out.to hb)
  have HBE : Hid (Below w.heap.size w w1) := HBE.out.trans ((hb).mono HBE.out.size)
  clear hb
  obtain ⟨Ax1, nx1, cx1, Bx1, mx1, dx1, rfl, hq1, hq2⟩ := hg.form
  have Gx1 := Lib.hid hg
  clear hq1 hq2 hg
  have ka0 := KA.out.cell 0
  have ka1 := KA.out.cell 1
  have ka2 := KA.out.cell 2
  simp only [List.getElem?_toArray, List.getElem?_cons_zero, List.getElem?_cons_succ] at ka0 ka1 ka2
  have ltKAKX := KA.out.lt
  have KXN := Lib.hid (Blk.new w1 24 #[.bool p1.1.neg, .slice Ax1 nx1 cx1, .slice Bx1 mx1 dx1])
  have KA := Lib.hid (KA.out.to (below_one w1 (.cells #[.bool p1.1.neg, .slice Ax1 nx1 cx1, .slice Bx1 mx1 dx1] 24)))
  have GA := Lib.hid (GA.out.to (below_one w1 (.cells #[.bool p1.1.neg, .slice Ax1 nx1 cx1, .slice Bx1 mx1 dx1] 24)))
  have Gx1 := Lib.hid (Gx1.out.to (below_one w1 (.cells #[.bool p1.1.neg, .slice Ax1 nx1 cx1, .slice Bx1 mx1 dx1] 24)))
  have HBE : Hid (Below w.heap.size w (w1.alloc (.cells #[.bool p1.1.neg, .slice Ax1 nx1 cx1, .slice Bx1 mx1 dx1] 24))) := HBE.out.trans (((below_one w1 (.cells #[.bool p1.1.neg, .slice Ax1 nx1 cx1, .slice Bx1 mx1 dx1] 24))).mono HBE.out.size)
  have KX := KXN
  clear KXN
  have neKAKX : (w.heap.size = w1.heap.size) = False := eq_false (by omega)
  have neKXKA : (w1.heap.size = w.heap.size) = False := eq_false (by omega)
  go_wp2_with fail
  refine (HT1.out _ _ (by exact GA.out)).mono ?_
  rintro e w2 ⟨v, rfl, hg, hb⟩
  clear ka0 ka1 ka2
  have KA := Lib.hid (KA.out.to hb)
  have KX := Lib.hid (KX.out.to hb)
  have GA := Lib.hid (GA.out.to hb)
  have Gx1 := Lib.hid (Gx1.out.to hb)
  have HBE : Hid (Below w.heap.size w w2) := HBE.out.trans ((hb).mono HBE.out.size)
  clear hb
  obtain ⟨Ay1, ny1, cy1, By1, my1, dy1, rfl, hq1, hq2⟩ := hg.form
  have Gy1 := Lib.hid hg
  clear hq1 hq2 hg
  have kx0 := KX.out.cell 0
  have kx1 := KX.out.cell 1
  have kx2 := KX.out.cell 2
  simp only [List.getElem?_toArray, List.getElem?_cons_zero, List.getElem?_cons_succ] at kx0 kx1 kx2
  have ltKAKY := KA.out.lt
  have ltKXKY := KX.out.lt
  have KYN := Lib.hid (Blk.new w2 24 #[.bool p1.1.neg, .slice Ay1 ny1 cy1, .slice By1 my1 dy1])
  have KA := Lib.hid (KA.out.to (below_one w2 (.cells #[.bool p1.1.neg, .slice Ay1 ny1 cy1, .slice By1 my1 dy1] 24)))
  have KX := Lib.hid (KX.out.to (below_one w2 (.cells #[.bool p1.1.neg, .slice Ay1 ny1 cy1, .slice By1 my1 dy1] 24)))
  have GA := Lib.hid (GA.out.to (below_one w2 (.cells #[.bool p1.1.neg, .slice Ay1 ny1 cy1, .slice By1 my1 dy1] 24)))
  have Gx1 := Lib.hid (Gx1.out.to (below_one w2 (.cells #[.bool p1.1.neg, .slice Ay1 ny1 cy1, .slice By1 my1 dy1] 24)))
  have Gy1 := Lib.hid (Gy1.out.to (below_one w2 (.cells #[.bool p1.1.neg, .slice Ay1 ny1 cy1, .slice By1 my1 dy1] 24)))
  have HBE : Hid (Below w.heap.size w (w2.alloc (.cells #[.bool p1.1.neg, .slice Ay1 ny1 cy1, .slice By1 my1 dy1] 24))) := HBE.out.trans (((below_one w2 (.cells #[.bool p1.1.neg, .slice Ay1 ny1 cy1, .slice By1 my1 dy1] 24))).mono HBE.out.size)
  have KY := KYN
  clear KYN
  have neKAKY : (w.heap.size = w2.heap.size) = False := eq_false (by omega)
  have neKYKA : (w2.heap.size = w.heap.size) = False := eq_false (by omega)
  have neKXKY : (w1.heap.size = w2.heap.size) = False := eq_false (by omega)
  have neKYKX : (w2.heap.size = w1.heap.size) = False := eq_false (by omega)
  go_wp2_with fail
  refine (HSM.out _ _ _ _ (by exact Gx1.out) (by exact Gy1.out)).mono ?_
  rintro e w3 ⟨rfl, hb⟩
  clear kx0 kx1 kx2
  have KA := Lib.hid (KA.out.to hb)
  have KX := Lib.hid (KX.out.to hb)
  have KY := Lib.hid (KY.out.to hb)
  have GA := Lib.hid (GA.out.to hb)
  have Gx1 := Lib.hid (Gx1.out.to hb)
  have Gy1 := Lib.hid (Gy1.out.to hb)
  have HBE : Hid (Below w.heap.size w w3) := HBE.out.trans ((hb).mono HBE.out.size)
  clear hb
  clear Gx1
  clear Gy1
  have ka0 := KA.out.cell 0
  have ka1 := KA.out.cell 1
  have ka2 := KA.out.cell 2
  simp only [List.getElem?_toArray, List.getElem?_cons_zero, List.getElem?_cons_succ] at ka0 ka1 ka2
  go_wp2_with fail
  refine (HF2.out _ _ (by exact GA.out)).mono ?_
  rintro e w4 ⟨v, rfl, hg, hb⟩
  clear ka0 ka1 ka2
  have KA := Lib.hid (KA.out.to hb)
  have KX := Lib.hid (KX.out.to hb)
  have KY := Lib.hid (KY.out.to hb)
  have GA := Lib.hid (GA.out.to hb)
  have HBE : Hid (Below w.heap.size w w4) := HBE.out.trans ((hb).mono HBE.out.size)
  clear hb
  obtain ⟨Ax2, nx2, cx2, Bx2, mx2, dx2, rfl, hq1, hq2⟩ := hg.form
  have Gx2 := Lib.hid hg
  clear hq1 hq2 hg
  have ka0 := KA.out.cell 0
  have ka1 := KA.out.cell 1
  have ka2 := KA.out.cell 2
  have kx0 := KX.out.cell 0
  have kx1 := KX.out.cell 1
  have kx2 := KX.out.cell 2
  simp only [List.getElem?_toArray, List.getElem?_cons_zero, List.getElem?_cons_succ] at ka0 ka1 ka2 kx0 kx1 kx2
  have fz0 := KX.out.frozen 0
  have fz1 := KX.out.frozen 1
  have fz2 := KX.out.frozen 2
  have GA := Lib.hid (GA.out.putN KX.out (.bool p2.1.neg) (.slice Ax2 nx2 cx2) (.slice Bx2 mx2 dx2))
  have Gx2 := Lib.hid (Gx2.out.putN KX.out (.bool p2.1.neg) (.slice Ax2 nx2 cx2) (.slice Bx2 mx2 dx2))
  have KA := Lib.hid (KA.out.put3_far (g := w1.heap.size) (by first | omega | simp) (.bool p2.1.neg) (.slice Ax2 nx2 cx2) (.slice Bx2 mx2 dx2))
  have KY := Lib.hid (KY.out.put3_far (g := w1.heap.size) (by first | omega | simp) (.bool p2.1.neg) (.slice Ax2 nx2 cx2) (.slice Bx2 mx2 dx2))
  have HBE : Hid (Below w.heap.size w (put3 w4 (w1.heap.size) (.bool p2.1.neg) (.slice Ax2 nx2 cx2) (.slice Bx2 mx2 dx2))) := put3_below HBE.out (by omega) (.bool p2.1.neg) (.slice Ax2 nx2 cx2) (.slice Bx2 mx2 dx2)
  have KX := Lib.hid (KX.out.put3_at (.bool p2.1.neg) (.slice Ax2 nx2 cx2) (.slice Bx2 mx2 dx2))
  go_wp2_with fail
  refine (HT2.out _ _ (by exact GA.out)).mono ?_
  rintro e w5 ⟨v, rfl, hg, hb⟩
  clear ka0 ka1 ka2 kx0 kx1 kx2 fz0 fz1 fz2
  have KA := Lib.hid (KA.out.to hb)
  have KX := Lib.hid (KX.out.to hb)
  have KY := Lib.hid (KY.out.to hb)
  have GA := Lib.hid (GA.out.to hb)
  have Gx2 := Lib.hid (Gx2.out.to hb)
  have HBE : Hid (Below w.heap.size w w5) := HBE.out.trans ((hb).mono HBE.out.size)
  clear hb
  obtain ⟨Ay2, ny2, cy2, By2, my2, dy2, rfl, hq1, hq2⟩ := hg.form
  have Gy2 := Lib.hid hg
  clear hq1 hq2 hg
  have kx0 := KX.out.cell 0
  have kx1 := KX.out.cell 1
  have kx2 := KX.out.cell 2
  have ky0 := KY.out.cell 0
  have ky1 := KY.out.cell 1
  have ky2 := KY.out.cell 2
  simp only [List.getElem?_toArray, List.getElem?_cons_zero, List.getElem?_cons_succ] at kx0 kx1 kx2 ky0 ky1 ky2
  have fz0 := KY.out.frozen 0
  have fz1 := KY.out.frozen 1
  have fz2 := KY.out.frozen 2
  have GA := Lib.hid (GA.out.putN KY.out (.bool p2.1.neg) (.slice Ay2 ny2 cy2) (.slice By2 my2 dy2))
  have Gx2 := Lib.hid (Gx2.out.putN KY.out (.bool p2.1.neg) (.slice Ay2 ny2 cy2) (.slice By2 my2 dy2))
  have Gy2 := Lib.hid (Gy2.out.putN KY.out (.bool p2.1.neg) (.slice Ay2 ny2 cy2) (.slice By2 my2 dy2))
  have KA := Lib.hid (KA.out.put3_far (g := w2.heap.size) (by first | omega | simp) (.bool p2.1.neg) (.slice Ay2 ny2 cy2) (.slice By2 my2 dy2))
  have KX := Lib.hid (KX.out.put3_far (g := w2.heap.size) (by first | omega | simp) (.bool p2.1.neg) (.slice Ay2 ny2 cy2) (.slice By2 my2 dy2))
  have HBE : Hid (Below w.heap.size w (put3 w5 (w2.heap.size) (.bool p2.1.neg) (.slice Ay2 ny2 cy2) (.slice By2 my2 dy2))) := put3_below HBE.out (by omega) (.bool p2.1.neg) (.slice Ay2 ny2 cy2) (.slice By2 my2 dy2)
  have KY := Lib.hid (KY.out.put3_at (.bool p2.1.neg) (.slice Ay2 ny2 cy2) (.slice By2 my2 dy2))
  go_wp2_with fail
  refine (HSM.out _ _ _ _ (by exact Gx2.out) (by exact Gy2.out)).mono ?_
  rintro e w6 ⟨rfl, hb⟩
  clear kx0 kx1 kx2 ky0 ky1 ky2 fz0 fz1 fz2
  have KA := Lib.hid (KA.out.to hb)
  have KX := Lib.hid (KX.out.to hb)
  have KY := Lib.hid (KY.out.to hb)
  have GA := Lib.hid (GA.out.to hb)
  have Gx2 := Lib.hid (Gx2.out.to hb)
  have Gy2 := Lib.hid (Gy2.out.to hb)
  have HBE : Hid (Below w.heap.size w w6) := HBE.out.trans ((hb).mono HBE.out.size)
  clear hb
  clear Gx2
  clear Gy2
  have ka0 := KA.out.cell 0
  have ka1 := KA.out.cell 1
  have ka2 := KA.out.cell 2
  simp only [List.getElem?_toArray, List.getElem?_cons_zero, List.getElem?_cons_succ] at ka0 ka1 ka2
  go_wp2_with fail
  refine (HF3.out _ _ (by exact GA.out)).mono ?_
  rintro e w7 ⟨v, rfl, hg, hb⟩
  clear ka0 ka1 ka2
  have KA := Lib.hid (KA.out.to hb)
  have KX := Lib.hid (KX.out.to hb)
  have KY := Lib.hid (KY.out.to hb)
  have GA := Lib.hid (GA.out.to hb)
  have HBE : Hid (Below w.heap.size w w7) := HBE.out.trans ((hb).mono HBE.out.size)
  clear hb
  obtain ⟨Ax3, nx3, cx3, Bx3, mx3, dx3, rfl, hq1, hq2⟩ := hg.form
  have Gx3 := Lib.hid hg
  clear hq1 hq2 hg
  have ka0 := KA.out.cell 0
  have ka1 := KA.out.cell 1
  have ka2 := KA.out.cell 2
  have kx0 := KX.out.cell 0
  have kx1 := KX.out.cell 1
  have kx2 := KX.out.cell 2
  simp only [List.getElem?_toArray, List.getElem?_cons_zero, List.getElem?_cons_succ] at ka0 ka1 ka2 kx0 kx1 kx2
  have fz0 := KX.out.frozen 0
  have fz1 := KX.out.frozen 1
  have fz2 := KX.out.frozen 2
  have GA := Lib.hid (GA.out.putN KX.out (.bool p3.1.neg) (.slice Ax3 nx3 cx3) (.slice Bx3 mx3 dx3))
  have Gx3 := Lib.hid (Gx3.out.putN KX.out (.bool p3.1.neg) (.slice Ax3 nx3 cx3) (.slice Bx3 mx3 dx3))
  have KA := Lib.hid (KA.out.put3_far (g := w1.heap.size) (by first | omega | simp) (.bool p3.1.neg) (.slice Ax3 nx3 cx3) (.slice Bx3 mx3 dx3))
  have KY := Lib.hid (KY.out.put3_far (g := w1.heap.size) (by first | omega | simp) (.bool p3.1.neg) (.slice Ax3 nx3 cx3) (.slice Bx3 mx3 dx3))
  have HBE : Hid (Below w.heap.size w (put3 w7 (w1.heap.size) (.bool p3.1.neg) (.slice Ax3 nx3 cx3) (.slice Bx3 mx3 dx3))) := put3_below HBE.out (by omega) (.bool p3.1.neg) (.slice Ax3 nx3 cx3) (.slice Bx3 mx3 dx3)
  have KX := Lib.hid (KX.out.put3_at (.bool p3.1.neg) (.slice Ax3 nx3 cx3) (.slice Bx3 mx3 dx3))
  go_wp2_with fail
  refine (HT3.out _ _ (by exact GA.out)).mono ?_
  rintro e w8 ⟨v, rfl, hg, hb⟩
  clear ka0 ka1 ka2 kx0 kx1 kx2 fz0 fz1 fz2
  have KA := Lib.hid (KA.out.to hb)
  have KX := Lib.hid (KX.out.to hb)
  have KY := Lib.hid (KY.out.to hb)
  have GA := Lib.hid (GA.out.to hb)
  have Gx3 := Lib.hid (Gx3.out.to hb)
  have HBE : Hid (Below w.heap.size w w8) := HBE.out.trans ((hb).mono HBE.out.size)
  clear hb
  obtain ⟨Ay3, ny3, cy3, By3, my3, dy3, rfl, hq1, hq2⟩ := hg.form
  have Gy3 := Lib.hid hg
  clear hq1 hq2 hg
  have kx0 := KX.out.cell 0
  have kx1 := KX.out.cell 1
  have kx2 := KX.out.cell 2
  have ky0 := KY.out.cell 0
  have ky1 := KY.out.cell 1
  have ky2 := KY.out.cell 2
  simp only [List.getElem?_toArray, List.getElem?_cons_zero, List.getElem?_cons_succ] at kx0 kx1 kx2 ky0 ky1 ky2
  have fz0 := KY.out.frozen 0
  have fz1 := KY.out.frozen 1
  have fz2 := KY.out.frozen 2
  have GA := Lib.hid (GA.out.putN KY.out (.bool p3.1.neg) (.slice Ay3 ny3 cy3) (.slice By3 my3 dy3))
  have Gx3 := Lib.hid (Gx3.out.putN KY.out (.bool p3.1.neg) (.slice Ay3 ny3 cy3) (.slice By3 my3 dy3))
  have Gy3 := Lib.hid (Gy3.out.putN KY.out (.bool p3.1.neg) (.slice Ay3 ny3 cy3) (.slice By3 my3 dy3))
  have KA := Lib.hid (KA.out.put3_far (g := w2.heap.size) (by first | omega | simp) (.bool p3.1.neg) (.slice Ay3 ny3 cy3) (.slice By3 my3 dy3))
  have KX := Lib.hid (KX.out.put3_far (g := w2.heap.size) (by first | omega | simp) (.bool p3.1.neg) (.slice Ay3 ny3 cy3) (.slice By3 my3 dy3))
  have HBE : Hid (Below w.heap.size w (put3 w8 (w2.heap.size) (.bool p3.1.neg) (.slice Ay3 ny3 cy3) (.slice By3 my3 dy3))) := put3_below HBE.out (by omega) (.bool p3.1.neg) (.slice Ay3 ny3 cy3) (.slice By3 my3 dy3)
  have KY := Lib.hid (KY.out.put3_at (.bool p3.1.neg) (.slice Ay3 ny3 cy3) (.slice By3 my3 dy3))
  go_wp2_with fail
  refine (HSM.out _ _ _ _ (by exact Gx3.out) (by exact Gy3.out)).mono ?_
  rintro e w9 ⟨rfl, hb⟩
  clear kx0 kx1 kx2 ky0 ky1 ky2 fz0 fz1 fz2
  have KA := Lib.hid (KA.out.to hb)
  have KX := Lib.hid (KX.out.to hb)
  have KY := Lib.hid (KY.out.to hb)
  have GA := Lib.hid (GA.out.to hb)
  have Gx3 := Lib.hid (Gx3.out.to hb)
  have Gy3 := Lib.hid (Gy3.out.to hb)
  have HBE : Hid (Below w.heap.size w w9) := HBE.out.trans ((hb).mono HBE.out.size)
  clear hb
  clear Gx3
  clear Gy3
  have ka0 := KA.out.cell 0
  have ka1 := KA.out.cell 1
  have ka2 := KA.out.cell 2
  simp only [List.getElem?_toArray, List.getElem?_cons_zero, List.getElem?_cons_succ] at ka0 ka1 ka2
  go_wp2_with fail
  refine (HF4.out _ _ (by exact GA.out)).mono ?_
  rintro e w10 ⟨v, rfl, hg, hb⟩
  clear ka0 ka1 ka2
  have KA := Lib.hid (KA.out.to hb)
  have KX := Lib.hid (KX.out.to hb)
  have KY := Lib.hid (KY.out.to hb)
  have GA := Lib.hid (GA.out.to hb)
  have HBE : Hid (Below w.heap.size w w10) := HBE.out.trans ((hb).mono HBE.out.size)
  clear hb
  obtain ⟨Ax4, nx4, cx4, Bx4, mx4, dx4, rfl, hq1, hq2⟩ := hg.form
  have Gx4 := Lib.hid hg
  clear hq1 hq2 hg
  have ka0 := KA.out.cell 0
  have ka1 := KA.out.cell 1
  have ka2 := KA.out.cell 2
  have kx0 := KX.out.cell 0
  have kx1 := KX.out.cell 1
  have kx2 := KX.out.cell 2
  simp only [List.getElem?_toArray, List.getElem?_cons_zero, List.getElem?_cons_succ] at ka0 ka1 ka2 kx0 kx1 kx2
  have fz0 := KX.out.frozen 0
  have fz1 := KX.out.frozen 1
  have fz2 := KX.out.frozen 2
  have GA := Lib.hid (GA.out.putN KX.out (.bool p4.1.neg) (.slice Ax4 nx4 cx4) (.slice Bx4 mx4 dx4))
  have Gx4 := Lib.hid (Gx4.out.putN KX.out (.bool p4.1.neg) (.slice Ax4 nx4 cx4) (.slice Bx4 mx4 dx4))
  have KA := Lib.hid (KA.out.put3_far (g := w1.heap.size) (by first | omega | simp) (.bool p4.1.neg) (.slice Ax4 nx4 cx4) (.slice Bx4 mx4 dx4))
  have KY := Lib.hid (KY.out.put3_far (g := w1.heap.size) (by first | omega | simp) (.bool p4.1.neg) (.slice Ax4 nx4 cx4) (.slice Bx4 mx4 dx4))
  have HBE : Hid (Below w.heap.size w (put3 w10 (w1.heap.size) (.bool p4.1.neg) (.slice Ax4 nx4 cx4) (.slice Bx4 mx4 dx4))) := put3_below HBE.out (by omega) (.bool p4.1.neg) (.slice Ax4 nx4 cx4) (.slice Bx4 mx4 dx4)
  have KX := Lib.hid (KX.out.put3_at (.bool p4.1.neg) (.slice Ax4 nx4 cx4) (.slice Bx4 mx4 dx4))
  go_wp2_with fail
  refine (HFA.out _ _ (by exact GA.out)).mono ?_
  rintro e w11 ⟨rfl, hb⟩
  clear ka0 ka1 ka2 kx0 kx1 kx2 fz0 fz1 fz2
  have KA := Lib.hid (KA.out.to hb)
  have KX := Lib.hid (KX.out.to hb)
  have KY := Lib.hid (KY.out.to hb)
  have GA := Lib.hid (GA.out.to hb)
  have Gx4 := Lib.hid (Gx4.out.to hb)
  have HBE : Hid (Below w.heap.size w w11) := HBE.out.trans ((hb).mono HBE.out.size)
  clear hb
  have ky0 := KY.out.cell 0
  have ky1 := KY.out.cell 1
  have ky2 := KY.out.cell 2
  simp only [List.getElem?_toArray, List.getElem?_cons_zero, List.getElem?_cons_succ] at ky0 ky1 ky2
  have fz0 := KY.out.frozen 0
  have fz1 := KY.out.frozen 1
  have fz2 := KY.out.frozen 2
  have GA := Lib.hid (GA.out.putN KY.out (.bool false) (.slice none 0 0) (.slice none 0 0))
  have Gx4 := Lib.hid (Gx4.out.putN KY.out (.bool false) (.slice none 0 0) (.slice none 0 0))
  have KA := Lib.hid (KA.out.put3_far (g := w2.heap.size) (by first | omega | simp) (.bool false) (.slice none 0 0) (.slice none 0 0))
  have KX := Lib.hid (KX.out.put3_far (g := w2.heap.size) (by first | omega | simp) (.bool false) (.slice none 0 0) (.slice none 0 0))
  have HBE : Hid (Below w.heap.size w (put3 w11 (w2.heap.size) (.bool false) (.slice none 0 0) (.slice none 0 0))) := put3_below HBE.out (by omega) (.bool false) (.slice none 0 0) (.slice none 0 0)
  have KY := Lib.hid (KY.out.put3_at (.bool false) (.slice none 0 0) (.slice none 0 0))
  obtain ⟨WQ, hWQ⟩ : ∃ WQ : World, (put3 w11 (w2.heap.size) (.bool false) (.slice none 0 0) (.slice none 0 0)) = WQ := ⟨_, rfl⟩
  have HWQ := Lib.hid hWQ
  clear hWQ
  go_upto_if 76 with fail
  go_cut [8] (fun s8 wx => s8 = .int .i64 fz ∧ Hid ((put3 w11 (w2.heap.size) (.bool false) (.slice none 0 0) (.slice none 0 0)) = wx))
  case first =>
    by_cases e0 : a0.err = 0
    · have HE : Hid (fz = 1) := by rw [HFZ.out, if_pos e0]; rfl
      rw [e0]
      clear hbd e0
      go_wp2
      go_meet
      case rel => exact ⟨by rw [HE.out], rfl⟩
    · have HE : Hid (fz = a0.err) := by rw [HFZ.out, if_neg e0]; rfl
      have b0 : (a0.err == 0) = false := beq_eq_false_iff_ne.2 e0
      go_wp2
      go_meet
      case rel => exact ⟨by rw [HE.out], rfl⟩
  case rest =>
    obtain ⟨rfl, hwx⟩ := hcut
    obtain rfl := hwx.out
    clear hwx HWQ
    clear ky0 ky1 ky2 fz0 fz1 fz2
    by_cases hin : 1 ≤ m ∧ m ≤ 4
    rotate_left
    · have HZ9 := Lib.hid (HOUT.out hin)
      have hff : (p4.2 == fz) = true := by rw [HZ9.out]; simp
      have HZ8 : Hid (zeroL = p4.1) := by rw [HZ9.out]; rfl
      have hcc : (m < 1) ∨ (1 ≤ m ∧ 4 < m) := by omega
      clear hin HFZ HOUT HO1 HO2 HO3 HO4 HZ9
      rcases hcc with hc | ⟨hc1, hc2⟩
      all_goals
        have GZ : Hid (GV ((put3 w11 (w2.heap.size) (.bool false) (.slice none 0 0) (.slice none 0 0))) zeroNum p4.1) := by rw [← HZ8.out]; exact GV.zero _
        have kx0 := KX.out.cell 0
        have kx1 := KX.out.cell 1
        have kx2 := KX.out.cell 2
        have ky0 := KY.out.cell 0
        have ky1 := KY.out.cell 1
        have ky2 := KY.out.cell 2
        simp only [List.getElem?_toArray, List.getElem?_cons_zero, List.getElem?_cons_succ] at kx0 kx1 kx2 ky0 ky1 ky2
        go_wp2_with fail
        refine (HSM.out _ _ _ _ (by exact Gx4.out) (by exact GZ.out)).mono ?_
        rintro e w12 ⟨rfl, hb⟩
        clear kx0 kx1 kx2 ky0 ky1 ky2
        have KA := Lib.hid (KA.out.to hb)
        have KX := Lib.hid (KX.out.to hb)
        have KY := Lib.hid (KY.out.to hb)
        have GA := Lib.hid (GA.out.to hb)
        have Gx4 := Lib.hid (Gx4.out.to hb)
        have GZ := Lib.hid (GZ.out.to hb)
        have HBE : Hid (Below w.heap.size w w12) := HBE.out.trans ((hb).mono HBE.out.size)
        clear hb
        go_wp2_with fail
        refine (counted_any _).mono ?_
        rintro e wz ⟨rfl, hb⟩
        go_wp2_with fail
        go_ret
        exact ⟨rfl, HBE.out.trans (hb.mono HBE.out.size)⟩
    · have hm4 : m = 1 ∨ m = 2 ∨ m = 3 ∨ m = 4 := by omega
      obtain ⟨k, HOK, hk⟩ : ∃ k : Int, Hid (∀ (W : World) (u : Value), GV W u a0 → Calls Tryd.prog 14 #[.int .u8 k, u] W (SPost W p4)) ∧ ((m = 1 ∧ k = 102) ∨ (m = 2 ∧ k = 99) ∨ (m = 3 ∧ k = 116) ∨ (m = 4 ∧ k = 114)) := by
        rcases hm4 with h | h | h | h
        · exact ⟨102, HO1.out h, .inl ⟨h, rfl⟩⟩
        · exact ⟨99, HO2.out h, .inr (.inl ⟨h, rfl⟩)⟩
        · exact ⟨116, HO3.out h, .inr (.inr (.inl ⟨h, rfl⟩))⟩
        · exact ⟨114, HO4.out h, .inr (.inr (.inr ⟨h, rfl⟩))⟩
      clear hin hm4 HFZ HOUT HO1 HO2 HO3 HO4 hmb
      rcases hk with ⟨rfl, rfl⟩ | ⟨rfl, rfl⟩ | ⟨rfl, rfl⟩ | ⟨rfl, rfl⟩
      all_goals
        have ka0 := KA.out.cell 0
        have ka1 := KA.out.cell 1
        have ka2 := KA.out.cell 2
        simp only [List.getElem?_toArray, List.getElem?_cons_zero, List.getElem?_cons_succ] at ka0 ka1 ka2
        have hlta := KA.out.lt
        have hlty := KY.out.lt
        have GAD : Hid (GV ((put3 w11 (w2.heap.size) (.bool false) (.slice none 0 0) (.slice none 0 0))).drew (.agg #[.bool a0.neg, .slice A0 n0 c0, .slice B0 m0 d0]) a0) := GA.out.to (Below.refl _ _).drew
        have KYD := Lib.hid KY.out.drew
        have HS1 : Hid (((put3 w11 (w2.heap.size) (.bool false) (.slice none 0 0) (.slice none 0 0))).cell? ⟨w.heap.size, 0, none⟩ = some (.bool a0.neg) ∧ ((put3 w11 (w2.heap.size) (.bool false) (.slice none 0 0) (.slice none 0 0))).cell? ⟨w.heap.size, 1, none⟩ = some (.slice A0 n0 c0) ∧ ((put3 w11 (w2.heap.size) (.bool false) (.slice none 0 0) (.slice none 0 0))).cell? ⟨w.heap.size, 2, none⟩ = some (.slice B0 m0 d0) ∧ w.heap.size < ((put3 w11 (w2.heap.size) (.bool false) (.slice none 0 0) (.slice none 0 0))).heap.size) := ⟨ka0, ka1, ka2, hlta⟩
        have HKW : Hid (∀ W' : World, Below ((put3 w11 (w2.heap.size) (.bool false) (.slice none 0 0) (.slice none 0 0))).heap.size ((put3 w11 (w2.heap.size) (.bool false) (.slice none 0 0) (.slice none 0 0))) W' → (W'.cell? ⟨w.heap.size, 0, none⟩ = some (.bool a0.neg) ∧ W'.cell? ⟨w.heap.size, 1, none⟩ = some (.slice A0 n0 c0) ∧ W'.cell? ⟨w.heap.size, 2, none⟩ = some (.slice B0 m0 d0) ∧ w.heap.size < W'.heap.size)) := fun W' h => ⟨(h.cell (p := ⟨w.heap.size, 0, none⟩) HS1.out.2.2.2).trans HS1.out.1, (h.cell (p := ⟨w.heap.size, 1, none⟩) HS1.out.2.2.2).trans HS1.out.2.1, (h.cell (p := ⟨w.heap.size, 2, none⟩) HS1.out.2.2.2).trans HS1.out.2.2.1, Nat.lt_of_lt_of_le HS1.out.2.2.2 h.size⟩
        go_wp2_with fail
        go_region_held3 (fun w' => w'.cell? ⟨w.heap.size, 0, none⟩ = some (.bool a0.neg) ∧ w'.cell? ⟨w.heap.size, 1, none⟩ = some (.slice A0 n0 c0) ∧ w'.cell? ⟨w.heap.size, 2, none⟩ = some (.slice B0 m0 d0) ∧ w.heap.size < w'.heap.size)
          (first | (with_reducible exact HKW.out _ (Hid.out (by assumption))) | (go_keep; done))
          (first
            | (go_at_call 14; (refine (HOK.out _ _ (by exact GAD.out)).mono ?_); rintro e y1 ⟨v1, rfl, hg, hb1⟩; have HD1 : Hid (Below ((put3 w11 (w2.heap.size) (.bool false) (.slice none 0 0) (.slice none 0 0))).heap.size ((put3 w11 (w2.heap.size) (.bool false) (.slice none 0 0) (.slice none 0 0))) y1) := (Below.refl _ _).drew.trans hb1; have hblk := KYD.out.to hb1; obtain ⟨C1, q1, r1, C2, q2, r2, rfl, hq1, hq2⟩ := hg.form; clear hq1 hq2; have cy0 := hblk.cell 0; have cy1 := hblk.cell 1; have cy2 := hblk.cell 2; simp only [List.getElem?_toArray, List.getElem?_cons_zero, List.getElem?_cons_succ] at cy0 cy1 cy2; have fy0 := hblk.frozen 0; have fy1 := hblk.frozen 1; have fy2 := hblk.frozen 2))
        all_goals
          have hb := HD1.out
          have Gy4 := Lib.hid hg
          clear hg hb1 cy0 cy1 cy2 fy0 fy1 fy2 hblk HD1 ka0 ka1 ka2
          have KA := Lib.hid (KA.out.to hb)
          have KX := Lib.hid (KX.out.to hb)
          have KY := Lib.hid (KY.out.to hb)
          have GA := Lib.hid (GA.out.to hb)
          have Gx4 := Lib.hid (Gx4.out.to hb)
          have HBE : Hid (Below w.heap.size w y1) := HBE.out.trans ((hb).mono HBE.out.size)
          clear hb
          have ky0 := KY.out.cell 0
          have ky1 := KY.out.cell 1
          have ky2 := KY.out.cell 2
          simp only [List.getElem?_toArray, List.getElem?_cons_zero, List.getElem?_cons_succ] at ky0 ky1 ky2
          have fz0 := KY.out.frozen 0
          have fz1 := KY.out.frozen 1
          have fz2 := KY.out.frozen 2
          have GA := Lib.hid (GA.out.putN KY.out (.bool p4.1.neg) (.slice C1 q1 r1) (.slice C2 q2 r2))
          have Gx4 := Lib.hid (Gx4.out.putN KY.out (.bool p4.1.neg) (.slice C1 q1 r1) (.slice C2 q2 r2))
          have Gy4 := Lib.hid (Gy4.out.putN KY.out (.bool p4.1.neg) (.slice C1 q1 r1) (.slice C2 q2 r2))
          have KA := Lib.hid (KA.out.put3_far (g := w2.heap.size) (by first | omega | simp) (.bool p4.1.neg) (.slice C1 q1 r1) (.slice C2 q2 r2))
          have KX := Lib.hid (KX.out.put3_far (g := w2.heap.size) (by first | omega | simp) (.bool p4.1.neg) (.slice C1 q1 r1) (.slice C2 q2 r2))
          have HBE : Hid (Below w.heap.size w (put3 y1 (w2.heap.size) (.bool p4.1.neg) (.slice C1 q1 r1) (.slice C2 q2 r2))) := put3_below HBE.out (by omega) (.bool p4.1.neg) (.slice C1 q1 r1) (.slice C2 q2 r2)
          have KY := Lib.hid (KY.out.put3_at (.bool p4.1.neg) (.slice C1 q1 r1) (.slice C2 q2 r2))
          clear ky0 ky1 ky2 fz0 fz1 fz2
          have kx0 := KX.out.cell 0
          have kx1 := KX.out.cell 1
          have kx2 := KX.out.cell 2
          have ky0 := KY.out.cell 0
          have ky1 := KY.out.cell 1
          have ky2 := KY.out.cell 2
          simp only [List.getElem?_toArray, List.getElem?_cons_zero, List.getElem?_cons_succ] at kx0 kx1 kx2 ky0 ky1 ky2
          unfold put3 at kx0 kx1 kx2 ky0 ky1 ky2
          go_wp2_with fail
          refine (HSM.out _ _ _ _ (by exact Gx4.out) (by exact Gy4.out)).mono ?_
          rintro e w12 ⟨rfl, hb⟩
          clear kx0 kx1 kx2 ky0 ky1 ky2
          have KA := Lib.hid (KA.out.to hb)
          have KX := Lib.hid (KX.out.to hb)
          have KY := Lib.hid (KY.out.to hb)
          have GA := Lib.hid (GA.out.to hb)
          have Gx4 := Lib.hid (Gx4.out.to hb)
          have Gy4 := Lib.hid (Gy4.out.to hb)
          have HBE : Hid (Below w.heap.size w w12) := HBE.out.trans ((hb).mono HBE.out.size)
          clear hb
          go_wp2_with fail
          refine (counted_any _).mono ?_
          rintro e wz ⟨rfl, hb⟩
          go_wp2_with fail
          go_ret
          exact ⟨rfl, HBE.out.trans (hb.mono HBE.out.size)⟩

theorem numberRound_holds : Rows.NumberRoundMatchesSpecCardSaid := LawRound.card law_round
#print axioms numberRound_holds
end Go.Proofs.YtdfcpkjphdepcaaDoor

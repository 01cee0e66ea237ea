/-  -/
import Derived.Deep.RegionHeld3
import Derived.Test.YtkfnpcilanheiaaGreatJo28
import Derived.Test.YtkfnpcilanheiaaGreatJo30
import Derived.Test.YtkfnpcilanheiaaGreatJo31
import Derived.Test.YtkfnpcilanheiaaGreatJo46
set_option linter.unusedVariables false
set_option linter.unusedSimpArgs false
/- TermApplyMatchesSpec: for all terms and bindings, Apply and Rename return what is specified. -/
namespace Go.Proofs.YtkfnpcilanheiaaGreat
open Go.RowKit NumB
set_option linter.unusedVariables false
set_option linter.unusedSimpArgs false

set_option maxRecDepth 100000 in
set_option maxHeartbeats 12800000 in
theorem law_tmApply : LawTmApply.Walk := by
  intro t0 c0 t1 bv by_ w h hbl hn hby
  have HBN : Hid (∀ W : World, Calls Tryz.prog 13 #[] W fun e w' => e = .returned (.bool true) ∧ Hid (Below W.heap.size W w')) := fun W => bound_any W
  have HA1 : Hid (∀ W, Below w.heap.size w W → Calls Tryz.prog 8 #[.agg c0.toArray, bv] W fun e W' => ∃ cx tx er, e = .returned (.tuple #[.agg cx.toArray, .int .i64 er]) ∧ TCP (fun b => b < w.heap.size ∨ W.heap.size ≤ b) W' tx cx ∧ ApplyR t0 t1 tx er ∧ Below W.heap.size W W') := fun W hb => apply_any h hbl hn W hb
  have HA2 : Hid (∀ W, Below w.heap.size w W → Calls Tryz.prog 9 #[.agg c0.toArray, bv] W fun e W' => ∃ cx tx er, e = .returned (.tuple #[.agg cx.toArray, .int .i64 er]) ∧ TCP (fun b => b < w.heap.size ∨ W.heap.size ≤ b) W' tx cx ∧ ApplyR t0 t1 tx er ∧ Below W.heap.size W W') := fun W hb => rapply_any h hbl W hb
  have HR1 : Hid (∀ W, Below w.heap.size w W → Calls Tryz.prog 11 #[.agg c0.toArray, .int .i64 by_] W fun e W' => ∃ cx tx er, e = .returned (.tuple #[.agg cx.toArray, .int .i64 er]) ∧ TCP (fun b => b < w.heap.size ∨ W.heap.size ≤ b) W' tx cx ∧ RenameR t0 by_ tx er ∧ Below W.heap.size W W') := fun W hb => rename_any h by_ hby W hb
  have HR2 : Hid (∀ W, Below w.heap.size w W → Calls Tryz.prog 12 #[.agg c0.toArray, .int .i64 by_] W fun e W' => ∃ cx tx er, e = .returned (.tuple #[.agg cx.toArray, .int .i64 er]) ∧ TCP (fun b => b < w.heap.size ∨ W.heap.size ≤ b) W' tx cx ∧ RenameR t0 by_ tx er ∧ Below W.heap.size W W') := fun W hb => rrename_any h by_ hby W hb
  obtain ⟨k0, v0, st0, ng0, A0, n0, c0, B0, m0, d0, X0, l0, e0, hcs⟩ := h.form
  subst hcs
  obtain ⟨Ab, cb, csb, rfl, hj1, hj2, hj3, hj4⟩ := hbl
  clear h hn hj1 hj2 hj3 hj4
  generalize t1.length = nb at *
  have HBA : Hid (Below w.heap.size w (w.alloc (.cells #[.int .i64 k0, .int .i64 v0, .string st0, .bool ng0, .slice A0 n0 c0, .slice B0 m0 d0, .slice X0 l0 e0] 27))) := below_one w _
  have HKA : Hid (Blk (w.alloc (.cells #[.int .i64 k0, .int .i64 v0, .string st0, .bool ng0, .slice A0 n0 c0, .slice B0 m0 d0, .slice X0 l0 e0] 27)) w.heap.size 27 #[.int .i64 k0, .int .i64 v0, .string st0, .bool ng0, .slice A0 n0 c0, .slice B0 m0 d0, .slice X0 l0 e0]) := Blk.new w _ _
  go_enter Tryz.func3, Tryz.ntmps3
  go_wp2_with fail
  refine (HA1.out _ HBA.out).mono ?_
  rintro e w1 ⟨cx1, x1, er1, rfl, hx1, hr1, hb1⟩
  obtain ⟨k1, v1, st1, ng1, A1, n1, c1, B1, m1, d1, X1, l1, e1, hf1⟩ := hx1.form
  subst hf1
  have HX1 := Lib.hid hx1.tc
  have HRS1 := Lib.hid hr1
  have HB1 : Hid (Below w.heap.size w (w1.alloc (.cells #[.int .i64 k1, .int .i64 v1, .string st1, .bool ng1, .slice A1 n1 c1, .slice B1 m1 d1, .slice X1 l1 e1] 27))) := HBA.out.trans ((hb1.trans ((below_one w1 _).mono hb1.size)).mono HBA.out.size)
  have HK1 := Lib.hid ((HKA.out.to hb1).to (below_one w1 (.cells #[.int .i64 k1, .int .i64 v1, .string st1, .bool ng1, .slice A1 n1 c1, .slice B1 m1 d1, .slice X1 l1 e1] 27)))
  have HKX : Hid (Blk (w1.alloc (.cells #[.int .i64 k1, .int .i64 v1, .string st1, .bool ng1, .slice A1 n1 c1, .slice B1 m1 d1, .slice X1 l1 e1] 27)) w1.heap.size 27 #[.int .i64 k1, .int .i64 v1, .string st1, .bool ng1, .slice A1 n1 c1, .slice B1 m1 d1, .slice X1 l1 e1]) := Blk.new w1 _ _
  have HW0 : Hid (w.heap.size + 1 ≤ w1.heap.size) := by have := hb1.size; simp at this; exact this
  clear hx1 hr1 hb1 HBA HKA HA1
  have y0 := HK1.out.cell 0
  have y1 := HK1.out.cell 1
  have y2 := HK1.out.cell 2
  have y3 := HK1.out.cell 3
  have y4 := HK1.out.cell 4
  have y5 := HK1.out.cell 5
  have y6 := HK1.out.cell 6
  simp only [List.getElem?_toArray, List.getElem?_cons_zero, List.getElem?_cons_succ] at y0 y1 y2 y3 y4 y5 y6
  go_wp2_with fail
  refine (HA2.out _ (by exact HB1.out)).mono ?_
  rintro e w2 ⟨cx2, x2, er2, rfl, hx2, hr2, hb2⟩
  obtain ⟨k2, v2, st2, ng2, A2, n2, c2, B2, m2, d2, X2, l2, e2, hf2⟩ := hx2.form
  subst hf2
  obtain ⟨hxx, hee⟩ := HRS1.out.one hr2
  subst hxx hee
  have HW1 : Hid (w1.heap.size + 1 ≤ w2.heap.size) := by have := hb2.size; simp at this; exact this
  have HX2 : Hid (TC w2 x1 [.int .i64 k1, .int .i64 v1, .string st1, .bool ng1, .slice A1 n1 c1, .slice B1 m1 d1, .slice X1 l1 e1]) := HX1.out.to ((below_one w1 _).trans (hb2.mono (below_one w1 _).size))
  have HY2 := Lib.hid hx2.tc
  have HJ2 : Hid (Blk (w2.alloc (.cells #[.int .i64 k2, .int .i64 v2, .string st2, .bool ng2, .slice A2 n2 c2, .slice B2 m2 d2, .slice X2 l2 e2] 27)) w.heap.size 27 #[.int .i64 k0, .int .i64 v0, .string st0, .bool ng0, .slice A0 n0 c0, .slice B0 m0 d0, .slice X0 l0 e0] ∧ Blk (w2.alloc (.cells #[.int .i64 k2, .int .i64 v2, .string st2, .bool ng2, .slice A2 n2 c2, .slice B2 m2 d2, .slice X2 l2 e2] 27)) w1.heap.size 27 #[.int .i64 k1, .int .i64 v1, .string st1, .bool ng1, .slice A1 n1 c1, .slice B1 m1 d1, .slice X1 l1 e1] ∧ Blk (w2.alloc (.cells #[.int .i64 k2, .int .i64 v2, .string st2, .bool ng2, .slice A2 n2 c2, .slice B2 m2 d2, .slice X2 l2 e2] 27)) w2.heap.size 27 #[.int .i64 k2, .int .i64 v2, .string st2, .bool ng2, .slice A2 n2 c2, .slice B2 m2 d2, .slice X2 l2 e2] ∧ Below w.heap.size w (w2.alloc (.cells #[.int .i64 k2, .int .i64 v2, .string st2, .bool ng2, .slice A2 n2 c2, .slice B2 m2 d2, .slice X2 l2 e2] 27))) := ⟨(HK1.out.to hb2).to (below_one w2 _), (HKX.out.to hb2).to (below_one w2 _), Blk.new w2 _ _, HB1.out.trans ((hb2.trans ((below_one w2 _).mono hb2.size)).mono HB1.out.size)⟩
  have HFX := Lib.hid HRS1.out.okz
  obtain ⟨s1, hs1⟩ : ∃ s : ByteArray, (⟨x1.shp.toArray⟩ : ByteArray) = s := ⟨_, rfl⟩
  have HSX : Hid (∀ W, Below (w2.alloc (.cells #[.int .i64 k2, .int .i64 v2, .string st2, .bool ng2, .slice A2 n2 c2, .slice B2 m2 d2, .slice X2 l2 e2] 27)).heap.size (w2.alloc (.cells #[.int .i64 k2, .int .i64 v2, .string st2, .bool ng2, .slice A2 n2 c2, .slice B2 m2 d2, .slice X2 l2 e2] 27)) W → Calls Tryz.prog 10 #[.agg #[.int .i64 k1, .int .i64 v1, .string st1, .bool ng1, .slice A1 n1 c1, .slice B1 m1 d1, .slice X1 l1 e1]] W fun e W' => e = .returned (.string s1) ∧ Below W.heap.size W W') := fun W hb => by rw [← hs1]; exact shape_fine HX2.out HFX.out W ((below_one w2 _).trans (hb.mono (below_one w2 _).size))
  have HSY : Hid (∀ W, Below (w2.alloc (.cells #[.int .i64 k2, .int .i64 v2, .string st2, .bool ng2, .slice A2 n2 c2, .slice B2 m2 d2, .slice X2 l2 e2] 27)).heap.size (w2.alloc (.cells #[.int .i64 k2, .int .i64 v2, .string st2, .bool ng2, .slice A2 n2 c2, .slice B2 m2 d2, .slice X2 l2 e2] 27)) W → Calls Tryz.prog 10 #[.agg #[.int .i64 k2, .int .i64 v2, .string st2, .bool ng2, .slice A2 n2 c2, .slice B2 m2 d2, .slice X2 l2 e2]] W fun e W' => e = .returned (.string s1) ∧ Below W.heap.size W W') := fun W hb => by rw [← hs1]; exact shape_fine HY2.out HFX.out W ((below_one w2 _).trans (hb.mono (below_one w2 _).size))
  clear hx2 hr2 hb2 HX1 HX2 HY2 HK1 HKX HB1 HA2 HFX hs1 HRS1 y0 y1 y2 y3 y4 y5 y6
  have HSS : Hid (∀ W, Blk W w.heap.size 27 #[.int .i64 k0, .int .i64 v0, .string st0, .bool ng0, .slice A0 n0 c0, .slice B0 m0 d0, .slice X0 l0 e0] ∧ Blk W w1.heap.size 27 #[.int .i64 k1, .int .i64 v1, .string st1, .bool ng1, .slice A1 n1 c1, .slice B1 m1 d1, .slice X1 l1 e1] ∧ Blk W w2.heap.size 27 #[.int .i64 k2, .int .i64 v2, .string st2, .bool ng2, .slice A2 n2 c2, .slice B2 m2 d2, .slice X2 l2 e2] ∧ Below w.heap.size w W → W.cell? ⟨w1.heap.size, 0, none⟩ = some (.int .i64 k1) ∧ W.cell? ⟨w1.heap.size, 1, none⟩ = some (.int .i64 v1) ∧ W.cell? ⟨w1.heap.size, 2, none⟩ = some (.string st1) ∧ W.cell? ⟨w1.heap.size, 3, none⟩ = some (.bool ng1) ∧ W.cell? ⟨w1.heap.size, 4, none⟩ = some (.slice A1 n1 c1) ∧ W.cell? ⟨w1.heap.size, 5, none⟩ = some (.slice B1 m1 d1) ∧ W.cell? ⟨w1.heap.size, 6, none⟩ = some (.slice X1 l1 e1) ∧ W.cell? ⟨w2.heap.size, 0, none⟩ = some (.int .i64 k2) ∧ W.cell? ⟨w2.heap.size, 1, none⟩ = some (.int .i64 v2) ∧ W.cell? ⟨w2.heap.size, 2, none⟩ = some (.string st2) ∧ W.cell? ⟨w2.heap.size, 3, none⟩ = some (.bool ng2) ∧ W.cell? ⟨w2.heap.size, 4, none⟩ = some (.slice A2 n2 c2) ∧ W.cell? ⟨w2.heap.size, 5, none⟩ = some (.slice B2 m2 d2) ∧ W.cell? ⟨w2.heap.size, 6, none⟩ = some (.slice X2 l2 e2)) := fun W j => ⟨j.2.1.cell 0, j.2.1.cell 1, j.2.1.cell 2, j.2.1.cell 3, j.2.1.cell 4, j.2.1.cell 5, j.2.1.cell 6, j.2.2.1.cell 0, j.2.2.1.cell 1, j.2.2.1.cell 2, j.2.2.1.cell 3, j.2.2.1.cell 4, j.2.2.1.cell 5, j.2.2.1.cell 6⟩
  have HQ1 : Hid (∀ W, Hid (Below (w2.alloc (.cells #[.int .i64 k2, .int .i64 v2, .string st2, .bool ng2, .slice A2 n2 c2, .slice B2 m2 d2, .slice X2 l2 e2] 27)).heap.size (w2.alloc (.cells #[.int .i64 k2, .int .i64 v2, .string st2, .bool ng2, .slice A2 n2 c2, .slice B2 m2 d2, .slice X2 l2 e2] 27)) W) → Calls Tryz.prog 10 #[.agg #[.int .i64 k1, .int .i64 v1, .string st1, .bool ng1, .slice A1 n1 c1, .slice B1 m1 d1, .slice X1 l1 e1]] W fun e w' => e = .returned (.string s1) ∧ Hid (Below (w2.alloc (.cells #[.int .i64 k2, .int .i64 v2, .string st2, .bool ng2, .slice A2 n2 c2, .slice B2 m2 d2, .slice X2 l2 e2] 27)).heap.size (w2.alloc (.cells #[.int .i64 k2, .int .i64 v2, .string st2, .bool ng2, .slice A2 n2 c2, .slice B2 m2 d2, .slice X2 l2 e2] 27)) w') ∧ (w'.cell? ⟨w1.heap.size, 0, none⟩ = some (.int .i64 k1) ∧ w'.cell? ⟨w1.heap.size, 1, none⟩ = some (.int .i64 v1) ∧ w'.cell? ⟨w1.heap.size, 2, none⟩ = some (.string st1) ∧ w'.cell? ⟨w1.heap.size, 3, none⟩ = some (.bool ng1) ∧ w'.cell? ⟨w1.heap.size, 4, none⟩ = some (.slice A1 n1 c1) ∧ w'.cell? ⟨w1.heap.size, 5, none⟩ = some (.slice B1 m1 d1) ∧ w'.cell? ⟨w1.heap.size, 6, none⟩ = some (.slice X1 l1 e1) ∧ w'.cell? ⟨w2.heap.size, 0, none⟩ = some (.int .i64 k2) ∧ w'.cell? ⟨w2.heap.size, 1, none⟩ = some (.int .i64 v2) ∧ w'.cell? ⟨w2.heap.size, 2, none⟩ = some (.string st2) ∧ w'.cell? ⟨w2.heap.size, 3, none⟩ = some (.bool ng2) ∧ w'.cell? ⟨w2.heap.size, 4, none⟩ = some (.slice A2 n2 c2) ∧ w'.cell? ⟨w2.heap.size, 5, none⟩ = some (.slice B2 m2 d2) ∧ w'.cell? ⟨w2.heap.size, 6, none⟩ = some (.slice X2 l2 e2))) := fun W hb => (HSX.out W hb.out).mono fun e w' q => by
    have hb' := hb.out.trans (q.2.mono hb.out.size)
    exact ⟨q.1, hb', HSS.out _ ⟨HJ2.out.1.to hb', HJ2.out.2.1.to hb', HJ2.out.2.2.1.to hb', HJ2.out.2.2.2.trans (hb'.mono HJ2.out.2.2.2.size)⟩⟩
  have HQ2 : Hid (∀ W, Hid (Below (w2.alloc (.cells #[.int .i64 k2, .int .i64 v2, .string st2, .bool ng2, .slice A2 n2 c2, .slice B2 m2 d2, .slice X2 l2 e2] 27)).heap.size (w2.alloc (.cells #[.int .i64 k2, .int .i64 v2, .string st2, .bool ng2, .slice A2 n2 c2, .slice B2 m2 d2, .slice X2 l2 e2] 27)) W) → Calls Tryz.prog 10 #[.agg #[.int .i64 k2, .int .i64 v2, .string st2, .bool ng2, .slice A2 n2 c2, .slice B2 m2 d2, .slice X2 l2 e2]] W fun e w' => e = .returned (.string s1) ∧ Hid (Below (w2.alloc (.cells #[.int .i64 k2, .int .i64 v2, .string st2, .bool ng2, .slice A2 n2 c2, .slice B2 m2 d2, .slice X2 l2 e2] 27)).heap.size (w2.alloc (.cells #[.int .i64 k2, .int .i64 v2, .string st2, .bool ng2, .slice A2 n2 c2, .slice B2 m2 d2, .slice X2 l2 e2] 27)) w') ∧ (w'.cell? ⟨w1.heap.size, 0, none⟩ = some (.int .i64 k1) ∧ w'.cell? ⟨w1.heap.size, 1, none⟩ = some (.int .i64 v1) ∧ w'.cell? ⟨w1.heap.size, 2, none⟩ = some (.string st1) ∧ w'.cell? ⟨w1.heap.size, 3, none⟩ = some (.bool ng1) ∧ w'.cell? ⟨w1.heap.size, 4, none⟩ = some (.slice A1 n1 c1) ∧ w'.cell? ⟨w1.heap.size, 5, none⟩ = some (.slice B1 m1 d1) ∧ w'.cell? ⟨w1.heap.size, 6, none⟩ = some (.slice X1 l1 e1) ∧ w'.cell? ⟨w2.heap.size, 0, none⟩ = some (.int .i64 k2) ∧ w'.cell? ⟨w2.heap.size, 1, none⟩ = some (.int .i64 v2) ∧ w'.cell? ⟨w2.heap.size, 2, none⟩ = some (.string st2) ∧ w'.cell? ⟨w2.heap.size, 3, none⟩ = some (.bool ng2) ∧ w'.cell? ⟨w2.heap.size, 4, none⟩ = some (.slice A2 n2 c2) ∧ w'.cell? ⟨w2.heap.size, 5, none⟩ = some (.slice B2 m2 d2) ∧ w'.cell? ⟨w2.heap.size, 6, none⟩ = some (.slice X2 l2 e2))) := fun W hb => (HSY.out W hb.out).mono fun e w' q => by
    have hb' := hb.out.trans (q.2.mono hb.out.size)
    exact ⟨q.1, hb', HSS.out _ ⟨HJ2.out.1.to hb', HJ2.out.2.1.to hb', HJ2.out.2.2.1.to hb', HJ2.out.2.2.2.trans (hb'.mono HJ2.out.2.2.2.size)⟩⟩
  have HQ3 : Hid (∀ W, Hid (Below (w2.alloc (.cells #[.int .i64 k2, .int .i64 v2, .string st2, .bool ng2, .slice A2 n2 c2, .slice B2 m2 d2, .slice X2 l2 e2] 27)).heap.size (w2.alloc (.cells #[.int .i64 k2, .int .i64 v2, .string st2, .bool ng2, .slice A2 n2 c2, .slice B2 m2 d2, .slice X2 l2 e2] 27)) W) → Calls Tryz.prog 13 #[] W fun e w' => e = .returned (.bool true) ∧ Hid (Below (w2.alloc (.cells #[.int .i64 k2, .int .i64 v2, .string st2, .bool ng2, .slice A2 n2 c2, .slice B2 m2 d2, .slice X2 l2 e2] 27)).heap.size (w2.alloc (.cells #[.int .i64 k2, .int .i64 v2, .string st2, .bool ng2, .slice A2 n2 c2, .slice B2 m2 d2, .slice X2 l2 e2] 27)) w') ∧ (w'.cell? ⟨w1.heap.size, 0, none⟩ = some (.int .i64 k1) ∧ w'.cell? ⟨w1.heap.size, 1, none⟩ = some (.int .i64 v1) ∧ w'.cell? ⟨w1.heap.size, 2, none⟩ = some (.string st1) ∧ w'.cell? ⟨w1.heap.size, 3, none⟩ = some (.bool ng1) ∧ w'.cell? ⟨w1.heap.size, 4, none⟩ = some (.slice A1 n1 c1) ∧ w'.cell? ⟨w1.heap.size, 5, none⟩ = some (.slice B1 m1 d1) ∧ w'.cell? ⟨w1.heap.size, 6, none⟩ = some (.slice X1 l1 e1) ∧ w'.cell? ⟨w2.heap.size, 0, none⟩ = some (.int .i64 k2) ∧ w'.cell? ⟨w2.heap.size, 1, none⟩ = some (.int .i64 v2) ∧ w'.cell? ⟨w2.heap.size, 2, none⟩ = some (.string st2) ∧ w'.cell? ⟨w2.heap.size, 3, none⟩ = some (.bool ng2) ∧ w'.cell? ⟨w2.heap.size, 4, none⟩ = some (.slice A2 n2 c2) ∧ w'.cell? ⟨w2.heap.size, 5, none⟩ = some (.slice B2 m2 d2) ∧ w'.cell? ⟨w2.heap.size, 6, none⟩ = some (.slice X2 l2 e2))) := fun W hb => (HBN.out W).mono fun e w' q => by
    have hb' := hb.out.trans (q.2.out.mono hb.out.size)
    exact ⟨q.1, hb', HSS.out _ ⟨HJ2.out.1.to hb', HJ2.out.2.1.to hb', HJ2.out.2.2.1.to hb', HJ2.out.2.2.2.trans (hb'.mono HJ2.out.2.2.2.size)⟩⟩
  have HB0 : Hid (Below (w2.alloc (.cells #[.int .i64 k2, .int .i64 v2, .string st2, .bool ng2, .slice A2 n2 c2, .slice B2 m2 d2, .slice X2 l2 e2] 27)).heap.size (w2.alloc (.cells #[.int .i64 k2, .int .i64 v2, .string st2, .bool ng2, .slice A2 n2 c2, .slice B2 m2 d2, .slice X2 l2 e2] 27)) (w2.alloc (.cells #[.int .i64 k2, .int .i64 v2, .string st2, .bool ng2, .slice A2 n2 c2, .slice B2 m2 d2, .slice X2 l2 e2] 27)).drew) := (Below.refl _ _).drew
  have hS0 := HSS.out (w2.alloc (.cells #[.int .i64 k2, .int .i64 v2, .string st2, .bool ng2, .slice A2 n2 c2, .slice B2 m2 d2, .slice X2 l2 e2] 27)).drew ⟨HJ2.out.1.drew, HJ2.out.2.1.drew, HJ2.out.2.2.1.drew, HJ2.out.2.2.2.drew⟩
  have hee : (er1 == er1) = true := by simp
  have hss : (s1.toList == s1.toList) = true := beq_self_eq_true _
  have hne : (er1 != er1) = false := by simp
  clear HSS HSX HSY HQ3
  go_wp2_with fail
  go_region_held3 (fun w' => w'.cell? ⟨w1.heap.size, 0, none⟩ = some (.int .i64 k1) ∧ w'.cell? ⟨w1.heap.size, 1, none⟩ = some (.int .i64 v1) ∧ w'.cell? ⟨w1.heap.size, 2, none⟩ = some (.string st1) ∧ w'.cell? ⟨w1.heap.size, 3, none⟩ = some (.bool ng1) ∧ w'.cell? ⟨w1.heap.size, 4, none⟩ = some (.slice A1 n1 c1) ∧ w'.cell? ⟨w1.heap.size, 5, none⟩ = some (.slice B1 m1 d1) ∧ w'.cell? ⟨w1.heap.size, 6, none⟩ = some (.slice X1 l1 e1) ∧ w'.cell? ⟨w2.heap.size, 0, none⟩ = some (.int .i64 k2) ∧ w'.cell? ⟨w2.heap.size, 1, none⟩ = some (.int .i64 v2) ∧ w'.cell? ⟨w2.heap.size, 2, none⟩ = some (.string st2) ∧ w'.cell? ⟨w2.heap.size, 3, none⟩ = some (.bool ng2) ∧ w'.cell? ⟨w2.heap.size, 4, none⟩ = some (.slice A2 n2 c2) ∧ w'.cell? ⟨w2.heap.size, 5, none⟩ = some (.slice B2 m2 d2) ∧ w'.cell? ⟨w2.heap.size, 6, none⟩ = some (.slice X2 l2 e2))
    (with_reducible assumption)
    (first
      | (go_at_call 10; (with_reducible refine (HQ1.out _ HB0).mono ?_); rintro e y1 ⟨rfl, HB3, hS1⟩)
      | (go_at_call 10; (with_reducible refine (HQ2.out _ HB3).mono ?_); rintro e y2 ⟨rfl, HB4, hS2⟩))
  have HJ4 : Hid (Blk y2 w.heap.size 27 #[.int .i64 k0, .int .i64 v0, .string st0, .bool ng0, .slice A0 n0 c0, .slice B0 m0 d0, .slice X0 l0 e0] ∧ Blk y2 w1.heap.size 27 #[.int .i64 k1, .int .i64 v1, .string st1, .bool ng1, .slice A1 n1 c1, .slice B1 m1 d1, .slice X1 l1 e1] ∧ Blk y2 w2.heap.size 27 #[.int .i64 k2, .int .i64 v2, .string st2, .bool ng2, .slice A2 n2 c2, .slice B2 m2 d2, .slice X2 l2 e2] ∧ Below w.heap.size w y2) := ⟨HJ2.out.1.to HB4.out, HJ2.out.2.1.to HB4.out, HJ2.out.2.2.1.to HB4.out, HJ2.out.2.2.2.trans (HB4.out.mono HJ2.out.2.2.2.size)⟩
  have HW4 : Hid (w2.heap.size + 1 ≤ y2.heap.size) := by have := HB4.out.size; simp at this; exact this
  clear HQ1 HQ2 HB0 HB3 HB4 hS0 hS1 hS2 HJ2 hee hss hne
  have t0 := HJ4.out.1.cell 0
  have t1 := HJ4.out.1.cell 1
  have t2 := HJ4.out.1.cell 2
  have t3 := HJ4.out.1.cell 3
  have t4 := HJ4.out.1.cell 4
  have t5 := HJ4.out.1.cell 5
  have t6 := HJ4.out.1.cell 6
  simp only [List.getElem?_toArray, List.getElem?_cons_zero, List.getElem?_cons_succ] at t0 t1 t2 t3 t4 t5 t6
  go_wp2_with fail
  refine (HR1.out _ (by exact HJ4.out.2.2.2)).mono ?_
  rintro e w5 ⟨cx5, x5, er5, rfl, hx5, hr5, hb5⟩
  obtain ⟨k5, v5, st5, ng5, A5, n5, c5, B5, m5, d5, X5, l5, e5, hf5⟩ := hx5.form
  subst hf5
  have HJ5 : Hid (Blk w5 w.heap.size 27 #[.int .i64 k0, .int .i64 v0, .string st0, .bool ng0, .slice A0 n0 c0, .slice B0 m0 d0, .slice X0 l0 e0] ∧ Blk w5 w1.heap.size 27 #[.int .i64 k1, .int .i64 v1, .string st1, .bool ng1, .slice A1 n1 c1, .slice B1 m1 d1, .slice X1 l1 e1] ∧ Blk w5 w2.heap.size 27 #[.int .i64 k2, .int .i64 v2, .string st2, .bool ng2, .slice A2 n2 c2, .slice B2 m2 d2, .slice X2 l2 e2] ∧ Below w.heap.size w w5) := ⟨HJ4.out.1.to hb5, HJ4.out.2.1.to hb5, HJ4.out.2.2.1.to hb5, HJ4.out.2.2.2.trans (hb5.mono HJ4.out.2.2.2.size)⟩
  have HW5 : Hid (y2.heap.size ≤ w5.heap.size) := hb5.size
  have HX5 := Lib.hid hx5
  have HRS5 := Lib.hid hr5
  clear hx5 hr5 hb5 HJ4 HR1 t0 t1 t2 t3 t4 t5 t6
  have z0 := HJ5.out.2.1.frozen 0
  have z1 := HJ5.out.2.1.frozen 1
  have z2 := HJ5.out.2.1.frozen 2
  have z3 := HJ5.out.2.1.frozen 3
  have z4 := HJ5.out.2.1.frozen 4
  have z5 := HJ5.out.2.1.frozen 5
  have z6 := HJ5.out.2.1.frozen 6
  have t0 := HJ5.out.1.cell 0
  have t1 := HJ5.out.1.cell 1
  have t2 := HJ5.out.1.cell 2
  have t3 := HJ5.out.1.cell 3
  have t4 := HJ5.out.1.cell 4
  have t5 := HJ5.out.1.cell 5
  have t6 := HJ5.out.1.cell 6
  simp only [List.getElem?_toArray, List.getElem?_cons_zero, List.getElem?_cons_succ] at t0 t1 t2 t3 t4 t5 t6
  have q0 := HJ5.out.2.1.cell 0
  have q1 := HJ5.out.2.1.cell 1
  have q2 := HJ5.out.2.1.cell 2
  have q3 := HJ5.out.2.1.cell 3
  have q4 := HJ5.out.2.1.cell 4
  have q5 := HJ5.out.2.1.cell 5
  have q6 := HJ5.out.2.1.cell 6
  simp only [List.getElem?_toArray, List.getElem?_cons_zero, List.getElem?_cons_succ] at q0 q1 q2 q3 q4 q5 q6
  have HSTX : Hid (∀ b, b ≠ w1.heap.size → ((((((((w5.setCell ⟨w1.heap.size, 0, none⟩ (.int .i64 k5)).setCell ⟨w1.heap.size, 1, none⟩ (.int .i64 v5)).setCell ⟨w1.heap.size, 2, none⟩ (.string st5)).setCell ⟨w1.heap.size, 3, none⟩ (.bool ng5)).setCell ⟨w1.heap.size, 4, none⟩ (.slice A5 n5 c5)).setCell ⟨w1.heap.size, 5, none⟩ (.slice B5 m5 d5)).setCell ⟨w1.heap.size, 6, none⟩ (.slice X5 l5 e5))).heap[b]? = w5.heap[b]?) := fun b hb => by
    repeat rw [Below.heap_setCell _ _ _ b hb]
  have neA : (w.heap.size = w1.heap.size) = False := eq_false (by have := HW0.out; omega)
  have neB : (w1.heap.size = w.heap.size) = False := eq_false (by have := HW0.out; omega)
  have HJ6 : Hid (Blk (((((((w5.setCell ⟨w1.heap.size, 0, none⟩ (.int .i64 k5)).setCell ⟨w1.heap.size, 1, none⟩ (.int .i64 v5)).setCell ⟨w1.heap.size, 2, none⟩ (.string st5)).setCell ⟨w1.heap.size, 3, none⟩ (.bool ng5)).setCell ⟨w1.heap.size, 4, none⟩ (.slice A5 n5 c5)).setCell ⟨w1.heap.size, 5, none⟩ (.slice B5 m5 d5)).setCell ⟨w1.heap.size, 6, none⟩ (.slice X5 l5 e5)) w.heap.size 27 #[.int .i64 k0, .int .i64 v0, .string st0, .bool ng0, .slice A0 n0 c0, .slice B0 m0 d0, .slice X0 l0 e0] ∧ Blk (((((((w5.setCell ⟨w1.heap.size, 0, none⟩ (.int .i64 k5)).setCell ⟨w1.heap.size, 1, none⟩ (.int .i64 v5)).setCell ⟨w1.heap.size, 2, none⟩ (.string st5)).setCell ⟨w1.heap.size, 3, none⟩ (.bool ng5)).setCell ⟨w1.heap.size, 4, none⟩ (.slice A5 n5 c5)).setCell ⟨w1.heap.size, 5, none⟩ (.slice B5 m5 d5)).setCell ⟨w1.heap.size, 6, none⟩ (.slice X5 l5 e5)) w1.heap.size 27 #[.int .i64 k5, .int .i64 v5, .string st5, .bool ng5, .slice A5 n5 c5, .slice B5 m5 d5, .slice X5 l5 e5] ∧ Blk (((((((w5.setCell ⟨w1.heap.size, 0, none⟩ (.int .i64 k5)).setCell ⟨w1.heap.size, 1, none⟩ (.int .i64 v5)).setCell ⟨w1.heap.size, 2, none⟩ (.string st5)).setCell ⟨w1.heap.size, 3, none⟩ (.bool ng5)).setCell ⟨w1.heap.size, 4, none⟩ (.slice A5 n5 c5)).setCell ⟨w1.heap.size, 5, none⟩ (.slice B5 m5 d5)).setCell ⟨w1.heap.size, 6, none⟩ (.slice X5 l5 e5)) w2.heap.size 27 #[.int .i64 k2, .int .i64 v2, .string st2, .bool ng2, .slice A2 n2 c2, .slice B2 m2 d2, .slice X2 l2 e2] ∧ Below w.heap.size w (((((((w5.setCell ⟨w1.heap.size, 0, none⟩ (.int .i64 k5)).setCell ⟨w1.heap.size, 1, none⟩ (.int .i64 v5)).setCell ⟨w1.heap.size, 2, none⟩ (.string st5)).setCell ⟨w1.heap.size, 3, none⟩ (.bool ng5)).setCell ⟨w1.heap.size, 4, none⟩ (.slice A5 n5 c5)).setCell ⟨w1.heap.size, 5, none⟩ (.slice B5 m5 d5)).setCell ⟨w1.heap.size, 6, none⟩ (.slice X5 l5 e5))) := by
    refine ⟨(HSTX.out _ (by have := HW0.out; omega)).trans HJ5.out.1, ?_, (HSTX.out _ (by have := HW1.out; omega)).trans HJ5.out.2.2.1, (((((((HJ5.out.2.2.2.setCell (Nat.le_trans (Nat.le_succ _) HW0.out) _).setCell (Nat.le_trans (Nat.le_succ _) HW0.out) _).setCell (Nat.le_trans (Nat.le_succ _) HW0.out) _).setCell (Nat.le_trans (Nat.le_succ _) HW0.out) _).setCell (Nat.le_trans (Nat.le_succ _) HW0.out) _).setCell (Nat.le_trans (Nat.le_succ _) HW0.out) _).setCell (Nat.le_trans (Nat.le_succ _) HW0.out) _)⟩
    have := ((((((HJ5.out.2.1.set_ 0 (.int .i64 k5)).set_ 1 (.int .i64 v5)).set_ 2 (.string st5)).set_ 3 (.bool ng5)).set_ 4 (.slice A5 n5 c5)).set_ 5 (.slice B5 m5 d5)).set_ 6 (.slice X5 l5 e5)
    simp only [List.setIfInBounds_toArray, List.set_cons_zero, List.set_cons_succ] at this
    exact this
  have HX6 : Hid (TCP (fun b => b < w.heap.size ∨ y2.heap.size ≤ b) (((((((w5.setCell ⟨w1.heap.size, 0, none⟩ (.int .i64 k5)).setCell ⟨w1.heap.size, 1, none⟩ (.int .i64 v5)).setCell ⟨w1.heap.size, 2, none⟩ (.string st5)).setCell ⟨w1.heap.size, 3, none⟩ (.bool ng5)).setCell ⟨w1.heap.size, 4, none⟩ (.slice A5 n5 c5)).setCell ⟨w1.heap.size, 5, none⟩ (.slice B5 m5 d5)).setCell ⟨w1.heap.size, 6, none⟩ (.slice X5 l5 e5)) x5 [.int .i64 k5, .int .i64 v5, .string st5, .bool ng5, .slice A5 n5 c5, .slice B5 m5 d5, .slice X5 l5 e5]) := HX5.out.to (by simp) fun b hb _ => HSTX.out b (by have := HW0.out; have := HW1.out; have := HW4.out; rcases hb with hb | hb <;> omega)
  have HW6 : Hid (w2.heap.size + 1 ≤ ((((((((w5.setCell ⟨w1.heap.size, 0, none⟩ (.int .i64 k5)).setCell ⟨w1.heap.size, 1, none⟩ (.int .i64 v5)).setCell ⟨w1.heap.size, 2, none⟩ (.string st5)).setCell ⟨w1.heap.size, 3, none⟩ (.bool ng5)).setCell ⟨w1.heap.size, 4, none⟩ (.slice A5 n5 c5)).setCell ⟨w1.heap.size, 5, none⟩ (.slice B5 m5 d5)).setCell ⟨w1.heap.size, 6, none⟩ (.slice X5 l5 e5))).heap.size) := by have := HW4.out; have := HW5.out; show _ ≤ _; simp; omega
  clear HX5
  go_wp2_with fail
  clear neA neB
  generalize (((((((w5.setCell ⟨w1.heap.size, 0, none⟩ (.int .i64 k5)).setCell ⟨w1.heap.size, 1, none⟩ (.int .i64 v5)).setCell ⟨w1.heap.size, 2, none⟩ (.string st5)).setCell ⟨w1.heap.size, 3, none⟩ (.bool ng5)).setCell ⟨w1.heap.size, 4, none⟩ (.slice A5 n5 c5)).setCell ⟨w1.heap.size, 5, none⟩ (.slice B5 m5 d5)).setCell ⟨w1.heap.size, 6, none⟩ (.slice X5 l5 e5)) = w6 at *
  refine (HR2.out w6 (by exact HJ6.out.2.2.2)).mono ?_
  rintro e w7 ⟨cx7, x7, er7, rfl, hx7, hr7, hb7⟩
  obtain ⟨k7, v7, st7, ng7, A7, n7, c7, B7, m7, d7, X7, l7, e7, hf7⟩ := hx7.form
  subst hf7
  obtain ⟨hxx, hee⟩ := HRS5.out.one hr7
  subst hxx hee
  have HJ7 : Hid (Blk w7 w.heap.size 27 #[.int .i64 k0, .int .i64 v0, .string st0, .bool ng0, .slice A0 n0 c0, .slice B0 m0 d0, .slice X0 l0 e0] ∧ Blk w7 w1.heap.size 27 #[.int .i64 k5, .int .i64 v5, .string st5, .bool ng5, .slice A5 n5 c5, .slice B5 m5 d5, .slice X5 l5 e5] ∧ Blk w7 w2.heap.size 27 #[.int .i64 k2, .int .i64 v2, .string st2, .bool ng2, .slice A2 n2 c2, .slice B2 m2 d2, .slice X2 l2 e2] ∧ Below w.heap.size w w7) := ⟨HJ6.out.1.to hb7, HJ6.out.2.1.to hb7, HJ6.out.2.2.1.to hb7, HJ6.out.2.2.2.trans (hb7.mono HJ6.out.2.2.2.size)⟩
  have HW7 : Hid (w6.heap.size ≤ w7.heap.size) := hb7.size
  have HX7 := Lib.hid (HX6.out.onto hb7)
  have HY7 := Lib.hid hx7
  have HFX := Lib.hid HRS5.out.okz
  clear hx7 hr7 hb7 HJ5 HJ6 HX6 HSTX HR2 HRS5 t0 t1 t2 t3 t4 t5 t6 z0 z1 z2 z3 z4 z5 z6 q0 q1 q2 q3 q4 q5 q6
  have z0 := HJ7.out.2.2.1.frozen 0
  have z1 := HJ7.out.2.2.1.frozen 1
  have z2 := HJ7.out.2.2.1.frozen 2
  have z3 := HJ7.out.2.2.1.frozen 3
  have z4 := HJ7.out.2.2.1.frozen 4
  have z5 := HJ7.out.2.2.1.frozen 5
  have z6 := HJ7.out.2.2.1.frozen 6
  have q0 := HJ7.out.2.2.1.cell 0
  have q1 := HJ7.out.2.2.1.cell 1
  have q2 := HJ7.out.2.2.1.cell 2
  have q3 := HJ7.out.2.2.1.cell 3
  have q4 := HJ7.out.2.2.1.cell 4
  have q5 := HJ7.out.2.2.1.cell 5
  have q6 := HJ7.out.2.2.1.cell 6
  simp only [List.getElem?_toArray, List.getElem?_cons_zero, List.getElem?_cons_succ] at q0 q1 q2 q3 q4 q5 q6
  have t0 := HJ7.out.2.1.cell 0
  have t1 := HJ7.out.2.1.cell 1
  have t2 := HJ7.out.2.1.cell 2
  have t3 := HJ7.out.2.1.cell 3
  have t4 := HJ7.out.2.1.cell 4
  have t5 := HJ7.out.2.1.cell 5
  have t6 := HJ7.out.2.1.cell 6
  simp only [List.getElem?_toArray, List.getElem?_cons_zero, List.getElem?_cons_succ] at t0 t1 t2 t3 t4 t5 t6
  have HSTY : Hid (∀ b, b ≠ w2.heap.size → ((((((((w7.setCell ⟨w2.heap.size, 0, none⟩ (.int .i64 k7)).setCell ⟨w2.heap.size, 1, none⟩ (.int .i64 v7)).setCell ⟨w2.heap.size, 2, none⟩ (.string st7)).setCell ⟨w2.heap.size, 3, none⟩ (.bool ng7)).setCell ⟨w2.heap.size, 4, none⟩ (.slice A7 n7 c7)).setCell ⟨w2.heap.size, 5, none⟩ (.slice B7 m7 d7)).setCell ⟨w2.heap.size, 6, none⟩ (.slice X7 l7 e7))).heap[b]? = w7.heap[b]?) := fun b hb => by
    repeat rw [Below.heap_setCell _ _ _ b hb]
  have HJ8 : Hid (Blk (((((((w7.setCell ⟨w2.heap.size, 0, none⟩ (.int .i64 k7)).setCell ⟨w2.heap.size, 1, none⟩ (.int .i64 v7)).setCell ⟨w2.heap.size, 2, none⟩ (.string st7)).setCell ⟨w2.heap.size, 3, none⟩ (.bool ng7)).setCell ⟨w2.heap.size, 4, none⟩ (.slice A7 n7 c7)).setCell ⟨w2.heap.size, 5, none⟩ (.slice B7 m7 d7)).setCell ⟨w2.heap.size, 6, none⟩ (.slice X7 l7 e7)) w.heap.size 27 #[.int .i64 k0, .int .i64 v0, .string st0, .bool ng0, .slice A0 n0 c0, .slice B0 m0 d0, .slice X0 l0 e0] ∧ Blk (((((((w7.setCell ⟨w2.heap.size, 0, none⟩ (.int .i64 k7)).setCell ⟨w2.heap.size, 1, none⟩ (.int .i64 v7)).setCell ⟨w2.heap.size, 2, none⟩ (.string st7)).setCell ⟨w2.heap.size, 3, none⟩ (.bool ng7)).setCell ⟨w2.heap.size, 4, none⟩ (.slice A7 n7 c7)).setCell ⟨w2.heap.size, 5, none⟩ (.slice B7 m7 d7)).setCell ⟨w2.heap.size, 6, none⟩ (.slice X7 l7 e7)) w1.heap.size 27 #[.int .i64 k5, .int .i64 v5, .string st5, .bool ng5, .slice A5 n5 c5, .slice B5 m5 d5, .slice X5 l5 e5] ∧ Blk (((((((w7.setCell ⟨w2.heap.size, 0, none⟩ (.int .i64 k7)).setCell ⟨w2.heap.size, 1, none⟩ (.int .i64 v7)).setCell ⟨w2.heap.size, 2, none⟩ (.string st7)).setCell ⟨w2.heap.size, 3, none⟩ (.bool ng7)).setCell ⟨w2.heap.size, 4, none⟩ (.slice A7 n7 c7)).setCell ⟨w2.heap.size, 5, none⟩ (.slice B7 m7 d7)).setCell ⟨w2.heap.size, 6, none⟩ (.slice X7 l7 e7)) w2.heap.size 27 #[.int .i64 k7, .int .i64 v7, .string st7, .bool ng7, .slice A7 n7 c7, .slice B7 m7 d7, .slice X7 l7 e7] ∧ Below w.heap.size w (((((((w7.setCell ⟨w2.heap.size, 0, none⟩ (.int .i64 k7)).setCell ⟨w2.heap.size, 1, none⟩ (.int .i64 v7)).setCell ⟨w2.heap.size, 2, none⟩ (.string st7)).setCell ⟨w2.heap.size, 3, none⟩ (.bool ng7)).setCell ⟨w2.heap.size, 4, none⟩ (.slice A7 n7 c7)).setCell ⟨w2.heap.size, 5, none⟩ (.slice B7 m7 d7)).setCell ⟨w2.heap.size, 6, none⟩ (.slice X7 l7 e7))) := by
    refine ⟨(HSTY.out _ (by have := HW0.out; have := HW1.out; omega)).trans HJ7.out.1, (HSTY.out _ (by have := HW1.out; omega)).trans HJ7.out.2.1, ?_, (((((((HJ7.out.2.2.2.setCell (Nat.le_trans (Nat.le_trans (Nat.le_succ _) HW0.out) (Nat.le_trans (Nat.le_succ _) HW1.out)) _).setCell (Nat.le_trans (Nat.le_trans (Nat.le_succ _) HW0.out) (Nat.le_trans (Nat.le_succ _) HW1.out)) _).setCell (Nat.le_trans (Nat.le_trans (Nat.le_succ _) HW0.out) (Nat.le_trans (Nat.le_succ _) HW1.out)) _).setCell (Nat.le_trans (Nat.le_trans (Nat.le_succ _) HW0.out) (Nat.le_trans (Nat.le_succ _) HW1.out)) _).setCell (Nat.le_trans (Nat.le_trans (Nat.le_succ _) HW0.out) (Nat.le_trans (Nat.le_succ _) HW1.out)) _).setCell (Nat.le_trans (Nat.le_trans (Nat.le_succ _) HW0.out) (Nat.le_trans (Nat.le_succ _) HW1.out)) _).setCell (Nat.le_trans (Nat.le_trans (Nat.le_succ _) HW0.out) (Nat.le_trans (Nat.le_succ _) HW1.out)) _)⟩
    have := ((((((HJ7.out.2.2.1.set_ 0 (.int .i64 k7)).set_ 1 (.int .i64 v7)).set_ 2 (.string st7)).set_ 3 (.bool ng7)).set_ 4 (.slice A7 n7 c7)).set_ 5 (.slice B7 m7 d7)).set_ 6 (.slice X7 l7 e7)
    simp only [List.setIfInBounds_toArray, List.set_cons_zero, List.set_cons_succ] at this
    exact this
  have HX8 : Hid (TC (((((((w7.setCell ⟨w2.heap.size, 0, none⟩ (.int .i64 k7)).setCell ⟨w2.heap.size, 1, none⟩ (.int .i64 v7)).setCell ⟨w2.heap.size, 2, none⟩ (.string st7)).setCell ⟨w2.heap.size, 3, none⟩ (.bool ng7)).setCell ⟨w2.heap.size, 4, none⟩ (.slice A7 n7 c7)).setCell ⟨w2.heap.size, 5, none⟩ (.slice B7 m7 d7)).setCell ⟨w2.heap.size, 6, none⟩ (.slice X7 l7 e7)) x5 [.int .i64 k5, .int .i64 v5, .string st5, .bool ng5, .slice A5 n5 c5, .slice B5 m5 d5, .slice X5 l5 e5]) := (HX7.out.to (by simp) fun b hb _ => HSTY.out b (by have := HW0.out; have := HW1.out; have := HW4.out; rcases hb with hb | hb <;> omega)).tc
  have HY8 : Hid (TC (((((((w7.setCell ⟨w2.heap.size, 0, none⟩ (.int .i64 k7)).setCell ⟨w2.heap.size, 1, none⟩ (.int .i64 v7)).setCell ⟨w2.heap.size, 2, none⟩ (.string st7)).setCell ⟨w2.heap.size, 3, none⟩ (.bool ng7)).setCell ⟨w2.heap.size, 4, none⟩ (.slice A7 n7 c7)).setCell ⟨w2.heap.size, 5, none⟩ (.slice B7 m7 d7)).setCell ⟨w2.heap.size, 6, none⟩ (.slice X7 l7 e7)) x5 [.int .i64 k7, .int .i64 v7, .string st7, .bool ng7, .slice A7 n7 c7, .slice B7 m7 d7, .slice X7 l7 e7]) := (HY7.out.to (by simp) fun b hb _ => HSTY.out b (by have := HW0.out; have := HW1.out; have := HW6.out; rcases hb with hb | hb <;> omega)).tc
  have neC : (w.heap.size = w2.heap.size) = False := eq_false (by have := HW0.out; have := HW1.out; omega)
  have neD : (w2.heap.size = w.heap.size) = False := eq_false (by have := HW0.out; have := HW1.out; omega)
  have neE : (w1.heap.size = w2.heap.size) = False := eq_false (by have := HW1.out; omega)
  have neF : (w2.heap.size = w1.heap.size) = False := eq_false (by have := HW1.out; omega)
  clear HX7 HY7
  go_wp2_with fail
  clear neC neD neE neF
  generalize (((((((w7.setCell ⟨w2.heap.size, 0, none⟩ (.int .i64 k7)).setCell ⟨w2.heap.size, 1, none⟩ (.int .i64 v7)).setCell ⟨w2.heap.size, 2, none⟩ (.string st7)).setCell ⟨w2.heap.size, 3, none⟩ (.bool ng7)).setCell ⟨w2.heap.size, 4, none⟩ (.slice A7 n7 c7)).setCell ⟨w2.heap.size, 5, none⟩ (.slice B7 m7 d7)).setCell ⟨w2.heap.size, 6, none⟩ (.slice X7 l7 e7)) = w8 at *
  obtain ⟨s1, hs1⟩ : ∃ s : ByteArray, (⟨x5.shp.toArray⟩ : ByteArray) = s := ⟨_, rfl⟩
  have HSX : Hid (∀ W, Below w8.heap.size w8 W → Calls Tryz.prog 10 #[.agg #[.int .i64 k5, .int .i64 v5, .string st5, .bool ng5, .slice A5 n5 c5, .slice B5 m5 d5, .slice X5 l5 e5]] W fun e W' => e = .returned (.string s1) ∧ Below W.heap.size W W') := fun W hb => by rw [← hs1]; exact shape_fine HX8.out HFX.out W hb
  have HSY : Hid (∀ W, Below w8.heap.size w8 W → Calls Tryz.prog 10 #[.agg #[.int .i64 k7, .int .i64 v7, .string st7, .bool ng7, .slice A7 n7 c7, .slice B7 m7 d7, .slice X7 l7 e7]] W fun e W' => e = .returned (.string s1) ∧ Below W.heap.size W W') := fun W hb => by rw [← hs1]; exact shape_fine HY8.out HFX.out W hb
  clear HX8 HY8 HFX hs1 HSTY HJ7 z0 z1 z2 z3 z4 z5 z6 q0 q1 q2 q3 q4 q5 q6 t0 t1 t2 t3 t4 t5 t6
  have HSS : Hid (∀ W, Blk W w.heap.size 27 #[.int .i64 k0, .int .i64 v0, .string st0, .bool ng0, .slice A0 n0 c0, .slice B0 m0 d0, .slice X0 l0 e0] ∧ Blk W w1.heap.size 27 #[.int .i64 k5, .int .i64 v5, .string st5, .bool ng5, .slice A5 n5 c5, .slice B5 m5 d5, .slice X5 l5 e5] ∧ Blk W w2.heap.size 27 #[.int .i64 k7, .int .i64 v7, .string st7, .bool ng7, .slice A7 n7 c7, .slice B7 m7 d7, .slice X7 l7 e7] ∧ Below w.heap.size w W → W.cell? ⟨w1.heap.size, 0, none⟩ = some (.int .i64 k5) ∧ W.cell? ⟨w1.heap.size, 1, none⟩ = some (.int .i64 v5) ∧ W.cell? ⟨w1.heap.size, 2, none⟩ = some (.string st5) ∧ W.cell? ⟨w1.heap.size, 3, none⟩ = some (.bool ng5) ∧ W.cell? ⟨w1.heap.size, 4, none⟩ = some (.slice A5 n5 c5) ∧ W.cell? ⟨w1.heap.size, 5, none⟩ = some (.slice B5 m5 d5) ∧ W.cell? ⟨w1.heap.size, 6, none⟩ = some (.slice X5 l5 e5) ∧ W.cell? ⟨w2.heap.size, 0, none⟩ = some (.int .i64 k7) ∧ W.cell? ⟨w2.heap.size, 1, none⟩ = some (.int .i64 v7) ∧ W.cell? ⟨w2.heap.size, 2, none⟩ = some (.string st7) ∧ W.cell? ⟨w2.heap.size, 3, none⟩ = some (.bool ng7) ∧ W.cell? ⟨w2.heap.size, 4, none⟩ = some (.slice A7 n7 c7) ∧ W.cell? ⟨w2.heap.size, 5, none⟩ = some (.slice B7 m7 d7) ∧ W.cell? ⟨w2.heap.size, 6, none⟩ = some (.slice X7 l7 e7)) := fun W j => ⟨j.2.1.cell 0, j.2.1.cell 1, j.2.1.cell 2, j.2.1.cell 3, j.2.1.cell 4, j.2.1.cell 5, j.2.1.cell 6, j.2.2.1.cell 0, j.2.2.1.cell 1, j.2.2.1.cell 2, j.2.2.1.cell 3, j.2.2.1.cell 4, j.2.2.1.cell 5, j.2.2.1.cell 6⟩
  have HQ1 : Hid (∀ W, Hid (Below w8.heap.size w8 W) → Calls Tryz.prog 10 #[.agg #[.int .i64 k5, .int .i64 v5, .string st5, .bool ng5, .slice A5 n5 c5, .slice B5 m5 d5, .slice X5 l5 e5]] W fun e w' => e = .returned (.string s1) ∧ Hid (Below w8.heap.size w8 w') ∧ (w'.cell? ⟨w1.heap.size, 0, none⟩ = some (.int .i64 k5) ∧ w'.cell? ⟨w1.heap.size, 1, none⟩ = some (.int .i64 v5) ∧ w'.cell? ⟨w1.heap.size, 2, none⟩ = some (.string st5) ∧ w'.cell? ⟨w1.heap.size, 3, none⟩ = some (.bool ng5) ∧ w'.cell? ⟨w1.heap.size, 4, none⟩ = some (.slice A5 n5 c5) ∧ w'.cell? ⟨w1.heap.size, 5, none⟩ = some (.slice B5 m5 d5) ∧ w'.cell? ⟨w1.heap.size, 6, none⟩ = some (.slice X5 l5 e5) ∧ w'.cell? ⟨w2.heap.size, 0, none⟩ = some (.int .i64 k7) ∧ w'.cell? ⟨w2.heap.size, 1, none⟩ = some (.int .i64 v7) ∧ w'.cell? ⟨w2.heap.size, 2, none⟩ = some (.string st7) ∧ w'.cell? ⟨w2.heap.size, 3, none⟩ = some (.bool ng7) ∧ w'.cell? ⟨w2.heap.size, 4, none⟩ = some (.slice A7 n7 c7) ∧ w'.cell? ⟨w2.heap.size, 5, none⟩ = some (.slice B7 m7 d7) ∧ w'.cell? ⟨w2.heap.size, 6, none⟩ = some (.slice X7 l7 e7))) := fun W hb => (HSX.out W hb.out).mono fun e w' q => by
    have hb' := hb.out.trans (q.2.mono hb.out.size)
    exact ⟨q.1, hb', HSS.out _ ⟨HJ8.out.1.to hb', HJ8.out.2.1.to hb', HJ8.out.2.2.1.to hb', HJ8.out.2.2.2.trans (hb'.mono HJ8.out.2.2.2.size)⟩⟩
  have HQ2 : Hid (∀ W, Hid (Below w8.heap.size w8 W) → Calls Tryz.prog 10 #[.agg #[.int .i64 k7, .int .i64 v7, .string st7, .bool ng7, .slice A7 n7 c7, .slice B7 m7 d7, .slice X7 l7 e7]] W fun e w' => e = .returned (.string s1) ∧ Hid (Below w8.heap.size w8 w') ∧ (w'.cell? ⟨w1.heap.size, 0, none⟩ = some (.int .i64 k5) ∧ w'.cell? ⟨w1.heap.size, 1, none⟩ = some (.int .i64 v5) ∧ w'.cell? ⟨w1.heap.size, 2, none⟩ = some (.string st5) ∧ w'.cell? ⟨w1.heap.size, 3, none⟩ = some (.bool ng5) ∧ w'.cell? ⟨w1.heap.size, 4, none⟩ = some (.slice A5 n5 c5) ∧ w'.cell? ⟨w1.heap.size, 5, none⟩ = some (.slice B5 m5 d5) ∧ w'.cell? ⟨w1.heap.size, 6, none⟩ = some (.slice X5 l5 e5) ∧ w'.cell? ⟨w2.heap.size, 0, none⟩ = some (.int .i64 k7) ∧ w'.cell? ⟨w2.heap.size, 1, none⟩ = some (.int .i64 v7) ∧ w'.cell? ⟨w2.heap.size, 2, none⟩ = some (.string st7) ∧ w'.cell? ⟨w2.heap.size, 3, none⟩ = some (.bool ng7) ∧ w'.cell? ⟨w2.heap.size, 4, none⟩ = some (.slice A7 n7 c7) ∧ w'.cell? ⟨w2.heap.size, 5, none⟩ = some (.slice B7 m7 d7) ∧ w'.cell? ⟨w2.heap.size, 6, none⟩ = some (.slice X7 l7 e7))) := fun W hb => (HSY.out W hb.out).mono fun e w' q => by
    have hb' := hb.out.trans (q.2.mono hb.out.size)
    exact ⟨q.1, hb', HSS.out _ ⟨HJ8.out.1.to hb', HJ8.out.2.1.to hb', HJ8.out.2.2.1.to hb', HJ8.out.2.2.2.trans (hb'.mono HJ8.out.2.2.2.size)⟩⟩
  have HQ3 : Hid (∀ W, Hid (Below w8.heap.size w8 W) → Calls Tryz.prog 13 #[] W fun e w' => e = .returned (.bool true) ∧ Hid (Below w8.heap.size w8 w') ∧ (w'.cell? ⟨w1.heap.size, 0, none⟩ = some (.int .i64 k5) ∧ w'.cell? ⟨w1.heap.size, 1, none⟩ = some (.int .i64 v5) ∧ w'.cell? ⟨w1.heap.size, 2, none⟩ = some (.string st5) ∧ w'.cell? ⟨w1.heap.size, 3, none⟩ = some (.bool ng5) ∧ w'.cell? ⟨w1.heap.size, 4, none⟩ = some (.slice A5 n5 c5) ∧ w'.cell? ⟨w1.heap.size, 5, none⟩ = some (.slice B5 m5 d5) ∧ w'.cell? ⟨w1.heap.size, 6, none⟩ = some (.slice X5 l5 e5) ∧ w'.cell? ⟨w2.heap.size, 0, none⟩ = some (.int .i64 k7) ∧ w'.cell? ⟨w2.heap.size, 1, none⟩ = some (.int .i64 v7) ∧ w'.cell? ⟨w2.heap.size, 2, none⟩ = some (.string st7) ∧ w'.cell? ⟨w2.heap.size, 3, none⟩ = some (.bool ng7) ∧ w'.cell? ⟨w2.heap.size, 4, none⟩ = some (.slice A7 n7 c7) ∧ w'.cell? ⟨w2.heap.size, 5, none⟩ = some (.slice B7 m7 d7) ∧ w'.cell? ⟨w2.heap.size, 6, none⟩ = some (.slice X7 l7 e7))) := fun W hb => (HBN.out W).mono fun e w' q => by
    have hb' := hb.out.trans (q.2.out.mono hb.out.size)
    exact ⟨q.1, hb', HSS.out _ ⟨HJ8.out.1.to hb', HJ8.out.2.1.to hb', HJ8.out.2.2.1.to hb', HJ8.out.2.2.2.trans (hb'.mono HJ8.out.2.2.2.size)⟩⟩
  have HB0 : Hid (Below w8.heap.size w8 w8.drew) := (Below.refl _ _).drew
  have hS0 := HSS.out w8.drew ⟨HJ8.out.1.drew, HJ8.out.2.1.drew, HJ8.out.2.2.1.drew, HJ8.out.2.2.2.drew⟩
  have hee : (er5 == er5) = true := by simp
  have hss : (s1.toList == s1.toList) = true := beq_self_eq_true _
  clear HSS HSX HSY
  go_region_held3 (fun w' => w'.cell? ⟨w1.heap.size, 0, none⟩ = some (.int .i64 k5) ∧ w'.cell? ⟨w1.heap.size, 1, none⟩ = some (.int .i64 v5) ∧ w'.cell? ⟨w1.heap.size, 2, none⟩ = some (.string st5) ∧ w'.cell? ⟨w1.heap.size, 3, none⟩ = some (.bool ng5) ∧ w'.cell? ⟨w1.heap.size, 4, none⟩ = some (.slice A5 n5 c5) ∧ w'.cell? ⟨w1.heap.size, 5, none⟩ = some (.slice B5 m5 d5) ∧ w'.cell? ⟨w1.heap.size, 6, none⟩ = some (.slice X5 l5 e5) ∧ w'.cell? ⟨w2.heap.size, 0, none⟩ = some (.int .i64 k7) ∧ w'.cell? ⟨w2.heap.size, 1, none⟩ = some (.int .i64 v7) ∧ w'.cell? ⟨w2.heap.size, 2, none⟩ = some (.string st7) ∧ w'.cell? ⟨w2.heap.size, 3, none⟩ = some (.bool ng7) ∧ w'.cell? ⟨w2.heap.size, 4, none⟩ = some (.slice A7 n7 c7) ∧ w'.cell? ⟨w2.heap.size, 5, none⟩ = some (.slice B7 m7 d7) ∧ w'.cell? ⟨w2.heap.size, 6, none⟩ = some (.slice X7 l7 e7))
    (with_reducible assumption)
    (first
      | (go_at_call 10; (with_reducible refine (HQ1.out _ HB0).mono ?_); rintro e y3 ⟨rfl, HB3, hS1⟩)
      | (go_at_call 10; (with_reducible refine (HQ2.out _ HB3).mono ?_); rintro e y4 ⟨rfl, HB4, hS2⟩)
      | (go_at_call 13; (with_reducible refine (HQ3.out _ HB4).mono ?_); rintro e y5 ⟨rfl, HB5, hS3⟩))
  have HB9 : Hid (Below w.heap.size w y5) := HJ8.out.2.2.2.trans (HB5.out.mono HJ8.out.2.2.2.size)
  clear hS0 hS1 hS2 hS3 HQ1 HQ2 HQ3
  go_wp2_with fail
  go_ret
  exact ⟨rfl, HB9.out⟩

/-- TermApplyMatchesSpec. -/
theorem termApply_holds : Rows.TermApplyMatchesSpecSaid := LawTmApply.said law_tmApply
end Go.Proofs.YtkfnpcilanheiaaGreat

/-  -/
import Derived.Test.YtdmhkhnnomdkcaaDoorJo20
import Derived.Test.YtdmhkhnnomdkcaaDoorJo26
import Derived.Test.YtdmhkhnnomdkcaaDoorJo30
import Derived.Test.YtdmhkhnnomdkcaaDoorJo31
import Derived.Test.YtdmhkhnnomdkcaaDoorJo32
set_option linter.unusedVariables false
set_option linter.unusedSimpArgs false
/- NumberBitsAddUp: for all integers, the disjunction is the exclusive disjunction plus the conjunction, and the sum of both integers is the disjunction plus the conjunction. -/
namespace Go.Proofs.YtdmhkhnnomdkcaaDoor
open Go.RowKit NumB
set_option linter.unusedVariables false
set_option linter.unusedSimpArgs false

set_option maxRecDepth 1000000 in
set_option maxHeartbeats 25600000 in
theorem law_addUp : LawAddUp.Walk := by
  intro a0 v0 a1 v1 w g0 g1
  obtain ⟨A0, n0, c0, B0, m0, d0, rfl, hq1, hq2⟩ := g0.form
  clear hq1 hq2
  obtain ⟨A1, n1, c1, B1, m1, d1, rfl, hq1, hq2⟩ := g1.form
  clear hq1 hq2
  obtain ⟨p, q, r, s, t, HF1, HF2, HF3, HA1, HA2, HA3, hlaw⟩ : ∃ p q r s t : LN × Int, Hid (∀ (W : World) (u v : Value), GV W u a0 → GV W v a1 → Calls Tryd.prog 5 #[.int .i64 1, u, v] W (SPost W p)) ∧ Hid (∀ (W : World) (u v : Value), GV W u a0 → GV W v a1 → Calls Tryd.prog 5 #[.int .i64 2, u, v] W (SPost W q)) ∧ Hid (∀ (W : World) (u v : Value), GV W u a0 → GV W v a1 → Calls Tryd.prog 5 #[.int .i64 3, u, v] W (SPost W r)) ∧ Hid (∀ (W : World) (u v : Value), GV W u p.1 → GV W v r.1 → Calls Tryd.prog 7 #[u, v] W (SPost W s)) ∧ Hid (∀ (W : World) (u v : Value), GV W u p.1 → GV W v q.1 → Calls Tryd.prog 7 #[u, v] W (SPost W t)) ∧ Hid (∀ (W : World) (u v : Value), GV W u a0 → GV W v a1 → Calls Tryd.prog 7 #[u, v] W (SPost W (addS a0 a1))) ∧ (p.2 = 0 → q.2 = 0 → r.2 = 0 → s = (q.1, 0) ∧ t = addS a0 a1) :=
    ⟨bitsS 1 a0 a1, bitsS 2 a0 a1, bitsS 3 a0 a1, addS (bitsS 1 a0 a1).1 (bitsS 3 a0 a1).1, addS (bitsS 1 a0 a1).1 (bitsS 2 a0 a1).1, fun W u v h1 h2 => bitsNum_S 1 a0 a1 u v W h1 h2, fun W u v h1 h2 => bitsNum_S 2 a0 a1 u v W h1 h2, fun W u v h1 h2 => bitsNum_S 3 a0 a1 u v W h1 h2, fun W u v h1 h2 => addNum_S _ _ u v W h1 h2, fun W u v h1 h2 => addNum_S _ _ u v W h1 h2, fun W u v h1 h2 => addNum_S _ _ u v W h1 h2, fun h1 h2 h3 => add_up g0.ok g1.ok h1 h2 h3⟩
  generalize addS a0 a1 = x at *
  have HLAW := Lib.hid hlaw
  have hee : (x.2 == x.2) = true := by simp
  have HSM : Hid (∀ (W : World) (u v : Value) (a : LN), GV W u a → GV W v a → Calls Tryd.prog 8 #[u, v] W fun e w' => e = .returned (.bool true) ∧ Below W.heap.size W w') := fun W u v a h1 h2 => by
    have := same_S a a u v W h1 h2
    rw [sameB_true rfl] at this
    exact this
  have KA := Lib.hid ((blk2 w 24 24 #[.bool a0.neg, .slice A0 n0 c0, .slice B0 m0 d0] #[.bool a1.neg, .slice A1 n1 c1, .slice B1 m1 d1]).1)
  have KB := Lib.hid ((blk2 w 24 24 #[.bool a0.neg, .slice A0 n0 c0, .slice B0 m0 d0] #[.bool a1.neg, .slice A1 n1 c1, .slice B1 m1 d1]).2)
  have GA := Lib.hid (g0.to (below_two w (.cells #[.bool a0.neg, .slice A0 n0 c0, .slice B0 m0 d0] 24) (.cells #[.bool a1.neg, .slice A1 n1 c1, .slice B1 m1 d1] 24)))
  have GB := Lib.hid (g1.to (below_two w (.cells #[.bool a0.neg, .slice A0 n0 c0, .slice B0 m0 d0] 24) (.cells #[.bool a1.neg, .slice A1 n1 c1, .slice B1 m1 d1] 24)))
  have HBE := Lib.hid (below_two w (.cells #[.bool a0.neg, .slice A0 n0 c0, .slice B0 m0 d0] 24) (.cells #[.bool a1.neg, .slice A1 n1 c1, .slice B1 m1 d1] 24))
  clear g0 g1 hlaw
  go_enter Tryd.func3, Tryd.ntmps3
  go_wp2_with fail
  refine (HF1.out _ _ _ (by exact GA.out) (by exact GB.out)).mono ?_
  rintro e w1 ⟨v, rfl, hg, hb⟩
  have KA := Lib.hid (KA.out.to hb)
  have KB := Lib.hid (KB.out.to hb)
  have GA := Lib.hid (GA.out.to hb)
  have GB := Lib.hid (GB.out.to hb)
  have HBE : Hid (Below w.heap.size w w1) := HBE.out.trans ((hb).mono HBE.out.size)
  clear hb
  obtain ⟨Ax, nx, cx, Bx, mx, dx, rfl, hq1, hq2⟩ := hg.form
  have Gx := Lib.hid hg
  clear hq1 hq2 hg
  have ka0 := KA.out.cell 0
  have ka1 := KA.out.cell 1
  have ka2 := KA.out.cell 2
  have kb0 := KB.out.cell 0
  have kb1 := KB.out.cell 1
  have kb2 := KB.out.cell 2
  simp only [List.getElem?_toArray, List.getElem?_cons_zero, List.getElem?_cons_succ] at ka0 ka1 ka2 kb0 kb1 kb2
  have ltKAKX := KA.out.lt
  have ltKBKX := KB.out.lt
  have KXN := Lib.hid (Blk.new w1 24 #[.bool p.1.neg, .slice Ax nx cx, .slice Bx mx dx])
  have KA := Lib.hid (KA.out.to (below_one w1 (.cells #[.bool p.1.neg, .slice Ax nx cx, .slice Bx mx dx] 24)))
  have KB := Lib.hid (KB.out.to (below_one w1 (.cells #[.bool p.1.neg, .slice Ax nx cx, .slice Bx mx dx] 24)))
  have GA := Lib.hid (GA.out.to (below_one w1 (.cells #[.bool p.1.neg, .slice Ax nx cx, .slice Bx mx dx] 24)))
  have GB := Lib.hid (GB.out.to (below_one w1 (.cells #[.bool p.1.neg, .slice Ax nx cx, .slice Bx mx dx] 24)))
  have Gx := Lib.hid (Gx.out.to (below_one w1 (.cells #[.bool p.1.neg, .slice Ax nx cx, .slice Bx mx dx] 24)))
  have HBE : Hid (Below w.heap.size w (w1.alloc (.cells #[.bool p.1.neg, .slice Ax nx cx, .slice Bx mx dx] 24))) := HBE.out.trans (((below_one w1 (.cells #[.bool p.1.neg, .slice Ax nx cx, .slice Bx mx dx] 24))).mono HBE.out.size)
  have KX := KXN
  clear KXN
  have neKAKX : (w.heap.size = w1.heap.size) = False := eq_false (by omega)
  have neKXKA : (w1.heap.size = w.heap.size) = False := eq_false (by omega)
  have neKBKX : (w.heap.size + 1 = w1.heap.size) = False := eq_false (by omega)
  have neKXKB : (w1.heap.size = w.heap.size + 1) = False := eq_false (by omega)
  go_wp2_with fail
  refine (HF2.out _ _ _ (by exact GA.out) (by exact GB.out)).mono ?_
  rintro e w2 ⟨v, rfl, hg, hb⟩
  clear ka0 ka1 ka2 kb0 kb1 kb2
  have KA := Lib.hid (KA.out.to hb)
  have KB := Lib.hid (KB.out.to hb)
  have KX := Lib.hid (KX.out.to hb)
  have GA := Lib.hid (GA.out.to hb)
  have GB := Lib.hid (GB.out.to hb)
  have Gx := Lib.hid (Gx.out.to hb)
  have HBE : Hid (Below w.heap.size w w2) := HBE.out.trans ((hb).mono HBE.out.size)
  clear hb
  obtain ⟨Ay, ny, cy, By, my, dy, rfl, hq1, hq2⟩ := hg.form
  have Gy := Lib.hid hg
  clear hq1 hq2 hg
  have ka0 := KA.out.cell 0
  have ka1 := KA.out.cell 1
  have ka2 := KA.out.cell 2
  have kb0 := KB.out.cell 0
  have kb1 := KB.out.cell 1
  have kb2 := KB.out.cell 2
  simp only [List.getElem?_toArray, List.getElem?_cons_zero, List.getElem?_cons_succ] at ka0 ka1 ka2 kb0 kb1 kb2
  have ltKAKY := KA.out.lt
  have ltKBKY := KB.out.lt
  have ltKXKY := KX.out.lt
  have KYN := Lib.hid (Blk.new w2 24 #[.bool q.1.neg, .slice Ay ny cy, .slice By my dy])
  have KA := Lib.hid (KA.out.to (below_one w2 (.cells #[.bool q.1.neg, .slice Ay ny cy, .slice By my dy] 24)))
  have KB := Lib.hid (KB.out.to (below_one w2 (.cells #[.bool q.1.neg, .slice Ay ny cy, .slice By my dy] 24)))
  have KX := Lib.hid (KX.out.to (below_one w2 (.cells #[.bool q.1.neg, .slice Ay ny cy, .slice By my dy] 24)))
  have GA := Lib.hid (GA.out.to (below_one w2 (.cells #[.bool q.1.neg, .slice Ay ny cy, .slice By my dy] 24)))
  have GB := Lib.hid (GB.out.to (below_one w2 (.cells #[.bool q.1.neg, .slice Ay ny cy, .slice By my dy] 24)))
  have Gx := Lib.hid (Gx.out.to (below_one w2 (.cells #[.bool q.1.neg, .slice Ay ny cy, .slice By my dy] 24)))
  have Gy := Lib.hid (Gy.out.to (below_one w2 (.cells #[.bool q.1.neg, .slice Ay ny cy, .slice By my dy] 24)))
  have HBE : Hid (Below w.heap.size w (w2.alloc (.cells #[.bool q.1.neg, .slice Ay ny cy, .slice By my dy] 24))) := HBE.out.trans (((below_one w2 (.cells #[.bool q.1.neg, .slice Ay ny cy, .slice By my dy] 24))).mono HBE.out.size)
  have KY := KYN
  clear KYN
  have neKAKY : (w.heap.size = w2.heap.size) = False := eq_false (by omega)
  have neKYKA : (w2.heap.size = w.heap.size) = False := eq_false (by omega)
  have neKBKY : (w.heap.size + 1 = w2.heap.size) = False := eq_false (by omega)
  have neKYKB : (w2.heap.size = w.heap.size + 1) = False := eq_false (by omega)
  have neKXKY : (w1.heap.size = w2.heap.size) = False := eq_false (by omega)
  have neKYKX : (w2.heap.size = w1.heap.size) = False := eq_false (by omega)
  go_wp2_with fail
  refine (HF3.out _ _ _ (by exact GA.out) (by exact GB.out)).mono ?_
  rintro e w3 ⟨v, rfl, hg, hb⟩
  clear ka0 ka1 ka2 kb0 kb1 kb2
  have KA := Lib.hid (KA.out.to hb)
  have KB := Lib.hid (KB.out.to hb)
  have KX := Lib.hid (KX.out.to hb)
  have KY := Lib.hid (KY.out.to hb)
  have GA := Lib.hid (GA.out.to hb)
  have GB := Lib.hid (GB.out.to hb)
  have Gx := Lib.hid (Gx.out.to hb)
  have Gy := Lib.hid (Gy.out.to hb)
  have HBE : Hid (Below w.heap.size w w3) := HBE.out.trans ((hb).mono HBE.out.size)
  clear hb
  obtain ⟨Az, nz, cz, Bz, mz, dz, rfl, hq1, hq2⟩ := hg.form
  have Gz := Lib.hid hg
  clear hq1 hq2 hg
  have ltKAKZ := KA.out.lt
  have ltKBKZ := KB.out.lt
  have ltKXKZ := KX.out.lt
  have ltKYKZ := KY.out.lt
  have KZN := Lib.hid (Blk.new w3 24 #[.bool r.1.neg, .slice Az nz cz, .slice Bz mz dz])
  have KA := Lib.hid (KA.out.to (below_one w3 (.cells #[.bool r.1.neg, .slice Az nz cz, .slice Bz mz dz] 24)))
  have KB := Lib.hid (KB.out.to (below_one w3 (.cells #[.bool r.1.neg, .slice Az nz cz, .slice Bz mz dz] 24)))
  have KX := Lib.hid (KX.out.to (below_one w3 (.cells #[.bool r.1.neg, .slice Az nz cz, .slice Bz mz dz] 24)))
  have KY := Lib.hid (KY.out.to (below_one w3 (.cells #[.bool r.1.neg, .slice Az nz cz, .slice Bz mz dz] 24)))
  have GA := Lib.hid (GA.out.to (below_one w3 (.cells #[.bool r.1.neg, .slice Az nz cz, .slice Bz mz dz] 24)))
  have GB := Lib.hid (GB.out.to (below_one w3 (.cells #[.bool r.1.neg, .slice Az nz cz, .slice Bz mz dz] 24)))
  have Gx := Lib.hid (Gx.out.to (below_one w3 (.cells #[.bool r.1.neg, .slice Az nz cz, .slice Bz mz dz] 24)))
  have Gy := Lib.hid (Gy.out.to (below_one w3 (.cells #[.bool r.1.neg, .slice Az nz cz, .slice Bz mz dz] 24)))
  have Gz := Lib.hid (Gz.out.to (below_one w3 (.cells #[.bool r.1.neg, .slice Az nz cz, .slice Bz mz dz] 24)))
  have HBE : Hid (Below w.heap.size w (w3.alloc (.cells #[.bool r.1.neg, .slice Az nz cz, .slice Bz mz dz] 24))) := HBE.out.trans (((below_one w3 (.cells #[.bool r.1.neg, .slice Az nz cz, .slice Bz mz dz] 24))).mono HBE.out.size)
  have KZ := KZN
  clear KZN
  have neKAKZ : (w.heap.size = w3.heap.size) = False := eq_false (by omega)
  have neKZKA : (w3.heap.size = w.heap.size) = False := eq_false (by omega)
  have neKBKZ : (w.heap.size + 1 = w3.heap.size) = False := eq_false (by omega)
  have neKZKB : (w3.heap.size = w.heap.size + 1) = False := eq_false (by omega)
  have neKXKZ : (w1.heap.size = w3.heap.size) = False := eq_false (by omega)
  have neKZKX : (w3.heap.size = w1.heap.size) = False := eq_false (by omega)
  have neKYKZ : (w2.heap.size = w3.heap.size) = False := eq_false (by omega)
  have neKZKY : (w3.heap.size = w2.heap.size) = False := eq_false (by omega)
  rcases Decidable.em (p.2 = 0) with hp | hp
  rotate_left
  · have hp1 : (p.2 != 0) = true := by rw [bne_iff_ne]; exact hp
    go_wp2_with fail
    refine (counted_any _).mono ?_
    rintro e wz ⟨rfl, hb⟩
    go_wp2_with fail
    go_ret
    exact ⟨rfl, HBE.out.trans (hb.mono HBE.out.size)⟩
  have hp1 : (p.2 != 0) = false := by rw [hp]; rfl
  rcases Decidable.em (q.2 = 0) with hq | hq
  rotate_left
  · have hq1 : (q.2 != 0) = true := by rw [bne_iff_ne]; exact hq
    go_wp2_with fail
    refine (counted_any _).mono ?_
    rintro e wz ⟨rfl, hb⟩
    go_wp2_with fail
    go_ret
    exact ⟨rfl, HBE.out.trans (hb.mono HBE.out.size)⟩
  have hq1 : (q.2 != 0) = false := by rw [hq]; rfl
  rcases Decidable.em (r.2 = 0) with hr | hr
  rotate_left
  · have hr1 : (r.2 != 0) = true := by rw [bne_iff_ne]; exact hr
    go_wp2_with fail
    refine (counted_any _).mono ?_
    rintro e wz ⟨rfl, hb⟩
    go_wp2_with fail
    go_ret
    exact ⟨rfl, HBE.out.trans (hb.mono HBE.out.size)⟩
  have hr1 : (r.2 != 0) = false := by rw [hr]; rfl
  obtain ⟨rfl, rfl⟩ := HLAW.out hp hq hr
  have kx0 := KX.out.cell 0
  have kx1 := KX.out.cell 1
  have kx2 := KX.out.cell 2
  have kz0 := KZ.out.cell 0
  have kz1 := KZ.out.cell 1
  have kz2 := KZ.out.cell 2
  simp only [List.getElem?_toArray, List.getElem?_cons_zero, List.getElem?_cons_succ] at kx0 kx1 kx2 kz0 kz1 kz2
  go_wp2_with fail
  refine (HA1.out _ _ _ (by exact Gx.out) (by exact Gz.out)).mono ?_
  rintro e w4 ⟨v, rfl, hg, hb⟩
  clear kx0 kx1 kx2 kz0 kz1 kz2
  have KA := Lib.hid (KA.out.to hb)
  have KB := Lib.hid (KB.out.to hb)
  have KX := Lib.hid (KX.out.to hb)
  have KY := Lib.hid (KY.out.to hb)
  have KZ := Lib.hid (KZ.out.to hb)
  have GA := Lib.hid (GA.out.to hb)
  have GB := Lib.hid (GB.out.to hb)
  have Gx := Lib.hid (Gx.out.to hb)
  have Gy := Lib.hid (Gy.out.to hb)
  have Gz := Lib.hid (Gz.out.to hb)
  have HBE : Hid (Below w.heap.size w w4) := HBE.out.trans ((hb).mono HBE.out.size)
  clear hb
  obtain ⟨Av, nv, cv, Bv, mv, dv, rfl, hq1, hq2⟩ := hg.form
  have Gv := Lib.hid hg
  clear hq1 hq2 hg
  have kx0 := KX.out.cell 0
  have kx1 := KX.out.cell 1
  have kx2 := KX.out.cell 2
  have ky0 := KY.out.cell 0
  have ky1 := KY.out.cell 1
  have ky2 := KY.out.cell 2
  simp only [List.getElem?_toArray, List.getElem?_cons_zero, List.getElem?_cons_succ] at kx0 kx1 kx2 ky0 ky1 ky2
  have ltKAKV := KA.out.lt
  have ltKBKV := KB.out.lt
  have ltKXKV := KX.out.lt
  have ltKYKV := KY.out.lt
  have ltKZKV := KZ.out.lt
  have KVN := Lib.hid (Blk.new w4 24 #[.bool q.1.neg, .slice Av nv cv, .slice Bv mv dv])
  have KA := Lib.hid (KA.out.to (below_one w4 (.cells #[.bool q.1.neg, .slice Av nv cv, .slice Bv mv dv] 24)))
  have KB := Lib.hid (KB.out.to (below_one w4 (.cells #[.bool q.1.neg, .slice Av nv cv, .slice Bv mv dv] 24)))
  have KX := Lib.hid (KX.out.to (below_one w4 (.cells #[.bool q.1.neg, .slice Av nv cv, .slice Bv mv dv] 24)))
  have KY := Lib.hid (KY.out.to (below_one w4 (.cells #[.bool q.1.neg, .slice Av nv cv, .slice Bv mv dv] 24)))
  have KZ := Lib.hid (KZ.out.to (below_one w4 (.cells #[.bool q.1.neg, .slice Av nv cv, .slice Bv mv dv] 24)))
  have GA := Lib.hid (GA.out.to (below_one w4 (.cells #[.bool q.1.neg, .slice Av nv cv, .slice Bv mv dv] 24)))
  have GB := Lib.hid (GB.out.to (below_one w4 (.cells #[.bool q.1.neg, .slice Av nv cv, .slice Bv mv dv] 24)))
  have Gx := Lib.hid (Gx.out.to (below_one w4 (.cells #[.bool q.1.neg, .slice Av nv cv, .slice Bv mv dv] 24)))
  have Gy := Lib.hid (Gy.out.to (below_one w4 (.cells #[.bool q.1.neg, .slice Av nv cv, .slice Bv mv dv] 24)))
  have Gz := Lib.hid (Gz.out.to (below_one w4 (.cells #[.bool q.1.neg, .slice Av nv cv, .slice Bv mv dv] 24)))
  have Gv := Lib.hid (Gv.out.to (below_one w4 (.cells #[.bool q.1.neg, .slice Av nv cv, .slice Bv mv dv] 24)))
  have HBE : Hid (Below w.heap.size w (w4.alloc (.cells #[.bool q.1.neg, .slice Av nv cv, .slice Bv mv dv] 24))) := HBE.out.trans (((below_one w4 (.cells #[.bool q.1.neg, .slice Av nv cv, .slice Bv mv dv] 24))).mono HBE.out.size)
  have KV := KVN
  clear KVN
  have neKAKV : (w.heap.size = w4.heap.size) = False := eq_false (by omega)
  have neKVKA : (w4.heap.size = w.heap.size) = False := eq_false (by omega)
  have neKBKV : (w.heap.size + 1 = w4.heap.size) = False := eq_false (by omega)
  have neKVKB : (w4.heap.size = w.heap.size + 1) = False := eq_false (by omega)
  have neKXKV : (w1.heap.size = w4.heap.size) = False := eq_false (by omega)
  have neKVKX : (w4.heap.size = w1.heap.size) = False := eq_false (by omega)
  have neKYKV : (w2.heap.size = w4.heap.size) = False := eq_false (by omega)
  have neKVKY : (w4.heap.size = w2.heap.size) = False := eq_false (by omega)
  have neKZKV : (w3.heap.size = w4.heap.size) = False := eq_false (by omega)
  have neKVKZ : (w4.heap.size = w3.heap.size) = False := eq_false (by omega)
  go_wp2_with fail
  refine (HA2.out _ _ _ (by exact Gx.out) (by exact Gy.out)).mono ?_
  rintro e w5 ⟨v, rfl, hg, hb⟩
  clear kx0 kx1 kx2 ky0 ky1 ky2
  have KA := Lib.hid (KA.out.to hb)
  have KB := Lib.hid (KB.out.to hb)
  have KX := Lib.hid (KX.out.to hb)
  have KY := Lib.hid (KY.out.to hb)
  have KZ := Lib.hid (KZ.out.to hb)
  have KV := Lib.hid (KV.out.to hb)
  have GA := Lib.hid (GA.out.to hb)
  have GB := Lib.hid (GB.out.to hb)
  have Gx := Lib.hid (Gx.out.to hb)
  have Gy := Lib.hid (Gy.out.to hb)
  have Gz := Lib.hid (Gz.out.to hb)
  have Gv := Lib.hid (Gv.out.to hb)
  have HBE : Hid (Below w.heap.size w w5) := HBE.out.trans ((hb).mono HBE.out.size)
  clear hb
  obtain ⟨Aw, nw, cw, Bw, mw, dw, rfl, hq1, hq2⟩ := hg.form
  have Gw := Lib.hid hg
  clear hq1 hq2 hg
  have ka0 := KA.out.cell 0
  have ka1 := KA.out.cell 1
  have ka2 := KA.out.cell 2
  have kb0 := KB.out.cell 0
  have kb1 := KB.out.cell 1
  have kb2 := KB.out.cell 2
  simp only [List.getElem?_toArray, List.getElem?_cons_zero, List.getElem?_cons_succ] at ka0 ka1 ka2 kb0 kb1 kb2
  have ltKAKW := KA.out.lt
  have ltKBKW := KB.out.lt
  have ltKXKW := KX.out.lt
  have ltKYKW := KY.out.lt
  have ltKZKW := KZ.out.lt
  have ltKVKW := KV.out.lt
  have KWN := Lib.hid (Blk.new w5 24 #[.bool t.1.neg, .slice Aw nw cw, .slice Bw mw dw])
  have KA := Lib.hid (KA.out.to (below_one w5 (.cells #[.bool t.1.neg, .slice Aw nw cw, .slice Bw mw dw] 24)))
  have KB := Lib.hid (KB.out.to (below_one w5 (.cells #[.bool t.1.neg, .slice Aw nw cw, .slice Bw mw dw] 24)))
  have KX := Lib.hid (KX.out.to (below_one w5 (.cells #[.bool t.1.neg, .slice Aw nw cw, .slice Bw mw dw] 24)))
  have KY := Lib.hid (KY.out.to (below_one w5 (.cells #[.bool t.1.neg, .slice Aw nw cw, .slice Bw mw dw] 24)))
  have KZ := Lib.hid (KZ.out.to (below_one w5 (.cells #[.bool t.1.neg, .slice Aw nw cw, .slice Bw mw dw] 24)))
  have KV := Lib.hid (KV.out.to (below_one w5 (.cells #[.bool t.1.neg, .slice Aw nw cw, .slice Bw mw dw] 24)))
  have GA := Lib.hid (GA.out.to (below_one w5 (.cells #[.bool t.1.neg, .slice Aw nw cw, .slice Bw mw dw] 24)))
  have GB := Lib.hid (GB.out.to (below_one w5 (.cells #[.bool t.1.neg, .slice Aw nw cw, .slice Bw mw dw] 24)))
  have Gx := Lib.hid (Gx.out.to (below_one w5 (.cells #[.bool t.1.neg, .slice Aw nw cw, .slice Bw mw dw] 24)))
  have Gy := Lib.hid (Gy.out.to (below_one w5 (.cells #[.bool t.1.neg, .slice Aw nw cw, .slice Bw mw dw] 24)))
  have Gz := Lib.hid (Gz.out.to (below_one w5 (.cells #[.bool t.1.neg, .slice Aw nw cw, .slice Bw mw dw] 24)))
  have Gv := Lib.hid (Gv.out.to (below_one w5 (.cells #[.bool t.1.neg, .slice Aw nw cw, .slice Bw mw dw] 24)))
  have Gw := Lib.hid (Gw.out.to (below_one w5 (.cells #[.bool t.1.neg, .slice Aw nw cw, .slice Bw mw dw] 24)))
  have HBE : Hid (Below w.heap.size w (w5.alloc (.cells #[.bool t.1.neg, .slice Aw nw cw, .slice Bw mw dw] 24))) := HBE.out.trans (((below_one w5 (.cells #[.bool t.1.neg, .slice Aw nw cw, .slice Bw mw dw] 24))).mono HBE.out.size)
  have KW := KWN
  clear KWN
  have neKAKW : (w.heap.size = w5.heap.size) = False := eq_false (by omega)
  have neKWKA : (w5.heap.size = w.heap.size) = False := eq_false (by omega)
  have neKBKW : (w.heap.size + 1 = w5.heap.size) = False := eq_false (by omega)
  have neKWKB : (w5.heap.size = w.heap.size + 1) = False := eq_false (by omega)
  have neKXKW : (w1.heap.size = w5.heap.size) = False := eq_false (by omega)
  have neKWKX : (w5.heap.size = w1.heap.size) = False := eq_false (by omega)
  have neKYKW : (w2.heap.size = w5.heap.size) = False := eq_false (by omega)
  have neKWKY : (w5.heap.size = w2.heap.size) = False := eq_false (by omega)
  have neKZKW : (w3.heap.size = w5.heap.size) = False := eq_false (by omega)
  have neKWKZ : (w5.heap.size = w3.heap.size) = False := eq_false (by omega)
  have neKVKW : (w4.heap.size = w5.heap.size) = False := eq_false (by omega)
  have neKWKV : (w5.heap.size = w4.heap.size) = False := eq_false (by omega)
  go_wp2_with fail
  refine (HA3.out _ _ _ (by exact GA.out) (by exact GB.out)).mono ?_
  rintro e w6 ⟨v, rfl, hg, hb⟩
  clear ka0 ka1 ka2 kb0 kb1 kb2
  have KA := Lib.hid (KA.out.to hb)
  have KB := Lib.hid (KB.out.to hb)
  have KX := Lib.hid (KX.out.to hb)
  have KY := Lib.hid (KY.out.to hb)
  have KZ := Lib.hid (KZ.out.to hb)
  have KV := Lib.hid (KV.out.to hb)
  have KW := Lib.hid (KW.out.to hb)
  have GA := Lib.hid (GA.out.to hb)
  have GB := Lib.hid (GB.out.to hb)
  have Gx := Lib.hid (Gx.out.to hb)
  have Gy := Lib.hid (Gy.out.to hb)
  have Gz := Lib.hid (Gz.out.to hb)
  have Gv := Lib.hid (Gv.out.to hb)
  have Gw := Lib.hid (Gw.out.to hb)
  have HBE : Hid (Below w.heap.size w w6) := HBE.out.trans ((hb).mono HBE.out.size)
  clear hb
  obtain ⟨Au, nu, cu, Bu, mu, du, rfl, hq1, hq2⟩ := hg.form
  have Gu := Lib.hid hg
  clear hq1 hq2 hg
  have kv0 := KV.out.cell 0
  have kv1 := KV.out.cell 1
  have kv2 := KV.out.cell 2
  have ky0 := KY.out.cell 0
  have ky1 := KY.out.cell 1
  have ky2 := KY.out.cell 2
  simp only [List.getElem?_toArray, List.getElem?_cons_zero, List.getElem?_cons_succ] at kv0 kv1 kv2 ky0 ky1 ky2
  have ltKAKU := KA.out.lt
  have ltKBKU := KB.out.lt
  have ltKXKU := KX.out.lt
  have ltKYKU := KY.out.lt
  have ltKZKU := KZ.out.lt
  have ltKVKU := KV.out.lt
  have ltKWKU := KW.out.lt
  have KUN := Lib.hid (Blk.new w6 24 #[.bool t.1.neg, .slice Au nu cu, .slice Bu mu du])
  have KA := Lib.hid (KA.out.to (below_one w6 (.cells #[.bool t.1.neg, .slice Au nu cu, .slice Bu mu du] 24)))
  have KB := Lib.hid (KB.out.to (below_one w6 (.cells #[.bool t.1.neg, .slice Au nu cu, .slice Bu mu du] 24)))
  have KX := Lib.hid (KX.out.to (below_one w6 (.cells #[.bool t.1.neg, .slice Au nu cu, .slice Bu mu du] 24)))
  have KY := Lib.hid (KY.out.to (below_one w6 (.cells #[.bool t.1.neg, .slice Au nu cu, .slice Bu mu du] 24)))
  have KZ := Lib.hid (KZ.out.to (below_one w6 (.cells #[.bool t.1.neg, .slice Au nu cu, .slice Bu mu du] 24)))
  have KV := Lib.hid (KV.out.to (below_one w6 (.cells #[.bool t.1.neg, .slice Au nu cu, .slice Bu mu du] 24)))
  have KW := Lib.hid (KW.out.to (below_one w6 (.cells #[.bool t.1.neg, .slice Au nu cu, .slice Bu mu du] 24)))
  have GA := Lib.hid (GA.out.to (below_one w6 (.cells #[.bool t.1.neg, .slice Au nu cu, .slice Bu mu du] 24)))
  have GB := Lib.hid (GB.out.to (below_one w6 (.cells #[.bool t.1.neg, .slice Au nu cu, .slice Bu mu du] 24)))
  have Gx := Lib.hid (Gx.out.to (below_one w6 (.cells #[.bool t.1.neg, .slice Au nu cu, .slice Bu mu du] 24)))
  have Gy := Lib.hid (Gy.out.to (below_one w6 (.cells #[.bool t.1.neg, .slice Au nu cu, .slice Bu mu du] 24)))
  have Gz := Lib.hid (Gz.out.to (below_one w6 (.cells #[.bool t.1.neg, .slice Au nu cu, .slice Bu mu du] 24)))
  have Gv := Lib.hid (Gv.out.to (below_one w6 (.cells #[.bool t.1.neg, .slice Au nu cu, .slice Bu mu du] 24)))
  have Gw := Lib.hid (Gw.out.to (below_one w6 (.cells #[.bool t.1.neg, .slice Au nu cu, .slice Bu mu du] 24)))
  have Gu := Lib.hid (Gu.out.to (below_one w6 (.cells #[.bool t.1.neg, .slice Au nu cu, .slice Bu mu du] 24)))
  have HBE : Hid (Below w.heap.size w (w6.alloc (.cells #[.bool t.1.neg, .slice Au nu cu, .slice Bu mu du] 24))) := HBE.out.trans (((below_one w6 (.cells #[.bool t.1.neg, .slice Au nu cu, .slice Bu mu du] 24))).mono HBE.out.size)
  have KU := KUN
  clear KUN
  have neKAKU : (w.heap.size = w6.heap.size) = False := eq_false (by omega)
  have neKUKA : (w6.heap.size = w.heap.size) = False := eq_false (by omega)
  have neKBKU : (w.heap.size + 1 = w6.heap.size) = False := eq_false (by omega)
  have neKUKB : (w6.heap.size = w.heap.size + 1) = False := eq_false (by omega)
  have neKXKU : (w1.heap.size = w6.heap.size) = False := eq_false (by omega)
  have neKUKX : (w6.heap.size = w1.heap.size) = False := eq_false (by omega)
  have neKYKU : (w2.heap.size = w6.heap.size) = False := eq_false (by omega)
  have neKUKY : (w6.heap.size = w2.heap.size) = False := eq_false (by omega)
  have neKZKU : (w3.heap.size = w6.heap.size) = False := eq_false (by omega)
  have neKUKZ : (w6.heap.size = w3.heap.size) = False := eq_false (by omega)
  have neKVKU : (w4.heap.size = w6.heap.size) = False := eq_false (by omega)
  have neKUKV : (w6.heap.size = w4.heap.size) = False := eq_false (by omega)
  have neKWKU : (w5.heap.size = w6.heap.size) = False := eq_false (by omega)
  have neKUKW : (w6.heap.size = w5.heap.size) = False := eq_false (by omega)
  go_wp2_with fail
  refine (HSM.out _ _ _ _ (by exact Gv.out) (by exact Gy.out)).mono ?_
  rintro e w7 ⟨rfl, hb⟩
  clear kv0 kv1 kv2 ky0 ky1 ky2
  have KA := Lib.hid (KA.out.to hb)
  have KB := Lib.hid (KB.out.to hb)
  have KX := Lib.hid (KX.out.to hb)
  have KY := Lib.hid (KY.out.to hb)
  have KZ := Lib.hid (KZ.out.to hb)
  have KV := Lib.hid (KV.out.to hb)
  have KW := Lib.hid (KW.out.to hb)
  have KU := Lib.hid (KU.out.to hb)
  have GA := Lib.hid (GA.out.to hb)
  have GB := Lib.hid (GB.out.to hb)
  have Gx := Lib.hid (Gx.out.to hb)
  have Gy := Lib.hid (Gy.out.to hb)
  have Gz := Lib.hid (Gz.out.to hb)
  have Gv := Lib.hid (Gv.out.to hb)
  have Gw := Lib.hid (Gw.out.to hb)
  have Gu := Lib.hid (Gu.out.to hb)
  have HBE : Hid (Below w.heap.size w w7) := HBE.out.trans ((hb).mono HBE.out.size)
  clear hb
  have kw0 := KW.out.cell 0
  have kw1 := KW.out.cell 1
  have kw2 := KW.out.cell 2
  have ku0 := KU.out.cell 0
  have ku1 := KU.out.cell 1
  have ku2 := KU.out.cell 2
  simp only [List.getElem?_toArray, List.getElem?_cons_zero, List.getElem?_cons_succ] at kw0 kw1 kw2 ku0 ku1 ku2
  go_wp2_with fail
  refine (HSM.out _ _ _ _ (by exact Gw.out) (by exact Gu.out)).mono ?_
  rintro e w8 ⟨rfl, hb⟩
  clear kw0 kw1 kw2 ku0 ku1 ku2
  have KA := Lib.hid (KA.out.to hb)
  have KB := Lib.hid (KB.out.to hb)
  have KX := Lib.hid (KX.out.to hb)
  have KY := Lib.hid (KY.out.to hb)
  have KZ := Lib.hid (KZ.out.to hb)
  have KV := Lib.hid (KV.out.to hb)
  have KW := Lib.hid (KW.out.to hb)
  have KU := Lib.hid (KU.out.to hb)
  have GA := Lib.hid (GA.out.to hb)
  have GB := Lib.hid (GB.out.to hb)
  have Gx := Lib.hid (Gx.out.to hb)
  have Gy := Lib.hid (Gy.out.to hb)
  have Gz := Lib.hid (Gz.out.to hb)
  have Gv := Lib.hid (Gv.out.to hb)
  have Gw := Lib.hid (Gw.out.to hb)
  have Gu := Lib.hid (Gu.out.to hb)
  have HBE : Hid (Below w.heap.size w w8) := HBE.out.trans ((hb).mono HBE.out.size)
  clear hb
  go_wp2_with fail
  refine (counted_any _).mono ?_
  rintro e wz ⟨rfl, hb⟩
  go_wp2_with fail
  go_ret
  exact ⟨rfl, HBE.out.trans (hb.mono HBE.out.size)⟩

theorem numberBitsAddUp_holds : Rows.NumberBitsAddUpCardSaid := LawAddUp.card law_addUp
#print axioms numberBitsAddUp_holds
end Go.Proofs.YtdmhkhnnomdkcaaDoor

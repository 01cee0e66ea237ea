/- fetterlockref1.One. -/
import Derived.Deep.RegionHeld3
import Derived.Test.YtdfcpkjphdepcaaDoorJo24
import Derived.Test.YtdfcpkjphdepcaaDoorJo25
import Derived.Test.YtdfcpkjphdepcaaDoorJo27
import Derived.Test.YtdfcpkjphdepcaaDoorJo28
import Derived.Test.YtdfcpkjphdepcaaDoorJo29
import Derived.Test.YtdfcpkjphdepcaaDoorJo33
import Derived.Test.YtdfcpkjphdepcaaDoorJo34
set_option linter.unusedVariables false
set_option linter.unusedSimpArgs false
namespace Go.Proofs.YtdfcpkjphdepcaaDoor
open Go.RowKit NumB
set_option linter.unusedVariables false
set_option linter.unusedSimpArgs false

theorem LN.one {a : LN} (ho : a.ok) (he : a.err = 0) (s : Bool) : fracS 0 s a.x a.y = opS 0 (s && decide (0 < a.x)) a.x a.y := by
  have h := (LN.good ho he).2.2.2.2.2.1
  unfold fracS
  rw [h, Nat.div_one, Nat.div_one]
theorem fracS_1 (s : Bool) (n : Nat) : fracS 0 s n 1 = opS 0 (s && decide (0 < n)) n 1 := by unfold fracS; rw [Nat.gcd_one_right, Nat.div_one, Nat.div_one]
theorem ceil_sign {neg : Bool} {x y : Nat} : (!((!neg && decide (0 < x)) && decide (0 < flo (!neg && decide (0 < x)) x y)) && decide (0 < flo (!neg && decide (0 < x)) x y)) = (neg && decide (0 < flo (!neg) x y)) ∧ flo (!neg && decide (0 < x)) x y = flo (!neg) x y := by
  have e : flo (!neg && decide (0 < x)) x y = flo (!neg) x y := by
    rcases Nat.eq_zero_or_pos x with h | h
    · subst h; rw [flo_rest (Nat.zero_mod _), flo_rest (Nat.zero_mod _)]
    · simp [h]
  refine ⟨?_, e⟩
  rw [e]
  rcases Nat.eq_zero_or_pos x with h | h
  · subst h; rw [flo_rest (Nat.zero_mod _), Nat.zero_div]; simp
  · cases neg <;> simp [h]

set_option maxRecDepth 1000000 in
set_option maxHeartbeats 12800000 in
theorem rone_n (a : LN) (va : Value) (w : World) (ga : GV w va a) : Calls Tryd.prog 14 #[.int .u8 110, va] w (SPost w (negS a)) := by
  have HO := Lib.hid ga.ok
  have hbd : 0 ≤ a.err ∧ a.err ≤ 3 := checkL_bd _ _ _
  have HCK := Lib.hid (fun (W : World) (u : Value) (h : GV W u a) => fault_S a u W h)
  obtain ⟨B1, m1, d1, B2, m2, d2, rfl, hq1, hq2⟩ := ga.form
  clear hq1 hq2
  have KA := Lib.hid ((blk2 w 24 24 #[.bool a.neg, .slice B1 m1 d1, .slice B2 m2 d2] #[.bool false, .slice none 0 0, .slice none 0 0]).1)
  have KC := Lib.hid ((blk2 w 24 24 #[.bool a.neg, .slice B1 m1 d1, .slice B2 m2 d2] #[.bool false, .slice none 0 0, .slice none 0 0]).2)
  have GA := Lib.hid (ga.to (below_two w (.cells #[.bool a.neg, .slice B1 m1 d1, .slice B2 m2 d2] 24) (.cells #[.bool false, .slice none 0 0, .slice none 0 0] 24)))
  have HBE := Lib.hid (below_two w (.cells #[.bool a.neg, .slice B1 m1 d1, .slice B2 m2 d2] 24) (.cells #[.bool false, .slice none 0 0, .slice none 0 0] 24))
  clear ga
  by_cases e0 : a.err = 0
  rotate_left
  · have b0 : (a.err != 0) = true := by rw [bne_iff_ne]; exact e0
    have HRE : Hid (negS a = (zeroL, a.err)) := by unfold Hid negS; exact fracS_err e0
    generalize negS a = r at *
    generalize a.err = z at *
    clear e0
    go_enter Tryd.func14, Tryd.ntmps14
    go_wp2_with fail
    refine (HCK.out _ _ (by exact GA.out)).mono ?_
    rintro e w1 ⟨rfl, hb⟩
    have KA := Lib.hid (KA.out.to hb)
    have KC := Lib.hid (KC.out.to hb)
    have GA := Lib.hid (GA.out.to hb)
    have HBE : Hid (Below w.heap.size w w1) := HBE.out.trans ((hb).mono HBE.out.size)
    clear hb
    have kc0 := KC.out.cell 0
    have kc1 := KC.out.cell 1
    have kc2 := KC.out.cell 2
    simp only [List.getElem?_toArray, List.getElem?_cons_zero, List.getElem?_cons_succ] at kc0 kc1 kc2
    have fzkc0 := KC.out.frozen 0
    have fzkc1 := KC.out.frozen 1
    have fzkc2 := KC.out.frozen 2
    go_wp2_with fail
    refine bodyPost_ret (v := .tuple #[zeroNum, .int .i64 z]) (by rw [results_cell_tmp rfl]; go_simp; rfl) rfl ?_
    rw [HRE.out]
    exact ⟨_, rfl, GV.zero _, put3_below HBE.out (by omega) _ _ _⟩
  obtain ⟨p1, p2, p3, p4, hcan⟩ := LN.good HO.out e0
  have HOF : Hid (∀ (W : World) (u : Value), GV W u a → Calls Tryd.prog 36 #[u] W (RVPost W a.neg a.x a.y)) := fun W u h => rof_any a u W h (by omega) (by omega)
  have HL : Hid (((digs W16 a.x).length ≤ 256 ∧ (digs W16 a.y).length ≤ 256) ∧ 0 < a.y) := ⟨LN.len16 HO.out e0, hcan.1⟩
  have HMK : Hid (∀ (s : Bool) (n m : Nat), (digs W16 n).length ≤ 10000 → (digs W16 m).length ≤ 10000 → ∀ (W : World) (v : Value), RV W v s n m → Calls Tryd.prog 37 #[v] W (SPost W (opS 0 s n m))) := fun s n m h1 h2 W v h => rmade_S2 s n m v W h (by omega) (by omega)
  have HMI : Hid (∀ (s : Bool) (n m : Nat) (W : World) (v : Value), RV W v s n m → Calls Tryd.prog 38 #[v] W (RVPost W (!s && decide (0 < n)) n m)) := fun s n m W v h => rminus_any s n m v W h
  have HFL : Hid (∀ (s : Bool) (W : World) (v : Value), RV W v s a.x a.y → Calls Tryd.prog 42 #[v] W (RVPost W (s && decide (0 < flo s a.x a.y)) (flo s a.x a.y) 1)) := fun s W v h => rfloor_any s a.x a.y v W h HL.out.2 (by have := HL.out; omega) (by have := HL.out; omega)
  have HWK : Hid (∀ (s : Bool) (n : Nat) (W : World) (v : Value), Nat16 W v n → Calls Tryd.prog 40 #[.bool s, v] W (RVPost W (s && decide (0 < n)) n 1)) := fun s n W v h => rwhole_any s n v W h
  have HDV : Hid (∀ (n m : Nat), 0 < m → (digs W16 n).length ≤ 10000 → (digs W16 m).length ≤ 10000 → ∀ (W : World) (u v : Value), Nat16 W u n → Nat16 W v m → Calls Tryd.prog 43 #[u, v] W (RPost2 W (n / m) (n % m))) := fun n m h0 h1 h2 W u v ha hb => rdiv_any n m u v W ha hb h0 (by omega) (by omega)
  have hfq : ∀ s : Bool, (digs W16 (flo s a.x a.y)).length ≤ 300 := fun s => by
    have : flo s a.x a.y ≤ a.x + 1 := by unfold flo; have := Nat.div_le_self a.x a.y; split <;> omega
    exact Nat.le_trans (digs_len_mono W16_gt this) (Nat.le_trans (digs16_add HL.out.1.1 (by rw [digs_one16]; decide)) (by omega))
  have HFQ := Lib.hid hfq
  rw [e0] at HCK
  have HMD : Hid (∀ (W : World) (v : Value), RV W v (!a.neg && decide (0 < a.x)) a.x a.y → Calls Tryd.prog 37 #[v] W (SPost W (negS a))) := fun W v h => by
    unfold negS
    rw [e0, LN.one HO.out e0]
    exact HMK.out _ _ _ (by have := HL.out; omega) (by have := HL.out; omega) W v h
  generalize negS a = r at *
  clear e0 p1 p2 p3 p4 hcan hbd hfq
  go_enter Tryd.func14, Tryd.ntmps14
  go_wp2_with fail
  refine (HCK.out _ _ (by exact GA.out)).mono ?_
  rintro e w1 ⟨rfl, hb⟩
  have KA := Lib.hid (KA.out.to hb)
  have KC := Lib.hid (KC.out.to hb)
  have GA := Lib.hid (GA.out.to hb)
  have HBE : Hid (Below w.heap.size w w1) := HBE.out.trans ((hb).mono HBE.out.size)
  clear hb
  have ka0 := KA.out.cell 0
  have ka1 := KA.out.cell 1
  have ka2 := KA.out.cell 2
  simp only [List.getElem?_toArray, List.getElem?_cons_zero, List.getElem?_cons_succ] at ka0 ka1 ka2
  go_wp2_with fail
  refine (HOF.out _ _ (by exact GA.out)).mono ?_
  rintro e w2 ⟨v, rfl, hr, hb⟩
  clear ka0 ka1 ka2
  have KA := Lib.hid (KA.out.to hb)
  have KC := Lib.hid (KC.out.to hb)
  have GA := Lib.hid (GA.out.to hb)
  have HBE : Hid (Below w.heap.size w w2) := HBE.out.trans ((hb).mono HBE.out.size)
  clear hb
  obtain ⟨Ar, nr, cr, Br, mr, dr, rfl, hq1, hq2⟩ := hr.form
  have Gr := Lib.hid hr
  clear hq1 hq2 hr
  have kc0 := KC.out.cell 0
  have kc1 := KC.out.cell 1
  have kc2 := KC.out.cell 2
  simp only [List.getElem?_toArray, List.getElem?_cons_zero, List.getElem?_cons_succ] at kc0 kc1 kc2
  have ltKAKR := KA.out.lt
  have ltKCKR := KC.out.lt
  have KRN := Lib.hid (Blk.new w2 60 #[.bool a.neg, .slice Ar nr cr, .slice Br mr dr])
  have KA := Lib.hid (KA.out.to (below_one w2 (.cells #[.bool a.neg, .slice Ar nr cr, .slice Br mr dr] 60)))
  have KC := Lib.hid (KC.out.to (below_one w2 (.cells #[.bool a.neg, .slice Ar nr cr, .slice Br mr dr] 60)))
  have GA := Lib.hid (GA.out.to (below_one w2 (.cells #[.bool a.neg, .slice Ar nr cr, .slice Br mr dr] 60)))
  have Gr := Lib.hid (Gr.out.to (below_one w2 (.cells #[.bool a.neg, .slice Ar nr cr, .slice Br mr dr] 60)))
  have HBE : Hid (Below w.heap.size w (w2.alloc (.cells #[.bool a.neg, .slice Ar nr cr, .slice Br mr dr] 60))) := HBE.out.trans (((below_one w2 (.cells #[.bool a.neg, .slice Ar nr cr, .slice Br mr dr] 60))).mono HBE.out.size)
  have KR := KRN
  clear KRN
  have neKAKR : (w.heap.size = w2.heap.size) = False := eq_false (by omega)
  have neKRKA : (w2.heap.size = w.heap.size) = False := eq_false (by omega)
  have neKCKR : (w.heap.size + 1 = w2.heap.size) = False := eq_false (by omega)
  have neKRKC : (w2.heap.size = w.heap.size + 1) = False := eq_false (by omega)
  have kr0 := KR.out.cell 0
  have kr1 := KR.out.cell 1
  have kr2 := KR.out.cell 2
  simp only [List.getElem?_toArray, List.getElem?_cons_zero, List.getElem?_cons_succ] at kr0 kr1 kr2
  go_wp2_with fail
  refine (HMI.out _ _ _ _ _ (by exact Gr.out)).mono ?_
  rintro e w3 ⟨v, rfl, hr5, hb⟩
  clear kc0 kc1 kc2 kr0 kr1 kr2
  have KA := Lib.hid (KA.out.to hb)
  have KC := Lib.hid (KC.out.to hb)
  have KR := Lib.hid (KR.out.to hb)
  have GA := Lib.hid (GA.out.to hb)
  have Gr := Lib.hid (Gr.out.to hb)
  have HBE : Hid (Below w.heap.size w w3) := HBE.out.trans ((hb).mono HBE.out.size)
  clear hb
  have R5 := Lib.hid hr5
  clear hr5
  have kr0 := KR.out.cell 0
  have kr1 := KR.out.cell 1
  have kr2 := KR.out.cell 2
  simp only [List.getElem?_toArray, List.getElem?_cons_zero, List.getElem?_cons_succ] at kr0 kr1 kr2
  go_wp2_with fail
  refine (HMD.out _ _ (by exact R5.out)).mono ?_
  rintro e w4 ⟨v, rfl, hg, hb⟩
  clear kr0 kr1 kr2
  have KA := Lib.hid (KA.out.to hb)
  have KC := Lib.hid (KC.out.to hb)
  have KR := Lib.hid (KR.out.to hb)
  have GA := Lib.hid (GA.out.to hb)
  have Gr := Lib.hid (Gr.out.to hb)
  have R5 := Lib.hid (R5.out.to hb)
  have HBE : Hid (Below w.heap.size w w4) := HBE.out.trans ((hb).mono HBE.out.size)
  clear hb
  obtain ⟨Az, nz, cz, Bz, mz, dz, rfl, hq1, hq2⟩ := hg.form
  have Gz := Lib.hid hg
  clear hq1 hq2 hg
  have kc0 := KC.out.cell 0
  have kc1 := KC.out.cell 1
  have kc2 := KC.out.cell 2
  simp only [List.getElem?_toArray, List.getElem?_cons_zero, List.getElem?_cons_succ] at kc0 kc1 kc2
  have fzkc0 := KC.out.frozen 0
  have fzkc1 := KC.out.frozen 1
  have fzkc2 := KC.out.frozen 2
  go_wp2_with fail
  refine bodyPost_ret (v := .tuple #[.agg #[.bool r.1.neg, .slice Az nz cz, .slice Bz mz dz], .int .i64 r.2]) (by rw [results_cell_tmp rfl]; go_simp) rfl ?_
  exact ⟨_, rfl, Gz.out.putM KC.out _ _ _, put3_below HBE.out (by omega) _ _ _⟩

set_option maxRecDepth 1000000 in
set_option maxHeartbeats 12800000 in
theorem rone_a (a : LN) (va : Value) (w : World) (ga : GV w va a) : Calls Tryd.prog 14 #[.int .u8 97, va] w (SPost w (absS a)) := by
  have HO := Lib.hid ga.ok
  have hbd : 0 ≤ a.err ∧ a.err ≤ 3 := checkL_bd _ _ _
  have HCK := Lib.hid (fun (W : World) (u : Value) (h : GV W u a) => fault_S a u W h)
  obtain ⟨B1, m1, d1, B2, m2, d2, rfl, hq1, hq2⟩ := ga.form
  clear hq1 hq2
  have KA := Lib.hid ((blk2 w 24 24 #[.bool a.neg, .slice B1 m1 d1, .slice B2 m2 d2] #[.bool false, .slice none 0 0, .slice none 0 0]).1)
  have KC := Lib.hid ((blk2 w 24 24 #[.bool a.neg, .slice B1 m1 d1, .slice B2 m2 d2] #[.bool false, .slice none 0 0, .slice none 0 0]).2)
  have GA := Lib.hid (ga.to (below_two w (.cells #[.bool a.neg, .slice B1 m1 d1, .slice B2 m2 d2] 24) (.cells #[.bool false, .slice none 0 0, .slice none 0 0] 24)))
  have HBE := Lib.hid (below_two w (.cells #[.bool a.neg, .slice B1 m1 d1, .slice B2 m2 d2] 24) (.cells #[.bool false, .slice none 0 0, .slice none 0 0] 24))
  clear ga
  by_cases e0 : a.err = 0
  rotate_left
  · have b0 : (a.err != 0) = true := by rw [bne_iff_ne]; exact e0
    have HRE : Hid (absS a = (zeroL, a.err)) := by unfold Hid absS; exact fracS_err e0
    generalize absS a = r at *
    generalize a.err = z at *
    clear e0
    go_enter Tryd.func14, Tryd.ntmps14
    go_wp2_with fail
    refine (HCK.out _ _ (by exact GA.out)).mono ?_
    rintro e w1 ⟨rfl, hb⟩
    have KA := Lib.hid (KA.out.to hb)
    have KC := Lib.hid (KC.out.to hb)
    have GA := Lib.hid (GA.out.to hb)
    have HBE : Hid (Below w.heap.size w w1) := HBE.out.trans ((hb).mono HBE.out.size)
    clear hb
    have kc0 := KC.out.cell 0
    have kc1 := KC.out.cell 1
    have kc2 := KC.out.cell 2
    simp only [List.getElem?_toArray, List.getElem?_cons_zero, List.getElem?_cons_succ] at kc0 kc1 kc2
    have fzkc0 := KC.out.frozen 0
    have fzkc1 := KC.out.frozen 1
    have fzkc2 := KC.out.frozen 2
    go_wp2_with fail
    refine bodyPost_ret (v := .tuple #[zeroNum, .int .i64 z]) (by rw [results_cell_tmp rfl]; go_simp; rfl) rfl ?_
    rw [HRE.out]
    exact ⟨_, rfl, GV.zero _, put3_below HBE.out (by omega) _ _ _⟩
  obtain ⟨p1, p2, p3, p4, hcan⟩ := LN.good HO.out e0
  have HOF : Hid (∀ (W : World) (u : Value), GV W u a → Calls Tryd.prog 36 #[u] W (RVPost W a.neg a.x a.y)) := fun W u h => rof_any a u W h (by omega) (by omega)
  have HL : Hid (((digs W16 a.x).length ≤ 256 ∧ (digs W16 a.y).length ≤ 256) ∧ 0 < a.y) := ⟨LN.len16 HO.out e0, hcan.1⟩
  have HMK : Hid (∀ (s : Bool) (n m : Nat), (digs W16 n).length ≤ 10000 → (digs W16 m).length ≤ 10000 → ∀ (W : World) (v : Value), RV W v s n m → Calls Tryd.prog 37 #[v] W (SPost W (opS 0 s n m))) := fun s n m h1 h2 W v h => rmade_S2 s n m v W h (by omega) (by omega)
  have HMI : Hid (∀ (s : Bool) (n m : Nat) (W : World) (v : Value), RV W v s n m → Calls Tryd.prog 38 #[v] W (RVPost W (!s && decide (0 < n)) n m)) := fun s n m W v h => rminus_any s n m v W h
  have HFL : Hid (∀ (s : Bool) (W : World) (v : Value), RV W v s a.x a.y → Calls Tryd.prog 42 #[v] W (RVPost W (s && decide (0 < flo s a.x a.y)) (flo s a.x a.y) 1)) := fun s W v h => rfloor_any s a.x a.y v W h HL.out.2 (by have := HL.out; omega) (by have := HL.out; omega)
  have HWK : Hid (∀ (s : Bool) (n : Nat) (W : World) (v : Value), Nat16 W v n → Calls Tryd.prog 40 #[.bool s, v] W (RVPost W (s && decide (0 < n)) n 1)) := fun s n W v h => rwhole_any s n v W h
  have HDV : Hid (∀ (n m : Nat), 0 < m → (digs W16 n).length ≤ 10000 → (digs W16 m).length ≤ 10000 → ∀ (W : World) (u v : Value), Nat16 W u n → Nat16 W v m → Calls Tryd.prog 43 #[u, v] W (RPost2 W (n / m) (n % m))) := fun n m h0 h1 h2 W u v ha hb => rdiv_any n m u v W ha hb h0 (by omega) (by omega)
  have hfq : ∀ s : Bool, (digs W16 (flo s a.x a.y)).length ≤ 300 := fun s => by
    have : flo s a.x a.y ≤ a.x + 1 := by unfold flo; have := Nat.div_le_self a.x a.y; split <;> omega
    exact Nat.le_trans (digs_len_mono W16_gt this) (Nat.le_trans (digs16_add HL.out.1.1 (by rw [digs_one16]; decide)) (by omega))
  have HFQ := Lib.hid hfq
  rw [e0] at HCK
  have HMD : Hid (∀ (W : World) (v : Value), RV W v false a.x a.y → Calls Tryd.prog 37 #[v] W (SPost W (absS a))) := fun W v h => by
    unfold absS
    rw [e0, LN.one HO.out e0]
    exact HMK.out _ _ _ (by have := HL.out; omega) (by have := HL.out; omega) W v h
  generalize absS a = r at *
  clear e0 p1 p2 p3 p4 hcan hbd hfq
  go_enter Tryd.func14, Tryd.ntmps14
  go_wp2_with fail
  refine (HCK.out _ _ (by exact GA.out)).mono ?_
  rintro e w1 ⟨rfl, hb⟩
  have KA := Lib.hid (KA.out.to hb)
  have KC := Lib.hid (KC.out.to hb)
  have GA := Lib.hid (GA.out.to hb)
  have HBE : Hid (Below w.heap.size w w1) := HBE.out.trans ((hb).mono HBE.out.size)
  clear hb
  have ka0 := KA.out.cell 0
  have ka1 := KA.out.cell 1
  have ka2 := KA.out.cell 2
  simp only [List.getElem?_toArray, List.getElem?_cons_zero, List.getElem?_cons_succ] at ka0 ka1 ka2
  go_wp2_with fail
  refine (HOF.out _ _ (by exact GA.out)).mono ?_
  rintro e w2 ⟨v, rfl, hr, hb⟩
  clear ka0 ka1 ka2
  have KA := Lib.hid (KA.out.to hb)
  have KC := Lib.hid (KC.out.to hb)
  have GA := Lib.hid (GA.out.to hb)
  have HBE : Hid (Below w.heap.size w w2) := HBE.out.trans ((hb).mono HBE.out.size)
  clear hb
  obtain ⟨Ar, nr, cr, Br, mr, dr, rfl, hq1, hq2⟩ := hr.form
  have Gr := Lib.hid hr
  clear hq1 hq2 hr
  have kc0 := KC.out.cell 0
  have kc1 := KC.out.cell 1
  have kc2 := KC.out.cell 2
  simp only [List.getElem?_toArray, List.getElem?_cons_zero, List.getElem?_cons_succ] at kc0 kc1 kc2
  have ltKAKR := KA.out.lt
  have ltKCKR := KC.out.lt
  have KRN := Lib.hid (Blk.new w2 60 #[.bool a.neg, .slice Ar nr cr, .slice Br mr dr])
  have KA := Lib.hid (KA.out.to (below_one w2 (.cells #[.bool a.neg, .slice Ar nr cr, .slice Br mr dr] 60)))
  have KC := Lib.hid (KC.out.to (below_one w2 (.cells #[.bool a.neg, .slice Ar nr cr, .slice Br mr dr] 60)))
  have GA := Lib.hid (GA.out.to (below_one w2 (.cells #[.bool a.neg, .slice Ar nr cr, .slice Br mr dr] 60)))
  have Gr := Lib.hid (Gr.out.to (below_one w2 (.cells #[.bool a.neg, .slice Ar nr cr, .slice Br mr dr] 60)))
  have HBE : Hid (Below w.heap.size w (w2.alloc (.cells #[.bool a.neg, .slice Ar nr cr, .slice Br mr dr] 60))) := HBE.out.trans (((below_one w2 (.cells #[.bool a.neg, .slice Ar nr cr, .slice Br mr dr] 60))).mono HBE.out.size)
  have KR := KRN
  clear KRN
  have neKAKR : (w.heap.size = w2.heap.size) = False := eq_false (by omega)
  have neKRKA : (w2.heap.size = w.heap.size) = False := eq_false (by omega)
  have neKCKR : (w.heap.size + 1 = w2.heap.size) = False := eq_false (by omega)
  have neKRKC : (w2.heap.size = w.heap.size + 1) = False := eq_false (by omega)
  have kr0 := KR.out.cell 0
  have kr1 := KR.out.cell 1
  have kr2 := KR.out.cell 2
  simp only [List.getElem?_toArray, List.getElem?_cons_zero, List.getElem?_cons_succ] at kr0 kr1 kr2
  go_wp2_with fail
  refine (HMD.out _ _ (by exact ⟨_, _, rfl, Gr.out.parts.2.1, Gr.out.parts.2.2⟩)).mono ?_
  rintro e w3 ⟨v, rfl, hg, hb⟩
  clear kc0 kc1 kc2 kr0 kr1 kr2
  have KA := Lib.hid (KA.out.to hb)
  have KC := Lib.hid (KC.out.to hb)
  have KR := Lib.hid (KR.out.to hb)
  have GA := Lib.hid (GA.out.to hb)
  have Gr := Lib.hid (Gr.out.to hb)
  have HBE : Hid (Below w.heap.size w w3) := HBE.out.trans ((hb).mono HBE.out.size)
  clear hb
  obtain ⟨Az, nz, cz, Bz, mz, dz, rfl, hq1, hq2⟩ := hg.form
  have Gz := Lib.hid hg
  clear hq1 hq2 hg
  have kc0 := KC.out.cell 0
  have kc1 := KC.out.cell 1
  have kc2 := KC.out.cell 2
  simp only [List.getElem?_toArray, List.getElem?_cons_zero, List.getElem?_cons_succ] at kc0 kc1 kc2
  have fzkc0 := KC.out.frozen 0
  have fzkc1 := KC.out.frozen 1
  have fzkc2 := KC.out.frozen 2
  go_wp2_with fail
  refine bodyPost_ret (v := .tuple #[.agg #[.bool r.1.neg, .slice Az nz cz, .slice Bz mz dz], .int .i64 r.2]) (by rw [results_cell_tmp rfl]; go_simp) rfl ?_
  exact ⟨_, rfl, Gz.out.putM KC.out _ _ _, put3_below HBE.out (by omega) _ _ _⟩

set_option maxRecDepth 1000000 in
set_option maxHeartbeats 12800000 in
theorem rone_s (a : LN) (va : Value) (w : World) (ga : GV w va a) : Calls Tryd.prog 14 #[.int .u8 115, va] w (SPost w (rootS a)) := by
  have HO := Lib.hid ga.ok
  have hbd : 0 ≤ a.err ∧ a.err ≤ 3 := checkL_bd _ _ _
  have HCK := Lib.hid (fun (W : World) (u : Value) (h : GV W u a) => fault_S a u W h)
  obtain ⟨B1, m1, d1, B2, m2, d2, rfl, hq1, hq2⟩ := ga.form
  clear hq1 hq2
  have KA := Lib.hid ((blk2 w 24 24 #[.bool a.neg, .slice B1 m1 d1, .slice B2 m2 d2] #[.bool false, .slice none 0 0, .slice none 0 0]).1)
  have KC := Lib.hid ((blk2 w 24 24 #[.bool a.neg, .slice B1 m1 d1, .slice B2 m2 d2] #[.bool false, .slice none 0 0, .slice none 0 0]).2)
  have GA := Lib.hid (ga.to (below_two w (.cells #[.bool a.neg, .slice B1 m1 d1, .slice B2 m2 d2] 24) (.cells #[.bool false, .slice none 0 0, .slice none 0 0] 24)))
  have HBE := Lib.hid (below_two w (.cells #[.bool a.neg, .slice B1 m1 d1, .slice B2 m2 d2] 24) (.cells #[.bool false, .slice none 0 0, .slice none 0 0] 24))
  clear ga
  by_cases e0 : a.err = 0
  rotate_left
  · have b0 : (a.err != 0) = true := by rw [bne_iff_ne]; exact e0
    have HRE : Hid (rootS a = (zeroL, a.err)) := by unfold Hid rootS intErr; rw [if_neg e0, if_neg e0]
    generalize rootS a = r at *
    generalize a.err = z at *
    clear e0
    go_enter Tryd.func14, Tryd.ntmps14
    go_wp2_with fail
    refine (HCK.out _ _ (by exact GA.out)).mono ?_
    rintro e w1 ⟨rfl, hb⟩
    have KA := Lib.hid (KA.out.to hb)
    have KC := Lib.hid (KC.out.to hb)
    have GA := Lib.hid (GA.out.to hb)
    have HBE : Hid (Below w.heap.size w w1) := HBE.out.trans ((hb).mono HBE.out.size)
    clear hb
    have kc0 := KC.out.cell 0
    have kc1 := KC.out.cell 1
    have kc2 := KC.out.cell 2
    simp only [List.getElem?_toArray, List.getElem?_cons_zero, List.getElem?_cons_succ] at kc0 kc1 kc2
    have fzkc0 := KC.out.frozen 0
    have fzkc1 := KC.out.frozen 1
    have fzkc2 := KC.out.frozen 2
    go_wp2_with fail
    refine bodyPost_ret (v := .tuple #[zeroNum, .int .i64 z]) (by rw [results_cell_tmp rfl]; go_simp; rfl) rfl ?_
    rw [HRE.out]
    exact ⟨_, rfl, GV.zero _, put3_below HBE.out (by omega) _ _ _⟩
  obtain ⟨p1, p2, p3, p4, hcan⟩ := LN.good HO.out e0
  have HOF : Hid (∀ (W : World) (u : Value), GV W u a → Calls Tryd.prog 36 #[u] W (RVPost W a.neg a.x a.y)) := fun W u h => rof_any a u W h (by omega) (by omega)
  have HL : Hid (((digs W16 a.x).length ≤ 256 ∧ (digs W16 a.y).length ≤ 256) ∧ 0 < a.y) := ⟨LN.len16 HO.out e0, hcan.1⟩
  have HMK : Hid (∀ (s : Bool) (n m : Nat), (digs W16 n).length ≤ 10000 → (digs W16 m).length ≤ 10000 → ∀ (W : World) (v : Value), RV W v s n m → Calls Tryd.prog 37 #[v] W (SPost W (opS 0 s n m))) := fun s n m h1 h2 W v h => rmade_S2 s n m v W h (by omega) (by omega)
  have HMI : Hid (∀ (s : Bool) (n m : Nat) (W : World) (v : Value), RV W v s n m → Calls Tryd.prog 38 #[v] W (RVPost W (!s && decide (0 < n)) n m)) := fun s n m W v h => rminus_any s n m v W h
  have HFL : Hid (∀ (s : Bool) (W : World) (v : Value), RV W v s a.x a.y → Calls Tryd.prog 42 #[v] W (RVPost W (s && decide (0 < flo s a.x a.y)) (flo s a.x a.y) 1)) := fun s W v h => rfloor_any s a.x a.y v W h HL.out.2 (by have := HL.out; omega) (by have := HL.out; omega)
  have HWK : Hid (∀ (s : Bool) (n : Nat) (W : World) (v : Value), Nat16 W v n → Calls Tryd.prog 40 #[.bool s, v] W (RVPost W (s && decide (0 < n)) n 1)) := fun s n W v h => rwhole_any s n v W h
  have HDV : Hid (∀ (n m : Nat), 0 < m → (digs W16 n).length ≤ 10000 → (digs W16 m).length ≤ 10000 → ∀ (W : World) (u v : Value), Nat16 W u n → Nat16 W v m → Calls Tryd.prog 43 #[u, v] W (RPost2 W (n / m) (n % m))) := fun n m h0 h1 h2 W u v ha hb => rdiv_any n m u v W ha hb h0 (by omega) (by omega)
  have hfq : ∀ s : Bool, (digs W16 (flo s a.x a.y)).length ≤ 300 := fun s => by
    have : flo s a.x a.y ≤ a.x + 1 := by unfold flo; have := Nat.div_le_self a.x a.y; split <;> omega
    exact Nat.le_trans (digs_len_mono W16_gt this) (Nat.le_trans (digs16_add HL.out.1.1 (by rw [digs_one16]; decide)) (by omega))
  have HFQ := Lib.hid hfq
  rw [e0] at HCK
  by_cases hy : a.y = 1
  rotate_left
  · have HRE : Hid (rootS a = (zeroL, 7)) := by unfold Hid rootS intErr; rw [if_pos e0, if_neg hy]; rfl
    have HII : Hid (∀ (W : World) (v : Value), RV W v a.neg a.x a.y → Calls Tryd.prog 39 #[v] W fun e w' => e = .returned (.bool false) ∧ Below W.heap.size W w') := fun W v h => by
      have := risInt_any a.neg a.x a.y v W h (by have := HL.out; omega)
      rw [cmpI_one_false hy] at this
      exact this
    generalize rootS a = r at *
    clear hy
    clear e0 p1 p2 p3 p4 hcan hbd hfq
    go_enter Tryd.func14, Tryd.ntmps14
    go_wp2_with fail
    refine (HCK.out _ _ (by exact GA.out)).mono ?_
    rintro e w1 ⟨rfl, hb⟩
    have KA := Lib.hid (KA.out.to hb)
    have KC := Lib.hid (KC.out.to hb)
    have GA := Lib.hid (GA.out.to hb)
    have HBE : Hid (Below w.heap.size w w1) := HBE.out.trans ((hb).mono HBE.out.size)
    clear hb
    have ka0 := KA.out.cell 0
    have ka1 := KA.out.cell 1
    have ka2 := KA.out.cell 2
    simp only [List.getElem?_toArray, List.getElem?_cons_zero, List.getElem?_cons_succ] at ka0 ka1 ka2
    go_wp2_with fail
    refine (HOF.out _ _ (by exact GA.out)).mono ?_
    rintro e w2 ⟨v, rfl, hr, hb⟩
    clear ka0 ka1 ka2
    have KA := Lib.hid (KA.out.to hb)
    have KC := Lib.hid (KC.out.to hb)
    have GA := Lib.hid (GA.out.to hb)
    have HBE : Hid (Below w.heap.size w w2) := HBE.out.trans ((hb).mono HBE.out.size)
    clear hb
    obtain ⟨Ar, nr, cr, Br, mr, dr, rfl, hq1, hq2⟩ := hr.form
    have Gr := Lib.hid hr
    clear hq1 hq2 hr
    have kc0 := KC.out.cell 0
    have kc1 := KC.out.cell 1
    have kc2 := KC.out.cell 2
    simp only [List.getElem?_toArray, List.getElem?_cons_zero, List.getElem?_cons_succ] at kc0 kc1 kc2
    have ltKAKR := KA.out.lt
    have ltKCKR := KC.out.lt
    have KRN := Lib.hid (Blk.new w2 60 #[.bool a.neg, .slice Ar nr cr, .slice Br mr dr])
    have KA := Lib.hid (KA.out.to (below_one w2 (.cells #[.bool a.neg, .slice Ar nr cr, .slice Br mr dr] 60)))
    have KC := Lib.hid (KC.out.to (below_one w2 (.cells #[.bool a.neg, .slice Ar nr cr, .slice Br mr dr] 60)))
    have GA := Lib.hid (GA.out.to (below_one w2 (.cells #[.bool a.neg, .slice Ar nr cr, .slice Br mr dr] 60)))
    have Gr := Lib.hid (Gr.out.to (below_one w2 (.cells #[.bool a.neg, .slice Ar nr cr, .slice Br mr dr] 60)))
    have HBE : Hid (Below w.heap.size w (w2.alloc (.cells #[.bool a.neg, .slice Ar nr cr, .slice Br mr dr] 60))) := HBE.out.trans (((below_one w2 (.cells #[.bool a.neg, .slice Ar nr cr, .slice Br mr dr] 60))).mono HBE.out.size)
    have KR := KRN
    clear KRN
    have neKAKR : (w.heap.size = w2.heap.size) = False := eq_false (by omega)
    have neKRKA : (w2.heap.size = w.heap.size) = False := eq_false (by omega)
    have neKCKR : (w.heap.size + 1 = w2.heap.size) = False := eq_false (by omega)
    have neKRKC : (w2.heap.size = w.heap.size + 1) = False := eq_false (by omega)
    have kr0 := KR.out.cell 0
    have kr1 := KR.out.cell 1
    have kr2 := KR.out.cell 2
    simp only [List.getElem?_toArray, List.getElem?_cons_zero, List.getElem?_cons_succ] at kr0 kr1 kr2
    go_wp2_with fail
    refine (HII.out _ _ (by exact Gr.out)).mono ?_
    rintro e w3 ⟨rfl, hb⟩
    clear kc0 kc1 kc2 kr0 kr1 kr2
    have KA := Lib.hid (KA.out.to hb)
    have KC := Lib.hid (KC.out.to hb)
    have KR := Lib.hid (KR.out.to hb)
    have GA := Lib.hid (GA.out.to hb)
    have Gr := Lib.hid (Gr.out.to hb)
    have HBE : Hid (Below w.heap.size w w3) := HBE.out.trans ((hb).mono HBE.out.size)
    clear hb
    have kc0 := KC.out.cell 0
    have kc1 := KC.out.cell 1
    have kc2 := KC.out.cell 2
    simp only [List.getElem?_toArray, List.getElem?_cons_zero, List.getElem?_cons_succ] at kc0 kc1 kc2
    have fzkc0 := KC.out.frozen 0
    have fzkc1 := KC.out.frozen 1
    have fzkc2 := KC.out.frozen 2
    go_wp2_with fail
    refine bodyPost_ret (v := .tuple #[zeroNum, .int .i64 7]) (by rw [results_cell_tmp rfl]; go_simp; rfl) rfl ?_
    rw [HRE.out]
    exact ⟨_, rfl, GV.zero _, put3_below HBE.out (by omega) _ _ _⟩
  have HII : Hid (∀ (W : World) (v : Value), RV W v a.neg a.x a.y → Calls Tryd.prog 39 #[v] W fun e w' => e = .returned (.bool true) ∧ Below W.heap.size W w') := fun W v h => by
    have := risInt_any a.neg a.x a.y v W h (by have := HL.out; omega)
    rw [cmpI_one_true hy] at this
    exact this
  have hie : intErr a = 0 := intErr_zero.2 ⟨e0, hy⟩
  by_cases hn : a.neg = true
  · have HRE : Hid (rootS a = (zeroL, 1)) := by unfold Hid rootS; rw [if_pos hie, if_pos hn]
    have HNT := Lib.hid hn
    generalize rootS a = r at *
    clear hn hie hy
    clear e0 p1 p2 p3 p4 hcan hbd hfq
    go_enter Tryd.func14, Tryd.ntmps14
    go_wp2_with fail
    refine (HCK.out _ _ (by exact GA.out)).mono ?_
    rintro e w1 ⟨rfl, hb⟩
    have KA := Lib.hid (KA.out.to hb)
    have KC := Lib.hid (KC.out.to hb)
    have GA := Lib.hid (GA.out.to hb)
    have HBE : Hid (Below w.heap.size w w1) := HBE.out.trans ((hb).mono HBE.out.size)
    clear hb
    have ka0 := KA.out.cell 0
    have ka1 := KA.out.cell 1
    have ka2 := KA.out.cell 2
    simp only [List.getElem?_toArray, List.getElem?_cons_zero, List.getElem?_cons_succ] at ka0 ka1 ka2
    go_wp2_with fail
    refine (HOF.out _ _ (by exact GA.out)).mono ?_
    rintro e w2 ⟨v, rfl, hr, hb⟩
    clear ka0 ka1 ka2
    have KA := Lib.hid (KA.out.to hb)
    have KC := Lib.hid (KC.out.to hb)
    have GA := Lib.hid (GA.out.to hb)
    have HBE : Hid (Below w.heap.size w w2) := HBE.out.trans ((hb).mono HBE.out.size)
    clear hb
    obtain ⟨Ar, nr, cr, Br, mr, dr, rfl, hq1, hq2⟩ := hr.form
    have Gr := Lib.hid hr
    clear hq1 hq2 hr
    have kc0 := KC.out.cell 0
    have kc1 := KC.out.cell 1
    have kc2 := KC.out.cell 2
    simp only [List.getElem?_toArray, List.getElem?_cons_zero, List.getElem?_cons_succ] at kc0 kc1 kc2
    have ltKAKR := KA.out.lt
    have ltKCKR := KC.out.lt
    have KRN := Lib.hid (Blk.new w2 60 #[.bool a.neg, .slice Ar nr cr, .slice Br mr dr])
    have KA := Lib.hid (KA.out.to (below_one w2 (.cells #[.bool a.neg, .slice Ar nr cr, .slice Br mr dr] 60)))
    have KC := Lib.hid (KC.out.to (below_one w2 (.cells #[.bool a.neg, .slice Ar nr cr, .slice Br mr dr] 60)))
    have GA := Lib.hid (GA.out.to (below_one w2 (.cells #[.bool a.neg, .slice Ar nr cr, .slice Br mr dr] 60)))
    have Gr := Lib.hid (Gr.out.to (below_one w2 (.cells #[.bool a.neg, .slice Ar nr cr, .slice Br mr dr] 60)))
    have HBE : Hid (Below w.heap.size w (w2.alloc (.cells #[.bool a.neg, .slice Ar nr cr, .slice Br mr dr] 60))) := HBE.out.trans (((below_one w2 (.cells #[.bool a.neg, .slice Ar nr cr, .slice Br mr dr] 60))).mono HBE.out.size)
    have KR := KRN
    clear KRN
    have neKAKR : (w.heap.size = w2.heap.size) = False := eq_false (by omega)
    have neKRKA : (w2.heap.size = w.heap.size) = False := eq_false (by omega)
    have neKCKR : (w.heap.size + 1 = w2.heap.size) = False := eq_false (by omega)
    have neKRKC : (w2.heap.size = w.heap.size + 1) = False := eq_false (by omega)
    have kr0 := KR.out.cell 0
    have kr1 := KR.out.cell 1
    have kr2 := KR.out.cell 2
    simp only [List.getElem?_toArray, List.getElem?_cons_zero, List.getElem?_cons_succ] at kr0 kr1 kr2
    go_wp2_with fail
    refine (HII.out _ _ (by exact Gr.out)).mono ?_
    rintro e w3 ⟨rfl, hb⟩
    clear kc0 kc1 kc2 kr0 kr1 kr2
    have KA := Lib.hid (KA.out.to hb)
    have KC := Lib.hid (KC.out.to hb)
    have KR := Lib.hid (KR.out.to hb)
    have GA := Lib.hid (GA.out.to hb)
    have Gr := Lib.hid (Gr.out.to hb)
    have HBE : Hid (Below w.heap.size w w3) := HBE.out.trans ((hb).mono HBE.out.size)
    clear hb
    have kr0 := KR.out.cell 0
    have kr1 := KR.out.cell 1
    have kr2 := KR.out.cell 2
    simp only [List.getElem?_toArray, List.getElem?_cons_zero, List.getElem?_cons_succ] at kr0 kr1 kr2
    rw [HNT.out] at kr0
    have kc0 := KC.out.cell 0
    have kc1 := KC.out.cell 1
    have kc2 := KC.out.cell 2
    simp only [List.getElem?_toArray, List.getElem?_cons_zero, List.getElem?_cons_succ] at kc0 kc1 kc2
    have fzkc0 := KC.out.frozen 0
    have fzkc1 := KC.out.frozen 1
    have fzkc2 := KC.out.frozen 2
    go_wp2_with fail
    refine bodyPost_ret (v := .tuple #[zeroNum, .int .i64 1]) (by rw [results_cell_tmp rfl]; go_simp; rfl) rfl ?_
    rw [HRE.out]
    exact ⟨_, rfl, GV.zero _, put3_below HBE.out (by omega) _ _ _⟩
  have HNF : Hid (a.neg = false) := by simpa [Hid] using hn
  have HRT : Hid (∀ (W : World) (v : Value), Nat16 W v a.x → Calls Tryd.prog 41 #[v] W (RPost W (isqrt a.x))) := fun W v h => rroot_any a.x v W h HL.out.1.1
  have HMD : Hid (∀ (W : World) (v : Value), RV W v (false && decide (0 < isqrt a.x)) (isqrt a.x) 1 → Calls Tryd.prog 37 #[v] W (SPost W (rootS a))) := fun W v h => by
    unfold rootS
    rw [if_pos hie, if_neg hn, fracS_1]
    exact HMK.out _ _ _ (Nat.le_trans (digs_len_mono W16_gt (isqrt_le _)) (by have := HL.out; omega)) (by rw [digs_one16]; decide) W v h
  generalize rootS a = r at *
  generalize isqrt a.x = q at *
  clear hn hie hy
  clear e0 p1 p2 p3 p4 hcan hbd hfq
  go_enter Tryd.func14, Tryd.ntmps14
  go_wp2_with fail
  refine (HCK.out _ _ (by exact GA.out)).mono ?_
  rintro e w1 ⟨rfl, hb⟩
  have KA := Lib.hid (KA.out.to hb)
  have KC := Lib.hid (KC.out.to hb)
  have GA := Lib.hid (GA.out.to hb)
  have HBE : Hid (Below w.heap.size w w1) := HBE.out.trans ((hb).mono HBE.out.size)
  clear hb
  have ka0 := KA.out.cell 0
  have ka1 := KA.out.cell 1
  have ka2 := KA.out.cell 2
  simp only [List.getElem?_toArray, List.getElem?_cons_zero, List.getElem?_cons_succ] at ka0 ka1 ka2
  go_wp2_with fail
  refine (HOF.out _ _ (by exact GA.out)).mono ?_
  rintro e w2 ⟨v, rfl, hr, hb⟩
  clear ka0 ka1 ka2
  have KA := Lib.hid (KA.out.to hb)
  have KC := Lib.hid (KC.out.to hb)
  have GA := Lib.hid (GA.out.to hb)
  have HBE : Hid (Below w.heap.size w w2) := HBE.out.trans ((hb).mono HBE.out.size)
  clear hb
  obtain ⟨Ar, nr, cr, Br, mr, dr, rfl, hq1, hq2⟩ := hr.form
  have Gr := Lib.hid hr
  clear hq1 hq2 hr
  have kc0 := KC.out.cell 0
  have kc1 := KC.out.cell 1
  have kc2 := KC.out.cell 2
  simp only [List.getElem?_toArray, List.getElem?_cons_zero, List.getElem?_cons_succ] at kc0 kc1 kc2
  have ltKAKR := KA.out.lt
  have ltKCKR := KC.out.lt
  have KRN := Lib.hid (Blk.new w2 60 #[.bool a.neg, .slice Ar nr cr, .slice Br mr dr])
  have KA := Lib.hid (KA.out.to (below_one w2 (.cells #[.bool a.neg, .slice Ar nr cr, .slice Br mr dr] 60)))
  have KC := Lib.hid (KC.out.to (below_one w2 (.cells #[.bool a.neg, .slice Ar nr cr, .slice Br mr dr] 60)))
  have GA := Lib.hid (GA.out.to (below_one w2 (.cells #[.bool a.neg, .slice Ar nr cr, .slice Br mr dr] 60)))
  have Gr := Lib.hid (Gr.out.to (below_one w2 (.cells #[.bool a.neg, .slice Ar nr cr, .slice Br mr dr] 60)))
  have HBE : Hid (Below w.heap.size w (w2.alloc (.cells #[.bool a.neg, .slice Ar nr cr, .slice Br mr dr] 60))) := HBE.out.trans (((below_one w2 (.cells #[.bool a.neg, .slice Ar nr cr, .slice Br mr dr] 60))).mono HBE.out.size)
  have KR := KRN
  clear KRN
  have neKAKR : (w.heap.size = w2.heap.size) = False := eq_false (by omega)
  have neKRKA : (w2.heap.size = w.heap.size) = False := eq_false (by omega)
  have neKCKR : (w.heap.size + 1 = w2.heap.size) = False := eq_false (by omega)
  have neKRKC : (w2.heap.size = w.heap.size + 1) = False := eq_false (by omega)
  have kr0 := KR.out.cell 0
  have kr1 := KR.out.cell 1
  have kr2 := KR.out.cell 2
  simp only [List.getElem?_toArray, List.getElem?_cons_zero, List.getElem?_cons_succ] at kr0 kr1 kr2
  go_wp2_with fail
  refine (HII.out _ _ (by exact Gr.out)).mono ?_
  rintro e w3 ⟨rfl, hb⟩
  clear kc0 kc1 kc2 kr0 kr1 kr2
  have KA := Lib.hid (KA.out.to hb)
  have KC := Lib.hid (KC.out.to hb)
  have KR := Lib.hid (KR.out.to hb)
  have GA := Lib.hid (GA.out.to hb)
  have Gr := Lib.hid (Gr.out.to hb)
  have HBE : Hid (Below w.heap.size w w3) := HBE.out.trans ((hb).mono HBE.out.size)
  clear hb
  have kr0 := KR.out.cell 0
  have kr1 := KR.out.cell 1
  have kr2 := KR.out.cell 2
  simp only [List.getElem?_toArray, List.getElem?_cons_zero, List.getElem?_cons_succ] at kr0 kr1 kr2
  rw [HNF.out] at kr0
  go_wp2_with fail
  refine (HRT.out _ _ (by exact Gr.out.parts.2.1)).mono ?_
  rintro e w4 ⟨v, rfl, hn5, hb⟩
  clear kr0 kr1 kr2
  have KA := Lib.hid (KA.out.to hb)
  have KC := Lib.hid (KC.out.to hb)
  have KR := Lib.hid (KR.out.to hb)
  have GA := Lib.hid (GA.out.to hb)
  have Gr := Lib.hid (Gr.out.to hb)
  have HBE : Hid (Below w.heap.size w w4) := HBE.out.trans ((hb).mono HBE.out.size)
  clear hb
  have N5 := Lib.hid hn5
  clear hn5
  go_wp2_with fail
  refine (HWK.out false _ _ _ (by exact N5.out)).mono ?_
  rintro e w5 ⟨v, rfl, hr6, hb⟩
  have KA := Lib.hid (KA.out.to hb)
  have KC := Lib.hid (KC.out.to hb)
  have KR := Lib.hid (KR.out.to hb)
  have GA := Lib.hid (GA.out.to hb)
  have Gr := Lib.hid (Gr.out.to hb)
  have N5 := Lib.hid (N5.out.to hb)
  have HBE : Hid (Below w.heap.size w w5) := HBE.out.trans ((hb).mono HBE.out.size)
  clear hb
  have R6 := Lib.hid hr6
  clear hr6
  go_wp2_with fail
  refine (HMD.out _ _ (by exact R6.out)).mono ?_
  rintro e w6 ⟨v, rfl, hg, hb⟩
  have KA := Lib.hid (KA.out.to hb)
  have KC := Lib.hid (KC.out.to hb)
  have KR := Lib.hid (KR.out.to hb)
  have GA := Lib.hid (GA.out.to hb)
  have Gr := Lib.hid (Gr.out.to hb)
  have N5 := Lib.hid (N5.out.to hb)
  have R6 := Lib.hid (R6.out.to hb)
  have HBE : Hid (Below w.heap.size w w6) := HBE.out.trans ((hb).mono HBE.out.size)
  clear hb
  obtain ⟨Az, nz, cz, Bz, mz, dz, rfl, hq1, hq2⟩ := hg.form
  have Gz := Lib.hid hg
  clear hq1 hq2 hg
  have kc0 := KC.out.cell 0
  have kc1 := KC.out.cell 1
  have kc2 := KC.out.cell 2
  simp only [List.getElem?_toArray, List.getElem?_cons_zero, List.getElem?_cons_succ] at kc0 kc1 kc2
  have fzkc0 := KC.out.frozen 0
  have fzkc1 := KC.out.frozen 1
  have fzkc2 := KC.out.frozen 2
  go_wp2_with fail
  refine bodyPost_ret (v := .tuple #[.agg #[.bool r.1.neg, .slice Az nz cz, .slice Bz mz dz], .int .i64 r.2]) (by rw [results_cell_tmp rfl]; go_simp) rfl ?_
  exact ⟨_, rfl, Gz.out.putM KC.out _ _ _, put3_below HBE.out (by omega) _ _ _⟩

set_option maxRecDepth 1000000 in
set_option maxHeartbeats 12800000 in
theorem rone_f (a : LN) (va : Value) (w : World) (ga : GV w va a) : Calls Tryd.prog 14 #[.int .u8 102, va] w (SPost w (roundS 1 a)) := by
  have HO := Lib.hid ga.ok
  have hbd : 0 ≤ a.err ∧ a.err ≤ 3 := checkL_bd _ _ _
  have HCK := Lib.hid (fun (W : World) (u : Value) (h : GV W u a) => fault_S a u W h)
  obtain ⟨B1, m1, d1, B2, m2, d2, rfl, hq1, hq2⟩ := ga.form
  clear hq1 hq2
  have KA := Lib.hid ((blk2 w 24 24 #[.bool a.neg, .slice B1 m1 d1, .slice B2 m2 d2] #[.bool false, .slice none 0 0, .slice none 0 0]).1)
  have KC := Lib.hid ((blk2 w 24 24 #[.bool a.neg, .slice B1 m1 d1, .slice B2 m2 d2] #[.bool false, .slice none 0 0, .slice none 0 0]).2)
  have GA := Lib.hid (ga.to (below_two w (.cells #[.bool a.neg, .slice B1 m1 d1, .slice B2 m2 d2] 24) (.cells #[.bool false, .slice none 0 0, .slice none 0 0] 24)))
  have HBE := Lib.hid (below_two w (.cells #[.bool a.neg, .slice B1 m1 d1, .slice B2 m2 d2] 24) (.cells #[.bool false, .slice none 0 0, .slice none 0 0] 24))
  clear ga
  by_cases e0 : a.err = 0
  rotate_left
  · have b0 : (a.err != 0) = true := by rw [bne_iff_ne]; exact e0
    have HRE : Hid (roundS 1 a = (zeroL, a.err)) := by unfold Hid roundS; rw [if_neg e0]
    generalize roundS 1 a = r at *
    generalize a.err = z at *
    clear e0
    go_enter Tryd.func14, Tryd.ntmps14
    go_wp2_with fail
    refine (HCK.out _ _ (by exact GA.out)).mono ?_
    rintro e w1 ⟨rfl, hb⟩
    have KA := Lib.hid (KA.out.to hb)
    have KC := Lib.hid (KC.out.to hb)
    have GA := Lib.hid (GA.out.to hb)
    have HBE : Hid (Below w.heap.size w w1) := HBE.out.trans ((hb).mono HBE.out.size)
    clear hb
    have kc0 := KC.out.cell 0
    have kc1 := KC.out.cell 1
    have kc2 := KC.out.cell 2
    simp only [List.getElem?_toArray, List.getElem?_cons_zero, List.getElem?_cons_succ] at kc0 kc1 kc2
    have fzkc0 := KC.out.frozen 0
    have fzkc1 := KC.out.frozen 1
    have fzkc2 := KC.out.frozen 2
    go_wp2_with fail
    refine bodyPost_ret (v := .tuple #[zeroNum, .int .i64 z]) (by rw [results_cell_tmp rfl]; go_simp; rfl) rfl ?_
    rw [HRE.out]
    exact ⟨_, rfl, GV.zero _, put3_below HBE.out (by omega) _ _ _⟩
  obtain ⟨p1, p2, p3, p4, hcan⟩ := LN.good HO.out e0
  have HOF : Hid (∀ (W : World) (u : Value), GV W u a → Calls Tryd.prog 36 #[u] W (RVPost W a.neg a.x a.y)) := fun W u h => rof_any a u W h (by omega) (by omega)
  have HL : Hid (((digs W16 a.x).length ≤ 256 ∧ (digs W16 a.y).length ≤ 256) ∧ 0 < a.y) := ⟨LN.len16 HO.out e0, hcan.1⟩
  have HMK : Hid (∀ (s : Bool) (n m : Nat), (digs W16 n).length ≤ 10000 → (digs W16 m).length ≤ 10000 → ∀ (W : World) (v : Value), RV W v s n m → Calls Tryd.prog 37 #[v] W (SPost W (opS 0 s n m))) := fun s n m h1 h2 W v h => rmade_S2 s n m v W h (by omega) (by omega)
  have HMI : Hid (∀ (s : Bool) (n m : Nat) (W : World) (v : Value), RV W v s n m → Calls Tryd.prog 38 #[v] W (RVPost W (!s && decide (0 < n)) n m)) := fun s n m W v h => rminus_any s n m v W h
  have HFL : Hid (∀ (s : Bool) (W : World) (v : Value), RV W v s a.x a.y → Calls Tryd.prog 42 #[v] W (RVPost W (s && decide (0 < flo s a.x a.y)) (flo s a.x a.y) 1)) := fun s W v h => rfloor_any s a.x a.y v W h HL.out.2 (by have := HL.out; omega) (by have := HL.out; omega)
  have HWK : Hid (∀ (s : Bool) (n : Nat) (W : World) (v : Value), Nat16 W v n → Calls Tryd.prog 40 #[.bool s, v] W (RVPost W (s && decide (0 < n)) n 1)) := fun s n W v h => rwhole_any s n v W h
  have HDV : Hid (∀ (n m : Nat), 0 < m → (digs W16 n).length ≤ 10000 → (digs W16 m).length ≤ 10000 → ∀ (W : World) (u v : Value), Nat16 W u n → Nat16 W v m → Calls Tryd.prog 43 #[u, v] W (RPost2 W (n / m) (n % m))) := fun n m h0 h1 h2 W u v ha hb => rdiv_any n m u v W ha hb h0 (by omega) (by omega)
  have hfq : ∀ s : Bool, (digs W16 (flo s a.x a.y)).length ≤ 300 := fun s => by
    have : flo s a.x a.y ≤ a.x + 1 := by unfold flo; have := Nat.div_le_self a.x a.y; split <;> omega
    exact Nat.le_trans (digs_len_mono W16_gt this) (Nat.le_trans (digs16_add HL.out.1.1 (by rw [digs_one16]; decide)) (by omega))
  have HFQ := Lib.hid hfq
  rw [e0] at HCK
  have HRR : Hid (roundS 1 a = opS 0 (a.neg && decide (0 < rnd 1 a)) (rnd 1 a) 1) := by unfold Hid roundS; rw [if_pos e0, if_pos (by decide), fracS_1]
  have HMD : Hid (∀ (W : World) (v : Value), RV W v (a.neg && decide (0 < flo a.neg a.x a.y)) (flo a.neg a.x a.y) 1 → Calls Tryd.prog 37 #[v] W (SPost W (roundS 1 a))) := fun W v h => by
    rw [HRR.out, show rnd 1 a = flo a.neg a.x a.y by unfold rnd; rw [if_pos rfl]]
    exact HMK.out _ _ _ (by have := HFQ.out a.neg; omega) (by rw [digs_one16]; decide) W v h
  generalize roundS 1 a = r at *
  clear e0 p1 p2 p3 p4 hcan hbd hfq
  go_enter Tryd.func14, Tryd.ntmps14
  go_wp2_with fail
  refine (HCK.out _ _ (by exact GA.out)).mono ?_
  rintro e w1 ⟨rfl, hb⟩
  have KA := Lib.hid (KA.out.to hb)
  have KC := Lib.hid (KC.out.to hb)
  have GA := Lib.hid (GA.out.to hb)
  have HBE : Hid (Below w.heap.size w w1) := HBE.out.trans ((hb).mono HBE.out.size)
  clear hb
  have ka0 := KA.out.cell 0
  have ka1 := KA.out.cell 1
  have ka2 := KA.out.cell 2
  simp only [List.getElem?_toArray, List.getElem?_cons_zero, List.getElem?_cons_succ] at ka0 ka1 ka2
  go_wp2_with fail
  refine (HOF.out _ _ (by exact GA.out)).mono ?_
  rintro e w2 ⟨v, rfl, hr, hb⟩
  clear ka0 ka1 ka2
  have KA := Lib.hid (KA.out.to hb)
  have KC := Lib.hid (KC.out.to hb)
  have GA := Lib.hid (GA.out.to hb)
  have HBE : Hid (Below w.heap.size w w2) := HBE.out.trans ((hb).mono HBE.out.size)
  clear hb
  obtain ⟨Ar, nr, cr, Br, mr, dr, rfl, hq1, hq2⟩ := hr.form
  have Gr := Lib.hid hr
  clear hq1 hq2 hr
  have kc0 := KC.out.cell 0
  have kc1 := KC.out.cell 1
  have kc2 := KC.out.cell 2
  simp only [List.getElem?_toArray, List.getElem?_cons_zero, List.getElem?_cons_succ] at kc0 kc1 kc2
  have ltKAKR := KA.out.lt
  have ltKCKR := KC.out.lt
  have KRN := Lib.hid (Blk.new w2 60 #[.bool a.neg, .slice Ar nr cr, .slice Br mr dr])
  have KA := Lib.hid (KA.out.to (below_one w2 (.cells #[.bool a.neg, .slice Ar nr cr, .slice Br mr dr] 60)))
  have KC := Lib.hid (KC.out.to (below_one w2 (.cells #[.bool a.neg, .slice Ar nr cr, .slice Br mr dr] 60)))
  have GA := Lib.hid (GA.out.to (below_one w2 (.cells #[.bool a.neg, .slice Ar nr cr, .slice Br mr dr] 60)))
  have Gr := Lib.hid (Gr.out.to (below_one w2 (.cells #[.bool a.neg, .slice Ar nr cr, .slice Br mr dr] 60)))
  have HBE : Hid (Below w.heap.size w (w2.alloc (.cells #[.bool a.neg, .slice Ar nr cr, .slice Br mr dr] 60))) := HBE.out.trans (((below_one w2 (.cells #[.bool a.neg, .slice Ar nr cr, .slice Br mr dr] 60))).mono HBE.out.size)
  have KR := KRN
  clear KRN
  have neKAKR : (w.heap.size = w2.heap.size) = False := eq_false (by omega)
  have neKRKA : (w2.heap.size = w.heap.size) = False := eq_false (by omega)
  have neKCKR : (w.heap.size + 1 = w2.heap.size) = False := eq_false (by omega)
  have neKRKC : (w2.heap.size = w.heap.size + 1) = False := eq_false (by omega)
  have kr0 := KR.out.cell 0
  have kr1 := KR.out.cell 1
  have kr2 := KR.out.cell 2
  simp only [List.getElem?_toArray, List.getElem?_cons_zero, List.getElem?_cons_succ] at kr0 kr1 kr2
  go_wp2_with fail
  refine (HFL.out _ _ _ (by exact Gr.out)).mono ?_
  rintro e w3 ⟨v, rfl, hr5, hb⟩
  clear kc0 kc1 kc2 kr0 kr1 kr2
  have KA := Lib.hid (KA.out.to hb)
  have KC := Lib.hid (KC.out.to hb)
  have KR := Lib.hid (KR.out.to hb)
  have GA := Lib.hid (GA.out.to hb)
  have Gr := Lib.hid (Gr.out.to hb)
  have HBE : Hid (Below w.heap.size w w3) := HBE.out.trans ((hb).mono HBE.out.size)
  clear hb
  have R5 := Lib.hid hr5
  clear hr5
  have kr0 := KR.out.cell 0
  have kr1 := KR.out.cell 1
  have kr2 := KR.out.cell 2
  simp only [List.getElem?_toArray, List.getElem?_cons_zero, List.getElem?_cons_succ] at kr0 kr1 kr2
  go_wp2_with fail
  refine (HMD.out _ _ (by exact R5.out)).mono ?_
  rintro e w4 ⟨v, rfl, hg, hb⟩
  clear kr0 kr1 kr2
  have KA := Lib.hid (KA.out.to hb)
  have KC := Lib.hid (KC.out.to hb)
  have KR := Lib.hid (KR.out.to hb)
  have GA := Lib.hid (GA.out.to hb)
  have Gr := Lib.hid (Gr.out.to hb)
  have R5 := Lib.hid (R5.out.to hb)
  have HBE : Hid (Below w.heap.size w w4) := HBE.out.trans ((hb).mono HBE.out.size)
  clear hb
  obtain ⟨Az, nz, cz, Bz, mz, dz, rfl, hq1, hq2⟩ := hg.form
  have Gz := Lib.hid hg
  clear hq1 hq2 hg
  have kc0 := KC.out.cell 0
  have kc1 := KC.out.cell 1
  have kc2 := KC.out.cell 2
  simp only [List.getElem?_toArray, List.getElem?_cons_zero, List.getElem?_cons_succ] at kc0 kc1 kc2
  have fzkc0 := KC.out.frozen 0
  have fzkc1 := KC.out.frozen 1
  have fzkc2 := KC.out.frozen 2
  go_wp2_with fail
  refine bodyPost_ret (v := .tuple #[.agg #[.bool r.1.neg, .slice Az nz cz, .slice Bz mz dz], .int .i64 r.2]) (by rw [results_cell_tmp rfl]; go_simp) rfl ?_
  exact ⟨_, rfl, Gz.out.putM KC.out _ _ _, put3_below HBE.out (by omega) _ _ _⟩

set_option maxRecDepth 1000000 in
set_option maxHeartbeats 12800000 in
theorem rone_c (a : LN) (va : Value) (w : World) (ga : GV w va a) : Calls Tryd.prog 14 #[.int .u8 99, va] w (SPost w (roundS 2 a)) := by
  have HO := Lib.hid ga.ok
  have hbd : 0 ≤ a.err ∧ a.err ≤ 3 := checkL_bd _ _ _
  have HCK := Lib.hid (fun (W : World) (u : Value) (h : GV W u a) => fault_S a u W h)
  obtain ⟨B1, m1, d1, B2, m2, d2, rfl, hq1, hq2⟩ := ga.form
  clear hq1 hq2
  have KA := Lib.hid ((blk2 w 24 24 #[.bool a.neg, .slice B1 m1 d1, .slice B2 m2 d2] #[.bool false, .slice none 0 0, .slice none 0 0]).1)
  have KC := Lib.hid ((blk2 w 24 24 #[.bool a.neg, .slice B1 m1 d1, .slice B2 m2 d2] #[.bool false, .slice none 0 0, .slice none 0 0]).2)
  have GA := Lib.hid (ga.to (below_two w (.cells #[.bool a.neg, .slice B1 m1 d1, .slice B2 m2 d2] 24) (.cells #[.bool false, .slice none 0 0, .slice none 0 0] 24)))
  have HBE := Lib.hid (below_two w (.cells #[.bool a.neg, .slice B1 m1 d1, .slice B2 m2 d2] 24) (.cells #[.bool false, .slice none 0 0, .slice none 0 0] 24))
  clear ga
  by_cases e0 : a.err = 0
  rotate_left
  · have b0 : (a.err != 0) = true := by rw [bne_iff_ne]; exact e0
    have HRE : Hid (roundS 2 a = (zeroL, a.err)) := by unfold Hid roundS; rw [if_neg e0]
    generalize roundS 2 a = r at *
    generalize a.err = z at *
    clear e0
    go_enter Tryd.func14, Tryd.ntmps14
    go_wp2_with fail
    refine (HCK.out _ _ (by exact GA.out)).mono ?_
    rintro e w1 ⟨rfl, hb⟩
    have KA := Lib.hid (KA.out.to hb)
    have KC := Lib.hid (KC.out.to hb)
    have GA := Lib.hid (GA.out.to hb)
    have HBE : Hid (Below w.heap.size w w1) := HBE.out.trans ((hb).mono HBE.out.size)
    clear hb
    have kc0 := KC.out.cell 0
    have kc1 := KC.out.cell 1
    have kc2 := KC.out.cell 2
    simp only [List.getElem?_toArray, List.getElem?_cons_zero, List.getElem?_cons_succ] at kc0 kc1 kc2
    have fzkc0 := KC.out.frozen 0
    have fzkc1 := KC.out.frozen 1
    have fzkc2 := KC.out.frozen 2
    go_wp2_with fail
    refine bodyPost_ret (v := .tuple #[zeroNum, .int .i64 z]) (by rw [results_cell_tmp rfl]; go_simp; rfl) rfl ?_
    rw [HRE.out]
    exact ⟨_, rfl, GV.zero _, put3_below HBE.out (by omega) _ _ _⟩
  obtain ⟨p1, p2, p3, p4, hcan⟩ := LN.good HO.out e0
  have HOF : Hid (∀ (W : World) (u : Value), GV W u a → Calls Tryd.prog 36 #[u] W (RVPost W a.neg a.x a.y)) := fun W u h => rof_any a u W h (by omega) (by omega)
  have HL : Hid (((digs W16 a.x).length ≤ 256 ∧ (digs W16 a.y).length ≤ 256) ∧ 0 < a.y) := ⟨LN.len16 HO.out e0, hcan.1⟩
  have HMK : Hid (∀ (s : Bool) (n m : Nat), (digs W16 n).length ≤ 10000 → (digs W16 m).length ≤ 10000 → ∀ (W : World) (v : Value), RV W v s n m → Calls Tryd.prog 37 #[v] W (SPost W (opS 0 s n m))) := fun s n m h1 h2 W v h => rmade_S2 s n m v W h (by omega) (by omega)
  have HMI : Hid (∀ (s : Bool) (n m : Nat) (W : World) (v : Value), RV W v s n m → Calls Tryd.prog 38 #[v] W (RVPost W (!s && decide (0 < n)) n m)) := fun s n m W v h => rminus_any s n m v W h
  have HFL : Hid (∀ (s : Bool) (W : World) (v : Value), RV W v s a.x a.y → Calls Tryd.prog 42 #[v] W (RVPost W (s && decide (0 < flo s a.x a.y)) (flo s a.x a.y) 1)) := fun s W v h => rfloor_any s a.x a.y v W h HL.out.2 (by have := HL.out; omega) (by have := HL.out; omega)
  have HWK : Hid (∀ (s : Bool) (n : Nat) (W : World) (v : Value), Nat16 W v n → Calls Tryd.prog 40 #[.bool s, v] W (RVPost W (s && decide (0 < n)) n 1)) := fun s n W v h => rwhole_any s n v W h
  have HDV : Hid (∀ (n m : Nat), 0 < m → (digs W16 n).length ≤ 10000 → (digs W16 m).length ≤ 10000 → ∀ (W : World) (u v : Value), Nat16 W u n → Nat16 W v m → Calls Tryd.prog 43 #[u, v] W (RPost2 W (n / m) (n % m))) := fun n m h0 h1 h2 W u v ha hb => rdiv_any n m u v W ha hb h0 (by omega) (by omega)
  have hfq : ∀ s : Bool, (digs W16 (flo s a.x a.y)).length ≤ 300 := fun s => by
    have : flo s a.x a.y ≤ a.x + 1 := by unfold flo; have := Nat.div_le_self a.x a.y; split <;> omega
    exact Nat.le_trans (digs_len_mono W16_gt this) (Nat.le_trans (digs16_add HL.out.1.1 (by rw [digs_one16]; decide)) (by omega))
  have HFQ := Lib.hid hfq
  rw [e0] at HCK
  have HRR : Hid (roundS 2 a = opS 0 (a.neg && decide (0 < rnd 2 a)) (rnd 2 a) 1) := by unfold Hid roundS; rw [if_pos e0, if_pos (by decide), fracS_1]
  have HMD : Hid (∀ (W : World) (v : Value), RV W v (!((!a.neg && decide (0 < a.x)) && decide (0 < flo (!a.neg && decide (0 < a.x)) a.x a.y)) && decide (0 < flo (!a.neg && decide (0 < a.x)) a.x a.y)) (flo (!a.neg && decide (0 < a.x)) a.x a.y) 1 → Calls Tryd.prog 37 #[v] W (SPost W (roundS 2 a))) := fun W v h => by
    rw [HRR.out, show rnd 2 a = flo (!a.neg) a.x a.y by unfold rnd; rw [if_neg (by decide), if_pos rfl]]
    rw [ceil_sign.1, ceil_sign.2] at h
    exact HMK.out _ _ _ (by have := HFQ.out (!a.neg); omega) (by rw [digs_one16]; decide) W v h
  generalize roundS 2 a = r at *
  clear e0 p1 p2 p3 p4 hcan hbd hfq
  go_enter Tryd.func14, Tryd.ntmps14
  go_wp2_with fail
  refine (HCK.out _ _ (by exact GA.out)).mono ?_
  rintro e w1 ⟨rfl, hb⟩
  have KA := Lib.hid (KA.out.to hb)
  have KC := Lib.hid (KC.out.to hb)
  have GA := Lib.hid (GA.out.to hb)
  have HBE : Hid (Below w.heap.size w w1) := HBE.out.trans ((hb).mono HBE.out.size)
  clear hb
  have ka0 := KA.out.cell 0
  have ka1 := KA.out.cell 1
  have ka2 := KA.out.cell 2
  simp only [List.getElem?_toArray, List.getElem?_cons_zero, List.getElem?_cons_succ] at ka0 ka1 ka2
  go_wp2_with fail
  refine (HOF.out _ _ (by exact GA.out)).mono ?_
  rintro e w2 ⟨v, rfl, hr, hb⟩
  clear ka0 ka1 ka2
  have KA := Lib.hid (KA.out.to hb)
  have KC := Lib.hid (KC.out.to hb)
  have GA := Lib.hid (GA.out.to hb)
  have HBE : Hid (Below w.heap.size w w2) := HBE.out.trans ((hb).mono HBE.out.size)
  clear hb
  obtain ⟨Ar, nr, cr, Br, mr, dr, rfl, hq1, hq2⟩ := hr.form
  have Gr := Lib.hid hr
  clear hq1 hq2 hr
  have kc0 := KC.out.cell 0
  have kc1 := KC.out.cell 1
  have kc2 := KC.out.cell 2
  simp only [List.getElem?_toArray, List.getElem?_cons_zero, List.getElem?_cons_succ] at kc0 kc1 kc2
  have ltKAKR := KA.out.lt
  have ltKCKR := KC.out.lt
  have KRN := Lib.hid (Blk.new w2 60 #[.bool a.neg, .slice Ar nr cr, .slice Br mr dr])
  have KA := Lib.hid (KA.out.to (below_one w2 (.cells #[.bool a.neg, .slice Ar nr cr, .slice Br mr dr] 60)))
  have KC := Lib.hid (KC.out.to (below_one w2 (.cells #[.bool a.neg, .slice Ar nr cr, .slice Br mr dr] 60)))
  have GA := Lib.hid (GA.out.to (below_one w2 (.cells #[.bool a.neg, .slice Ar nr cr, .slice Br mr dr] 60)))
  have Gr := Lib.hid (Gr.out.to (below_one w2 (.cells #[.bool a.neg, .slice Ar nr cr, .slice Br mr dr] 60)))
  have HBE : Hid (Below w.heap.size w (w2.alloc (.cells #[.bool a.neg, .slice Ar nr cr, .slice Br mr dr] 60))) := HBE.out.trans (((below_one w2 (.cells #[.bool a.neg, .slice Ar nr cr, .slice Br mr dr] 60))).mono HBE.out.size)
  have KR := KRN
  clear KRN
  have neKAKR : (w.heap.size = w2.heap.size) = False := eq_false (by omega)
  have neKRKA : (w2.heap.size = w.heap.size) = False := eq_false (by omega)
  have neKCKR : (w.heap.size + 1 = w2.heap.size) = False := eq_false (by omega)
  have neKRKC : (w2.heap.size = w.heap.size + 1) = False := eq_false (by omega)
  have kr0 := KR.out.cell 0
  have kr1 := KR.out.cell 1
  have kr2 := KR.out.cell 2
  simp only [List.getElem?_toArray, List.getElem?_cons_zero, List.getElem?_cons_succ] at kr0 kr1 kr2
  go_wp2_with fail
  refine (HMI.out _ _ _ _ _ (by exact Gr.out)).mono ?_
  rintro e w3 ⟨v, rfl, hr5, hb⟩
  clear kc0 kc1 kc2 kr0 kr1 kr2
  have KA := Lib.hid (KA.out.to hb)
  have KC := Lib.hid (KC.out.to hb)
  have KR := Lib.hid (KR.out.to hb)
  have GA := Lib.hid (GA.out.to hb)
  have Gr := Lib.hid (Gr.out.to hb)
  have HBE : Hid (Below w.heap.size w w3) := HBE.out.trans ((hb).mono HBE.out.size)
  clear hb
  have R5 := Lib.hid hr5
  clear hr5
  have kr0 := KR.out.cell 0
  have kr1 := KR.out.cell 1
  have kr2 := KR.out.cell 2
  simp only [List.getElem?_toArray, List.getElem?_cons_zero, List.getElem?_cons_succ] at kr0 kr1 kr2
  go_wp2_with fail
  refine (HFL.out _ _ _ (by exact R5.out)).mono ?_
  rintro e w4 ⟨v, rfl, hr6, hb⟩
  clear kr0 kr1 kr2
  have KA := Lib.hid (KA.out.to hb)
  have KC := Lib.hid (KC.out.to hb)
  have KR := Lib.hid (KR.out.to hb)
  have GA := Lib.hid (GA.out.to hb)
  have Gr := Lib.hid (Gr.out.to hb)
  have R5 := Lib.hid (R5.out.to hb)
  have HBE : Hid (Below w.heap.size w w4) := HBE.out.trans ((hb).mono HBE.out.size)
  clear hb
  have R6 := Lib.hid hr6
  clear hr6
  have kr0 := KR.out.cell 0
  have kr1 := KR.out.cell 1
  have kr2 := KR.out.cell 2
  simp only [List.getElem?_toArray, List.getElem?_cons_zero, List.getElem?_cons_succ] at kr0 kr1 kr2
  go_wp2_with fail
  refine (HMI.out _ _ _ _ _ (by exact R6.out)).mono ?_
  rintro e w5 ⟨v, rfl, hr7, hb⟩
  clear kr0 kr1 kr2
  have KA := Lib.hid (KA.out.to hb)
  have KC := Lib.hid (KC.out.to hb)
  have KR := Lib.hid (KR.out.to hb)
  have GA := Lib.hid (GA.out.to hb)
  have Gr := Lib.hid (Gr.out.to hb)
  have R5 := Lib.hid (R5.out.to hb)
  have R6 := Lib.hid (R6.out.to hb)
  have HBE : Hid (Below w.heap.size w w5) := HBE.out.trans ((hb).mono HBE.out.size)
  clear hb
  have R7 := Lib.hid hr7
  clear hr7
  have kr0 := KR.out.cell 0
  have kr1 := KR.out.cell 1
  have kr2 := KR.out.cell 2
  simp only [List.getElem?_toArray, List.getElem?_cons_zero, List.getElem?_cons_succ] at kr0 kr1 kr2
  go_wp2_with fail
  refine (HMD.out _ _ (by exact R7.out)).mono ?_
  rintro e w6 ⟨v, rfl, hg, hb⟩
  clear kr0 kr1 kr2
  have KA := Lib.hid (KA.out.to hb)
  have KC := Lib.hid (KC.out.to hb)
  have KR := Lib.hid (KR.out.to hb)
  have GA := Lib.hid (GA.out.to hb)
  have Gr := Lib.hid (Gr.out.to hb)
  have R5 := Lib.hid (R5.out.to hb)
  have R6 := Lib.hid (R6.out.to hb)
  have R7 := Lib.hid (R7.out.to hb)
  have HBE : Hid (Below w.heap.size w w6) := HBE.out.trans ((hb).mono HBE.out.size)
  clear hb
  obtain ⟨Az, nz, cz, Bz, mz, dz, rfl, hq1, hq2⟩ := hg.form
  have Gz := Lib.hid hg
  clear hq1 hq2 hg
  have kc0 := KC.out.cell 0
  have kc1 := KC.out.cell 1
  have kc2 := KC.out.cell 2
  simp only [List.getElem?_toArray, List.getElem?_cons_zero, List.getElem?_cons_succ] at kc0 kc1 kc2
  have fzkc0 := KC.out.frozen 0
  have fzkc1 := KC.out.frozen 1
  have fzkc2 := KC.out.frozen 2
  go_wp2_with fail
  refine bodyPost_ret (v := .tuple #[.agg #[.bool r.1.neg, .slice Az nz cz, .slice Bz mz dz], .int .i64 r.2]) (by rw [results_cell_tmp rfl]; go_simp) rfl ?_
  exact ⟨_, rfl, Gz.out.putM KC.out _ _ _, put3_below HBE.out (by omega) _ _ _⟩

set_option maxRecDepth 1000000 in
set_option maxHeartbeats 12800000 in
theorem rone_t (a : LN) (va : Value) (w : World) (ga : GV w va a) : Calls Tryd.prog 14 #[.int .u8 116, va] w (SPost w (roundS 3 a)) := by
  have HO := Lib.hid ga.ok
  have hbd : 0 ≤ a.err ∧ a.err ≤ 3 := checkL_bd _ _ _
  have HCK := Lib.hid (fun (W : World) (u : Value) (h : GV W u a) => fault_S a u W h)
  obtain ⟨B1, m1, d1, B2, m2, d2, rfl, hq1, hq2⟩ := ga.form
  clear hq1 hq2
  have KA := Lib.hid ((blk2 w 24 24 #[.bool a.neg, .slice B1 m1 d1, .slice B2 m2 d2] #[.bool false, .slice none 0 0, .slice none 0 0]).1)
  have KC := Lib.hid ((blk2 w 24 24 #[.bool a.neg, .slice B1 m1 d1, .slice B2 m2 d2] #[.bool false, .slice none 0 0, .slice none 0 0]).2)
  have GA := Lib.hid (ga.to (below_two w (.cells #[.bool a.neg, .slice B1 m1 d1, .slice B2 m2 d2] 24) (.cells #[.bool false, .slice none 0 0, .slice none 0 0] 24)))
  have HBE := Lib.hid (below_two w (.cells #[.bool a.neg, .slice B1 m1 d1, .slice B2 m2 d2] 24) (.cells #[.bool false, .slice none 0 0, .slice none 0 0] 24))
  clear ga
  by_cases e0 : a.err = 0
  rotate_left
  · have b0 : (a.err != 0) = true := by rw [bne_iff_ne]; exact e0
    have HRE : Hid (roundS 3 a = (zeroL, a.err)) := by unfold Hid roundS; rw [if_neg e0]
    generalize roundS 3 a = r at *
    generalize a.err = z at *
    clear e0
    go_enter Tryd.func14, Tryd.ntmps14
    go_wp2_with fail
    refine (HCK.out _ _ (by exact GA.out)).mono ?_
    rintro e w1 ⟨rfl, hb⟩
    have KA := Lib.hid (KA.out.to hb)
    have KC := Lib.hid (KC.out.to hb)
    have GA := Lib.hid (GA.out.to hb)
    have HBE : Hid (Below w.heap.size w w1) := HBE.out.trans ((hb).mono HBE.out.size)
    clear hb
    have kc0 := KC.out.cell 0
    have kc1 := KC.out.cell 1
    have kc2 := KC.out.cell 2
    simp only [List.getElem?_toArray, List.getElem?_cons_zero, List.getElem?_cons_succ] at kc0 kc1 kc2
    have fzkc0 := KC.out.frozen 0
    have fzkc1 := KC.out.frozen 1
    have fzkc2 := KC.out.frozen 2
    go_wp2_with fail
    refine bodyPost_ret (v := .tuple #[zeroNum, .int .i64 z]) (by rw [results_cell_tmp rfl]; go_simp; rfl) rfl ?_
    rw [HRE.out]
    exact ⟨_, rfl, GV.zero _, put3_below HBE.out (by omega) _ _ _⟩
  obtain ⟨p1, p2, p3, p4, hcan⟩ := LN.good HO.out e0
  have HOF : Hid (∀ (W : World) (u : Value), GV W u a → Calls Tryd.prog 36 #[u] W (RVPost W a.neg a.x a.y)) := fun W u h => rof_any a u W h (by omega) (by omega)
  have HL : Hid (((digs W16 a.x).length ≤ 256 ∧ (digs W16 a.y).length ≤ 256) ∧ 0 < a.y) := ⟨LN.len16 HO.out e0, hcan.1⟩
  have HMK : Hid (∀ (s : Bool) (n m : Nat), (digs W16 n).length ≤ 10000 → (digs W16 m).length ≤ 10000 → ∀ (W : World) (v : Value), RV W v s n m → Calls Tryd.prog 37 #[v] W (SPost W (opS 0 s n m))) := fun s n m h1 h2 W v h => rmade_S2 s n m v W h (by omega) (by omega)
  have HMI : Hid (∀ (s : Bool) (n m : Nat) (W : World) (v : Value), RV W v s n m → Calls Tryd.prog 38 #[v] W (RVPost W (!s && decide (0 < n)) n m)) := fun s n m W v h => rminus_any s n m v W h
  have HFL : Hid (∀ (s : Bool) (W : World) (v : Value), RV W v s a.x a.y → Calls Tryd.prog 42 #[v] W (RVPost W (s && decide (0 < flo s a.x a.y)) (flo s a.x a.y) 1)) := fun s W v h => rfloor_any s a.x a.y v W h HL.out.2 (by have := HL.out; omega) (by have := HL.out; omega)
  have HWK : Hid (∀ (s : Bool) (n : Nat) (W : World) (v : Value), Nat16 W v n → Calls Tryd.prog 40 #[.bool s, v] W (RVPost W (s && decide (0 < n)) n 1)) := fun s n W v h => rwhole_any s n v W h
  have HDV : Hid (∀ (n m : Nat), 0 < m → (digs W16 n).length ≤ 10000 → (digs W16 m).length ≤ 10000 → ∀ (W : World) (u v : Value), Nat16 W u n → Nat16 W v m → Calls Tryd.prog 43 #[u, v] W (RPost2 W (n / m) (n % m))) := fun n m h0 h1 h2 W u v ha hb => rdiv_any n m u v W ha hb h0 (by omega) (by omega)
  have hfq : ∀ s : Bool, (digs W16 (flo s a.x a.y)).length ≤ 300 := fun s => by
    have : flo s a.x a.y ≤ a.x + 1 := by unfold flo; have := Nat.div_le_self a.x a.y; split <;> omega
    exact Nat.le_trans (digs_len_mono W16_gt this) (Nat.le_trans (digs16_add HL.out.1.1 (by rw [digs_one16]; decide)) (by omega))
  have HFQ := Lib.hid hfq
  rw [e0] at HCK
  have HRR : Hid (roundS 3 a = opS 0 (a.neg && decide (0 < rnd 3 a)) (rnd 3 a) 1) := by unfold Hid roundS; rw [if_pos e0, if_pos (by decide), fracS_1]
  have HMD : Hid (∀ (W : World) (v : Value), RV W v (a.neg && decide (0 < a.x / a.y)) (a.x / a.y) 1 → Calls Tryd.prog 37 #[v] W (SPost W (roundS 3 a))) := fun W v h => by
    rw [HRR.out, show rnd 3 a = a.x / a.y by unfold rnd; rw [if_neg (by decide), if_neg (by decide), if_pos rfl, flo_false]]
    exact HMK.out _ _ _ (Nat.le_trans (digs_len_mono W16_gt (Nat.div_le_self _ _)) (by have := HL.out; omega)) (by rw [digs_one16]; decide) W v h
  have HDD := Lib.hid (HDV.out a.x a.y HL.out.2 (by have := HL.out; omega) (by have := HL.out; omega))
  generalize roundS 3 a = r at *
  clear e0 p1 p2 p3 p4 hcan hbd hfq
  go_enter Tryd.func14, Tryd.ntmps14
  go_wp2_with fail
  refine (HCK.out _ _ (by exact GA.out)).mono ?_
  rintro e w1 ⟨rfl, hb⟩
  have KA := Lib.hid (KA.out.to hb)
  have KC := Lib.hid (KC.out.to hb)
  have GA := Lib.hid (GA.out.to hb)
  have HBE : Hid (Below w.heap.size w w1) := HBE.out.trans ((hb).mono HBE.out.size)
  clear hb
  have ka0 := KA.out.cell 0
  have ka1 := KA.out.cell 1
  have ka2 := KA.out.cell 2
  simp only [List.getElem?_toArray, List.getElem?_cons_zero, List.getElem?_cons_succ] at ka0 ka1 ka2
  go_wp2_with fail
  refine (HOF.out _ _ (by exact GA.out)).mono ?_
  rintro e w2 ⟨v, rfl, hr, hb⟩
  clear ka0 ka1 ka2
  have KA := Lib.hid (KA.out.to hb)
  have KC := Lib.hid (KC.out.to hb)
  have GA := Lib.hid (GA.out.to hb)
  have HBE : Hid (Below w.heap.size w w2) := HBE.out.trans ((hb).mono HBE.out.size)
  clear hb
  obtain ⟨Ar, nr, cr, Br, mr, dr, rfl, hq1, hq2⟩ := hr.form
  have Gr := Lib.hid hr
  clear hq1 hq2 hr
  have kc0 := KC.out.cell 0
  have kc1 := KC.out.cell 1
  have kc2 := KC.out.cell 2
  simp only [List.getElem?_toArray, List.getElem?_cons_zero, List.getElem?_cons_succ] at kc0 kc1 kc2
  have ltKAKR := KA.out.lt
  have ltKCKR := KC.out.lt
  have KRN := Lib.hid (Blk.new w2 60 #[.bool a.neg, .slice Ar nr cr, .slice Br mr dr])
  have KA := Lib.hid (KA.out.to (below_one w2 (.cells #[.bool a.neg, .slice Ar nr cr, .slice Br mr dr] 60)))
  have KC := Lib.hid (KC.out.to (below_one w2 (.cells #[.bool a.neg, .slice Ar nr cr, .slice Br mr dr] 60)))
  have GA := Lib.hid (GA.out.to (below_one w2 (.cells #[.bool a.neg, .slice Ar nr cr, .slice Br mr dr] 60)))
  have Gr := Lib.hid (Gr.out.to (below_one w2 (.cells #[.bool a.neg, .slice Ar nr cr, .slice Br mr dr] 60)))
  have HBE : Hid (Below w.heap.size w (w2.alloc (.cells #[.bool a.neg, .slice Ar nr cr, .slice Br mr dr] 60))) := HBE.out.trans (((below_one w2 (.cells #[.bool a.neg, .slice Ar nr cr, .slice Br mr dr] 60))).mono HBE.out.size)
  have KR := KRN
  clear KRN
  have neKAKR : (w.heap.size = w2.heap.size) = False := eq_false (by omega)
  have neKRKA : (w2.heap.size = w.heap.size) = False := eq_false (by omega)
  have neKCKR : (w.heap.size + 1 = w2.heap.size) = False := eq_false (by omega)
  have neKRKC : (w2.heap.size = w.heap.size + 1) = False := eq_false (by omega)
  have kr0 := KR.out.cell 0
  have kr1 := KR.out.cell 1
  have kr2 := KR.out.cell 2
  simp only [List.getElem?_toArray, List.getElem?_cons_zero, List.getElem?_cons_succ] at kr0 kr1 kr2
  go_wp2_with fail
  refine (HDD.out _ _ _ (by exact Gr.out.parts.2.1) (by exact Gr.out.parts.2.2)).mono ?_
  rintro e w3 ⟨v, u, rfl, hn5, hn6, hb⟩
  clear kc0 kc1 kc2 kr0 kr1 kr2
  have KA := Lib.hid (KA.out.to hb)
  have KC := Lib.hid (KC.out.to hb)
  have KR := Lib.hid (KR.out.to hb)
  have GA := Lib.hid (GA.out.to hb)
  have Gr := Lib.hid (Gr.out.to hb)
  have HBE : Hid (Below w.heap.size w w3) := HBE.out.trans ((hb).mono HBE.out.size)
  clear hb
  have N5 := Lib.hid hn5
  clear hn5
  clear hn6
  have kr0 := KR.out.cell 0
  have kr1 := KR.out.cell 1
  have kr2 := KR.out.cell 2
  simp only [List.getElem?_toArray, List.getElem?_cons_zero, List.getElem?_cons_succ] at kr0 kr1 kr2
  go_wp2_with fail
  refine (HWK.out _ _ _ _ (by exact N5.out)).mono ?_
  rintro e w4 ⟨v, rfl, hr6, hb⟩
  clear kr0 kr1 kr2
  have KA := Lib.hid (KA.out.to hb)
  have KC := Lib.hid (KC.out.to hb)
  have KR := Lib.hid (KR.out.to hb)
  have GA := Lib.hid (GA.out.to hb)
  have Gr := Lib.hid (Gr.out.to hb)
  have N5 := Lib.hid (N5.out.to hb)
  have HBE : Hid (Below w.heap.size w w4) := HBE.out.trans ((hb).mono HBE.out.size)
  clear hb
  have R6 := Lib.hid hr6
  clear hr6
  have kr0 := KR.out.cell 0
  have kr1 := KR.out.cell 1
  have kr2 := KR.out.cell 2
  simp only [List.getElem?_toArray, List.getElem?_cons_zero, List.getElem?_cons_succ] at kr0 kr1 kr2
  go_wp2_with fail
  refine (HMD.out _ _ (by exact R6.out)).mono ?_
  rintro e w5 ⟨v, rfl, hg, hb⟩
  clear kr0 kr1 kr2
  have KA := Lib.hid (KA.out.to hb)
  have KC := Lib.hid (KC.out.to hb)
  have KR := Lib.hid (KR.out.to hb)
  have GA := Lib.hid (GA.out.to hb)
  have Gr := Lib.hid (Gr.out.to hb)
  have N5 := Lib.hid (N5.out.to hb)
  have R6 := Lib.hid (R6.out.to hb)
  have HBE : Hid (Below w.heap.size w w5) := HBE.out.trans ((hb).mono HBE.out.size)
  clear hb
  obtain ⟨Az, nz, cz, Bz, mz, dz, rfl, hq1, hq2⟩ := hg.form
  have Gz := Lib.hid hg
  clear hq1 hq2 hg
  have kc0 := KC.out.cell 0
  have kc1 := KC.out.cell 1
  have kc2 := KC.out.cell 2
  simp only [List.getElem?_toArray, List.getElem?_cons_zero, List.getElem?_cons_succ] at kc0 kc1 kc2
  have fzkc0 := KC.out.frozen 0
  have fzkc1 := KC.out.frozen 1
  have fzkc2 := KC.out.frozen 2
  go_wp2_with fail
  refine bodyPost_ret (v := .tuple #[.agg #[.bool r.1.neg, .slice Az nz cz, .slice Bz mz dz], .int .i64 r.2]) (by rw [results_cell_tmp rfl]; go_simp) rfl ?_
  exact ⟨_, rfl, Gz.out.putM KC.out _ _ _, put3_below HBE.out (by omega) _ _ _⟩

set_option maxRecDepth 1000000 in
set_option maxHeartbeats 12800000 in
theorem rone_r (a : LN) (va : Value) (w : World) (ga : GV w va a) : Calls Tryd.prog 14 #[.int .u8 114, va] w (SPost w (roundS 4 a)) := by
  have HO := Lib.hid ga.ok
  have hbd : 0 ≤ a.err ∧ a.err ≤ 3 := checkL_bd _ _ _
  have HCK := Lib.hid (fun (W : World) (u : Value) (h : GV W u a) => fault_S a u W h)
  obtain ⟨B1, m1, d1, B2, m2, d2, rfl, hq1, hq2⟩ := ga.form
  clear hq1 hq2
  have KA := Lib.hid ((blk2 w 24 24 #[.bool a.neg, .slice B1 m1 d1, .slice B2 m2 d2] #[.bool false, .slice none 0 0, .slice none 0 0]).1)
  have KC := Lib.hid ((blk2 w 24 24 #[.bool a.neg, .slice B1 m1 d1, .slice B2 m2 d2] #[.bool false, .slice none 0 0, .slice none 0 0]).2)
  have GA := Lib.hid (ga.to (below_two w (.cells #[.bool a.neg, .slice B1 m1 d1, .slice B2 m2 d2] 24) (.cells #[.bool false, .slice none 0 0, .slice none 0 0] 24)))
  have HBE := Lib.hid (below_two w (.cells #[.bool a.neg, .slice B1 m1 d1, .slice B2 m2 d2] 24) (.cells #[.bool false, .slice none 0 0, .slice none 0 0] 24))
  clear ga
  by_cases e0 : a.err = 0
  rotate_left
  · have b0 : (a.err != 0) = true := by rw [bne_iff_ne]; exact e0
    have HRE : Hid (roundS 4 a = (zeroL, a.err)) := by unfold Hid roundS; rw [if_neg e0]
    generalize roundS 4 a = r at *
    generalize a.err = z at *
    clear e0
    go_enter Tryd.func14, Tryd.ntmps14
    go_wp2_with fail
    refine (HCK.out _ _ (by exact GA.out)).mono ?_
    rintro e w1 ⟨rfl, hb⟩
    have KA := Lib.hid (KA.out.to hb)
    have KC := Lib.hid (KC.out.to hb)
    have GA := Lib.hid (GA.out.to hb)
    have HBE : Hid (Below w.heap.size w w1) := HBE.out.trans ((hb).mono HBE.out.size)
    clear hb
    have kc0 := KC.out.cell 0
    have kc1 := KC.out.cell 1
    have kc2 := KC.out.cell 2
    simp only [List.getElem?_toArray, List.getElem?_cons_zero, List.getElem?_cons_succ] at kc0 kc1 kc2
    have fzkc0 := KC.out.frozen 0
    have fzkc1 := KC.out.frozen 1
    have fzkc2 := KC.out.frozen 2
    go_wp2_with fail
    refine bodyPost_ret (v := .tuple #[zeroNum, .int .i64 z]) (by rw [results_cell_tmp rfl]; go_simp; rfl) rfl ?_
    rw [HRE.out]
    exact ⟨_, rfl, GV.zero _, put3_below HBE.out (by omega) _ _ _⟩
  obtain ⟨p1, p2, p3, p4, hcan⟩ := LN.good HO.out e0
  have HOF : Hid (∀ (W : World) (u : Value), GV W u a → Calls Tryd.prog 36 #[u] W (RVPost W a.neg a.x a.y)) := fun W u h => rof_any a u W h (by omega) (by omega)
  have HL : Hid (((digs W16 a.x).length ≤ 256 ∧ (digs W16 a.y).length ≤ 256) ∧ 0 < a.y) := ⟨LN.len16 HO.out e0, hcan.1⟩
  have HMK : Hid (∀ (s : Bool) (n m : Nat), (digs W16 n).length ≤ 10000 → (digs W16 m).length ≤ 10000 → ∀ (W : World) (v : Value), RV W v s n m → Calls Tryd.prog 37 #[v] W (SPost W (opS 0 s n m))) := fun s n m h1 h2 W v h => rmade_S2 s n m v W h (by omega) (by omega)
  have HMI : Hid (∀ (s : Bool) (n m : Nat) (W : World) (v : Value), RV W v s n m → Calls Tryd.prog 38 #[v] W (RVPost W (!s && decide (0 < n)) n m)) := fun s n m W v h => rminus_any s n m v W h
  have HFL : Hid (∀ (s : Bool) (W : World) (v : Value), RV W v s a.x a.y → Calls Tryd.prog 42 #[v] W (RVPost W (s && decide (0 < flo s a.x a.y)) (flo s a.x a.y) 1)) := fun s W v h => rfloor_any s a.x a.y v W h HL.out.2 (by have := HL.out; omega) (by have := HL.out; omega)
  have HWK : Hid (∀ (s : Bool) (n : Nat) (W : World) (v : Value), Nat16 W v n → Calls Tryd.prog 40 #[.bool s, v] W (RVPost W (s && decide (0 < n)) n 1)) := fun s n W v h => rwhole_any s n v W h
  have HDV : Hid (∀ (n m : Nat), 0 < m → (digs W16 n).length ≤ 10000 → (digs W16 m).length ≤ 10000 → ∀ (W : World) (u v : Value), Nat16 W u n → Nat16 W v m → Calls Tryd.prog 43 #[u, v] W (RPost2 W (n / m) (n % m))) := fun n m h0 h1 h2 W u v ha hb => rdiv_any n m u v W ha hb h0 (by omega) (by omega)
  have hfq : ∀ s : Bool, (digs W16 (flo s a.x a.y)).length ≤ 300 := fun s => by
    have : flo s a.x a.y ≤ a.x + 1 := by unfold flo; have := Nat.div_le_self a.x a.y; split <;> omega
    exact Nat.le_trans (digs_len_mono W16_gt this) (Nat.le_trans (digs16_add HL.out.1.1 (by rw [digs_one16]; decide)) (by omega))
  have HFQ := Lib.hid hfq
  rw [e0] at HCK
  have HRR : Hid (roundS 4 a = opS 0 (a.neg && decide (0 < rnd 4 a)) (rnd 4 a) 1) := by unfold Hid roundS; rw [if_pos e0, if_pos (by decide), fracS_1]
  have hq4 : rnd 4 a = (a.x + a.x + a.y) / (a.y + a.y) := by unfold rnd; rw [if_neg (by decide), if_neg (by decide), if_neg (by decide)]
  have hl1 : (digs W16 (a.x + a.x)).length ≤ 257 := digs16_add HL.out.1.1 HL.out.1.1
  have hl2 : (digs W16 (a.x + a.x + a.y)).length ≤ 258 := digs16_add (n := 257) hl1 (by have := HL.out; omega)
  have hl3 : (digs W16 (a.y + a.y)).length ≤ 257 := digs16_add HL.out.1.2 HL.out.1.2
  have HMD : Hid (∀ (W : World) (v : Value), RV W v (a.neg && decide (0 < (a.x + a.x + a.y) / (a.y + a.y))) ((a.x + a.x + a.y) / (a.y + a.y)) 1 → Calls Tryd.prog 37 #[v] W (SPost W (roundS 4 a))) := fun W v h => by
    rw [HRR.out, hq4]
    exact HMK.out _ _ _ (Nat.le_trans (digs_len_mono W16_gt (Nat.div_le_self _ _)) (by omega)) (by rw [digs_one16]; decide) W v h
  have HDD := Lib.hid (HDV.out (a.x + a.x + a.y) (a.y + a.y) (by have := HL.out.2; omega) (by omega) (by omega))
  have HA1 : Hid (∀ (W : World) (u v : Value), Nat16 W u a.x → Nat16 W v a.x → Calls Tryd.prog 44 #[u, v] W (RPost W (a.x + a.x))) := fun W u v h1 h2 => radd_any _ _ u v W h1 h2 (by have := HL.out; omega) (by have := HL.out; omega)
  have HA2 : Hid (∀ (W : World) (u v : Value), Nat16 W u (a.x + a.x) → Nat16 W v a.y → Calls Tryd.prog 44 #[u, v] W (RPost W (a.x + a.x + a.y))) := fun W u v h1 h2 => radd_any _ _ u v W h1 h2 (by omega) (by have := HL.out; omega)
  have HA3 : Hid (∀ (W : World) (u v : Value), Nat16 W u a.y → Nat16 W v a.y → Calls Tryd.prog 44 #[u, v] W (RPost W (a.y + a.y))) := fun W u v h1 h2 => radd_any _ _ u v W h1 h2 (by have := HL.out; omega) (by have := HL.out; omega)
  clear hq4 hl1 hl2 hl3 HRR
  generalize roundS 4 a = r at *
  generalize (a.x + a.x + a.y) / (a.y + a.y) = q at *
  generalize (a.x + a.x + a.y) % (a.y + a.y) = rm at *
  generalize a.x + a.x + a.y = n3 at *
  generalize a.x + a.x = n2 at *
  generalize a.y + a.y = n4 at *
  clear e0 p1 p2 p3 p4 hcan hbd hfq
  go_enter Tryd.func14, Tryd.ntmps14
  go_wp2_with fail
  refine (HCK.out _ _ (by exact GA.out)).mono ?_
  rintro e w1 ⟨rfl, hb⟩
  have KA := Lib.hid (KA.out.to hb)
  have KC := Lib.hid (KC.out.to hb)
  have GA := Lib.hid (GA.out.to hb)
  have HBE : Hid (Below w.heap.size w w1) := HBE.out.trans ((hb).mono HBE.out.size)
  clear hb
  have ka0 := KA.out.cell 0
  have ka1 := KA.out.cell 1
  have ka2 := KA.out.cell 2
  simp only [List.getElem?_toArray, List.getElem?_cons_zero, List.getElem?_cons_succ] at ka0 ka1 ka2
  go_wp2_with fail
  refine (HOF.out _ _ (by exact GA.out)).mono ?_
  rintro e w2 ⟨v, rfl, hr, hb⟩
  clear ka0 ka1 ka2
  have KA := Lib.hid (KA.out.to hb)
  have KC := Lib.hid (KC.out.to hb)
  have GA := Lib.hid (GA.out.to hb)
  have HBE : Hid (Below w.heap.size w w2) := HBE.out.trans ((hb).mono HBE.out.size)
  clear hb
  obtain ⟨Ar, nr, cr, Br, mr, dr, rfl, hq1, hq2⟩ := hr.form
  have Gr := Lib.hid hr
  clear hq1 hq2 hr
  have kc0 := KC.out.cell 0
  have kc1 := KC.out.cell 1
  have kc2 := KC.out.cell 2
  simp only [List.getElem?_toArray, List.getElem?_cons_zero, List.getElem?_cons_succ] at kc0 kc1 kc2
  have ltKAKR := KA.out.lt
  have ltKCKR := KC.out.lt
  have KRN := Lib.hid (Blk.new w2 60 #[.bool a.neg, .slice Ar nr cr, .slice Br mr dr])
  have KA := Lib.hid (KA.out.to (below_one w2 (.cells #[.bool a.neg, .slice Ar nr cr, .slice Br mr dr] 60)))
  have KC := Lib.hid (KC.out.to (below_one w2 (.cells #[.bool a.neg, .slice Ar nr cr, .slice Br mr dr] 60)))
  have GA := Lib.hid (GA.out.to (below_one w2 (.cells #[.bool a.neg, .slice Ar nr cr, .slice Br mr dr] 60)))
  have Gr := Lib.hid (Gr.out.to (below_one w2 (.cells #[.bool a.neg, .slice Ar nr cr, .slice Br mr dr] 60)))
  have HBE : Hid (Below w.heap.size w (w2.alloc (.cells #[.bool a.neg, .slice Ar nr cr, .slice Br mr dr] 60))) := HBE.out.trans (((below_one w2 (.cells #[.bool a.neg, .slice Ar nr cr, .slice Br mr dr] 60))).mono HBE.out.size)
  have KR := KRN
  clear KRN
  have neKAKR : (w.heap.size = w2.heap.size) = False := eq_false (by omega)
  have neKRKA : (w2.heap.size = w.heap.size) = False := eq_false (by omega)
  have neKCKR : (w.heap.size + 1 = w2.heap.size) = False := eq_false (by omega)
  have neKRKC : (w2.heap.size = w.heap.size + 1) = False := eq_false (by omega)
  have kr0 := KR.out.cell 0
  have kr1 := KR.out.cell 1
  have kr2 := KR.out.cell 2
  simp only [List.getElem?_toArray, List.getElem?_cons_zero, List.getElem?_cons_succ] at kr0 kr1 kr2
  have hltr := KR.out.lt
  have HS1 : Hid ((w2.alloc (.cells #[.bool a.neg, .slice Ar nr cr, .slice Br mr dr] 60)).cell? ⟨w2.heap.size, 1, none⟩ = some (.slice Ar nr cr) ∧ (w2.alloc (.cells #[.bool a.neg, .slice Ar nr cr, .slice Br mr dr] 60)).cell? ⟨w2.heap.size, 2, none⟩ = some (.slice Br mr dr) ∧ w2.heap.size < (w2.alloc (.cells #[.bool a.neg, .slice Ar nr cr, .slice Br mr dr] 60)).heap.size) := ⟨kr1, kr2, hltr⟩
  have HKW : Hid (∀ W' : World, Below ((w2.alloc (.cells #[.bool a.neg, .slice Ar nr cr, .slice Br mr dr] 60))).heap.size ((w2.alloc (.cells #[.bool a.neg, .slice Ar nr cr, .slice Br mr dr] 60))) W' → (W'.cell? ⟨w2.heap.size, 1, none⟩ = some (.slice Ar nr cr) ∧ W'.cell? ⟨w2.heap.size, 2, none⟩ = some (.slice Br mr dr) ∧ w2.heap.size < W'.heap.size)) := fun W' h => ⟨(h.cell (p := ⟨w2.heap.size, 1, none⟩) HS1.out.2.2).trans HS1.out.1, (h.cell (p := ⟨w2.heap.size, 2, none⟩) HS1.out.2.2).trans HS1.out.2.1, Nat.lt_of_lt_of_le HS1.out.2.2 h.size⟩
  have GD : Hid (RV ((w2.alloc (.cells #[.bool a.neg, .slice Ar nr cr, .slice Br mr dr] 60))).drew (.agg #[.bool a.neg, .slice Ar nr cr, .slice Br mr dr]) a.neg a.x a.y) := Gr.out
  have HD0 : Hid (Below ((w2.alloc (.cells #[.bool a.neg, .slice Ar nr cr, .slice Br mr dr] 60))).heap.size ((w2.alloc (.cells #[.bool a.neg, .slice Ar nr cr, .slice Br mr dr] 60))) ((w2.alloc (.cells #[.bool a.neg, .slice Ar nr cr, .slice Br mr dr] 60))).drew) := (Below.refl _ _).drew
  go_wp2_with fail
  go_region_held3 (fun w' => w'.cell? ⟨w2.heap.size, 1, none⟩ = some (.slice Ar nr cr) ∧ w'.cell? ⟨w2.heap.size, 2, none⟩ = some (.slice Br mr dr) ∧ w2.heap.size < w'.heap.size)
    (first | (with_reducible exact HKW.out _ (Hid.out (by assumption))) | (go_keep; done))
    (first
      | (go_at_call 44; ((with_reducible refine (HA1.out _ _ _ (by exact GD.out.parts.2.1) (by exact GD.out.parts.2.1)).mono ?_)); rintro e y1 ⟨v1, rfl, hn1, hb1⟩; have HD1 : Hid (Below ((w2.alloc (.cells #[.bool a.neg, .slice Ar nr cr, .slice Br mr dr] 60))).heap.size ((w2.alloc (.cells #[.bool a.neg, .slice Ar nr cr, .slice Br mr dr] 60))) y1) := HD0.out.trans hb1)
      | (go_at_call 44; ((with_reducible refine (HA2.out _ _ _ (by exact hn1) (by exact GD.out.parts.2.2.to hb1)).mono ?_)); rintro e y2 ⟨v2, rfl, hn2, hb2⟩; have HD2 : Hid (Below ((w2.alloc (.cells #[.bool a.neg, .slice Ar nr cr, .slice Br mr dr] 60))).heap.size ((w2.alloc (.cells #[.bool a.neg, .slice Ar nr cr, .slice Br mr dr] 60))) y2) := HD1.out.trans (hb2.mono HD1.out.size))
      | (go_at_call 44; ((with_reducible refine (HA3.out _ _ _ (by exact (GD.out.parts.2.2.to hb1).to hb2) (by exact (GD.out.parts.2.2.to hb1).to hb2)).mono ?_)); rintro e y3 ⟨v3, rfl, hn3, hb3⟩; have HD3 : Hid (Below ((w2.alloc (.cells #[.bool a.neg, .slice Ar nr cr, .slice Br mr dr] 60))).heap.size ((w2.alloc (.cells #[.bool a.neg, .slice Ar nr cr, .slice Br mr dr] 60))) y3) := HD2.out.trans (hb3.mono HD2.out.size))
      | (go_at_call 43; ((with_reducible refine (HDD.out _ _ _ (by exact hn2.to hb3) (by exact hn3)).mono ?_)); rintro e y4 ⟨v4, u4, rfl, hn4, hn5, hb4⟩; have HD4 : Hid (Below ((w2.alloc (.cells #[.bool a.neg, .slice Ar nr cr, .slice Br mr dr] 60))).heap.size ((w2.alloc (.cells #[.bool a.neg, .slice Ar nr cr, .slice Br mr dr] 60))) y4) := HD3.out.trans (hb4.mono HD3.out.size)))
  have HB9 := Lib.hid HD4.out
  have N5 := Lib.hid hn4
  clear hn1 hn2 hn3 hn4 hn5 hb1 hb2 hb3 hb4 HD1 HD2 HD3 HD4
  clear kc0 kc1 kc2 kr0 kr1 kr2
  have hb := HB9.out
  have KA := Lib.hid (KA.out.to hb)
  have KC := Lib.hid (KC.out.to hb)
  have KR := Lib.hid (KR.out.to hb)
  have GA := Lib.hid (GA.out.to hb)
  have Gr := Lib.hid (Gr.out.to hb)
  have HBE : Hid (Below w.heap.size w y4) := HBE.out.trans (hb.mono HBE.out.size)
  clear hb HB9
  have kr0 := KR.out.cell 0
  have kr1 := KR.out.cell 1
  have kr2 := KR.out.cell 2
  simp only [List.getElem?_toArray, List.getElem?_cons_zero, List.getElem?_cons_succ] at kr0 kr1 kr2
  go_wp2_with fail
  refine (HWK.out _ _ _ _ (by exact N5.out)).mono ?_
  rintro e w13 ⟨v, rfl, hr6, hb⟩
  clear kr0 kr1 kr2
  have KA := Lib.hid (KA.out.to hb)
  have KC := Lib.hid (KC.out.to hb)
  have KR := Lib.hid (KR.out.to hb)
  have GA := Lib.hid (GA.out.to hb)
  have Gr := Lib.hid (Gr.out.to hb)
  have N5 := Lib.hid (N5.out.to hb)
  have HBE : Hid (Below w.heap.size w w13) := HBE.out.trans ((hb).mono HBE.out.size)
  clear hb
  have R6 := Lib.hid hr6
  clear hr6
  have kr0 := KR.out.cell 0
  have kr1 := KR.out.cell 1
  have kr2 := KR.out.cell 2
  simp only [List.getElem?_toArray, List.getElem?_cons_zero, List.getElem?_cons_succ] at kr0 kr1 kr2
  go_wp2_with fail
  refine (HMD.out _ _ (by exact R6.out)).mono ?_
  rintro e w14 ⟨v, rfl, hg, hb⟩
  clear kr0 kr1 kr2
  have KA := Lib.hid (KA.out.to hb)
  have KC := Lib.hid (KC.out.to hb)
  have KR := Lib.hid (KR.out.to hb)
  have GA := Lib.hid (GA.out.to hb)
  have Gr := Lib.hid (Gr.out.to hb)
  have N5 := Lib.hid (N5.out.to hb)
  have R6 := Lib.hid (R6.out.to hb)
  have HBE : Hid (Below w.heap.size w w14) := HBE.out.trans ((hb).mono HBE.out.size)
  clear hb
  obtain ⟨Az, nz, cz, Bz, mz, dz, rfl, hq1, hq2⟩ := hg.form
  have Gz := Lib.hid hg
  clear hq1 hq2 hg
  have kc0 := KC.out.cell 0
  have kc1 := KC.out.cell 1
  have kc2 := KC.out.cell 2
  simp only [List.getElem?_toArray, List.getElem?_cons_zero, List.getElem?_cons_succ] at kc0 kc1 kc2
  have fzkc0 := KC.out.frozen 0
  have fzkc1 := KC.out.frozen 1
  have fzkc2 := KC.out.frozen 2
  go_wp2_with fail
  refine bodyPost_ret (v := .tuple #[.agg #[.bool r.1.neg, .slice Az nz cz, .slice Bz mz dz], .int .i64 r.2]) (by rw [results_cell_tmp rfl]; go_simp) rfl ?_
  exact ⟨_, rfl, Gz.out.putM KC.out _ _ _, put3_below HBE.out (by omega) _ _ _⟩
end Go.Proofs.YtdfcpkjphdepcaaDoor

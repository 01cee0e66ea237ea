/- fetterlockref1.ToInt, at any number. -/
import Derived.Test.YtdhgbnnopekfjaaDoorJo24
import Derived.Test.YtdhgbnnopekfjaaDoorJo27
import Derived.Test.YtdhgbnnopekfjaaDoorJo28
set_option linter.unusedVariables false
set_option linter.unusedSimpArgs false
namespace Go.Proofs.YtdhgbnnopekfjaaDoor
open Go.RowKit NumB
set_option linter.unusedVariables false
set_option linter.unusedSimpArgs false

/-- 2^63, behind a name. -/
def P63 : Nat := 9223372036854775808
theorem p63_len : (digs W16 P63).length ≤ 4 := digs_len_le (k := 4) W16_gt (by unfold W16 P63; omega)
theorem p63_pred : (digs W16 (P63 - 1)).length ≤ 4 := digs_len_le (k := 4) W16_gt (by unfold W16 P63; omega)
theorem or_16 (u d : Nat) (hu : u < 281474976710656) (hd : d < 65536) : bits .or .u64 ((u * 65536 : Nat) : Int) (d : Int) = ((u * 65536 + d : Nat) : Int) := by
  have h := u64_or ((u * 65536 : Nat) : Int) (d : Int) (by omega) (by omega) (by omega) (by omega)
  rw [h]
  have := Nat.shiftLeft_add_eq_or_of_lt (a := u) (i := 16) (b := d) hd
  rw [Nat.shiftLeft_eq] at this
  simp only [Int.toNat_natCast]
  rw [show u * 65536 = u * 2 ^ 16 by rfl, ← this]
/-- The two comparisons. -/
theorem cmp_least {a : LN} (hc : a.x = 0 → a.neg = false) (hy : a.y = 1) : (cmpQ a.neg a.x a.y true P63 1 < 0) ↔ (a.neg = true ∧ P63 < a.x) := by
  rw [hy]
  unfold cmpQ
  cases h : a.neg with
  | false => simp
  | true =>
    simp only [if_true, true_and, Nat.mul_one]
    unfold cmpI
    split <;> (try split) <;> omega
theorem cmp_most {a : LN} (hc : a.x = 0 → a.neg = false) (hy : a.y = 1) : (0 < cmpQ a.neg a.x a.y false (P63 - 1) 1) ↔ (a.neg = false ∧ P63 ≤ a.x) := by
  rw [hy]
  unfold cmpQ
  cases h : a.neg with
  | true => simp
  | false =>
    simp only [if_true, Bool.false_eq_true, if_false, true_and, Nat.mul_one]
    have : 0 < P63 := by decide
    unfold cmpI
    split <;> (try split) <;> omega
theorem top_step {xs : List Nat} {j d u : Nat} (hj : 0 < j) (hl : j ≤ xs.length) (hd : xs.getD (j - 1) 0 = d) (hu : val W16 (xs.drop j) = u) : val W16 (xs.drop (j - 1)) = u * 65536 + d := by
  have e1 : xs.drop (j - 1) = d :: xs.drop j := by
    rw [List.drop_eq_getElem_cons (by omega), ← getD_lt (by omega), hd, Nat.sub_add_cancel hj]
  rw [e1, val_cons, hu]
  have : W16 = 65536 := rfl
  rw [this]; omega
theorem top_lt {xs : List Nat} {j u x : Nat} (hj : 0 < j) (hv : val W16 xs = x) (hx : x ≤ P63) (hu : val W16 (xs.drop j) = u) : u < 281474976710656 := by
  have h := val_split W16 xs j
  rw [hv, hu] at h
  have h7 := Nat.pow_le_pow_right (n := W16) (by decide) hj
  rw [Nat.pow_one] at h7
  have h3 : W16 * u ≤ W16 ^ j * u := Nat.mul_le_mul_right _ h7
  have h4 : W16 * u ≤ P63 := by omega
  have h5 : W16 = 65536 := rfl
  have h6 : P63 = 9223372036854775808 := rfl
  rw [h5, h6] at h4
  omega
theorem toIntS_err {a : LN} (h : a.err ≠ 0) : toIntS a = (0, a.err) := by
  have h1 : intErr a = a.err := by unfold intErr; rw [if_neg h]
  unfold toIntS
  rw [h1, if_neg h]
theorem toIntS_type {a : LN} (h : a.err = 0) (hy : a.y ≠ 1) : toIntS a = (0, 7) := by
  have h1 : intErr a = 7 := by unfold intErr; rw [if_pos h, if_neg hy]
  unfold toIntS
  rw [h1, if_neg (by decide)]
theorem toIntS_long {a : LN} (h : a.err = 0) (hy : a.y = 1) (hl : (a.neg = true ∧ P63 < a.x) ∨ (a.neg = false ∧ P63 ≤ a.x)) : toIntS a = (0, 3) := by
  have h6 : P63 = 9223372036854775808 := rfl
  unfold toIntS
  rw [if_pos (intErr_zero.2 ⟨h, hy⟩)]
  rcases hl with ⟨h1, h2⟩ | ⟨h1, h2⟩
  · simp only [h1, if_true]; rw [if_neg (by omega)]
  · simp only [h1, Bool.false_eq_true, if_false]; rw [if_neg (by omega)]
theorem toIntS_fit {a : LN} (h : a.err = 0) (hy : a.y = 1) (hl : ¬ (a.neg = true ∧ P63 < a.x)) (hm : ¬ (a.neg = false ∧ P63 ≤ a.x)) : toIntS a = (RatB.sg a.neg a.x, 0) ∧ a.x ≤ P63 ∧ (a.neg = false → a.x < P63) := by
  have h6 : P63 = 9223372036854775808 := rfl
  unfold toIntS RatB.sg
  rw [if_pos (intErr_zero.2 ⟨h, hy⟩)]
  cases hn : a.neg with
  | true => simp [hn] at hl ⊢; omega
  | false => simp [hn] at hm ⊢; omega

set_option maxRecDepth 1000000 in
set_option maxHeartbeats 12800000 in
theorem rtoInt_S (a : LN) (v : Value) (w : World) (h : GV w v a) : Calls Tryd.prog 13 #[v] w fun e w' => e = .returned (.tuple #[.int .i64 (toIntS a).1, .int .i64 (toIntS a).2]) ∧ Below w.heap.size w w' := by
  have HO := Lib.hid h.ok
  have HFA := Lib.hid (fun (W : World) (u : Value) (h : GV W u a) => fault_S a u W h)
  have hbd : 0 ≤ a.err ∧ a.err ≤ 3 := checkL_bd _ _ _
  obtain ⟨B1, m1, d1, B2, m2, d2, rfl, hq1, hq2⟩ := h.form
  clear hq1 hq2
  have KA := Lib.hid (Blk.new w 24 #[.bool a.neg, .slice B1 m1 d1, .slice B2 m2 d2])
  have GA := Lib.hid (h.to (below_one w (.cells #[.bool a.neg, .slice B1 m1 d1, .slice B2 m2 d2] 24)))
  have HBE := Lib.hid (below_one w (.cells #[.bool a.neg, .slice B1 m1 d1, .slice B2 m2 d2] 24))
  clear h
  by_cases e0 : a.err = 0
  rotate_left
  · have HT := Lib.hid (toIntS_err e0)
    have b0 : (a.err != 0) = true := by rw [bne_iff_ne]; exact e0
    generalize toIntS a = r at *
    generalize a.err = z at *
    clear e0
    go_enter Tryd.func13, Tryd.ntmps13
    go_wp2_with fail
    refine (HFA.out _ _ (by exact GA.out)).mono ?_
    rintro e w1 ⟨rfl, hb⟩
    have KA := Lib.hid (KA.out.to hb)
    have GA := Lib.hid (GA.out.to hb)
    have HBE : Hid (Below w.heap.size w w1) := HBE.out.trans ((hb).mono HBE.out.size)
    clear hb
    go_wp2_with fail
    go_ret2
    rw [HT.out]
    exact ⟨rfl, HBE.out⟩
  rw [e0] at HFA
  obtain ⟨p1, p2, p3, p4, hcan⟩ := LN.good HO.out e0
  have HOF : Hid (∀ (W : World) (u : Value), GV W u a → Calls Tryd.prog 17 #[u] W (RVPost W a.neg a.x a.y)) := fun W u h => rof_any a u W h (by omega) (by omega)
  have HL : Hid ((digs W16 a.x).length ≤ 256 ∧ (digs W16 a.y).length ≤ 256) := LN.len16 HO.out e0
  by_cases hy : a.y = 1
  rotate_left
  · have HT := Lib.hid (toIntS_type e0 hy)
    have HII : Hid (∀ (W : World) (v : Value), RV W v a.neg a.x a.y → Calls Tryd.prog 42 #[v] W fun e w' => e = .returned (.bool false) ∧ Below W.heap.size W w') := fun W v h => by
      have := risInt_any a.neg a.x a.y v W h (by have := HL.out; omega)
      rw [cmpI_one_false hy] at this
      exact this
    generalize toIntS a = r at *
    generalize a.x = x at *
    generalize a.y = y at *
    clear e0 hy p1 p2 p3 p4 hcan hbd
    go_enter Tryd.func13, Tryd.ntmps13
    go_wp2_with fail
    refine (HFA.out _ _ (by exact GA.out)).mono ?_
    rintro e w1 ⟨rfl, hb⟩
    have KA := Lib.hid (KA.out.to hb)
    have GA := Lib.hid (GA.out.to hb)
    have HBE : Hid (Below w.heap.size w w1) := HBE.out.trans ((hb).mono HBE.out.size)
    clear hb
    have ka0 := KA.out.cell 0
    have ka1 := KA.out.cell 1
    have ka2 := KA.out.cell 2
    simp only [List.getElem?_toArray, List.getElem?_cons_zero, List.getElem?_cons_succ] at ka0 ka1 ka2
    go_wp2_with fail
    refine (HOF.out _ _ (by exact GA.out)).mono ?_
    rintro e w2 ⟨v, rfl, hg, hb⟩
    clear ka0 ka1 ka2
    have KA := Lib.hid (KA.out.to hb)
    have GA := Lib.hid (GA.out.to hb)
    have HBE : Hid (Below w.heap.size w w2) := HBE.out.trans ((hb).mono HBE.out.size)
    clear hb
    obtain ⟨Ar, nr, cr, Br, mr, dr, rfl, hq1, hq2⟩ := hg.form
    have Gr := Lib.hid hg
    clear hq1 hq2 hg
    have ltKAKR := KA.out.lt
    have KRN := Lib.hid (Blk.new w2 38 #[.bool a.neg, .slice Ar nr cr, .slice Br mr dr])
    have KA := Lib.hid (KA.out.to (below_one w2 (.cells #[.bool a.neg, .slice Ar nr cr, .slice Br mr dr] 38)))
    have GA := Lib.hid (GA.out.to (below_one w2 (.cells #[.bool a.neg, .slice Ar nr cr, .slice Br mr dr] 38)))
    have Gr := Lib.hid (Gr.out.to (below_one w2 (.cells #[.bool a.neg, .slice Ar nr cr, .slice Br mr dr] 38)))
    have HBE : Hid (Below w.heap.size w (w2.alloc (.cells #[.bool a.neg, .slice Ar nr cr, .slice Br mr dr] 38))) := HBE.out.trans (((below_one w2 (.cells #[.bool a.neg, .slice Ar nr cr, .slice Br mr dr] 38))).mono HBE.out.size)
    have KR := KRN
    clear KRN
    have neKAKR : (w.heap.size = w2.heap.size) = False := eq_false (by omega)
    have neKRKA : (w2.heap.size = w.heap.size) = False := eq_false (by omega)
    go_wp2_with fail
    refine (HII.out _ _ (by exact Gr.out)).mono ?_
    rintro e w3 ⟨rfl, hb⟩
    have KA := Lib.hid (KA.out.to hb)
    have KR := Lib.hid (KR.out.to hb)
    have GA := Lib.hid (GA.out.to hb)
    have Gr := Lib.hid (Gr.out.to hb)
    have HBE : Hid (Below w.heap.size w w3) := HBE.out.trans ((hb).mono HBE.out.size)
    clear hb
    go_wp2_with fail
    go_ret2
    rw [HT.out]
    exact ⟨rfl, HBE.out⟩
  have HII : Hid (∀ (W : World) (v : Value), RV W v a.neg a.x a.y → Calls Tryd.prog 42 #[v] W fun e w' => e = .returned (.bool true) ∧ Below W.heap.size W w') := fun W v h => by
    have := risInt_any a.neg a.x a.y v W h (by have := HL.out; omega)
    rw [cmpI_one_true hy] at this
    exact this
  have HSH : Hid (∀ (W : World) (v : Value), Nat16 W v 1 → Calls Tryd.prog 44 #[v, .int .i64 63] W (RPost W P63)) := fun W v h => by
    have := rshl_any 1 63 v W h (by rw [digs_one16]; decide) (by decide)
    rw [show 1 * 2 ^ 63 = P63 from by decide] at this
    exact this
  have HW1 : Hid (∀ (W : World) (v : Value), Nat16 W v P63 → Calls Tryd.prog 43 #[.bool true, v] W (RVPost W true P63 1)) := fun W v h => by
    have := rwhole_any true P63 v W h
    rw [show (true && decide (0 < P63)) = true from by decide] at this
    exact this
  have HSB : Hid (∀ (W : World) (u v : Value), Nat16 W u P63 → Nat16 W v 1 → Calls Tryd.prog 45 #[u, v] W (RPost W (P63 - 1))) := fun W u v h1 h2 => rsub_any P63 1 u v W h1 h2 (by have := p63_len; omega) (by decide)
  have HW2 : Hid (∀ (W : World) (v : Value), Nat16 W v (P63 - 1) → Calls Tryd.prog 43 #[.bool false, v] W (RVPost W false (P63 - 1) 1)) := fun W v h => rwhole_any false (P63 - 1) v W h
  have HC1 : Hid (∀ (W : World) (u v : Value), RV W u a.neg a.x a.y → RV W v true P63 1 → Calls Tryd.prog 16 #[u, v] W fun e w' => e = .returned (.int .i64 (cmpQ a.neg a.x a.y true P63 1)) ∧ Below W.heap.size W w') := fun W u v h1 h2 => rcmpR_any _ _ _ _ _ _ u v W h1 h2 (by have := HL.out; omega) (by have := HL.out; omega) (by have := p63_len; omega) (by rw [digs_one16]; decide)
  have HC2 : Hid (∀ (W : World) (u v : Value), RV W u a.neg a.x a.y → RV W v false (P63 - 1) 1 → Calls Tryd.prog 16 #[u, v] W fun e w' => e = .returned (.int .i64 (cmpQ a.neg a.x a.y false (P63 - 1) 1)) ∧ Below W.heap.size W w') := fun W u v h1 h2 => rcmpR_any _ _ _ _ _ _ u v W h1 h2 (by have := HL.out; omega) (by have := HL.out; omega) (by have := p63_pred; omega) (by rw [digs_one16]; decide)
  have hc1 := cmp_least hcan.2.2 hy
  have hc2 := cmp_most hcan.2.2 hy
  generalize cmpQ a.neg a.x a.y true P63 1 = z1 at *
  generalize cmpQ a.neg a.x a.y false (P63 - 1) 1 = z2 at *
  by_cases h1 : a.neg = true ∧ P63 < a.x
  · have HT := Lib.hid (toIntS_long e0 hy (.inl h1))
    have hz : z1 < 0 := hc1.2 h1
    generalize toIntS a = r at *
    generalize P63 = P at *
    clear e0 hy p1 p2 p3 p4 hcan hbd hc1 hc2 h1 HC2
    go_enter Tryd.func13, Tryd.ntmps13
    go_wp2_with fail
    refine (HFA.out _ _ (by exact GA.out)).mono ?_
    rintro e w1 ⟨rfl, hb⟩
    have KA := Lib.hid (KA.out.to hb)
    have GA := Lib.hid (GA.out.to hb)
    have HBE : Hid (Below w.heap.size w w1) := HBE.out.trans ((hb).mono HBE.out.size)
    clear hb
    have ka0 := KA.out.cell 0
    have ka1 := KA.out.cell 1
    have ka2 := KA.out.cell 2
    simp only [List.getElem?_toArray, List.getElem?_cons_zero, List.getElem?_cons_succ] at ka0 ka1 ka2
    go_wp2_with fail
    refine (HOF.out _ _ (by exact GA.out)).mono ?_
    rintro e w2 ⟨v, rfl, hg, hb⟩
    clear ka0 ka1 ka2
    have KA := Lib.hid (KA.out.to hb)
    have GA := Lib.hid (GA.out.to hb)
    have HBE : Hid (Below w.heap.size w w2) := HBE.out.trans ((hb).mono HBE.out.size)
    clear hb
    obtain ⟨Ar, nr, cr, Br, mr, dr, rfl, hq1, hq2⟩ := hg.form
    have Gr := Lib.hid hg
    clear hq1 hq2 hg
    have ltKAKR := KA.out.lt
    have KRN := Lib.hid (Blk.new w2 38 #[.bool a.neg, .slice Ar nr cr, .slice Br mr dr])
    have KA := Lib.hid (KA.out.to (below_one w2 (.cells #[.bool a.neg, .slice Ar nr cr, .slice Br mr dr] 38)))
    have GA := Lib.hid (GA.out.to (below_one w2 (.cells #[.bool a.neg, .slice Ar nr cr, .slice Br mr dr] 38)))
    have Gr := Lib.hid (Gr.out.to (below_one w2 (.cells #[.bool a.neg, .slice Ar nr cr, .slice Br mr dr] 38)))
    have HBE : Hid (Below w.heap.size w (w2.alloc (.cells #[.bool a.neg, .slice Ar nr cr, .slice Br mr dr] 38))) := HBE.out.trans (((below_one w2 (.cells #[.bool a.neg, .slice Ar nr cr, .slice Br mr dr] 38))).mono HBE.out.size)
    have KR := KRN
    clear KRN
    have neKAKR : (w.heap.size = w2.heap.size) = False := eq_false (by omega)
    have neKRKA : (w2.heap.size = w.heap.size) = False := eq_false (by omega)
    go_wp2_with fail
    refine (HII.out _ _ (by exact Gr.out)).mono ?_
    rintro e w3 ⟨rfl, hb⟩
    have KA := Lib.hid (KA.out.to hb)
    have KR := Lib.hid (KR.out.to hb)
    have GA := Lib.hid (GA.out.to hb)
    have Gr := Lib.hid (Gr.out.to hb)
    have HBE : Hid (Below w.heap.size w w3) := HBE.out.trans ((hb).mono HBE.out.size)
    clear hb
    go_wp2_with fail
    refine (HSH.out _ _ (by exact one16' _ _ rfl)).mono ?_
    rintro e w4 ⟨v, rfl, hn, hb⟩
    have hb : Below (w3).heap.size w3 w4 := (below_one _ _).trans (hb.mono (below_one _ _).size)
    have KA := Lib.hid (KA.out.to hb)
    have KR := Lib.hid (KR.out.to hb)
    have GA := Lib.hid (GA.out.to hb)
    have Gr := Lib.hid (Gr.out.to hb)
    have HBE : Hid (Below w.heap.size w w4) := HBE.out.trans ((hb).mono HBE.out.size)
    clear hb
    have N1 := Lib.hid hn
    clear hn
    go_wp2_with fail
    refine (HW1.out _ _ (by exact N1.out)).mono ?_
    rintro e w5 ⟨v, rfl, hg, hb⟩
    have KA := Lib.hid (KA.out.to hb)
    have KR := Lib.hid (KR.out.to hb)
    have GA := Lib.hid (GA.out.to hb)
    have Gr := Lib.hid (Gr.out.to hb)
    have N1 := Lib.hid (N1.out.to hb)
    have HBE : Hid (Below w.heap.size w w5) := HBE.out.trans ((hb).mono HBE.out.size)
    clear hb
    clear N1
    obtain ⟨Al, nl, cl, Bl, ml, dl, rfl, hq1, hq2⟩ := hg.form
    have Gl := Lib.hid hg
    clear hq1 hq2 hg
    have ltKAKL := KA.out.lt
    have ltKRKL := KR.out.lt
    have KLN := Lib.hid (Blk.new w5 38 #[.bool true, .slice Al nl cl, .slice Bl ml dl])
    have KA := Lib.hid (KA.out.to (below_one w5 (.cells #[.bool true, .slice Al nl cl, .slice Bl ml dl] 38)))
    have KR := Lib.hid (KR.out.to (below_one w5 (.cells #[.bool true, .slice Al nl cl, .slice Bl ml dl] 38)))
    have GA := Lib.hid (GA.out.to (below_one w5 (.cells #[.bool true, .slice Al nl cl, .slice Bl ml dl] 38)))
    have Gr := Lib.hid (Gr.out.to (below_one w5 (.cells #[.bool true, .slice Al nl cl, .slice Bl ml dl] 38)))
    have Gl := Lib.hid (Gl.out.to (below_one w5 (.cells #[.bool true, .slice Al nl cl, .slice Bl ml dl] 38)))
    have HBE : Hid (Below w.heap.size w (w5.alloc (.cells #[.bool true, .slice Al nl cl, .slice Bl ml dl] 38))) := HBE.out.trans (((below_one w5 (.cells #[.bool true, .slice Al nl cl, .slice Bl ml dl] 38))).mono HBE.out.size)
    have KL := KLN
    clear KLN
    have neKAKL : (w.heap.size = w5.heap.size) = False := eq_false (by omega)
    have neKLKA : (w5.heap.size = w.heap.size) = False := eq_false (by omega)
    have neKRKL : (w2.heap.size = w5.heap.size) = False := eq_false (by omega)
    have neKLKR : (w5.heap.size = w2.heap.size) = False := eq_false (by omega)
    go_wp2_with fail
    refine (HSH.out _ _ (by exact one16' _ _ (by simp))).mono ?_
    rintro e w6 ⟨v, rfl, hn, hb⟩
    have hb : Below ((w5.alloc (.cells #[.bool true, .slice Al nl cl, .slice Bl ml dl] 38))).heap.size (w5.alloc (.cells #[.bool true, .slice Al nl cl, .slice Bl ml dl] 38)) w6 := (below_one _ _).trans (hb.mono (below_one _ _).size)
    have KA := Lib.hid (KA.out.to hb)
    have KR := Lib.hid (KR.out.to hb)
    have KL := Lib.hid (KL.out.to hb)
    have GA := Lib.hid (GA.out.to hb)
    have Gr := Lib.hid (Gr.out.to hb)
    have Gl := Lib.hid (Gl.out.to hb)
    have HBE : Hid (Below w.heap.size w w6) := HBE.out.trans ((hb).mono HBE.out.size)
    clear hb
    have N2 := Lib.hid hn
    clear hn
    obtain ⟨AN, nN, cN, rfl, hq1⟩ := N2.out.form
    clear hq1
    go_wp2_with fail
    refine (HSB.out _ _ _ (by exact N2.out.to (below_one _ _)) (by exact one16' _ _ rfl)).mono ?_
    rintro e w7 ⟨v, rfl, hn, hb⟩
    have hb : Below (w6).heap.size w6 w7 := (below_one _ _).trans (hb.mono (below_one _ _).size)
    have KA := Lib.hid (KA.out.to hb)
    have KR := Lib.hid (KR.out.to hb)
    have KL := Lib.hid (KL.out.to hb)
    have GA := Lib.hid (GA.out.to hb)
    have Gr := Lib.hid (Gr.out.to hb)
    have Gl := Lib.hid (Gl.out.to hb)
    have N2 := Lib.hid (N2.out.to hb)
    have HBE : Hid (Below w.heap.size w w7) := HBE.out.trans ((hb).mono HBE.out.size)
    clear hb
    clear N2
    have N3 := Lib.hid hn
    clear hn
    go_wp2_with fail
    refine (HW2.out _ _ (by exact N3.out)).mono ?_
    rintro e w8 ⟨v, rfl, hg, hb⟩
    have KA := Lib.hid (KA.out.to hb)
    have KR := Lib.hid (KR.out.to hb)
    have KL := Lib.hid (KL.out.to hb)
    have GA := Lib.hid (GA.out.to hb)
    have Gr := Lib.hid (Gr.out.to hb)
    have Gl := Lib.hid (Gl.out.to hb)
    have N3 := Lib.hid (N3.out.to hb)
    have HBE : Hid (Below w.heap.size w w8) := HBE.out.trans ((hb).mono HBE.out.size)
    clear hb
    clear N3
    obtain ⟨Ag, ng, cg, Bg, mg, dg, rfl, hq1, hq2⟩ := hg.form
    have Gg := Lib.hid hg
    clear hq1 hq2 hg
    have kr0 := KR.out.cell 0
    have kr1 := KR.out.cell 1
    have kr2 := KR.out.cell 2
    have kl0 := KL.out.cell 0
    have kl1 := KL.out.cell 1
    have kl2 := KL.out.cell 2
    simp only [List.getElem?_toArray, List.getElem?_cons_zero, List.getElem?_cons_succ] at kr0 kr1 kr2 kl0 kl1 kl2
    have ltKAKG := KA.out.lt
    have ltKRKG := KR.out.lt
    have ltKLKG := KL.out.lt
    have KGN := Lib.hid (Blk.new w8 38 #[.bool false, .slice Ag ng cg, .slice Bg mg dg])
    have KA := Lib.hid (KA.out.to (below_one w8 (.cells #[.bool false, .slice Ag ng cg, .slice Bg mg dg] 38)))
    have KR := Lib.hid (KR.out.to (below_one w8 (.cells #[.bool false, .slice Ag ng cg, .slice Bg mg dg] 38)))
    have KL := Lib.hid (KL.out.to (below_one w8 (.cells #[.bool false, .slice Ag ng cg, .slice Bg mg dg] 38)))
    have GA := Lib.hid (GA.out.to (below_one w8 (.cells #[.bool false, .slice Ag ng cg, .slice Bg mg dg] 38)))
    have Gr := Lib.hid (Gr.out.to (below_one w8 (.cells #[.bool false, .slice Ag ng cg, .slice Bg mg dg] 38)))
    have Gl := Lib.hid (Gl.out.to (below_one w8 (.cells #[.bool false, .slice Ag ng cg, .slice Bg mg dg] 38)))
    have Gg := Lib.hid (Gg.out.to (below_one w8 (.cells #[.bool false, .slice Ag ng cg, .slice Bg mg dg] 38)))
    have HBE : Hid (Below w.heap.size w (w8.alloc (.cells #[.bool false, .slice Ag ng cg, .slice Bg mg dg] 38))) := HBE.out.trans (((below_one w8 (.cells #[.bool false, .slice Ag ng cg, .slice Bg mg dg] 38))).mono HBE.out.size)
    have KG := KGN
    clear KGN
    have neKAKG : (w.heap.size = w8.heap.size) = False := eq_false (by omega)
    have neKGKA : (w8.heap.size = w.heap.size) = False := eq_false (by omega)
    have neKRKG : (w2.heap.size = w8.heap.size) = False := eq_false (by omega)
    have neKGKR : (w8.heap.size = w2.heap.size) = False := eq_false (by omega)
    have neKLKG : (w5.heap.size = w8.heap.size) = False := eq_false (by omega)
    have neKGKL : (w8.heap.size = w5.heap.size) = False := eq_false (by omega)
    go_wp2_with fail
    refine (HC1.out _ _ _ (by exact Gr.out) (by exact Gl.out)).mono ?_
    rintro e w9 ⟨rfl, hb⟩
    clear kr0 kr1 kr2 kl0 kl1 kl2
    have KA := Lib.hid (KA.out.to hb)
    have KR := Lib.hid (KR.out.to hb)
    have KL := Lib.hid (KL.out.to hb)
    have KG := Lib.hid (KG.out.to hb)
    have GA := Lib.hid (GA.out.to hb)
    have Gr := Lib.hid (Gr.out.to hb)
    have Gl := Lib.hid (Gl.out.to hb)
    have Gg := Lib.hid (Gg.out.to hb)
    have HBE : Hid (Below w.heap.size w w9) := HBE.out.trans ((hb).mono HBE.out.size)
    clear hb
    go_wp2_with fail
    go_ret2
    rw [HT.out]
    exact ⟨rfl, HBE.out⟩
  have hz1 : 0 ≤ z1 := Int.not_lt.1 fun h => h1 (hc1.1 h)
  by_cases h2 : a.neg = false ∧ P63 ≤ a.x
  · have HT := Lib.hid (toIntS_long e0 hy (.inr h2))
    have hz : 0 < z2 := hc2.2 h2
    generalize toIntS a = r at *
    generalize P63 = P at *
    clear e0 hy p1 p2 p3 p4 hcan hbd hc1 hc2 h1 h2
    go_enter Tryd.func13, Tryd.ntmps13
    go_wp2_with fail
    refine (HFA.out _ _ (by exact GA.out)).mono ?_
    rintro e w1 ⟨rfl, hb⟩
    have KA := Lib.hid (KA.out.to hb)
    have GA := Lib.hid (GA.out.to hb)
    have HBE : Hid (Below w.heap.size w w1) := HBE.out.trans ((hb).mono HBE.out.size)
    clear hb
    have ka0 := KA.out.cell 0
    have ka1 := KA.out.cell 1
    have ka2 := KA.out.cell 2
    simp only [List.getElem?_toArray, List.getElem?_cons_zero, List.getElem?_cons_succ] at ka0 ka1 ka2
    go_wp2_with fail
    refine (HOF.out _ _ (by exact GA.out)).mono ?_
    rintro e w2 ⟨v, rfl, hg, hb⟩
    clear ka0 ka1 ka2
    have KA := Lib.hid (KA.out.to hb)
    have GA := Lib.hid (GA.out.to hb)
    have HBE : Hid (Below w.heap.size w w2) := HBE.out.trans ((hb).mono HBE.out.size)
    clear hb
    obtain ⟨Ar, nr, cr, Br, mr, dr, rfl, hq1, hq2⟩ := hg.form
    have Gr := Lib.hid hg
    clear hq1 hq2 hg
    have ltKAKR := KA.out.lt
    have KRN := Lib.hid (Blk.new w2 38 #[.bool a.neg, .slice Ar nr cr, .slice Br mr dr])
    have KA := Lib.hid (KA.out.to (below_one w2 (.cells #[.bool a.neg, .slice Ar nr cr, .slice Br mr dr] 38)))
    have GA := Lib.hid (GA.out.to (below_one w2 (.cells #[.bool a.neg, .slice Ar nr cr, .slice Br mr dr] 38)))
    have Gr := Lib.hid (Gr.out.to (below_one w2 (.cells #[.bool a.neg, .slice Ar nr cr, .slice Br mr dr] 38)))
    have HBE : Hid (Below w.heap.size w (w2.alloc (.cells #[.bool a.neg, .slice Ar nr cr, .slice Br mr dr] 38))) := HBE.out.trans (((below_one w2 (.cells #[.bool a.neg, .slice Ar nr cr, .slice Br mr dr] 38))).mono HBE.out.size)
    have KR := KRN
    clear KRN
    have neKAKR : (w.heap.size = w2.heap.size) = False := eq_false (by omega)
    have neKRKA : (w2.heap.size = w.heap.size) = False := eq_false (by omega)
    go_wp2_with fail
    refine (HII.out _ _ (by exact Gr.out)).mono ?_
    rintro e w3 ⟨rfl, hb⟩
    have KA := Lib.hid (KA.out.to hb)
    have KR := Lib.hid (KR.out.to hb)
    have GA := Lib.hid (GA.out.to hb)
    have Gr := Lib.hid (Gr.out.to hb)
    have HBE : Hid (Below w.heap.size w w3) := HBE.out.trans ((hb).mono HBE.out.size)
    clear hb
    go_wp2_with fail
    refine (HSH.out _ _ (by exact one16' _ _ rfl)).mono ?_
    rintro e w4 ⟨v, rfl, hn, hb⟩
    have hb : Below (w3).heap.size w3 w4 := (below_one _ _).trans (hb.mono (below_one _ _).size)
    have KA := Lib.hid (KA.out.to hb)
    have KR := Lib.hid (KR.out.to hb)
    have GA := Lib.hid (GA.out.to hb)
    have Gr := Lib.hid (Gr.out.to hb)
    have HBE : Hid (Below w.heap.size w w4) := HBE.out.trans ((hb).mono HBE.out.size)
    clear hb
    have N1 := Lib.hid hn
    clear hn
    go_wp2_with fail
    refine (HW1.out _ _ (by exact N1.out)).mono ?_
    rintro e w5 ⟨v, rfl, hg, hb⟩
    have KA := Lib.hid (KA.out.to hb)
    have KR := Lib.hid (KR.out.to hb)
    have GA := Lib.hid (GA.out.to hb)
    have Gr := Lib.hid (Gr.out.to hb)
    have N1 := Lib.hid (N1.out.to hb)
    have HBE : Hid (Below w.heap.size w w5) := HBE.out.trans ((hb).mono HBE.out.size)
    clear hb
    clear N1
    obtain ⟨Al, nl, cl, Bl, ml, dl, rfl, hq1, hq2⟩ := hg.form
    have Gl := Lib.hid hg
    clear hq1 hq2 hg
    have ltKAKL := KA.out.lt
    have ltKRKL := KR.out.lt
    have KLN := Lib.hid (Blk.new w5 38 #[.bool true, .slice Al nl cl, .slice Bl ml dl])
    have KA := Lib.hid (KA.out.to (below_one w5 (.cells #[.bool true, .slice Al nl cl, .slice Bl ml dl] 38)))
    have KR := Lib.hid (KR.out.to (below_one w5 (.cells #[.bool true, .slice Al nl cl, .slice Bl ml dl] 38)))
    have GA := Lib.hid (GA.out.to (below_one w5 (.cells #[.bool true, .slice Al nl cl, .slice Bl ml dl] 38)))
    have Gr := Lib.hid (Gr.out.to (below_one w5 (.cells #[.bool true, .slice Al nl cl, .slice Bl ml dl] 38)))
    have Gl := Lib.hid (Gl.out.to (below_one w5 (.cells #[.bool true, .slice Al nl cl, .slice Bl ml dl] 38)))
    have HBE : Hid (Below w.heap.size w (w5.alloc (.cells #[.bool true, .slice Al nl cl, .slice Bl ml dl] 38))) := HBE.out.trans (((below_one w5 (.cells #[.bool true, .slice Al nl cl, .slice Bl ml dl] 38))).mono HBE.out.size)
    have KL := KLN
    clear KLN
    have neKAKL : (w.heap.size = w5.heap.size) = False := eq_false (by omega)
    have neKLKA : (w5.heap.size = w.heap.size) = False := eq_false (by omega)
    have neKRKL : (w2.heap.size = w5.heap.size) = False := eq_false (by omega)
    have neKLKR : (w5.heap.size = w2.heap.size) = False := eq_false (by omega)
    go_wp2_with fail
    refine (HSH.out _ _ (by exact one16' _ _ (by simp))).mono ?_
    rintro e w6 ⟨v, rfl, hn, hb⟩
    have hb : Below ((w5.alloc (.cells #[.bool true, .slice Al nl cl, .slice Bl ml dl] 38))).heap.size (w5.alloc (.cells #[.bool true, .slice Al nl cl, .slice Bl ml dl] 38)) w6 := (below_one _ _).trans (hb.mono (below_one _ _).size)
    have KA := Lib.hid (KA.out.to hb)
    have KR := Lib.hid (KR.out.to hb)
    have KL := Lib.hid (KL.out.to hb)
    have GA := Lib.hid (GA.out.to hb)
    have Gr := Lib.hid (Gr.out.to hb)
    have Gl := Lib.hid (Gl.out.to hb)
    have HBE : Hid (Below w.heap.size w w6) := HBE.out.trans ((hb).mono HBE.out.size)
    clear hb
    have N2 := Lib.hid hn
    clear hn
    obtain ⟨AN, nN, cN, rfl, hq1⟩ := N2.out.form
    clear hq1
    go_wp2_with fail
    refine (HSB.out _ _ _ (by exact N2.out.to (below_one _ _)) (by exact one16' _ _ rfl)).mono ?_
    rintro e w7 ⟨v, rfl, hn, hb⟩
    have hb : Below (w6).heap.size w6 w7 := (below_one _ _).trans (hb.mono (below_one _ _).size)
    have KA := Lib.hid (KA.out.to hb)
    have KR := Lib.hid (KR.out.to hb)
    have KL := Lib.hid (KL.out.to hb)
    have GA := Lib.hid (GA.out.to hb)
    have Gr := Lib.hid (Gr.out.to hb)
    have Gl := Lib.hid (Gl.out.to hb)
    have N2 := Lib.hid (N2.out.to hb)
    have HBE : Hid (Below w.heap.size w w7) := HBE.out.trans ((hb).mono HBE.out.size)
    clear hb
    clear N2
    have N3 := Lib.hid hn
    clear hn
    go_wp2_with fail
    refine (HW2.out _ _ (by exact N3.out)).mono ?_
    rintro e w8 ⟨v, rfl, hg, hb⟩
    have KA := Lib.hid (KA.out.to hb)
    have KR := Lib.hid (KR.out.to hb)
    have KL := Lib.hid (KL.out.to hb)
    have GA := Lib.hid (GA.out.to hb)
    have Gr := Lib.hid (Gr.out.to hb)
    have Gl := Lib.hid (Gl.out.to hb)
    have N3 := Lib.hid (N3.out.to hb)
    have HBE : Hid (Below w.heap.size w w8) := HBE.out.trans ((hb).mono HBE.out.size)
    clear hb
    clear N3
    obtain ⟨Ag, ng, cg, Bg, mg, dg, rfl, hq1, hq2⟩ := hg.form
    have Gg := Lib.hid hg
    clear hq1 hq2 hg
    have kr0 := KR.out.cell 0
    have kr1 := KR.out.cell 1
    have kr2 := KR.out.cell 2
    have kl0 := KL.out.cell 0
    have kl1 := KL.out.cell 1
    have kl2 := KL.out.cell 2
    simp only [List.getElem?_toArray, List.getElem?_cons_zero, List.getElem?_cons_succ] at kr0 kr1 kr2 kl0 kl1 kl2
    have ltKAKG := KA.out.lt
    have ltKRKG := KR.out.lt
    have ltKLKG := KL.out.lt
    have KGN := Lib.hid (Blk.new w8 38 #[.bool false, .slice Ag ng cg, .slice Bg mg dg])
    have KA := Lib.hid (KA.out.to (below_one w8 (.cells #[.bool false, .slice Ag ng cg, .slice Bg mg dg] 38)))
    have KR := Lib.hid (KR.out.to (below_one w8 (.cells #[.bool false, .slice Ag ng cg, .slice Bg mg dg] 38)))
    have KL := Lib.hid (KL.out.to (below_one w8 (.cells #[.bool false, .slice Ag ng cg, .slice Bg mg dg] 38)))
    have GA := Lib.hid (GA.out.to (below_one w8 (.cells #[.bool false, .slice Ag ng cg, .slice Bg mg dg] 38)))
    have Gr := Lib.hid (Gr.out.to (below_one w8 (.cells #[.bool false, .slice Ag ng cg, .slice Bg mg dg] 38)))
    have Gl := Lib.hid (Gl.out.to (below_one w8 (.cells #[.bool false, .slice Ag ng cg, .slice Bg mg dg] 38)))
    have Gg := Lib.hid (Gg.out.to (below_one w8 (.cells #[.bool false, .slice Ag ng cg, .slice Bg mg dg] 38)))
    have HBE : Hid (Below w.heap.size w (w8.alloc (.cells #[.bool false, .slice Ag ng cg, .slice Bg mg dg] 38))) := HBE.out.trans (((below_one w8 (.cells #[.bool false, .slice Ag ng cg, .slice Bg mg dg] 38))).mono HBE.out.size)
    have KG := KGN
    clear KGN
    have neKAKG : (w.heap.size = w8.heap.size) = False := eq_false (by omega)
    have neKGKA : (w8.heap.size = w.heap.size) = False := eq_false (by omega)
    have neKRKG : (w2.heap.size = w8.heap.size) = False := eq_false (by omega)
    have neKGKR : (w8.heap.size = w2.heap.size) = False := eq_false (by omega)
    have neKLKG : (w5.heap.size = w8.heap.size) = False := eq_false (by omega)
    have neKGKL : (w8.heap.size = w5.heap.size) = False := eq_false (by omega)
    go_wp2_with fail
    refine (HC1.out _ _ _ (by exact Gr.out) (by exact Gl.out)).mono ?_
    rintro e w9 ⟨rfl, hb⟩
    clear kr0 kr1 kr2 kl0 kl1 kl2
    have KA := Lib.hid (KA.out.to hb)
    have KR := Lib.hid (KR.out.to hb)
    have KL := Lib.hid (KL.out.to hb)
    have KG := Lib.hid (KG.out.to hb)
    have GA := Lib.hid (GA.out.to hb)
    have Gr := Lib.hid (Gr.out.to hb)
    have Gl := Lib.hid (Gl.out.to hb)
    have Gg := Lib.hid (Gg.out.to hb)
    have HBE : Hid (Below w.heap.size w w9) := HBE.out.trans ((hb).mono HBE.out.size)
    clear hb
    have kr0 := KR.out.cell 0
    have kr1 := KR.out.cell 1
    have kr2 := KR.out.cell 2
    have kg0 := KG.out.cell 0
    have kg1 := KG.out.cell 1
    have kg2 := KG.out.cell 2
    simp only [List.getElem?_toArray, List.getElem?_cons_zero, List.getElem?_cons_succ] at kr0 kr1 kr2 kg0 kg1 kg2
    go_wp2_with fail
    refine (HC2.out _ _ _ (by exact Gr.out) (by exact Gg.out)).mono ?_
    rintro e w10 ⟨rfl, hb⟩
    clear kr0 kr1 kr2 kg0 kg1 kg2
    have KA := Lib.hid (KA.out.to hb)
    have KR := Lib.hid (KR.out.to hb)
    have KL := Lib.hid (KL.out.to hb)
    have KG := Lib.hid (KG.out.to hb)
    have GA := Lib.hid (GA.out.to hb)
    have Gr := Lib.hid (Gr.out.to hb)
    have Gl := Lib.hid (Gl.out.to hb)
    have Gg := Lib.hid (Gg.out.to hb)
    have HBE : Hid (Below w.heap.size w w10) := HBE.out.trans ((hb).mono HBE.out.size)
    clear hb
    go_wp2_with fail
    go_ret2
    rw [HT.out]
    exact ⟨rfl, HBE.out⟩
  have hz2 : z2 ≤ 0 := Int.not_lt.1 fun h => h2 (hc2.1 h)
  obtain ⟨ht, hxp, hxn⟩ := toIntS_fit e0 hy h1 h2
  have HT := Lib.hid ht
  have HXP := Lib.hid hxp
  have HXN := Lib.hid hxn
  generalize toIntS a = r at *
  clear e0 hy p1 p2 p3 p4 hcan hbd hc1 hc2 h1 h2 ht hxp hxn
  go_enter Tryd.func13, Tryd.ntmps13
  go_wp2_with fail
  refine (HFA.out _ _ (by exact GA.out)).mono ?_
  rintro e w1 ⟨rfl, hb⟩
  have KA := Lib.hid (KA.out.to hb)
  have GA := Lib.hid (GA.out.to hb)
  have HBE : Hid (Below w.heap.size w w1) := HBE.out.trans ((hb).mono HBE.out.size)
  clear hb
  have ka0 := KA.out.cell 0
  have ka1 := KA.out.cell 1
  have ka2 := KA.out.cell 2
  simp only [List.getElem?_toArray, List.getElem?_cons_zero, List.getElem?_cons_succ] at ka0 ka1 ka2
  go_wp2_with fail
  refine (HOF.out _ _ (by exact GA.out)).mono ?_
  rintro e w2 ⟨v, rfl, hg, hb⟩
  clear ka0 ka1 ka2
  have KA := Lib.hid (KA.out.to hb)
  have GA := Lib.hid (GA.out.to hb)
  have HBE : Hid (Below w.heap.size w w2) := HBE.out.trans ((hb).mono HBE.out.size)
  clear hb
  obtain ⟨Ar, nr, cr, Br, mr, dr, rfl, hq1, hq2⟩ := hg.form
  have Gr := Lib.hid hg
  clear hq1 hq2 hg
  have ltKAKR := KA.out.lt
  have KRN := Lib.hid (Blk.new w2 38 #[.bool a.neg, .slice Ar nr cr, .slice Br mr dr])
  have KA := Lib.hid (KA.out.to (below_one w2 (.cells #[.bool a.neg, .slice Ar nr cr, .slice Br mr dr] 38)))
  have GA := Lib.hid (GA.out.to (below_one w2 (.cells #[.bool a.neg, .slice Ar nr cr, .slice Br mr dr] 38)))
  have Gr := Lib.hid (Gr.out.to (below_one w2 (.cells #[.bool a.neg, .slice Ar nr cr, .slice Br mr dr] 38)))
  have HBE : Hid (Below w.heap.size w (w2.alloc (.cells #[.bool a.neg, .slice Ar nr cr, .slice Br mr dr] 38))) := HBE.out.trans (((below_one w2 (.cells #[.bool a.neg, .slice Ar nr cr, .slice Br mr dr] 38))).mono HBE.out.size)
  have KR := KRN
  clear KRN
  have neKAKR : (w.heap.size = w2.heap.size) = False := eq_false (by omega)
  have neKRKA : (w2.heap.size = w.heap.size) = False := eq_false (by omega)
  go_wp2_with fail
  refine (HII.out _ _ (by exact Gr.out)).mono ?_
  rintro e w3 ⟨rfl, hb⟩
  have KA := Lib.hid (KA.out.to hb)
  have KR := Lib.hid (KR.out.to hb)
  have GA := Lib.hid (GA.out.to hb)
  have Gr := Lib.hid (Gr.out.to hb)
  have HBE : Hid (Below w.heap.size w w3) := HBE.out.trans ((hb).mono HBE.out.size)
  clear hb
  go_wp2_with fail
  refine (HSH.out _ _ (by exact one16' _ _ rfl)).mono ?_
  rintro e w4 ⟨v, rfl, hn, hb⟩
  have hb : Below (w3).heap.size w3 w4 := (below_one _ _).trans (hb.mono (below_one _ _).size)
  have KA := Lib.hid (KA.out.to hb)
  have KR := Lib.hid (KR.out.to hb)
  have GA := Lib.hid (GA.out.to hb)
  have Gr := Lib.hid (Gr.out.to hb)
  have HBE : Hid (Below w.heap.size w w4) := HBE.out.trans ((hb).mono HBE.out.size)
  clear hb
  have N1 := Lib.hid hn
  clear hn
  go_wp2_with fail
  refine (HW1.out _ _ (by exact N1.out)).mono ?_
  rintro e w5 ⟨v, rfl, hg, hb⟩
  have KA := Lib.hid (KA.out.to hb)
  have KR := Lib.hid (KR.out.to hb)
  have GA := Lib.hid (GA.out.to hb)
  have Gr := Lib.hid (Gr.out.to hb)
  have N1 := Lib.hid (N1.out.to hb)
  have HBE : Hid (Below w.heap.size w w5) := HBE.out.trans ((hb).mono HBE.out.size)
  clear hb
  clear N1
  obtain ⟨Al, nl, cl, Bl, ml, dl, rfl, hq1, hq2⟩ := hg.form
  have Gl := Lib.hid hg
  clear hq1 hq2 hg
  have ltKAKL := KA.out.lt
  have ltKRKL := KR.out.lt
  have KLN := Lib.hid (Blk.new w5 38 #[.bool true, .slice Al nl cl, .slice Bl ml dl])
  have KA := Lib.hid (KA.out.to (below_one w5 (.cells #[.bool true, .slice Al nl cl, .slice Bl ml dl] 38)))
  have KR := Lib.hid (KR.out.to (below_one w5 (.cells #[.bool true, .slice Al nl cl, .slice Bl ml dl] 38)))
  have GA := Lib.hid (GA.out.to (below_one w5 (.cells #[.bool true, .slice Al nl cl, .slice Bl ml dl] 38)))
  have Gr := Lib.hid (Gr.out.to (below_one w5 (.cells #[.bool true, .slice Al nl cl, .slice Bl ml dl] 38)))
  have Gl := Lib.hid (Gl.out.to (below_one w5 (.cells #[.bool true, .slice Al nl cl, .slice Bl ml dl] 38)))
  have HBE : Hid (Below w.heap.size w (w5.alloc (.cells #[.bool true, .slice Al nl cl, .slice Bl ml dl] 38))) := HBE.out.trans (((below_one w5 (.cells #[.bool true, .slice Al nl cl, .slice Bl ml dl] 38))).mono HBE.out.size)
  have KL := KLN
  clear KLN
  have neKAKL : (w.heap.size = w5.heap.size) = False := eq_false (by omega)
  have neKLKA : (w5.heap.size = w.heap.size) = False := eq_false (by omega)
  have neKRKL : (w2.heap.size = w5.heap.size) = False := eq_false (by omega)
  have neKLKR : (w5.heap.size = w2.heap.size) = False := eq_false (by omega)
  go_wp2_with fail
  refine (HSH.out _ _ (by exact one16' _ _ (by simp))).mono ?_
  rintro e w6 ⟨v, rfl, hn, hb⟩
  have hb : Below ((w5.alloc (.cells #[.bool true, .slice Al nl cl, .slice Bl ml dl] 38))).heap.size (w5.alloc (.cells #[.bool true, .slice Al nl cl, .slice Bl ml dl] 38)) w6 := (below_one _ _).trans (hb.mono (below_one _ _).size)
  have KA := Lib.hid (KA.out.to hb)
  have KR := Lib.hid (KR.out.to hb)
  have KL := Lib.hid (KL.out.to hb)
  have GA := Lib.hid (GA.out.to hb)
  have Gr := Lib.hid (Gr.out.to hb)
  have Gl := Lib.hid (Gl.out.to hb)
  have HBE : Hid (Below w.heap.size w w6) := HBE.out.trans ((hb).mono HBE.out.size)
  clear hb
  have N2 := Lib.hid hn
  clear hn
  obtain ⟨AN, nN, cN, rfl, hq1⟩ := N2.out.form
  clear hq1
  go_wp2_with fail
  refine (HSB.out _ _ _ (by exact N2.out.to (below_one _ _)) (by exact one16' _ _ rfl)).mono ?_
  rintro e w7 ⟨v, rfl, hn, hb⟩
  have hb : Below (w6).heap.size w6 w7 := (below_one _ _).trans (hb.mono (below_one _ _).size)
  have KA := Lib.hid (KA.out.to hb)
  have KR := Lib.hid (KR.out.to hb)
  have KL := Lib.hid (KL.out.to hb)
  have GA := Lib.hid (GA.out.to hb)
  have Gr := Lib.hid (Gr.out.to hb)
  have Gl := Lib.hid (Gl.out.to hb)
  have N2 := Lib.hid (N2.out.to hb)
  have HBE : Hid (Below w.heap.size w w7) := HBE.out.trans ((hb).mono HBE.out.size)
  clear hb
  clear N2
  have N3 := Lib.hid hn
  clear hn
  go_wp2_with fail
  refine (HW2.out _ _ (by exact N3.out)).mono ?_
  rintro e w8 ⟨v, rfl, hg, hb⟩
  have KA := Lib.hid (KA.out.to hb)
  have KR := Lib.hid (KR.out.to hb)
  have KL := Lib.hid (KL.out.to hb)
  have GA := Lib.hid (GA.out.to hb)
  have Gr := Lib.hid (Gr.out.to hb)
  have Gl := Lib.hid (Gl.out.to hb)
  have N3 := Lib.hid (N3.out.to hb)
  have HBE : Hid (Below w.heap.size w w8) := HBE.out.trans ((hb).mono HBE.out.size)
  clear hb
  clear N3
  obtain ⟨Ag, ng, cg, Bg, mg, dg, rfl, hq1, hq2⟩ := hg.form
  have Gg := Lib.hid hg
  clear hq1 hq2 hg
  have kr0 := KR.out.cell 0
  have kr1 := KR.out.cell 1
  have kr2 := KR.out.cell 2
  have kl0 := KL.out.cell 0
  have kl1 := KL.out.cell 1
  have kl2 := KL.out.cell 2
  simp only [List.getElem?_toArray, List.getElem?_cons_zero, List.getElem?_cons_succ] at kr0 kr1 kr2 kl0 kl1 kl2
  have ltKAKG := KA.out.lt
  have ltKRKG := KR.out.lt
  have ltKLKG := KL.out.lt
  have KGN := Lib.hid (Blk.new w8 38 #[.bool false, .slice Ag ng cg, .slice Bg mg dg])
  have KA := Lib.hid (KA.out.to (below_one w8 (.cells #[.bool false, .slice Ag ng cg, .slice Bg mg dg] 38)))
  have KR := Lib.hid (KR.out.to (below_one w8 (.cells #[.bool false, .slice Ag ng cg, .slice Bg mg dg] 38)))
  have KL := Lib.hid (KL.out.to (below_one w8 (.cells #[.bool false, .slice Ag ng cg, .slice Bg mg dg] 38)))
  have GA := Lib.hid (GA.out.to (below_one w8 (.cells #[.bool false, .slice Ag ng cg, .slice Bg mg dg] 38)))
  have Gr := Lib.hid (Gr.out.to (below_one w8 (.cells #[.bool false, .slice Ag ng cg, .slice Bg mg dg] 38)))
  have Gl := Lib.hid (Gl.out.to (below_one w8 (.cells #[.bool false, .slice Ag ng cg, .slice Bg mg dg] 38)))
  have Gg := Lib.hid (Gg.out.to (below_one w8 (.cells #[.bool false, .slice Ag ng cg, .slice Bg mg dg] 38)))
  have HBE : Hid (Below w.heap.size w (w8.alloc (.cells #[.bool false, .slice Ag ng cg, .slice Bg mg dg] 38))) := HBE.out.trans (((below_one w8 (.cells #[.bool false, .slice Ag ng cg, .slice Bg mg dg] 38))).mono HBE.out.size)
  have KG := KGN
  clear KGN
  have neKAKG : (w.heap.size = w8.heap.size) = False := eq_false (by omega)
  have neKGKA : (w8.heap.size = w.heap.size) = False := eq_false (by omega)
  have neKRKG : (w2.heap.size = w8.heap.size) = False := eq_false (by omega)
  have neKGKR : (w8.heap.size = w2.heap.size) = False := eq_false (by omega)
  have neKLKG : (w5.heap.size = w8.heap.size) = False := eq_false (by omega)
  have neKGKL : (w8.heap.size = w5.heap.size) = False := eq_false (by omega)
  go_wp2_with fail
  refine (HC1.out _ _ _ (by exact Gr.out) (by exact Gl.out)).mono ?_
  rintro e w9 ⟨rfl, hb⟩
  clear kr0 kr1 kr2 kl0 kl1 kl2
  have KA := Lib.hid (KA.out.to hb)
  have KR := Lib.hid (KR.out.to hb)
  have KL := Lib.hid (KL.out.to hb)
  have KG := Lib.hid (KG.out.to hb)
  have GA := Lib.hid (GA.out.to hb)
  have Gr := Lib.hid (Gr.out.to hb)
  have Gl := Lib.hid (Gl.out.to hb)
  have Gg := Lib.hid (Gg.out.to hb)
  have HBE : Hid (Below w.heap.size w w9) := HBE.out.trans ((hb).mono HBE.out.size)
  clear hb
  have kr0 := KR.out.cell 0
  have kr1 := KR.out.cell 1
  have kr2 := KR.out.cell 2
  have kg0 := KG.out.cell 0
  have kg1 := KG.out.cell 1
  have kg2 := KG.out.cell 2
  simp only [List.getElem?_toArray, List.getElem?_cons_zero, List.getElem?_cons_succ] at kr0 kr1 kr2 kg0 kg1 kg2
  go_wp2_with fail
  refine (HC2.out _ _ _ (by exact Gr.out) (by exact Gg.out)).mono ?_
  rintro e w10 ⟨rfl, hb⟩
  clear kr0 kr1 kr2 kg0 kg1 kg2
  have KA := Lib.hid (KA.out.to hb)
  have KR := Lib.hid (KR.out.to hb)
  have KL := Lib.hid (KL.out.to hb)
  have KG := Lib.hid (KG.out.to hb)
  have GA := Lib.hid (GA.out.to hb)
  have Gr := Lib.hid (Gr.out.to hb)
  have Gl := Lib.hid (Gl.out.to hb)
  have Gg := Lib.hid (Gg.out.to hb)
  have HBE : Hid (Below w.heap.size w w10) := HBE.out.trans ((hb).mono HBE.out.size)
  clear hb
  have hxs := Gr.out.parts.2.1
  have HVX := Lib.hid (val_digs W16_gt a.x)
  have HOX := Lib.hid (ok_digs W16_gt a.x)
  unfold Nat16 at hxs
  have hlb := HL.out.1
  generalize digs W16 a.x = xs at *
  obtain ⟨Ax, cx, hax, hcx, hmx, hrx⟩ := hxs
  simp only [Value.slice.injEq] at hax
  obtain ⟨rfl, rfl, rfl⟩ := hax
  have HRX := Lib.hid hrx
  generalize hnx : xs.length = n at *
  have HNX := Lib.hid hnx
  clear hrx hnx hcx hmx
  have kr0 := KR.out.cell 0
  have kr1 := KR.out.cell 1
  have kr2 := KR.out.cell 2
  simp only [List.getElem?_toArray, List.getElem?_cons_zero, List.getElem?_cons_succ] at kr0 kr1 kr2
  go_wp2_with fail
  go_loopg [8, 9] (n + 1) (fun gk s8 s9 wr => ∃ (j u : Nat), gk = j + 1 ∧ j ≤ n ∧ s9 = .int .i64 ((j : Int) - 1) ∧ s8 = .int .u64 (u : Int) ∧ Hid (val W16 (xs.drop j) = u) ∧ wr = w10)
  case atStart => exact ⟨n, 0, rfl, Nat.le_refl _, by go_num, rfl, by unfold Hid; rw [List.drop_eq_nil_of_le (by rw [HNX.out]; exact Nat.le_refl _)]; rfl, rfl⟩
  case round =>
    obtain ⟨j, u, rfl, hj, rfl, rfl, HU, rfl⟩ := hrel
    by_cases h0 : 0 < j
    · obtain ⟨b, o, d, rfl, hbb, hde, hcell⟩ := HRX.out.at_ (i := j - 1) (by omega)
      have hd : d < 65536 := by rw [← hde]; exact HOX.out.getD (by decide) _
      have HD := Lib.hid hde
      have hub := top_lt h0 HVX.out HXP.out HU.out
      have hor : bits .or .u64 ((u : Int) * 65536) (d : Int) = ((u * 65536 + d : Nat) : Int) := or_16 u d hub hd
      have hw1 : IntKind.u64.wrap ((u : Int) * 65536) = (u : Int) * 65536 := by rw [IntKind.wrap_u64]; omega
      have hix : ((j : Int) - 1).toNat = j - 1 := by omega
      clear hde hbb
      go_wp2
      go_roundg j
      case measure => omega
      case rel => exact ⟨j - 1, u * 65536 + d, by omega, by omega, by go_num, by go_num, top_step h0 (by rw [HNX.out]; exact hj) HD.out HU.out, rfl⟩
    · obtain rfl : j = 0 := by omega
      have hu : u = a.x := by have := HU.out; rw [List.drop_zero, HVX.out] at this; exact this.symm
      subst hu
      have hp := HXP.out
      have hpn := HXN.out
      have h6 : P63 = 9223372036854775808 := rfl
      rw [h6] at hp hpn
      have HTT : Hid (r = (RatB.sg a.neg a.x, 0)) := HT.out
      unfold RatB.sg at HTT
      generalize a.x = u at *
      cases hn : a.neg with
      | false =>
        rw [hn] at HTT kr0
        simp only [Bool.false_eq_true, if_false] at HTT
        have := hpn hn
        have hwr : IntKind.i64.wrap (u : Int) = (u : Int) := by rw [IntKind.wrap_i64]; omega
        go_wp2
        go_ret2
        rw [HTT.out]
        exact ⟨rfl, HBE.out⟩
      | true =>
        rw [hn] at HTT kr0
        simp only [if_true] at HTT
        obtain ⟨m2, hm1, hm2⟩ : ∃ m2 : Nat, IntKind.u64.wrap (-(u : Int)) = (m2 : Int) ∧ IntKind.i64.wrap (m2 : Int) = -(u : Int) := ⟨(18446744073709551616 - u) % 18446744073709551616, by rw [IntKind.wrap_u64]; omega, by rw [IntKind.wrap_i64]; omega⟩
        go_wp2
        go_ret2
        rw [HTT.out]
        exact ⟨rfl, HBE.out⟩
end Go.Proofs.YtdhgbnnopekfjaaDoor

/- fetterlockref1.Parse, at any text. -/
import Derived.Test.YtdhgbnnopekfjaaDoorJo14
import Derived.Test.YtdhgbnnopekfjaaDoorJo16
import Derived.Test.YtdhgbnnopekfjaaDoorJo27
import Derived.Test.YtdhgbnnopekfjaaDoorJo31
import Derived.Test.YtdhgbnnopekfjaaDoorJo34
set_option linter.unusedVariables false
set_option linter.unusedSimpArgs false
namespace Go.Proofs.YtdhgbnnopekfjaaDoor
open Go.RowKit NumB
set_option linter.unusedVariables false
set_option linter.unusedSimpArgs false

/-- What Parse answers. -/
def parseS (l : List UInt8) : LN × Int := opS (parseErr l) (pNeg l && decide (0 < dval (pCut l).1)) (dval (pCut l).1 / Nat.gcd (dval (pCut l).1) (pDen l)) (pDen l / Nat.gcd (dval (pCut l).1) (pDen l))
theorem parseS_err {l : List UInt8} {z : Int} (h : parseErr l = z) (hz : z ≠ 0) : parseS l = (zeroL, z) := by unfold parseS opS; rw [h, if_neg hz]
theorem trim_lt (l : List UInt8) : ((Lib.trimPrefix l [45]).length < l.length) ↔ Lib.hasPrefix l [45] = true := by
  unfold Lib.trimPrefix
  cases h : Lib.hasPrefix l [45] with
  | false => simp
  | true =>
    simp only [if_true, iff_true]
    cases l with
    | nil => simp [Lib.hasPrefix] at h
    | cons c l => simp

set_option maxRecDepth 100000 in
set_option maxHeartbeats 1600000 in
theorem rparse_long (s : ByteArray) (w : World) (hs : s.size ≤ maxLen) (h : 2500 < s.size) : Calls Tryd.prog 9 #[.string s] w (SPost w (parseS s.data.toList)) := by
  have E : Hid (parseS s.data.toList = (zeroL, 3)) := parseS_err (by unfold parseErr; rw [if_pos (by rw [← Lib.size_eq]; exact h)]) (by decide)
  unfold maxLen at hs
  go_enter Tryd.func9, Tryd.ntmps9
  go_wp2
  refine bodyPost_ret (v := .tuple #[zeroNum, .int .i64 3]) (by rw [results_cell_tmp rfl]; go_simp; rfl) rfl ?_
  rw [E.out]
  exact ⟨_, rfl, GV.zero _, below_one _ _⟩

set_option maxRecDepth 1000000 in
set_option maxHeartbeats 12800000 in
theorem rparse_short (s : ByteArray) (w : World) (h : s.size ≤ 2500) : Calls Tryd.prog 9 #[.string s] w (SPost w (parseS s.data.toList)) := by
  have E : Hid (parseErr s.data.toList = if digitsB (pCut s.data.toList).1 = false ∨ ((pCut s.data.toList).2.2 = true ∧ digitsB (pCut s.data.toList).2.1 = false) then 6 else if pDen s.data.toList = 0 then 10 else 0) := by unfold Hid parseErr; rw [if_neg (by rw [← Lib.size_eq]; omega)]
  have HP := Lib.hid (fun W => Tryd.strings_TrimPrefix s ⟨#[45]⟩ W)
  have hl0 : (Lib.trimPrefix s.data.toList [45]).length ≤ 2500 := Nat.le_trans (trimPrefix_len _ _) (by rw [← Lib.size_eq]; exact h)
  have hl1 := cutB_len (Lib.trimPrefix s.data.toList [45]) 114
  have HCU := Lib.hid (fun W => cut_any ⟨(Lib.trimPrefix s.data.toList [45]).toArray⟩ 114 W (by rw [size_mk]; omega))
  have e45 : (⟨#[45]⟩ : ByteArray).data.toList = [45] := rfl
  have eP : (⟨(Lib.trimPrefix s.data.toList [45]).toArray⟩ : ByteArray).data.toList = Lib.trimPrefix s.data.toList [45] := by simp
  rw [e45] at HP
  rw [eP] at HCU
  have epc : pCut s.data.toList = cutB (Lib.trimPrefix s.data.toList [45]) 114 := rfl
  rw [← epc] at HCU hl1
  have HNG := Lib.hid (trim_lt s.data.toList)
  have hsz : s.data.toList.length = s.size := (Lib.size_eq s).symm
  have HPS : Hid (∀ z : Int, parseErr s.data.toList = z → z ≠ 0 → parseS s.data.toList = (zeroL, z)) := fun z h1 h2 => parseS_err h1 h2
  have HOS : Hid (parseErr s.data.toList = 0 → parseS s.data.toList = opS 0 (pNeg s.data.toList && decide (0 < dval (pCut s.data.toList).1)) (dval (pCut s.data.toList).1 / Nat.gcd (dval (pCut s.data.toList).1) (pDen s.data.toList)) (pDen s.data.toList / Nat.gcd (dval (pCut s.data.toList).1) (pDen s.data.toList))) := fun h => by unfold parseS; rw [h]
  unfold pNeg pDen at *
  rw [hsz] at HNG
  clear eP e45 epc hsz
  generalize parseS s.data.toList = r at *
  generalize (pCut s.data.toList).1 = lnum at *
  generalize (pCut s.data.toList).2.1 = lden at *
  generalize (pCut s.data.toList).2.2 = fr at *
  generalize parseErr s.data.toList = er at *
  generalize Lib.hasPrefix s.data.toList [45] = neg at *
  generalize Lib.trimPrefix s.data.toList [45] = l0 at *
  have HLS : Hid (lnum.length ≤ 2500 ∧ lden.length ≤ 2500) := ⟨by omega, by omega⟩
  have HRD : Hid (∀ (W : World) (l : List UInt8), l.length ≤ 2500 → Calls Tryd.prog 35 #[.string ⟨l.toArray⟩] W fun e w' => e = .returned (.bool (digitsB l)) ∧ w' = W) := fun W l hl => by
    have := rdigits_any ⟨l.toArray⟩ W (by rw [size_mk]; omega)
    rw [show (⟨l.toArray⟩ : ByteArray).data.toList = l by simp] at this
    exact this
  have HOD : Hid (∀ (W : World) (l : List UInt8), l.length ≤ 2500 → allDig l = true → Calls Tryd.prog 36 #[.string ⟨l.toArray⟩] W (RPost W (dval l))) := fun W l hl hd => by
    have := rofDec_any ⟨l.toArray⟩ W (by rw [size_mk]; omega) (by rw [show (⟨l.toArray⟩ : ByteArray).data.toList = l by simp]; exact hd)
    rw [show (⟨l.toArray⟩ : ByteArray).data.toList = l by simp] at this
    exact this
  have KC := Lib.hid (nilBlk w)
  have HBE := Lib.hid (below_one w (.cells #[.bool false, .slice none 0 0, .slice none 0 0] 24))
  have HSL : Hid (∀ l : List UInt8, (⟨l.toArray⟩ : ByteArray).size = l.length) := size_mk
  have HNB : decide ((l0.length : Int) < (s.size : Int)) = neg := by
    have := HNG.out
    cases neg with
    | true => exact decide_eq_true (by have := this.2 rfl; omega)
    | false => exact decide_eq_false (by intro h; have := this.1 (by omega); cases this)
  have HNB2 : decide (l0.length < s.size) = neg := by
    have := HNG.out
    cases neg with
    | true => exact decide_eq_true (this.2 rfl)
    | false => exact decide_eq_false (by intro h; have := this.1 h; cases this)
  have hl2 : l0.length ≤ 2500 := hl0
  have HSZ : (⟨l0.toArray⟩ : ByteArray).size = l0.length := size_mk l0
  clear hl0 hl1 HNG
  by_cases hd1 : digitsB lnum = false
  · have E2 : Hid (r = (zeroL, 6)) := HPS.out 6 (by rw [E.out, if_pos (.inl hd1)]) (by decide)
    have HD1 : Hid (digitsB lnum = false) := hd1
    clear hd1 E HPS HOS
    go_enter Tryd.func9, Tryd.ntmps9
    go_wp2_with fail
    refine (HP.out _).mono ?_
    rintro e w1 ⟨rfl, rfl⟩
    go_wp2_with fail
    refine (HCU.out _).mono ?_
    rintro e w1 ⟨rfl, k1, rfl⟩
    have KC := Lib.hid (KC.out.to (below_drewN (Below.refl _ _) k1))
    have HBE : Hid (Below w.heap.size w _) := below_drewN HBE.out k1
    generalize hwk : (w.alloc (.cells #[.bool false, .slice none 0 0, .slice none 0 0] 24)).drewN k1 = w1 at *
    clear hwk
    go_wp2_with fail
    refine (HRD.out _ lnum HLS.out.1).mono ?_
    rintro e w2 ⟨rfl, rfl⟩
    rw [HD1.out]
    have kc0 := KC.out.cell 0
    have kc1 := KC.out.cell 1
    have kc2 := KC.out.cell 2
    simp only [List.getElem?_toArray, List.getElem?_cons_zero, List.getElem?_cons_succ] at kc0 kc1 kc2
    have fzkc0 := KC.out.frozen 0
    have fzkc1 := KC.out.frozen 1
    have fzkc2 := KC.out.frozen 2
    go_wp2_with fail
    refine bodyPost_ret (v := .tuple #[zeroNum, .int .i64 6]) (by rw [results_cell_tmp rfl]; go_simp; rfl) rfl ?_
    rw [E2.out]
    exact ⟨_, rfl, GV.zero _, put3_below HBE.out (Nat.le_refl _) _ _ _⟩
  have hd1 : digitsB lnum = true := by simpa using hd1
  have HD1 : Hid (digitsB lnum = true) := hd1
  have had1 : allDig lnum = true := by unfold digitsB at hd1; exact (Bool.and_eq_true _ _ ▸ hd1 : _ ∧ _).2
  have hln := digs16_dec (dval_lt had1)
  have HFN : Hid (∀ W : World, Calls Tryd.prog 36 #[.string ⟨lnum.toArray⟩] W (RPost W (dval lnum))) := fun W => HOD.out W lnum HLS.out.1 had1
  have HLN : Hid ((digs W16 (dval lnum)).length ≤ 2500) := by have := HLS.out; exact Nat.le_trans hln this.1
  cases fr with
  | false =>
    rw [if_neg (by simp [hd1])] at E
    simp only [Bool.false_eq_true, if_false] at E HOS
    have E2 : Hid (r = _) := HOS.out (by rw [E.out]; rfl)
    have HMD : Hid (∀ (W : World) (v : Value), RV W v (neg && decide (0 < dval lnum)) (dval lnum / Nat.gcd (dval lnum) 1) (1 / Nat.gcd (dval lnum) 1) → Calls Tryd.prog 37 #[v] W (SPost W r)) := fun W v h => by
      rw [E2.out]
      exact rmade_S2 _ _ _ v W h (Nat.le_trans (digs_len_mono W16_gt (Nat.div_le_self _ _)) (by have := HLN.out; omega)) (Nat.le_trans (digs_len_mono W16_gt (Nat.div_le_self _ _)) (by rw [digs_one16]; decide))
    have HRE : Hid (∀ (W : World) (u v : Value), Nat16 W u (dval lnum) → Nat16 W v 1 → Calls Tryd.prog 38 #[.bool neg, u, v] W (RVPost W (neg && decide (0 < dval lnum)) (dval lnum / Nat.gcd (dval lnum) 1) (1 / Nat.gcd (dval lnum) 1))) := fun W u v h1 h2 => rreduce_any neg _ 1 u v W h1 h2 (by decide) (by have := HLN.out; omega) (by rw [digs_one16]; decide)
    generalize (neg && decide (0 < dval lnum)) = sg at *
    generalize dval lnum / Nat.gcd (dval lnum) 1 = rx at *
    generalize 1 / Nat.gcd (dval lnum) 1 = ry at *
    clear hd1 E had1 hln HPS HOS E2
    go_enter Tryd.func9, Tryd.ntmps9
    go_wp2_with fail
    refine (HP.out _).mono ?_
    rintro e w1 ⟨rfl, rfl⟩
    go_wp2_with fail
    refine (HCU.out _).mono ?_
    rintro e w1 ⟨rfl, k1, rfl⟩
    have KC := Lib.hid (KC.out.to (below_drewN (Below.refl _ _) k1))
    have HBE : Hid (Below w.heap.size w _) := below_drewN HBE.out k1
    generalize hwk : (w.alloc (.cells #[.bool false, .slice none 0 0, .slice none 0 0] 24)).drewN k1 = w1 at *
    clear hwk
    go_wp2_with fail
    refine (HRD.out _ lnum HLS.out.1).mono ?_
    rintro e w2 ⟨rfl, rfl⟩
    rw [HD1.out]
    go_wp2_with fail
    have ND := Lib.hid (one16' w2 _ rfl)
    have KC := Lib.hid (KC.out.to (below_one w2 (.cells #[.int .i64 1] 3)))
    have HBE : Hid (Below w.heap.size w (w2.alloc (.cells #[.int .i64 1] 3))) := HBE.out.trans (((below_one w2 (.cells #[.int .i64 1] 3))).mono HBE.out.size)
    refine (HFN.out _).mono ?_
    rintro e w3 ⟨v, rfl, hn, hb⟩
    have KC := Lib.hid (KC.out.to hb)
    have ND := Lib.hid (ND.out.to hb)
    have HBE : Hid (Below w.heap.size w w3) := HBE.out.trans ((hb).mono HBE.out.size)
    clear hb
    have N5 := Lib.hid hn
    clear hn
    go_wp2_with fail
    refine (HRE.out _ _ _ (by exact N5.out) (by exact ND.out)).mono ?_
    rintro e w4 ⟨v, rfl, hg, hb⟩
    have KC := Lib.hid (KC.out.to hb)
    have ND := Lib.hid (ND.out.to hb)
    have N5 := Lib.hid (N5.out.to hb)
    have HBE : Hid (Below w.heap.size w w4) := HBE.out.trans ((hb).mono HBE.out.size)
    clear hb
    clear N5 ND
    have R6 := Lib.hid hg
    clear hg
    go_wp2_with fail
    refine (HMD.out _ _ (by exact R6.out)).mono ?_
    rintro e w5 ⟨v, rfl, hg, hb⟩
    have KC := Lib.hid (KC.out.to hb)
    have R6 := Lib.hid (R6.out.to hb)
    have HBE : Hid (Below w.heap.size w w5) := HBE.out.trans ((hb).mono HBE.out.size)
    clear hb
    clear R6
    obtain ⟨Az, nz, cz, Bz, mz, dz, rfl, hq1, hq2⟩ := hg.form
    have Gz := Lib.hid hg
    clear hq1 hq2 hg
    have kc0 := KC.out.cell 0
    have kc1 := KC.out.cell 1
    have kc2 := KC.out.cell 2
    simp only [List.getElem?_toArray, List.getElem?_cons_zero, List.getElem?_cons_succ] at kc0 kc1 kc2
    have fzkc0 := KC.out.frozen 0
    have fzkc1 := KC.out.frozen 1
    have fzkc2 := KC.out.frozen 2
    go_wp2_with fail
    refine bodyPost_ret (v := .tuple #[.agg #[.bool r.1.neg, .slice Az nz cz, .slice Bz mz dz], .int .i64 r.2]) (by rw [results_cell_tmp rfl]; go_simp) rfl ?_
    exact ⟨_, rfl, Gz.out.putM KC.out _ _ _, put3_below HBE.out (Nat.le_refl _) _ _ _⟩
  | true =>
    by_cases hd2 : digitsB lden = false
    · have E2 : Hid (r = (zeroL, 6)) := HPS.out 6 (by rw [E.out, if_pos (.inr ⟨rfl, hd2⟩)]) (by decide)
      have HD2 : Hid (digitsB lden = false) := hd2
      clear hd1 hd2 E had1 hln HPS HOS
      go_enter Tryd.func9, Tryd.ntmps9
      go_wp2_with fail
      refine (HP.out _).mono ?_
      rintro e w1 ⟨rfl, rfl⟩
      go_wp2_with fail
      refine (HCU.out _).mono ?_
      rintro e w1 ⟨rfl, k1, rfl⟩
      have KC := Lib.hid (KC.out.to (below_drewN (Below.refl _ _) k1))
      have HBE : Hid (Below w.heap.size w _) := below_drewN HBE.out k1
      generalize hwk : (w.alloc (.cells #[.bool false, .slice none 0 0, .slice none 0 0] 24)).drewN k1 = w1 at *
      clear hwk
      go_wp2_with fail
      refine (HRD.out _ lnum HLS.out.1).mono ?_
      rintro e w2 ⟨rfl, rfl⟩
      rw [HD1.out]
      go_wp2_with fail
      refine (HRD.out _ lden HLS.out.2).mono ?_
      rintro e w3 ⟨rfl, rfl⟩
      rw [HD2.out]
      have kc0 := KC.out.cell 0
      have kc1 := KC.out.cell 1
      have kc2 := KC.out.cell 2
      simp only [List.getElem?_toArray, List.getElem?_cons_zero, List.getElem?_cons_succ] at kc0 kc1 kc2
      have fzkc0 := KC.out.frozen 0
      have fzkc1 := KC.out.frozen 1
      have fzkc2 := KC.out.frozen 2
      go_wp2_with fail
      refine bodyPost_ret (v := .tuple #[zeroNum, .int .i64 6]) (by rw [results_cell_tmp rfl]; go_simp; rfl) rfl ?_
      rw [E2.out]
      exact ⟨_, rfl, GV.zero _, put3_below HBE.out (Nat.le_refl _) _ _ _⟩
    have hd2 : digitsB lden = true := by simpa using hd2
    have HD2 : Hid (digitsB lden = true) := hd2
    have had2 : allDig lden = true := by unfold digitsB at hd2; exact (Bool.and_eq_true _ _ ▸ hd2 : _ ∧ _).2
    have hld := digs16_dec (dval_lt had2)
    have HFD : Hid (∀ W : World, Calls Tryd.prog 36 #[.string ⟨lden.toArray⟩] W (RPost W (dval lden))) := fun W => HOD.out W lden HLS.out.2 had2
    have HLD : Hid ((digs W16 (dval lden)).length ≤ 2500) := by have := HLS.out; exact Nat.le_trans hld this.2
    rw [if_neg (by simp [hd1, hd2])] at E
    simp only [if_true] at E HOS
    by_cases hz : dval lden = 0
    · have E2 : Hid (r = (zeroL, 10)) := HPS.out 10 (by rw [E.out, if_pos hz]) (by decide)
      rw [hz] at HFD
      clear hd1 hd2 E had1 had2 hln hld HPS HOS hz
      go_enter Tryd.func9, Tryd.ntmps9
      go_wp2_with fail
      refine (HP.out _).mono ?_
      rintro e w1 ⟨rfl, rfl⟩
      go_wp2_with fail
      refine (HCU.out _).mono ?_
      rintro e w1 ⟨rfl, k1, rfl⟩
      have KC := Lib.hid (KC.out.to (below_drewN (Below.refl _ _) k1))
      have HBE : Hid (Below w.heap.size w _) := below_drewN HBE.out k1
      generalize hwk : (w.alloc (.cells #[.bool false, .slice none 0 0, .slice none 0 0] 24)).drewN k1 = w1 at *
      clear hwk
      go_wp2_with fail
      refine (HRD.out _ lnum HLS.out.1).mono ?_
      rintro e w2 ⟨rfl, rfl⟩
      rw [HD1.out]
      go_wp2_with fail
      refine (HRD.out _ lden HLS.out.2).mono ?_
      rintro e w3 ⟨rfl, rfl⟩
      rw [HD2.out]
      go_wp2_with fail
      refine (HFD.out _).mono ?_
      rintro e w4 ⟨v, rfl, hn, hb⟩
      have hb : Below (w3).heap.size w3 w4 := (below_one _ _).trans (hb.mono (below_one _ _).size)
      have KC := Lib.hid (KC.out.to hb)
      have HBE : Hid (Below w.heap.size w w4) := HBE.out.trans ((hb).mono HBE.out.size)
      clear hb
      have ND := Lib.hid hn
      clear hn
      obtain ⟨AN, nN, cN, rfl, hq1⟩ := ND.out.form
      obtain rfl : nN = 0 := by have := len_pos16 hq1; omega
      clear hq1
      have kc0 := KC.out.cell 0
      have kc1 := KC.out.cell 1
      have kc2 := KC.out.cell 2
      simp only [List.getElem?_toArray, List.getElem?_cons_zero, List.getElem?_cons_succ] at kc0 kc1 kc2
      have fzkc0 := KC.out.frozen 0
      have fzkc1 := KC.out.frozen 1
      have fzkc2 := KC.out.frozen 2
      go_wp2_with fail
      refine bodyPost_ret (v := .tuple #[zeroNum, .int .i64 10]) (by rw [results_cell_tmp rfl]; go_simp; rfl) rfl ?_
      rw [E2.out]
      exact ⟨_, rfl, GV.zero _, put3_below HBE.out (Nat.le_refl _) _ _ _⟩
    have hz0 : 0 < dval lden := Nat.pos_of_ne_zero hz
    have HZ0 := Lib.hid hz0
    have E2 : Hid (r = _) := HOS.out (by rw [E.out, if_neg hz])
    have HMD : Hid (∀ (W : World) (v : Value), RV W v (neg && decide (0 < dval lnum)) (dval lnum / Nat.gcd (dval lnum) (dval lden)) (dval lden / Nat.gcd (dval lnum) (dval lden)) → Calls Tryd.prog 37 #[v] W (SPost W r)) := fun W v h => by
      rw [E2.out]
      exact rmade_S2 _ _ _ v W h (Nat.le_trans (digs_len_mono W16_gt (Nat.div_le_self _ _)) (by have := HLN.out; omega)) (Nat.le_trans (digs_len_mono W16_gt (Nat.div_le_self _ _)) (by have := HLD.out; omega))
    have HRE : Hid (∀ (W : World) (u v : Value), Nat16 W u (dval lnum) → Nat16 W v (dval lden) → Calls Tryd.prog 38 #[.bool neg, u, v] W (RVPost W (neg && decide (0 < dval lnum)) (dval lnum / Nat.gcd (dval lnum) (dval lden)) (dval lden / Nat.gcd (dval lnum) (dval lden)))) := fun W u v h1 h2 => rreduce_any neg _ _ u v W h1 h2 hz0 (by have := HLN.out; omega) (by have := HLD.out; omega)
    generalize (neg && decide (0 < dval lnum)) = sg at *
    generalize dval lnum / Nat.gcd (dval lnum) (dval lden) = rx at *
    generalize dval lden / Nat.gcd (dval lnum) (dval lden) = ry at *
    clear hd1 hd2 E had1 had2 hln hld HPS HOS hz hz0 E2
    go_enter Tryd.func9, Tryd.ntmps9
    go_wp2_with fail
    refine (HP.out _).mono ?_
    rintro e w1 ⟨rfl, rfl⟩
    go_wp2_with fail
    refine (HCU.out _).mono ?_
    rintro e w1 ⟨rfl, k1, rfl⟩
    have KC := Lib.hid (KC.out.to (below_drewN (Below.refl _ _) k1))
    have HBE : Hid (Below w.heap.size w _) := below_drewN HBE.out k1
    generalize hwk : (w.alloc (.cells #[.bool false, .slice none 0 0, .slice none 0 0] 24)).drewN k1 = w1 at *
    clear hwk
    go_wp2_with fail
    refine (HRD.out _ lnum HLS.out.1).mono ?_
    rintro e w2 ⟨rfl, rfl⟩
    rw [HD1.out]
    go_wp2_with fail
    refine (HRD.out _ lden HLS.out.2).mono ?_
    rintro e w3 ⟨rfl, rfl⟩
    rw [HD2.out]
    go_wp2_with fail
    refine (HFD.out _).mono ?_
    rintro e w4 ⟨v, rfl, hn, hb⟩
    have hb : Below (w3).heap.size w3 w4 := (below_one _ _).trans (hb.mono (below_one _ _).size)
    have KC := Lib.hid (KC.out.to hb)
    have HBE : Hid (Below w.heap.size w w4) := HBE.out.trans ((hb).mono HBE.out.size)
    clear hb
    have ND := Lib.hid hn
    clear hn
    obtain ⟨AN, nN, cN, rfl, hq1⟩ := ND.out.form
    have hnN : ((nN : Int) == 0) = false := beq_eq_false_iff_ne.2 (by have := (len_pos16 hq1).2 HZ0.out; omega)
    clear hq1
    go_wp2_with fail
    refine (HFN.out _).mono ?_
    rintro e w5 ⟨v, rfl, hn, hb⟩
    have KC := Lib.hid (KC.out.to hb)
    have ND := Lib.hid (ND.out.to hb)
    have HBE : Hid (Below w.heap.size w w5) := HBE.out.trans ((hb).mono HBE.out.size)
    clear hb
    have N5 := Lib.hid hn
    clear hn
    go_wp2_with fail
    refine (HRE.out _ _ _ (by exact N5.out) (by exact ND.out)).mono ?_
    rintro e w6 ⟨v, rfl, hg, hb⟩
    have KC := Lib.hid (KC.out.to hb)
    have ND := Lib.hid (ND.out.to hb)
    have N5 := Lib.hid (N5.out.to hb)
    have HBE : Hid (Below w.heap.size w w6) := HBE.out.trans ((hb).mono HBE.out.size)
    clear hb
    clear N5 ND
    have R6 := Lib.hid hg
    clear hg
    go_wp2_with fail
    refine (HMD.out _ _ (by exact R6.out)).mono ?_
    rintro e w7 ⟨v, rfl, hg, hb⟩
    have KC := Lib.hid (KC.out.to hb)
    have R6 := Lib.hid (R6.out.to hb)
    have HBE : Hid (Below w.heap.size w w7) := HBE.out.trans ((hb).mono HBE.out.size)
    clear hb
    clear R6
    obtain ⟨Az, nz, cz, Bz, mz, dz, rfl, hq1, hq2⟩ := hg.form
    have Gz := Lib.hid hg
    clear hq1 hq2 hg
    have kc0 := KC.out.cell 0
    have kc1 := KC.out.cell 1
    have kc2 := KC.out.cell 2
    simp only [List.getElem?_toArray, List.getElem?_cons_zero, List.getElem?_cons_succ] at kc0 kc1 kc2
    have fzkc0 := KC.out.frozen 0
    have fzkc1 := KC.out.frozen 1
    have fzkc2 := KC.out.frozen 2
    go_wp2_with fail
    refine bodyPost_ret (v := .tuple #[.agg #[.bool r.1.neg, .slice Az nz cz, .slice Bz mz dz], .int .i64 r.2]) (by rw [results_cell_tmp rfl]; go_simp) rfl ?_
    exact ⟨_, rfl, Gz.out.putM KC.out _ _ _, put3_below HBE.out (Nat.le_refl _) _ _ _⟩

theorem rparse_S (s : ByteArray) (w : World) (hs : s.size ≤ maxLen) : Calls Tryd.prog 9 #[.string s] w (SPost w (parseS s.data.toList)) := by
  rcases Nat.lt_or_ge 2500 s.size with h | h
  · exact rparse_long s w hs h
  · exact rparse_short s w h
end Go.Proofs.YtdhgbnnopekfjaaDoor

/- fetterlockref1.IsInt, Text and Format. Conditions: at most 256 digits (Format: none). -/
import Derived.Test.YtfiedhopgmgnoaaDoorJo27
import Derived.Test.YtfiedhopgmgnoaaDoorJo35
import Derived.Test.YtfiedhopgmgnoaaDoorJo41
import Derived.Test.YtfiedhopgmgnoaaDoorJo42
set_option linter.unusedVariables false
set_option linter.unusedSimpArgs false
namespace Go.Proofs.YtfiedhopgmgnoaaDoor
open Go.RowKit NumB
set_option linter.unusedVariables false
set_option linter.unusedSimpArgs false

set_option maxRecDepth 100000 in
set_option maxHeartbeats 1600000 in
theorem risInt_any (neg : Bool) (x y : Nat) (v : Value) (w : World) (h : RV w v neg x y) (hy : (digs W16 y).length ≤ 1000000) :
    Calls Tryd.prog 51 #[v] w fun e w' => e = .returned (.bool (cmpI y 1 == 0)) ∧ Below w.heap.size w w' := by
  obtain ⟨A1, A2, rfl, h1, h2⟩ := h
  obtain ⟨B1, n1, c1, rfl, e1⟩ := h1.form
  obtain ⟨B2, n2, c2, rfl, e2⟩ := h2.form
  have HN := Lib.hid h2
  have HL := Lib.hid hy
  have HOne : ∀ o : Obj, Nat16 ((w.alloc o).alloc (.cells #[.int .i64 1] 3)) (.slice (some ⟨w.heap.size + 1, 0, none⟩) 1 1) 1 := fun o => by
    have h := one16 (w.alloc o)
    rw [show (w.alloc o).heap.size = w.heap.size + 1 from by simp] at h
    exact h
  clear h1 h2 e1 e2 hy
  go_enter Tryd.func51, Tryd.ntmps51
  go_wp2_with fail
  refine (rcmp_any y 1 _ _ _ (by exact HN.out.to (below_two w _ _)) (HOne _) HL.out (by rw [digs_one16]; decide)).mono ?_
  rintro e w1 ⟨rfl, rfl⟩
  go_wp2_with fail
  go_ret
  exact ⟨rfl, below_two w _ _⟩

theorem cmpI_one_true {y : Nat} (h : y = 1) : (cmpI y 1 == 0) = true := by subst h; decide
theorem cmpI_one_false {y : Nat} (h : y ≠ 1) : (cmpI y 1 == 0) = false := by
  rcases Nat.lt_trichotomy y 1 with h1 | h1 | h1
  · rw [cmpI_lt h1]; rfl
  · exact absurd h1 h
  · rw [cmpI_gt h1]; rfl
theorem dec_len16 {x : Nat} (h : (digs W16 x).length ≤ 256) : (dec x).length ≤ 1300 := by
  have h1 := dgs_len h
  unfold dec
  split
  · simp
  · rw [← dgs_text, List.length_map, List.length_reverse]; omega

set_option maxRecDepth 100000 in
set_option maxHeartbeats 6400000 in
theorem rtext_any (neg : Bool) (x y : Nat) (v : Value) (w : World) (h : RV w v neg x y) (hx : (digs W16 x).length ≤ 256) (hy : (digs W16 y).length ≤ 256) :
    Calls Tryd.prog 31 #[v] w fun e w' => e = .returned (.string ⟨(fmtL neg x y).toArray⟩) ∧ Below w.heap.size w w' := by
  obtain ⟨A1, A2, rfl, h1, h2⟩ := h
  obtain ⟨B1, n1, c1, rfl, e1⟩ := h1.form
  obtain ⟨B2, n2, c2, rfl, e2⟩ := h2.form
  have HNX : Hid (∀ o : Obj, Nat16 (w.alloc o) (.slice B1 n1 c1) x ∧ Nat16 (w.alloc o) (.slice B2 n2 c2) y) := fun o => ⟨h1.to (below_one _ _), h2.to (below_one _ _)⟩
  have HLX := Lib.hid (And.intro hx hy)
  have HBK := Lib.hid (Blk.new w 41 #[.bool neg, .slice B1 n1 c1, .slice B2 n2 c2])
  clear h1 h2 e1 e2 hx hy
  cases neg with
  | false =>
    by_cases hy1 : y = 1
    · have HO := Lib.hid (cmpI_one_true hy1)
      have E : Hid (fmtL false x y = dec x) := by unfold Hid fmtL; rw [if_pos hy1]; simp
      clear hy1
      go_enter Tryd.func31, Tryd.ntmps31
      go_wp2_with fail
      refine (rdecimal_any x _ _ (by exact (HNX.out _).1) (Nat.le_trans HLX.out.1 (by omega))).mono ?_
      rintro e w1 ⟨rfl, hb1⟩
      have hk := HBK.out.to hb1
      have c0 := hk.cell 0
      have c1 := hk.cell 1
      have c2 := hk.cell 2
      simp only [List.getElem?_toArray, List.getElem?_cons_zero, List.getElem?_cons_succ] at c0 c1 c2
      have HK1 := Lib.hid hk
      have HB1 := Lib.hid hb1
      clear hk hb1
      have hlx := dec_len16 HLX.out.1
      generalize hdx : dec x = lx at *
      clear hdx
      go_wp2_with fail
      refine (risInt_any false x y _ _ ⟨_, _, rfl, (by exact (HNX.out _).1.to HB1.out), (by exact (HNX.out _).2.to HB1.out)⟩ (Nat.le_trans HLX.out.2 (by omega))).mono ?_
      rintro e w3 ⟨he, hb3⟩
      rw [HO.out] at he
      subst he
      clear c0 c1 c2
      have hk := HK1.out.to hb3
      have c0 := hk.cell 0
      have c1 := hk.cell 1
      have c2 := hk.cell 2
      simp only [List.getElem?_toArray, List.getElem?_cons_zero, List.getElem?_cons_succ] at c0 c1 c2
      have HB3 := Lib.hid (HB1.out.trans (hb3.mono HB1.out.size))
      clear hk hb3
      go_wp2_with fail
      go_ret
      rw [E.out]
      exact ⟨rfl, (below_one w _).trans (HB3.out.mono (below_one w _).size)⟩
    · have HO := Lib.hid (cmpI_one_false hy1)
      have E : Hid (fmtL false x y = dec x ++ 114 :: dec y) := by unfold Hid fmtL; rw [if_neg hy1]; simp
      clear hy1
      go_enter Tryd.func31, Tryd.ntmps31
      go_wp2_with fail
      refine (rdecimal_any x _ _ (by exact (HNX.out _).1) (Nat.le_trans HLX.out.1 (by omega))).mono ?_
      rintro e w1 ⟨rfl, hb1⟩
      have hk := HBK.out.to hb1
      have c0 := hk.cell 0
      have c1 := hk.cell 1
      have c2 := hk.cell 2
      simp only [List.getElem?_toArray, List.getElem?_cons_zero, List.getElem?_cons_succ] at c0 c1 c2
      have HK1 := Lib.hid hk
      have HB1 := Lib.hid hb1
      clear hk hb1
      have hlx := dec_len16 HLX.out.1
      generalize hdx : dec x = lx at *
      clear hdx
      go_wp2_with fail
      refine (risInt_any false x y _ _ ⟨_, _, rfl, (by exact (HNX.out _).1.to HB1.out), (by exact (HNX.out _).2.to HB1.out)⟩ (Nat.le_trans HLX.out.2 (by omega))).mono ?_
      rintro e w3 ⟨he, hb3⟩
      rw [HO.out] at he
      subst he
      clear c0 c1 c2
      have hk := HK1.out.to hb3
      have c0 := hk.cell 0
      have c1 := hk.cell 1
      have c2 := hk.cell 2
      simp only [List.getElem?_toArray, List.getElem?_cons_zero, List.getElem?_cons_succ] at c0 c1 c2
      have HB3 := Lib.hid (HB1.out.trans (hb3.mono HB1.out.size))
      clear hk hb3
      go_wp2_with fail
      refine (rdecimal_any y _ _ (by exact (HNX.out _).2.to HB3.out) (Nat.le_trans HLX.out.2 (by omega))).mono ?_
      rintro e w4 ⟨rfl, hb4⟩
      have HB4 := Lib.hid (HB3.out.trans (hb4.mono HB3.out.size))
      clear hb4
      have hly := dec_len16 HLX.out.2
      generalize hdy : dec y = ly at *
      clear hdy
      go_wp2_with fail
      go_ret
      rw [E.out]
      exact ⟨rfl, (below_one w _).trans (HB4.out.mono (below_one w _).size)⟩
  | true =>
    by_cases hy1 : y = 1
    · have HO := Lib.hid (cmpI_one_true hy1)
      have E : Hid (fmtL true x y = 45 :: (dec x)) := by unfold Hid fmtL; rw [if_pos hy1]; simp
      clear hy1
      go_enter Tryd.func31, Tryd.ntmps31
      go_wp2_with fail
      refine (rdecimal_any x _ _ (by exact (HNX.out _).1) (Nat.le_trans HLX.out.1 (by omega))).mono ?_
      rintro e w1 ⟨rfl, hb1⟩
      have hk := HBK.out.to hb1
      have c0 := hk.cell 0
      have c1 := hk.cell 1
      have c2 := hk.cell 2
      simp only [List.getElem?_toArray, List.getElem?_cons_zero, List.getElem?_cons_succ] at c0 c1 c2
      have HK1 := Lib.hid hk
      have HB1 := Lib.hid hb1
      clear hk hb1
      have hlx := dec_len16 HLX.out.1
      generalize hdx : dec x = lx at *
      clear hdx
      go_wp2_with fail
      refine (risInt_any true x y _ _ ⟨_, _, rfl, (by exact (HNX.out _).1.to HB1.out), (by exact (HNX.out _).2.to HB1.out)⟩ (Nat.le_trans HLX.out.2 (by omega))).mono ?_
      rintro e w3 ⟨he, hb3⟩
      rw [HO.out] at he
      subst he
      clear c0 c1 c2
      have hk := HK1.out.to hb3
      have c0 := hk.cell 0
      have c1 := hk.cell 1
      have c2 := hk.cell 2
      simp only [List.getElem?_toArray, List.getElem?_cons_zero, List.getElem?_cons_succ] at c0 c1 c2
      have HB3 := Lib.hid (HB1.out.trans (hb3.mono HB1.out.size))
      clear hk hb3
      go_wp2_with fail
      go_ret
      rw [E.out]
      exact ⟨rfl, (below_one w _).trans (HB3.out.mono (below_one w _).size)⟩
    · have HO := Lib.hid (cmpI_one_false hy1)
      have E : Hid (fmtL true x y = 45 :: (dec x ++ 114 :: dec y)) := by unfold Hid fmtL; rw [if_neg hy1]; simp
      clear hy1
      go_enter Tryd.func31, Tryd.ntmps31
      go_wp2_with fail
      refine (rdecimal_any x _ _ (by exact (HNX.out _).1) (Nat.le_trans HLX.out.1 (by omega))).mono ?_
      rintro e w1 ⟨rfl, hb1⟩
      have hk := HBK.out.to hb1
      have c0 := hk.cell 0
      have c1 := hk.cell 1
      have c2 := hk.cell 2
      simp only [List.getElem?_toArray, List.getElem?_cons_zero, List.getElem?_cons_succ] at c0 c1 c2
      have HK1 := Lib.hid hk
      have HB1 := Lib.hid hb1
      clear hk hb1
      have hlx := dec_len16 HLX.out.1
      generalize hdx : dec x = lx at *
      clear hdx
      go_wp2_with fail
      refine (risInt_any true x y _ _ ⟨_, _, rfl, (by exact (HNX.out _).1.to HB1.out), (by exact (HNX.out _).2.to HB1.out)⟩ (Nat.le_trans HLX.out.2 (by omega))).mono ?_
      rintro e w3 ⟨he, hb3⟩
      rw [HO.out] at he
      subst he
      clear c0 c1 c2
      have hk := HK1.out.to hb3
      have c0 := hk.cell 0
      have c1 := hk.cell 1
      have c2 := hk.cell 2
      simp only [List.getElem?_toArray, List.getElem?_cons_zero, List.getElem?_cons_succ] at c0 c1 c2
      have HB3 := Lib.hid (HB1.out.trans (hb3.mono HB1.out.size))
      clear hk hb3
      go_wp2_with fail
      refine (rdecimal_any y _ _ (by exact (HNX.out _).2.to HB3.out) (Nat.le_trans HLX.out.2 (by omega))).mono ?_
      rintro e w4 ⟨rfl, hb4⟩
      have HB4 := Lib.hid (HB3.out.trans (hb4.mono HB3.out.size))
      clear hb4
      have hly := dec_len16 HLX.out.2
      generalize hdy : dec y = ly at *
      clear hdy
      go_wp2_with fail
      go_ret
      rw [E.out]
      exact ⟨rfl, (below_one w _).trans (HB4.out.mono (below_one w _).size)⟩

set_option maxRecDepth 100000 in
set_option maxHeartbeats 3200000 in
theorem rformat_S (a : LN) (v : Value) (w : World) (h : GV w v a) : Calls Tryd.prog 10 #[v] w (FmtPost w a.err (fmtL a.neg a.x a.y)) := by
  have HOK := Lib.hid h.ok
  have G := Lib.hid h
  obtain ⟨A0, n0, c0, B0, m0, d0, rfl, hq1, hq2⟩ := h.form
  have HBK := Lib.hid (Blk.new w 24 #[.bool a.neg, .slice A0 n0 c0, .slice B0 m0 d0])
  have HF := Lib.hid (fun (W : World) (u : Value) (h : GV W u a) => fault_S a u W h)
  have h0 : 0 ≤ a.err ∧ a.err ≤ 3 := checkL_bd _ _ _
  clear h hq1 hq2
  by_cases e0 : a.err = 0
  · have HL := Lib.hid (LN.len16 HOK.out e0)
    have HG := Lib.hid (LN.good HOK.out e0)
    have HR := Lib.hid (fun (W : World) (u : Value) (h : GV W u a) => rof_any a u W h (Nat.le_trans HG.out.2.2.1 (by omega)) (Nat.le_trans HG.out.2.2.2.1 (by omega)))
    have E0 := Lib.hid e0
    clear e0 h0
    go_enter Tryd.func10, Tryd.ntmps10
    go_wp2_with fail
    refine (HF.out _ _ (by exact G.out.to (below_one w _))).mono ?_
    rintro e w1 ⟨he, hb1⟩
    rw [E0.out] at he
    subst he
    have hk := HBK.out.to hb1
    have f0 := hk.cell 0
    have f1 := hk.cell 1
    have f2 := hk.cell 2
    simp only [List.getElem?_toArray, List.getElem?_cons_zero, List.getElem?_cons_succ] at f0 f1 f2
    have HB1 := Lib.hid hb1
    clear hk hb1
    go_wp2_with fail
    refine (HR.out _ _ (by exact (G.out.to (below_one w _)).to HB1.out)).mono ?_
    rintro e w2 ⟨v2, rfl, hr2, hb2⟩
    have HB2 := Lib.hid (HB1.out.trans (hb2.mono HB1.out.size))
    have HV2 := Lib.hid hr2
    obtain ⟨A2, n2, c2, B2, m2, d2, rfl, hq1, hq2⟩ := hr2.form
    clear hb2 hr2 hq1 hq2
    go_wp2_with fail
    refine (rtext_any a.neg a.x a.y _ _ (by exact HV2.out) HL.out.1 HL.out.2).mono ?_
    rintro e w3 ⟨rfl, hb3⟩
    have HB3 := Lib.hid (HB2.out.trans (hb3.mono HB2.out.size))
    clear hb3
    generalize fmtL a.neg a.x a.y = l at *
    go_wp2_with fail
    go_ret2
    unfold FmtPost
    rw [E0.out, if_pos rfl]
    exact ⟨rfl, (below_one w _).trans (HB3.out.mono (below_one w _).size)⟩
  · have b0 : (a.err != 0) = true := by rw [bne_iff_ne]; exact e0
    have E0 := Lib.hid e0
    clear e0
    generalize a.err = z at *
    go_enter Tryd.func10, Tryd.ntmps10
    go_wp2_with fail
    refine (HF.out _ _ (by exact G.out.to (below_one w _))).mono ?_
    rintro e w1 ⟨rfl, hb1⟩
    have HB1 := Lib.hid hb1
    clear hb1
    go_wp2_with fail
    go_ret2
    unfold FmtPost
    rw [if_neg E0.out]
    exact ⟨rfl, (below_one w _).trans (HB1.out.mono (below_one w _).size)⟩

theorem format_S (a : LN) (v : Value) (w : World) (h : GV w v a) : Calls Tryd.prog 9 #[v] w (FmtPost w a.err (fmtL a.neg a.x a.y)) := by
  obtain ⟨A, B, rfl, ha, hb, ox, oy⟩ := h
  exact format_any a.neg a.num a.den A B w ha hb ox oy
end Go.Proofs.YtfiedhopgmgnoaaDoor

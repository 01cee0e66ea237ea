/- NumberFormatRoundTrip: Format agrees with the reference, and Parse reads a number's text back. -/
import Derived.Test.YtfiedhopgmgnoaaDoorJo43
import Derived.Test.YtfiedhopgmgnoaaDoorJo44
set_option linter.unusedVariables false
set_option linter.unusedSimpArgs false
namespace Go.Proofs.YtfiedhopgmgnoaaDoor
open Go.RowKit NumB
set_option linter.unusedVariables false
set_option linter.unusedSimpArgs false

theorem opS_back {a : LN} (ho : a.ok) (h : a.err = 0) :
    opS (parseErr (fmtL a.neg a.x a.y)) (pNeg (fmtL a.neg a.x a.y) && decide (0 < dval (pCut (fmtL a.neg a.x a.y)).1)) (dval (pCut (fmtL a.neg a.x a.y)).1 / Nat.gcd (dval (pCut (fmtL a.neg a.x a.y)).1) (pDen (fmtL a.neg a.x a.y))) (pDen (fmtL a.neg a.x a.y) / Nat.gcd (dval (pCut (fmtL a.neg a.x a.y)).1) (pDen (fmtL a.neg a.x a.y))) = (a, 0) := by
  obtain ⟨h1, h2, h3, h4, h5, h6, h7⟩ := LN.good ho h
  obtain ⟨p1, p2, p3, p4⟩ := parse_fmt (neg := a.neg) (x := a.x) (y := a.y) (by rw [h1]; exact h3) (by rw [h2]; exact h4) h5
  rw [p1, p2, p3, p4, h6, Nat.div_one, Nat.div_one]
  unfold opS
  have hf : fitB a.x a.y = true := decide_eq_true ⟨by rw [h1]; exact h3, by rw [h2]; exact h4⟩
  rw [if_pos rfl, hf, if_pos rfl, h1, h2]
  have hs : (a.neg && decide (0 < a.x)) = a.neg := by
    rcases Nat.eq_zero_or_pos a.x with hz | hz
    · rw [h7 hz]; rfl
    · rw [decide_eq_true hz, Bool.and_true]
  rw [hs]
theorem fmt_len {a : LN} (ho : a.ok) (h : a.err = 0) : (fmtL a.neg a.x a.y).length ≤ 3000 := by
  obtain ⟨h1, h2, h3, h4, h5, h6, h7⟩ := LN.good ho h
  have l1 := dec_len2 (x := a.x) (by rw [h1]; exact h3)
  have l2 := dec_len2 (x := a.y) (by rw [h2]; exact h4)
  unfold fmtL
  rw [List.length_append, List.length_append]
  have g1 : (if a.neg = true then [45] else ([] : List UInt8)).length ≤ 1 := by split <;> simp
  have g2 : (if a.y = 1 then ([] : List UInt8) else 114 :: dec a.y).length ≤ 1235 := by split <;> simp <;> omega
  omega
theorem parse_back {a : LN} (ho : a.ok) (h : a.err = 0) (w : World) : Calls Tryd.prog 12 #[.string ⟨(fmtL a.neg a.x a.y).toArray⟩] w (SPost w (a, 0)) := by
  have hl := fmt_len ho h
  refine (parse_any ⟨(fmtL a.neg a.x a.y).toArray⟩ w (by rw [size_mk]; unfold maxLen; omega)).mono fun e w' hp => ?_
  rw [← opS_back ho h]
  exact OpPost.toS hp

set_option maxRecDepth 1000000 in
set_option maxHeartbeats 12800000 in
theorem law_format : LawFormat.Walk := by
  intro a v w g
  have HOK := Lib.hid g.ok
  have G := Lib.hid g
  obtain ⟨A0, n0, c0, B0, m0, d0, rfl, hq1, hq2⟩ := g.form
  have HBK := Lib.hid (Blk.new w 24 #[.bool a.neg, .slice A0 n0 c0, .slice B0 m0 d0])
  have HF := Lib.hid (fun (W : World) (u : Value) (h : GV W u a) => format_S a u W h)
  have HR := Lib.hid (fun (W : World) (u : Value) (h : GV W u a) => rformat_S a u W h)
  have h0 : 0 ≤ a.err ∧ a.err ≤ 3 := checkL_bd _ _ _
  have hbe : (a.err != a.err) = false := by simp
  clear g hq1 hq2
  by_cases e0 : a.err = 0
  · have HP := Lib.hid (fun W => parse_back HOK.out e0 W)
    have HSM : Hid (∀ (W : World) (u v : Value), GV W u a → GV W v a → Calls Tryd.prog 13 #[u, v] W fun e w' => e = .returned (.bool true) ∧ Below W.heap.size W w') := fun W u v h1 h2 => by
      have := same_S a a u v W h1 h2
      rw [sameB_true rfl] at this
      exact this
    rw [e0] at HF HR
    have HF : Hid (∀ (W : World) (u : Value), GV W u a → Calls Tryd.prog 9 #[u] W fun e w' => e = .returned (.tuple #[.string ⟨(fmtL a.neg a.x a.y).toArray⟩, .int .i64 0]) ∧ Below W.heap.size W w') := HF.out
    have HR : Hid (∀ (W : World) (u : Value), GV W u a → Calls Tryd.prog 10 #[u] W fun e w' => e = .returned (.tuple #[.string ⟨(fmtL a.neg a.x a.y).toArray⟩, .int .i64 0]) ∧ Below W.heap.size W w') := HR.out
    generalize hs : (⟨(fmtL a.neg a.x a.y).toArray⟩ : ByteArray) = s at *
    clear hs e0 h0 hbe
    go_enter Tryd.func3, Tryd.ntmps3
    go_wp2_with fail
    refine (HF.out _ _ (by exact G.out.to (below_one w _))).mono ?_
    rintro e w1 ⟨rfl, hb⟩
    have K0 := Lib.hid (HBK.out.to hb)
    have G0 := Lib.hid ((G.out.to (below_one w _)).to hb)
    have HBE : Hid (Below w.heap.size w w1) := (below_one w _).trans (hb.mono (below_one w _).size)
    clear hb G HBK
    have f0 := K0.out.cell 0
    have f1 := K0.out.cell 1
    have f2 := K0.out.cell 2
    simp only [List.getElem?_toArray, List.getElem?_cons_zero, List.getElem?_cons_succ] at f0 f1 f2
    go_wp2_with fail
    refine (HR.out _ _ (by exact G0.out)).mono ?_
    rintro e w2 ⟨rfl, hb⟩
    have K0 := Lib.hid (K0.out.to hb)
    have G0 := Lib.hid (G0.out.to hb)
    have HBE : Hid (Below w.heap.size w w2) := HBE.out.trans (hb.mono HBE.out.size)
    clear hb f0 f1 f2
    go_wp2_with fail
    refine (HP.out _).mono ?_
    rintro e w3 ⟨v3, rfl, g3, hb⟩
    have GX := Lib.hid g3
    obtain ⟨AX, nX, cX, BX, mX, dX, rfl, hq1, hq2⟩ := g3.form
    clear hq1 hq2 g3
    have K0 := Lib.hid (K0.out.to hb)
    have G0 := Lib.hid (G0.out.to hb)
    have HBE : Hid (Below w.heap.size w w3) := HBE.out.trans (hb.mono HBE.out.size)
    clear hb
    have f0 := K0.out.cell 0
    have f1 := K0.out.cell 1
    have f2 := K0.out.cell 2
    simp only [List.getElem?_toArray, List.getElem?_cons_zero, List.getElem?_cons_succ] at f0 f1 f2
    have hlt := K0.out.lt
    go_wp2_with fail
    refine (HSM.out _ _ _ (by exact G0.out.to (below_one w3 _)) (by exact GX.out.to (below_one w3 _))).mono ?_
    rintro e w4 ⟨rfl, hb⟩
    have HBE : Hid (Below w.heap.size w w4) := (HBE.out.trans ((below_one w3 _).mono HBE.out.size)).trans (hb.mono (Nat.le_trans HBE.out.size (below_one w3 _).size))
    clear hb f0 f1 f2
    go_wp2_with fail
    refine (counted_any _).mono ?_
    rintro e w5 ⟨rfl, hb⟩
    go_wp2_with fail
    go_ret
    exact ⟨rfl, HBE.out.trans (hb.mono HBE.out.size)⟩
  · have b0 : (a.err != 0) = true := by rw [bne_iff_ne]; exact e0
    have HF : Hid (∀ (W : World) (u : Value), GV W u a → Calls Tryd.prog 9 #[u] W fun e w' => e = .returned (.tuple #[.string ⟨#[]⟩, .int .i64 a.err]) ∧ Below W.heap.size W w') := fun W u h => by
      have := HF.out W u h
      unfold FmtPost at this
      rw [if_neg e0] at this
      exact this
    have HR : Hid (∀ (W : World) (u : Value), GV W u a → Calls Tryd.prog 10 #[u] W fun e w' => e = .returned (.tuple #[.string ⟨#[]⟩, .int .i64 a.err]) ∧ Below W.heap.size W w') := fun W u h => by
      have := HR.out W u h
      unfold FmtPost at this
      rw [if_neg e0] at this
      exact this
    clear e0 HOK
    generalize a.err = z at *
    go_enter Tryd.func3, Tryd.ntmps3
    go_wp2_with fail
    refine (HF.out _ _ (by exact G.out.to (below_one w _))).mono ?_
    rintro e w1 ⟨rfl, hb⟩
    have K0 := Lib.hid (HBK.out.to hb)
    have G0 := Lib.hid ((G.out.to (below_one w _)).to hb)
    have HBE : Hid (Below w.heap.size w w1) := (below_one w _).trans (hb.mono (below_one w _).size)
    clear hb G HBK
    have f0 := K0.out.cell 0
    have f1 := K0.out.cell 1
    have f2 := K0.out.cell 2
    simp only [List.getElem?_toArray, List.getElem?_cons_zero, List.getElem?_cons_succ] at f0 f1 f2
    go_wp2_with fail
    refine (HR.out _ _ (by exact G0.out)).mono ?_
    rintro e w2 ⟨rfl, hb⟩
    have HBE : Hid (Below w.heap.size w w2) := HBE.out.trans (hb.mono HBE.out.size)
    clear hb f0 f1 f2
    go_wp2_with fail
    refine (counted_any _).mono ?_
    rintro e w5 ⟨rfl, hb⟩
    go_wp2_with fail
    go_ret
    exact ⟨rfl, HBE.out.trans (hb.mono HBE.out.size)⟩

theorem numberFormat_holds : Rows.NumberFormatRoundTripCardSaid := LawFormat.card law_format
#print axioms numberFormat_holds
end Go.Proofs.YtfiedhopgmgnoaaDoor

/- NumberShiftMatchesSpec: for all numbers, Shift and Length return what is specified. -/
import Derived.Test.YtdfcpkjphdepcaaGreatDoorJo23
import Derived.Test.YtdfcpkjphdepcaaGreatDoorJo38
import Derived.Test.YtdfcpkjphdepcaaGreatDoorJo39
set_option linter.unusedVariables false
set_option linter.unusedSimpArgs false
namespace Go.Proofs.YtdfcpkjphdepcaaGreatDoor
open Go.RowKit NumB
set_option linter.unusedVariables false
set_option linter.unusedSimpArgs false

theorem rtwoLS_eq (a b : LN) : rtwoLS 108 a b = shiftS a b := by
  unfold rtwoLS
  by_cases h : err2 a.err b.err = 0
  · rw [if_pos h]
    by_cases h2 : a.y = 1 ∧ b.y = 1
    · rw [if_pos h2, shiftS_eq (by unfold intErr2; rw [if_pos h, if_pos h2])]; rfl
    · have h3 : intErr2 a b = 7 := by unfold intErr2; rw [if_pos h, if_neg h2]
      unfold shiftS
      rw [if_neg h2, if_neg (by rw [h3]; decide), h3]
  · have h3 : intErr2 a b = err2 a.err b.err := by unfold intErr2; rw [if_neg h]
    unfold shiftS
    rw [if_neg h, if_neg (by rw [h3]; exact h), h3]

set_option maxRecDepth 1000000 in
set_option maxHeartbeats 25600000 in
theorem law_shift : LawShift.Walk := by
  intro a0 v0 a1 v1 w g0 g1
  have HO := Lib.hid g0.ok
  obtain ⟨A0, n0, c0, B0, m0, d0, rfl, hq1, hq2⟩ := g0.form
  clear hq1 hq2
  obtain ⟨A1, n1, c1, B1, m1, d1, rfl, hq1, hq2⟩ := g1.form
  clear hq1 hq2
  obtain ⟨p, HF, HT⟩ : ∃ p : LN × Int, Hid (∀ (W : World) (u v : Value), GV W u a0 → GV W v a1 → Calls Tryz.prog 6 #[u, v] W (SPost W p)) ∧ Hid (∀ (W : World) (u v : Value), GV W u a0 → GV W v a1 → Calls Tryz.prog 7 #[.int .u8 108, u, v] W (SPost W p)) :=
    ⟨shiftS a0 a1, fun W u v h1 h2 => shiftNum_S a0 a1 u v W h1 h2, fun W u v h1 h2 => by
      have := rtwoL 108 rfl a0 a1 u v W h1 h2
      rw [rtwoLS_eq] at this
      exact this⟩
  obtain ⟨g, z⟩ := p
  have hee : (z != z) = false := by simp
  have HSM : Hid (∀ (W : World) (u v : Value) (a : LN), GV W u a → GV W v a → Calls Tryz.prog 8 #[u, v] W fun e w' => e = .returned (.bool true) ∧ Below W.heap.size W w') := fun W u v a h1 h2 => by
    have := same_S a a u v W h1 h2
    rw [sameB_true rfl] at this
    exact this
  have HLG := Lib.hid (fun (W : World) (v : Value) (h : GV W v a0) => lengthNum_S a0 v W h)
  have HFA := Lib.hid (fun (W : World) (v : Value) (h : GV W v a0) => fault_S a0 v W h)
  have KA := Lib.hid ((blk2 w 24 24 #[.bool a0.neg, .slice A0 n0 c0, .slice B0 m0 d0] #[.bool a1.neg, .slice A1 n1 c1, .slice B1 m1 d1]).1)
  have KB := Lib.hid ((blk2 w 24 24 #[.bool a0.neg, .slice A0 n0 c0, .slice B0 m0 d0] #[.bool a1.neg, .slice A1 n1 c1, .slice B1 m1 d1]).2)
  have GA := Lib.hid (g0.to (below_two w (.cells #[.bool a0.neg, .slice A0 n0 c0, .slice B0 m0 d0] 24) (.cells #[.bool a1.neg, .slice A1 n1 c1, .slice B1 m1 d1] 24)))
  have GB := Lib.hid (g1.to (below_two w (.cells #[.bool a0.neg, .slice A0 n0 c0, .slice B0 m0 d0] 24) (.cells #[.bool a1.neg, .slice A1 n1 c1, .slice B1 m1 d1] 24)))
  have HBE := Lib.hid (below_two w (.cells #[.bool a0.neg, .slice A0 n0 c0, .slice B0 m0 d0] 24) (.cells #[.bool a1.neg, .slice A1 n1 c1, .slice B1 m1 d1] 24))
  clear g0 g1
  have hbd : 0 ≤ a0.err ∧ a0.err ≤ 3 := checkL_bd _ _ _
  by_cases e0 : a0.err = 0
  rotate_left
  · have hie : intErr a0 = a0.err := by unfold intErr; rw [if_neg e0]
    rw [hie, if_neg e0] at HLG
    have b0 : (a0.err != 0) = true := by rw [bne_iff_ne]; exact e0
    have b1 : (a0.err == 0) = false := beq_eq_false_iff_ne.2 e0
    have b2 : (a0.err == a0.err) = true := by simp
    generalize a0.err = ze at *
    clear e0 hie
    go_enter Tryz.func3, Tryz.ntmps3
    go_wp2_with fail
    refine (HF.out _ _ _ (by exact GA.out) (by exact GB.out)).mono ?_
    rintro e w1 ⟨v, rfl, hg, hb⟩
    have KA := Lib.hid (KA.out.to hb)
    have KB := Lib.hid (KB.out.to hb)
    have GA := Lib.hid (GA.out.to hb)
    have GB := Lib.hid (GB.out.to hb)
    have HBE : Hid (Below w.heap.size w w1) := HBE.out.trans ((hb).mono HBE.out.size)
    clear hb
    obtain ⟨Ag, ng, cg, Bg, mg, dg, rfl, hq1, hq2⟩ := hg.form
    have Gg := Lib.hid hg
    clear hq1 hq2 hg
    have ka0 := KA.out.cell 0
    have ka1 := KA.out.cell 1
    have ka2 := KA.out.cell 2
    have kb0 := KB.out.cell 0
    have kb1 := KB.out.cell 1
    have kb2 := KB.out.cell 2
    simp only [List.getElem?_toArray, List.getElem?_cons_zero, List.getElem?_cons_succ] at ka0 ka1 ka2 kb0 kb1 kb2
    have ltKAKG := KA.out.lt
    have ltKBKG := KB.out.lt
    have KGN := Lib.hid (Blk.new w1 24 #[.bool g.neg, .slice Ag ng cg, .slice Bg mg dg])
    have KA := Lib.hid (KA.out.to (below_one w1 (.cells #[.bool g.neg, .slice Ag ng cg, .slice Bg mg dg] 24)))
    have KB := Lib.hid (KB.out.to (below_one w1 (.cells #[.bool g.neg, .slice Ag ng cg, .slice Bg mg dg] 24)))
    have GA := Lib.hid (GA.out.to (below_one w1 (.cells #[.bool g.neg, .slice Ag ng cg, .slice Bg mg dg] 24)))
    have GB := Lib.hid (GB.out.to (below_one w1 (.cells #[.bool g.neg, .slice Ag ng cg, .slice Bg mg dg] 24)))
    have Gg := Lib.hid (Gg.out.to (below_one w1 (.cells #[.bool g.neg, .slice Ag ng cg, .slice Bg mg dg] 24)))
    have HBE : Hid (Below w.heap.size w (w1.alloc (.cells #[.bool g.neg, .slice Ag ng cg, .slice Bg mg dg] 24))) := HBE.out.trans (((below_one w1 (.cells #[.bool g.neg, .slice Ag ng cg, .slice Bg mg dg] 24))).mono HBE.out.size)
    have KG := KGN
    clear KGN
    have neKAKG : (w.heap.size = w1.heap.size) = False := eq_false (by omega)
    have neKGKA : (w1.heap.size = w.heap.size) = False := eq_false (by omega)
    have neKBKG : (w.heap.size + 1 = w1.heap.size) = False := eq_false (by omega)
    have neKGKB : (w1.heap.size = w.heap.size + 1) = False := eq_false (by omega)
    go_wp2_with fail
    refine (HT.out _ _ _ (by exact GA.out) (by exact GB.out)).mono ?_
    rintro e w2 ⟨v, rfl, hg, hb⟩
    clear ka0 ka1 ka2 kb0 kb1 kb2
    have KA := Lib.hid (KA.out.to hb)
    have KB := Lib.hid (KB.out.to hb)
    have KG := Lib.hid (KG.out.to hb)
    have GA := Lib.hid (GA.out.to hb)
    have GB := Lib.hid (GB.out.to hb)
    have Gg := Lib.hid (Gg.out.to hb)
    have HBE : Hid (Below w.heap.size w w2) := HBE.out.trans ((hb).mono HBE.out.size)
    clear hb
    obtain ⟨Aw, nw, cw, Bw, mw, dw, rfl, hq1, hq2⟩ := hg.form
    have Gw := Lib.hid hg
    clear hq1 hq2 hg
    have kg0 := KG.out.cell 0
    have kg1 := KG.out.cell 1
    have kg2 := KG.out.cell 2
    simp only [List.getElem?_toArray, List.getElem?_cons_zero, List.getElem?_cons_succ] at kg0 kg1 kg2
    have ltKAKW := KA.out.lt
    have ltKBKW := KB.out.lt
    have ltKGKW := KG.out.lt
    have KWN := Lib.hid (Blk.new w2 24 #[.bool g.neg, .slice Aw nw cw, .slice Bw mw dw])
    have KA := Lib.hid (KA.out.to (below_one w2 (.cells #[.bool g.neg, .slice Aw nw cw, .slice Bw mw dw] 24)))
    have KB := Lib.hid (KB.out.to (below_one w2 (.cells #[.bool g.neg, .slice Aw nw cw, .slice Bw mw dw] 24)))
    have KG := Lib.hid (KG.out.to (below_one w2 (.cells #[.bool g.neg, .slice Aw nw cw, .slice Bw mw dw] 24)))
    have GA := Lib.hid (GA.out.to (below_one w2 (.cells #[.bool g.neg, .slice Aw nw cw, .slice Bw mw dw] 24)))
    have GB := Lib.hid (GB.out.to (below_one w2 (.cells #[.bool g.neg, .slice Aw nw cw, .slice Bw mw dw] 24)))
    have Gg := Lib.hid (Gg.out.to (below_one w2 (.cells #[.bool g.neg, .slice Aw nw cw, .slice Bw mw dw] 24)))
    have Gw := Lib.hid (Gw.out.to (below_one w2 (.cells #[.bool g.neg, .slice Aw nw cw, .slice Bw mw dw] 24)))
    have HBE : Hid (Below w.heap.size w (w2.alloc (.cells #[.bool g.neg, .slice Aw nw cw, .slice Bw mw dw] 24))) := HBE.out.trans (((below_one w2 (.cells #[.bool g.neg, .slice Aw nw cw, .slice Bw mw dw] 24))).mono HBE.out.size)
    have KW := KWN
    clear KWN
    have neKAKW : (w.heap.size = w2.heap.size) = False := eq_false (by omega)
    have neKWKA : (w2.heap.size = w.heap.size) = False := eq_false (by omega)
    have neKBKW : (w.heap.size + 1 = w2.heap.size) = False := eq_false (by omega)
    have neKWKB : (w2.heap.size = w.heap.size + 1) = False := eq_false (by omega)
    have neKGKW : (w1.heap.size = w2.heap.size) = False := eq_false (by omega)
    have neKWKG : (w2.heap.size = w1.heap.size) = False := eq_false (by omega)
    go_wp2_with fail
    refine (HSM.out _ _ _ _ (by exact Gg.out) (by exact Gw.out)).mono ?_
    rintro e w3 ⟨rfl, hb⟩
    clear kg0 kg1 kg2
    have KA := Lib.hid (KA.out.to hb)
    have KB := Lib.hid (KB.out.to hb)
    have KG := Lib.hid (KG.out.to hb)
    have KW := Lib.hid (KW.out.to hb)
    have GA := Lib.hid (GA.out.to hb)
    have GB := Lib.hid (GB.out.to hb)
    have Gg := Lib.hid (Gg.out.to hb)
    have Gw := Lib.hid (Gw.out.to hb)
    have HBE : Hid (Below w.heap.size w w3) := HBE.out.trans ((hb).mono HBE.out.size)
    clear hb
    have ka0 := KA.out.cell 0
    have ka1 := KA.out.cell 1
    have ka2 := KA.out.cell 2
    simp only [List.getElem?_toArray, List.getElem?_cons_zero, List.getElem?_cons_succ] at ka0 ka1 ka2
    go_wp2_with fail
    refine (HLG.out _ _ (by exact GA.out)).mono ?_
    rintro e w4 ⟨rfl, hb⟩
    clear ka0 ka1 ka2
    have KA := Lib.hid (KA.out.to hb)
    have KB := Lib.hid (KB.out.to hb)
    have KG := Lib.hid (KG.out.to hb)
    have KW := Lib.hid (KW.out.to hb)
    have GA := Lib.hid (GA.out.to hb)
    have GB := Lib.hid (GB.out.to hb)
    have Gg := Lib.hid (Gg.out.to hb)
    have Gw := Lib.hid (Gw.out.to hb)
    have HBE : Hid (Below w.heap.size w w4) := HBE.out.trans ((hb).mono HBE.out.size)
    clear hb
    have ka0 := KA.out.cell 0
    have ka1 := KA.out.cell 1
    have ka2 := KA.out.cell 2
    simp only [List.getElem?_toArray, List.getElem?_cons_zero, List.getElem?_cons_succ] at ka0 ka1 ka2
    go_wp2_with fail
    refine (HFA.out _ _ (by exact GA.out)).mono ?_
    rintro e w5 ⟨rfl, hb⟩
    clear ka0 ka1 ka2
    have KA := Lib.hid (KA.out.to hb)
    have KB := Lib.hid (KB.out.to hb)
    have KG := Lib.hid (KG.out.to hb)
    have KW := Lib.hid (KW.out.to hb)
    have GA := Lib.hid (GA.out.to hb)
    have GB := Lib.hid (GB.out.to hb)
    have Gg := Lib.hid (Gg.out.to hb)
    have Gw := Lib.hid (Gw.out.to hb)
    have HBE : Hid (Below w.heap.size w w5) := HBE.out.trans ((hb).mono HBE.out.size)
    clear hb
    go_wp2_with fail
    refine (counted_any _).mono ?_
    rintro e wz ⟨rfl, hb⟩
    go_wp2_with fail
    go_ret
    exact ⟨rfl, HBE.out.trans (hb.mono HBE.out.size)⟩
  obtain ⟨p1, p2, p3, p4, hcan⟩ := LN.good HO.out e0
  have HOF : Hid (∀ (W : World) (u : Value), GV W u a0 → Calls Tryz.prog 12 #[u] W (RVPost W a0.neg a0.x a0.y)) := fun W u h => rof_any a0 u W h (by omega) (by omega)
  have HL : Hid ((digs W16 a0.x).length ≤ 256 ∧ (digs W16 a0.y).length ≤ 256) := LN.len16 HO.out e0
  rw [e0] at HFA
  by_cases hy : a0.y = 1
  rotate_left
  · have hie : intErr a0 = 7 := by unfold intErr; rw [if_pos e0, if_neg hy]
    rw [hie, if_neg (by decide)] at HLG
    have HII : Hid (∀ (W : World) (v : Value), RV W v a0.neg a0.x a0.y → Calls Tryz.prog 11 #[v] W fun e w' => e = .returned (.bool false) ∧ Below W.heap.size W w') := fun W v h => by
      have := risInt_any a0.neg a0.x a0.y v W h (by have := HL.out; omega)
      rw [cmpI_one_false hy] at this
      exact this
    clear e0 p1 p2 p3 p4 hcan hbd hie hy
    go_enter Tryz.func3, Tryz.ntmps3
    go_wp2_with fail
    refine (HF.out _ _ _ (by exact GA.out) (by exact GB.out)).mono ?_
    rintro e w1 ⟨v, rfl, hg, hb⟩
    have KA := Lib.hid (KA.out.to hb)
    have KB := Lib.hid (KB.out.to hb)
    have GA := Lib.hid (GA.out.to hb)
    have GB := Lib.hid (GB.out.to hb)
    have HBE : Hid (Below w.heap.size w w1) := HBE.out.trans ((hb).mono HBE.out.size)
    clear hb
    obtain ⟨Ag, ng, cg, Bg, mg, dg, rfl, hq1, hq2⟩ := hg.form
    have Gg := Lib.hid hg
    clear hq1 hq2 hg
    have ka0 := KA.out.cell 0
    have ka1 := KA.out.cell 1
    have ka2 := KA.out.cell 2
    have kb0 := KB.out.cell 0
    have kb1 := KB.out.cell 1
    have kb2 := KB.out.cell 2
    simp only [List.getElem?_toArray, List.getElem?_cons_zero, List.getElem?_cons_succ] at ka0 ka1 ka2 kb0 kb1 kb2
    have ltKAKG := KA.out.lt
    have ltKBKG := KB.out.lt
    have KGN := Lib.hid (Blk.new w1 24 #[.bool g.neg, .slice Ag ng cg, .slice Bg mg dg])
    have KA := Lib.hid (KA.out.to (below_one w1 (.cells #[.bool g.neg, .slice Ag ng cg, .slice Bg mg dg] 24)))
    have KB := Lib.hid (KB.out.to (below_one w1 (.cells #[.bool g.neg, .slice Ag ng cg, .slice Bg mg dg] 24)))
    have GA := Lib.hid (GA.out.to (below_one w1 (.cells #[.bool g.neg, .slice Ag ng cg, .slice Bg mg dg] 24)))
    have GB := Lib.hid (GB.out.to (below_one w1 (.cells #[.bool g.neg, .slice Ag ng cg, .slice Bg mg dg] 24)))
    have Gg := Lib.hid (Gg.out.to (below_one w1 (.cells #[.bool g.neg, .slice Ag ng cg, .slice Bg mg dg] 24)))
    have HBE : Hid (Below w.heap.size w (w1.alloc (.cells #[.bool g.neg, .slice Ag ng cg, .slice Bg mg dg] 24))) := HBE.out.trans (((below_one w1 (.cells #[.bool g.neg, .slice Ag ng cg, .slice Bg mg dg] 24))).mono HBE.out.size)
    have KG := KGN
    clear KGN
    have neKAKG : (w.heap.size = w1.heap.size) = False := eq_false (by omega)
    have neKGKA : (w1.heap.size = w.heap.size) = False := eq_false (by omega)
    have neKBKG : (w.heap.size + 1 = w1.heap.size) = False := eq_false (by omega)
    have neKGKB : (w1.heap.size = w.heap.size + 1) = False := eq_false (by omega)
    go_wp2_with fail
    refine (HT.out _ _ _ (by exact GA.out) (by exact GB.out)).mono ?_
    rintro e w2 ⟨v, rfl, hg, hb⟩
    clear ka0 ka1 ka2 kb0 kb1 kb2
    have KA := Lib.hid (KA.out.to hb)
    have KB := Lib.hid (KB.out.to hb)
    have KG := Lib.hid (KG.out.to hb)
    have GA := Lib.hid (GA.out.to hb)
    have GB := Lib.hid (GB.out.to hb)
    have Gg := Lib.hid (Gg.out.to hb)
    have HBE : Hid (Below w.heap.size w w2) := HBE.out.trans ((hb).mono HBE.out.size)
    clear hb
    obtain ⟨Aw, nw, cw, Bw, mw, dw, rfl, hq1, hq2⟩ := hg.form
    have Gw := Lib.hid hg
    clear hq1 hq2 hg
    have kg0 := KG.out.cell 0
    have kg1 := KG.out.cell 1
    have kg2 := KG.out.cell 2
    simp only [List.getElem?_toArray, List.getElem?_cons_zero, List.getElem?_cons_succ] at kg0 kg1 kg2
    have ltKAKW := KA.out.lt
    have ltKBKW := KB.out.lt
    have ltKGKW := KG.out.lt
    have KWN := Lib.hid (Blk.new w2 24 #[.bool g.neg, .slice Aw nw cw, .slice Bw mw dw])
    have KA := Lib.hid (KA.out.to (below_one w2 (.cells #[.bool g.neg, .slice Aw nw cw, .slice Bw mw dw] 24)))
    have KB := Lib.hid (KB.out.to (below_one w2 (.cells #[.bool g.neg, .slice Aw nw cw, .slice Bw mw dw] 24)))
    have KG := Lib.hid (KG.out.to (below_one w2 (.cells #[.bool g.neg, .slice Aw nw cw, .slice Bw mw dw] 24)))
    have GA := Lib.hid (GA.out.to (below_one w2 (.cells #[.bool g.neg, .slice Aw nw cw, .slice Bw mw dw] 24)))
    have GB := Lib.hid (GB.out.to (below_one w2 (.cells #[.bool g.neg, .slice Aw nw cw, .slice Bw mw dw] 24)))
    have Gg := Lib.hid (Gg.out.to (below_one w2 (.cells #[.bool g.neg, .slice Aw nw cw, .slice Bw mw dw] 24)))
    have Gw := Lib.hid (Gw.out.to (below_one w2 (.cells #[.bool g.neg, .slice Aw nw cw, .slice Bw mw dw] 24)))
    have HBE : Hid (Below w.heap.size w (w2.alloc (.cells #[.bool g.neg, .slice Aw nw cw, .slice Bw mw dw] 24))) := HBE.out.trans (((below_one w2 (.cells #[.bool g.neg, .slice Aw nw cw, .slice Bw mw dw] 24))).mono HBE.out.size)
    have KW := KWN
    clear KWN
    have neKAKW : (w.heap.size = w2.heap.size) = False := eq_false (by omega)
    have neKWKA : (w2.heap.size = w.heap.size) = False := eq_false (by omega)
    have neKBKW : (w.heap.size + 1 = w2.heap.size) = False := eq_false (by omega)
    have neKWKB : (w2.heap.size = w.heap.size + 1) = False := eq_false (by omega)
    have neKGKW : (w1.heap.size = w2.heap.size) = False := eq_false (by omega)
    have neKWKG : (w2.heap.size = w1.heap.size) = False := eq_false (by omega)
    go_wp2_with fail
    refine (HSM.out _ _ _ _ (by exact Gg.out) (by exact Gw.out)).mono ?_
    rintro e w3 ⟨rfl, hb⟩
    clear kg0 kg1 kg2
    have KA := Lib.hid (KA.out.to hb)
    have KB := Lib.hid (KB.out.to hb)
    have KG := Lib.hid (KG.out.to hb)
    have KW := Lib.hid (KW.out.to hb)
    have GA := Lib.hid (GA.out.to hb)
    have GB := Lib.hid (GB.out.to hb)
    have Gg := Lib.hid (Gg.out.to hb)
    have Gw := Lib.hid (Gw.out.to hb)
    have HBE : Hid (Below w.heap.size w w3) := HBE.out.trans ((hb).mono HBE.out.size)
    clear hb
    have ka0 := KA.out.cell 0
    have ka1 := KA.out.cell 1
    have ka2 := KA.out.cell 2
    simp only [List.getElem?_toArray, List.getElem?_cons_zero, List.getElem?_cons_succ] at ka0 ka1 ka2
    go_wp2_with fail
    refine (HLG.out _ _ (by exact GA.out)).mono ?_
    rintro e w4 ⟨rfl, hb⟩
    clear ka0 ka1 ka2
    have KA := Lib.hid (KA.out.to hb)
    have KB := Lib.hid (KB.out.to hb)
    have KG := Lib.hid (KG.out.to hb)
    have KW := Lib.hid (KW.out.to hb)
    have GA := Lib.hid (GA.out.to hb)
    have GB := Lib.hid (GB.out.to hb)
    have Gg := Lib.hid (Gg.out.to hb)
    have Gw := Lib.hid (Gw.out.to hb)
    have HBE : Hid (Below w.heap.size w w4) := HBE.out.trans ((hb).mono HBE.out.size)
    clear hb
    have ka0 := KA.out.cell 0
    have ka1 := KA.out.cell 1
    have ka2 := KA.out.cell 2
    simp only [List.getElem?_toArray, List.getElem?_cons_zero, List.getElem?_cons_succ] at ka0 ka1 ka2
    go_wp2_with fail
    refine (HFA.out _ _ (by exact GA.out)).mono ?_
    rintro e w5 ⟨rfl, hb⟩
    clear ka0 ka1 ka2
    have KA := Lib.hid (KA.out.to hb)
    have KB := Lib.hid (KB.out.to hb)
    have KG := Lib.hid (KG.out.to hb)
    have KW := Lib.hid (KW.out.to hb)
    have GA := Lib.hid (GA.out.to hb)
    have GB := Lib.hid (GB.out.to hb)
    have Gg := Lib.hid (Gg.out.to hb)
    have Gw := Lib.hid (Gw.out.to hb)
    have HBE : Hid (Below w.heap.size w w5) := HBE.out.trans ((hb).mono HBE.out.size)
    clear hb
    have ka0 := KA.out.cell 0
    have ka1 := KA.out.cell 1
    have ka2 := KA.out.cell 2
    simp only [List.getElem?_toArray, List.getElem?_cons_zero, List.getElem?_cons_succ] at ka0 ka1 ka2
    go_wp2_with fail
    refine (HOF.out _ _ (by exact GA.out)).mono ?_
    rintro e w6 ⟨v, rfl, hr, hb⟩
    clear ka0 ka1 ka2
    have KA := Lib.hid (KA.out.to hb)
    have KB := Lib.hid (KB.out.to hb)
    have KG := Lib.hid (KG.out.to hb)
    have KW := Lib.hid (KW.out.to hb)
    have GA := Lib.hid (GA.out.to hb)
    have GB := Lib.hid (GB.out.to hb)
    have Gg := Lib.hid (Gg.out.to hb)
    have Gw := Lib.hid (Gw.out.to hb)
    have HBE : Hid (Below w.heap.size w w6) := HBE.out.trans ((hb).mono HBE.out.size)
    clear hb
    have R1 := Lib.hid hr
    clear hr
    go_wp2_with fail
    refine (HII.out _ _ (by exact R1.out)).mono ?_
    rintro e w7 ⟨rfl, hb⟩
    have KA := Lib.hid (KA.out.to hb)
    have KB := Lib.hid (KB.out.to hb)
    have KG := Lib.hid (KG.out.to hb)
    have KW := Lib.hid (KW.out.to hb)
    have GA := Lib.hid (GA.out.to hb)
    have GB := Lib.hid (GB.out.to hb)
    have Gg := Lib.hid (Gg.out.to hb)
    have Gw := Lib.hid (Gw.out.to hb)
    have R1 := Lib.hid (R1.out.to hb)
    have HBE : Hid (Below w.heap.size w w7) := HBE.out.trans ((hb).mono HBE.out.size)
    clear hb
    go_wp2_with fail
    refine (counted_any _).mono ?_
    rintro e wz ⟨rfl, hb⟩
    go_wp2_with fail
    go_ret
    exact ⟨rfl, HBE.out.trans (hb.mono HBE.out.size)⟩
  · have hie : intErr a0 = 0 := by unfold intErr; rw [if_pos e0, if_pos hy]
    rw [hie, if_pos rfl] at HLG
    have HII : Hid (∀ (W : World) (v : Value), RV W v a0.neg a0.x a0.y → Calls Tryz.prog 11 #[v] W fun e w' => e = .returned (.bool true) ∧ Below W.heap.size W w') := fun W v h => by
      have := risInt_any a0.neg a0.x a0.y v W h (by have := HL.out; omega)
      rw [cmpI_one_true hy] at this
      exact this
    have HLE : Hid (∀ (W : World) (v : Value), Nat16 W v a0.x → Calls Tryz.prog 13 #[v] W fun e w' => e = .returned (.int .i64 (blen a0.x : Int)) ∧ Below W.heap.size W w') := fun W v hW => (rlen_any a0.x v W hW (by have := HL.out; omega)).mono fun e w' ⟨h1, h2⟩ => ⟨h1, h2 ▸ Below.refl _ _⟩
    generalize blen a0.x = bl at *
    have hbl : ((bl : Int) == (bl : Int)) = true := by simp
    have hfd : ∀ (s : Bool) (x y : Value) (W : World), (Instr.field 37 (.agg #[.bool s, x, y]) 1).run Tryz.prog W = .ok x W := fun _ _ _ _ => by kernel_rfl
    clear e0 p1 p2 p3 p4 hcan hbd hie hy
    go_enter Tryz.func3, Tryz.ntmps3
    go_wp2_with fail
    refine (HF.out _ _ _ (by exact GA.out) (by exact GB.out)).mono ?_
    rintro e w1 ⟨v, rfl, hg, hb⟩
    have KA := Lib.hid (KA.out.to hb)
    have KB := Lib.hid (KB.out.to hb)
    have GA := Lib.hid (GA.out.to hb)
    have GB := Lib.hid (GB.out.to hb)
    have HBE : Hid (Below w.heap.size w w1) := HBE.out.trans ((hb).mono HBE.out.size)
    clear hb
    obtain ⟨Ag, ng, cg, Bg, mg, dg, rfl, hq1, hq2⟩ := hg.form
    have Gg := Lib.hid hg
    clear hq1 hq2 hg
    have ka0 := KA.out.cell 0
    have ka1 := KA.out.cell 1
    have ka2 := KA.out.cell 2
    have kb0 := KB.out.cell 0
    have kb1 := KB.out.cell 1
    have kb2 := KB.out.cell 2
    simp only [List.getElem?_toArray, List.getElem?_cons_zero, List.getElem?_cons_succ] at ka0 ka1 ka2 kb0 kb1 kb2
    have ltKAKG := KA.out.lt
    have ltKBKG := KB.out.lt
    have KGN := Lib.hid (Blk.new w1 24 #[.bool g.neg, .slice Ag ng cg, .slice Bg mg dg])
    have KA := Lib.hid (KA.out.to (below_one w1 (.cells #[.bool g.neg, .slice Ag ng cg, .slice Bg mg dg] 24)))
    have KB := Lib.hid (KB.out.to (below_one w1 (.cells #[.bool g.neg, .slice Ag ng cg, .slice Bg mg dg] 24)))
    have GA := Lib.hid (GA.out.to (below_one w1 (.cells #[.bool g.neg, .slice Ag ng cg, .slice Bg mg dg] 24)))
    have GB := Lib.hid (GB.out.to (below_one w1 (.cells #[.bool g.neg, .slice Ag ng cg, .slice Bg mg dg] 24)))
    have Gg := Lib.hid (Gg.out.to (below_one w1 (.cells #[.bool g.neg, .slice Ag ng cg, .slice Bg mg dg] 24)))
    have HBE : Hid (Below w.heap.size w (w1.alloc (.cells #[.bool g.neg, .slice Ag ng cg, .slice Bg mg dg] 24))) := HBE.out.trans (((below_one w1 (.cells #[.bool g.neg, .slice Ag ng cg, .slice Bg mg dg] 24))).mono HBE.out.size)
    have KG := KGN
    clear KGN
    have neKAKG : (w.heap.size = w1.heap.size) = False := eq_false (by omega)
    have neKGKA : (w1.heap.size = w.heap.size) = False := eq_false (by omega)
    have neKBKG : (w.heap.size + 1 = w1.heap.size) = False := eq_false (by omega)
    have neKGKB : (w1.heap.size = w.heap.size + 1) = False := eq_false (by omega)
    go_wp2_with fail
    refine (HT.out _ _ _ (by exact GA.out) (by exact GB.out)).mono ?_
    rintro e w2 ⟨v, rfl, hg, hb⟩
    clear ka0 ka1 ka2 kb0 kb1 kb2
    have KA := Lib.hid (KA.out.to hb)
    have KB := Lib.hid (KB.out.to hb)
    have KG := Lib.hid (KG.out.to hb)
    have GA := Lib.hid (GA.out.to hb)
    have GB := Lib.hid (GB.out.to hb)
    have Gg := Lib.hid (Gg.out.to hb)
    have HBE : Hid (Below w.heap.size w w2) := HBE.out.trans ((hb).mono HBE.out.size)
    clear hb
    obtain ⟨Aw, nw, cw, Bw, mw, dw, rfl, hq1, hq2⟩ := hg.form
    have Gw := Lib.hid hg
    clear hq1 hq2 hg
    have kg0 := KG.out.cell 0
    have kg1 := KG.out.cell 1
    have kg2 := KG.out.cell 2
    simp only [List.getElem?_toArray, List.getElem?_cons_zero, List.getElem?_cons_succ] at kg0 kg1 kg2
    have ltKAKW := KA.out.lt
    have ltKBKW := KB.out.lt
    have ltKGKW := KG.out.lt
    have KWN := Lib.hid (Blk.new w2 24 #[.bool g.neg, .slice Aw nw cw, .slice Bw mw dw])
    have KA := Lib.hid (KA.out.to (below_one w2 (.cells #[.bool g.neg, .slice Aw nw cw, .slice Bw mw dw] 24)))
    have KB := Lib.hid (KB.out.to (below_one w2 (.cells #[.bool g.neg, .slice Aw nw cw, .slice Bw mw dw] 24)))
    have KG := Lib.hid (KG.out.to (below_one w2 (.cells #[.bool g.neg, .slice Aw nw cw, .slice Bw mw dw] 24)))
    have GA := Lib.hid (GA.out.to (below_one w2 (.cells #[.bool g.neg, .slice Aw nw cw, .slice Bw mw dw] 24)))
    have GB := Lib.hid (GB.out.to (below_one w2 (.cells #[.bool g.neg, .slice Aw nw cw, .slice Bw mw dw] 24)))
    have Gg := Lib.hid (Gg.out.to (below_one w2 (.cells #[.bool g.neg, .slice Aw nw cw, .slice Bw mw dw] 24)))
    have Gw := Lib.hid (Gw.out.to (below_one w2 (.cells #[.bool g.neg, .slice Aw nw cw, .slice Bw mw dw] 24)))
    have HBE : Hid (Below w.heap.size w (w2.alloc (.cells #[.bool g.neg, .slice Aw nw cw, .slice Bw mw dw] 24))) := HBE.out.trans (((below_one w2 (.cells #[.bool g.neg, .slice Aw nw cw, .slice Bw mw dw] 24))).mono HBE.out.size)
    have KW := KWN
    clear KWN
    have neKAKW : (w.heap.size = w2.heap.size) = False := eq_false (by omega)
    have neKWKA : (w2.heap.size = w.heap.size) = False := eq_false (by omega)
    have neKBKW : (w.heap.size + 1 = w2.heap.size) = False := eq_false (by omega)
    have neKWKB : (w2.heap.size = w.heap.size + 1) = False := eq_false (by omega)
    have neKGKW : (w1.heap.size = w2.heap.size) = False := eq_false (by omega)
    have neKWKG : (w2.heap.size = w1.heap.size) = False := eq_false (by omega)
    go_wp2_with fail
    refine (HSM.out _ _ _ _ (by exact Gg.out) (by exact Gw.out)).mono ?_
    rintro e w3 ⟨rfl, hb⟩
    clear kg0 kg1 kg2
    have KA := Lib.hid (KA.out.to hb)
    have KB := Lib.hid (KB.out.to hb)
    have KG := Lib.hid (KG.out.to hb)
    have KW := Lib.hid (KW.out.to hb)
    have GA := Lib.hid (GA.out.to hb)
    have GB := Lib.hid (GB.out.to hb)
    have Gg := Lib.hid (Gg.out.to hb)
    have Gw := Lib.hid (Gw.out.to hb)
    have HBE : Hid (Below w.heap.size w w3) := HBE.out.trans ((hb).mono HBE.out.size)
    clear hb
    have ka0 := KA.out.cell 0
    have ka1 := KA.out.cell 1
    have ka2 := KA.out.cell 2
    simp only [List.getElem?_toArray, List.getElem?_cons_zero, List.getElem?_cons_succ] at ka0 ka1 ka2
    go_wp2_with fail
    refine (HLG.out _ _ (by exact GA.out)).mono ?_
    rintro e w4 ⟨rfl, hb⟩
    clear ka0 ka1 ka2
    have KA := Lib.hid (KA.out.to hb)
    have KB := Lib.hid (KB.out.to hb)
    have KG := Lib.hid (KG.out.to hb)
    have KW := Lib.hid (KW.out.to hb)
    have GA := Lib.hid (GA.out.to hb)
    have GB := Lib.hid (GB.out.to hb)
    have Gg := Lib.hid (Gg.out.to hb)
    have Gw := Lib.hid (Gw.out.to hb)
    have HBE : Hid (Below w.heap.size w w4) := HBE.out.trans ((hb).mono HBE.out.size)
    clear hb
    have ka0 := KA.out.cell 0
    have ka1 := KA.out.cell 1
    have ka2 := KA.out.cell 2
    simp only [List.getElem?_toArray, List.getElem?_cons_zero, List.getElem?_cons_succ] at ka0 ka1 ka2
    go_wp2_with fail
    refine (HFA.out _ _ (by exact GA.out)).mono ?_
    rintro e w5 ⟨rfl, hb⟩
    clear ka0 ka1 ka2
    have KA := Lib.hid (KA.out.to hb)
    have KB := Lib.hid (KB.out.to hb)
    have KG := Lib.hid (KG.out.to hb)
    have KW := Lib.hid (KW.out.to hb)
    have GA := Lib.hid (GA.out.to hb)
    have GB := Lib.hid (GB.out.to hb)
    have Gg := Lib.hid (Gg.out.to hb)
    have Gw := Lib.hid (Gw.out.to hb)
    have HBE : Hid (Below w.heap.size w w5) := HBE.out.trans ((hb).mono HBE.out.size)
    clear hb
    have ka0 := KA.out.cell 0
    have ka1 := KA.out.cell 1
    have ka2 := KA.out.cell 2
    simp only [List.getElem?_toArray, List.getElem?_cons_zero, List.getElem?_cons_succ] at ka0 ka1 ka2
    go_wp2_with fail
    refine (HOF.out _ _ (by exact GA.out)).mono ?_
    rintro e w6 ⟨v, rfl, hr, hb⟩
    clear ka0 ka1 ka2
    have KA := Lib.hid (KA.out.to hb)
    have KB := Lib.hid (KB.out.to hb)
    have KG := Lib.hid (KG.out.to hb)
    have KW := Lib.hid (KW.out.to hb)
    have GA := Lib.hid (GA.out.to hb)
    have GB := Lib.hid (GB.out.to hb)
    have Gg := Lib.hid (Gg.out.to hb)
    have Gw := Lib.hid (Gw.out.to hb)
    have HBE : Hid (Below w.heap.size w w6) := HBE.out.trans ((hb).mono HBE.out.size)
    clear hb
    have R1 := Lib.hid hr
    clear hr
    go_wp2_with fail
    refine (HII.out _ _ (by exact R1.out)).mono ?_
    rintro e w7 ⟨rfl, hb⟩
    have KA := Lib.hid (KA.out.to hb)
    have KB := Lib.hid (KB.out.to hb)
    have KG := Lib.hid (KG.out.to hb)
    have KW := Lib.hid (KW.out.to hb)
    have GA := Lib.hid (GA.out.to hb)
    have GB := Lib.hid (GB.out.to hb)
    have Gg := Lib.hid (Gg.out.to hb)
    have Gw := Lib.hid (Gw.out.to hb)
    have R1 := Lib.hid (R1.out.to hb)
    have HBE : Hid (Below w.heap.size w w7) := HBE.out.trans ((hb).mono HBE.out.size)
    clear hb
    have ka0 := KA.out.cell 0
    have ka1 := KA.out.cell 1
    have ka2 := KA.out.cell 2
    simp only [List.getElem?_toArray, List.getElem?_cons_zero, List.getElem?_cons_succ] at ka0 ka1 ka2
    go_wp2_with fail
    refine (HOF.out _ _ (by exact GA.out)).mono ?_
    rintro e w8 ⟨v, rfl, hr, hb⟩
    clear ka0 ka1 ka2
    have KA := Lib.hid (KA.out.to hb)
    have KB := Lib.hid (KB.out.to hb)
    have KG := Lib.hid (KG.out.to hb)
    have KW := Lib.hid (KW.out.to hb)
    have GA := Lib.hid (GA.out.to hb)
    have GB := Lib.hid (GB.out.to hb)
    have Gg := Lib.hid (Gg.out.to hb)
    have Gw := Lib.hid (Gw.out.to hb)
    have R1 := Lib.hid (R1.out.to hb)
    have HBE : Hid (Below w.heap.size w w8) := HBE.out.trans ((hb).mono HBE.out.size)
    clear hb
    obtain ⟨A9, n9, c9, B9, m9, d9, rfl, hq1, hq2⟩ := hr.form
    have R2 := Lib.hid hr
    clear hr hq1 hq2
    go_wp2_with fail
    refine (HLE.out _ _ (by exact R2.out.parts.2.1)).mono ?_
    rintro e w9 ⟨rfl, hb⟩
    have KA := Lib.hid (KA.out.to hb)
    have KB := Lib.hid (KB.out.to hb)
    have KG := Lib.hid (KG.out.to hb)
    have KW := Lib.hid (KW.out.to hb)
    have GA := Lib.hid (GA.out.to hb)
    have GB := Lib.hid (GB.out.to hb)
    have Gg := Lib.hid (Gg.out.to hb)
    have Gw := Lib.hid (Gw.out.to hb)
    have R1 := Lib.hid (R1.out.to hb)
    have R2 := Lib.hid (R2.out.to hb)
    have HBE : Hid (Below w.heap.size w w9) := HBE.out.trans ((hb).mono HBE.out.size)
    clear hb
    go_wp2_with fail
    refine (counted_any _).mono ?_
    rintro e wz ⟨rfl, hb⟩
    go_wp2_with fail
    go_ret
    exact ⟨rfl, HBE.out.trans (hb.mono HBE.out.size)⟩

theorem numberShift_holds : Rows.NumberShiftMatchesSpecCardSaid := LawShift.card law_shift
#print axioms numberShift_holds
end Go.Proofs.YtdfcpkjphdepcaaGreatDoor

/- NumberGcdIsGreatest: for all numbers, Gcd returns the specified number; it divides both integers, and the quotients have no common divisor. -/
import Derived.Deep.RegionHeld3
import Derived.Test.YtdhgbnnopekfjaaGreatDoorJo19
import Derived.Test.YtdhgbnnopekfjaaGreatDoorJo36
import Derived.Test.YtdhgbnnopekfjaaGreatDoorJo37
import Derived.Test.YtdhgbnnopekfjaaGreatDoorJo38
set_option linter.unusedVariables false
set_option linter.unusedSimpArgs false
namespace Go.Proofs.YtdhgbnnopekfjaaGreatDoor
open Go.RowKit NumB
set_option linter.unusedVariables false
set_option linter.unusedSimpArgs false

set_option maxRecDepth 1000000 in
set_option maxHeartbeats 25600000 in
theorem law_gcd : LawGcd.Walk := by
  intro a0 v0 a1 v1 w g0 g1
  obtain ⟨A0, n0, c0, B0, m0, d0, rfl, hq1, hq2⟩ := g0.form
  clear hq1 hq2
  obtain ⟨A1, n1, c1, B1, m1, d1, rfl, hq1, hq2⟩ := g1.form
  clear hq1 hq2
  obtain ⟨p, HF, HT, hp⟩ : ∃ p : LN × Int, Hid (∀ (W : World) (u v : Value), GV W u a0 → GV W v a1 → Calls Tryz.prog 14 #[u, v] W (SPost W p)) ∧ Hid (∀ (W : World) (u v : Value), GV W u a0 → GV W v a1 → Calls Tryz.prog 9 #[.int .u8 103, u, v] W (SPost W p)) ∧ ((p.2 ≠ 0 ∧ p.1 = zeroL) ∨ (p.2 = 0 ∧ p.1.err = 0 ∧ (signS p.1 = 0 ∨ (signS p.1 = 1 ∧ ∃ x y : LN, divS a0 p.1 = (x, 0) ∧ divS a1 p.1 = (y, 0) ∧ gcdS x y = (intL false 1, 0))))) :=
    ⟨gcdS a0 a1, fun W u v h1 h2 => gcdNum_S a0 a1 u v W h1 h2, fun W u v h1 h2 => by
      have := rtwoG 103 rfl a0 a1 u v W h1 h2
      rw [rtwoGS_eq] at this
      exact this, gcd_law g0.ok g1.ok⟩
  obtain ⟨g, z⟩ := p
  dsimp only at hp
  have hee : (z != z) = false := by simp
  have HSM : Hid (∀ (W : World) (u v : Value) (a : LN), GV W u a → GV W v a → Calls Tryz.prog 10 #[u, v] W fun e w' => e = .returned (.bool true) ∧ Below W.heap.size W w') := fun W u v a h1 h2 => by
    have := same_S a a u v W h1 h2
    rw [sameB_true rfl] at this
    exact this
  have HSG : Hid (∀ (W : World) (v : Value), GV W v g → Calls Tryz.prog 15 #[v] W fun e w' => e = .returned (.tuple #[.int .i64 (if g.err = 0 then signS g else 0), .int .i64 g.err]) ∧ Below W.heap.size W w') := fun W v h => sign_S g v W h
  have KA := Lib.hid ((blk2 w 24 24 #[.bool a0.neg, .slice A0 n0 c0, .slice B0 m0 d0] #[.bool a1.neg, .slice A1 n1 c1, .slice B1 m1 d1]).1)
  have KB := Lib.hid ((blk2 w 24 24 #[.bool a0.neg, .slice A0 n0 c0, .slice B0 m0 d0] #[.bool a1.neg, .slice A1 n1 c1, .slice B1 m1 d1]).2)
  have GA := Lib.hid (g0.to (below_two w (.cells #[.bool a0.neg, .slice A0 n0 c0, .slice B0 m0 d0] 24) (.cells #[.bool a1.neg, .slice A1 n1 c1, .slice B1 m1 d1] 24)))
  have GB := Lib.hid (g1.to (below_two w (.cells #[.bool a0.neg, .slice A0 n0 c0, .slice B0 m0 d0] 24) (.cells #[.bool a1.neg, .slice A1 n1 c1, .slice B1 m1 d1] 24)))
  have HBE := Lib.hid (below_two w (.cells #[.bool a0.neg, .slice A0 n0 c0, .slice B0 m0 d0] 24) (.cells #[.bool a1.neg, .slice A1 n1 c1, .slice B1 m1 d1] 24))
  clear g0 g1
  rcases hp with ⟨h1, h2⟩ | ⟨rfl, h2, h3 | ⟨h3, x, y, hx, hy, hz⟩⟩
  · have b0 : (z != 0) = true := by rw [bne_iff_ne]; exact h1
    have hbd : 0 ≤ g.err ∧ g.err ≤ 3 := checkL_bd _ _ _
    generalize hs : (if g.err = 0 then signS g else 0) = s at *
    generalize g.err = ge at *
    clear h1 h2 hs
    go_enter Tryz.func4, Tryz.ntmps4
    go_wp2_with fail
    refine (HF.out _ _ _ (by exact GA.out) (by exact GB.out)).mono ?_
    rintro e w1 ⟨v, rfl, hg, hb⟩
    have KA := Lib.hid (KA.out.to hb)
    have KB := Lib.hid (KB.out.to hb)
    have GA := Lib.hid (GA.out.to hb)
    have GB := Lib.hid (GB.out.to hb)
    have HBE : Hid (Below w.heap.size w w1) := HBE.out.trans ((hb).mono HBE.out.size)
    clear hb
    obtain ⟨Ag, ng, cg, Bg, mg, dg, rfl, hq1, hq2⟩ := hg.form
    have Gg := Lib.hid hg
    clear hq1 hq2 hg
    have ka0 := KA.out.cell 0
    have ka1 := KA.out.cell 1
    have ka2 := KA.out.cell 2
    have kb0 := KB.out.cell 0
    have kb1 := KB.out.cell 1
    have kb2 := KB.out.cell 2
    simp only [List.getElem?_toArray, List.getElem?_cons_zero, List.getElem?_cons_succ] at ka0 ka1 ka2 kb0 kb1 kb2
    have ltKAKG := KA.out.lt
    have ltKBKG := KB.out.lt
    have KGN := Lib.hid (Blk.new w1 24 #[.bool g.neg, .slice Ag ng cg, .slice Bg mg dg])
    have KA := Lib.hid (KA.out.to (below_one w1 (.cells #[.bool g.neg, .slice Ag ng cg, .slice Bg mg dg] 24)))
    have KB := Lib.hid (KB.out.to (below_one w1 (.cells #[.bool g.neg, .slice Ag ng cg, .slice Bg mg dg] 24)))
    have GA := Lib.hid (GA.out.to (below_one w1 (.cells #[.bool g.neg, .slice Ag ng cg, .slice Bg mg dg] 24)))
    have GB := Lib.hid (GB.out.to (below_one w1 (.cells #[.bool g.neg, .slice Ag ng cg, .slice Bg mg dg] 24)))
    have Gg := Lib.hid (Gg.out.to (below_one w1 (.cells #[.bool g.neg, .slice Ag ng cg, .slice Bg mg dg] 24)))
    have HBE : Hid (Below w.heap.size w (w1.alloc (.cells #[.bool g.neg, .slice Ag ng cg, .slice Bg mg dg] 24))) := HBE.out.trans (((below_one w1 (.cells #[.bool g.neg, .slice Ag ng cg, .slice Bg mg dg] 24))).mono HBE.out.size)
    have KG := KGN
    clear KGN
    have neKAKG : (w.heap.size = w1.heap.size) = False := eq_false (by omega)
    have neKGKA : (w1.heap.size = w.heap.size) = False := eq_false (by omega)
    have neKBKG : (w.heap.size + 1 = w1.heap.size) = False := eq_false (by omega)
    have neKGKB : (w1.heap.size = w.heap.size + 1) = False := eq_false (by omega)
    go_wp2_with fail
    refine (HT.out _ _ _ (by exact GA.out) (by exact GB.out)).mono ?_
    rintro e w2 ⟨v, rfl, hg, hb⟩
    clear ka0 ka1 ka2 kb0 kb1 kb2
    have KA := Lib.hid (KA.out.to hb)
    have KB := Lib.hid (KB.out.to hb)
    have KG := Lib.hid (KG.out.to hb)
    have GA := Lib.hid (GA.out.to hb)
    have GB := Lib.hid (GB.out.to hb)
    have Gg := Lib.hid (Gg.out.to hb)
    have HBE : Hid (Below w.heap.size w w2) := HBE.out.trans ((hb).mono HBE.out.size)
    clear hb
    obtain ⟨Aw, nw, cw, Bw, mw, dw, rfl, hq1, hq2⟩ := hg.form
    have Gw := Lib.hid hg
    clear hq1 hq2 hg
    have kg0 := KG.out.cell 0
    have kg1 := KG.out.cell 1
    have kg2 := KG.out.cell 2
    simp only [List.getElem?_toArray, List.getElem?_cons_zero, List.getElem?_cons_succ] at kg0 kg1 kg2
    have ltKAKW := KA.out.lt
    have ltKBKW := KB.out.lt
    have ltKGKW := KG.out.lt
    have KWN := Lib.hid (Blk.new w2 24 #[.bool g.neg, .slice Aw nw cw, .slice Bw mw dw])
    have KA := Lib.hid (KA.out.to (below_one w2 (.cells #[.bool g.neg, .slice Aw nw cw, .slice Bw mw dw] 24)))
    have KB := Lib.hid (KB.out.to (below_one w2 (.cells #[.bool g.neg, .slice Aw nw cw, .slice Bw mw dw] 24)))
    have KG := Lib.hid (KG.out.to (below_one w2 (.cells #[.bool g.neg, .slice Aw nw cw, .slice Bw mw dw] 24)))
    have GA := Lib.hid (GA.out.to (below_one w2 (.cells #[.bool g.neg, .slice Aw nw cw, .slice Bw mw dw] 24)))
    have GB := Lib.hid (GB.out.to (below_one w2 (.cells #[.bool g.neg, .slice Aw nw cw, .slice Bw mw dw] 24)))
    have Gg := Lib.hid (Gg.out.to (below_one w2 (.cells #[.bool g.neg, .slice Aw nw cw, .slice Bw mw dw] 24)))
    have Gw := Lib.hid (Gw.out.to (below_one w2 (.cells #[.bool g.neg, .slice Aw nw cw, .slice Bw mw dw] 24)))
    have HBE : Hid (Below w.heap.size w (w2.alloc (.cells #[.bool g.neg, .slice Aw nw cw, .slice Bw mw dw] 24))) := HBE.out.trans (((below_one w2 (.cells #[.bool g.neg, .slice Aw nw cw, .slice Bw mw dw] 24))).mono HBE.out.size)
    have KW := KWN
    clear KWN
    have neKAKW : (w.heap.size = w2.heap.size) = False := eq_false (by omega)
    have neKWKA : (w2.heap.size = w.heap.size) = False := eq_false (by omega)
    have neKBKW : (w.heap.size + 1 = w2.heap.size) = False := eq_false (by omega)
    have neKWKB : (w2.heap.size = w.heap.size + 1) = False := eq_false (by omega)
    have neKGKW : (w1.heap.size = w2.heap.size) = False := eq_false (by omega)
    have neKWKG : (w2.heap.size = w1.heap.size) = False := eq_false (by omega)
    go_wp2_with fail
    refine (HSM.out _ _ _ _ (by exact Gg.out) (by exact Gw.out)).mono ?_
    rintro e w3 ⟨rfl, hb⟩
    clear kg0 kg1 kg2
    have KA := Lib.hid (KA.out.to hb)
    have KB := Lib.hid (KB.out.to hb)
    have KG := Lib.hid (KG.out.to hb)
    have KW := Lib.hid (KW.out.to hb)
    have GA := Lib.hid (GA.out.to hb)
    have GB := Lib.hid (GB.out.to hb)
    have Gg := Lib.hid (Gg.out.to hb)
    have Gw := Lib.hid (Gw.out.to hb)
    have HBE : Hid (Below w.heap.size w w3) := HBE.out.trans ((hb).mono HBE.out.size)
    clear hb
    have kg0 := KG.out.cell 0
    have kg1 := KG.out.cell 1
    have kg2 := KG.out.cell 2
    simp only [List.getElem?_toArray, List.getElem?_cons_zero, List.getElem?_cons_succ] at kg0 kg1 kg2
    go_wp2_with fail
    refine (HSG.out _ _ (by exact Gg.out)).mono ?_
    rintro e w4 ⟨rfl, hb⟩
    clear kg0 kg1 kg2
    have KA := Lib.hid (KA.out.to hb)
    have KB := Lib.hid (KB.out.to hb)
    have KG := Lib.hid (KG.out.to hb)
    have KW := Lib.hid (KW.out.to hb)
    have GA := Lib.hid (GA.out.to hb)
    have GB := Lib.hid (GB.out.to hb)
    have Gg := Lib.hid (Gg.out.to hb)
    have Gw := Lib.hid (Gw.out.to hb)
    have HBE : Hid (Below w.heap.size w w4) := HBE.out.trans ((hb).mono HBE.out.size)
    clear hb
    go_wp2_with fail
    refine (counted_any _).mono ?_
    rintro e wz ⟨rfl, hb⟩
    go_wp2_with fail
    go_ret
    exact ⟨rfl, HBE.out.trans (hb.mono HBE.out.size)⟩
  · rw [h2, if_pos rfl, h3] at HSG
    clear h2 h3
    go_enter Tryz.func4, Tryz.ntmps4
    go_wp2_with fail
    refine (HF.out _ _ _ (by exact GA.out) (by exact GB.out)).mono ?_
    rintro e w1 ⟨v, rfl, hg, hb⟩
    have KA := Lib.hid (KA.out.to hb)
    have KB := Lib.hid (KB.out.to hb)
    have GA := Lib.hid (GA.out.to hb)
    have GB := Lib.hid (GB.out.to hb)
    have HBE : Hid (Below w.heap.size w w1) := HBE.out.trans ((hb).mono HBE.out.size)
    clear hb
    obtain ⟨Ag, ng, cg, Bg, mg, dg, rfl, hq1, hq2⟩ := hg.form
    have Gg := Lib.hid hg
    clear hq1 hq2 hg
    have ka0 := KA.out.cell 0
    have ka1 := KA.out.cell 1
    have ka2 := KA.out.cell 2
    have kb0 := KB.out.cell 0
    have kb1 := KB.out.cell 1
    have kb2 := KB.out.cell 2
    simp only [List.getElem?_toArray, List.getElem?_cons_zero, List.getElem?_cons_succ] at ka0 ka1 ka2 kb0 kb1 kb2
    have ltKAKG := KA.out.lt
    have ltKBKG := KB.out.lt
    have KGN := Lib.hid (Blk.new w1 24 #[.bool g.neg, .slice Ag ng cg, .slice Bg mg dg])
    have KA := Lib.hid (KA.out.to (below_one w1 (.cells #[.bool g.neg, .slice Ag ng cg, .slice Bg mg dg] 24)))
    have KB := Lib.hid (KB.out.to (below_one w1 (.cells #[.bool g.neg, .slice Ag ng cg, .slice Bg mg dg] 24)))
    have GA := Lib.hid (GA.out.to (below_one w1 (.cells #[.bool g.neg, .slice Ag ng cg, .slice Bg mg dg] 24)))
    have GB := Lib.hid (GB.out.to (below_one w1 (.cells #[.bool g.neg, .slice Ag ng cg, .slice Bg mg dg] 24)))
    have Gg := Lib.hid (Gg.out.to (below_one w1 (.cells #[.bool g.neg, .slice Ag ng cg, .slice Bg mg dg] 24)))
    have HBE : Hid (Below w.heap.size w (w1.alloc (.cells #[.bool g.neg, .slice Ag ng cg, .slice Bg mg dg] 24))) := HBE.out.trans (((below_one w1 (.cells #[.bool g.neg, .slice Ag ng cg, .slice Bg mg dg] 24))).mono HBE.out.size)
    have KG := KGN
    clear KGN
    have neKAKG : (w.heap.size = w1.heap.size) = False := eq_false (by omega)
    have neKGKA : (w1.heap.size = w.heap.size) = False := eq_false (by omega)
    have neKBKG : (w.heap.size + 1 = w1.heap.size) = False := eq_false (by omega)
    have neKGKB : (w1.heap.size = w.heap.size + 1) = False := eq_false (by omega)
    go_wp2_with fail
    refine (HT.out _ _ _ (by exact GA.out) (by exact GB.out)).mono ?_
    rintro e w2 ⟨v, rfl, hg, hb⟩
    clear ka0 ka1 ka2 kb0 kb1 kb2
    have KA := Lib.hid (KA.out.to hb)
    have KB := Lib.hid (KB.out.to hb)
    have KG := Lib.hid (KG.out.to hb)
    have GA := Lib.hid (GA.out.to hb)
    have GB := Lib.hid (GB.out.to hb)
    have Gg := Lib.hid (Gg.out.to hb)
    have HBE : Hid (Below w.heap.size w w2) := HBE.out.trans ((hb).mono HBE.out.size)
    clear hb
    obtain ⟨Aw, nw, cw, Bw, mw, dw, rfl, hq1, hq2⟩ := hg.form
    have Gw := Lib.hid hg
    clear hq1 hq2 hg
    have kg0 := KG.out.cell 0
    have kg1 := KG.out.cell 1
    have kg2 := KG.out.cell 2
    simp only [List.getElem?_toArray, List.getElem?_cons_zero, List.getElem?_cons_succ] at kg0 kg1 kg2
    have ltKAKW := KA.out.lt
    have ltKBKW := KB.out.lt
    have ltKGKW := KG.out.lt
    have KWN := Lib.hid (Blk.new w2 24 #[.bool g.neg, .slice Aw nw cw, .slice Bw mw dw])
    have KA := Lib.hid (KA.out.to (below_one w2 (.cells #[.bool g.neg, .slice Aw nw cw, .slice Bw mw dw] 24)))
    have KB := Lib.hid (KB.out.to (below_one w2 (.cells #[.bool g.neg, .slice Aw nw cw, .slice Bw mw dw] 24)))
    have KG := Lib.hid (KG.out.to (below_one w2 (.cells #[.bool g.neg, .slice Aw nw cw, .slice Bw mw dw] 24)))
    have GA := Lib.hid (GA.out.to (below_one w2 (.cells #[.bool g.neg, .slice Aw nw cw, .slice Bw mw dw] 24)))
    have GB := Lib.hid (GB.out.to (below_one w2 (.cells #[.bool g.neg, .slice Aw nw cw, .slice Bw mw dw] 24)))
    have Gg := Lib.hid (Gg.out.to (below_one w2 (.cells #[.bool g.neg, .slice Aw nw cw, .slice Bw mw dw] 24)))
    have Gw := Lib.hid (Gw.out.to (below_one w2 (.cells #[.bool g.neg, .slice Aw nw cw, .slice Bw mw dw] 24)))
    have HBE : Hid (Below w.heap.size w (w2.alloc (.cells #[.bool g.neg, .slice Aw nw cw, .slice Bw mw dw] 24))) := HBE.out.trans (((below_one w2 (.cells #[.bool g.neg, .slice Aw nw cw, .slice Bw mw dw] 24))).mono HBE.out.size)
    have KW := KWN
    clear KWN
    have neKAKW : (w.heap.size = w2.heap.size) = False := eq_false (by omega)
    have neKWKA : (w2.heap.size = w.heap.size) = False := eq_false (by omega)
    have neKBKW : (w.heap.size + 1 = w2.heap.size) = False := eq_false (by omega)
    have neKWKB : (w2.heap.size = w.heap.size + 1) = False := eq_false (by omega)
    have neKGKW : (w1.heap.size = w2.heap.size) = False := eq_false (by omega)
    have neKWKG : (w2.heap.size = w1.heap.size) = False := eq_false (by omega)
    go_wp2_with fail
    refine (HSM.out _ _ _ _ (by exact Gg.out) (by exact Gw.out)).mono ?_
    rintro e w3 ⟨rfl, hb⟩
    clear kg0 kg1 kg2
    have KA := Lib.hid (KA.out.to hb)
    have KB := Lib.hid (KB.out.to hb)
    have KG := Lib.hid (KG.out.to hb)
    have KW := Lib.hid (KW.out.to hb)
    have GA := Lib.hid (GA.out.to hb)
    have GB := Lib.hid (GB.out.to hb)
    have Gg := Lib.hid (Gg.out.to hb)
    have Gw := Lib.hid (Gw.out.to hb)
    have HBE : Hid (Below w.heap.size w w3) := HBE.out.trans ((hb).mono HBE.out.size)
    clear hb
    have kg0 := KG.out.cell 0
    have kg1 := KG.out.cell 1
    have kg2 := KG.out.cell 2
    simp only [List.getElem?_toArray, List.getElem?_cons_zero, List.getElem?_cons_succ] at kg0 kg1 kg2
    go_wp2_with fail
    refine (HSG.out _ _ (by exact Gg.out)).mono ?_
    rintro e w4 ⟨rfl, hb⟩
    clear kg0 kg1 kg2
    have KA := Lib.hid (KA.out.to hb)
    have KB := Lib.hid (KB.out.to hb)
    have KG := Lib.hid (KG.out.to hb)
    have KW := Lib.hid (KW.out.to hb)
    have GA := Lib.hid (GA.out.to hb)
    have GB := Lib.hid (GB.out.to hb)
    have Gg := Lib.hid (Gg.out.to hb)
    have Gw := Lib.hid (Gw.out.to hb)
    have HBE : Hid (Below w.heap.size w w4) := HBE.out.trans ((hb).mono HBE.out.size)
    clear hb
    go_wp2_with fail
    refine (counted_any _).mono ?_
    rintro e wz ⟨rfl, hb⟩
    go_wp2_with fail
    go_ret
    exact ⟨rfl, HBE.out.trans (hb.mono HBE.out.size)⟩
  · rw [h2, if_pos rfl, h3] at HSG
    have HD1 : Hid (∀ (W : World) (u v : Value), GV W u a0 → GV W v g → Calls Tryz.prog 16 #[u, v] W (SPost W (x, 0))) := fun W u v h1 h2 => by rw [← hx]; exact divNum_S a0 g u v W h1 h2
    have HD2 : Hid (∀ (W : World) (u v : Value), GV W u a1 → GV W v g → Calls Tryz.prog 16 #[u, v] W (SPost W (y, 0))) := fun W u v h1 h2 => by rw [← hy]; exact divNum_S a1 g u v W h1 h2
    have HGZ : Hid (∀ (W : World) (u v : Value), GV W u x → GV W v y → Calls Tryz.prog 14 #[u, v] W (SPost W (intL false 1, 0))) := fun W u v h1 h2 => by rw [← hz]; exact gcdNum_S x y u v W h1 h2
    have HFI : Hid (∀ W : World, Calls Tryz.prog 17 #[.int .i64 1] W fun e w' => ∃ v, e = .returned v ∧ GV w' v (intL false 1) ∧ Below W.heap.size W w') := fun W => (fromInt_pos 1 W (by omega)).mono fun e w' ⟨v, h1, h2, h3⟩ => ⟨v, h1, GV.of_num h2, h3⟩
    generalize intL false 1 = o1 at *
    clear h2 h3 hx hy hz
    go_enter Tryz.func4, Tryz.ntmps4
    go_wp2_with fail
    refine (HF.out _ _ _ (by exact GA.out) (by exact GB.out)).mono ?_
    rintro e w1 ⟨v, rfl, hg, hb⟩
    have KA := Lib.hid (KA.out.to hb)
    have KB := Lib.hid (KB.out.to hb)
    have GA := Lib.hid (GA.out.to hb)
    have GB := Lib.hid (GB.out.to hb)
    have HBE : Hid (Below w.heap.size w w1) := HBE.out.trans ((hb).mono HBE.out.size)
    clear hb
    obtain ⟨Ag, ng, cg, Bg, mg, dg, rfl, hq1, hq2⟩ := hg.form
    have Gg := Lib.hid hg
    clear hq1 hq2 hg
    have ka0 := KA.out.cell 0
    have ka1 := KA.out.cell 1
    have ka2 := KA.out.cell 2
    have kb0 := KB.out.cell 0
    have kb1 := KB.out.cell 1
    have kb2 := KB.out.cell 2
    simp only [List.getElem?_toArray, List.getElem?_cons_zero, List.getElem?_cons_succ] at ka0 ka1 ka2 kb0 kb1 kb2
    have ltKAKG := KA.out.lt
    have ltKBKG := KB.out.lt
    have KGN := Lib.hid (Blk.new w1 24 #[.bool g.neg, .slice Ag ng cg, .slice Bg mg dg])
    have KA := Lib.hid (KA.out.to (below_one w1 (.cells #[.bool g.neg, .slice Ag ng cg, .slice Bg mg dg] 24)))
    have KB := Lib.hid (KB.out.to (below_one w1 (.cells #[.bool g.neg, .slice Ag ng cg, .slice Bg mg dg] 24)))
    have GA := Lib.hid (GA.out.to (below_one w1 (.cells #[.bool g.neg, .slice Ag ng cg, .slice Bg mg dg] 24)))
    have GB := Lib.hid (GB.out.to (below_one w1 (.cells #[.bool g.neg, .slice Ag ng cg, .slice Bg mg dg] 24)))
    have Gg := Lib.hid (Gg.out.to (below_one w1 (.cells #[.bool g.neg, .slice Ag ng cg, .slice Bg mg dg] 24)))
    have HBE : Hid (Below w.heap.size w (w1.alloc (.cells #[.bool g.neg, .slice Ag ng cg, .slice Bg mg dg] 24))) := HBE.out.trans (((below_one w1 (.cells #[.bool g.neg, .slice Ag ng cg, .slice Bg mg dg] 24))).mono HBE.out.size)
    have KG := KGN
    clear KGN
    have neKAKG : (w.heap.size = w1.heap.size) = False := eq_false (by omega)
    have neKGKA : (w1.heap.size = w.heap.size) = False := eq_false (by omega)
    have neKBKG : (w.heap.size + 1 = w1.heap.size) = False := eq_false (by omega)
    have neKGKB : (w1.heap.size = w.heap.size + 1) = False := eq_false (by omega)
    go_wp2_with fail
    refine (HT.out _ _ _ (by exact GA.out) (by exact GB.out)).mono ?_
    rintro e w2 ⟨v, rfl, hg, hb⟩
    clear ka0 ka1 ka2 kb0 kb1 kb2
    have KA := Lib.hid (KA.out.to hb)
    have KB := Lib.hid (KB.out.to hb)
    have KG := Lib.hid (KG.out.to hb)
    have GA := Lib.hid (GA.out.to hb)
    have GB := Lib.hid (GB.out.to hb)
    have Gg := Lib.hid (Gg.out.to hb)
    have HBE : Hid (Below w.heap.size w w2) := HBE.out.trans ((hb).mono HBE.out.size)
    clear hb
    obtain ⟨Aw, nw, cw, Bw, mw, dw, rfl, hq1, hq2⟩ := hg.form
    have Gw := Lib.hid hg
    clear hq1 hq2 hg
    have kg0 := KG.out.cell 0
    have kg1 := KG.out.cell 1
    have kg2 := KG.out.cell 2
    simp only [List.getElem?_toArray, List.getElem?_cons_zero, List.getElem?_cons_succ] at kg0 kg1 kg2
    have ltKAKW := KA.out.lt
    have ltKBKW := KB.out.lt
    have ltKGKW := KG.out.lt
    have KWN := Lib.hid (Blk.new w2 24 #[.bool g.neg, .slice Aw nw cw, .slice Bw mw dw])
    have KA := Lib.hid (KA.out.to (below_one w2 (.cells #[.bool g.neg, .slice Aw nw cw, .slice Bw mw dw] 24)))
    have KB := Lib.hid (KB.out.to (below_one w2 (.cells #[.bool g.neg, .slice Aw nw cw, .slice Bw mw dw] 24)))
    have KG := Lib.hid (KG.out.to (below_one w2 (.cells #[.bool g.neg, .slice Aw nw cw, .slice Bw mw dw] 24)))
    have GA := Lib.hid (GA.out.to (below_one w2 (.cells #[.bool g.neg, .slice Aw nw cw, .slice Bw mw dw] 24)))
    have GB := Lib.hid (GB.out.to (below_one w2 (.cells #[.bool g.neg, .slice Aw nw cw, .slice Bw mw dw] 24)))
    have Gg := Lib.hid (Gg.out.to (below_one w2 (.cells #[.bool g.neg, .slice Aw nw cw, .slice Bw mw dw] 24)))
    have Gw := Lib.hid (Gw.out.to (below_one w2 (.cells #[.bool g.neg, .slice Aw nw cw, .slice Bw mw dw] 24)))
    have HBE : Hid (Below w.heap.size w (w2.alloc (.cells #[.bool g.neg, .slice Aw nw cw, .slice Bw mw dw] 24))) := HBE.out.trans (((below_one w2 (.cells #[.bool g.neg, .slice Aw nw cw, .slice Bw mw dw] 24))).mono HBE.out.size)
    have KW := KWN
    clear KWN
    have neKAKW : (w.heap.size = w2.heap.size) = False := eq_false (by omega)
    have neKWKA : (w2.heap.size = w.heap.size) = False := eq_false (by omega)
    have neKBKW : (w.heap.size + 1 = w2.heap.size) = False := eq_false (by omega)
    have neKWKB : (w2.heap.size = w.heap.size + 1) = False := eq_false (by omega)
    have neKGKW : (w1.heap.size = w2.heap.size) = False := eq_false (by omega)
    have neKWKG : (w2.heap.size = w1.heap.size) = False := eq_false (by omega)
    go_wp2_with fail
    refine (HSM.out _ _ _ _ (by exact Gg.out) (by exact Gw.out)).mono ?_
    rintro e w3 ⟨rfl, hb⟩
    clear kg0 kg1 kg2
    have KA := Lib.hid (KA.out.to hb)
    have KB := Lib.hid (KB.out.to hb)
    have KG := Lib.hid (KG.out.to hb)
    have KW := Lib.hid (KW.out.to hb)
    have GA := Lib.hid (GA.out.to hb)
    have GB := Lib.hid (GB.out.to hb)
    have Gg := Lib.hid (Gg.out.to hb)
    have Gw := Lib.hid (Gw.out.to hb)
    have HBE : Hid (Below w.heap.size w w3) := HBE.out.trans ((hb).mono HBE.out.size)
    clear hb
    have kg0 := KG.out.cell 0
    have kg1 := KG.out.cell 1
    have kg2 := KG.out.cell 2
    simp only [List.getElem?_toArray, List.getElem?_cons_zero, List.getElem?_cons_succ] at kg0 kg1 kg2
    go_wp2_with fail
    refine (HSG.out _ _ (by exact Gg.out)).mono ?_
    rintro e w4 ⟨rfl, hb⟩
    clear kg0 kg1 kg2
    have KA := Lib.hid (KA.out.to hb)
    have KB := Lib.hid (KB.out.to hb)
    have KG := Lib.hid (KG.out.to hb)
    have KW := Lib.hid (KW.out.to hb)
    have GA := Lib.hid (GA.out.to hb)
    have GB := Lib.hid (GB.out.to hb)
    have Gg := Lib.hid (Gg.out.to hb)
    have Gw := Lib.hid (Gw.out.to hb)
    have HBE : Hid (Below w.heap.size w w4) := HBE.out.trans ((hb).mono HBE.out.size)
    clear hb
    have ka0 := KA.out.cell 0
    have ka1 := KA.out.cell 1
    have ka2 := KA.out.cell 2
    have kg0 := KG.out.cell 0
    have kg1 := KG.out.cell 1
    have kg2 := KG.out.cell 2
    simp only [List.getElem?_toArray, List.getElem?_cons_zero, List.getElem?_cons_succ] at ka0 ka1 ka2 kg0 kg1 kg2
    go_wp2_with fail
    refine (HD1.out _ _ _ (by exact GA.out) (by exact Gg.out)).mono ?_
    rintro e w5 ⟨v, rfl, hg, hb⟩
    clear ka0 ka1 ka2 kg0 kg1 kg2
    have KA := Lib.hid (KA.out.to hb)
    have KB := Lib.hid (KB.out.to hb)
    have KG := Lib.hid (KG.out.to hb)
    have KW := Lib.hid (KW.out.to hb)
    have GA := Lib.hid (GA.out.to hb)
    have GB := Lib.hid (GB.out.to hb)
    have Gg := Lib.hid (Gg.out.to hb)
    have Gw := Lib.hid (Gw.out.to hb)
    have HBE : Hid (Below w.heap.size w w5) := HBE.out.trans ((hb).mono HBE.out.size)
    clear hb
    obtain ⟨Ax, nx, cx, Bx, mx, dx, rfl, hq1, hq2⟩ := hg.form
    have Gx := Lib.hid hg
    clear hq1 hq2 hg
    have kb0 := KB.out.cell 0
    have kb1 := KB.out.cell 1
    have kb2 := KB.out.cell 2
    have kg0 := KG.out.cell 0
    have kg1 := KG.out.cell 1
    have kg2 := KG.out.cell 2
    simp only [List.getElem?_toArray, List.getElem?_cons_zero, List.getElem?_cons_succ] at kb0 kb1 kb2 kg0 kg1 kg2
    have ltKAKX := KA.out.lt
    have ltKBKX := KB.out.lt
    have ltKGKX := KG.out.lt
    have ltKWKX := KW.out.lt
    have KXN := Lib.hid (Blk.new w5 24 #[.bool x.neg, .slice Ax nx cx, .slice Bx mx dx])
    have KA := Lib.hid (KA.out.to (below_one w5 (.cells #[.bool x.neg, .slice Ax nx cx, .slice Bx mx dx] 24)))
    have KB := Lib.hid (KB.out.to (below_one w5 (.cells #[.bool x.neg, .slice Ax nx cx, .slice Bx mx dx] 24)))
    have KG := Lib.hid (KG.out.to (below_one w5 (.cells #[.bool x.neg, .slice Ax nx cx, .slice Bx mx dx] 24)))
    have KW := Lib.hid (KW.out.to (below_one w5 (.cells #[.bool x.neg, .slice Ax nx cx, .slice Bx mx dx] 24)))
    have GA := Lib.hid (GA.out.to (below_one w5 (.cells #[.bool x.neg, .slice Ax nx cx, .slice Bx mx dx] 24)))
    have GB := Lib.hid (GB.out.to (below_one w5 (.cells #[.bool x.neg, .slice Ax nx cx, .slice Bx mx dx] 24)))
    have Gg := Lib.hid (Gg.out.to (below_one w5 (.cells #[.bool x.neg, .slice Ax nx cx, .slice Bx mx dx] 24)))
    have Gw := Lib.hid (Gw.out.to (below_one w5 (.cells #[.bool x.neg, .slice Ax nx cx, .slice Bx mx dx] 24)))
    have Gx := Lib.hid (Gx.out.to (below_one w5 (.cells #[.bool x.neg, .slice Ax nx cx, .slice Bx mx dx] 24)))
    have HBE : Hid (Below w.heap.size w (w5.alloc (.cells #[.bool x.neg, .slice Ax nx cx, .slice Bx mx dx] 24))) := HBE.out.trans (((below_one w5 (.cells #[.bool x.neg, .slice Ax nx cx, .slice Bx mx dx] 24))).mono HBE.out.size)
    have KX := KXN
    clear KXN
    have neKAKX : (w.heap.size = w5.heap.size) = False := eq_false (by omega)
    have neKXKA : (w5.heap.size = w.heap.size) = False := eq_false (by omega)
    have neKBKX : (w.heap.size + 1 = w5.heap.size) = False := eq_false (by omega)
    have neKXKB : (w5.heap.size = w.heap.size + 1) = False := eq_false (by omega)
    have neKGKX : (w1.heap.size = w5.heap.size) = False := eq_false (by omega)
    have neKXKG : (w5.heap.size = w1.heap.size) = False := eq_false (by omega)
    have neKWKX : (w2.heap.size = w5.heap.size) = False := eq_false (by omega)
    have neKXKW : (w5.heap.size = w2.heap.size) = False := eq_false (by omega)
    go_wp2_with fail
    refine (HD2.out _ _ _ (by exact GB.out) (by exact Gg.out)).mono ?_
    rintro e w6 ⟨v, rfl, hg, hb⟩
    clear kb0 kb1 kb2 kg0 kg1 kg2
    have KA := Lib.hid (KA.out.to hb)
    have KB := Lib.hid (KB.out.to hb)
    have KG := Lib.hid (KG.out.to hb)
    have KW := Lib.hid (KW.out.to hb)
    have KX := Lib.hid (KX.out.to hb)
    have GA := Lib.hid (GA.out.to hb)
    have GB := Lib.hid (GB.out.to hb)
    have Gg := Lib.hid (Gg.out.to hb)
    have Gw := Lib.hid (Gw.out.to hb)
    have Gx := Lib.hid (Gx.out.to hb)
    have HBE : Hid (Below w.heap.size w w6) := HBE.out.trans ((hb).mono HBE.out.size)
    clear hb
    obtain ⟨Ay, ny, cy, By, my, dy, rfl, hq1, hq2⟩ := hg.form
    have Gy := Lib.hid hg
    clear hq1 hq2 hg
    have kx0 := KX.out.cell 0
    have kx1 := KX.out.cell 1
    have kx2 := KX.out.cell 2
    simp only [List.getElem?_toArray, List.getElem?_cons_zero, List.getElem?_cons_succ] at kx0 kx1 kx2
    have ltKAKY := KA.out.lt
    have ltKBKY := KB.out.lt
    have ltKGKY := KG.out.lt
    have ltKWKY := KW.out.lt
    have ltKXKY := KX.out.lt
    have KYN := Lib.hid (Blk.new w6 24 #[.bool y.neg, .slice Ay ny cy, .slice By my dy])
    have KA := Lib.hid (KA.out.to (below_one w6 (.cells #[.bool y.neg, .slice Ay ny cy, .slice By my dy] 24)))
    have KB := Lib.hid (KB.out.to (below_one w6 (.cells #[.bool y.neg, .slice Ay ny cy, .slice By my dy] 24)))
    have KG := Lib.hid (KG.out.to (below_one w6 (.cells #[.bool y.neg, .slice Ay ny cy, .slice By my dy] 24)))
    have KW := Lib.hid (KW.out.to (below_one w6 (.cells #[.bool y.neg, .slice Ay ny cy, .slice By my dy] 24)))
    have KX := Lib.hid (KX.out.to (below_one w6 (.cells #[.bool y.neg, .slice Ay ny cy, .slice By my dy] 24)))
    have GA := Lib.hid (GA.out.to (below_one w6 (.cells #[.bool y.neg, .slice Ay ny cy, .slice By my dy] 24)))
    have GB := Lib.hid (GB.out.to (below_one w6 (.cells #[.bool y.neg, .slice Ay ny cy, .slice By my dy] 24)))
    have Gg := Lib.hid (Gg.out.to (below_one w6 (.cells #[.bool y.neg, .slice Ay ny cy, .slice By my dy] 24)))
    have Gw := Lib.hid (Gw.out.to (below_one w6 (.cells #[.bool y.neg, .slice Ay ny cy, .slice By my dy] 24)))
    have Gx := Lib.hid (Gx.out.to (below_one w6 (.cells #[.bool y.neg, .slice Ay ny cy, .slice By my dy] 24)))
    have Gy := Lib.hid (Gy.out.to (below_one w6 (.cells #[.bool y.neg, .slice Ay ny cy, .slice By my dy] 24)))
    have HBE : Hid (Below w.heap.size w (w6.alloc (.cells #[.bool y.neg, .slice Ay ny cy, .slice By my dy] 24))) := HBE.out.trans (((below_one w6 (.cells #[.bool y.neg, .slice Ay ny cy, .slice By my dy] 24))).mono HBE.out.size)
    have KY := KYN
    clear KYN
    have neKAKY : (w.heap.size = w6.heap.size) = False := eq_false (by omega)
    have neKYKA : (w6.heap.size = w.heap.size) = False := eq_false (by omega)
    have neKBKY : (w.heap.size + 1 = w6.heap.size) = False := eq_false (by omega)
    have neKYKB : (w6.heap.size = w.heap.size + 1) = False := eq_false (by omega)
    have neKGKY : (w1.heap.size = w6.heap.size) = False := eq_false (by omega)
    have neKYKG : (w6.heap.size = w1.heap.size) = False := eq_false (by omega)
    have neKWKY : (w2.heap.size = w6.heap.size) = False := eq_false (by omega)
    have neKYKW : (w6.heap.size = w2.heap.size) = False := eq_false (by omega)
    have neKXKY : (w5.heap.size = w6.heap.size) = False := eq_false (by omega)
    have neKYKX : (w6.heap.size = w5.heap.size) = False := eq_false (by omega)
    go_wp2_with fail
    refine (HGZ.out _ _ _ (by exact Gx.out) (by exact Gy.out)).mono ?_
    rintro e w7 ⟨v, rfl, hg, hb⟩
    clear kx0 kx1 kx2
    have KA := Lib.hid (KA.out.to hb)
    have KB := Lib.hid (KB.out.to hb)
    have KG := Lib.hid (KG.out.to hb)
    have KW := Lib.hid (KW.out.to hb)
    have KX := Lib.hid (KX.out.to hb)
    have KY := Lib.hid (KY.out.to hb)
    have GA := Lib.hid (GA.out.to hb)
    have GB := Lib.hid (GB.out.to hb)
    have Gg := Lib.hid (Gg.out.to hb)
    have Gw := Lib.hid (Gw.out.to hb)
    have Gx := Lib.hid (Gx.out.to hb)
    have Gy := Lib.hid (Gy.out.to hb)
    have HBE : Hid (Below w.heap.size w w7) := HBE.out.trans ((hb).mono HBE.out.size)
    clear hb
    obtain ⟨Az, nz, cz, Bz, mz, dz, rfl, hq1, hq2⟩ := hg.form
    have Gz := Lib.hid hg
    clear hq1 hq2 hg
    clear KA KB KG KW KX KY GA GB Gg Gw Gx Gy
    have KZN := Lib.hid (Blk.new w7 24 #[.bool o1.neg, .slice Az nz cz, .slice Bz mz dz])
    have Gz := Lib.hid (Gz.out.to (below_one w7 (.cells #[.bool o1.neg, .slice Az nz cz, .slice Bz mz dz] 24)))
    have HBE : Hid (Below w.heap.size w (w7.alloc (.cells #[.bool o1.neg, .slice Az nz cz, .slice Bz mz dz] 24))) := HBE.out.trans (((below_one w7 (.cells #[.bool o1.neg, .slice Az nz cz, .slice Bz mz dz] 24))).mono HBE.out.size)
    have KZ := KZN
    clear KZN
    have GD := Lib.hid (Gz.out.to (w' := (w7.alloc (.cells #[.bool o1.neg, .slice Az nz cz, .slice Bz mz dz] 24)).drew) (Below.refl _ _).drew)
    have HBD : Hid (Below w.heap.size w (w7.alloc (.cells #[.bool o1.neg, .slice Az nz cz, .slice Bz mz dz] 24)).drew) := HBE.out.drew
    have HK : Hid (∀ W1 W' : World, Below W1.heap.size W1 W' → (W1.cell? ⟨w7.heap.size, 0, none⟩ = some (.bool o1.neg) ∧ W1.cell? ⟨w7.heap.size, 1, none⟩ = some (.slice Az nz cz) ∧ W1.cell? ⟨w7.heap.size, 2, none⟩ = some (.slice Bz mz dz) ∧ w7.heap.size < W1.heap.size) → (W'.cell? ⟨w7.heap.size, 0, none⟩ = some (.bool o1.neg) ∧ W'.cell? ⟨w7.heap.size, 1, none⟩ = some (.slice Az nz cz) ∧ W'.cell? ⟨w7.heap.size, 2, none⟩ = some (.slice Bz mz dz) ∧ w7.heap.size < W'.heap.size)) :=
      fun W1 W' h1 ⟨h3, h4, h5, h2⟩ => ⟨(h1.cell (p := ⟨w7.heap.size, 0, none⟩) h2).trans h3, (h1.cell (p := ⟨w7.heap.size, 1, none⟩) h2).trans h4, (h1.cell (p := ⟨w7.heap.size, 2, none⟩) h2).trans h5, Nat.lt_of_lt_of_le h2 h1.size⟩
    have hltz : w7.heap.size < (w7.alloc (.cells #[.bool o1.neg, .slice Az nz cz, .slice Bz mz dz] 24)).heap.size := KZ.out.lt
    clear HF HT HSG HD1 HD2 HGZ Gz HBE KZ
    go_wp2_with fail
    go_region_held3 (fun w' => w'.cell? ⟨w7.heap.size, 0, none⟩ = some (.bool o1.neg) ∧ w'.cell? ⟨w7.heap.size, 1, none⟩ = some (.slice Az nz cz) ∧ w'.cell? ⟨w7.heap.size, 2, none⟩ = some (.slice Bz mz dz) ∧ w7.heap.size < w'.heap.size)
      (first | go_keep | (refine HK.out _ _ (by assumption) ?_; go_keep))
      (first
        | (go_at_call 17; ((with_reducible refine (HFI.out _).mono ?_)); rintro e y1 ⟨u1, rfl, hn1, hb1⟩)
        | (go_at_call 10; ((with_reducible refine (HSM.out _ _ _ _ (by exact GD.out.to hb1) (by exact hn1)).mono ?_)); rintro e y2 ⟨rfl, hb2⟩)
        | (go_at_call 11; ((with_reducible refine (counted_any _).mono ?_)); rintro e y4 ⟨rfl, hb3⟩))
    all_goals
      go_wp2_with fail
      go_ret
      exact ⟨rfl, ((HBD.out.trans (hb1.mono HBD.out.size)).trans (hb2.mono (Nat.le_trans HBD.out.size hb1.size))).trans (hb3.mono (Nat.le_trans (Nat.le_trans HBD.out.size hb1.size) hb2.size))⟩

theorem numberGcd_holds : Rows.NumberGcdIsGreatestCardSaid := LawGcd.card law_gcd
#print axioms numberGcd_holds
end Go.Proofs.YtdhgbnnopekfjaaGreatDoor

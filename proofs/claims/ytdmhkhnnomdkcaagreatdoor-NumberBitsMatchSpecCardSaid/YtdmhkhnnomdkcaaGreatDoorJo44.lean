/-  -/
import Derived.Test.YtdmhkhnnomdkcaaGreatDoorJo23
import Derived.Test.YtdmhkhnnomdkcaaGreatDoorJo35
import Derived.Test.YtdmhkhnnomdkcaaGreatDoorJo40
import Derived.Test.YtdmhkhnnomdkcaaGreatDoorJo41
import Derived.Test.YtdmhkhnnomdkcaaGreatDoorJo42
import Derived.Test.YtdmhkhnnomdkcaaGreatDoorJo43
set_option linter.unusedVariables false
set_option linter.unusedSimpArgs false
/- NumberBitsMatchSpec: for all numbers and operations, Bits returns what is specified. -/
namespace Go.Proofs.YtdmhkhnnomdkcaaGreatDoor
open Go.RowKit NumB
set_option linter.unusedVariables false
set_option linter.unusedSimpArgs false

theorem rtwoXS_eq (k op : Int) (h : (k = 38 ∧ op = 1) ∨ (k = 124 ∧ op = 2) ∨ (k = 94 ∧ op = 3)) (a b : LN) : rtwoXS k a b = bitsS op a b := by
  have e1 : ∀ (s : Bool) (x : Nat), fracS 0 s x 1 = opS 0 (s && decide (0 < x)) x 1 := fun s x => by unfold fracS; rw [Nat.gcd_one_right, Nat.div_one, Nat.div_one]
  have e2 : 1 ≤ op ∧ op ≤ 3 := by omega
  have e3 : opo k = op.toNat - 1 := by rcases h with ⟨rfl, rfl⟩ | ⟨rfl, rfl⟩ | ⟨rfl, rfl⟩ <;> rfl
  unfold rtwoXS rtwoXSI bitsS intErr2
  rw [if_pos e2, e1, e3]
  by_cases h1 : err2 a.err b.err = 0
  · by_cases h2 : a.y = 1 ∧ b.y = 1
    · simp [h1, h2]; rfl
    · simp [h1, h2]
  · simp [h1]
theorem bitsS_wrong {op : Int} (h : ¬ (1 ≤ op ∧ op ≤ 3)) (a b : LN) : bitsS op a b = (zeroL, wrongE a b) := by
  unfold bitsS intErr2 wrongE
  rw [if_neg h]
  by_cases h1 : err2 a.err b.err = 0
  · by_cases h2 : a.y = 1 ∧ b.y = 1
    · simp [h1, h2]
    · simp [h1, h2]
  · simp [h1]

set_option maxRecDepth 1000000 in
set_option maxHeartbeats 25600000 in
theorem lawBits_and (a0 : LN) (v0 : Value) (a1 : LN) (v1 : Value) (w : World) (g0 : GV w v0 a0) (g1 : GV w v1 a1) :
    Calls Tryz.prog 3 #[.int .i64 1, v0, v1] w fun e w' => e = .returned (.bool true) ∧ Below w.heap.size w w' := by
  obtain ⟨A0, n0, c0, B0, m0, d0, rfl, hq1, hq2⟩ := g0.form
  clear hq1 hq2
  obtain ⟨A1, n1, c1, B1, m1, d1, rfl, hq1, hq2⟩ := g1.form
  clear hq1 hq2
  obtain ⟨p, HF, HT⟩ : ∃ p : LN × Int, Hid (∀ (W : World) (u v : Value), GV W u a0 → GV W v a1 → Calls Tryz.prog 4 #[.int .i64 1, u, v] W (SPost W p)) ∧ Hid (∀ (W : World) (u v : Value), GV W u a0 → GV W v a1 → Calls Tryz.prog 5 #[.int .u8 38, u, v] W (SPost W p)) :=
    ⟨bitsS 1 a0 a1, fun W u v h1 h2 => bitsNum_S (1) a0 a1 u v W h1 h2, fun W u v h1 h2 => by
      have := rtwoX 38 (by omega) a0 a1 u v W h1 h2
      rw [rtwoXS_eq 38 1 (by omega)] at this
      exact this⟩
  have hee : (p.2 == p.2) = true := by simp
  have HSM : Hid (∀ (W : World) (u v : Value) (a : LN), GV W u a → GV W v a → Calls Tryz.prog 7 #[u, v] W fun e w' => e = .returned (.bool true) ∧ Below W.heap.size W w') := fun W u v a h1 h2 => by
    have := same_S a a u v W h1 h2
    rw [sameB_true rfl] at this
    exact this
  have KA := Lib.hid ((blk2 w 24 24 #[.bool a0.neg, .slice A0 n0 c0, .slice B0 m0 d0] #[.bool a1.neg, .slice A1 n1 c1, .slice B1 m1 d1]).1)
  have KB := Lib.hid ((blk2 w 24 24 #[.bool a0.neg, .slice A0 n0 c0, .slice B0 m0 d0] #[.bool a1.neg, .slice A1 n1 c1, .slice B1 m1 d1]).2)
  have GA := Lib.hid (g0.to (below_two w (.cells #[.bool a0.neg, .slice A0 n0 c0, .slice B0 m0 d0] 24) (.cells #[.bool a1.neg, .slice A1 n1 c1, .slice B1 m1 d1] 24)))
  have GB := Lib.hid (g1.to (below_two w (.cells #[.bool a0.neg, .slice A0 n0 c0, .slice B0 m0 d0] 24) (.cells #[.bool a1.neg, .slice A1 n1 c1, .slice B1 m1 d1] 24)))
  have HBE := Lib.hid (below_two w (.cells #[.bool a0.neg, .slice A0 n0 c0, .slice B0 m0 d0] 24) (.cells #[.bool a1.neg, .slice A1 n1 c1, .slice B1 m1 d1] 24))
  clear g0 g1
  go_enter Tryz.func3, Tryz.ntmps3
  go_wp2_with fail
  refine (HF.out _ _ _ (by exact GA.out) (by exact GB.out)).mono ?_
  rintro e w1 ⟨v, rfl, hg, hb⟩
  have KA := Lib.hid (KA.out.to hb)
  have KB := Lib.hid (KB.out.to hb)
  have GA := Lib.hid (GA.out.to hb)
  have GB := Lib.hid (GB.out.to hb)
  have HBE : Hid (Below w.heap.size w w1) := HBE.out.trans ((hb).mono HBE.out.size)
  clear hb
  obtain ⟨Ag, ng, cg, Bg, mg, dg, rfl, hq1, hq2⟩ := hg.form
  have Gg := Lib.hid hg
  clear hq1 hq2 hg
  have ka0 := KA.out.cell 0
  have ka1 := KA.out.cell 1
  have ka2 := KA.out.cell 2
  have kb0 := KB.out.cell 0
  have kb1 := KB.out.cell 1
  have kb2 := KB.out.cell 2
  simp only [List.getElem?_toArray, List.getElem?_cons_zero, List.getElem?_cons_succ] at ka0 ka1 ka2 kb0 kb1 kb2
  have ltKAKG := KA.out.lt
  have ltKBKG := KB.out.lt
  have KGN := Lib.hid (Blk.new w1 24 #[.bool p.1.neg, .slice Ag ng cg, .slice Bg mg dg])
  have KA := Lib.hid (KA.out.to (below_one w1 (.cells #[.bool p.1.neg, .slice Ag ng cg, .slice Bg mg dg] 24)))
  have KB := Lib.hid (KB.out.to (below_one w1 (.cells #[.bool p.1.neg, .slice Ag ng cg, .slice Bg mg dg] 24)))
  have GA := Lib.hid (GA.out.to (below_one w1 (.cells #[.bool p.1.neg, .slice Ag ng cg, .slice Bg mg dg] 24)))
  have GB := Lib.hid (GB.out.to (below_one w1 (.cells #[.bool p.1.neg, .slice Ag ng cg, .slice Bg mg dg] 24)))
  have Gg := Lib.hid (Gg.out.to (below_one w1 (.cells #[.bool p.1.neg, .slice Ag ng cg, .slice Bg mg dg] 24)))
  have HBE : Hid (Below w.heap.size w (w1.alloc (.cells #[.bool p.1.neg, .slice Ag ng cg, .slice Bg mg dg] 24))) := HBE.out.trans (((below_one w1 (.cells #[.bool p.1.neg, .slice Ag ng cg, .slice Bg mg dg] 24))).mono HBE.out.size)
  have KG := KGN
  clear KGN
  have neKAKG : (w.heap.size = w1.heap.size) = False := eq_false (by omega)
  have neKGKA : (w1.heap.size = w.heap.size) = False := eq_false (by omega)
  have neKBKG : (w.heap.size + 1 = w1.heap.size) = False := eq_false (by omega)
  have neKGKB : (w1.heap.size = w.heap.size + 1) = False := eq_false (by omega)
  go_wp2_with fail
  refine (HT.out _ _ _ (by exact GA.out) (by exact GB.out)).mono ?_
  rintro e w2 ⟨v, rfl, hg, hb⟩
  clear ka0 ka1 ka2 kb0 kb1 kb2
  have KA := Lib.hid (KA.out.to hb)
  have KB := Lib.hid (KB.out.to hb)
  have KG := Lib.hid (KG.out.to hb)
  have GA := Lib.hid (GA.out.to hb)
  have GB := Lib.hid (GB.out.to hb)
  have Gg := Lib.hid (Gg.out.to hb)
  have HBE : Hid (Below w.heap.size w w2) := HBE.out.trans ((hb).mono HBE.out.size)
  clear hb
  obtain ⟨Aw, nw, cw, Bw, mw, dw, rfl, hq1, hq2⟩ := hg.form
  have Gw := Lib.hid hg
  clear hq1 hq2 hg
  have kg0 := KG.out.cell 0
  have kg1 := KG.out.cell 1
  have kg2 := KG.out.cell 2
  simp only [List.getElem?_toArray, List.getElem?_cons_zero, List.getElem?_cons_succ] at kg0 kg1 kg2
  have ltKAKW := KA.out.lt
  have ltKBKW := KB.out.lt
  have ltKGKW := KG.out.lt
  have KWN := Lib.hid (Blk.new w2 24 #[.bool p.1.neg, .slice Aw nw cw, .slice Bw mw dw])
  have KA := Lib.hid (KA.out.to (below_one w2 (.cells #[.bool p.1.neg, .slice Aw nw cw, .slice Bw mw dw] 24)))
  have KB := Lib.hid (KB.out.to (below_one w2 (.cells #[.bool p.1.neg, .slice Aw nw cw, .slice Bw mw dw] 24)))
  have KG := Lib.hid (KG.out.to (below_one w2 (.cells #[.bool p.1.neg, .slice Aw nw cw, .slice Bw mw dw] 24)))
  have GA := Lib.hid (GA.out.to (below_one w2 (.cells #[.bool p.1.neg, .slice Aw nw cw, .slice Bw mw dw] 24)))
  have GB := Lib.hid (GB.out.to (below_one w2 (.cells #[.bool p.1.neg, .slice Aw nw cw, .slice Bw mw dw] 24)))
  have Gg := Lib.hid (Gg.out.to (below_one w2 (.cells #[.bool p.1.neg, .slice Aw nw cw, .slice Bw mw dw] 24)))
  have Gw := Lib.hid (Gw.out.to (below_one w2 (.cells #[.bool p.1.neg, .slice Aw nw cw, .slice Bw mw dw] 24)))
  have HBE : Hid (Below w.heap.size w (w2.alloc (.cells #[.bool p.1.neg, .slice Aw nw cw, .slice Bw mw dw] 24))) := HBE.out.trans (((below_one w2 (.cells #[.bool p.1.neg, .slice Aw nw cw, .slice Bw mw dw] 24))).mono HBE.out.size)
  have KW := KWN
  clear KWN
  have neKAKW : (w.heap.size = w2.heap.size) = False := eq_false (by omega)
  have neKWKA : (w2.heap.size = w.heap.size) = False := eq_false (by omega)
  have neKBKW : (w.heap.size + 1 = w2.heap.size) = False := eq_false (by omega)
  have neKWKB : (w2.heap.size = w.heap.size + 1) = False := eq_false (by omega)
  have neKGKW : (w1.heap.size = w2.heap.size) = False := eq_false (by omega)
  have neKWKG : (w2.heap.size = w1.heap.size) = False := eq_false (by omega)
  go_wp2_with fail
  refine (HSM.out _ _ _ _ (by exact Gg.out) (by exact Gw.out)).mono ?_
  rintro e w3 ⟨rfl, hb⟩
  clear kg0 kg1 kg2
  have KA := Lib.hid (KA.out.to hb)
  have KB := Lib.hid (KB.out.to hb)
  have KG := Lib.hid (KG.out.to hb)
  have KW := Lib.hid (KW.out.to hb)
  have GA := Lib.hid (GA.out.to hb)
  have GB := Lib.hid (GB.out.to hb)
  have Gg := Lib.hid (Gg.out.to hb)
  have Gw := Lib.hid (Gw.out.to hb)
  have HBE : Hid (Below w.heap.size w w3) := HBE.out.trans ((hb).mono HBE.out.size)
  clear hb
  go_wp2_with fail
  refine (counted_any _).mono ?_
  rintro e wz ⟨rfl, hb⟩
  go_wp2_with fail
  go_ret
  exact ⟨rfl, HBE.out.trans (hb.mono HBE.out.size)⟩

set_option maxRecDepth 1000000 in
set_option maxHeartbeats 25600000 in
theorem lawBits_or (a0 : LN) (v0 : Value) (a1 : LN) (v1 : Value) (w : World) (g0 : GV w v0 a0) (g1 : GV w v1 a1) :
    Calls Tryz.prog 3 #[.int .i64 2, v0, v1] w fun e w' => e = .returned (.bool true) ∧ Below w.heap.size w w' := by
  obtain ⟨A0, n0, c0, B0, m0, d0, rfl, hq1, hq2⟩ := g0.form
  clear hq1 hq2
  obtain ⟨A1, n1, c1, B1, m1, d1, rfl, hq1, hq2⟩ := g1.form
  clear hq1 hq2
  obtain ⟨p, q, HF, HT, HU⟩ : ∃ p q : LN × Int, Hid (∀ (W : World) (u v : Value), GV W u a0 → GV W v a1 → Calls Tryz.prog 4 #[.int .i64 2, u, v] W (SPost W p)) ∧ Hid (∀ (W : World) (u v : Value), GV W u a0 → GV W v a1 → Calls Tryz.prog 5 #[.int .u8 38, u, v] W (SPost W q)) ∧ Hid (∀ (W : World) (u v : Value), GV W u a0 → GV W v a1 → Calls Tryz.prog 5 #[.int .u8 124, u, v] W (SPost W p)) :=
    ⟨bitsS 2 a0 a1, bitsS 1 a0 a1, fun W u v h1 h2 => bitsNum_S (2) a0 a1 u v W h1 h2, fun W u v h1 h2 => by
      have := rtwoX 38 (by omega) a0 a1 u v W h1 h2
      rw [rtwoXS_eq 38 1 (by omega)] at this
      exact this, fun W u v h1 h2 => by
      have := rtwoX 124 (by omega) a0 a1 u v W h1 h2
      rw [rtwoXS_eq 124 2 (by omega)] at this
      exact this⟩
  have hee : (p.2 == p.2) = true := by simp
  have HSM : Hid (∀ (W : World) (u v : Value) (a : LN), GV W u a → GV W v a → Calls Tryz.prog 7 #[u, v] W fun e w' => e = .returned (.bool true) ∧ Below W.heap.size W w') := fun W u v a h1 h2 => by
    have := same_S a a u v W h1 h2
    rw [sameB_true rfl] at this
    exact this
  have KA := Lib.hid ((blk2 w 24 24 #[.bool a0.neg, .slice A0 n0 c0, .slice B0 m0 d0] #[.bool a1.neg, .slice A1 n1 c1, .slice B1 m1 d1]).1)
  have KB := Lib.hid ((blk2 w 24 24 #[.bool a0.neg, .slice A0 n0 c0, .slice B0 m0 d0] #[.bool a1.neg, .slice A1 n1 c1, .slice B1 m1 d1]).2)
  have GA := Lib.hid (g0.to (below_two w (.cells #[.bool a0.neg, .slice A0 n0 c0, .slice B0 m0 d0] 24) (.cells #[.bool a1.neg, .slice A1 n1 c1, .slice B1 m1 d1] 24)))
  have GB := Lib.hid (g1.to (below_two w (.cells #[.bool a0.neg, .slice A0 n0 c0, .slice B0 m0 d0] 24) (.cells #[.bool a1.neg, .slice A1 n1 c1, .slice B1 m1 d1] 24)))
  have HBE := Lib.hid (below_two w (.cells #[.bool a0.neg, .slice A0 n0 c0, .slice B0 m0 d0] 24) (.cells #[.bool a1.neg, .slice A1 n1 c1, .slice B1 m1 d1] 24))
  clear g0 g1
  go_enter Tryz.func3, Tryz.ntmps3
  go_wp2_with fail
  refine (HF.out _ _ _ (by exact GA.out) (by exact GB.out)).mono ?_
  rintro e w1 ⟨v, rfl, hg, hb⟩
  have KA := Lib.hid (KA.out.to hb)
  have KB := Lib.hid (KB.out.to hb)
  have GA := Lib.hid (GA.out.to hb)
  have GB := Lib.hid (GB.out.to hb)
  have HBE : Hid (Below w.heap.size w w1) := HBE.out.trans ((hb).mono HBE.out.size)
  clear hb
  obtain ⟨Ag, ng, cg, Bg, mg, dg, rfl, hq1, hq2⟩ := hg.form
  have Gg := Lib.hid hg
  clear hq1 hq2 hg
  have ka0 := KA.out.cell 0
  have ka1 := KA.out.cell 1
  have ka2 := KA.out.cell 2
  have kb0 := KB.out.cell 0
  have kb1 := KB.out.cell 1
  have kb2 := KB.out.cell 2
  simp only [List.getElem?_toArray, List.getElem?_cons_zero, List.getElem?_cons_succ] at ka0 ka1 ka2 kb0 kb1 kb2
  have ltKAKG := KA.out.lt
  have ltKBKG := KB.out.lt
  have KGN := Lib.hid (Blk.new w1 24 #[.bool p.1.neg, .slice Ag ng cg, .slice Bg mg dg])
  have KA := Lib.hid (KA.out.to (below_one w1 (.cells #[.bool p.1.neg, .slice Ag ng cg, .slice Bg mg dg] 24)))
  have KB := Lib.hid (KB.out.to (below_one w1 (.cells #[.bool p.1.neg, .slice Ag ng cg, .slice Bg mg dg] 24)))
  have GA := Lib.hid (GA.out.to (below_one w1 (.cells #[.bool p.1.neg, .slice Ag ng cg, .slice Bg mg dg] 24)))
  have GB := Lib.hid (GB.out.to (below_one w1 (.cells #[.bool p.1.neg, .slice Ag ng cg, .slice Bg mg dg] 24)))
  have Gg := Lib.hid (Gg.out.to (below_one w1 (.cells #[.bool p.1.neg, .slice Ag ng cg, .slice Bg mg dg] 24)))
  have HBE : Hid (Below w.heap.size w (w1.alloc (.cells #[.bool p.1.neg, .slice Ag ng cg, .slice Bg mg dg] 24))) := HBE.out.trans (((below_one w1 (.cells #[.bool p.1.neg, .slice Ag ng cg, .slice Bg mg dg] 24))).mono HBE.out.size)
  have KG := KGN
  clear KGN
  have neKAKG : (w.heap.size = w1.heap.size) = False := eq_false (by omega)
  have neKGKA : (w1.heap.size = w.heap.size) = False := eq_false (by omega)
  have neKBKG : (w.heap.size + 1 = w1.heap.size) = False := eq_false (by omega)
  have neKGKB : (w1.heap.size = w.heap.size + 1) = False := eq_false (by omega)
  go_wp2_with fail
  refine (HT.out _ _ _ (by exact GA.out) (by exact GB.out)).mono ?_
  rintro e w2 ⟨v, rfl, hg, hb⟩
  clear ka0 ka1 ka2 kb0 kb1 kb2
  have KA := Lib.hid (KA.out.to hb)
  have KB := Lib.hid (KB.out.to hb)
  have KG := Lib.hid (KG.out.to hb)
  have GA := Lib.hid (GA.out.to hb)
  have GB := Lib.hid (GB.out.to hb)
  have Gg := Lib.hid (Gg.out.to hb)
  have HBE : Hid (Below w.heap.size w w2) := HBE.out.trans ((hb).mono HBE.out.size)
  clear hb
  obtain ⟨Aw, nw, cw, Bw, mw, dw, rfl, hq1, hq2⟩ := hg.form
  have Gw := Lib.hid hg
  clear hq1 hq2 hg
  have ka0 := KA.out.cell 0
  have ka1 := KA.out.cell 1
  have ka2 := KA.out.cell 2
  have kb0 := KB.out.cell 0
  have kb1 := KB.out.cell 1
  have kb2 := KB.out.cell 2
  simp only [List.getElem?_toArray, List.getElem?_cons_zero, List.getElem?_cons_succ] at ka0 ka1 ka2 kb0 kb1 kb2
  have ltKAKW := KA.out.lt
  have ltKBKW := KB.out.lt
  have ltKGKW := KG.out.lt
  have KWN := Lib.hid (Blk.new w2 24 #[.bool q.1.neg, .slice Aw nw cw, .slice Bw mw dw])
  have KA := Lib.hid (KA.out.to (below_one w2 (.cells #[.bool q.1.neg, .slice Aw nw cw, .slice Bw mw dw] 24)))
  have KB := Lib.hid (KB.out.to (below_one w2 (.cells #[.bool q.1.neg, .slice Aw nw cw, .slice Bw mw dw] 24)))
  have KG := Lib.hid (KG.out.to (below_one w2 (.cells #[.bool q.1.neg, .slice Aw nw cw, .slice Bw mw dw] 24)))
  have GA := Lib.hid (GA.out.to (below_one w2 (.cells #[.bool q.1.neg, .slice Aw nw cw, .slice Bw mw dw] 24)))
  have GB := Lib.hid (GB.out.to (below_one w2 (.cells #[.bool q.1.neg, .slice Aw nw cw, .slice Bw mw dw] 24)))
  have Gg := Lib.hid (Gg.out.to (below_one w2 (.cells #[.bool q.1.neg, .slice Aw nw cw, .slice Bw mw dw] 24)))
  have Gw := Lib.hid (Gw.out.to (below_one w2 (.cells #[.bool q.1.neg, .slice Aw nw cw, .slice Bw mw dw] 24)))
  have HBE : Hid (Below w.heap.size w (w2.alloc (.cells #[.bool q.1.neg, .slice Aw nw cw, .slice Bw mw dw] 24))) := HBE.out.trans (((below_one w2 (.cells #[.bool q.1.neg, .slice Aw nw cw, .slice Bw mw dw] 24))).mono HBE.out.size)
  have KW := KWN
  clear KWN
  have neKAKW : (w.heap.size = w2.heap.size) = False := eq_false (by omega)
  have neKWKA : (w2.heap.size = w.heap.size) = False := eq_false (by omega)
  have neKBKW : (w.heap.size + 1 = w2.heap.size) = False := eq_false (by omega)
  have neKWKB : (w2.heap.size = w.heap.size + 1) = False := eq_false (by omega)
  have neKGKW : (w1.heap.size = w2.heap.size) = False := eq_false (by omega)
  have neKWKG : (w2.heap.size = w1.heap.size) = False := eq_false (by omega)
  go_wp2_with fail
  refine (HU.out _ _ _ (by exact GA.out) (by exact GB.out)).mono ?_
  rintro e w3 ⟨v, rfl, hg, hb⟩
  clear ka0 ka1 ka2 kb0 kb1 kb2
  have KA := Lib.hid (KA.out.to hb)
  have KB := Lib.hid (KB.out.to hb)
  have KG := Lib.hid (KG.out.to hb)
  have KW := Lib.hid (KW.out.to hb)
  have GA := Lib.hid (GA.out.to hb)
  have GB := Lib.hid (GB.out.to hb)
  have Gg := Lib.hid (Gg.out.to hb)
  have Gw := Lib.hid (Gw.out.to hb)
  have HBE : Hid (Below w.heap.size w w3) := HBE.out.trans ((hb).mono HBE.out.size)
  clear hb
  obtain ⟨Az, nz, cz, Bz, mz, dz, rfl, hq1, hq2⟩ := hg.form
  have Gz := Lib.hid hg
  clear hq1 hq2 hg
  have kg0 := KG.out.cell 0
  have kg1 := KG.out.cell 1
  have kg2 := KG.out.cell 2
  have kw0 := KW.out.cell 0
  have kw1 := KW.out.cell 1
  have kw2 := KW.out.cell 2
  simp only [List.getElem?_toArray, List.getElem?_cons_zero, List.getElem?_cons_succ] at kg0 kg1 kg2 kw0 kw1 kw2
  have fz0 := KW.out.frozen 0
  have fz1 := KW.out.frozen 1
  have fz2 := KW.out.frozen 2
  have GA := Lib.hid (GA.out.putN KW.out (.bool p.1.neg) (.slice Az nz cz) (.slice Bz mz dz))
  have GB := Lib.hid (GB.out.putN KW.out (.bool p.1.neg) (.slice Az nz cz) (.slice Bz mz dz))
  have Gg := Lib.hid (Gg.out.putN KW.out (.bool p.1.neg) (.slice Az nz cz) (.slice Bz mz dz))
  have Gw := Lib.hid (Gw.out.putN KW.out (.bool p.1.neg) (.slice Az nz cz) (.slice Bz mz dz))
  have Gz := Lib.hid (Gz.out.putN KW.out (.bool p.1.neg) (.slice Az nz cz) (.slice Bz mz dz))
  have KA := Lib.hid (KA.out.put3_far (g := w2.heap.size) (by first | omega | simp) (.bool p.1.neg) (.slice Az nz cz) (.slice Bz mz dz))
  have KB := Lib.hid (KB.out.put3_far (g := w2.heap.size) (by first | omega | simp) (.bool p.1.neg) (.slice Az nz cz) (.slice Bz mz dz))
  have KG := Lib.hid (KG.out.put3_far (g := w2.heap.size) (by first | omega | simp) (.bool p.1.neg) (.slice Az nz cz) (.slice Bz mz dz))
  have HBE : Hid (Below w.heap.size w (put3 w3 (w2.heap.size) (.bool p.1.neg) (.slice Az nz cz) (.slice Bz mz dz))) := put3_below HBE.out (by omega) (.bool p.1.neg) (.slice Az nz cz) (.slice Bz mz dz)
  have KW := Lib.hid (KW.out.put3_at (.bool p.1.neg) (.slice Az nz cz) (.slice Bz mz dz))
  go_wp2_with fail
  refine (HSM.out _ _ _ _ (by exact Gg.out) (by exact Gz.out)).mono ?_
  rintro e w4 ⟨rfl, hb⟩
  clear kg0 kg1 kg2 kw0 kw1 kw2 fz0 fz1 fz2
  have KA := Lib.hid (KA.out.to hb)
  have KB := Lib.hid (KB.out.to hb)
  have KG := Lib.hid (KG.out.to hb)
  have KW := Lib.hid (KW.out.to hb)
  have GA := Lib.hid (GA.out.to hb)
  have GB := Lib.hid (GB.out.to hb)
  have Gg := Lib.hid (Gg.out.to hb)
  have Gw := Lib.hid (Gw.out.to hb)
  have Gz := Lib.hid (Gz.out.to hb)
  have HBE : Hid (Below w.heap.size w w4) := HBE.out.trans ((hb).mono HBE.out.size)
  clear hb
  go_wp2_with fail
  refine (counted_any _).mono ?_
  rintro e wz ⟨rfl, hb⟩
  go_wp2_with fail
  go_ret
  exact ⟨rfl, HBE.out.trans (hb.mono HBE.out.size)⟩

set_option maxRecDepth 1000000 in
set_option maxHeartbeats 25600000 in
theorem lawBits_xor (a0 : LN) (v0 : Value) (a1 : LN) (v1 : Value) (w : World) (g0 : GV w v0 a0) (g1 : GV w v1 a1) :
    Calls Tryz.prog 3 #[.int .i64 3, v0, v1] w fun e w' => e = .returned (.bool true) ∧ Below w.heap.size w w' := by
  obtain ⟨A0, n0, c0, B0, m0, d0, rfl, hq1, hq2⟩ := g0.form
  clear hq1 hq2
  obtain ⟨A1, n1, c1, B1, m1, d1, rfl, hq1, hq2⟩ := g1.form
  clear hq1 hq2
  obtain ⟨p, q, HF, HT, HU⟩ : ∃ p q : LN × Int, Hid (∀ (W : World) (u v : Value), GV W u a0 → GV W v a1 → Calls Tryz.prog 4 #[.int .i64 3, u, v] W (SPost W p)) ∧ Hid (∀ (W : World) (u v : Value), GV W u a0 → GV W v a1 → Calls Tryz.prog 5 #[.int .u8 38, u, v] W (SPost W q)) ∧ Hid (∀ (W : World) (u v : Value), GV W u a0 → GV W v a1 → Calls Tryz.prog 5 #[.int .u8 94, u, v] W (SPost W p)) :=
    ⟨bitsS 3 a0 a1, bitsS 1 a0 a1, fun W u v h1 h2 => bitsNum_S (3) a0 a1 u v W h1 h2, fun W u v h1 h2 => by
      have := rtwoX 38 (by omega) a0 a1 u v W h1 h2
      rw [rtwoXS_eq 38 1 (by omega)] at this
      exact this, fun W u v h1 h2 => by
      have := rtwoX 94 (by omega) a0 a1 u v W h1 h2
      rw [rtwoXS_eq 94 3 (by omega)] at this
      exact this⟩
  have hee : (p.2 == p.2) = true := by simp
  have HSM : Hid (∀ (W : World) (u v : Value) (a : LN), GV W u a → GV W v a → Calls Tryz.prog 7 #[u, v] W fun e w' => e = .returned (.bool true) ∧ Below W.heap.size W w') := fun W u v a h1 h2 => by
    have := same_S a a u v W h1 h2
    rw [sameB_true rfl] at this
    exact this
  have KA := Lib.hid ((blk2 w 24 24 #[.bool a0.neg, .slice A0 n0 c0, .slice B0 m0 d0] #[.bool a1.neg, .slice A1 n1 c1, .slice B1 m1 d1]).1)
  have KB := Lib.hid ((blk2 w 24 24 #[.bool a0.neg, .slice A0 n0 c0, .slice B0 m0 d0] #[.bool a1.neg, .slice A1 n1 c1, .slice B1 m1 d1]).2)
  have GA := Lib.hid (g0.to (below_two w (.cells #[.bool a0.neg, .slice A0 n0 c0, .slice B0 m0 d0] 24) (.cells #[.bool a1.neg, .slice A1 n1 c1, .slice B1 m1 d1] 24)))
  have GB := Lib.hid (g1.to (below_two w (.cells #[.bool a0.neg, .slice A0 n0 c0, .slice B0 m0 d0] 24) (.cells #[.bool a1.neg, .slice A1 n1 c1, .slice B1 m1 d1] 24)))
  have HBE := Lib.hid (below_two w (.cells #[.bool a0.neg, .slice A0 n0 c0, .slice B0 m0 d0] 24) (.cells #[.bool a1.neg, .slice A1 n1 c1, .slice B1 m1 d1] 24))
  clear g0 g1
  go_enter Tryz.func3, Tryz.ntmps3
  go_wp2_with fail
  refine (HF.out _ _ _ (by exact GA.out) (by exact GB.out)).mono ?_
  rintro e w1 ⟨v, rfl, hg, hb⟩
  have KA := Lib.hid (KA.out.to hb)
  have KB := Lib.hid (KB.out.to hb)
  have GA := Lib.hid (GA.out.to hb)
  have GB := Lib.hid (GB.out.to hb)
  have HBE : Hid (Below w.heap.size w w1) := HBE.out.trans ((hb).mono HBE.out.size)
  clear hb
  obtain ⟨Ag, ng, cg, Bg, mg, dg, rfl, hq1, hq2⟩ := hg.form
  have Gg := Lib.hid hg
  clear hq1 hq2 hg
  have ka0 := KA.out.cell 0
  have ka1 := KA.out.cell 1
  have ka2 := KA.out.cell 2
  have kb0 := KB.out.cell 0
  have kb1 := KB.out.cell 1
  have kb2 := KB.out.cell 2
  simp only [List.getElem?_toArray, List.getElem?_cons_zero, List.getElem?_cons_succ] at ka0 ka1 ka2 kb0 kb1 kb2
  have ltKAKG := KA.out.lt
  have ltKBKG := KB.out.lt
  have KGN := Lib.hid (Blk.new w1 24 #[.bool p.1.neg, .slice Ag ng cg, .slice Bg mg dg])
  have KA := Lib.hid (KA.out.to (below_one w1 (.cells #[.bool p.1.neg, .slice Ag ng cg, .slice Bg mg dg] 24)))
  have KB := Lib.hid (KB.out.to (below_one w1 (.cells #[.bool p.1.neg, .slice Ag ng cg, .slice Bg mg dg] 24)))
  have GA := Lib.hid (GA.out.to (below_one w1 (.cells #[.bool p.1.neg, .slice Ag ng cg, .slice Bg mg dg] 24)))
  have GB := Lib.hid (GB.out.to (below_one w1 (.cells #[.bool p.1.neg, .slice Ag ng cg, .slice Bg mg dg] 24)))
  have Gg := Lib.hid (Gg.out.to (below_one w1 (.cells #[.bool p.1.neg, .slice Ag ng cg, .slice Bg mg dg] 24)))
  have HBE : Hid (Below w.heap.size w (w1.alloc (.cells #[.bool p.1.neg, .slice Ag ng cg, .slice Bg mg dg] 24))) := HBE.out.trans (((below_one w1 (.cells #[.bool p.1.neg, .slice Ag ng cg, .slice Bg mg dg] 24))).mono HBE.out.size)
  have KG := KGN
  clear KGN
  have neKAKG : (w.heap.size = w1.heap.size) = False := eq_false (by omega)
  have neKGKA : (w1.heap.size = w.heap.size) = False := eq_false (by omega)
  have neKBKG : (w.heap.size + 1 = w1.heap.size) = False := eq_false (by omega)
  have neKGKB : (w1.heap.size = w.heap.size + 1) = False := eq_false (by omega)
  go_wp2_with fail
  refine (HT.out _ _ _ (by exact GA.out) (by exact GB.out)).mono ?_
  rintro e w2 ⟨v, rfl, hg, hb⟩
  clear ka0 ka1 ka2 kb0 kb1 kb2
  have KA := Lib.hid (KA.out.to hb)
  have KB := Lib.hid (KB.out.to hb)
  have KG := Lib.hid (KG.out.to hb)
  have GA := Lib.hid (GA.out.to hb)
  have GB := Lib.hid (GB.out.to hb)
  have Gg := Lib.hid (Gg.out.to hb)
  have HBE : Hid (Below w.heap.size w w2) := HBE.out.trans ((hb).mono HBE.out.size)
  clear hb
  obtain ⟨Aw, nw, cw, Bw, mw, dw, rfl, hq1, hq2⟩ := hg.form
  have Gw := Lib.hid hg
  clear hq1 hq2 hg
  have ka0 := KA.out.cell 0
  have ka1 := KA.out.cell 1
  have ka2 := KA.out.cell 2
  have kb0 := KB.out.cell 0
  have kb1 := KB.out.cell 1
  have kb2 := KB.out.cell 2
  simp only [List.getElem?_toArray, List.getElem?_cons_zero, List.getElem?_cons_succ] at ka0 ka1 ka2 kb0 kb1 kb2
  have ltKAKW := KA.out.lt
  have ltKBKW := KB.out.lt
  have ltKGKW := KG.out.lt
  have KWN := Lib.hid (Blk.new w2 24 #[.bool q.1.neg, .slice Aw nw cw, .slice Bw mw dw])
  have KA := Lib.hid (KA.out.to (below_one w2 (.cells #[.bool q.1.neg, .slice Aw nw cw, .slice Bw mw dw] 24)))
  have KB := Lib.hid (KB.out.to (below_one w2 (.cells #[.bool q.1.neg, .slice Aw nw cw, .slice Bw mw dw] 24)))
  have KG := Lib.hid (KG.out.to (below_one w2 (.cells #[.bool q.1.neg, .slice Aw nw cw, .slice Bw mw dw] 24)))
  have GA := Lib.hid (GA.out.to (below_one w2 (.cells #[.bool q.1.neg, .slice Aw nw cw, .slice Bw mw dw] 24)))
  have GB := Lib.hid (GB.out.to (below_one w2 (.cells #[.bool q.1.neg, .slice Aw nw cw, .slice Bw mw dw] 24)))
  have Gg := Lib.hid (Gg.out.to (below_one w2 (.cells #[.bool q.1.neg, .slice Aw nw cw, .slice Bw mw dw] 24)))
  have Gw := Lib.hid (Gw.out.to (below_one w2 (.cells #[.bool q.1.neg, .slice Aw nw cw, .slice Bw mw dw] 24)))
  have HBE : Hid (Below w.heap.size w (w2.alloc (.cells #[.bool q.1.neg, .slice Aw nw cw, .slice Bw mw dw] 24))) := HBE.out.trans (((below_one w2 (.cells #[.bool q.1.neg, .slice Aw nw cw, .slice Bw mw dw] 24))).mono HBE.out.size)
  have KW := KWN
  clear KWN
  have neKAKW : (w.heap.size = w2.heap.size) = False := eq_false (by omega)
  have neKWKA : (w2.heap.size = w.heap.size) = False := eq_false (by omega)
  have neKBKW : (w.heap.size + 1 = w2.heap.size) = False := eq_false (by omega)
  have neKWKB : (w2.heap.size = w.heap.size + 1) = False := eq_false (by omega)
  have neKGKW : (w1.heap.size = w2.heap.size) = False := eq_false (by omega)
  have neKWKG : (w2.heap.size = w1.heap.size) = False := eq_false (by omega)
  go_wp2_with fail
  refine (HU.out _ _ _ (by exact GA.out) (by exact GB.out)).mono ?_
  rintro e w3 ⟨v, rfl, hg, hb⟩
  clear ka0 ka1 ka2 kb0 kb1 kb2
  have KA := Lib.hid (KA.out.to hb)
  have KB := Lib.hid (KB.out.to hb)
  have KG := Lib.hid (KG.out.to hb)
  have KW := Lib.hid (KW.out.to hb)
  have GA := Lib.hid (GA.out.to hb)
  have GB := Lib.hid (GB.out.to hb)
  have Gg := Lib.hid (Gg.out.to hb)
  have Gw := Lib.hid (Gw.out.to hb)
  have HBE : Hid (Below w.heap.size w w3) := HBE.out.trans ((hb).mono HBE.out.size)
  clear hb
  obtain ⟨Az, nz, cz, Bz, mz, dz, rfl, hq1, hq2⟩ := hg.form
  have Gz := Lib.hid hg
  clear hq1 hq2 hg
  have kg0 := KG.out.cell 0
  have kg1 := KG.out.cell 1
  have kg2 := KG.out.cell 2
  have kw0 := KW.out.cell 0
  have kw1 := KW.out.cell 1
  have kw2 := KW.out.cell 2
  simp only [List.getElem?_toArray, List.getElem?_cons_zero, List.getElem?_cons_succ] at kg0 kg1 kg2 kw0 kw1 kw2
  have fz0 := KW.out.frozen 0
  have fz1 := KW.out.frozen 1
  have fz2 := KW.out.frozen 2
  have GA := Lib.hid (GA.out.putN KW.out (.bool p.1.neg) (.slice Az nz cz) (.slice Bz mz dz))
  have GB := Lib.hid (GB.out.putN KW.out (.bool p.1.neg) (.slice Az nz cz) (.slice Bz mz dz))
  have Gg := Lib.hid (Gg.out.putN KW.out (.bool p.1.neg) (.slice Az nz cz) (.slice Bz mz dz))
  have Gw := Lib.hid (Gw.out.putN KW.out (.bool p.1.neg) (.slice Az nz cz) (.slice Bz mz dz))
  have Gz := Lib.hid (Gz.out.putN KW.out (.bool p.1.neg) (.slice Az nz cz) (.slice Bz mz dz))
  have KA := Lib.hid (KA.out.put3_far (g := w2.heap.size) (by first | omega | simp) (.bool p.1.neg) (.slice Az nz cz) (.slice Bz mz dz))
  have KB := Lib.hid (KB.out.put3_far (g := w2.heap.size) (by first | omega | simp) (.bool p.1.neg) (.slice Az nz cz) (.slice Bz mz dz))
  have KG := Lib.hid (KG.out.put3_far (g := w2.heap.size) (by first | omega | simp) (.bool p.1.neg) (.slice Az nz cz) (.slice Bz mz dz))
  have HBE : Hid (Below w.heap.size w (put3 w3 (w2.heap.size) (.bool p.1.neg) (.slice Az nz cz) (.slice Bz mz dz))) := put3_below HBE.out (by omega) (.bool p.1.neg) (.slice Az nz cz) (.slice Bz mz dz)
  have KW := Lib.hid (KW.out.put3_at (.bool p.1.neg) (.slice Az nz cz) (.slice Bz mz dz))
  go_wp2_with fail
  refine (HSM.out _ _ _ _ (by exact Gg.out) (by exact Gz.out)).mono ?_
  rintro e w4 ⟨rfl, hb⟩
  clear kg0 kg1 kg2 kw0 kw1 kw2 fz0 fz1 fz2
  have KA := Lib.hid (KA.out.to hb)
  have KB := Lib.hid (KB.out.to hb)
  have KG := Lib.hid (KG.out.to hb)
  have KW := Lib.hid (KW.out.to hb)
  have GA := Lib.hid (GA.out.to hb)
  have GB := Lib.hid (GB.out.to hb)
  have Gg := Lib.hid (Gg.out.to hb)
  have Gw := Lib.hid (Gw.out.to hb)
  have Gz := Lib.hid (Gz.out.to hb)
  have HBE : Hid (Below w.heap.size w w4) := HBE.out.trans ((hb).mono HBE.out.size)
  clear hb
  go_wp2_with fail
  refine (counted_any _).mono ?_
  rintro e wz ⟨rfl, hb⟩
  go_wp2_with fail
  go_ret
  exact ⟨rfl, HBE.out.trans (hb.mono HBE.out.size)⟩

set_option maxRecDepth 1000000 in
set_option maxHeartbeats 25600000 in
theorem lawBits_other (op : Int) (h1 : op ≠ 1) (h2 : op ≠ 2) (h3 : op ≠ 3) (a0 : LN) (v0 : Value) (a1 : LN) (v1 : Value) (w : World) (g0 : GV w v0 a0) (g1 : GV w v1 a1) :
    Calls Tryz.prog 3 #[.int .i64 op, v0, v1] w fun e w' => e = .returned (.bool true) ∧ Below w.heap.size w w' := by
  obtain ⟨A0, n0, c0, B0, m0, d0, rfl, hq1, hq2⟩ := g0.form
  clear hq1 hq2
  obtain ⟨A1, n1, c1, B1, m1, d1, rfl, hq1, hq2⟩ := g1.form
  clear hq1 hq2
  have k1 : (op == 1) = false := beq_eq_false_iff_ne.2 h1
  have k2 : (op == 2) = false := beq_eq_false_iff_ne.2 h2
  have k3 : (op == 3) = false := beq_eq_false_iff_ne.2 h3
  have k4 : (op != 1) = true := bne_iff_ne.2 h1
  obtain ⟨p, q, HF, HT, HWR, HP0⟩ : ∃ p q : LN × Int, Hid (∀ (W : World) (u v : Value), GV W u a0 → GV W v a1 → Calls Tryz.prog 4 #[.int .i64 op, u, v] W (SPost W p)) ∧ Hid (∀ (W : World) (u v : Value), GV W u a0 → GV W v a1 → Calls Tryz.prog 5 #[.int .u8 38, u, v] W (SPost W q)) ∧ Hid (∀ (W : World) (u v : Value), GV W u a0 → GV W v a1 → Calls Tryz.prog 6 #[u, v] W fun e w' => e = .returned (.int .i64 p.2) ∧ Below W.heap.size W w') ∧ Hid (p.1 = zeroL) :=
    ⟨(zeroL, wrongE a0 a1), bitsS 1 a0 a1, fun W u v h4 h5 => by rw [← bitsS_wrong (op := op) (by omega)]; exact bitsNum_S op a0 a1 u v W h4 h5, fun W u v h1 h2 => by
      have := rtwoX 38 (by omega) a0 a1 u v W h1 h2
      rw [rtwoXS_eq 38 1 (by omega)] at this
      exact this, fun W u v h4 h5 => wrong_S a0 a1 u v W h4 h5, rfl⟩
  clear h1 h2 h3
  have hee : (p.2 == p.2) = true := by simp
  have HSM : Hid (∀ (W : World) (u v : Value) (a : LN), GV W u a → GV W v a → Calls Tryz.prog 7 #[u, v] W fun e w' => e = .returned (.bool true) ∧ Below W.heap.size W w') := fun W u v a h1 h2 => by
    have := same_S a a u v W h1 h2
    rw [sameB_true rfl] at this
    exact this
  have KA := Lib.hid ((blk2 w 24 24 #[.bool a0.neg, .slice A0 n0 c0, .slice B0 m0 d0] #[.bool a1.neg, .slice A1 n1 c1, .slice B1 m1 d1]).1)
  have KB := Lib.hid ((blk2 w 24 24 #[.bool a0.neg, .slice A0 n0 c0, .slice B0 m0 d0] #[.bool a1.neg, .slice A1 n1 c1, .slice B1 m1 d1]).2)
  have GA := Lib.hid (g0.to (below_two w (.cells #[.bool a0.neg, .slice A0 n0 c0, .slice B0 m0 d0] 24) (.cells #[.bool a1.neg, .slice A1 n1 c1, .slice B1 m1 d1] 24)))
  have GB := Lib.hid (g1.to (below_two w (.cells #[.bool a0.neg, .slice A0 n0 c0, .slice B0 m0 d0] 24) (.cells #[.bool a1.neg, .slice A1 n1 c1, .slice B1 m1 d1] 24)))
  have HBE := Lib.hid (below_two w (.cells #[.bool a0.neg, .slice A0 n0 c0, .slice B0 m0 d0] 24) (.cells #[.bool a1.neg, .slice A1 n1 c1, .slice B1 m1 d1] 24))
  clear g0 g1
  go_enter Tryz.func3, Tryz.ntmps3
  go_wp2_with fail
  refine (HF.out _ _ _ (by exact GA.out) (by exact GB.out)).mono ?_
  rintro e w1 ⟨v, rfl, hg, hb⟩
  have KA := Lib.hid (KA.out.to hb)
  have KB := Lib.hid (KB.out.to hb)
  have GA := Lib.hid (GA.out.to hb)
  have GB := Lib.hid (GB.out.to hb)
  have HBE : Hid (Below w.heap.size w w1) := HBE.out.trans ((hb).mono HBE.out.size)
  clear hb
  obtain ⟨Ag, ng, cg, Bg, mg, dg, rfl, hq1, hq2⟩ := hg.form
  have Gg := Lib.hid hg
  clear hq1 hq2 hg
  have ka0 := KA.out.cell 0
  have ka1 := KA.out.cell 1
  have ka2 := KA.out.cell 2
  have kb0 := KB.out.cell 0
  have kb1 := KB.out.cell 1
  have kb2 := KB.out.cell 2
  simp only [List.getElem?_toArray, List.getElem?_cons_zero, List.getElem?_cons_succ] at ka0 ka1 ka2 kb0 kb1 kb2
  have ltKAKG := KA.out.lt
  have ltKBKG := KB.out.lt
  have KGN := Lib.hid (Blk.new w1 24 #[.bool p.1.neg, .slice Ag ng cg, .slice Bg mg dg])
  have KA := Lib.hid (KA.out.to (below_one w1 (.cells #[.bool p.1.neg, .slice Ag ng cg, .slice Bg mg dg] 24)))
  have KB := Lib.hid (KB.out.to (below_one w1 (.cells #[.bool p.1.neg, .slice Ag ng cg, .slice Bg mg dg] 24)))
  have GA := Lib.hid (GA.out.to (below_one w1 (.cells #[.bool p.1.neg, .slice Ag ng cg, .slice Bg mg dg] 24)))
  have GB := Lib.hid (GB.out.to (below_one w1 (.cells #[.bool p.1.neg, .slice Ag ng cg, .slice Bg mg dg] 24)))
  have Gg := Lib.hid (Gg.out.to (below_one w1 (.cells #[.bool p.1.neg, .slice Ag ng cg, .slice Bg mg dg] 24)))
  have HBE : Hid (Below w.heap.size w (w1.alloc (.cells #[.bool p.1.neg, .slice Ag ng cg, .slice Bg mg dg] 24))) := HBE.out.trans (((below_one w1 (.cells #[.bool p.1.neg, .slice Ag ng cg, .slice Bg mg dg] 24))).mono HBE.out.size)
  have KG := KGN
  clear KGN
  have neKAKG : (w.heap.size = w1.heap.size) = False := eq_false (by omega)
  have neKGKA : (w1.heap.size = w.heap.size) = False := eq_false (by omega)
  have neKBKG : (w.heap.size + 1 = w1.heap.size) = False := eq_false (by omega)
  have neKGKB : (w1.heap.size = w.heap.size + 1) = False := eq_false (by omega)
  go_wp2_with fail
  refine (HT.out _ _ _ (by exact GA.out) (by exact GB.out)).mono ?_
  rintro e w2 ⟨v, rfl, hg, hb⟩
  clear ka0 ka1 ka2 kb0 kb1 kb2
  have KA := Lib.hid (KA.out.to hb)
  have KB := Lib.hid (KB.out.to hb)
  have KG := Lib.hid (KG.out.to hb)
  have GA := Lib.hid (GA.out.to hb)
  have GB := Lib.hid (GB.out.to hb)
  have Gg := Lib.hid (Gg.out.to hb)
  have HBE : Hid (Below w.heap.size w w2) := HBE.out.trans ((hb).mono HBE.out.size)
  clear hb
  obtain ⟨Aw, nw, cw, Bw, mw, dw, rfl, hq1, hq2⟩ := hg.form
  have Gw := Lib.hid hg
  clear hq1 hq2 hg
  have ka0 := KA.out.cell 0
  have ka1 := KA.out.cell 1
  have ka2 := KA.out.cell 2
  have kb0 := KB.out.cell 0
  have kb1 := KB.out.cell 1
  have kb2 := KB.out.cell 2
  simp only [List.getElem?_toArray, List.getElem?_cons_zero, List.getElem?_cons_succ] at ka0 ka1 ka2 kb0 kb1 kb2
  have ltKAKW := KA.out.lt
  have ltKBKW := KB.out.lt
  have ltKGKW := KG.out.lt
  have KWN := Lib.hid (Blk.new w2 24 #[.bool q.1.neg, .slice Aw nw cw, .slice Bw mw dw])
  have KA := Lib.hid (KA.out.to (below_one w2 (.cells #[.bool q.1.neg, .slice Aw nw cw, .slice Bw mw dw] 24)))
  have KB := Lib.hid (KB.out.to (below_one w2 (.cells #[.bool q.1.neg, .slice Aw nw cw, .slice Bw mw dw] 24)))
  have KG := Lib.hid (KG.out.to (below_one w2 (.cells #[.bool q.1.neg, .slice Aw nw cw, .slice Bw mw dw] 24)))
  have GA := Lib.hid (GA.out.to (below_one w2 (.cells #[.bool q.1.neg, .slice Aw nw cw, .slice Bw mw dw] 24)))
  have GB := Lib.hid (GB.out.to (below_one w2 (.cells #[.bool q.1.neg, .slice Aw nw cw, .slice Bw mw dw] 24)))
  have Gg := Lib.hid (Gg.out.to (below_one w2 (.cells #[.bool q.1.neg, .slice Aw nw cw, .slice Bw mw dw] 24)))
  have Gw := Lib.hid (Gw.out.to (below_one w2 (.cells #[.bool q.1.neg, .slice Aw nw cw, .slice Bw mw dw] 24)))
  have HBE : Hid (Below w.heap.size w (w2.alloc (.cells #[.bool q.1.neg, .slice Aw nw cw, .slice Bw mw dw] 24))) := HBE.out.trans (((below_one w2 (.cells #[.bool q.1.neg, .slice Aw nw cw, .slice Bw mw dw] 24))).mono HBE.out.size)
  have KW := KWN
  clear KWN
  have neKAKW : (w.heap.size = w2.heap.size) = False := eq_false (by omega)
  have neKWKA : (w2.heap.size = w.heap.size) = False := eq_false (by omega)
  have neKBKW : (w.heap.size + 1 = w2.heap.size) = False := eq_false (by omega)
  have neKWKB : (w2.heap.size = w.heap.size + 1) = False := eq_false (by omega)
  have neKGKW : (w1.heap.size = w2.heap.size) = False := eq_false (by omega)
  have neKWKG : (w2.heap.size = w1.heap.size) = False := eq_false (by omega)
  go_wp2_with fail
  refine (HWR.out _ _ _ (by exact GA.out) (by exact GB.out)).mono ?_
  rintro e w3 ⟨rfl, hb⟩
  clear ka0 ka1 ka2 kb0 kb1 kb2
  have KA := Lib.hid (KA.out.to hb)
  have KB := Lib.hid (KB.out.to hb)
  have KG := Lib.hid (KG.out.to hb)
  have KW := Lib.hid (KW.out.to hb)
  have GA := Lib.hid (GA.out.to hb)
  have GB := Lib.hid (GB.out.to hb)
  have Gg := Lib.hid (Gg.out.to hb)
  have Gw := Lib.hid (Gw.out.to hb)
  have HBE : Hid (Below w.heap.size w w3) := HBE.out.trans ((hb).mono HBE.out.size)
  clear hb
  have kg0 := KG.out.cell 0
  have kg1 := KG.out.cell 1
  have kg2 := KG.out.cell 2
  have kw0 := KW.out.cell 0
  have kw1 := KW.out.cell 1
  have kw2 := KW.out.cell 2
  simp only [List.getElem?_toArray, List.getElem?_cons_zero, List.getElem?_cons_succ] at kg0 kg1 kg2 kw0 kw1 kw2
  have fz0 := KW.out.frozen 0
  have fz1 := KW.out.frozen 1
  have fz2 := KW.out.frozen 2
  have GA := Lib.hid (GA.out.putN KW.out (.bool false) (.slice none 0 0) (.slice none 0 0))
  have GB := Lib.hid (GB.out.putN KW.out (.bool false) (.slice none 0 0) (.slice none 0 0))
  have Gg := Lib.hid (Gg.out.putN KW.out (.bool false) (.slice none 0 0) (.slice none 0 0))
  have Gw := Lib.hid (Gw.out.putN KW.out (.bool false) (.slice none 0 0) (.slice none 0 0))
  have KA := Lib.hid (KA.out.put3_far (g := w2.heap.size) (by first | omega | simp) (.bool false) (.slice none 0 0) (.slice none 0 0))
  have KB := Lib.hid (KB.out.put3_far (g := w2.heap.size) (by first | omega | simp) (.bool false) (.slice none 0 0) (.slice none 0 0))
  have KG := Lib.hid (KG.out.put3_far (g := w2.heap.size) (by first | omega | simp) (.bool false) (.slice none 0 0) (.slice none 0 0))
  have HBE : Hid (Below w.heap.size w (put3 w3 (w2.heap.size) (.bool false) (.slice none 0 0) (.slice none 0 0))) := put3_below HBE.out (by omega) (.bool false) (.slice none 0 0) (.slice none 0 0)
  have KW := Lib.hid (KW.out.put3_at (.bool false) (.slice none 0 0) (.slice none 0 0))
  go_wp2_with fail
  refine (HSM.out _ _ _ _ (by exact Gg.out) (by rw [HP0.out]; exact GV.zero _)).mono ?_
  rintro e w4 ⟨rfl, hb⟩
  clear kg0 kg1 kg2 kw0 kw1 kw2 fz0 fz1 fz2
  have KA := Lib.hid (KA.out.to hb)
  have KB := Lib.hid (KB.out.to hb)
  have KG := Lib.hid (KG.out.to hb)
  have KW := Lib.hid (KW.out.to hb)
  have GA := Lib.hid (GA.out.to hb)
  have GB := Lib.hid (GB.out.to hb)
  have Gg := Lib.hid (Gg.out.to hb)
  have Gw := Lib.hid (Gw.out.to hb)
  have HBE : Hid (Below w.heap.size w w4) := HBE.out.trans ((hb).mono HBE.out.size)
  clear hb
  go_wp2_with fail
  refine (counted_any _).mono ?_
  rintro e wz ⟨rfl, hb⟩
  go_wp2_with fail
  go_ret
  exact ⟨rfl, HBE.out.trans (hb.mono HBE.out.size)⟩

theorem law_bits : LawBits.Walk := by
  intro op a0 v0 a1 v1 w _ g0 g1
  by_cases h1 : op = 1
  · subst h1; exact lawBits_and a0 v0 a1 v1 w g0 g1
  by_cases h2 : op = 2
  · subst h2; exact lawBits_or a0 v0 a1 v1 w g0 g1
  by_cases h3 : op = 3
  · subst h3; exact lawBits_xor a0 v0 a1 v1 w g0 g1
  exact lawBits_other op h1 h2 h3 a0 v0 a1 v1 w g0 g1

theorem numberBits_holds : Rows.NumberBitsMatchSpecCardSaid := LawBits.card law_bits
#print axioms numberBits_holds
end Go.Proofs.YtdmhkhnnomdkcaaGreatDoor

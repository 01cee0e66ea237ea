/- number.DivMod, at any two numbers. -/
import Derived.Deep.RegionHeld3
import Derived.RegionTactic
import Derived.BigRegion
import Derived.Test.YtdhgbnnopekfjaaGreatDoorJo12
import Derived.Test.YtdhgbnnopekfjaaGreatDoorJo33
import Derived.Test.YtdhgbnnopekfjaaGreatDoorJo40
set_option linter.unusedVariables false
set_option linter.unusedSimpArgs false
namespace Go.Proofs.YtdhgbnnopekfjaaGreatDoor
open Go.RowKit NumB
set_option linter.unusedVariables false
set_option linter.unusedSimpArgs false

theorem results_cell2 {fn : Func} {p q u : Tmp} {ty tz : TypeId} (h : fn.results = #[.cell p ty, .cell q tz, .tmp u]) (tmps : Array Value) (P : Program) (w : World) :
    (results fn tmps).run P w = ((asAddr (tmps.getD p undef)).run P w).andThen fun a w₁ => ((loadVar ty a).run P w₁).andThen fun v w₂ => ((asAddr (tmps.getD q undef)).run P w₂).andThen fun b w₃ => ((loadVar tz b).run P w₃).andThen fun v2 w₄ => .ok (.tuple #[v, v2, tmps.getD u undef]) w₄ := by
  simp only [results, h]
  simp [Sem.run_bind, Result.andThen]
theorem blk_5 (w : World) (t : TypeId) (o1 o2 o3 o4 : Obj) (c : Array Value) : Blk (((((w.alloc o1).alloc o2).alloc o3).alloc o4).alloc (.cells c t)) (w.heap.size + 1 + 1 + 1 + 1) t c := by
  have := Blk.new ((((w.alloc o1).alloc o2).alloc o3).alloc o4) t c
  simpa using this
theorem below_5 (w : World) (o1 o2 o3 o4 o5 : Obj) : Below w.heap.size w (((((w.alloc o1).alloc o2).alloc o3).alloc o4).alloc o5) := (below_4 w o1 o2 o3 o4).alloc (by simp; omega) o5
theorem blk4_all (w : World) (t u v x : TypeId) (a b c d : Array Value) : Blk ((((w.alloc (.cells a t)).alloc (.cells b u)).alloc (.cells c v)).alloc (.cells d x)) w.heap.size t a ∧ Blk ((((w.alloc (.cells a t)).alloc (.cells b u)).alloc (.cells c v)).alloc (.cells d x)) (w.heap.size + 1) u b ∧ Blk ((((w.alloc (.cells a t)).alloc (.cells b u)).alloc (.cells c v)).alloc (.cells d x)) (w.heap.size + 1 + 1) v c ∧ Blk ((((w.alloc (.cells a t)).alloc (.cells b u)).alloc (.cells c v)).alloc (.cells d x)) (w.heap.size + 1 + 1 + 1) x d := by
  obtain ⟨h1, h2, h3⟩ := blk_3 w t u v a b c
  exact ⟨h1.alloc _, h2.alloc _, h3.alloc _, blk_4 w x _ _ _ d⟩
/-- Two numbers and an error. -/
def SPost2 (w : World) (r : (LN × LN) × Int) (e : Ending) (w' : World) : Prop := ∃ v u, e = .returned (.tuple #[v, u, .int .i64 r.2]) ∧ GV w' v r.1.1 ∧ GV w' u r.1.2 ∧ Below w.heap.size w w'

set_option maxRecDepth 1000000 in
set_option maxHeartbeats 12800000 in
theorem divModNum_S (a b : LN) (fl : Bool) (va vb : Value) (w : World) (ga : GV w va a) (gb : GV w vb b) : Calls Tryz.prog 8 #[va, vb, .bool fl] w (SPost2 w (divModS a b fl)) := by
  have GA := Lib.hid ga
  have GB := Lib.hid gb
  have HOK := Lib.hid (And.intro ga.ok gb.ok)
  obtain ⟨B1, m1, d1, B2, m2, d2, rfl, hq1, hq2⟩ := ga.form
  clear hq1 hq2
  obtain ⟨B3, m3, d3, B4, m4, d4, rfl, hq1, hq3⟩ := gb.form
  have HM3 := Lib.hid hq1
  clear hq1 hq3 ga gb
  have HBK := Lib.hid (blk4_all w 24 24 24 24 #[.bool a.neg, .slice B1 m1 d1, .slice B2 m2 d2] #[.bool b.neg, .slice B3 m3 d3, .slice B4 m4 d4] #[.bool false, .slice none 0 0, .slice none 0 0] #[.bool false, .slice none 0 0, .slice none 0 0])
  have HI : Hid (∀ (W : World) (g cap : Nat) (t : TypeId), Blk W g t #[.bool a.neg, .slice B1 m1 d1, .slice B2 m2 d2, .bool b.neg, .slice B3 m3 d3, .slice B4 m4 d4] → GV W (.agg #[.bool a.neg, .slice B1 m1 d1, .slice B2 m2 d2]) a → GV W (.agg #[.bool b.neg, .slice B3 m3 d3, .slice B4 m4 d4]) b → Calls Tryz.prog 27 #[.slice (some ⟨g, 0, none⟩) 2 cap] W fun e w' => e = .returned (.int .i64 (intErr2 a b)) ∧ Below W.heap.size W w') := fun W g cap t h1 h2 h3 => integers_two a b g cap _ _ _ _ W t h1 h2 h3
  have hbd := intErr2_bd a b
  have heq4 : (w.heap.size + 1 + 1 = w.heap.size + 1 + 1 + 1) = False := eq_false (by omega)
  have heq5 : (w.heap.size + 1 + 1 + 1 = w.heap.size + 1 + 1) = False := eq_false (by omega)
  by_cases e0 : intErr2 a b = 0
  rotate_left
  · have b0 : (intErr2 a b != 0) = true := by rw [bne_iff_ne]; exact e0
    have HR : Hid (divModS a b fl = ((zeroL, zeroL), intErr2 a b)) := by unfold Hid divModS; rw [if_neg e0]
    generalize divModS a b fl = r at *
    generalize intErr2 a b = z at *
    clear e0
    go_enter Tryz.func8, Tryz.ntmps8
    go_wp2_with fail
    refine (HI.out _ _ _ _ (by exact blk_5 w _ _ _ _ _ _) (by exact GA.out.to (below_5 w _ _ _ _ _)) (by exact GB.out.to (below_5 w _ _ _ _ _))).mono ?_
    rintro e w1 ⟨rfl, hb⟩
    have KA := Lib.hid ((HBK.out.1.alloc _).to hb)
    have KB := Lib.hid ((HBK.out.2.1.alloc _).to hb)
    have KQ := Lib.hid ((HBK.out.2.2.1.alloc _).to hb)
    have KR := Lib.hid ((HBK.out.2.2.2.alloc _).to hb)
    have HBE : Hid (Below w.heap.size w w1) := (below_5 w _ _ _ _ _).trans (hb.mono (below_5 w _ _ _ _ _).size)
    have GA := Lib.hid (GA.out.to HBE.out)
    have GB := Lib.hid (GB.out.to HBE.out)
    clear hb HI HBK
    have cq0 := KQ.out.cell 0
    have cq1 := KQ.out.cell 1
    have cq2 := KQ.out.cell 2
    have cr0 := KR.out.cell 0
    have cr1 := KR.out.cell 1
    have cr2 := KR.out.cell 2
    simp only [List.getElem?_toArray, List.getElem?_cons_zero, List.getElem?_cons_succ] at cq0 cq1 cq2 cr0 cr1 cr2
    have fq0 := KQ.out.frozen 0
    have fq1 := KQ.out.frozen 1
    have fq2 := KQ.out.frozen 2
    have fr0 := KR.out.frozen 0
    have fr1 := KR.out.frozen 1
    have fr2 := KR.out.frozen 2
    go_wp2_with fail
    refine bodyPost_ret (v := .tuple #[zeroNum, zeroNum, .int .i64 z]) (by rw [results_cell2 rfl]; go_simp; rfl) rfl ?_
    rw [HR.out]
    exact ⟨_, _, rfl, GV.zero _, GV.zero _, put3_below (put3_below HBE.out (by omega) _ _ _) (by omega) _ _ _⟩
  rw [e0] at HI
  obtain ⟨⟨ea, eb⟩, ya, yb⟩ := intErr2_zero.1 e0
  have hbx := bx_zero HOK.out.2 eb
  rw [← HM3.out] at hbx
  by_cases hb0 : b.x = 0
  · have HR : Hid (divModS a b fl = ((zeroL, zeroL), 10)) := by unfold Hid divModS; rw [if_pos e0, if_pos hb0]
    obtain rfl : m3 = 0 := hbx.2 hb0
    generalize divModS a b fl = r at *
    clear e0 hbd ea eb ya yb hbx hb0
    go_enter Tryz.func8, Tryz.ntmps8
    go_wp2_with fail
    refine (HI.out _ _ _ _ (by exact blk_5 w _ _ _ _ _ _) (by exact GA.out.to (below_5 w _ _ _ _ _)) (by exact GB.out.to (below_5 w _ _ _ _ _))).mono ?_
    rintro e w1 ⟨rfl, hb⟩
    have KA := Lib.hid ((HBK.out.1.alloc _).to hb)
    have KB := Lib.hid ((HBK.out.2.1.alloc _).to hb)
    have KQ := Lib.hid ((HBK.out.2.2.1.alloc _).to hb)
    have KR := Lib.hid ((HBK.out.2.2.2.alloc _).to hb)
    have HBE : Hid (Below w.heap.size w w1) := (below_5 w _ _ _ _ _).trans (hb.mono (below_5 w _ _ _ _ _).size)
    have GA := Lib.hid (GA.out.to HBE.out)
    have GB := Lib.hid (GB.out.to HBE.out)
    clear hb HI HBK
    have cb0 := KB.out.cell 0
    have cb1 := KB.out.cell 1
    have cb2 := KB.out.cell 2
    simp only [List.getElem?_toArray, List.getElem?_cons_zero, List.getElem?_cons_succ] at cb0 cb1 cb2
    have cq0 := KQ.out.cell 0
    have cq1 := KQ.out.cell 1
    have cq2 := KQ.out.cell 2
    have cr0 := KR.out.cell 0
    have cr1 := KR.out.cell 1
    have cr2 := KR.out.cell 2
    simp only [List.getElem?_toArray, List.getElem?_cons_zero, List.getElem?_cons_succ] at cq0 cq1 cq2 cr0 cr1 cr2
    have fq0 := KQ.out.frozen 0
    have fq1 := KQ.out.frozen 1
    have fq2 := KQ.out.frozen 2
    have fr0 := KR.out.frozen 0
    have fr1 := KR.out.frozen 1
    have fr2 := KR.out.frozen 2
    go_wp2_with fail
    refine bodyPost_ret (v := .tuple #[zeroNum, zeroNum, .int .i64 10]) (by rw [results_cell2 rfl]; go_simp; rfl) rfl ?_
    rw [HR.out]
    exact ⟨_, _, rfl, GV.zero _, GV.zero _, put3_below (put3_below HBE.out (by omega) _ _ _) (by omega) _ _ _⟩
  have hb1 : 0 < b.x := Nat.pos_of_ne_zero hb0
  have hm3 : ((m3 : Int) == 0) = false := beq_eq_false_iff_ne.2 (by have := mt hbx.1 hb0; omega)
  obtain ⟨p1, p2, p3, p4, -⟩ := LN.good HOK.out.1 ea
  obtain ⟨q1, q2, q3, q4, -⟩ := LN.good HOK.out.2 eb
  obtain ⟨-, f1, -⟩ := LN.as_int HOK.out.1 ea ya
  obtain ⟨-, f2, -⟩ := LN.as_int HOK.out.2 eb yb
  obtain ⟨k1, k2⟩ := dm_fits (a := a) (b := b) fl hb1 f1 f2
  have HR : Hid (divModS a b fl = ((intL (a.neg != b.neg) (dmq a b fl), intL (dmr a b fl).1 (dmr a b fl).2), 0)) := by unfold Hid divModS; rw [if_pos e0, if_neg hb0]
  have HX : Hid (∀ W, GV W (.agg #[.bool a.neg, .slice B1 m1 d1, .slice B2 m2 d2]) a → Nat32 W (.slice B1 m1 d1) a.x) := fun W h => by unfold Nat32; rw [p1]; exact h.parts.2.1
  have HY : Hid (∀ W, GV W (.agg #[.bool b.neg, .slice B3 m3 d3, .slice B4 m4 d4]) b → Nat32 W (.slice B3 m3 d3) b.x) := fun W h => by unfold Nat32; rw [q1]; exact h.parts.2.1
  have HL : Hid ((digs W32 a.x).length ≤ 128 ∧ (digs W32 b.x).length ≤ 128 ∧ (digs W32 (dmq a b fl)).length ≤ 128) := ⟨by rw [p1]; exact p3, by rw [q1]; exact q3, fit_len.1 k1⟩
  have HFL : Hid (∀ (W : World) (u v : Value), Nat32 W u a.x → Nat32 W v b.x → Calls Tryz.prog 28 #[.bool (a.neg != b.neg), u, v, .bool fl] W fun e w' => ∃ v, e = .returned v ∧ Nat32 w' v (dmq a b fl) ∧ Below W.heap.size W w') := fun W u v h1 h2 => floored_any _ fl a.x b.x u v W h1 h2 (by have := HL.out; omega) hb1
  have HLM : Hid ((digs W32 (dmq a b fl * b.x)).length ≤ 50000) := Nat.le_trans (digs_len_mul _ _) (by have := HL.out; omega)
  have HSU : Hid (∀ (W : World) (u v : Value), Nat32 W u a.x → Nat32 W v (dmq a b fl * b.x) → Calls Tryz.prog 29 #[.bool a.neg, u, .bool ((a.neg != b.neg) == b.neg), v] W (SumPost W (dmr a b fl))) := fun W u v h1 h2 => sum_any _ _ _ _ u v W h1 h2 (by have := HL.out; omega) HLM.out
  have HW1 : Hid (∀ (W : World) (u : Value), Nat32 W u (dmq a b fl) → Calls Tryz.prog 31 #[.bool (a.neg != b.neg), u] W (SPost W (intL (a.neg != b.neg) (dmq a b fl), 0))) := fun W u h => by
    rw [← fracS_int k1]
    exact whole_S _ _ u W h (by have := fit_len.1 k1; omega)
  have HW2 : Hid (∀ (W : World) (u : Value), Nat32 W u (dmr a b fl).2 → Calls Tryz.prog 31 #[.bool (dmr a b fl).1, u] W (SPost W (intL (dmr a b fl).1 (dmr a b fl).2, 0))) := fun W u h => by
    rw [← fracS_int k2]
    exact whole_S _ _ u W h (by have := fit_len.1 k2; omega)
  have HMU : Hid (∀ (W : World) (u v : Value), Nat32 W u (dmq a b fl) → Nat32 W v b.x → Calls Tryz.prog 30 #[u, v] W (NPost W (dmq a b fl * b.x))) := fun W u v h1 h2 => mul_any _ _ u v W h1 h2 (by have := HL.out; omega) (by have := HL.out; omega)
  generalize divModS a b fl = r at *
  generalize intL (a.neg != b.neg) (dmq a b fl) = rq at *
  generalize intL (dmr a b fl).1 (dmr a b fl).2 = rr at *
  generalize hdm : dmr a b fl = dm at *
  generalize dmq a b fl * b.x = nb at *
  generalize dmq a b fl = nq at *
  obtain ⟨dms, dmn⟩ := dm
  dsimp only at HW2 HSU
  generalize hng : (a.neg != b.neg) = ng at *
  generalize hng2 : (ng == b.neg) = ng2 at *
  have hng3 : (!(a.neg == b.neg)) = ng := hng
  clear e0 hbd ea eb ya yb hbx hb0 hb1 p1 p2 p3 p4 q1 q2 q3 q4 f1 f2 k1 k2 hdm HLM
  go_enter Tryz.func8, Tryz.ntmps8
  go_wp2_with fail
  refine (HI.out _ _ _ _ (by exact blk_5 w _ _ _ _ _ _) (by exact GA.out.to (below_5 w _ _ _ _ _)) (by exact GB.out.to (below_5 w _ _ _ _ _))).mono ?_
  rintro e w1 ⟨rfl, hb⟩
  have KA := Lib.hid ((HBK.out.1.alloc _).to hb)
  have KB := Lib.hid ((HBK.out.2.1.alloc _).to hb)
  have KQ := Lib.hid ((HBK.out.2.2.1.alloc _).to hb)
  have KR := Lib.hid ((HBK.out.2.2.2.alloc _).to hb)
  have HBE : Hid (Below w.heap.size w w1) := (below_5 w _ _ _ _ _).trans (hb.mono (below_5 w _ _ _ _ _).size)
  have GA := Lib.hid (GA.out.to HBE.out)
  have GB := Lib.hid (GB.out.to HBE.out)
  clear hb HI HBK
  have ca0 := KA.out.cell 0
  have ca1 := KA.out.cell 1
  have ca2 := KA.out.cell 2
  have cb0 := KB.out.cell 0
  have cb1 := KB.out.cell 1
  have cb2 := KB.out.cell 2
  simp only [List.getElem?_toArray, List.getElem?_cons_zero, List.getElem?_cons_succ] at ca0 ca1 ca2 cb0 cb1 cb2
  go_wp2_with fail
  refine (HFL.out _ _ _ (by exact HX.out _ GA.out) (by exact HY.out _ GB.out)).mono ?_
  rintro e w2 ⟨v2, rfl, hn2, hb⟩
  have KA := Lib.hid (KA.out.to hb)
  have KB := Lib.hid (KB.out.to hb)
  have KQ := Lib.hid (KQ.out.to hb)
  have KR := Lib.hid (KR.out.to hb)
  have GA := Lib.hid (GA.out.to hb)
  have GB := Lib.hid (GB.out.to hb)
  have HBE : Hid (Below w.heap.size w w2) := HBE.out.trans (hb.mono HBE.out.size)
  have N2 := Lib.hid hn2
  clear hb hn2 ca0 ca1 ca2 cb0 cb1 cb2
  have ca0 := KA.out.cell 0
  have ca1 := KA.out.cell 1
  have ca2 := KA.out.cell 2
  have cb0 := KB.out.cell 0
  have cb1 := KB.out.cell 1
  have cb2 := KB.out.cell 2
  simp only [List.getElem?_toArray, List.getElem?_cons_zero, List.getElem?_cons_succ] at ca0 ca1 ca2 cb0 cb1 cb2
  have hlt := KB.out.lt
  have GAD := Lib.hid (GA.out.to (w' := w2.drew) (Below.refl _ _).drew)
  have GBD := Lib.hid (GB.out.to (w' := w2.drew) (Below.refl _ _).drew)
  have N2D := Lib.hid (N2.out.to (w' := w2.drew) (Below.refl _ _).drew)
  have KQD := Lib.hid KQ.out.drew
  have KRD := Lib.hid KR.out.drew
  have HBD : Hid (Below w.heap.size w w2.drew) := HBE.out.drew
  have HK : Hid (∀ W1 W' : World, Below W1.heap.size W1 W' → (W1.cell? ⟨w.heap.size, 0, none⟩ = some (.bool a.neg) ∧ W1.cell? ⟨w.heap.size, 1, none⟩ = some (.slice B1 m1 d1) ∧ W1.cell? ⟨w.heap.size + 1, 0, none⟩ = some (.bool b.neg) ∧ W1.cell? ⟨w.heap.size + 1, 1, none⟩ = some (.slice B3 m3 d3) ∧ w.heap.size + 1 < W1.heap.size) → (W'.cell? ⟨w.heap.size, 0, none⟩ = some (.bool a.neg) ∧ W'.cell? ⟨w.heap.size, 1, none⟩ = some (.slice B1 m1 d1) ∧ W'.cell? ⟨w.heap.size + 1, 0, none⟩ = some (.bool b.neg) ∧ W'.cell? ⟨w.heap.size + 1, 1, none⟩ = some (.slice B3 m3 d3) ∧ w.heap.size + 1 < W'.heap.size)) := fun W1 W' h1 ⟨a0, a1, a2, a3, a4⟩ => ⟨(h1.cell (p := ⟨w.heap.size, 0, none⟩) (Nat.lt_of_succ_lt a4)).trans a0, (h1.cell (p := ⟨w.heap.size, 1, none⟩) (Nat.lt_of_succ_lt a4)).trans a1, (h1.cell (p := ⟨w.heap.size + 1, 0, none⟩) a4).trans a2, (h1.cell (p := ⟨w.heap.size + 1, 1, none⟩) a4).trans a3, Nat.lt_of_lt_of_le a4 h1.size⟩
  go_wp2_with fail
  go_region_held3 (fun w' => w'.cell? ⟨w.heap.size, 0, none⟩ = some (.bool a.neg) ∧ w'.cell? ⟨w.heap.size, 1, none⟩ = some (.slice B1 m1 d1) ∧ w'.cell? ⟨w.heap.size + 1, 0, none⟩ = some (.bool b.neg) ∧ w'.cell? ⟨w.heap.size + 1, 1, none⟩ = some (.slice B3 m3 d3) ∧ w.heap.size + 1 < w'.heap.size)
    (first | go_keep | (refine HK.out _ _ (by assumption) ?_; go_keep))
    (first
      | (go_at_call 30; ((with_reducible refine (HMU.out _ _ _ (by exact N2D.out) (by exact HY.out _ GBD.out)).mono ?_)); rintro e w3 ⟨v3, rfl, hn3, hb3⟩)
      | (go_at_call 29; ((with_reducible refine (HSU.out _ _ _ (by exact HX.out _ (GAD.out.to hb3)) (by exact hn3)).mono ?_)); rintro e w4 ⟨v4, rfl, hn4, hb4⟩))
  have N4 := Lib.hid hn4
  have N2 := Lib.hid ((N2D.out.to hb3).to hb4)
  have KQ := Lib.hid ((KQD.out.to hb3).to hb4)
  have KR := Lib.hid ((KRD.out.to hb3).to hb4)
  have HBE : Hid (Below w.heap.size w w4) := (HBD.out.trans (hb3.mono HBD.out.size)).trans (hb4.mono (Nat.le_trans HBD.out.size hb3.size))
  clear hb3 hb4 hn3 hn4 ca0 ca1 ca2 cb0 cb1 cb2 HK GAD GBD N2D KQD KRD HBD GA GB KA KB hlt
  go_wp2_with fail
  refine (HW1.out _ _ (by exact N2.out)).mono ?_
  rintro e w5 ⟨v5, rfl, hg, hb⟩
  have KQ := Lib.hid (KQ.out.to hb)
  have KR := Lib.hid (KR.out.to hb)
  have N4 := Lib.hid (N4.out.to hb)
  have HBE : Hid (Below w.heap.size w w5) := HBE.out.trans (hb.mono HBE.out.size)
  obtain ⟨C1, s1, r1, C2, s2, r2, rfl, hq1, hq2⟩ := hg.form
  have cq0 := KQ.out.cell 0
  have cq1 := KQ.out.cell 1
  have cq2 := KQ.out.cell 2
  simp only [List.getElem?_toArray, List.getElem?_cons_zero, List.getElem?_cons_succ] at cq0 cq1 cq2
  have fq0 := KQ.out.frozen 0
  have fq1 := KQ.out.frozen 1
  have fq2 := KQ.out.frozen 2
  have GQ := Lib.hid (hg.putN KQ.out (.bool rq.neg) (.slice C1 s1 r1) (.slice C2 s2 r2))
  have N4 := Lib.hid (N4.out.put3 KQ.out (.bool rq.neg) (.slice C1 s1 r1) (.slice C2 s2 r2))
  have KR := Lib.hid (KR.out.put3_far (g := w.heap.size + 1 + 1) (by omega) (.bool rq.neg) (.slice C1 s1 r1) (.slice C2 s2 r2))
  have HBE := Lib.hid (put3_below HBE.out (show w.heap.size ≤ w.heap.size + 1 + 1 by omega) (.bool rq.neg) (.slice C1 s1 r1) (.slice C2 s2 r2))
  have KQ := Lib.hid (KQ.out.put3_at (.bool rq.neg) (.slice C1 s1 r1) (.slice C2 s2 r2))
  clear hb hg hq1 hq2
  go_wp2_with fail
  refine (HW2.out _ _ (by exact N4.out)).mono ?_
  rintro e w6 ⟨v6, rfl, hg, hb⟩
  clear cq0 cq1 cq2 fq0 fq1 fq2
  have KQ := Lib.hid (KQ.out.to hb)
  have KR := Lib.hid (KR.out.to hb)
  have GQ := Lib.hid (GQ.out.to hb)
  have HBE : Hid (Below w.heap.size w w6) := HBE.out.trans (hb.mono HBE.out.size)
  obtain ⟨C3, s3, r3, C4, s4, r4, rfl, hq1, hq2⟩ := hg.form
  have cq0 := KQ.out.cell 0
  have cq1 := KQ.out.cell 1
  have cq2 := KQ.out.cell 2
  have cr0 := KR.out.cell 0
  have cr1 := KR.out.cell 1
  have cr2 := KR.out.cell 2
  simp only [List.getElem?_toArray, List.getElem?_cons_zero, List.getElem?_cons_succ] at cq0 cq1 cq2 cr0 cr1 cr2
  have fq0 := KQ.out.frozen 0
  have fq1 := KQ.out.frozen 1
  have fq2 := KQ.out.frozen 2
  have fr0 := KR.out.frozen 0
  have fr1 := KR.out.frozen 1
  have fr2 := KR.out.frozen 2
  have GR := Lib.hid (hg.putN KR.out (.bool rr.neg) (.slice C3 s3 r3) (.slice C4 s4 r4))
  have GQ := Lib.hid (GQ.out.putN KR.out (.bool rr.neg) (.slice C3 s3 r3) (.slice C4 s4 r4))
  have KQ := Lib.hid (KQ.out.put3_far (g := w.heap.size + 1 + 1 + 1) (by omega) (.bool rr.neg) (.slice C3 s3 r3) (.slice C4 s4 r4))
  have HBE := Lib.hid (put3_below HBE.out (show w.heap.size ≤ w.heap.size + 1 + 1 + 1 by omega) (.bool rr.neg) (.slice C3 s3 r3) (.slice C4 s4 r4))
  have KR := Lib.hid (KR.out.put3_at (.bool rr.neg) (.slice C3 s3 r3) (.slice C4 s4 r4))
  clear hb hg hq1 hq2
  go_wp2_with fail
  clear cq0 cq1 cq2 fq0 fq1 fq2 cr0 cr1 cr2 fr0 fr1 fr2
  change Code.wp _ _ _ _ (put3 w6 (w.heap.size + 1 + 1 + 1) (.bool rr.neg) (.slice C3 s3 r3) (.slice C4 s4 r4))
  generalize put3 w6 (w.heap.size + 1 + 1 + 1) (.bool rr.neg) (.slice C3 s3 r3) (.slice C4 s4 r4) = w7 at *
  have cq0 := KQ.out.cell 0
  have cq1 := KQ.out.cell 1
  have cq2 := KQ.out.cell 2
  have cr0 := KR.out.cell 0
  have cr1 := KR.out.cell 1
  have cr2 := KR.out.cell 2
  simp only [List.getElem?_toArray, List.getElem?_cons_zero, List.getElem?_cons_succ] at cq0 cq1 cq2 cr0 cr1 cr2
  have fq0 := KQ.out.frozen 0
  have fq1 := KQ.out.frozen 1
  have fq2 := KQ.out.frozen 2
  have fr0 := KR.out.frozen 0
  have fr1 := KR.out.frozen 1
  have fr2 := KR.out.frozen 2
  clear HX HY HL HFL HSU HW1 HW2 HMU N2 N4 HOK HM3 hm3 hng hng2 hng3
  go_region
  all_goals
    go_wp2_with fail
    refine bodyPost_ret (v := .tuple #[.agg #[.bool rq.neg, .slice C1 s1 r1, .slice C2 s2 r2], .agg #[.bool rr.neg, .slice C3 s3 r3, .slice C4 s4 r4], .int .i64 0]) (by rw [results_cell2 rfl]; go_simp) rfl ?_
    rw [HR.out]
    have KR2 := KR.out.put3_far (g := w.heap.size + 1 + 1) (by omega) (.bool rq.neg) (.slice C1 s1 r1) (.slice C2 s2 r2)
    have hq := (GQ.out.putN KQ.out (.bool rq.neg) (.slice C1 s1 r1) (.slice C2 s2 r2)).putN KR2 (.bool rr.neg) (.slice C3 s3 r3) (.slice C4 s4 r4)
    have hr := (GR.out.putN KQ.out (.bool rq.neg) (.slice C1 s1 r1) (.slice C2 s2 r2)).putN KR2 (.bool rr.neg) (.slice C3 s3 r3) (.slice C4 s4 r4)
    have hb := put3_below (put3_below HBE.out (show w.heap.size ≤ w.heap.size + 1 + 1 by omega) (.bool rq.neg) (.slice C1 s1 r1) (.slice C2 s2 r2)) (show w.heap.size ≤ w.heap.size + 1 + 1 + 1 by omega) (.bool rr.neg) (.slice C3 s3 r3) (.slice C4 s4 r4)
    exact ⟨_, _, rfl, hq.to (Below.refl _ _).drew, hr.to (Below.refl _ _).drew, hb.drew⟩
end Go.Proofs.YtdhgbnnopekfjaaGreatDoor

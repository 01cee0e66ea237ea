/- number.Neg, Abs, Root, at any number. -/
import Derived.Test.YtdfcpkjphdepcaaDoorJo24
import Derived.Test.YtdfcpkjphdepcaaDoorJo25
import Derived.Test.YtdfcpkjphdepcaaDoorJo26
import Derived.Test.YtdfcpkjphdepcaaDoorJo30
import Derived.Test.YtdfcpkjphdepcaaDoorJo31
set_option linter.unusedVariables false
set_option linter.unusedSimpArgs false
namespace Go.Proofs.YtdfcpkjphdepcaaDoor
open Go.RowKit NumB
set_option linter.unusedVariables false
set_option linter.unusedSimpArgs false

theorem check_S (a : LN) (v : Value) (w : World) (h : GV w v a) : Calls Tryd.prog 35 #[v] w fun e w' => e = .returned (.int .i64 a.err) ∧ Below w.heap.size w w' := by
  obtain ⟨A, B, rfl, h1, h2, o1, o2⟩ := h
  exact check_any a.neg a.num a.den A B w h1 h2 o1 o2
/-- What Neg, Abs and Root answer. -/
def negS (a : LN) : LN × Int := fracS a.err (!a.neg) a.x a.y
def absS (a : LN) : LN × Int := fracS a.err false a.x a.y
noncomputable def rootS (a : LN) : LN × Int := if intErr a = 0 then (if a.neg then (zeroL, 1) else fracS 0 false (isqrt a.x) 1) else (zeroL, intErr a)
theorem fracS_err {er : Int} {s : Bool} {n d : Nat} (h : er ≠ 0) : fracS er s n d = (zeroL, er) := by unfold fracS opS; rw [if_neg h]

set_option maxRecDepth 100000 in
set_option maxHeartbeats 6400000 in
theorem negNum_S (a : LN) (va : Value) (w : World) (ga : GV w va a) : Calls Tryd.prog 13 #[va] w (SPost w (negS a)) := by
  have HO := Lib.hid ga.ok
  have hbd : 0 ≤ a.err ∧ a.err ≤ 3 := checkL_bd _ _ _
  have HCK := Lib.hid (fun (W : World) (u : Value) (h : GV W u a) => check_S a u W h)
  obtain ⟨B1, m1, d1, B2, m2, d2, rfl, hq1, hq2⟩ := ga.form
  clear hq1 hq2
  have KA := Lib.hid ((blk2 w 24 24 #[.bool a.neg, .slice B1 m1 d1, .slice B2 m2 d2] #[.bool false, .slice none 0 0, .slice none 0 0]).1)
  have KC := Lib.hid ((blk2 w 24 24 #[.bool a.neg, .slice B1 m1 d1, .slice B2 m2 d2] #[.bool false, .slice none 0 0, .slice none 0 0]).2)
  have GA := Lib.hid (ga.to (below_two w (.cells #[.bool a.neg, .slice B1 m1 d1, .slice B2 m2 d2] 24) (.cells #[.bool false, .slice none 0 0, .slice none 0 0] 24)))
  have HBE := Lib.hid (below_two w (.cells #[.bool a.neg, .slice B1 m1 d1, .slice B2 m2 d2] 24) (.cells #[.bool false, .slice none 0 0, .slice none 0 0] 24))
  clear ga
  by_cases e0 : a.err = 0
  rotate_left
  · have b0 : (a.err != 0) = true := by rw [bne_iff_ne]; exact e0
    have HRE : Hid (negS a = (zeroL, a.err)) := fracS_err e0
    generalize negS a = r at *
    generalize a.err = z at *
    clear e0
    go_enter Tryd.func13, Tryd.ntmps13
    go_wp2_with fail
    refine (HCK.out _ _ (by exact GA.out)).mono ?_
    rintro e w1 ⟨rfl, hb⟩
    have KA := Lib.hid (KA.out.to hb)
    have KC := Lib.hid (KC.out.to hb)
    have GA := Lib.hid (GA.out.to hb)
    have HBE : Hid (Below w.heap.size w w1) := HBE.out.trans ((hb).mono HBE.out.size)
    clear hb
    have kc0 := KC.out.cell 0
    have kc1 := KC.out.cell 1
    have kc2 := KC.out.cell 2
    simp only [List.getElem?_toArray, List.getElem?_cons_zero, List.getElem?_cons_succ] at kc0 kc1 kc2
    have fzkc0 := KC.out.frozen 0
    have fzkc1 := KC.out.frozen 1
    have fzkc2 := KC.out.frozen 2
    go_wp2_with fail
    refine bodyPost_ret (v := .tuple #[zeroNum, .int .i64 z]) (by rw [results_cell_tmp rfl]; go_simp; rfl) rfl ?_
    rw [HRE.out]
    exact ⟨_, rfl, GV.zero _, put3_below HBE.out (by omega) _ _ _⟩
  obtain ⟨p1, p2, p3, p4, hcan⟩ := LN.good HO.out e0
  have HX : Hid (∀ W, GV W (.agg #[.bool a.neg, .slice B1 m1 d1, .slice B2 m2 d2]) a → Nat32 W (.slice B1 m1 d1) a.x ∧ Nat32 W (.slice B2 m2 d2) a.y) := fun W h => by unfold Nat32; rw [p1, p2]; exact ⟨h.parts.2.1, h.parts.2.2.1⟩
  have HL : Hid ((digs W32 a.x).length ≤ 128 ∧ (digs W32 a.y).length ≤ 128 ∧ 0 < a.y) := ⟨by rw [p1]; exact p3, by rw [p2]; exact p4, hcan.1⟩
  have HRE : Hid (negS a = fracS 0 (!a.neg) a.x a.y) := by unfold Hid negS; rw [e0]
  have HMD : Hid (∀ (W : World) (u v : Value), Nat32 W u a.x → Nat32 W v a.y → Calls Tryd.prog 30 #[.bool (!a.neg), u, v] W (SPost W (negS a))) := fun W u v h1 h2 => by
    rw [HRE.out]
    exact (made_any (!a.neg) a.x a.y u v W h1 h2 HL.out.2.2 (by have := HL.out; omega) (by have := HL.out; omega)).mono fun _ _ h => FitPost.toS h
  rw [e0] at HCK
  generalize negS a = r at *
  clear e0 p1 p2 p3 p4 hcan hbd
  go_enter Tryd.func13, Tryd.ntmps13
  go_wp2_with fail
  refine (HCK.out _ _ (by exact GA.out)).mono ?_
  rintro e w1 ⟨rfl, hb⟩
  have KA := Lib.hid (KA.out.to hb)
  have KC := Lib.hid (KC.out.to hb)
  have GA := Lib.hid (GA.out.to hb)
  have HBE : Hid (Below w.heap.size w w1) := HBE.out.trans ((hb).mono HBE.out.size)
  clear hb
  have ka0 := KA.out.cell 0
  have ka1 := KA.out.cell 1
  have ka2 := KA.out.cell 2
  simp only [List.getElem?_toArray, List.getElem?_cons_zero, List.getElem?_cons_succ] at ka0 ka1 ka2
  go_wp2_with fail
  refine (HMD.out _ _ _ (by exact (HX.out _ GA.out).1) (by exact (HX.out _ GA.out).2)).mono ?_
  rintro e w2 ⟨v, rfl, hg, hb⟩
  clear ka0 ka1 ka2
  have KA := Lib.hid (KA.out.to hb)
  have KC := Lib.hid (KC.out.to hb)
  have GA := Lib.hid (GA.out.to hb)
  have HBE : Hid (Below w.heap.size w w2) := HBE.out.trans ((hb).mono HBE.out.size)
  clear hb
  obtain ⟨Az, nz, cz, Bz, mz, dz, rfl, hq1, hq2⟩ := hg.form
  have Gz := Lib.hid hg
  clear hq1 hq2 hg
  have kc0 := KC.out.cell 0
  have kc1 := KC.out.cell 1
  have kc2 := KC.out.cell 2
  simp only [List.getElem?_toArray, List.getElem?_cons_zero, List.getElem?_cons_succ] at kc0 kc1 kc2
  have fzkc0 := KC.out.frozen 0
  have fzkc1 := KC.out.frozen 1
  have fzkc2 := KC.out.frozen 2
  go_wp2_with fail
  refine bodyPost_ret (v := .tuple #[.agg #[.bool r.1.neg, .slice Az nz cz, .slice Bz mz dz], .int .i64 r.2]) (by rw [results_cell_tmp rfl]; go_simp) rfl ?_
  exact ⟨_, rfl, Gz.out.putM KC.out _ _ _, put3_below HBE.out (by omega) _ _ _⟩

set_option maxRecDepth 100000 in
set_option maxHeartbeats 6400000 in
theorem absNum_S (a : LN) (va : Value) (w : World) (ga : GV w va a) : Calls Tryd.prog 15 #[va] w (SPost w (absS a)) := by
  have HO := Lib.hid ga.ok
  have hbd : 0 ≤ a.err ∧ a.err ≤ 3 := checkL_bd _ _ _
  have HCK := Lib.hid (fun (W : World) (u : Value) (h : GV W u a) => check_S a u W h)
  obtain ⟨B1, m1, d1, B2, m2, d2, rfl, hq1, hq2⟩ := ga.form
  clear hq1 hq2
  have KA := Lib.hid ((blk2 w 24 24 #[.bool a.neg, .slice B1 m1 d1, .slice B2 m2 d2] #[.bool false, .slice none 0 0, .slice none 0 0]).1)
  have KC := Lib.hid ((blk2 w 24 24 #[.bool a.neg, .slice B1 m1 d1, .slice B2 m2 d2] #[.bool false, .slice none 0 0, .slice none 0 0]).2)
  have GA := Lib.hid (ga.to (below_two w (.cells #[.bool a.neg, .slice B1 m1 d1, .slice B2 m2 d2] 24) (.cells #[.bool false, .slice none 0 0, .slice none 0 0] 24)))
  have HBE := Lib.hid (below_two w (.cells #[.bool a.neg, .slice B1 m1 d1, .slice B2 m2 d2] 24) (.cells #[.bool false, .slice none 0 0, .slice none 0 0] 24))
  clear ga
  by_cases e0 : a.err = 0
  rotate_left
  · have b0 : (a.err != 0) = true := by rw [bne_iff_ne]; exact e0
    have HRE : Hid (absS a = (zeroL, a.err)) := fracS_err e0
    generalize absS a = r at *
    generalize a.err = z at *
    clear e0
    go_enter Tryd.func15, Tryd.ntmps15
    go_wp2_with fail
    refine (HCK.out _ _ (by exact GA.out)).mono ?_
    rintro e w1 ⟨rfl, hb⟩
    have KA := Lib.hid (KA.out.to hb)
    have KC := Lib.hid (KC.out.to hb)
    have GA := Lib.hid (GA.out.to hb)
    have HBE : Hid (Below w.heap.size w w1) := HBE.out.trans ((hb).mono HBE.out.size)
    clear hb
    have kc0 := KC.out.cell 0
    have kc1 := KC.out.cell 1
    have kc2 := KC.out.cell 2
    simp only [List.getElem?_toArray, List.getElem?_cons_zero, List.getElem?_cons_succ] at kc0 kc1 kc2
    have fzkc0 := KC.out.frozen 0
    have fzkc1 := KC.out.frozen 1
    have fzkc2 := KC.out.frozen 2
    go_wp2_with fail
    refine bodyPost_ret (v := .tuple #[zeroNum, .int .i64 z]) (by rw [results_cell_tmp rfl]; go_simp; rfl) rfl ?_
    rw [HRE.out]
    exact ⟨_, rfl, GV.zero _, put3_below HBE.out (by omega) _ _ _⟩
  obtain ⟨p1, p2, p3, p4, hcan⟩ := LN.good HO.out e0
  have HX : Hid (∀ W, GV W (.agg #[.bool a.neg, .slice B1 m1 d1, .slice B2 m2 d2]) a → Nat32 W (.slice B1 m1 d1) a.x ∧ Nat32 W (.slice B2 m2 d2) a.y) := fun W h => by unfold Nat32; rw [p1, p2]; exact ⟨h.parts.2.1, h.parts.2.2.1⟩
  have HL : Hid ((digs W32 a.x).length ≤ 128 ∧ (digs W32 a.y).length ≤ 128 ∧ 0 < a.y) := ⟨by rw [p1]; exact p3, by rw [p2]; exact p4, hcan.1⟩
  have HRE : Hid (absS a = fracS 0 false a.x a.y) := by unfold Hid absS; rw [e0]
  have HMD : Hid (∀ (W : World) (u v : Value), Nat32 W u a.x → Nat32 W v a.y → Calls Tryd.prog 30 #[.bool false, u, v] W (SPost W (absS a))) := fun W u v h1 h2 => by
    rw [HRE.out]
    exact (made_any false a.x a.y u v W h1 h2 HL.out.2.2 (by have := HL.out; omega) (by have := HL.out; omega)).mono fun _ _ h => FitPost.toS h
  rw [e0] at HCK
  generalize absS a = r at *
  clear e0 p1 p2 p3 p4 hcan hbd
  go_enter Tryd.func15, Tryd.ntmps15
  go_wp2_with fail
  refine (HCK.out _ _ (by exact GA.out)).mono ?_
  rintro e w1 ⟨rfl, hb⟩
  have KA := Lib.hid (KA.out.to hb)
  have KC := Lib.hid (KC.out.to hb)
  have GA := Lib.hid (GA.out.to hb)
  have HBE : Hid (Below w.heap.size w w1) := HBE.out.trans ((hb).mono HBE.out.size)
  clear hb
  have ka0 := KA.out.cell 0
  have ka1 := KA.out.cell 1
  have ka2 := KA.out.cell 2
  simp only [List.getElem?_toArray, List.getElem?_cons_zero, List.getElem?_cons_succ] at ka0 ka1 ka2
  go_wp2_with fail
  refine (HMD.out _ _ _ (by exact (HX.out _ GA.out).1) (by exact (HX.out _ GA.out).2)).mono ?_
  rintro e w2 ⟨v, rfl, hg, hb⟩
  clear ka0 ka1 ka2
  have KA := Lib.hid (KA.out.to hb)
  have KC := Lib.hid (KC.out.to hb)
  have GA := Lib.hid (GA.out.to hb)
  have HBE : Hid (Below w.heap.size w w2) := HBE.out.trans ((hb).mono HBE.out.size)
  clear hb
  obtain ⟨Az, nz, cz, Bz, mz, dz, rfl, hq1, hq2⟩ := hg.form
  have Gz := Lib.hid hg
  clear hq1 hq2 hg
  have kc0 := KC.out.cell 0
  have kc1 := KC.out.cell 1
  have kc2 := KC.out.cell 2
  simp only [List.getElem?_toArray, List.getElem?_cons_zero, List.getElem?_cons_succ] at kc0 kc1 kc2
  have fzkc0 := KC.out.frozen 0
  have fzkc1 := KC.out.frozen 1
  have fzkc2 := KC.out.frozen 2
  go_wp2_with fail
  refine bodyPost_ret (v := .tuple #[.agg #[.bool r.1.neg, .slice Az nz cz, .slice Bz mz dz], .int .i64 r.2]) (by rw [results_cell_tmp rfl]; go_simp) rfl ?_
  exact ⟨_, rfl, Gz.out.putM KC.out _ _ _, put3_below HBE.out (by omega) _ _ _⟩

set_option maxRecDepth 100000 in
set_option maxHeartbeats 6400000 in
theorem rootNum_S (a : LN) (va : Value) (w : World) (ga : GV w va a) : Calls Tryd.prog 16 #[va] w (SPost w (rootS a)) := by
  have HO := Lib.hid ga.ok
  have hbd : 0 ≤ a.err ∧ a.err ≤ 3 := checkL_bd _ _ _
  have HCK := Lib.hid (fun (W : World) (u : Value) (h : GV W u a) => check_S a u W h)
  obtain ⟨B1, m1, d1, B2, m2, d2, rfl, hq1, hq2⟩ := ga.form
  clear hq1 hq2
  have KA := Lib.hid ((blk2 w 24 24 #[.bool a.neg, .slice B1 m1 d1, .slice B2 m2 d2] #[.bool false, .slice none 0 0, .slice none 0 0]).1)
  have KC := Lib.hid ((blk2 w 24 24 #[.bool a.neg, .slice B1 m1 d1, .slice B2 m2 d2] #[.bool false, .slice none 0 0, .slice none 0 0]).2)
  have GA := Lib.hid (ga.to (below_two w (.cells #[.bool a.neg, .slice B1 m1 d1, .slice B2 m2 d2] 24) (.cells #[.bool false, .slice none 0 0, .slice none 0 0] 24)))
  have HBE := Lib.hid (below_two w (.cells #[.bool a.neg, .slice B1 m1 d1, .slice B2 m2 d2] 24) (.cells #[.bool false, .slice none 0 0, .slice none 0 0] 24))
  clear ga
  have HI : Hid (∀ (W : World) (g cap : Nat) (t : TypeId), Blk W g t #[.bool a.neg, .slice B1 m1 d1, .slice B2 m2 d2] → GV W (.agg #[.bool a.neg, .slice B1 m1 d1, .slice B2 m2 d2]) a → Calls Tryd.prog 19 #[.slice (some ⟨g, 0, none⟩) 1 cap] W fun e w' => e = .returned (.int .i64 (intErr a)) ∧ Below W.heap.size W w') := fun W g cap t h1 h2 => integers_one a g cap _ _ W t h1 h2
  have hib := intErr_bd a
  have HB3 : Hid (∀ (o1 o2 o3 : Obj) (t : TypeId) (c : Array Value), Blk (((w.alloc o1).alloc o2).alloc (.cells c t)) (w.heap.size + 1 + 1) t c) := fun o1 o2 o3 t c => by have := Blk.new ((w.alloc o1).alloc o2) t c; simpa using this
  clear HCK
  by_cases e0 : intErr a = 0
  rotate_left
  · have b0 : (intErr a != 0) = true := by rw [bne_iff_ne]; exact e0
    have HRE : Hid (rootS a = (zeroL, intErr a)) := by unfold Hid rootS; rw [if_neg e0]
    generalize rootS a = r at *
    generalize intErr a = z at *
    clear e0
    go_enter Tryd.func16, Tryd.ntmps16
    go_wp2_with fail
    refine (HI.out _ _ _ _ (by exact HB3.out _ _ (.cells #[] 0) _ _) (by exact GA.out.to (below_one _ _))).mono ?_
    rintro e w1 ⟨rfl, hb⟩
    have hb : Below (((w.alloc (.cells #[.bool a.neg, .slice B1 m1 d1, .slice B2 m2 d2] 24)).alloc (.cells #[.bool false, .slice none 0 0, .slice none 0 0] 24))).heap.size ((w.alloc (.cells #[.bool a.neg, .slice B1 m1 d1, .slice B2 m2 d2] 24)).alloc (.cells #[.bool false, .slice none 0 0, .slice none 0 0] 24)) w1 := (below_one _ _).trans (hb.mono (below_one _ _).size)
    have KA := Lib.hid (KA.out.to hb)
    have KC := Lib.hid (KC.out.to hb)
    have GA := Lib.hid (GA.out.to hb)
    have HBE : Hid (Below w.heap.size w w1) := HBE.out.trans ((hb).mono HBE.out.size)
    clear hb
    have kc0 := KC.out.cell 0
    have kc1 := KC.out.cell 1
    have kc2 := KC.out.cell 2
    simp only [List.getElem?_toArray, List.getElem?_cons_zero, List.getElem?_cons_succ] at kc0 kc1 kc2
    have fzkc0 := KC.out.frozen 0
    have fzkc1 := KC.out.frozen 1
    have fzkc2 := KC.out.frozen 2
    go_wp2_with fail
    refine bodyPost_ret (v := .tuple #[zeroNum, .int .i64 z]) (by rw [results_cell_tmp rfl]; go_simp; rfl) rfl ?_
    rw [HRE.out]
    exact ⟨_, rfl, GV.zero _, put3_below HBE.out (by omega) _ _ _⟩
  obtain ⟨ea, ya⟩ := intErr_zero.1 e0
  obtain ⟨p1, p2, p3, p4, hcan⟩ := LN.good HO.out ea
  have HX : Hid (∀ W, GV W (.agg #[.bool a.neg, .slice B1 m1 d1, .slice B2 m2 d2]) a → Nat32 W (.slice B1 m1 d1) a.x ∧ Nat32 W (.slice B2 m2 d2) a.y) := fun W h => by unfold Nat32; rw [p1, p2]; exact ⟨h.parts.2.1, h.parts.2.2.1⟩
  have HL : Hid ((digs W32 a.x).length ≤ 128 ∧ (digs W32 a.y).length ≤ 128 ∧ 0 < a.y) := ⟨by rw [p1]; exact p3, by rw [p2]; exact p4, hcan.1⟩
  rw [e0] at HI
  by_cases hn : a.neg = true
  · have HRE : Hid (rootS a = (zeroL, 1)) := by unfold Hid rootS; rw [if_pos e0, if_pos hn]
    generalize rootS a = r at *
    have HNT := Lib.hid hn
    clear e0 ea ya p1 p2 p3 p4 hcan hbd hib hn
    go_enter Tryd.func16, Tryd.ntmps16
    go_wp2_with fail
    refine (HI.out _ _ _ _ (by exact HB3.out _ _ (.cells #[] 0) _ _) (by exact GA.out.to (below_one _ _))).mono ?_
    rintro e w1 ⟨rfl, hb⟩
    have hb : Below (((w.alloc (.cells #[.bool a.neg, .slice B1 m1 d1, .slice B2 m2 d2] 24)).alloc (.cells #[.bool false, .slice none 0 0, .slice none 0 0] 24))).heap.size ((w.alloc (.cells #[.bool a.neg, .slice B1 m1 d1, .slice B2 m2 d2] 24)).alloc (.cells #[.bool false, .slice none 0 0, .slice none 0 0] 24)) w1 := (below_one _ _).trans (hb.mono (below_one _ _).size)
    have KA := Lib.hid (KA.out.to hb)
    have KC := Lib.hid (KC.out.to hb)
    have GA := Lib.hid (GA.out.to hb)
    have HBE : Hid (Below w.heap.size w w1) := HBE.out.trans ((hb).mono HBE.out.size)
    clear hb
    have ka0 := KA.out.cell 0
    have ka1 := KA.out.cell 1
    have ka2 := KA.out.cell 2
    simp only [List.getElem?_toArray, List.getElem?_cons_zero, List.getElem?_cons_succ] at ka0 ka1 ka2
    rw [HNT.out] at ka0
    have kc0 := KC.out.cell 0
    have kc1 := KC.out.cell 1
    have kc2 := KC.out.cell 2
    simp only [List.getElem?_toArray, List.getElem?_cons_zero, List.getElem?_cons_succ] at kc0 kc1 kc2
    have fzkc0 := KC.out.frozen 0
    have fzkc1 := KC.out.frozen 1
    have fzkc2 := KC.out.frozen 2
    go_wp2_with fail
    refine bodyPost_ret (v := .tuple #[zeroNum, .int .i64 1]) (by rw [results_cell_tmp rfl]; go_simp; rfl) rfl ?_
    rw [HRE.out]
    exact ⟨_, rfl, GV.zero _, put3_below HBE.out (by omega) _ _ _⟩
  have HNF : Hid (a.neg = false) := by simpa [Hid] using hn
  have HRE : Hid (rootS a = fracS 0 false (isqrt a.x) 1) := by unfold Hid rootS; rw [if_pos e0, if_neg hn]
  have HRT : Hid (∀ (W : World) (u : Value), Nat32 W u a.x → Calls Tryd.prog 45 #[u] W (NPost W (isqrt a.x))) := fun W u h => nroot_any a.x u W h HL.out.1
  have HWH : Hid (∀ (W : World) (u : Value), Nat32 W u (isqrt a.x) → Calls Tryd.prog 21 #[.bool false, u] W (SPost W (rootS a))) := fun W u h => by
    rw [HRE.out]
    exact whole_S false _ u W h (Nat.le_trans (digs_len_mono W32_gt (isqrt_le _)) (by have := HL.out; omega))
  generalize rootS a = r at *
  generalize isqrt a.x = s at *
  clear e0 ea ya p1 p2 p3 p4 hcan hbd hib hn HRE
  go_enter Tryd.func16, Tryd.ntmps16
  go_wp2_with fail
  refine (HI.out _ _ _ _ (by exact HB3.out _ _ (.cells #[] 0) _ _) (by exact GA.out.to (below_one _ _))).mono ?_
  rintro e w1 ⟨rfl, hb⟩
  have hb : Below (((w.alloc (.cells #[.bool a.neg, .slice B1 m1 d1, .slice B2 m2 d2] 24)).alloc (.cells #[.bool false, .slice none 0 0, .slice none 0 0] 24))).heap.size ((w.alloc (.cells #[.bool a.neg, .slice B1 m1 d1, .slice B2 m2 d2] 24)).alloc (.cells #[.bool false, .slice none 0 0, .slice none 0 0] 24)) w1 := (below_one _ _).trans (hb.mono (below_one _ _).size)
  have KA := Lib.hid (KA.out.to hb)
  have KC := Lib.hid (KC.out.to hb)
  have GA := Lib.hid (GA.out.to hb)
  have HBE : Hid (Below w.heap.size w w1) := HBE.out.trans ((hb).mono HBE.out.size)
  clear hb
  have ka0 := KA.out.cell 0
  have ka1 := KA.out.cell 1
  have ka2 := KA.out.cell 2
  simp only [List.getElem?_toArray, List.getElem?_cons_zero, List.getElem?_cons_succ] at ka0 ka1 ka2
  rw [HNF.out] at ka0
  go_wp2_with fail
  refine (HRT.out _ _ (by exact (HX.out _ GA.out).1)).mono ?_
  rintro e w2 ⟨v, rfl, hn, hb⟩
  clear ka0 ka1 ka2
  have KA := Lib.hid (KA.out.to hb)
  have KC := Lib.hid (KC.out.to hb)
  have GA := Lib.hid (GA.out.to hb)
  have HBE : Hid (Below w.heap.size w w2) := HBE.out.trans ((hb).mono HBE.out.size)
  clear hb
  have N1 := Lib.hid hn
  clear hn
  go_wp2_with fail
  refine (HWH.out _ _ (by exact N1.out)).mono ?_
  rintro e w3 ⟨v, rfl, hg, hb⟩
  have KA := Lib.hid (KA.out.to hb)
  have KC := Lib.hid (KC.out.to hb)
  have GA := Lib.hid (GA.out.to hb)
  have N1 := Lib.hid (N1.out.to hb)
  have HBE : Hid (Below w.heap.size w w3) := HBE.out.trans ((hb).mono HBE.out.size)
  clear hb
  clear N1
  obtain ⟨Az, nz, cz, Bz, mz, dz, rfl, hq1, hq2⟩ := hg.form
  have Gz := Lib.hid hg
  clear hq1 hq2 hg
  have kc0 := KC.out.cell 0
  have kc1 := KC.out.cell 1
  have kc2 := KC.out.cell 2
  simp only [List.getElem?_toArray, List.getElem?_cons_zero, List.getElem?_cons_succ] at kc0 kc1 kc2
  have fzkc0 := KC.out.frozen 0
  have fzkc1 := KC.out.frozen 1
  have fzkc2 := KC.out.frozen 2
  go_wp2_with fail
  refine bodyPost_ret (v := .tuple #[.agg #[.bool r.1.neg, .slice Az nz cz, .slice Bz mz dz], .int .i64 r.2]) (by rw [results_cell_tmp rfl]; go_simp) rfl ?_
  exact ⟨_, rfl, Gz.out.putM KC.out _ _ _, put3_below HBE.out (by omega) _ _ _⟩
end Go.Proofs.YtdfcpkjphdepcaaDoor

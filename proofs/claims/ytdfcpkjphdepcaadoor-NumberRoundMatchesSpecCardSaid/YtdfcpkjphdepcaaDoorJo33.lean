/- number.Round, at any number and mode. fetterlockref1.root. Conditions: at most 256 digits. -/
import Derived.Deep.RegionHeld3
import Derived.Test.YtdfcpkjphdepcaaDoorJo24
import Derived.Test.YtdfcpkjphdepcaaDoorJo27
import Derived.Test.YtdfcpkjphdepcaaDoorJo30
import Derived.Test.YtdfcpkjphdepcaaDoorJo32
set_option linter.unusedVariables false
set_option linter.unusedSimpArgs false
namespace Go.Proofs.YtdfcpkjphdepcaaDoor
open Go.RowKit NumB
set_option linter.unusedVariables false
set_option linter.unusedSimpArgs false

/-- The rounded absolute value. -/
def rnd (m : Int) (a : LN) : Nat := if m = 1 then flo a.neg a.x a.y else if m = 2 then flo (!a.neg) a.x a.y else if m = 3 then flo false a.x a.y else (a.x + a.x + a.y) / (a.y + a.y)
/-- What Round answers. -/
def roundS (m : Int) (a : LN) : LN × Int := if a.err = 0 then (if 1 ≤ m ∧ m ≤ 4 then fracS 0 a.neg (rnd m a) 1 else (zeroL, 1)) else (zeroL, a.err)
theorem rnd_len {m : Int} {a : LN} (hy : 0 < a.y) (hx : (digs W32 a.x).length ≤ 128) (hyl : (digs W32 a.y).length ≤ 128) : (digs W32 (rnd m a)).length ≤ 200 := by
  have h1 : ∀ up, (digs W32 (flo up a.x a.y)).length ≤ 200 := fun up => by
    have : flo up a.x a.y ≤ a.x + 1 := by unfold flo; have := Nat.div_le_self a.x a.y; split <;> omega
    refine Nat.le_trans (digs_len_mono W32_gt this) (Nat.le_trans (digs_len_add (n := 128) hx (by rw [digs_one32]; decide)) (by omega))
  unfold rnd
  split
  · exact h1 _
  · split
    · exact h1 _
    · split
      · exact h1 _
      · refine Nat.le_trans (digs_len_mono W32_gt (Nat.div_le_self _ _)) (Nat.le_trans (digs_len_add (n := 129) (digs_len_add hx hx) (by omega)) (by omega))

set_option maxRecDepth 1000000 in
set_option maxHeartbeats 12800000 in
theorem roundNum_S (m : Int) (hm : m ≠ 4) (hmb : -9223372036854775808 ≤ m ∧ m ≤ 9223372036854775807) (a : LN) (va : Value) (w : World) (ga : GV w va a) : Calls Tryd.prog 17 #[va, .int .i64 m] w (SPost w (roundS m a)) := by
  have HO := Lib.hid ga.ok
  have hbd : 0 ≤ a.err ∧ a.err ≤ 3 := checkL_bd _ _ _
  have HCK := Lib.hid (fun (W : World) (u : Value) (h : GV W u a) => check_S a u W h)
  obtain ⟨B1, m1, d1, B2, m2, d2, rfl, hq1, hq2⟩ := ga.form
  clear hq1 hq2
  have KA := Lib.hid ((blk2 w 24 24 #[.bool a.neg, .slice B1 m1 d1, .slice B2 m2 d2] #[.bool false, .slice none 0 0, .slice none 0 0]).1)
  have KC := Lib.hid ((blk2 w 24 24 #[.bool a.neg, .slice B1 m1 d1, .slice B2 m2 d2] #[.bool false, .slice none 0 0, .slice none 0 0]).2)
  have GA := Lib.hid (ga.to (below_two w (.cells #[.bool a.neg, .slice B1 m1 d1, .slice B2 m2 d2] 24) (.cells #[.bool false, .slice none 0 0, .slice none 0 0] 24)))
  have HBE := Lib.hid (below_two w (.cells #[.bool a.neg, .slice B1 m1 d1, .slice B2 m2 d2] 24) (.cells #[.bool false, .slice none 0 0, .slice none 0 0] 24))
  clear ga
  by_cases e0 : a.err = 0
  rotate_left
  · have b0 : (a.err != 0) = true := by rw [bne_iff_ne]; exact e0
    have HRE : Hid (roundS m a = (zeroL, a.err)) := by unfold Hid roundS; rw [if_neg e0]
    generalize roundS m a = r at *
    generalize a.err = z at *
    clear e0 hm hmb
    go_enter Tryd.func17, Tryd.ntmps17
    go_wp2_with fail
    refine (HCK.out _ _ (by exact GA.out)).mono ?_
    rintro e w1 ⟨rfl, hb⟩
    have KA := Lib.hid (KA.out.to hb)
    have KC := Lib.hid (KC.out.to hb)
    have GA := Lib.hid (GA.out.to hb)
    have HBE : Hid (Below w.heap.size w w1) := HBE.out.trans ((hb).mono HBE.out.size)
    clear hb
    have kc0 := KC.out.cell 0
    have kc1 := KC.out.cell 1
    have kc2 := KC.out.cell 2
    simp only [List.getElem?_toArray, List.getElem?_cons_zero, List.getElem?_cons_succ] at kc0 kc1 kc2
    have fzkc0 := KC.out.frozen 0
    have fzkc1 := KC.out.frozen 1
    have fzkc2 := KC.out.frozen 2
    go_wp2_with fail
    refine bodyPost_ret (v := .tuple #[zeroNum, .int .i64 z]) (by rw [results_cell_tmp rfl]; go_simp; rfl) rfl ?_
    rw [HRE.out]
    exact ⟨_, rfl, GV.zero _, put3_below HBE.out (by omega) _ _ _⟩
  by_cases hin : 1 ≤ m ∧ m ≤ 4
  rotate_left
  · have HRE : Hid (roundS m a = (zeroL, 1)) := by unfold Hid roundS; rw [if_pos e0, if_neg hin]
    have h1 : (m == 1) = false := beq_eq_false_iff_ne.2 (by omega)
    have h2 : (m == 2) = false := beq_eq_false_iff_ne.2 (by omega)
    have h3 : (m == 3) = false := beq_eq_false_iff_ne.2 (by omega)
    have h4 : (m == 4) = false := beq_eq_false_iff_ne.2 (by omega)
    rw [e0] at HCK
    generalize roundS m a = r at *
    clear e0 hin hm hmb hbd
    go_enter Tryd.func17, Tryd.ntmps17
    go_wp2_with fail
    refine (HCK.out _ _ (by exact GA.out)).mono ?_
    rintro e w1 ⟨rfl, hb⟩
    have KA := Lib.hid (KA.out.to hb)
    have KC := Lib.hid (KC.out.to hb)
    have GA := Lib.hid (GA.out.to hb)
    have HBE : Hid (Below w.heap.size w w1) := HBE.out.trans ((hb).mono HBE.out.size)
    clear hb
    have kc0 := KC.out.cell 0
    have kc1 := KC.out.cell 1
    have kc2 := KC.out.cell 2
    simp only [List.getElem?_toArray, List.getElem?_cons_zero, List.getElem?_cons_succ] at kc0 kc1 kc2
    have fzkc0 := KC.out.frozen 0
    have fzkc1 := KC.out.frozen 1
    have fzkc2 := KC.out.frozen 2
    go_wp2_with fail
    refine bodyPost_ret (v := .tuple #[zeroNum, .int .i64 1]) (by rw [results_cell_tmp rfl]; go_simp; rfl) rfl ?_
    rw [HRE.out]
    exact ⟨_, rfl, GV.zero _, put3_below HBE.out (by omega) _ _ _⟩
  obtain ⟨p1, p2, p3, p4, hcan⟩ := LN.good HO.out e0
  have HX : Hid (∀ W, GV W (.agg #[.bool a.neg, .slice B1 m1 d1, .slice B2 m2 d2]) a → Nat32 W (.slice B1 m1 d1) a.x ∧ Nat32 W (.slice B2 m2 d2) a.y) := fun W h => by unfold Nat32; rw [p1, p2]; exact ⟨h.parts.2.1, h.parts.2.2.1⟩
  have HL : Hid ((digs W32 a.x).length ≤ 128 ∧ (digs W32 a.y).length ≤ 128 ∧ 0 < a.y) := ⟨by rw [p1]; exact p3, by rw [p2]; exact p4, hcan.1⟩
  have HRE : Hid (roundS m a = fracS 0 a.neg (rnd m a) 1) := by unfold Hid roundS; rw [if_pos e0, if_pos hin]
  have HWH : Hid (∀ (W : World) (u : Value), Nat32 W u (rnd m a) → Calls Tryd.prog 21 #[.bool a.neg, u] W (SPost W (roundS m a))) := fun W u h => by
    rw [HRE.out]
    exact whole_S a.neg _ u W h (Nat.le_trans (rnd_len HL.out.2.2 HL.out.1 HL.out.2.1) (by omega))
  have HFL : Hid (∀ (W : World) (s t : Bool) (u v : Value), Nat32 W u a.x → Nat32 W v a.y → Calls Tryd.prog 46 #[.bool s, u, v, .bool t] W fun e w' => ∃ v, e = .returned v ∧ Nat32 w' v (flo (s && t) a.x a.y) ∧ Below W.heap.size W w') := fun W s t u v h1 h2 => floored_any s t a.x a.y u v W h1 h2 (by have := HL.out; omega) HL.out.2.2
  rw [e0] at HCK
  have hm3 : m = 1 ∨ m = 2 ∨ m = 3 := by omega
  clear e0 p1 p2 p3 p4 hcan hbd hin hm hmb HRE HO
  rcases hm3 with rfl | rfl | rfl
  · go_enter Tryd.func17, Tryd.ntmps17
    go_wp2_with fail
    refine (HCK.out _ _ (by exact GA.out)).mono ?_
    rintro e w1 ⟨rfl, hb⟩
    have KA := Lib.hid (KA.out.to hb)
    have KC := Lib.hid (KC.out.to hb)
    have GA := Lib.hid (GA.out.to hb)
    have HBE : Hid (Below w.heap.size w w1) := HBE.out.trans ((hb).mono HBE.out.size)
    clear hb
    have HF := Lib.hid (fun (W : World) (u v : Value) (h1 : Nat32 W u a.x) (h2 : Nat32 W v a.y) => HFL.out W a.neg true u v h1 h2)
    rw [show flo (a.neg && true) a.x a.y = rnd 1 a by unfold rnd; rw [if_pos rfl, Bool.and_true]] at HF
    generalize rnd 1 a = rv at *
    generalize roundS 1 a = r at *
    clear HFL
    have hlt := KA.out.lt
    have hlt2 := KC.out.lt
    have ka0 := KA.out.cell 0
    have ka1 := KA.out.cell 1
    have ka2 := KA.out.cell 2
    simp only [List.getElem?_toArray, List.getElem?_cons_zero, List.getElem?_cons_succ] at ka0 ka1 ka2
    have GAD := Lib.hid (GA.out.to (w' := w1.drew) (Below.refl _ _).drew)
    have KCD := Lib.hid KC.out.drew
    have HBD : Hid (Below w.heap.size w w1.drew) := HBE.out.drew
    have HK : Hid (∀ W1 W' : World, Below W1.heap.size W1 W' → (W1.cell? ⟨w.heap.size, 0, none⟩ = some (.bool a.neg) ∧ W1.cell? ⟨w.heap.size, 1, none⟩ = some (.slice B1 m1 d1) ∧ W1.cell? ⟨w.heap.size, 2, none⟩ = some (.slice B2 m2 d2) ∧ w.heap.size < W1.heap.size) → (W'.cell? ⟨w.heap.size, 0, none⟩ = some (.bool a.neg) ∧ W'.cell? ⟨w.heap.size, 1, none⟩ = some (.slice B1 m1 d1) ∧ W'.cell? ⟨w.heap.size, 2, none⟩ = some (.slice B2 m2 d2) ∧ w.heap.size < W'.heap.size)) := fun W1 W' h1 ⟨a0, a1, a2, a3⟩ => ⟨(h1.cell (p := ⟨w.heap.size, 0, none⟩) a3).trans a0, (h1.cell (p := ⟨w.heap.size, 1, none⟩) a3).trans a1, (h1.cell (p := ⟨w.heap.size, 2, none⟩) a3).trans a2, Nat.lt_of_lt_of_le a3 h1.size⟩
    go_wp2_with fail
    go_region_held3 (fun w' => w'.cell? ⟨w.heap.size, 0, none⟩ = some (.bool a.neg) ∧ w'.cell? ⟨w.heap.size, 1, none⟩ = some (.slice B1 m1 d1) ∧ w'.cell? ⟨w.heap.size, 2, none⟩ = some (.slice B2 m2 d2) ∧ w.heap.size < w'.heap.size)
      (first | go_keep | (refine HK.out _ _ (by assumption) ?_; go_keep))
      (first
        | (go_at_call 46; ((with_reducible refine (HF.out _ _ _ (by exact (HX.out _ GAD.out).1) (by exact (HX.out _ GAD.out).2)).mono ?_)); rintro e y1 ⟨v1, rfl, hn1, hb1⟩)
        | (go_at_call 21; ((with_reducible refine (HWH.out _ _ (by exact hn1)).mono ?_)); rintro e y2 ⟨v2, rfl, hg, hb2⟩; have hblk := (KCD.out.to hb1).to hb2; obtain ⟨C1, q1, r1, C2, q2, r2, rfl, hq1, hq2⟩ := hg.form; clear hq1 hq2; have cc0 := hblk.cell 0; have cc1 := hblk.cell 1; have cc2 := hblk.cell 2; simp only [List.getElem?_toArray, List.getElem?_cons_zero, List.getElem?_cons_succ] at cc0 cc1 cc2; have fc0 := hblk.frozen 0; have fc1 := hblk.frozen 1; have fc2 := hblk.frozen 2))
    all_goals
      go_wp2_with fail
      refine bodyPost_ret (v := .tuple #[.agg #[.bool r.1.neg, .slice C1 q1 r1, .slice C2 q2 r2], .int .i64 r.2]) (by rw [results_cell_tmp rfl]; go_simp) rfl ?_
      exact ⟨_, rfl, hg.putM hblk _ _ _, put3_below ((HBD.out.trans (hb1.mono HBD.out.size)).trans (hb2.mono (Nat.le_trans HBD.out.size hb1.size))) (by omega) _ _ _⟩
  · go_enter Tryd.func17, Tryd.ntmps17
    go_wp2_with fail
    refine (HCK.out _ _ (by exact GA.out)).mono ?_
    rintro e w1 ⟨rfl, hb⟩
    have KA := Lib.hid (KA.out.to hb)
    have KC := Lib.hid (KC.out.to hb)
    have GA := Lib.hid (GA.out.to hb)
    have HBE : Hid (Below w.heap.size w w1) := HBE.out.trans ((hb).mono HBE.out.size)
    clear hb
    have HF := Lib.hid (fun (W : World) (u v : Value) (h1 : Nat32 W u a.x) (h2 : Nat32 W v a.y) => HFL.out W (!a.neg) true u v h1 h2)
    rw [show flo ((!a.neg) && true) a.x a.y = rnd 2 a by unfold rnd; rw [if_neg (by decide), if_pos rfl, Bool.and_true]] at HF
    generalize rnd 2 a = rv at *
    generalize roundS 2 a = r at *
    clear HFL
    have hlt := KA.out.lt
    have hlt2 := KC.out.lt
    have ka0 := KA.out.cell 0
    have ka1 := KA.out.cell 1
    have ka2 := KA.out.cell 2
    simp only [List.getElem?_toArray, List.getElem?_cons_zero, List.getElem?_cons_succ] at ka0 ka1 ka2
    have GAD := Lib.hid (GA.out.to (w' := w1.drew) (Below.refl _ _).drew)
    have KCD := Lib.hid KC.out.drew
    have HBD : Hid (Below w.heap.size w w1.drew) := HBE.out.drew
    have HK : Hid (∀ W1 W' : World, Below W1.heap.size W1 W' → (W1.cell? ⟨w.heap.size, 0, none⟩ = some (.bool a.neg) ∧ W1.cell? ⟨w.heap.size, 1, none⟩ = some (.slice B1 m1 d1) ∧ W1.cell? ⟨w.heap.size, 2, none⟩ = some (.slice B2 m2 d2) ∧ w.heap.size < W1.heap.size) → (W'.cell? ⟨w.heap.size, 0, none⟩ = some (.bool a.neg) ∧ W'.cell? ⟨w.heap.size, 1, none⟩ = some (.slice B1 m1 d1) ∧ W'.cell? ⟨w.heap.size, 2, none⟩ = some (.slice B2 m2 d2) ∧ w.heap.size < W'.heap.size)) := fun W1 W' h1 ⟨a0, a1, a2, a3⟩ => ⟨(h1.cell (p := ⟨w.heap.size, 0, none⟩) a3).trans a0, (h1.cell (p := ⟨w.heap.size, 1, none⟩) a3).trans a1, (h1.cell (p := ⟨w.heap.size, 2, none⟩) a3).trans a2, Nat.lt_of_lt_of_le a3 h1.size⟩
    go_wp2_with fail
    go_region_held3 (fun w' => w'.cell? ⟨w.heap.size, 0, none⟩ = some (.bool a.neg) ∧ w'.cell? ⟨w.heap.size, 1, none⟩ = some (.slice B1 m1 d1) ∧ w'.cell? ⟨w.heap.size, 2, none⟩ = some (.slice B2 m2 d2) ∧ w.heap.size < w'.heap.size)
      (first | go_keep | (refine HK.out _ _ (by assumption) ?_; go_keep))
      (first
        | (go_at_call 46; ((with_reducible refine (HF.out _ _ _ (by exact (HX.out _ GAD.out).1) (by exact (HX.out _ GAD.out).2)).mono ?_)); rintro e y1 ⟨v1, rfl, hn1, hb1⟩)
        | (go_at_call 21; ((with_reducible refine (HWH.out _ _ (by exact hn1)).mono ?_)); rintro e y2 ⟨v2, rfl, hg, hb2⟩; have hblk := (KCD.out.to hb1).to hb2; obtain ⟨C1, q1, r1, C2, q2, r2, rfl, hq1, hq2⟩ := hg.form; clear hq1 hq2; have cc0 := hblk.cell 0; have cc1 := hblk.cell 1; have cc2 := hblk.cell 2; simp only [List.getElem?_toArray, List.getElem?_cons_zero, List.getElem?_cons_succ] at cc0 cc1 cc2; have fc0 := hblk.frozen 0; have fc1 := hblk.frozen 1; have fc2 := hblk.frozen 2))
    all_goals
      go_wp2_with fail
      refine bodyPost_ret (v := .tuple #[.agg #[.bool r.1.neg, .slice C1 q1 r1, .slice C2 q2 r2], .int .i64 r.2]) (by rw [results_cell_tmp rfl]; go_simp) rfl ?_
      exact ⟨_, rfl, hg.putM hblk _ _ _, put3_below ((HBD.out.trans (hb1.mono HBD.out.size)).trans (hb2.mono (Nat.le_trans HBD.out.size hb1.size))) (by omega) _ _ _⟩
  · go_enter Tryd.func17, Tryd.ntmps17
    go_wp2_with fail
    refine (HCK.out _ _ (by exact GA.out)).mono ?_
    rintro e w1 ⟨rfl, hb⟩
    have KA := Lib.hid (KA.out.to hb)
    have KC := Lib.hid (KC.out.to hb)
    have GA := Lib.hid (GA.out.to hb)
    have HBE : Hid (Below w.heap.size w w1) := HBE.out.trans ((hb).mono HBE.out.size)
    clear hb
    have HF := Lib.hid (fun (W : World) (u v : Value) (h1 : Nat32 W u a.x) (h2 : Nat32 W v a.y) => HFL.out W a.neg false u v h1 h2)
    rw [show flo (a.neg && false) a.x a.y = rnd 3 a by unfold rnd; rw [if_neg (by decide), if_neg (by decide), if_pos rfl, Bool.and_false]] at HF
    generalize rnd 3 a = rv at *
    generalize roundS 3 a = r at *
    clear HFL
    have hlt := KA.out.lt
    have hlt2 := KC.out.lt
    have ka0 := KA.out.cell 0
    have ka1 := KA.out.cell 1
    have ka2 := KA.out.cell 2
    simp only [List.getElem?_toArray, List.getElem?_cons_zero, List.getElem?_cons_succ] at ka0 ka1 ka2
    have GAD := Lib.hid (GA.out.to (w' := w1.drew) (Below.refl _ _).drew)
    have KCD := Lib.hid KC.out.drew
    have HBD : Hid (Below w.heap.size w w1.drew) := HBE.out.drew
    have HK : Hid (∀ W1 W' : World, Below W1.heap.size W1 W' → (W1.cell? ⟨w.heap.size, 0, none⟩ = some (.bool a.neg) ∧ W1.cell? ⟨w.heap.size, 1, none⟩ = some (.slice B1 m1 d1) ∧ W1.cell? ⟨w.heap.size, 2, none⟩ = some (.slice B2 m2 d2) ∧ w.heap.size < W1.heap.size) → (W'.cell? ⟨w.heap.size, 0, none⟩ = some (.bool a.neg) ∧ W'.cell? ⟨w.heap.size, 1, none⟩ = some (.slice B1 m1 d1) ∧ W'.cell? ⟨w.heap.size, 2, none⟩ = some (.slice B2 m2 d2) ∧ w.heap.size < W'.heap.size)) := fun W1 W' h1 ⟨a0, a1, a2, a3⟩ => ⟨(h1.cell (p := ⟨w.heap.size, 0, none⟩) a3).trans a0, (h1.cell (p := ⟨w.heap.size, 1, none⟩) a3).trans a1, (h1.cell (p := ⟨w.heap.size, 2, none⟩) a3).trans a2, Nat.lt_of_lt_of_le a3 h1.size⟩
    go_wp2_with fail
    go_region_held3 (fun w' => w'.cell? ⟨w.heap.size, 0, none⟩ = some (.bool a.neg) ∧ w'.cell? ⟨w.heap.size, 1, none⟩ = some (.slice B1 m1 d1) ∧ w'.cell? ⟨w.heap.size, 2, none⟩ = some (.slice B2 m2 d2) ∧ w.heap.size < w'.heap.size)
      (first | go_keep | (refine HK.out _ _ (by assumption) ?_; go_keep))
      (first
        | (go_at_call 46; ((with_reducible refine (HF.out _ _ _ (by exact (HX.out _ GAD.out).1) (by exact (HX.out _ GAD.out).2)).mono ?_)); rintro e y1 ⟨v1, rfl, hn1, hb1⟩)
        | (go_at_call 21; ((with_reducible refine (HWH.out _ _ (by exact hn1)).mono ?_)); rintro e y2 ⟨v2, rfl, hg, hb2⟩; have hblk := (KCD.out.to hb1).to hb2; obtain ⟨C1, q1, r1, C2, q2, r2, rfl, hq1, hq2⟩ := hg.form; clear hq1 hq2; have cc0 := hblk.cell 0; have cc1 := hblk.cell 1; have cc2 := hblk.cell 2; simp only [List.getElem?_toArray, List.getElem?_cons_zero, List.getElem?_cons_succ] at cc0 cc1 cc2; have fc0 := hblk.frozen 0; have fc1 := hblk.frozen 1; have fc2 := hblk.frozen 2))
    all_goals
      go_wp2_with fail
      refine bodyPost_ret (v := .tuple #[.agg #[.bool r.1.neg, .slice C1 q1 r1, .slice C2 q2 r2], .int .i64 r.2]) (by rw [results_cell_tmp rfl]; go_simp) rfl ?_
      exact ⟨_, rfl, hg.putM hblk _ _ _, put3_below ((HBD.out.trans (hb1.mono HBD.out.size)).trans (hb2.mono (Nat.le_trans HBD.out.size hb1.size))) (by omega) _ _ _⟩
end Go.Proofs.YtdfcpkjphdepcaaDoor
namespace Go.Proofs.YtdfcpkjphdepcaaDoor
open Go.RowKit NumB
set_option linter.unusedVariables false
set_option linter.unusedSimpArgs false

theorem root_small {o x : Nat} (h : o * o ≤ x) : o ≤ x := by
  rcases Nat.eq_zero_or_pos o with h0 | h0
  · omega
  · exact Nat.le_trans (Nat.le_mul_of_pos_left _ h0) h

set_option maxRecDepth 100000 in
set_option maxHeartbeats 3200000 in
theorem rroot_any (x : Nat) (v : Value) (w : World) (h : Nat16 w v x) (hx : (digs W16 x).length ≤ 256) :
    Calls Tryd.prog 41 #[v] w (RPost w (isqrt x)) := by
  have HA := Lib.hid h
  obtain ⟨A, n, c, rfl, hn⟩ := h.form
  have HBL : blen x ≤ 4096 := blen_digs hx
  have HLE : Hid (∀ (W : World), Nat16 W (.slice A n c) x → Calls Tryd.prog 64 #[.slice A n c] W fun e w' => e = .returned (.int .i64 (blen x : Int)) ∧ W = w') := fun W hW => rlen_any x _ W hW (by omega)
  have HST := Lib.hid (bits_start x)
  have HXL := Lib.hid hx
  have HIS : Hid (∀ o, o * o ≤ x → x < (o + 1) * (o + 1) → isqrt x = o) := fun o h1 h2 => isqrt_eq ⟨h1, h2⟩
  generalize isqrt x = r at *
  generalize blen x = l at *
  clear h hn hx
  go_enter Tryd.func41, Tryd.ntmps41
  go_wp2_with fail
  refine (HLE.out _ (by exact HA.out)).mono ?_
  rintro e w1 ⟨rfl, rfl⟩
  go_wp2_with fail
  go_loopg [3, 4, 5] (l / 2 + 2 + 1) (fun gk s3 s4 s5 wr => ∃ j o : Nat, gk = j + 1 ∧ j ≤ l / 2 + 2 ∧ s4 = .int .i64 ((j : Int) - 1) ∧ Hid (Nat16 wr s3 o) ∧ Hid (o * o ≤ x ∧ x < (o + 2 ^ j) * (o + 2 ^ j)) ∧ Hid (Below w.heap.size w wr))
  case atStart => exact ⟨l / 2 + 2, 0, rfl, Nat.le_refl _, congrArg (Value.int .i64) (by omega), nat16_zero _, ⟨by omega, HST.out⟩, Below.refl _ _⟩
  case round =>
    obtain ⟨j, o, rfl, hj, rfl, HO, HI, HB⟩ := hrel
    obtain ⟨A3, n3, c3, hu3, hn3⟩ := HO.out.form
    subst hu3
    clear hn3
    rcases Nat.eq_zero_or_pos j with h0 | h0
    · subst h0
      have HE : Hid (r = o) := HIS.out o HI.out.1 HI.out.2
      go_wp2
      go_ret
      rw [HE.out]
      exact ⟨_, rfl, HO.out, HB.out⟩
    · obtain ⟨i, rfl⟩ : ∃ i, j = i + 1 := ⟨j - 1, by omega⟩
      have hib : i ≤ 2050 := by omega
      have HSH : Hid (∀ (W : World) (v : Value), Nat16 W v 1 → Calls Tryd.prog 65 #[v, .int .i64 (i : Int)] W (RPost W (2 ^ i))) := fun W v hv => by
        have := rshl_any 1 i v W hv (by rw [digs_one16]; decide) (by omega)
        rw [Nat.one_mul] at this
        exact this
      have HPL : Hid ((digs W16 (2 ^ i)).length ≤ 256) := Nat.le_trans (pow_lenR (m := 200) (by omega)) (by omega)
      have HOL : Hid ((digs W16 o).length ≤ 256) := Nat.le_trans (digs_len_mono W16_gt (root_small HI.out.1)) HXL.out
      have HTL : Hid ((digs W16 (o + 2 ^ i)).length ≤ 257) := digs16_add HOL.out HPL.out
      have HAD : Hid (∀ (W : World) (u v : Value), Nat16 W u o → Nat16 W v (2 ^ i) → Calls Tryd.prog 44 #[u, v] W (RPost W (o + 2 ^ i))) := fun W u v h1 h2 => radd_any _ _ u v W h1 h2 (by have := HOL.out; omega) (by have := HPL.out; omega)
      have HMU : Hid (∀ (W : World) (u v : Value), Nat16 W u (o + 2 ^ i) → Nat16 W v (o + 2 ^ i) → Calls Tryd.prog 66 #[u, v] W (RPost W ((o + 2 ^ i) * (o + 2 ^ i)))) := fun W u v h1 h2 => rmul_any _ _ u v W h1 h2 (by have := HTL.out; omega) (by have := HTL.out; omega)
      have HML : Hid ((digs W16 ((o + 2 ^ i) * (o + 2 ^ i))).length ≤ 514) := Nat.le_trans (digs16_len_mul _ _) (by have := HTL.out; omega)
      have HCM : Hid (∀ (W : World) (u v : Value), Nat16 W u ((o + 2 ^ i) * (o + 2 ^ i)) → Nat16 W v x → Calls Tryd.prog 49 #[u, v] W fun e w' => e = .returned (.int .i64 (cmpI ((o + 2 ^ i) * (o + 2 ^ i)) x)) ∧ Below W.heap.size W w') := fun W u v h1 h2 => (rcmp_any _ _ u v W h1 h2 (by have := HML.out; omega) (by have := HXL.out; omega)).mono fun e w' ⟨h1, h2⟩ => ⟨h1, h2 ▸ Below.refl _ _⟩
      have HYE : Hid (x < (o + 2 ^ i + 2 ^ i) * (o + 2 ^ i + 2 ^ i)) := bits_yes HI.out.2
      have hcp : cmpI ((o + 2 ^ i) * (o + 2 ^ i)) x ≤ 0 ↔ (o + 2 ^ i) * (o + 2 ^ i) ≤ x := by unfold cmpI; split <;> (try split) <;> omega
      generalize hp : 2 ^ i = p at *
      generalize ht : o + p = t at *
      generalize htt : t * t = tt at *
      have HEQ := Lib.hid (And.intro hp (And.intro ht htt))
      clear hp ht htt
      generalize cmpI tt x = z at *
      have hcast : (((i + 1 : Nat) : Int) - 1) = (i : Int) := by omega
      go_wp2_with fail
      refine (HSH.out _ _ (by exact one16' _ _ rfl)).mono ?_
      rintro e w2 ⟨v2, rfl, hn2, hb2⟩
      have HN2 := Lib.hid hn2
      have hb2' : Below wr.heap.size wr w2 := (below_one wr _).trans (hb2.mono (below_one wr _).size)
      have HO2 := Lib.hid (HO.out.to hb2')
      have HB2 : Hid (Below w.heap.size w w2) := HB.out.trans (hb2'.mono HB.out.size)
      clear hn2 hb2 hb2'
      go_wp2_with fail
      refine (HAD.out _ _ _ (by exact HO2.out) (by exact HN2.out)).mono ?_
      rintro e w3 ⟨v3, rfl, hn3, hb3⟩
      have HN3 := Lib.hid hn3
      have HO3 := Lib.hid (HO2.out.to hb3)
      have HB3 : Hid (Below w.heap.size w w3) := HB2.out.trans (hb3.mono HB2.out.size)
      clear hn3 hb3 HB2 HO2 HN2
      go_wp2_with fail
      refine (HMU.out _ _ _ (by exact HN3.out) (by exact HN3.out)).mono ?_
      rintro e w4 ⟨v4, rfl, hn4, hb4⟩
      have HN4 := Lib.hid hn4
      have HT4 := Lib.hid (HN3.out.to hb4)
      have HO4 := Lib.hid (HO3.out.to hb4)
      have HB4 : Hid (Below w.heap.size w w4) := HB3.out.trans (hb4.mono HB3.out.size)
      clear hn4 hb4 HB3 HO3 HN3
      go_wp2_with fail
      refine (HCM.out _ _ _ (by exact HN4.out) (by exact HA.out.to HB4.out)).mono ?_
      rintro e w5 ⟨rfl, hb5⟩
      have HT5 := Lib.hid (HT4.out.to hb5)
      have HO5 := Lib.hid (HO4.out.to hb5)
      have HB5 : Hid (Below w.heap.size w w5) := HB4.out.trans (hb5.mono HB4.out.size)
      clear hb5 HB4 HO4 HT4 HN4
      by_cases hz : z ≤ 0
      · have HLE2 := Lib.hid (hcp.1 hz)
        clear hcp
        go_wp2
        go_roundg (i + 1)
        case measure => omega
        case rel => exact ⟨i, t, rfl, by omega, by go_num, HT5.out, ⟨by rw [HEQ.out.2.2]; exact HLE2.out, by rw [HEQ.out.1]; exact HYE.out⟩, HB5.out⟩
      · have HLE2 : Hid (¬ tt ≤ x) := fun h => hz (hcp.2 h)
        clear hcp
        go_wp2
        go_roundg (i + 1)
        case measure => omega
        case rel => exact ⟨i, o, rfl, by omega, by go_num, HO5.out, ⟨HI.out.1, by rw [HEQ.out.1, HEQ.out.2.1, HEQ.out.2.2]; exact Nat.lt_of_not_le HLE2.out⟩, HB5.out⟩
end Go.Proofs.YtdfcpkjphdepcaaDoor

/- fetterlockref1.Product. Conditions: at most 10000 digits; the denominators are not 0. number.Gcd, at any two numbers. -/
import Derived.Deep.RegionHeld3
import Derived.Test.YtdhgbnnopekfjaaGreatDoorJo25
import Derived.Test.YtdhgbnnopekfjaaGreatDoorJo28
set_option linter.unusedVariables false
set_option linter.unusedSimpArgs false
namespace Go.Proofs.YtdhgbnnopekfjaaGreatDoor
open Go.RowKit NumB
set_option linter.unusedVariables false
set_option linter.unusedSimpArgs false

theorem below_3 (w : World) (o1 o2 o3 : Obj) : Below w.heap.size w (((w.alloc o1).alloc o2).alloc o3) := (below_two w o1 o2).alloc (by simp; omega) o3
theorem blk_3 (w : World) (t u v : TypeId) (a b c : Array Value) : Blk (((w.alloc (.cells a t)).alloc (.cells b u)).alloc (.cells c v)) w.heap.size t a ∧ Blk (((w.alloc (.cells a t)).alloc (.cells b u)).alloc (.cells c v)) (w.heap.size + 1) u b ∧ Blk (((w.alloc (.cells a t)).alloc (.cells b u)).alloc (.cells c v)) (w.heap.size + 1 + 1) v c := by
  obtain ⟨h1, h2⟩ := blk2 w t u a b
  refine ⟨h1.alloc _, h2.alloc _, ?_⟩
  have := Blk.new ((w.alloc (.cells a t)).alloc (.cells b u)) v c
  simpa using this

set_option maxRecDepth 100000 in
set_option maxHeartbeats 6400000 in
theorem rproduct_any (na nb : Bool) (xa ya xb yb : Nat) (va vb : Value) (w : World) (ha : RV w va na xa ya) (hb : RV w vb nb xb yb) (h0 : 0 < ya) (h00 : 0 < yb)
    (l1 : (digs W16 xa).length ≤ 10000) (l2 : (digs W16 ya).length ≤ 10000) (l3 : (digs W16 xb).length ≤ 10000) (l4 : (digs W16 yb).length ≤ 10000) :
    Calls Tryz.prog 36 #[va, vb] w (RVPost w ((na != nb) && decide (0 < xa * xb)) (xa * xb / Nat.gcd (xa * xb) (ya * yb)) (ya * yb / Nat.gcd (xa * xb) (ya * yb))) := by
  obtain ⟨A1, A2, rfl, h1, h2⟩ := ha
  obtain ⟨A3, A4, rfl, h3, h4⟩ := hb
  obtain ⟨B1, n1, c1, rfl, e1⟩ := h1.form
  obtain ⟨B2, n2, c2, rfl, e2⟩ := h2.form
  obtain ⟨B3, n3, c3, rfl, e3⟩ := h3.form
  obtain ⟨B4, n4, c4, rfl, e4⟩ := h4.form
  have HL : Hid (((digs W16 xa).length ≤ 50000 ∧ (digs W16 ya).length ≤ 50000) ∧ ((digs W16 xb).length ≤ 50000 ∧ (digs W16 yb).length ≤ 50000)) := ⟨⟨by omega, by omega⟩, by omega, by omega⟩
  have HM : Hid ((digs W16 (xa * xb)).length ≤ 50000 ∧ (digs W16 (ya * yb)).length ≤ 50000) := ⟨Nat.le_trans (digs16_len_mul _ _) (by omega), Nat.le_trans (digs16_len_mul _ _) (by omega)⟩
  have HD0 : Hid (0 < ya * yb) := Nat.mul_pos h0 h00
  have HN : ∀ o1 o2 o3 : Obj, Hid (Nat16 (((w.alloc o1).alloc o2).alloc o3).drew (.slice B1 n1 c1) xa ∧ Nat16 (((w.alloc o1).alloc o2).alloc o3).drew (.slice B2 n2 c2) ya ∧ Nat16 (((w.alloc o1).alloc o2).alloc o3).drew (.slice B3 n3 c3) xb ∧ Nat16 (((w.alloc o1).alloc o2).alloc o3).drew (.slice B4 n4 c4) yb) :=
    fun o1 o2 o3 => ⟨h1.to (below_3 w o1 o2 o3).drew, h2.to (below_3 w o1 o2 o3).drew, h3.to (below_3 w o1 o2 o3).drew, h4.to (below_3 w o1 o2 o3).drew⟩
  have HB0 : Hid (∀ o1 o2 o3 : Obj, Below w.heap.size w (((w.alloc o1).alloc o2).alloc o3).drew) := fun o1 o2 o3 => (below_3 w o1 o2 o3).drew
  clear e1 e2 e3 e4 h1 h2 h3 h4 l1 l2 l3 l4 h0 h00
  have HBK := Lib.hid (blk_3 w 42 42 42 #[.bool na, .slice B1 n1 c1, .slice B2 n2 c2] #[.bool nb, .slice B3 n3 c3, .slice B4 n4 c4] #[.bool false, .slice none 0 0, .slice none 0 0])
  have hk : ∀ W1 W' : World, Below W1.heap.size W1 W' → (W1.cell? ⟨w.heap.size, 0, none⟩ = some (.bool na) ∧ W1.cell? ⟨w.heap.size, 1, none⟩ = some (.slice B1 n1 c1) ∧ W1.cell? ⟨w.heap.size, 2, none⟩ = some (.slice B2 n2 c2) ∧ W1.cell? ⟨w.heap.size + 1, 0, none⟩ = some (.bool nb) ∧ W1.cell? ⟨w.heap.size + 1, 1, none⟩ = some (.slice B3 n3 c3) ∧ W1.cell? ⟨w.heap.size + 1, 2, none⟩ = some (.slice B4 n4 c4) ∧ w.heap.size + 2 < W1.heap.size) → (W'.cell? ⟨w.heap.size, 0, none⟩ = some (.bool na) ∧ W'.cell? ⟨w.heap.size, 1, none⟩ = some (.slice B1 n1 c1) ∧ W'.cell? ⟨w.heap.size, 2, none⟩ = some (.slice B2 n2 c2) ∧ W'.cell? ⟨w.heap.size + 1, 0, none⟩ = some (.bool nb) ∧ W'.cell? ⟨w.heap.size + 1, 1, none⟩ = some (.slice B3 n3 c3) ∧ W'.cell? ⟨w.heap.size + 1, 2, none⟩ = some (.slice B4 n4 c4) ∧ w.heap.size + 2 < W'.heap.size) := fun W1 W' h1 ⟨a0, a1, a2, a3, a4, a5, a6⟩ => ⟨(h1.cell (p := ⟨w.heap.size, 0, none⟩) (by show w.heap.size < _; omega)).trans a0, (h1.cell (p := ⟨w.heap.size, 1, none⟩) (by show w.heap.size < _; omega)).trans a1, (h1.cell (p := ⟨w.heap.size, 2, none⟩) (by show w.heap.size < _; omega)).trans a2, (h1.cell (p := ⟨w.heap.size + 1, 0, none⟩) (by show w.heap.size + 1 < _; omega)).trans a3, (h1.cell (p := ⟨w.heap.size + 1, 1, none⟩) (by show w.heap.size + 1 < _; omega)).trans a4, (h1.cell (p := ⟨w.heap.size + 1, 2, none⟩) (by show w.heap.size + 1 < _; omega)).trans a5, Nat.lt_of_lt_of_le a6 h1.size⟩
  have HK := Lib.hid hk
  clear hk
  have HRED : Hid (∀ (W : World) (v u : Value), Nat16 W v (xa * xb) → Nat16 W u (ya * yb) → Calls Tryz.prog 72 #[.bool (na != nb), v, u] W (RVPost W ((na != nb) && decide (0 < xa * xb)) (xa * xb / Nat.gcd (xa * xb) (ya * yb)) (ya * yb / Nat.gcd (xa * xb) (ya * yb)))) := fun W v u h1 h2 => rreduce_any (na != nb) _ _ v u W h1 h2 HD0.out HM.out.1 HM.out.2
  generalize ((na != nb) && decide (0 < xa * xb)) = sg at *
  generalize (xa * xb) / Nat.gcd (xa * xb) (ya * yb) = x' at *
  generalize (ya * yb) / Nat.gcd (xa * xb) (ya * yb) = y' at *
  generalize hng : (na != nb) = ng at *
  have hng2 : (!(na == nb)) = ng := hng
  clear hng
  have hne1 : (w.heap.size = w.heap.size + 1 + 1) = False := by simp; omega
  have hne2 : (w.heap.size + 1 + 1 = w.heap.size) = False := by simp; omega
  go_enter Tryz.func36, Tryz.ntmps36
  go_wp2_with fail
  go_region_held3 (fun w' => w'.cell? ⟨w.heap.size, 0, none⟩ = some (.bool na) ∧ w'.cell? ⟨w.heap.size, 1, none⟩ = some (.slice B1 n1 c1) ∧ w'.cell? ⟨w.heap.size, 2, none⟩ = some (.slice B2 n2 c2) ∧ w'.cell? ⟨w.heap.size + 1, 0, none⟩ = some (.bool nb) ∧ w'.cell? ⟨w.heap.size + 1, 1, none⟩ = some (.slice B3 n3 c3) ∧ w'.cell? ⟨w.heap.size + 1, 2, none⟩ = some (.slice B4 n4 c4) ∧ w.heap.size + 2 < w'.heap.size)
    (first | go_keep | (refine HK.out _ _ (by assumption) ?_; go_keep))
    (first
      | (go_at_call 71; ((with_reducible refine (rmul_any xa xb (.slice B1 n1 c1) (.slice B3 n3 c3) _ (by exact (HN _ _ _).out.1) (by exact (HN _ _ _).out.2.2.1) HL.out.1.1 HL.out.2.1).mono ?_)); rintro e w1 ⟨v1, rfl, hn1, hb1⟩)
      | (go_at_call 71; ((with_reducible refine (rmul_any ya yb (.slice B2 n2 c2) (.slice B4 n4 c4) _ (by exact ((HN _ _ _).out.2.1).to hb1) (by exact ((HN _ _ _).out.2.2.2).to hb1) HL.out.1.2 HL.out.2.2).mono ?_)); rintro e w2 ⟨v2, rfl, hn2, hb2⟩)
      | (go_at_call 72; ((with_reducible refine (HRED.out _ _ _ (by exact hn1.to hb2) (by exact hn2)).mono ?_)); rintro e w3 ⟨v3, rfl, hn3, hb3⟩; have hblk := ((HBK.out.2.2.drew.to hb1).to hb2).to hb3; obtain ⟨C1, q1, r1, C2, q2, r2, rfl, hq1, hq2⟩ := hn3.form; clear hq1 hq2; have hc0 := hblk.cell 0; have hc1 := hblk.cell 1; have hc2 := hblk.cell 2; have hf0 := hblk.frozen 0; have hf1 := hblk.frozen 1; have hf2 := hblk.frozen 2; simp only [List.getElem?_toArray, List.getElem?_cons_zero, List.getElem?_cons_succ] at hc0 hc1 hc2))
  all_goals
    go_wp2_with fail
    refine bodyPost_ret (v := .agg #[.bool sg, .slice C1 q1 r1, .slice C2 q2 r2]) (by simp [results, Tryz.results36, go_sem, hc0, hc1, hc2]) rfl ⟨_, rfl, ?_, ?_⟩
    · exact RV.put3 (w := w3) hn3 hblk _ _ _
    · exact put3_below ((((HB0.out _ _ _).trans (hb1.mono (HB0.out _ _ _).size)).trans (hb2.mono (Nat.le_trans (HB0.out _ _ _).size hb1.size))).trans (hb3.mono (Nat.le_trans (Nat.le_trans (HB0.out _ _ _).size hb1.size) hb2.size))) (by omega) _ _ _
end Go.Proofs.YtdhgbnnopekfjaaGreatDoor
namespace Go.Proofs.YtdhgbnnopekfjaaGreatDoor
open Go.RowKit NumB
set_option linter.unusedVariables false
set_option linter.unusedSimpArgs false

/-- What Gcd answers. -/
def gcdS (a b : LN) : LN × Int := if intErr2 a b = 0 then fracS 0 false (Nat.gcd a.x b.x) 1 else (zeroL, intErr2 a b)
theorem intErr2_zero {a b : LN} : intErr2 a b = 0 ↔ (a.err = 0 ∧ b.err = 0) ∧ a.y = 1 ∧ b.y = 1 := by
  unfold intErr2
  by_cases h : err2 a.err b.err = 0
  · rw [if_pos h]
    have := err2_zero.1 h
    by_cases h2 : a.y = 1 ∧ b.y = 1
    · simp [h2, this]
    · rw [if_neg h2]; simp [h2]
  · rw [if_neg h]
    have : ¬ (a.err = 0 ∧ b.err = 0) := fun hh => h (err2_zero.2 hh)
    simp [h, this]
theorem blk_4 (w : World) (t : TypeId) (o1 o2 o3 : Obj) (c : Array Value) : Blk ((((w.alloc o1).alloc o2).alloc o3).alloc (.cells c t)) (w.heap.size + 1 + 1 + 1) t c := by
  have := Blk.new (((w.alloc o1).alloc o2).alloc o3) t c
  simpa using this
theorem below_4 (w : World) (o1 o2 o3 o4 : Obj) : Below w.heap.size w ((((w.alloc o1).alloc o2).alloc o3).alloc o4) := (below_3 w o1 o2 o3).alloc (by simp; omega) o4

set_option maxRecDepth 100000 in
set_option maxHeartbeats 6400000 in
theorem gcdNum_S (a b : LN) (va vb : Value) (w : World) (ga : GV w va a) (gb : GV w vb b) : Calls Tryz.prog 14 #[va, vb] w (SPost w (gcdS a b)) := by
  have GA := Lib.hid ga
  have GB := Lib.hid gb
  have HOK := Lib.hid (And.intro ga.ok gb.ok)
  obtain ⟨B1, m1, d1, B2, m2, d2, rfl, hq1, hq2⟩ := ga.form
  clear hq1 hq2
  obtain ⟨B3, m3, d3, B4, m4, d4, rfl, hq1, hq2⟩ := gb.form
  clear hq1 hq2 ga gb
  have HBK := Lib.hid (blk_3 w 24 24 24 #[.bool a.neg, .slice B1 m1 d1, .slice B2 m2 d2] #[.bool b.neg, .slice B3 m3 d3, .slice B4 m4 d4] #[.bool false, .slice none 0 0, .slice none 0 0])
  have HI : Hid (∀ (W : World) (g cap : Nat) (t : TypeId), Blk W g t #[.bool a.neg, .slice B1 m1 d1, .slice B2 m2 d2, .bool b.neg, .slice B3 m3 d3, .slice B4 m4 d4] → GV W (.agg #[.bool a.neg, .slice B1 m1 d1, .slice B2 m2 d2]) a → GV W (.agg #[.bool b.neg, .slice B3 m3 d3, .slice B4 m4 d4]) b → Calls Tryz.prog 27 #[.slice (some ⟨g, 0, none⟩) 2 cap] W fun e w' => e = .returned (.int .i64 (intErr2 a b)) ∧ Below W.heap.size W w') := fun W g cap t h1 h2 h3 => integers_two a b g cap _ _ _ _ W t h1 h2 h3
  have hbd := intErr2_bd a b
  by_cases e0 : intErr2 a b = 0
  · have HR : Hid (gcdS a b = fracS 0 false (Nat.gcd a.x b.x) 1) := by unfold Hid gcdS; rw [if_pos e0]
    rw [e0] at HI
    obtain ⟨⟨ea, eb⟩, _⟩ := intErr2_zero.1 e0
    obtain ⟨p1, p2, p3, p4, _⟩ := LN.good HOK.out.1 ea
    obtain ⟨q1, q2, q3, q4, _⟩ := LN.good HOK.out.2 eb
    have HX : Hid (∀ W, GV W (.agg #[.bool a.neg, .slice B1 m1 d1, .slice B2 m2 d2]) a → Nat32 W (.slice B1 m1 d1) a.x) := fun W h => by unfold Nat32; rw [p1]; exact h.parts.2.1
    have HY : Hid (∀ W, GV W (.agg #[.bool b.neg, .slice B3 m3 d3, .slice B4 m4 d4]) b → Nat32 W (.slice B3 m3 d3) b.x) := fun W h => by unfold Nat32; rw [q1]; exact h.parts.2.1
    have HL : Hid ((digs W32 a.x).length ≤ 128 ∧ (digs W32 b.x).length ≤ 128) := ⟨by rw [p1]; exact p3, by rw [q1]; exact q3⟩
    have HGL : Hid ((digs W32 (Nat.gcd a.x b.x)).length ≤ 128) := by
      rcases Nat.eq_zero_or_pos b.x with h | h
      · unfold Hid; rw [h, Nat.gcd_zero_right]; exact HL.out.1
      · exact Nat.le_trans (digs_len_mono W32_gt (Nat.gcd_le_right _ h)) HL.out.2
    have HW : Hid (∀ (W : World) (v : Value), Nat32 W v (Nat.gcd a.x b.x) → Calls Tryz.prog 31 #[.bool false, v] W (SPost W (gcdS a b))) := fun W v h => by
      rw [HR.out]
      exact whole_S false _ v W h (by have := HGL.out; omega)
    generalize gcdS a b = r at *
    clear e0 ea eb p1 p2 p3 p4 q1 q2 q3 q4 hbd HR
    go_enter Tryz.func14, Tryz.ntmps14
    go_wp2_with fail
    refine (HI.out _ _ _ _ (by exact blk_4 w _ _ _ _ _) (by exact GA.out.to (below_4 w _ _ _ _)) (by exact GB.out.to (below_4 w _ _ _ _))).mono ?_
    rintro e w1 ⟨rfl, hb⟩
    have KA := Lib.hid ((HBK.out.1.alloc _).to hb)
    have KB := Lib.hid ((HBK.out.2.1.alloc _).to hb)
    have KC := Lib.hid ((HBK.out.2.2.alloc _).to hb)
    have HBE : Hid (Below w.heap.size w w1) := (below_4 w _ _ _ _).trans (hb.mono (below_4 w _ _ _ _).size)
    have GA := Lib.hid (GA.out.to HBE.out)
    have GB := Lib.hid (GB.out.to HBE.out)
    clear hb HI HBK
    have ca1 := KA.out.cell 1
    have cb1 := KB.out.cell 1
    simp only [List.getElem?_toArray, List.getElem?_cons_zero, List.getElem?_cons_succ] at ca1 cb1
    go_wp2_with fail
    refine (gcd_any a.x b.x _ _ _ (by exact HX.out _ GA.out) (by exact HY.out _ GB.out) (by have := HL.out; omega) (by have := HL.out; omega)).mono ?_
    rintro e w2 ⟨v2, rfl, hn2, hb⟩
    have N2 := Lib.hid hn2
    have KC := Lib.hid (KC.out.to hb)
    have HBE : Hid (Below w.heap.size w w2) := HBE.out.trans (hb.mono HBE.out.size)
    clear hb hn2 ca1 cb1
    go_wp2_with fail
    refine (HW.out _ _ (by exact N2.out)).mono ?_
    rintro e w3 ⟨v3, rfl, hg, hb⟩
    have KC := Lib.hid (KC.out.to hb)
    have HBE : Hid (Below w.heap.size w w3) := HBE.out.trans (hb.mono HBE.out.size)
    have HG := Lib.hid hg
    obtain ⟨C1, q1, r1, C2, q2, r2, rfl, hq1, hq2⟩ := hg.form
    have cc0 := KC.out.cell 0
    have cc1 := KC.out.cell 1
    have cc2 := KC.out.cell 2
    simp only [List.getElem?_toArray, List.getElem?_cons_zero, List.getElem?_cons_succ] at cc0 cc1 cc2
    have fc0 := KC.out.frozen 0
    have fc1 := KC.out.frozen 1
    have fc2 := KC.out.frozen 2
    clear hb hg hq1 hq2
    go_wp2_with fail
    refine bodyPost_ret (v := .tuple #[.agg #[.bool r.1.neg, .slice C1 q1 r1, .slice C2 q2 r2], .int .i64 r.2]) (by rw [results_cell_tmp rfl]; go_simp) rfl ?_
    exact ⟨_, rfl, HG.out.put3 KC.out _ _ _, put3_below HBE.out (by omega) _ _ _⟩
  · have b0 : (intErr2 a b != 0) = true := by rw [bne_iff_ne]; exact e0
    have HR : Hid (gcdS a b = (zeroL, intErr2 a b)) := by unfold Hid gcdS; rw [if_neg e0]
    generalize gcdS a b = r at *
    generalize intErr2 a b = z at *
    clear e0
    go_enter Tryz.func14, Tryz.ntmps14
    go_wp2_with fail
    refine (HI.out _ _ _ _ (by exact blk_4 w _ _ _ _ _) (by exact GA.out.to (below_4 w _ _ _ _)) (by exact GB.out.to (below_4 w _ _ _ _))).mono ?_
    rintro e w1 ⟨rfl, hb⟩
    have KC := Lib.hid ((HBK.out.2.2.alloc _).to hb)
    have HBE : Hid (Below w.heap.size w w1) := (below_4 w _ _ _ _).trans (hb.mono (below_4 w _ _ _ _).size)
    clear hb HI HBK
    have cc0 := KC.out.cell 0
    have cc1 := KC.out.cell 1
    have cc2 := KC.out.cell 2
    simp only [List.getElem?_toArray, List.getElem?_cons_zero, List.getElem?_cons_succ] at cc0 cc1 cc2
    have fc0 := KC.out.frozen 0
    have fc1 := KC.out.frozen 1
    have fc2 := KC.out.frozen 2
    go_wp2_with fail
    refine bodyPost_ret (v := .tuple #[zeroNum, .int .i64 z]) (by rw [results_cell_tmp rfl]; go_simp; rfl) rfl ?_
    rw [HR.out]
    exact ⟨_, rfl, GV.zero _, put3_below HBE.out (by omega) _ _ _⟩
end Go.Proofs.YtdhgbnnopekfjaaGreatDoor

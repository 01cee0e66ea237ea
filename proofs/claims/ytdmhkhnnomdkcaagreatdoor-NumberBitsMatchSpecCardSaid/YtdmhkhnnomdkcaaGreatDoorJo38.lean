/-  -/
import Derived.Test.YtdmhkhnnomdkcaaGreatDoorJo32
set_option linter.unusedVariables false
set_option linter.unusedSimpArgs false
/- fetterlockref1.Two, at + and *. -/
namespace Go.Proofs.YtdmhkhnnomdkcaaGreatDoor
open Go.RowKit NumB
set_option linter.unusedVariables false
set_option linter.unusedSimpArgs false

theorem lenM16 {x y n : Nat} (hx : (digs W16 x).length ≤ n + 1) (hy : (digs W16 y).length ≤ 1000) (h : n ≤ 1000 := by omega) : (digs W16 (x / Nat.gcd x y)).length ≤ 100000 ∧ (digs W16 (y / Nat.gcd x y)).length ≤ 100000 :=
  ⟨Nat.le_trans (digs_len_mono W16_gt (Nat.div_le_self _ _)) (by omega), Nat.le_trans (digs_len_mono W16_gt (Nat.div_le_self _ _)) (by omega)⟩
/-- What Two answers at + and *. -/
def rtwoAS (k : Int) (a b : LN) : LN × Int := if err2 a.err b.err = 0 then (if k = 43 then fracS 0 (sumN a.neg (a.x * b.y) b.neg (b.x * a.y)).1 ((sumN a.neg (a.x * b.y) b.neg (b.x * a.y)).2) (a.y * b.y) else fracS 0 (a.neg != b.neg) (a.x * b.x) (a.y * b.y)) else (zeroL, err2 a.err b.err)

set_option maxRecDepth 1000000 in
set_option maxHeartbeats 25600000 in
theorem rtwoA (k : Int) (hk : k = 43 ∨ k = 42) (a b : LN) (va vb : Value) (w : World) (ga : GV w va a) (gb : GV w vb b) : Calls Tryz.prog 5 #[.int .u8 k, va, vb] w (SPost w (rtwoAS k a b)) := by
  have GA := Lib.hid ga
  have GB := Lib.hid gb
  have HOK := Lib.hid (And.intro ga.ok gb.ok)
  obtain ⟨B1, m1, d1, B2, m2, d2, rfl, hq1, hq2⟩ := ga.form
  clear hq1 hq2
  obtain ⟨B3, m3, d3, B4, m4, d4, rfl, hq1, hq2⟩ := gb.form
  clear hq1 hq2 ga gb
  have HBK := Lib.hid (blk_3 w 24 24 24 #[.bool a.neg, .slice B1 m1 d1, .slice B2 m2 d2] #[.bool b.neg, .slice B3 m3 d3, .slice B4 m4 d4] numZ)
  have HFA := Lib.hid (fun (W : World) (u : Value) (h : GV W u a) => fault_S a u W h)
  have HFB := Lib.hid (fun (W : World) (u : Value) (h : GV W u b) => fault_S b u W h)
  have hba : 0 ≤ a.err ∧ a.err ≤ 3 := checkL_bd _ _ _
  have hbb : 0 ≤ b.err ∧ b.err ≤ 3 := checkL_bd _ _ _
  by_cases e0 : a.err = 0
  rotate_left
  · have b0 : (a.err != 0) = true := by rw [bne_iff_ne]; exact e0
    have HRE : Hid (rtwoAS k a b = (zeroL, a.err)) := by unfold Hid rtwoAS err2; rw [if_neg e0, if_neg e0]
    generalize rtwoAS k a b = r at *
    generalize a.err = z at *
    clear e0 hk
    unfold numZ at HBK
    go_enter Tryz.func5, Tryz.ntmps5
    go_wp2_with fail
    refine (HFA.out _ _ (by exact GA.out.to (below_3 w _ _ _))).mono ?_
    rintro e w1 ⟨rfl, hb⟩
    have KC := Lib.hid (HBK.out.2.2.to hb)
    have HBE : Hid (Below w.heap.size w w1) := (below_3 w _ _ _).trans (hb.mono (below_3 w _ _ _).size)
    clear hb
    have cc0 := KC.out.cell 0
    have cc1 := KC.out.cell 1
    have cc2 := KC.out.cell 2
    simp only [List.getElem?_toArray, List.getElem?_cons_zero, List.getElem?_cons_succ] at cc0 cc1 cc2
    have fc0 := KC.out.frozen 0
    have fc1 := KC.out.frozen 1
    have fc2 := KC.out.frozen 2
    go_wp2_with fail
    refine bodyPost_ret (v := .tuple #[zeroNum, .int .i64 z]) (by rw [results_cell_tmp rfl]; go_simp; rfl) rfl ?_
    rw [HRE.out]
    exact ⟨_, rfl, GV.zero _, put3_below HBE.out (by omega) _ _ _⟩
  rw [e0] at HFA
  by_cases e1 : b.err = 0
  rotate_left
  · have b0 : (b.err != 0) = true := by rw [bne_iff_ne]; exact e1
    have HRE : Hid (rtwoAS k a b = (zeroL, b.err)) := by unfold Hid rtwoAS err2; rw [if_pos e0, if_neg e1]
    generalize rtwoAS k a b = r at *
    generalize b.err = z at *
    clear e0 e1 hk
    unfold numZ at HBK
    go_enter Tryz.func5, Tryz.ntmps5
    go_wp2_with fail
    refine (HFA.out _ _ (by exact GA.out.to (below_3 w _ _ _))).mono ?_
    rintro e w1 ⟨rfl, hb⟩
    have KB := Lib.hid (HBK.out.2.1.to hb)
    have KC := Lib.hid (HBK.out.2.2.to hb)
    have GB1 := Lib.hid ((GB.out.to (below_3 w _ _ _)).to hb)
    have HBE : Hid (Below w.heap.size w w1) := (below_3 w _ _ _).trans (hb.mono (below_3 w _ _ _).size)
    clear hb
    have cb0 := KB.out.cell 0
    have cb1 := KB.out.cell 1
    have cb2 := KB.out.cell 2
    simp only [List.getElem?_toArray, List.getElem?_cons_zero, List.getElem?_cons_succ] at cb0 cb1 cb2
    go_wp2_with fail
    refine (HFB.out _ _ (by exact GB1.out)).mono ?_
    rintro e w2 ⟨rfl, hb⟩
    have KC := Lib.hid (KC.out.to hb)
    have HBE : Hid (Below w.heap.size w w2) := HBE.out.trans (hb.mono HBE.out.size)
    clear hb cb0 cb1 cb2
    have cc0 := KC.out.cell 0
    have cc1 := KC.out.cell 1
    have cc2 := KC.out.cell 2
    simp only [List.getElem?_toArray, List.getElem?_cons_zero, List.getElem?_cons_succ] at cc0 cc1 cc2
    have fc0 := KC.out.frozen 0
    have fc1 := KC.out.frozen 1
    have fc2 := KC.out.frozen 2
    go_wp2_with fail
    refine bodyPost_ret (v := .tuple #[zeroNum, .int .i64 z]) (by rw [results_cell_tmp rfl]; go_simp; rfl) rfl ?_
    rw [HRE.out]
    exact ⟨_, rfl, GV.zero _, put3_below HBE.out (by omega) _ _ _⟩
  rw [e1] at HFB
  have HL : Hid (((digs W16 a.x).length ≤ 256 ∧ (digs W16 a.y).length ≤ 256) ∧ ((digs W16 b.x).length ≤ 256 ∧ (digs W16 b.y).length ≤ 256)) := ⟨LN.len16 HOK.out.1 e0, LN.len16 HOK.out.2 e1⟩
  have HY : Hid (0 < a.y ∧ 0 < b.y) := ⟨(LN.good HOK.out.1 e0).2.2.2.2.1, (LN.good HOK.out.2 e1).2.2.2.2.1⟩
  have HN1 : Hid (∀ W : World, Below w.heap.size w W → Calls Tryz.prog 15 #[.agg #[.bool a.neg, .slice B1 m1 d1, .slice B2 m2 d2]] W (RVPost W a.neg a.x a.y)) := fun W hW => rof_any a _ W (GA.out.to hW) (by have := (LN.good HOK.out.1 e0).2.2.1; omega) (by have := (LN.good HOK.out.1 e0).2.2.2.1; omega)
  have HN2 : Hid (∀ W : World, Below w.heap.size w W → Calls Tryz.prog 15 #[.agg #[.bool b.neg, .slice B3 m3 d3, .slice B4 m4 d4]] W (RVPost W b.neg b.x b.y)) := fun W hW => rof_any b _ W (GB.out.to hW) (by have := (LN.good HOK.out.2 e1).2.2.1; omega) (by have := (LN.good HOK.out.2 e1).2.2.2.1; omega)
  have HE0 : Hid (err2 a.err b.err = 0) := err2_zero.2 ⟨e0, e1⟩
  have HLM43 : Hid ((digs W16 (((sumN a.neg (a.x * b.y) b.neg (b.x * a.y)).2) / Nat.gcd ((sumN a.neg (a.x * b.y) b.neg (b.x * a.y)).2) (a.y * b.y))).length ≤ 100000 ∧ (digs W16 ((a.y * b.y) / Nat.gcd ((sumN a.neg (a.x * b.y) b.neg (b.x * a.y)).2) (a.y * b.y))).length ≤ 100000) := lenM16 (sumN16_len (n := 600) (Nat.le_trans (digs16_len_mul _ _) (by have := HL.out; omega)) (Nat.le_trans (digs16_len_mul _ _) (by have := HL.out; omega))) (Nat.le_trans (digs16_len_mul _ _) (by have := HL.out; omega))
  have HLM42 : Hid ((digs W16 ((a.x * b.x) / Nat.gcd (a.x * b.x) (a.y * b.y))).length ≤ 100000 ∧ (digs W16 ((a.y * b.y) / Nat.gcd (a.x * b.x) (a.y * b.y))).length ≤ 100000) := lenM16 (n := 601) (Nat.le_trans (digs16_len_mul _ _) (by have := HL.out; omega)) (Nat.le_trans (digs16_len_mul _ _) (by have := HL.out; omega))
  have HRR : Hid (rtwoAS k a b = rtwoAS k a b) := rfl
  generalize hrr : rtwoAS k a b = r at *
  have HRK := Lib.hid hrr
  have HKK := Lib.hid hk
  clear HRR hrr hk e0 e1 hba hbb
  go_enter Tryz.func5, Tryz.ntmps5
  go_wp2_with fail
  refine (HFA.out _ _ (by exact GA.out.to (below_3 w _ _ _))).mono ?_
  rintro e w1 ⟨rfl, hb⟩
  have KA := Lib.hid (HBK.out.1.to hb)
  have KB := Lib.hid (HBK.out.2.1.to hb)
  have KC := Lib.hid (HBK.out.2.2.to hb)
  have GB1 := Lib.hid ((GB.out.to (below_3 w _ _ _)).to hb)
  have HBE : Hid (Below w.heap.size w w1) := (below_3 w _ _ _).trans (hb.mono (below_3 w _ _ _).size)
  clear hb HBK
  have cb0 := KB.out.cell 0
  have cb1 := KB.out.cell 1
  have cb2 := KB.out.cell 2
  simp only [List.getElem?_toArray, List.getElem?_cons_zero, List.getElem?_cons_succ] at cb0 cb1 cb2
  go_wp2_with fail
  refine (HFB.out _ _ (by exact GB1.out)).mono ?_
  rintro e w2 ⟨rfl, hb⟩
  have KA := Lib.hid (KA.out.to hb)
  have KB := Lib.hid (KB.out.to hb)
  have KC := Lib.hid (KC.out.to hb)
  have HBE : Hid (Below w.heap.size w w2) := HBE.out.trans (hb.mono HBE.out.size)
  clear hb cb0 cb1 cb2 GB1 HFA HFB
  go_wp2_with fail
  refine wp_region_held_drew (S := fun w' => w'.cell? ⟨w.heap.size, 0, none⟩ = some (.bool a.neg) ∧ w'.cell? ⟨w.heap.size, 1, none⟩ = some (.slice B1 m1 d1) ∧ w'.cell? ⟨w.heap.size, 2, none⟩ = some (.slice B2 m2 d2) ∧ w'.cell? ⟨w.heap.size + 1, 0, none⟩ = some (.bool b.neg) ∧ w'.cell? ⟨w.heap.size + 1, 1, none⟩ = some (.slice B3 m3 d3) ∧ w'.cell? ⟨w.heap.size + 1, 2, none⟩ = some (.slice B4 m4 d4)) (by kernel_rfl) ⟨KA.out.drew.cell 0, KA.out.drew.cell 1, KA.out.drew.cell 2, KB.out.drew.cell 0, KB.out.drew.cell 1, KB.out.drew.cell 2⟩ (fun hHeld => ?_)
  (refine wpAnyH_take (i := 0) (v := ?_) rfl (by kernel_rfl) (by kernel_rfl) (by kernel_rfl) (fun _ _ _ h => h) (Or.inl ⟨by kernel_rfl, ?_⟩) (by assumption) ?_; rotate_left; ((intro w hSw; (try dsimp only at hSw); go_simp) <;> (with_reducible rfl)); (try (simp only [Act.put, List.setIfInBounds_toArray, List.set_cons_succ, List.set_cons_zero, List.getElem_toArray, List.getElem_cons_succ, List.getElem_cons_zero])))
  (refine wpAnyH_take (i := 2) (v := ?_) rfl (by kernel_rfl) (by kernel_rfl) (by kernel_rfl) (fun _ _ _ h => h) (Or.inl ⟨by kernel_rfl, ?_⟩) (by assumption) ?_; rotate_left; ((intro w hSw; (try dsimp only at hSw); go_simp) <;> (with_reducible rfl)); (try (simp only [Act.put, List.setIfInBounds_toArray, List.set_cons_succ, List.set_cons_zero, List.getElem_toArray, List.getElem_cons_succ, List.getElem_cons_zero])))
  refine wpAnyH_inv0 [1, 3, 4, 5, 6, 7] (fun a0 L aa W => ∃ s28 s30 s10 s11, aa = (((a0.put (some 28) s28).put (some 30) s30).put (some 10) s10).put (some 11) s11 ∧ TwoInv w #[.bool a.neg, .slice B1 m1 d1, .slice B2 m2 d2] #[.bool b.neg, .slice B3 m3 d3, .slice B4 m4 d4] a b L s28 s30 s10 s11 W) (by kernel_rfl) (by kernel_rfl) (by decide) (by kernel_rfl) ?hS ?init ?steps ?done
  case hS =>
    rintro L aa W ⟨s28, s30, s10, s11, -, _, h2, h3, _⟩
    exact ⟨h2.cell 0, h2.cell 1, h2.cell 2, h3.cell 0, h3.cell 1, h3.cell 2⟩
  case init =>
    refine ⟨undef, undef, undef, undef, rfl, HBE.out.drew, KA.out.drew, KB.out.drew, KC.out.drew, ?_, ?_, ?_, ?_, ?_, ?_, ?_⟩ <;> (intro h; exact absurd h (by decide))
  case steps =>
    clear HRK HKK KA KB KC HBE GA GB
    refine Steps.gen (fun Q => ?_)
    refine Steps.cons (i := 1) rfl ?_ (Steps.cons (i := 3) rfl ?_ (Steps.cons (i := 4) rfl ?_ (Steps.cons (i := 5) rfl ?_ (Steps.cons (i := 6) rfl ?_ (Steps.cons (i := 7) rfl ?_ Steps.nil)))))
    · rintro L aa W ⟨s28, s30, s10, s11, rfl, hI⟩ hL hdep K hK
      have HI := Lib.hid hI
      have HLL := Lib.hid hL
      clear hI hL hdep
      simp only [Act.put, List.setIfInBounds_toArray, List.set_cons_succ, List.set_cons_zero]
      go_simp
      refine (HN1.out _ (by exact HI.out.1)).mono ?_
      rintro e w3 ⟨v3, rfl, hn3, hb3⟩
      exact hK.out _ _ ⟨v3, s30, s10, s11, rfl, HI.out.call1 HLL.out hb3 hn3⟩
    · rintro L aa W ⟨s28, s30, s10, s11, rfl, hI⟩ hL hdep K hK
      have HI := Lib.hid hI
      have HLL := Lib.hid hL
      clear hI hL hdep
      simp only [Act.put, List.setIfInBounds_toArray, List.set_cons_succ, List.set_cons_zero]
      go_simp
      refine (HN2.out _ (by exact HI.out.1)).mono ?_
      rintro e w3 ⟨v3, rfl, hn3, hb3⟩
      exact hK.out _ _ ⟨s28, v3, s10, s11, rfl, HI.out.call3 HLL.out hb3 hn3⟩
    · rintro L aa W ⟨s28, s30, s10, s11, rfl, hI⟩ hL hdep K hK
      have HI := Lib.hid hI
      have HLL := Lib.hid hL
      clear hI hL hdep
      simp only [Act.put, List.setIfInBounds_toArray, List.set_cons_succ, List.set_cons_zero]
      go_simp
      exact hK.out _ _ ⟨s28, s30, _, s11, rfl, HI.out.alloc4 HLL.out⟩
    · rintro L aa W ⟨s28, s30, s10, s11, rfl, hI⟩ hL hdep K hK
      have HI := Lib.hid hI
      have HLL := Lib.hid hL
      clear hI hL hdep
      simp only [Act.put, List.setIfInBounds_toArray, List.set_cons_succ, List.set_cons_zero]
      go_simp
      exact hK.out _ _ ⟨s28, s30, s10, _, rfl, HI.out.alloc5 HLL.out⟩
    · rintro L aa W ⟨s28, s30, s10, s11, rfl, hI⟩ hL hdep K hK
      have hd : L 1 = true ∧ L 4 = true := by simp [Region.binds] at hdep; simp [hdep]
      clear hdep
      simp only [Act.put, List.setIfInBounds_toArray, List.set_cons_succ, List.set_cons_zero]
      have HI := Lib.hid hI
      have HLL := Lib.hid (And.intro hL hd)
      obtain ⟨g, rfl, hg, hbz, -⟩ := hI.2.2.2.2.2.2.1 hd.2
      obtain ⟨C1, q1, r1, C2, q2, r2, rfl, hq1, hq2⟩ := (hI.2.2.2.2.1 hd.1).form
      have hblk := hbz hL
      have hc0 := hblk.cell 0
      have hc1 := hblk.cell 1
      have hc2 := hblk.cell 2
      have hf0 := hblk.frozen 0
      have hf1 := hblk.frozen 1
      have hf2 := hblk.frozen 2
      unfold numZ at hc0 hc1 hc2
      simp only [List.getElem?_toArray, List.getElem?_cons_zero, List.getElem?_cons_succ] at hc0 hc1 hc2
      clear hI hL hd hbz hblk hq1 hq2
      go_simp
      exact hK.out _ (put3 W g _ _ _) ⟨_, _, _, _, rfl, HI.out.store6 HLL.out.1 HLL.out.2.1 HLL.out.2.2⟩
    · rintro L aa W ⟨s28, s30, s10, s11, rfl, hI⟩ hL hdep K hK
      have hd : L 3 = true ∧ L 5 = true := by simp [Region.binds] at hdep; simp [hdep]
      clear hdep
      simp only [Act.put, List.setIfInBounds_toArray, List.set_cons_succ, List.set_cons_zero]
      have HI := Lib.hid hI
      have HLL := Lib.hid (And.intro hL hd)
      obtain ⟨g, rfl, hg, hbz, -⟩ := hI.2.2.2.2.2.2.2.1 hd.2
      obtain ⟨C1, q1, r1, C2, q2, r2, rfl, hq1, hq2⟩ := (hI.2.2.2.2.2.1 hd.1).form
      have hblk := hbz hL
      have hc0 := hblk.cell 0
      have hc1 := hblk.cell 1
      have hc2 := hblk.cell 2
      have hf0 := hblk.frozen 0
      have hf1 := hblk.frozen 1
      have hf2 := hblk.frozen 2
      unfold numZ at hc0 hc1 hc2
      simp only [List.getElem?_toArray, List.getElem?_cons_zero, List.getElem?_cons_succ] at hc0 hc1 hc2
      clear hI hL hd hbz hblk hq1 hq2
      go_simp
      exact hK.out _ (put3 W g _ _ _) ⟨_, _, _, _, rfl, HI.out.store7 HLL.out.1 HLL.out.2.1 HLL.out.2.2⟩
  case done =>
    rintro L aa W ⟨s28, s30, s10, s11, rfl, hI⟩ hall
    simp only [Act.put, List.setIfInBounds_toArray, List.set_cons_succ, List.set_cons_zero]
    have hL : ∀ i, i < 8 → L i = true := hall
    clear hall KA KB KC HBE HN1 HN2 GA GB
    obtain ⟨h1, h2, h3, h4, h5, h6, h7, h8, h9, h10, h11⟩ := hI
    obtain ⟨g1, rfl, hg1, -, hk1⟩ := h7 (hL 4 (by omega))
    obtain ⟨g2, rfl, hg2, -, hk2⟩ := h8 (hL 5 (by omega))
    have RA := Lib.hid (h5 (hL 1 (by omega)))
    have RB := Lib.hid (h6 (hL 3 (by omega)))
    obtain ⟨A1, n1, c1, A2, n2, c2, rfl, hz1, hz2⟩ := RA.out.form
    obtain ⟨A3, n3, c3, A4, n4, c4, rfl, hz3, hz4⟩ := RB.out.form
    have HZ := Lib.hid (And.intro (And.intro hz1 hz2) (And.intro hz3 hz4))
    have KA : Hid (Blk W g1 43 #[.bool a.neg, .slice A1 n1 c1, .slice A2 n2 c2]) := hk1 (hL 6 (by omega))
    have KB : Hid (Blk W g2 43 #[.bool b.neg, .slice A3 n3 c3, .slice A4 n4 c4]) := hk2 (hL 7 (by omega))
    have KC : Hid (Blk W (w.heap.size + 1 + 1) 24 #[.bool false, .slice none 0 0, .slice none 0 0]) := h4
    have HBE := Lib.hid h1
    clear h1 h2 h3 h4 h5 h6 h7 h8 h9 h10 h11 hk1 hk2 hL hz1 hz2 hz3 hz4
    have hne1 : (g1 = w.heap.size + 1 + 1) = False := eq_false (by omega)
    have hne2 : (g2 = w.heap.size + 1 + 1) = False := eq_false (by omega)
    have hne3 : (w.heap.size + 1 + 1 = g1) = False := eq_false (by omega)
    have hne4 : (w.heap.size + 1 + 1 = g2) = False := eq_false (by omega)
    rcases HKK.out with rfl | rfl
    all_goals clear HKK
    · have HR43 : Hid (r = opS 0 ((sumN a.neg (a.x * b.y) b.neg (b.x * a.y)).1 && decide (0 < (sumN a.neg (a.x * b.y) b.neg (b.x * a.y)).2)) (((sumN a.neg (a.x * b.y) b.neg (b.x * a.y)).2) / Nat.gcd ((sumN a.neg (a.x * b.y) b.neg (b.x * a.y)).2) (a.y * b.y)) ((a.y * b.y) / Nat.gcd ((sumN a.neg (a.x * b.y) b.neg (b.x * a.y)).2) (a.y * b.y))) := by unfold Hid; rw [← HRK.out]; unfold rtwoAS; rw [if_pos HE0.out, if_pos rfl]; rfl
      clear HRK
      have HIB1 : Hid (∀ W : World, Calls Tryz.prog 16 #[.string ⟨#[103, 38, 124, 94, 108, 113, 114, 81, 82]⟩, .int .u8 43] W fun e w' => e = .returned (.int .i64 (-1)) ∧ w' = W) := fun W => Tryz.strings_IndexByte ⟨#[103, 38, 124, 94, 108, 113, 114, 81, 82]⟩ 43 W
      have HIB2 : Hid (∀ W : World, Calls Tryz.prog 16 #[.string ⟨#[47, 113, 114, 81, 82]⟩, .int .u8 43] W fun e w' => e = .returned (.int .i64 (-1)) ∧ w' = W) := fun W => Tryz.strings_IndexByte ⟨#[47, 113, 114, 81, 82]⟩ 43 W
      have HMD : Hid (∀ (W : World) (v : Value), RV W v ((sumN a.neg (a.x * b.y) b.neg (b.x * a.y)).1 && decide (0 < (sumN a.neg (a.x * b.y) b.neg (b.x * a.y)).2)) (((sumN a.neg (a.x * b.y) b.neg (b.x * a.y)).2) / Nat.gcd ((sumN a.neg (a.x * b.y) b.neg (b.x * a.y)).2) (a.y * b.y)) ((a.y * b.y) / Nat.gcd ((sumN a.neg (a.x * b.y) b.neg (b.x * a.y)).2) (a.y * b.y)) → Calls Tryz.prog 18 #[v] W (SPost W r)) := fun W v h => by
        rw [HR43.out]
        exact rmade_S _ _ _ v W h HLM43.out.1 HLM43.out.2
      have ca0 := KA.out.cell 0
      have ca1 := KA.out.cell 1
      have ca2 := KA.out.cell 2
      simp only [List.getElem?_toArray, List.getElem?_cons_zero, List.getElem?_cons_succ] at ca0 ca1 ca2
      have cb0 := KB.out.cell 0
      have cb1 := KB.out.cell 1
      have cb2 := KB.out.cell 2
      simp only [List.getElem?_toArray, List.getElem?_cons_zero, List.getElem?_cons_succ] at cb0 cb1 cb2
      have hltc := KC.out.lt
      go_wp2_with fail
      refine (HIB1.out _).mono ?_
      rintro e wz ⟨rfl, rfl⟩
      go_wp2_with fail
      refine (HIB2.out _).mono ?_
      rintro e wz ⟨rfl, rfl⟩
      go_wp2_with fail
      refine (rplus_any a.neg b.neg a.x a.y b.x b.y _ _ _ (by exact RA.out) (by exact RB.out) HY.out.1 HY.out.2 (by have := HL.out; omega) (by have := HL.out; omega) (by have := HL.out; omega) (by have := HL.out; omega)).mono ?_
      rintro e w5 ⟨v5, rfl, hr5, hb⟩
      have KA := Lib.hid (KA.out.to hb)
      have KB := Lib.hid (KB.out.to hb)
      have KC := Lib.hid (KC.out.to hb)
      have RA := Lib.hid (RA.out.to hb)
      have RB := Lib.hid (RB.out.to hb)
      have HBE : Hid (Below w.heap.size w w5) := HBE.out.trans (hb.mono HBE.out.size)
      clear ca0 ca1 ca2 cb0 cb1 cb2 hltc
      have R5 := Lib.hid hr5
      clear hr5 hb
      go_wp2_with fail
      refine (HMD.out _ _ (by exact R5.out)).mono ?_
      rintro e w6 ⟨v9, rfl, hg, hb⟩
      have KC := Lib.hid (KC.out.to hb)
      have HBE := Lib.hid (HBE.out.trans (hb.mono HBE.out.size))
      have HG := Lib.hid hg
      obtain ⟨C1, q1, r1, C2, q2, r2, rfl, hq1, hq2⟩ := hg.form
      have cc0 := KC.out.cell 0
      have cc1 := KC.out.cell 1
      have cc2 := KC.out.cell 2
      simp only [List.getElem?_toArray, List.getElem?_cons_zero, List.getElem?_cons_succ] at cc0 cc1 cc2
      have fc0 := KC.out.frozen 0
      have fc1 := KC.out.frozen 1
      have fc2 := KC.out.frozen 2
      clear hb hg hq1 hq2
      go_wp2_with fail
      refine bodyPost_ret (v := .tuple #[.agg #[.bool r.1.neg, .slice C1 q1 r1, .slice C2 q2 r2], .int .i64 r.2]) (by rw [results_cell_tmp rfl]; go_simp) rfl ?_
      exact ⟨_, rfl, HG.out.putN KC.out _ _ _, put3_below HBE.out (by omega) _ _ _⟩
    · have HR42 : Hid (r = opS 0 ((a.neg != b.neg) && decide (0 < a.x * b.x)) ((a.x * b.x) / Nat.gcd (a.x * b.x) (a.y * b.y)) ((a.y * b.y) / Nat.gcd (a.x * b.x) (a.y * b.y))) := by unfold Hid; rw [← HRK.out]; unfold rtwoAS; rw [if_pos HE0.out, if_neg (by decide)]; rfl
      clear HRK
      have HIB1 : Hid (∀ W : World, Calls Tryz.prog 16 #[.string ⟨#[103, 38, 124, 94, 108, 113, 114, 81, 82]⟩, .int .u8 42] W fun e w' => e = .returned (.int .i64 (-1)) ∧ w' = W) := fun W => Tryz.strings_IndexByte ⟨#[103, 38, 124, 94, 108, 113, 114, 81, 82]⟩ 42 W
      have HIB2 : Hid (∀ W : World, Calls Tryz.prog 16 #[.string ⟨#[47, 113, 114, 81, 82]⟩, .int .u8 42] W fun e w' => e = .returned (.int .i64 (-1)) ∧ w' = W) := fun W => Tryz.strings_IndexByte ⟨#[47, 113, 114, 81, 82]⟩ 42 W
      have HMD : Hid (∀ (W : World) (v : Value), RV W v ((a.neg != b.neg) && decide (0 < a.x * b.x)) ((a.x * b.x) / Nat.gcd (a.x * b.x) (a.y * b.y)) ((a.y * b.y) / Nat.gcd (a.x * b.x) (a.y * b.y)) → Calls Tryz.prog 18 #[v] W (SPost W r)) := fun W v h => by
        rw [HR42.out]
        exact rmade_S _ _ _ v W h HLM42.out.1 HLM42.out.2
      have ca0 := KA.out.cell 0
      have ca1 := KA.out.cell 1
      have ca2 := KA.out.cell 2
      simp only [List.getElem?_toArray, List.getElem?_cons_zero, List.getElem?_cons_succ] at ca0 ca1 ca2
      have cb0 := KB.out.cell 0
      have cb1 := KB.out.cell 1
      have cb2 := KB.out.cell 2
      simp only [List.getElem?_toArray, List.getElem?_cons_zero, List.getElem?_cons_succ] at cb0 cb1 cb2
      have hltc := KC.out.lt
      go_wp2_with fail
      refine (HIB1.out _).mono ?_
      rintro e wz ⟨rfl, rfl⟩
      go_wp2_with fail
      refine (HIB2.out _).mono ?_
      rintro e wz ⟨rfl, rfl⟩
      go_wp2_with fail
      refine (rproduct_any a.neg b.neg a.x a.y b.x b.y _ _ _ (by exact RA.out) (by exact RB.out) HY.out.1 HY.out.2 (by have := HL.out; omega) (by have := HL.out; omega) (by have := HL.out; omega) (by have := HL.out; omega)).mono ?_
      rintro e w5 ⟨v5, rfl, hr5, hb⟩
      have KA := Lib.hid (KA.out.to hb)
      have KB := Lib.hid (KB.out.to hb)
      have KC := Lib.hid (KC.out.to hb)
      have RA := Lib.hid (RA.out.to hb)
      have RB := Lib.hid (RB.out.to hb)
      have HBE : Hid (Below w.heap.size w w5) := HBE.out.trans (hb.mono HBE.out.size)
      clear ca0 ca1 ca2 cb0 cb1 cb2 hltc
      have R5 := Lib.hid hr5
      clear hr5 hb
      go_wp2_with fail
      refine (HMD.out _ _ (by exact R5.out)).mono ?_
      rintro e w6 ⟨v9, rfl, hg, hb⟩
      have KC := Lib.hid (KC.out.to hb)
      have HBE := Lib.hid (HBE.out.trans (hb.mono HBE.out.size))
      have HG := Lib.hid hg
      obtain ⟨C1, q1, r1, C2, q2, r2, rfl, hq1, hq2⟩ := hg.form
      have cc0 := KC.out.cell 0
      have cc1 := KC.out.cell 1
      have cc2 := KC.out.cell 2
      simp only [List.getElem?_toArray, List.getElem?_cons_zero, List.getElem?_cons_succ] at cc0 cc1 cc2
      have fc0 := KC.out.frozen 0
      have fc1 := KC.out.frozen 1
      have fc2 := KC.out.frozen 2
      clear hb hg hq1 hq2
      go_wp2_with fail
      refine bodyPost_ret (v := .tuple #[.agg #[.bool r.1.neg, .slice C1 q1 r1, .slice C2 q2 r2], .int .i64 r.2]) (by rw [results_cell_tmp rfl]; go_simp) rfl ?_
      exact ⟨_, rfl, HG.out.putN KC.out _ _ _, put3_below HBE.out (by omega) _ _ _⟩
end Go.Proofs.YtdmhkhnnomdkcaaGreatDoor

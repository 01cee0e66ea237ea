/- fetterlockref1.Two, at one of q, r, Q, R. -/
import Derived.Test.YtdhgbnnopekfjaaGreatDoorJo33
import Derived.Test.YtdhgbnnopekfjaaGreatDoorJo42
set_option linter.unusedVariables false
set_option linter.unusedSimpArgs false
namespace Go.Proofs.YtdhgbnnopekfjaaGreatDoor
open Go.RowKit NumB
set_option linter.unusedVariables false
set_option linter.unusedSimpArgs false


set_option maxRecDepth 1000000 in
set_option maxHeartbeats 25600000 in
theorem rtwoQ2 (k : Int) (hk : k = 114) (a b : LN) (va vb : Value) (w : World) (ga : GV w va a) (gb : GV w vb b) : Calls Tryz.prog 9 #[.int .u8 k, va, vb] w (SPost w (rtwoQS k a b)) := by
  have GA := Lib.hid ga
  have GB := Lib.hid gb
  have HOK := Lib.hid (And.intro ga.ok gb.ok)
  obtain ⟨B1, m1, d1, B2, m2, d2, rfl, hq1, hq2⟩ := ga.form
  clear hq1 hq2
  obtain ⟨B3, m3, d3, B4, m4, d4, rfl, hq1, hq2⟩ := gb.form
  clear hq1 hq2 ga gb
  have HBK := Lib.hid (blk_3 w 24 24 24 #[.bool a.neg, .slice B1 m1 d1, .slice B2 m2 d2] #[.bool b.neg, .slice B3 m3 d3, .slice B4 m4 d4] numZ)
  have HFA := Lib.hid (fun (W : World) (u : Value) (h : GV W u a) => fault_S a u W h)
  have HFB := Lib.hid (fun (W : World) (u : Value) (h : GV W u b) => fault_S b u W h)
  have hba : 0 ≤ a.err ∧ a.err ≤ 3 := checkL_bd _ _ _
  have hbb : 0 ≤ b.err ∧ b.err ≤ 3 := checkL_bd _ _ _
  by_cases e0 : a.err = 0
  rotate_left
  · have b0 : (a.err != 0) = true := by rw [bne_iff_ne]; exact e0
    have HRE : Hid (rtwoQS k a b = (zeroL, a.err)) := by unfold Hid rtwoQS err2; rw [if_neg e0, if_neg e0]
    generalize rtwoQS k a b = r at *
    generalize a.err = z at *
    clear e0 hk
    unfold numZ at HBK
    go_enter Tryz.func9, Tryz.ntmps9
    go_wp2_with fail
    refine (HFA.out _ _ (by exact GA.out.to (below_3 w _ _ _))).mono ?_
    rintro e w1 ⟨rfl, hb⟩
    have KC := Lib.hid (HBK.out.2.2.to hb)
    have HBE : Hid (Below w.heap.size w w1) := (below_3 w _ _ _).trans (hb.mono (below_3 w _ _ _).size)
    clear hb
    have cc0 := KC.out.cell 0
    have cc1 := KC.out.cell 1
    have cc2 := KC.out.cell 2
    simp only [List.getElem?_toArray, List.getElem?_cons_zero, List.getElem?_cons_succ] at cc0 cc1 cc2
    have fc0 := KC.out.frozen 0
    have fc1 := KC.out.frozen 1
    have fc2 := KC.out.frozen 2
    go_wp2_with fail
    refine bodyPost_ret (v := .tuple #[zeroNum, .int .i64 z]) (by rw [results_cell_tmp rfl]; go_simp; rfl) rfl ?_
    rw [HRE.out]
    exact ⟨_, rfl, GV.zero _, put3_below HBE.out (by omega) _ _ _⟩
  rw [e0] at HFA
  by_cases e1 : b.err = 0
  rotate_left
  · have b0 : (b.err != 0) = true := by rw [bne_iff_ne]; exact e1
    have HRE : Hid (rtwoQS k a b = (zeroL, b.err)) := by unfold Hid rtwoQS err2; rw [if_pos e0, if_neg e1]
    generalize rtwoQS k a b = r at *
    generalize b.err = z at *
    clear e0 e1 hk
    unfold numZ at HBK
    go_enter Tryz.func9, Tryz.ntmps9
    go_wp2_with fail
    refine (HFA.out _ _ (by exact GA.out.to (below_3 w _ _ _))).mono ?_
    rintro e w1 ⟨rfl, hb⟩
    have KB := Lib.hid (HBK.out.2.1.to hb)
    have KC := Lib.hid (HBK.out.2.2.to hb)
    have GB1 := Lib.hid ((GB.out.to (below_3 w _ _ _)).to hb)
    have HBE : Hid (Below w.heap.size w w1) := (below_3 w _ _ _).trans (hb.mono (below_3 w _ _ _).size)
    clear hb
    have cb0 := KB.out.cell 0
    have cb1 := KB.out.cell 1
    have cb2 := KB.out.cell 2
    simp only [List.getElem?_toArray, List.getElem?_cons_zero, List.getElem?_cons_succ] at cb0 cb1 cb2
    go_wp2_with fail
    refine (HFB.out _ _ (by exact GB1.out)).mono ?_
    rintro e w2 ⟨rfl, hb⟩
    have KC := Lib.hid (KC.out.to hb)
    have HBE : Hid (Below w.heap.size w w2) := HBE.out.trans (hb.mono HBE.out.size)
    clear hb cb0 cb1 cb2
    have cc0 := KC.out.cell 0
    have cc1 := KC.out.cell 1
    have cc2 := KC.out.cell 2
    simp only [List.getElem?_toArray, List.getElem?_cons_zero, List.getElem?_cons_succ] at cc0 cc1 cc2
    have fc0 := KC.out.frozen 0
    have fc1 := KC.out.frozen 1
    have fc2 := KC.out.frozen 2
    go_wp2_with fail
    refine bodyPost_ret (v := .tuple #[zeroNum, .int .i64 z]) (by rw [results_cell_tmp rfl]; go_simp; rfl) rfl ?_
    rw [HRE.out]
    exact ⟨_, rfl, GV.zero _, put3_below HBE.out (by omega) _ _ _⟩
  rw [e1] at HFB
  have HL : Hid (((digs W16 a.x).length ≤ 256 ∧ (digs W16 a.y).length ≤ 256) ∧ ((digs W16 b.x).length ≤ 256 ∧ (digs W16 b.y).length ≤ 256)) := ⟨LN.len16 HOK.out.1 e0, LN.len16 HOK.out.2 e1⟩
  have HY : Hid (0 < a.y ∧ 0 < b.y) := ⟨(LN.good HOK.out.1 e0).2.2.2.2.1, (LN.good HOK.out.2 e1).2.2.2.2.1⟩
  have HN1 : Hid (∀ W : World, Below w.heap.size w W → Calls Tryz.prog 22 #[.agg #[.bool a.neg, .slice B1 m1 d1, .slice B2 m2 d2]] W (RVPost W a.neg a.x a.y)) := fun W hW => rof_any a _ W (GA.out.to hW) (by have := (LN.good HOK.out.1 e0).2.2.1; omega) (by have := (LN.good HOK.out.1 e0).2.2.2.1; omega)
  have HN2 : Hid (∀ W : World, Below w.heap.size w W → Calls Tryz.prog 22 #[.agg #[.bool b.neg, .slice B3 m3 d3, .slice B4 m4 d4]] W (RVPost W b.neg b.x b.y)) := fun W hW => rof_any b _ W (GB.out.to hW) (by have := (LN.good HOK.out.2 e1).2.2.1; omega) (by have := (LN.good HOK.out.2 e1).2.2.2.1; omega)
  have HE0 : Hid (err2 a.err b.err = 0) := err2_zero.2 ⟨e0, e1⟩
  have HF1 : Hid ((a.y = 1 → fitB a.x 1 = true) ∧ (b.y = 1 → fitB b.x 1 = true)) := ⟨fun h => (LN.as_int HOK.out.1 e0 h).2.1, fun h => (LN.as_int HOK.out.2 e1 h).2.1⟩
  have HRR : Hid (rtwoQS k a b = rtwoQS k a b) := rfl
  generalize hrr : rtwoQS k a b = r at *
  have HRK := Lib.hid hrr
  have HKK := Lib.hid hk
  clear HRR hrr hk e0 e1 hba hbb
  go_enter Tryz.func9, Tryz.ntmps9
  go_wp2_with fail
  refine (HFA.out _ _ (by exact GA.out.to (below_3 w _ _ _))).mono ?_
  rintro e w1 ⟨rfl, hb⟩
  have KA := Lib.hid (HBK.out.1.to hb)
  have KB := Lib.hid (HBK.out.2.1.to hb)
  have KC := Lib.hid (HBK.out.2.2.to hb)
  have GB1 := Lib.hid ((GB.out.to (below_3 w _ _ _)).to hb)
  have HBE : Hid (Below w.heap.size w w1) := (below_3 w _ _ _).trans (hb.mono (below_3 w _ _ _).size)
  clear hb HBK
  have cb0 := KB.out.cell 0
  have cb1 := KB.out.cell 1
  have cb2 := KB.out.cell 2
  simp only [List.getElem?_toArray, List.getElem?_cons_zero, List.getElem?_cons_succ] at cb0 cb1 cb2
  go_wp2_with fail
  refine (HFB.out _ _ (by exact GB1.out)).mono ?_
  rintro e w2 ⟨rfl, hb⟩
  have KA := Lib.hid (KA.out.to hb)
  have KB := Lib.hid (KB.out.to hb)
  have KC := Lib.hid (KC.out.to hb)
  have HBE : Hid (Below w.heap.size w w2) := HBE.out.trans (hb.mono HBE.out.size)
  clear hb cb0 cb1 cb2 GB1 HFA HFB
  go_wp2_with fail
  refine wp_region_held_drew (S := fun w' => w'.cell? ⟨w.heap.size, 0, none⟩ = some (.bool a.neg) ∧ w'.cell? ⟨w.heap.size, 1, none⟩ = some (.slice B1 m1 d1) ∧ w'.cell? ⟨w.heap.size, 2, none⟩ = some (.slice B2 m2 d2) ∧ w'.cell? ⟨w.heap.size + 1, 0, none⟩ = some (.bool b.neg) ∧ w'.cell? ⟨w.heap.size + 1, 1, none⟩ = some (.slice B3 m3 d3) ∧ w'.cell? ⟨w.heap.size + 1, 2, none⟩ = some (.slice B4 m4 d4)) (by kernel_rfl) ⟨KA.out.drew.cell 0, KA.out.drew.cell 1, KA.out.drew.cell 2, KB.out.drew.cell 0, KB.out.drew.cell 1, KB.out.drew.cell 2⟩ (fun hHeld => ?_)
  (refine wpAnyH_take (i := 0) (v := ?_) rfl (by kernel_rfl) (by kernel_rfl) (by kernel_rfl) (fun _ _ _ h => h) (Or.inl ⟨by kernel_rfl, ?_⟩) (by assumption) ?_; rotate_left; ((intro w hSw; (try dsimp only at hSw); go_simp) <;> (with_reducible rfl)); (try (simp only [Act.put, List.setIfInBounds_toArray, List.set_cons_succ, List.set_cons_zero, List.getElem_toArray, List.getElem_cons_succ, List.getElem_cons_zero])))
  (refine wpAnyH_take (i := 2) (v := ?_) rfl (by kernel_rfl) (by kernel_rfl) (by kernel_rfl) (fun _ _ _ h => h) (Or.inl ⟨by kernel_rfl, ?_⟩) (by assumption) ?_; rotate_left; ((intro w hSw; (try dsimp only at hSw); go_simp) <;> (with_reducible rfl)); (try (simp only [Act.put, List.setIfInBounds_toArray, List.set_cons_succ, List.set_cons_zero, List.getElem_toArray, List.getElem_cons_succ, List.getElem_cons_zero])))
  refine wpAnyH_inv0 [1, 3, 4, 5, 6, 7] (fun a0 L aa W => ∃ s28 s30 s10 s11, aa = (((a0.put (some 28) s28).put (some 30) s30).put (some 10) s10).put (some 11) s11 ∧ TwoInv w #[.bool a.neg, .slice B1 m1 d1, .slice B2 m2 d2] #[.bool b.neg, .slice B3 m3 d3, .slice B4 m4 d4] a b L s28 s30 s10 s11 W) (by kernel_rfl) (by kernel_rfl) (by decide) (by kernel_rfl) ?hS ?init ?steps ?done
  case hS =>
    rintro L aa W ⟨s28, s30, s10, s11, -, _, h2, h3, _⟩
    exact ⟨h2.cell 0, h2.cell 1, h2.cell 2, h3.cell 0, h3.cell 1, h3.cell 2⟩
  case init =>
    refine ⟨undef, undef, undef, undef, rfl, HBE.out.drew, KA.out.drew, KB.out.drew, KC.out.drew, ?_, ?_, ?_, ?_, ?_, ?_, ?_⟩ <;> (intro h; exact absurd h (by decide))
  case steps =>
    clear HRK HKK KA KB KC HBE GA GB
    refine Steps.gen (fun Q => ?_)
    refine Steps.cons (i := 1) rfl ?_ (Steps.cons (i := 3) rfl ?_ (Steps.cons (i := 4) rfl ?_ (Steps.cons (i := 5) rfl ?_ (Steps.cons (i := 6) rfl ?_ (Steps.cons (i := 7) rfl ?_ Steps.nil)))))
    · rintro L aa W ⟨s28, s30, s10, s11, rfl, hI⟩ hL hdep K hK
      have HI := Lib.hid hI
      have HLL := Lib.hid hL
      clear hI hL hdep
      simp only [Act.put, List.setIfInBounds_toArray, List.set_cons_succ, List.set_cons_zero]
      go_simp
      refine (HN1.out _ (by exact HI.out.1)).mono ?_
      rintro e w3 ⟨v3, rfl, hn3, hb3⟩
      exact hK.out _ _ ⟨v3, s30, s10, s11, rfl, HI.out.call1 HLL.out hb3 hn3⟩
    · rintro L aa W ⟨s28, s30, s10, s11, rfl, hI⟩ hL hdep K hK
      have HI := Lib.hid hI
      have HLL := Lib.hid hL
      clear hI hL hdep
      simp only [Act.put, List.setIfInBounds_toArray, List.set_cons_succ, List.set_cons_zero]
      go_simp
      refine (HN2.out _ (by exact HI.out.1)).mono ?_
      rintro e w3 ⟨v3, rfl, hn3, hb3⟩
      exact hK.out _ _ ⟨s28, v3, s10, s11, rfl, HI.out.call3 HLL.out hb3 hn3⟩
    · rintro L aa W ⟨s28, s30, s10, s11, rfl, hI⟩ hL hdep K hK
      have HI := Lib.hid hI
      have HLL := Lib.hid hL
      clear hI hL hdep
      simp only [Act.put, List.setIfInBounds_toArray, List.set_cons_succ, List.set_cons_zero]
      go_simp
      exact hK.out _ _ ⟨s28, s30, _, s11, rfl, HI.out.alloc4 HLL.out⟩
    · rintro L aa W ⟨s28, s30, s10, s11, rfl, hI⟩ hL hdep K hK
      have HI := Lib.hid hI
      have HLL := Lib.hid hL
      clear hI hL hdep
      simp only [Act.put, List.setIfInBounds_toArray, List.set_cons_succ, List.set_cons_zero]
      go_simp
      exact hK.out _ _ ⟨s28, s30, s10, _, rfl, HI.out.alloc5 HLL.out⟩
    · rintro L aa W ⟨s28, s30, s10, s11, rfl, hI⟩ hL hdep K hK
      have hd : L 1 = true ∧ L 4 = true := by simp [Region.binds] at hdep; simp [hdep]
      clear hdep
      simp only [Act.put, List.setIfInBounds_toArray, List.set_cons_succ, List.set_cons_zero]
      have HI := Lib.hid hI
      have HLL := Lib.hid (And.intro hL hd)
      obtain ⟨g, rfl, hg, hbz, -⟩ := hI.2.2.2.2.2.2.1 hd.2
      obtain ⟨C1, q1, r1, C2, q2, r2, rfl, hq1, hq2⟩ := (hI.2.2.2.2.1 hd.1).form
      have hblk := hbz hL
      have hc0 := hblk.cell 0
      have hc1 := hblk.cell 1
      have hc2 := hblk.cell 2
      have hf0 := hblk.frozen 0
      have hf1 := hblk.frozen 1
      have hf2 := hblk.frozen 2
      unfold numZ at hc0 hc1 hc2
      simp only [List.getElem?_toArray, List.getElem?_cons_zero, List.getElem?_cons_succ] at hc0 hc1 hc2
      clear hI hL hd hbz hblk hq1 hq2
      go_simp
      exact hK.out _ (put3 W g _ _ _) ⟨_, _, _, _, rfl, HI.out.store6 HLL.out.1 HLL.out.2.1 HLL.out.2.2⟩
    · rintro L aa W ⟨s28, s30, s10, s11, rfl, hI⟩ hL hdep K hK
      have hd : L 3 = true ∧ L 5 = true := by simp [Region.binds] at hdep; simp [hdep]
      clear hdep
      simp only [Act.put, List.setIfInBounds_toArray, List.set_cons_succ, List.set_cons_zero]
      have HI := Lib.hid hI
      have HLL := Lib.hid (And.intro hL hd)
      obtain ⟨g, rfl, hg, hbz, -⟩ := hI.2.2.2.2.2.2.2.1 hd.2
      obtain ⟨C1, q1, r1, C2, q2, r2, rfl, hq1, hq2⟩ := (hI.2.2.2.2.2.1 hd.1).form
      have hblk := hbz hL
      have hc0 := hblk.cell 0
      have hc1 := hblk.cell 1
      have hc2 := hblk.cell 2
      have hf0 := hblk.frozen 0
      have hf1 := hblk.frozen 1
      have hf2 := hblk.frozen 2
      unfold numZ at hc0 hc1 hc2
      simp only [List.getElem?_toArray, List.getElem?_cons_zero, List.getElem?_cons_succ] at hc0 hc1 hc2
      clear hI hL hd hbz hblk hq1 hq2
      go_simp
      exact hK.out _ (put3 W g _ _ _) ⟨_, _, _, _, rfl, HI.out.store7 HLL.out.1 HLL.out.2.1 HLL.out.2.2⟩
  case done =>
    rintro L aa W ⟨s28, s30, s10, s11, rfl, hI⟩ hall
    simp only [Act.put, List.setIfInBounds_toArray, List.set_cons_succ, List.set_cons_zero]
    have hL : ∀ i, i < 8 → L i = true := hall
    clear hall KA KB KC HBE HN1 HN2 GA GB
    obtain ⟨h1, h2, h3, h4, h5, h6, h7, h8, h9, h10, h11⟩ := hI
    obtain ⟨g1, rfl, hg1, -, hk1⟩ := h7 (hL 4 (by omega))
    obtain ⟨g2, rfl, hg2, -, hk2⟩ := h8 (hL 5 (by omega))
    have RA := Lib.hid (h5 (hL 1 (by omega)))
    have RB := Lib.hid (h6 (hL 3 (by omega)))
    obtain ⟨A1, n1, c1, A2, n2, c2, rfl, hz1, hz2⟩ := RA.out.form
    obtain ⟨A3, n3, c3, A4, n4, c4, rfl, hz3, hz4⟩ := RB.out.form
    have HZ := Lib.hid (And.intro (And.intro hz1 hz2) (And.intro hz3 hz4))
    have KA : Hid (Blk W g1 42 #[.bool a.neg, .slice A1 n1 c1, .slice A2 n2 c2]) := hk1 (hL 6 (by omega))
    have KB : Hid (Blk W g2 42 #[.bool b.neg, .slice A3 n3 c3, .slice A4 n4 c4]) := hk2 (hL 7 (by omega))
    have KC : Hid (Blk W (w.heap.size + 1 + 1) 24 #[.bool false, .slice none 0 0, .slice none 0 0]) := h4
    have HBE := Lib.hid h1
    clear h1 h2 h3 h4 h5 h6 h7 h8 h9 h10 h11 hk1 hk2 hL hz1 hz2 hz3 hz4
    have hne1 : (g1 = w.heap.size + 1 + 1) = False := eq_false (by omega)
    have hne2 : (g2 = w.heap.size + 1 + 1) = False := eq_false (by omega)
    have hne3 : (w.heap.size + 1 + 1 = g1) = False := eq_false (by omega)
    have hne4 : (w.heap.size + 1 + 1 = g2) = False := eq_false (by omega)
    rcases HKK.out with rfl
    all_goals clear HKK
    · have HIB1 : Hid (∀ W : World, Calls Tryz.prog 32 #[.string ⟨#[103, 38, 124, 94, 108, 113, 114, 81, 82]⟩, .int .u8 114] W fun e w' => e = .returned (.int .i64 (6)) ∧ w' = W) := fun W => Tryz.strings_IndexByte ⟨#[103, 38, 124, 94, 108, 113, 114, 81, 82]⟩ 114 W
      have HIB2 : Hid (∀ W : World, Calls Tryz.prog 32 #[.string ⟨#[47, 113, 114, 81, 82]⟩, .int .u8 114] W fun e w' => e = .returned (.int .i64 (2)) ∧ w' = W) := fun W => Tryz.strings_IndexByte ⟨#[47, 113, 114, 81, 82]⟩ 114 W
      have ca0 := KA.out.cell 0
      have ca1 := KA.out.cell 1
      have ca2 := KA.out.cell 2
      simp only [List.getElem?_toArray, List.getElem?_cons_zero, List.getElem?_cons_succ] at ca0 ca1 ca2
      have cb0 := KB.out.cell 0
      have cb1 := KB.out.cell 1
      have cb2 := KB.out.cell 2
      simp only [List.getElem?_toArray, List.getElem?_cons_zero, List.getElem?_cons_succ] at cb0 cb1 cb2
      have hltc := KC.out.lt
      go_wp2_with fail
      refine (HIB1.out _).mono ?_
      rintro e wz ⟨rfl, rfl⟩
      by_cases hyA : a.y = 1
      rotate_left
      · have HRE : Hid (r = (zeroL, 7)) := by unfold Hid; rw [← HRK.out]; unfold rtwoQS; rw [if_pos HE0.out, if_neg (fun h => hyA h.1)]
        have HIA : Hid (∀ (W : World) (v : Value), RV W v a.neg a.x a.y → Calls Tryz.prog 21 #[v] W fun e w' => e = .returned (.bool false) ∧ Below W.heap.size W w') := fun W v h => by
          have := risInt_any a.neg a.x a.y v W h (by have := HL.out; omega)
          rw [cmpI_one_false hyA] at this
          exact this
        clear hyA HRK
        go_wp2_with fail
        refine (HIA.out _ _ (by exact RA.out)).mono ?_
        rintro e wiA ⟨rfl, hb⟩
        have KA := Lib.hid (KA.out.to hb)
        have KB := Lib.hid (KB.out.to hb)
        have KC := Lib.hid (KC.out.to hb)
        have RA := Lib.hid (RA.out.to hb)
        have RB := Lib.hid (RB.out.to hb)
        have HBE : Hid (Below w.heap.size w wiA) := HBE.out.trans (hb.mono HBE.out.size)
        clear ca0 ca1 ca2 cb0 cb1 cb2 hltc
        clear hb
        have ca0 := KA.out.cell 0
        have ca1 := KA.out.cell 1
        have ca2 := KA.out.cell 2
        simp only [List.getElem?_toArray, List.getElem?_cons_zero, List.getElem?_cons_succ] at ca0 ca1 ca2
        have cb0 := KB.out.cell 0
        have cb1 := KB.out.cell 1
        have cb2 := KB.out.cell 2
        simp only [List.getElem?_toArray, List.getElem?_cons_zero, List.getElem?_cons_succ] at cb0 cb1 cb2
        have hltc := KC.out.lt
        clear ca0 ca1 ca2 cb0 cb1 cb2 hltc
        have cc0 := KC.out.cell 0
        have cc1 := KC.out.cell 1
        have cc2 := KC.out.cell 2
        simp only [List.getElem?_toArray, List.getElem?_cons_zero, List.getElem?_cons_succ] at cc0 cc1 cc2
        have fc0 := KC.out.frozen 0
        have fc1 := KC.out.frozen 1
        have fc2 := KC.out.frozen 2
        go_wp2_with fail
        refine bodyPost_ret (v := .tuple #[zeroNum, .int .i64 7]) (by rw [results_cell_tmp rfl]; go_simp; rfl) rfl ?_
        rw [HRE.out]
        exact ⟨_, rfl, GV.zero _, put3_below HBE.out (by omega) _ _ _⟩
      have HIA : Hid (∀ (W : World) (v : Value), RV W v a.neg a.x a.y → Calls Tryz.prog 21 #[v] W fun e w' => e = .returned (.bool true) ∧ Below W.heap.size W w') := fun W v h => by
        have := risInt_any a.neg a.x a.y v W h (by have := HL.out; omega)
        rw [cmpI_one_true hyA] at this
        exact this
      go_wp2_with fail
      refine (HIA.out _ _ (by exact RA.out)).mono ?_
      rintro e wiA ⟨rfl, hb⟩
      have KA := Lib.hid (KA.out.to hb)
      have KB := Lib.hid (KB.out.to hb)
      have KC := Lib.hid (KC.out.to hb)
      have RA := Lib.hid (RA.out.to hb)
      have RB := Lib.hid (RB.out.to hb)
      have HBE : Hid (Below w.heap.size w wiA) := HBE.out.trans (hb.mono HBE.out.size)
      clear ca0 ca1 ca2 cb0 cb1 cb2 hltc
      clear hb
      have ca0 := KA.out.cell 0
      have ca1 := KA.out.cell 1
      have ca2 := KA.out.cell 2
      simp only [List.getElem?_toArray, List.getElem?_cons_zero, List.getElem?_cons_succ] at ca0 ca1 ca2
      have cb0 := KB.out.cell 0
      have cb1 := KB.out.cell 1
      have cb2 := KB.out.cell 2
      simp only [List.getElem?_toArray, List.getElem?_cons_zero, List.getElem?_cons_succ] at cb0 cb1 cb2
      have hltc := KC.out.lt
      by_cases hyB : b.y = 1
      rotate_left
      · have HRE : Hid (r = (zeroL, 7)) := by unfold Hid; rw [← HRK.out]; unfold rtwoQS; rw [if_pos HE0.out, if_neg (fun h => hyB h.2)]
        have HIB : Hid (∀ (W : World) (v : Value), RV W v b.neg b.x b.y → Calls Tryz.prog 21 #[v] W fun e w' => e = .returned (.bool false) ∧ Below W.heap.size W w') := fun W v h => by
          have := risInt_any b.neg b.x b.y v W h (by have := HL.out; omega)
          rw [cmpI_one_false hyB] at this
          exact this
        clear hyA hyB HRK
        go_wp2_with fail
        refine (HIB.out _ _ (by exact RB.out)).mono ?_
        rintro e wiB ⟨rfl, hb⟩
        have KA := Lib.hid (KA.out.to hb)
        have KB := Lib.hid (KB.out.to hb)
        have KC := Lib.hid (KC.out.to hb)
        have RA := Lib.hid (RA.out.to hb)
        have RB := Lib.hid (RB.out.to hb)
        have HBE : Hid (Below w.heap.size w wiB) := HBE.out.trans (hb.mono HBE.out.size)
        clear ca0 ca1 ca2 cb0 cb1 cb2 hltc
        clear hb
        have ca0 := KA.out.cell 0
        have ca1 := KA.out.cell 1
        have ca2 := KA.out.cell 2
        simp only [List.getElem?_toArray, List.getElem?_cons_zero, List.getElem?_cons_succ] at ca0 ca1 ca2
        have cb0 := KB.out.cell 0
        have cb1 := KB.out.cell 1
        have cb2 := KB.out.cell 2
        simp only [List.getElem?_toArray, List.getElem?_cons_zero, List.getElem?_cons_succ] at cb0 cb1 cb2
        have hltc := KC.out.lt
        clear ca0 ca1 ca2 cb0 cb1 cb2 hltc
        have cc0 := KC.out.cell 0
        have cc1 := KC.out.cell 1
        have cc2 := KC.out.cell 2
        simp only [List.getElem?_toArray, List.getElem?_cons_zero, List.getElem?_cons_succ] at cc0 cc1 cc2
        have fc0 := KC.out.frozen 0
        have fc1 := KC.out.frozen 1
        have fc2 := KC.out.frozen 2
        go_wp2_with fail
        refine bodyPost_ret (v := .tuple #[zeroNum, .int .i64 7]) (by rw [results_cell_tmp rfl]; go_simp; rfl) rfl ?_
        rw [HRE.out]
        exact ⟨_, rfl, GV.zero _, put3_below HBE.out (by omega) _ _ _⟩
      have HIB : Hid (∀ (W : World) (v : Value), RV W v b.neg b.x b.y → Calls Tryz.prog 21 #[v] W fun e w' => e = .returned (.bool true) ∧ Below W.heap.size W w') := fun W v h => by
        have := risInt_any b.neg b.x b.y v W h (by have := HL.out; omega)
        rw [cmpI_one_true hyB] at this
        exact this
      have HRI : Hid (r = rtwoQSI 114 a b) := by unfold Hid; rw [← HRK.out]; unfold rtwoQS; rw [if_pos HE0.out, if_pos ⟨hyA, hyB⟩]
      have HYY := Lib.hid (And.intro hyA hyB)
      have HF1 : Hid (fitB a.x 1 = true ∧ fitB b.x 1 = true) := ⟨HF1.out.1 hyA, HF1.out.2 hyB⟩
      clear HRK hyA hyB
      go_wp2_with fail
      refine (HIB.out _ _ (by exact RB.out)).mono ?_
      rintro e wiB ⟨rfl, hb⟩
      have KA := Lib.hid (KA.out.to hb)
      have KB := Lib.hid (KB.out.to hb)
      have KC := Lib.hid (KC.out.to hb)
      have RA := Lib.hid (RA.out.to hb)
      have RB := Lib.hid (RB.out.to hb)
      have HBE : Hid (Below w.heap.size w wiB) := HBE.out.trans (hb.mono HBE.out.size)
      clear ca0 ca1 ca2 cb0 cb1 cb2 hltc
      clear hb
      have ca0 := KA.out.cell 0
      have ca1 := KA.out.cell 1
      have ca2 := KA.out.cell 2
      simp only [List.getElem?_toArray, List.getElem?_cons_zero, List.getElem?_cons_succ] at ca0 ca1 ca2
      have cb0 := KB.out.cell 0
      have cb1 := KB.out.cell 1
      have cb2 := KB.out.cell 2
      simp only [List.getElem?_toArray, List.getElem?_cons_zero, List.getElem?_cons_succ] at cb0 cb1 cb2
      have hltc := KC.out.lt
      go_wp2_with fail
      refine (HIB2.out _).mono ?_
      rintro e wz ⟨rfl, rfl⟩
      by_cases hbx : b.x = 0
      · have HR0 : Hid (r = (zeroL, 10)) := by unfold Hid; rw [HRI.out]; unfold rtwoQSI; rw [if_pos hbx]
        obtain rfl : n3 = 0 := by have := (len_pos16 HZ.out.2.1); omega
        clear HRI hbx
        clear ca0 ca1 ca2 cb0 cb1 cb2 hltc
        have cb0 := KB.out.cell 0
        have cb1 := KB.out.cell 1
        have cb2 := KB.out.cell 2
        simp only [List.getElem?_toArray, List.getElem?_cons_zero, List.getElem?_cons_succ] at cb0 cb1 cb2
        have cc0 := KC.out.cell 0
        have cc1 := KC.out.cell 1
        have cc2 := KC.out.cell 2
        simp only [List.getElem?_toArray, List.getElem?_cons_zero, List.getElem?_cons_succ] at cc0 cc1 cc2
        have fc0 := KC.out.frozen 0
        have fc1 := KC.out.frozen 1
        have fc2 := KC.out.frozen 2
        go_wp2_with fail
        refine bodyPost_ret (v := .tuple #[zeroNum, .int .i64 10]) (by rw [results_cell_tmp rfl]; go_simp; rfl) rfl ?_
        rw [HR0.out]
        exact ⟨_, rfl, GV.zero _, put3_below HBE.out (by omega) _ _ _⟩
      have hb0 : 0 < b.x := Nat.pos_of_ne_zero hbx
      have hn3 : 0 < n3 := (len_pos16 HZ.out.2.1).2 hb0
      have hn3b : ((n3 : Int) == 0) = false := beq_eq_false_iff_ne.2 (by omega)
      have HR1 : Hid (r = (intL (dmr a b true).1 (dmr a b true).2, 0)) := by unfold Hid; rw [HRI.out]; unfold rtwoQSI; rw [if_neg hbx, if_neg (by decide)]; rfl
      obtain ⟨q1, q2, q3⟩ := q_flo HYY.out.1 HYY.out.2 hb0
      obtain ⟨k1, k2⟩ := dm_fits (a := a) (b := b) true hb0 HF1.out.1 HF1.out.2
      obtain ⟨k3, k4⟩ := dm_fits (a := a) (b := b) true hb0 HF1.out.1 HF1.out.2
      have HIV : Hid (∀ (W : World) (v : Value), RV W v b.neg b.x b.y → Calls Tryz.prog 37 #[v] W (RVPost W b.neg b.y b.x)) := fun W v h => rinverse_any _ _ _ v W h
      have HPR : Hid (∀ (W : World) (u v : Value), RV W u a.neg a.x a.y → RV W v b.neg b.y b.x → Calls Tryz.prog 36 #[u, v] W (RVPost W ((a.neg != b.neg) && decide (0 < a.x * b.y)) (a.x * b.y / Nat.gcd (a.x * b.y) (a.y * b.x)) (a.y * b.x / Nat.gcd (a.x * b.y) (a.y * b.x)))) := fun W u v h1 h2 => rproduct_any _ _ _ _ _ _ u v W h1 h2 HY.out.1 hb0 (by have := HL.out; omega) (by have := HL.out; omega) (by have := HL.out; omega) (by have := HL.out; omega)
      have hlen : (digs W16 (a.x * b.y / Nat.gcd (a.x * b.y) (a.y * b.x))).length ≤ 50000 ∧ (digs W16 (a.y * b.x / Nat.gcd (a.x * b.y) (a.y * b.x))).length ≤ 50000 := ⟨Nat.le_trans (digs_len_mono W16_gt (Nat.div_le_self _ _)) (Nat.le_trans (digs16_len_mul _ _) (by have := HL.out; omega)), Nat.le_trans (digs_len_mono W16_gt (Nat.div_le_self _ _)) (Nat.le_trans (digs16_len_mul _ _) (by have := HL.out; omega))⟩
      have HFF : Hid (∀ (W : World) (u : Value), RV W u ((a.neg != b.neg) && decide (0 < a.x * b.y)) (a.x * b.y / Nat.gcd (a.x * b.y) (a.y * b.x)) (a.y * b.x / Nat.gcd (a.x * b.y) (a.y * b.x)) → Calls Tryz.prog 43 #[u] W (RVPost W ((a.neg != b.neg) && decide (0 < dmq a b true)) (dmq a b true) 1)) := fun W u h => by
        have := rfloor_any _ _ _ u W h q3 hlen.1 hlen.2
        rw [q1, q2] at this
        exact this
      obtain ⟨s2, x2, y2, hs2, hx2, hy2⟩ : ∃ (s2 : Bool) (x2 y2 : Nat), s2 = ((((a.neg != b.neg) && decide (0 < dmq a b true)) != b.neg) && decide (0 < dmq a b true * b.x)) ∧ x2 = dmq a b true * b.x / Nat.gcd (dmq a b true * b.x) (1 * b.y) ∧ y2 = 1 * b.y / Nat.gcd (dmq a b true * b.x) (1 * b.y) := ⟨_, _, _, rfl, rfl, rfl⟩
      obtain ⟨e1, e2, e3⟩ := rest_eq (fl := true) HYY.out.1 HYY.out.2 _ rfl s2 hs2 x2 y2 hx2 hy2
      have HX2 : Hid ((digs W16 x2).length ≤ 600) := by unfold Hid; rw [e2]; exact Nat.le_trans (digs16_len_mul _ _) (by have := fit16 k3; have := HL.out; omega)
      have HPB : Hid (∀ (W : World) (u v : Value), RV W u ((a.neg != b.neg) && decide (0 < dmq a b true)) (dmq a b true) 1 → RV W v b.neg b.x b.y → Calls Tryz.prog 36 #[u, v] W (RVPost W s2 x2 y2)) := fun W u v h1 h2 => by
        rw [hs2, hx2, hy2]
        exact rproduct_any _ _ _ _ _ _ u v W h1 h2 (by decide) HY.out.2 (by have := fit16 k3; omega) (by rw [digs_one16]; decide) (by have := HL.out; omega) (by have := HL.out; omega)
      have HMI : Hid (∀ (W : World) (v : Value), RV W v s2 x2 y2 → Calls Tryz.prog 35 #[v] W (RVPost W (!s2 && decide (0 < x2)) x2 y2)) := fun W v h => rminus_any _ _ _ v W h
      have HPL : Hid (∀ (W : World) (u v : Value), RV W u a.neg a.x a.y → RV W v (!s2 && decide (0 < x2)) x2 y2 → Calls Tryz.prog 34 #[u, v] W (RVPost W ((dmr a b true).1 && decide (0 < (dmr a b true).2)) (dmr a b true).2 1)) := fun W u v h1 h2 => by
        have := rplus_any _ _ _ _ _ _ u v W h1 h2 HY.out.1 (by omega) (by have := HL.out; omega) (by have := HL.out; omega) (by have := HX2.out; omega) (by rw [e1, digs_one16]; decide)
        rw [e3, e1, HYY.out.1, Nat.mul_one, Nat.gcd_one_right, Nat.div_one, Nat.div_one] at this
        exact this
      have HMQ : Hid (∀ (W : World) (v : Value), RV W v ((dmr a b true).1 && decide (0 < (dmr a b true).2)) (dmr a b true).2 1 → Calls Tryz.prog 33 #[v] W (SPost W r)) := fun W v h => by
        rw [HR1.out, ← opS_int k4]
        exact rmade_S _ _ _ v W h (Nat.le_trans (fit16 k4) (by omega)) (by rw [digs_one16]; decide)
      generalize ((dmr a b true).1 && decide (0 < (dmr a b true).2)) = rs at *
      generalize (dmr a b true).2 = rx at *
      clear hs2 hx2 hy2 e1 e2 e3 HX2 hbx hb0 hn3 q1 q2 q3 k1 k2 k3 k4 hlen HR1
      generalize ((a.neg != b.neg) && decide (0 < a.x * b.y)) = ps at *
      generalize a.x * b.y / Nat.gcd (a.x * b.y) (a.y * b.x) = px at *
      generalize a.y * b.x / Nat.gcd (a.x * b.y) (a.y * b.x) = py at *
      generalize ((a.neg != b.neg) && decide (0 < dmq a b true)) = fs at *
      generalize dmq a b true = fx at *
      have hl1 := KA.out.lt
      have hl2 := KB.out.lt
      go_wp2_with fail
      clear ca0 ca1 ca2 cb0 cb1 cb2 hltc
      refine wp_region_held_drew (S := fun w' => w'.cell? ⟨g1, 0, none⟩ = some (.bool a.neg) ∧ w'.cell? ⟨g1, 1, none⟩ = some (.slice A1 n1 c1) ∧ w'.cell? ⟨g1, 2, none⟩ = some (.slice A2 n2 c2) ∧ w'.cell? ⟨g2, 0, none⟩ = some (.bool b.neg) ∧ w'.cell? ⟨g2, 1, none⟩ = some (.slice A3 n3 c3) ∧ w'.cell? ⟨g2, 2, none⟩ = some (.slice A4 n4 c4)) (by kernel_rfl) ⟨KA.out.drew.cell 0, KA.out.drew.cell 1, KA.out.drew.cell 2, KB.out.drew.cell 0, KB.out.drew.cell 1, KB.out.drew.cell 2⟩ (fun hHeld => ?_)
      (refine wpAnyH_take (i := 0) (v := ?_) rfl (by kernel_rfl) (by kernel_rfl) (by kernel_rfl) (fun _ _ _ h => h) (Or.inl ⟨by kernel_rfl, ?_⟩) (by assumption) ?_; rotate_left; ((intro w hSw; (try dsimp only at hSw); go_simp) <;> (with_reducible rfl)); (try (simp only [Act.put, List.setIfInBounds_toArray, List.set_cons_succ, List.set_cons_zero, List.getElem_toArray, List.getElem_cons_succ, List.getElem_cons_zero])))
      (refine wpAnyH_take (i := 1) (v := ?_) rfl (by kernel_rfl) (by kernel_rfl) (by kernel_rfl) (fun _ _ _ h => h) (Or.inl ⟨by kernel_rfl, ?_⟩) (by assumption) ?_; rotate_left; ((intro w hSw; (try dsimp only at hSw); go_simp) <;> (with_reducible rfl)); (try (simp only [Act.put, List.setIfInBounds_toArray, List.set_cons_succ, List.set_cons_zero, List.getElem_toArray, List.getElem_cons_succ, List.getElem_cons_zero])))
      refine wpAnyH_inv0 [2, 3, 4, 5, 6] (fun a0 L aa W => ∃ s2 s3 s4 s5, aa = (((a0.put (some 151) s2).put (some 152) s3).put (some 153) s4).put (some 12) s5 ∧ QInv w a b ps px py fs fx #[.bool a.neg, .slice A1 n1 c1, .slice A2 n2 c2] #[.bool b.neg, .slice A3 n3 c3, .slice A4 n4 c4] g1 g2 L s2 s3 s4 s5 W) (by kernel_rfl) (by kernel_rfl) (by decide) (by kernel_rfl) ?hS ?init ?steps ?done
      case hS =>
        rintro L aa W ⟨s2, s3, s4, s5, -, ⟨_, h2, h3, _⟩, _⟩
        exact ⟨h2.cell 0, h2.cell 1, h2.cell 2, h3.cell 0, h3.cell 1, h3.cell 2⟩
      case init =>
        refine ⟨undef, undef, undef, undef, rfl, ⟨HBE.out.drew, KA.out.drew, KB.out.drew, KC.out.drew, RA.out.to (Below.refl _ _).drew, RB.out.to (Below.refl _ _).drew⟩, ?_, ?_, ?_, ?_, ?_⟩ <;> (intro h; exact absurd h (by decide))
      case steps =>
        clear HRI KA KB KC HBE RA RB HMQ HIB1 HIB2 HYY
        refine Steps.gen (fun Q => ?_)
        refine Steps.cons (i := 2) rfl ?_ (Steps.cons (i := 3) rfl ?_ (Steps.cons (i := 4) rfl ?_ (Steps.cons (i := 5) rfl ?_ (Steps.cons (i := 6) rfl ?_ Steps.nil))))
        · rintro L aa W ⟨s2, s3, s4, s5, rfl, hI⟩ hL hdep K hK
          have HI := Lib.hid hI
          clear hI hL hdep
          simp only [Act.put, List.setIfInBounds_toArray, List.set_cons_succ, List.set_cons_zero]
          go_simp
          refine (HIV.out _ _ (by exact HI.out.1.2.2.2.2.2)).mono ?_
          rintro e w3 ⟨v3, rfl, hn3, hb3⟩
          exact hK.out _ _ ⟨v3, s3, s4, s5, rfl, HI.out.call2 hb3 hn3⟩
        · rintro L aa W ⟨s2, s3, s4, s5, rfl, hI⟩ hL hdep K hK
          have hd : L 2 = true := by simp [Region.binds] at hdep; simp [hdep]
          have HI := Lib.hid hI
          have H2 := Lib.hid (hI.2.1 hd)
          clear hI hL hdep hd
          simp only [Act.put, List.setIfInBounds_toArray, List.set_cons_succ, List.set_cons_zero]
          go_simp
          refine (HPR.out _ _ _ (by exact HI.out.1.2.2.2.2.1) (by exact H2.out)).mono ?_
          rintro e w3 ⟨v3, rfl, hn3, hb3⟩
          exact hK.out _ _ ⟨s2, v3, s4, s5, rfl, HI.out.call3 hb3 hn3⟩
        · rintro L aa W ⟨s2, s3, s4, s5, rfl, hI⟩ hL hdep K hK
          have hd : L 3 = true := by simp [Region.binds] at hdep; simp [hdep]
          have HI := Lib.hid hI
          have H2 := Lib.hid (hI.2.2.1 hd)
          have HLL := Lib.hid hL
          clear hI hL hdep hd
          simp only [Act.put, List.setIfInBounds_toArray, List.set_cons_succ, List.set_cons_zero]
          go_simp
          refine (HFF.out _ _ (by exact H2.out)).mono ?_
          rintro e w3 ⟨v3, rfl, hn3, hb3⟩
          exact hK.out _ _ ⟨s2, s3, v3, s5, rfl, HI.out.call4 HLL.out hb3 hn3⟩
        · rintro L aa W ⟨s2, s3, s4, s5, rfl, hI⟩ hL hdep K hK
          have HI := Lib.hid hI
          have HLL := Lib.hid hL
          clear hI hL hdep
          simp only [Act.put, List.setIfInBounds_toArray, List.set_cons_succ, List.set_cons_zero]
          go_simp
          exact hK.out _ _ ⟨s2, s3, s4, _, rfl, HI.out.alloc5 HLL.out⟩
        · rintro L aa W ⟨s2, s3, s4, s5, rfl, hI⟩ hL hdep K hK
          have hd : L 4 = true ∧ L 5 = true := by simp [Region.binds] at hdep; simp [hdep]
          clear hdep
          simp only [Act.put, List.setIfInBounds_toArray, List.set_cons_succ, List.set_cons_zero]
          have HI := Lib.hid hI
          have HLL := Lib.hid (And.intro hL hd)
          obtain ⟨g, rfl, hg, hbz, -⟩ := hI.2.2.2.2.1 hd.2
          obtain ⟨C1, q1, r1, C2, q2, r2, rfl, hq1, hq2⟩ := (hI.2.2.2.1 hd.1).form
          have hblk := hbz hL
          have hc0 := hblk.cell 0
          have hc1 := hblk.cell 1
          have hc2 := hblk.cell 2
          have hf0 := hblk.frozen 0
          have hf1 := hblk.frozen 1
          have hf2 := hblk.frozen 2
          unfold numZ at hc0 hc1 hc2
          simp only [List.getElem?_toArray, List.getElem?_cons_zero, List.getElem?_cons_succ] at hc0 hc1 hc2
          clear hI hL hd hbz hblk hq1 hq2
          go_simp
          exact hK.out _ (put3 W g _ _ _) ⟨_, _, _, _, rfl, HI.out.store6 HLL.out.1 HLL.out.2.1 HLL.out.2.2⟩
      rintro L aa WQ ⟨s2, s3, s4, s5, rfl, hI⟩ hall
      simp only [Act.put, List.setIfInBounds_toArray, List.set_cons_succ, List.set_cons_zero]
      have hL : ∀ i, i < 7 → L i = true := hall
      clear hall KA KB KC HBE RA RB HIV HPR HFF hl1 hl2 hHeld
      obtain ⟨⟨h1, h2, h3, h4, h5, h6⟩, -, -, h7, h8, -⟩ := hI
      obtain ⟨g3, rfl, hg3, -, hk3⟩ := h8 (hL 5 (by omega))
      have RQ := Lib.hid (h7 (hL 4 (by omega)))
      obtain ⟨A5, n5, c5, A6, n6, c6, rfl, hz1, hz2⟩ := RQ.out.form
      have KA := Lib.hid h2
      have KB := Lib.hid h3
      have KC : Hid (Blk WQ (w.heap.size + 1 + 1) 24 #[.bool false, .slice none 0 0, .slice none 0 0]) := h4
      have KQ : Hid (Blk WQ g3 42 #[.bool fs, .slice A5 n5 c5, .slice A6 n6 c6]) := hk3 (hL 6 (by omega))
      have RA := Lib.hid h5
      have RB := Lib.hid h6
      have HBE := Lib.hid h1
      have hg3a : (g3 = g1) = False := eq_false hg3.1
      have hg3b : (g3 = g2) = False := eq_false hg3.2.1
      have hg3c : (g3 = w.heap.size + 1 + 1) = False := eq_false (by omega)
      have hg3d : (g1 = g3) = False := eq_false (Ne.symm hg3.1)
      have hg3e : (g2 = g3) = False := eq_false (Ne.symm hg3.2.1)
      have hg3f : (w.heap.size + 1 + 1 = g3) = False := eq_false (by omega)
      have HG3 := Lib.hid hg3
      clear h1 h2 h3 h4 h5 h6 h7 h8 hk3 hL hz1 hz2 hg3
      have ca0 := KA.out.cell 0
      have ca1 := KA.out.cell 1
      have ca2 := KA.out.cell 2
      simp only [List.getElem?_toArray, List.getElem?_cons_zero, List.getElem?_cons_succ] at ca0 ca1 ca2
      have cb0 := KB.out.cell 0
      have cb1 := KB.out.cell 1
      have cb2 := KB.out.cell 2
      simp only [List.getElem?_toArray, List.getElem?_cons_zero, List.getElem?_cons_succ] at cb0 cb1 cb2
      have hltc := KC.out.lt
      have cq0 := KQ.out.cell 0
      have cq1 := KQ.out.cell 1
      have cq2 := KQ.out.cell 2
      simp only [List.getElem?_toArray, List.getElem?_cons_zero, List.getElem?_cons_succ] at cq0 cq1 cq2
      have HK : Hid (∀ W1 W' : World, Below W1.heap.size W1 W' → (W1.cell? ⟨g1, 0, none⟩ = some (.bool a.neg) ∧ W1.cell? ⟨g1, 1, none⟩ = some (.slice A1 n1 c1) ∧ W1.cell? ⟨g1, 2, none⟩ = some (.slice A2 n2 c2) ∧ W1.cell? ⟨g2, 0, none⟩ = some (.bool b.neg) ∧ W1.cell? ⟨g2, 1, none⟩ = some (.slice A3 n3 c3) ∧ W1.cell? ⟨g2, 2, none⟩ = some (.slice A4 n4 c4) ∧ W1.cell? ⟨g3, 0, none⟩ = some (.bool fs) ∧ W1.cell? ⟨g3, 1, none⟩ = some (.slice A5 n5 c5) ∧ W1.cell? ⟨g3, 2, none⟩ = some (.slice A6 n6 c6) ∧ (g1 < W1.heap.size ∧ g2 < W1.heap.size ∧ g3 < W1.heap.size)) → (W'.cell? ⟨g1, 0, none⟩ = some (.bool a.neg) ∧ W'.cell? ⟨g1, 1, none⟩ = some (.slice A1 n1 c1) ∧ W'.cell? ⟨g1, 2, none⟩ = some (.slice A2 n2 c2) ∧ W'.cell? ⟨g2, 0, none⟩ = some (.bool b.neg) ∧ W'.cell? ⟨g2, 1, none⟩ = some (.slice A3 n3 c3) ∧ W'.cell? ⟨g2, 2, none⟩ = some (.slice A4 n4 c4) ∧ W'.cell? ⟨g3, 0, none⟩ = some (.bool fs) ∧ W'.cell? ⟨g3, 1, none⟩ = some (.slice A5 n5 c5) ∧ W'.cell? ⟨g3, 2, none⟩ = some (.slice A6 n6 c6) ∧ (g1 < W'.heap.size ∧ g2 < W'.heap.size ∧ g3 < W'.heap.size))) := fun W1 W' h1 ⟨a0, a1, a2, a3, a4, a5, a8, a9, a10, a6, a7, a11⟩ => ⟨(h1.cell (p := ⟨g1, 0, none⟩) a6).trans a0, (h1.cell (p := ⟨g1, 1, none⟩) a6).trans a1, (h1.cell (p := ⟨g1, 2, none⟩) a6).trans a2, (h1.cell (p := ⟨g2, 0, none⟩) a7).trans a3, (h1.cell (p := ⟨g2, 1, none⟩) a7).trans a4, (h1.cell (p := ⟨g2, 2, none⟩) a7).trans a5, (h1.cell (p := ⟨g3, 0, none⟩) a11).trans a8, (h1.cell (p := ⟨g3, 1, none⟩) a11).trans a9, (h1.cell (p := ⟨g3, 2, none⟩) a11).trans a10, Nat.lt_of_lt_of_le a6 h1.size, Nat.lt_of_lt_of_le a7 h1.size, Nat.lt_of_lt_of_le a11 h1.size⟩
      have hl1 := KA.out.lt
      have hl2 := KB.out.lt
      have hl3 := KQ.out.lt
      have RAD := Lib.hid (RA.out.to (w' := WQ.drew) (Below.refl _ _).drew)
      have RBD := Lib.hid (RB.out.to (w' := WQ.drew) (Below.refl _ _).drew)
      have RQD := Lib.hid (RQ.out.to (w' := WQ.drew) (Below.refl _ _).drew)
      have KCD := Lib.hid KC.out.drew
      have HBD : Hid (Below w.heap.size w WQ.drew) := HBE.out.drew
      go_wp2_with fail
      go_region_held3 (fun w' => w'.cell? ⟨g1, 0, none⟩ = some (.bool a.neg) ∧ w'.cell? ⟨g1, 1, none⟩ = some (.slice A1 n1 c1) ∧ w'.cell? ⟨g1, 2, none⟩ = some (.slice A2 n2 c2) ∧ w'.cell? ⟨g2, 0, none⟩ = some (.bool b.neg) ∧ w'.cell? ⟨g2, 1, none⟩ = some (.slice A3 n3 c3) ∧ w'.cell? ⟨g2, 2, none⟩ = some (.slice A4 n4 c4) ∧ w'.cell? ⟨g3, 0, none⟩ = some (.bool fs) ∧ w'.cell? ⟨g3, 1, none⟩ = some (.slice A5 n5 c5) ∧ w'.cell? ⟨g3, 2, none⟩ = some (.slice A6 n6 c6) ∧ (g1 < w'.heap.size ∧ g2 < w'.heap.size ∧ g3 < w'.heap.size))
        (first | go_keep | (refine HK.out _ _ (by assumption) ?_; go_keep))
        (first
          | (go_at_call 36; ((with_reducible refine (HPB.out _ _ _ (by exact RQD.out) (by exact RBD.out)).mono ?_)); rintro e y5 ⟨v5, rfl, hr5, hb5⟩)
          | (go_at_call 35; ((with_reducible refine (HMI.out _ _ (by exact hr5)).mono ?_)); rintro e y6 ⟨v6, rfl, hr6, hb6⟩)
          | (go_at_call 34; ((with_reducible refine (HPL.out _ _ _ (by exact (RAD.out.to hb5).to hb6) (by exact hr6)).mono ?_)); rintro e y7 ⟨v7, rfl, hr7, hb7⟩)
          | (go_at_call 33; ((with_reducible refine (HMQ.out _ _ (by exact hr7)).mono ?_)); rintro e y8 ⟨v8, rfl, hg, hb8⟩; have hblk := (((KCD.out.to hb5).to hb6).to hb7).to hb8; obtain ⟨C1, q1, r1, C2, q2, r2, rfl, hq1, hq2⟩ := hg.form; clear hq1 hq2; have cc0 := hblk.cell 0; have cc1 := hblk.cell 1; have cc2 := hblk.cell 2; simp only [List.getElem?_toArray, List.getElem?_cons_zero, List.getElem?_cons_succ] at cc0 cc1 cc2; have fc0 := hblk.frozen 0; have fc1 := hblk.frozen 1; have fc2 := hblk.frozen 2))
      all_goals
        have hg3 := HG3.out
        go_wp2_with fail
        refine bodyPost_ret (v := .tuple #[.agg #[.bool r.1.neg, .slice C1 q1 r1, .slice C2 q2 r2], .int .i64 r.2]) (by rw [results_cell_tmp rfl]; go_simp) rfl ?_
        exact ⟨_, rfl, hg.putN hblk _ _ _, put3_below ((((HBD.out.trans (hb5.mono HBD.out.size)).trans (hb6.mono (Nat.le_trans HBD.out.size hb5.size))).trans (hb7.mono (Nat.le_trans (Nat.le_trans HBD.out.size hb5.size) hb6.size))).trans (hb8.mono (Nat.le_trans (Nat.le_trans (Nat.le_trans HBD.out.size hb5.size) hb6.size) hb7.size))) (by omega) _ _ _⟩
end Go.Proofs.YtdhgbnnopekfjaaGreatDoor

/-  -/
import Derived.Deep.RegionHeld3
import Derived.Test.YtdmhkhnnomdkcaaGreatDoorJo40
set_option linter.unusedVariables false
set_option linter.unusedSimpArgs false
/- number.Bits, at any two numbers and any operation. -/
namespace Go.Proofs.YtdmhkhnnomdkcaaGreatDoor
open Go.RowKit NumB
set_option linter.unusedVariables false
set_option linter.unusedSimpArgs false

theorem bits_u32_op (o : Nat) (ho : o < 3) (x y : Nat) (hx : x < 4294967296) (hy : y < 4294967296) : bits (if o = 0 then .and else if o = 1 then .or else .xor) .u32 (x : Int) (y : Int) = ((nbop o x y : Nat) : Int) := by
  have h : o = 0 ∨ o = 1 ∨ o = 2 := by omega
  unfold nbop
  rcases h with rfl | rfl | rfl
  · simpa using u32_and (x : Int) (y : Int) (by omega) (by omega) (by omega) (by omega)
  · simpa using u32_or (x : Int) (y : Int) (by omega) (by omega) (by omega) (by omega)
  · simpa using u32_xor (x : Int) (y : Int) (by omega) (by omega) (by omega) (by omega)

theorem top_bit {zs : List Nat} {n : Nat} (ho : Ok W32 zs) (hl : zs.length = n + 1) : val W32 zs / 2 ^ (32 * n + 31) = zs.getD n 0 / 2147483648 := by
  have h1 := val_split W32 zs n
  rw [val_drop_step, List.drop_eq_nil_of_le (by omega), val_nil, Nat.mul_zero, Nat.add_zero] at h1
  have h2 := val_take_lt ho (j := n) (by omega)
  have e : 2 ^ (32 * n + 31) = W32 ^ n * 2147483648 := by rw [Nat.pow_add, Nat.pow_mul]; rfl
  rw [e, ← Nat.div_div_eq_div_mul, h1, Nat.add_mul_div_left _ _ (Nat.pow_pos (by decide)), Nat.div_eq_of_lt h2, Nat.zero_add]

set_option maxRecDepth 100000 in
set_option maxHeartbeats 6400000 in
theorem bits_and (a b : LN) (va vb : Value) (w : World) (ga : GV w va a) (gb : GV w vb b) (e0 : intErr2 a b = 0) : Calls Tryz.prog 4 #[.int .i64 1, va, vb] w (SPost w (fracS 0 (bop 0 a.neg b.neg) (bitsM 0 a b) 1)) := by
  have GA := Lib.hid ga
  have GB := Lib.hid gb
  have HOK := Lib.hid (And.intro ga.ok gb.ok)
  obtain ⟨B1, m1, d1, B2, m2, d2, rfl, hq1, hq2⟩ := ga.form
  have hm1 := hq1
  clear hq1 hq2
  obtain ⟨B3, m3, d3, B4, m4, d4, rfl, hq1, hq2⟩ := gb.form
  have hm3 := hq1
  clear hq1 hq2 ga gb
  have HBK := Lib.hid (blk_3 w 24 24 24 #[.bool a.neg, .slice B1 m1 d1, .slice B2 m2 d2] #[.bool b.neg, .slice B3 m3 d3, .slice B4 m4 d4] #[.bool false, .slice none 0 0, .slice none 0 0])
  have HI : Hid (∀ (W : World) (g cap : Nat) (t : TypeId), Blk W g t #[.bool a.neg, .slice B1 m1 d1, .slice B2 m2 d2, .bool b.neg, .slice B3 m3 d3, .slice B4 m4 d4] → GV W (.agg #[.bool a.neg, .slice B1 m1 d1, .slice B2 m2 d2]) a → GV W (.agg #[.bool b.neg, .slice B3 m3 d3, .slice B4 m4 d4]) b → Calls Tryz.prog 9 #[.slice (some ⟨g, 0, none⟩) 2 cap] W fun e w' => e = .returned (.int .i64 0) ∧ Below W.heap.size W w') := fun W g cap t h1 h2 h3 => by
    have := integers_two a b g cap _ _ _ _ W t h1 h2 h3
    rw [e0] at this
    exact this
  obtain ⟨⟨ea, eb⟩, _⟩ := intErr2_zero.1 e0
  obtain ⟨p1, p2, p3, p4, _⟩ := LN.good HOK.out.1 ea
  obtain ⟨q1, q2, q3, q4, _⟩ := LN.good HOK.out.2 eb
  rw [← hm1] at p3
  rw [← hm3] at q3
  obtain ⟨n, hn⟩ : ∃ n : Nat, n = max m1 m3 := ⟨_, rfl⟩
  have hnb : n ≤ 128 := by omega
  have hOUT := bits_out (o := 0) (n := n) HOK.out.1 HOK.out.2 ea eb ⟨by omega, by omega⟩
  have HLEN : Hid ((digs W32 (bitsM 0 a b)).length ≤ 200) := Nat.le_trans (bitsM_len hOUT.2.2.2) (by omega)
  have HT1 : Hid (∀ (W : World) (u : Value), GV W u a → Calls Tryz.prog 10 #[u, .int .i64 ((n : Int) + 1)] W (LimbPost W (n + 1) (twN (n + 1) a.neg a.x))) := fun W u h => twos_any a (n + 1) u W h (by omega) (by omega)
  have HT2 : Hid (∀ (W : World) (u : Value), GV W u b → Calls Tryz.prog 10 #[u, .int .i64 ((n : Int) + 1)] W (LimbPost W (n + 1) (twN (n + 1) b.neg b.x))) := fun W u h => twos_any b (n + 1) u W h (by omega) (by omega)
  have HW : Hid (∀ (W : World) (v : Value), Nat32 W v (bitsM 0 a b) → Calls Tryz.prog 11 #[.bool (bop 0 a.neg b.neg), v] W (SPost W (fracS 0 (bop 0 a.neg b.neg) (bitsM 0 a b) 1))) := fun W v h => whole_S _ _ v W h (by have := HLEN.out; omega)
  have hmx : max (m1 : Int) (m3 : Int) = (n : Int) := by omega
  generalize fracS 0 (bop 0 a.neg b.neg) (bitsM 0 a b) 1 = r at *
  generalize bitsM 0 a b = mm at *
  generalize bop 0 a.neg b.neg = sg at *
  generalize twN (n + 1) a.neg a.x = X at *
  generalize twN (n + 1) b.neg b.x = Y at *
  have HOUT := Lib.hid hOUT
  clear e0 ea eb p1 p2 q1 q2 p4 q4 hOUT hm1 hm3 hn p3 q3
  go_enter Tryz.func4, Tryz.ntmps4
  go_wp2_with fail
  refine (HI.out _ _ _ _ (by exact blk_4 w _ _ _ _ _) (by exact GA.out.to (below_4 w _ _ _ _)) (by exact GB.out.to (below_4 w _ _ _ _))).mono ?_
  rintro e w1 ⟨rfl, hb⟩
  have KA := Lib.hid ((HBK.out.1.alloc _).to hb)
  have KB := Lib.hid ((HBK.out.2.1.alloc _).to hb)
  have KC := Lib.hid ((HBK.out.2.2.alloc _).to hb)
  have HBE : Hid (Below w.heap.size w w1) := (below_4 w _ _ _ _).trans (hb.mono (below_4 w _ _ _ _).size)
  have GA := Lib.hid (GA.out.to HBE.out)
  have GB := Lib.hid (GB.out.to HBE.out)
  have HLT : Hid (w.heap.size + 1 + 1 < w1.heap.size) := KC.out.lt
  clear hb HI HBK
  have ca0 := KA.out.cell 0
  have ca1 := KA.out.cell 1
  have ca2 := KA.out.cell 2
  have cb0 := KB.out.cell 0
  have cb1 := KB.out.cell 1
  have cb2 := KB.out.cell 2
  simp only [List.getElem?_toArray, List.getElem?_cons_zero, List.getElem?_cons_succ] at ca0 ca1 ca2 cb0 cb1 cb2
  have HKW : Hid (∀ w' : World, Below w1.drew.heap.size w1.drew w' → (w'.cell? ⟨w.heap.size, 0, none⟩ = some (.bool a.neg) ∧ w'.cell? ⟨w.heap.size, 1, none⟩ = some (.slice B1 m1 d1) ∧ w'.cell? ⟨w.heap.size, 2, none⟩ = some (.slice B2 m2 d2) ∧ w'.cell? ⟨w.heap.size + 1, 0, none⟩ = some (.bool b.neg) ∧ w'.cell? ⟨w.heap.size + 1, 1, none⟩ = some (.slice B3 m3 d3) ∧ w'.cell? ⟨w.heap.size + 1, 2, none⟩ = some (.slice B4 m4 d4))) := fun W' h => by
    have ka := KA.out.drew.to h
    have kb := KB.out.drew.to h
    exact ⟨ka.cell 0, ka.cell 1, ka.cell 2, kb.cell 0, kb.cell 1, kb.cell 2⟩
  have HD0 : Hid (Below w1.drew.heap.size w1.drew w1.drew) := Below.refl _ _
  have GAD := Lib.hid (GA.out.to (Below.refl _ w1).drew)
  have GBD := Lib.hid (GB.out.to (Below.refl _ w1).drew)
  have hlt := KB.out.lt
  go_wp2_with fail
  go_region_held3 (fun w' => w'.cell? ⟨w.heap.size, 0, none⟩ = some (.bool a.neg) ∧ w'.cell? ⟨w.heap.size, 1, none⟩ = some (.slice B1 m1 d1) ∧ w'.cell? ⟨w.heap.size, 2, none⟩ = some (.slice B2 m2 d2) ∧ w'.cell? ⟨w.heap.size + 1, 0, none⟩ = some (.bool b.neg) ∧ w'.cell? ⟨w.heap.size + 1, 1, none⟩ = some (.slice B3 m3 d3) ∧ w'.cell? ⟨w.heap.size + 1, 2, none⟩ = some (.slice B4 m4 d4))
    (first | (with_reducible exact HKW.out _ (Hid.out (by assumption))) | (go_keep; done))
    (first
      | (go_at_call 10; ((with_reducible refine (HT1.out _ _ (by exact GAD.out)).mono ?_)); rintro e y1 ⟨g1, e1, xs, rfl, ho1, hk1, hv1, hb1⟩; have HD1 : Hid (Below w1.drew.heap.size w1.drew y1) := hb1)
      | (go_at_call 10; ((with_reducible refine (HT2.out _ _ (by exact GBD.out.to hb1)).mono ?_)); rintro e y2 ⟨g2, e2, ys, rfl, ho2, hk2, hv2, hb2⟩; have HD2 : Hid (Below w1.drew.heap.size w1.drew y2) := hb1.trans (hb2.mono hb1.size)))
  have HBE : Hid (Below w.heap.size w y2) := HBE.out.drew.trans (HD2.out.mono HBE.out.drew.size)
  have KC := Lib.hid (KC.out.drew.to HD2.out)
  have hne : g1 ≠ g2 := by have := ho1.lt.2; have := ho2.lt.1; omega
  have O1 : Hid (Own .u32 35 y2 w1.heap.size g1 (n + 1) e1 xs) := ho1.to hb2
  have O2 : Hid (Own .u32 35 y2 w1.heap.size g2 (n + 1) e2 ys) := ⟨ho2.1, Joins.ownsRow_le ho2.2 hb1.size⟩
  obtain ⟨zs, HZS⟩ : ∃ zs, Hid (zs = List.zipWith (nbop 0) xs ys) := ⟨_, rfl⟩
  have HZL : Hid (zs.length = n + 1 ∧ xs.length = n + 1 ∧ ys.length = n + 1) := ⟨by rw [HZS.out]; exact zip_len _ ho1.1 ho2.1, ho1.1, ho2.1⟩
  have HZV : Hid (val W32 zs = nbop 0 X Y ∧ Ok W32 zs) := ⟨by rw [HZS.out, val_zip 0 _ _ hk1 hk2 (by rw [ho1.1, ho2.1]), hv1, hv2], by rw [HZS.out]; exact ok_zip _ _ _ hk1 hk2⟩
  have HKX := Lib.hid (And.intro hk1 hk2)
  clear hb1 hb2 HD0 HD1 HD2 HKW GAD GBD GA GB KA KB ho1 ho2 hv1 hv2 hk1 hk2 HT1 HT2
  have hs1 : w.heap.size + 1 + 1 < w1.heap.size := HLT.out
  go_wp2_with fail
  go_loopg [37] (n + 1) (fun gk s37 wr => ∃ (j : Nat), gk + j = n + 1 ∧ s37 = .int .i64 (j : Int) ∧ Hid (Own .u32 35 wr w1.heap.size g1 (n + 1) e1 (zs.take j ++ xs.drop j)) ∧ Hid (Own .u32 35 wr w1.heap.size g2 (n + 1) e2 ys) ∧ Hid (Below w.heap.size w wr) ∧ Hid (Blk wr (w.heap.size + 1 + 1) 24 #[.bool false, .slice none 0 0, .slice none 0 0]))
  case atStart => exact ⟨0, by omega, rfl, by unfold Hid; rw [List.take_zero, List.nil_append, List.drop_zero]; exact O1.out, O2.out, HBE.out, KC.out⟩
  case round =>
    obtain ⟨j, hgj, rfl, P1, P2, HBR, KCR⟩ := hrel
    by_cases hj : j < n + 1
    · obtain ⟨px, HPX⟩ : ∃ px, Hid (xs.getD j 0 = px) := ⟨_, rfl⟩
      obtain ⟨py, HPY⟩ : ∃ py, Hid (ys.getD j 0 = py) := ⟨_, rfl⟩
      have hpx : px < 4294967296 := by rw [← HPX.out]; exact HKX.out.1.getD (by decide) _
      have hpy : py < 4294967296 := by rw [← HPY.out]; exact HKX.out.2.getD (by decide) _
      obtain ⟨q, hq, HQ⟩ : ∃ q : Nat, bits .and .u32 (px : Int) (py : Int) = (q : Int) ∧ Hid (q = nbop 0 px py) := ⟨_, bits_u32_op 0 (by omega) px py hpx hpy, rfl⟩
      have HQZ : Hid (zs.getD j 0 = q) := by rw [HZS.out, zip_getD 0 HZL.out.2.1 HZL.out.2.2 hj, HPX.out, HPY.out]; exact HQ.out.symm
      have hc1 : wr.cell? ⟨g1, j, none⟩ = some (.int .u32 (px : Int)) := by have := P1.out.cell hj; rw [part_getD HZL.out.1 HZL.out.2.1 hj, HPX.out] at this; exact this
      have hc2 : wr.cell? ⟨g2, j, none⟩ = some (.int .u32 (py : Int)) := by have := P2.out.cell hj; rw [HPY.out] at this; exact this
      have hf1 := P1.out.frozen j
      go_wp2_with fail
      go_region
      all_goals go_wp2_with fail
      all_goals go_roundg (gk - 1)
      all_goals (first | (show _ < _; omega) | skip)
      all_goals
        have hg1 := P1.out.lt
        refine ⟨j + 1, by omega, by go_num, ?_, (P2.out.far (p := ⟨g1, j, none⟩) (Ne.symm hne) _).drew, (HBR.out.setCell (p := ⟨g1, j, none⟩) (by show _ ≤ g1; omega) _).drew, (KCR.out.far (p := ⟨g1, j, none⟩) (by show _ ≠ g1; omega) _).drew⟩
        have := P1.out.stored j q
        rw [← HQZ.out, part_set HZL.out.1 HZL.out.2.1 hj, HQZ.out] at this
        exact this.drew
    · obtain rfl : j = n + 1 := by omega
      have P1 : Hid (Own .u32 35 wr w1.heap.size g1 (n + 1) e1 zs) := by have := P1.out; rw [part_all HZL.out.1 HZL.out.2.1] at this; exact this
      obtain ⟨t, HTE⟩ : ∃ t, Hid (zs.getD n 0 = t) := ⟨_, rfl⟩
      have ht : t < 4294967296 := by rw [← HTE.out]; exact HZV.out.2.getD (by decide) _
      have hc1 : wr.cell? ⟨g1, n, none⟩ = some (.int .u32 (t : Int)) := by have := P1.out.cell (i := n) (by omega); rw [HTE.out] at this; exact this
      have HTOP : Hid (t / 2147483648 = if sg then 1 else 0) := by
        have h := top_bit HZV.out.2 HZL.out.1
        rw [HZV.out.1, HOUT.out.1, HTE.out] at h
        exact h.symm
      clear O1 O2 HBE KC P2
      cases sg with
      | true =>
        have htop : (t : Int) / 2147483648 = 1 := by have h : t / 2147483648 = 1 := HTOP.out; omega
        have HNG : Hid (∀ (W : World) (v : Value), Sl .u32 W v zs → Calls Tryz.prog 13 #[v] W fun e w' => ∃ g c out, e = .returned (.slice (some ⟨g, 0, none⟩) (n + 1) c) ∧ Own .u32 35 w' W.heap.size g (n + 1) c out ∧ Ok W32 out ∧ val W32 out = mm ∧ Below W.heap.size W w') := fun W v h => by
          have := negated_any zs v W h HZV.out.2 (by have := HZL.out.1; omega)
          rw [HZL.out.1, HZV.out.1, HOUT.out.2.2.1 (by first | rfl | trivial)] at this
          exact this
        go_wp2_with fail
        refine (HNG.out _ _ (by exact P1.out.sl)).mono ?_
        rintro e w7 ⟨g7, c7, out7, rfl, ho7, hk7, hv7, hb7⟩
        go_wp2_with fail
        refine (trim_any out7 _ (n + 1) c7 w7 w7.heap.size ho7.rd hk7 ho7.cap.1 ho7.cap.2).mono ?_
        rintro e w8 ⟨m8, rfl, hm8, ht8, rfl⟩
        have N8 : Nat32 w7 (.slice (some ⟨g7, 0, none⟩) m8 c7) mm := Sl.of_rd ho7.rd hm8 ho7.cap.1 ho7.cap.2 (by rw [ht8, hv7])
        have KC7 := KCR.out.to hb7
        have HB7 := HBR.out.trans (hb7.mono HBR.out.size)
        go_wp2_with fail
        refine (HW.out _ _ (by exact N8)).mono ?_
        rintro e w9 ⟨v9, rfl, hg, hb⟩
        have KC := Lib.hid (KC7.to hb)
        have HBE : Hid (Below w.heap.size w w9) := HB7.trans (hb.mono HB7.size)
        have HG := Lib.hid hg
        obtain ⟨C1, q1, r1, C2, q2, r2, rfl, hq1, hq2⟩ := hg.form
        have cc0 := KC.out.cell 0
        have cc1 := KC.out.cell 1
        have cc2 := KC.out.cell 2
        simp only [List.getElem?_toArray, List.getElem?_cons_zero, List.getElem?_cons_succ] at cc0 cc1 cc2
        have fc0 := KC.out.frozen 0
        have fc1 := KC.out.frozen 1
        have fc2 := KC.out.frozen 2
        clear hb hg hq1 hq2
        go_wp2_with fail
        refine bodyPost_ret (v := .tuple #[.agg #[.bool r.1.neg, .slice C1 q1 r1, .slice C2 q2 r2], .int .i64 r.2]) (by rw [results_cell_tmp rfl]; go_simp) rfl ?_
        exact ⟨_, rfl, HG.out.put3 KC.out _ _ _, put3_below HBE.out (by omega) _ _ _⟩
      | false =>
        have htop : (t : Int) / 2147483648 = 0 := by have h : t / 2147483648 = 0 := HTOP.out; omega
        have HP1 := P1.out
        go_wp2_with fail
        refine (trim_any zs _ (n + 1) e1 wr wr.heap.size HP1.rd HZV.out.2 HP1.cap.1 HP1.cap.2).mono ?_
        rintro e w8 ⟨m8, rfl, hm8, ht8, rfl⟩
        have N8 : Nat32 wr (.slice (some ⟨g1, 0, none⟩) m8 e1) mm := Sl.of_rd HP1.rd hm8 HP1.cap.1 HP1.cap.2 (by rw [ht8, HZV.out.1, HOUT.out.2.1 (by first | rfl | trivial)])
        go_wp2_with fail
        refine (HW.out _ _ (by exact N8)).mono ?_
        rintro e w9 ⟨v9, rfl, hg, hb⟩
        have KC := Lib.hid (KCR.out.to hb)
        have HBE : Hid (Below w.heap.size w w9) := HBR.out.trans (hb.mono HBR.out.size)
        have HG := Lib.hid hg
        obtain ⟨C1, q1, r1, C2, q2, r2, rfl, hq1, hq2⟩ := hg.form
        have cc0 := KC.out.cell 0
        have cc1 := KC.out.cell 1
        have cc2 := KC.out.cell 2
        simp only [List.getElem?_toArray, List.getElem?_cons_zero, List.getElem?_cons_succ] at cc0 cc1 cc2
        have fc0 := KC.out.frozen 0
        have fc1 := KC.out.frozen 1
        have fc2 := KC.out.frozen 2
        clear hb hg hq1 hq2
        go_wp2_with fail
        refine bodyPost_ret (v := .tuple #[.agg #[.bool r.1.neg, .slice C1 q1 r1, .slice C2 q2 r2], .int .i64 r.2]) (by rw [results_cell_tmp rfl]; go_simp) rfl ?_
        exact ⟨_, rfl, HG.out.put3 KC.out _ _ _, put3_below HBE.out (by omega) _ _ _⟩

set_option maxRecDepth 100000 in
set_option maxHeartbeats 6400000 in
theorem bits_or (a b : LN) (va vb : Value) (w : World) (ga : GV w va a) (gb : GV w vb b) (e0 : intErr2 a b = 0) : Calls Tryz.prog 4 #[.int .i64 2, va, vb] w (SPost w (fracS 0 (bop 1 a.neg b.neg) (bitsM 1 a b) 1)) := by
  have GA := Lib.hid ga
  have GB := Lib.hid gb
  have HOK := Lib.hid (And.intro ga.ok gb.ok)
  obtain ⟨B1, m1, d1, B2, m2, d2, rfl, hq1, hq2⟩ := ga.form
  have hm1 := hq1
  clear hq1 hq2
  obtain ⟨B3, m3, d3, B4, m4, d4, rfl, hq1, hq2⟩ := gb.form
  have hm3 := hq1
  clear hq1 hq2 ga gb
  have HBK := Lib.hid (blk_3 w 24 24 24 #[.bool a.neg, .slice B1 m1 d1, .slice B2 m2 d2] #[.bool b.neg, .slice B3 m3 d3, .slice B4 m4 d4] #[.bool false, .slice none 0 0, .slice none 0 0])
  have HI : Hid (∀ (W : World) (g cap : Nat) (t : TypeId), Blk W g t #[.bool a.neg, .slice B1 m1 d1, .slice B2 m2 d2, .bool b.neg, .slice B3 m3 d3, .slice B4 m4 d4] → GV W (.agg #[.bool a.neg, .slice B1 m1 d1, .slice B2 m2 d2]) a → GV W (.agg #[.bool b.neg, .slice B3 m3 d3, .slice B4 m4 d4]) b → Calls Tryz.prog 9 #[.slice (some ⟨g, 0, none⟩) 2 cap] W fun e w' => e = .returned (.int .i64 0) ∧ Below W.heap.size W w') := fun W g cap t h1 h2 h3 => by
    have := integers_two a b g cap _ _ _ _ W t h1 h2 h3
    rw [e0] at this
    exact this
  obtain ⟨⟨ea, eb⟩, _⟩ := intErr2_zero.1 e0
  obtain ⟨p1, p2, p3, p4, _⟩ := LN.good HOK.out.1 ea
  obtain ⟨q1, q2, q3, q4, _⟩ := LN.good HOK.out.2 eb
  rw [← hm1] at p3
  rw [← hm3] at q3
  obtain ⟨n, hn⟩ : ∃ n : Nat, n = max m1 m3 := ⟨_, rfl⟩
  have hnb : n ≤ 128 := by omega
  have hOUT := bits_out (o := 1) (n := n) HOK.out.1 HOK.out.2 ea eb ⟨by omega, by omega⟩
  have HLEN : Hid ((digs W32 (bitsM 1 a b)).length ≤ 200) := Nat.le_trans (bitsM_len hOUT.2.2.2) (by omega)
  have HT1 : Hid (∀ (W : World) (u : Value), GV W u a → Calls Tryz.prog 10 #[u, .int .i64 ((n : Int) + 1)] W (LimbPost W (n + 1) (twN (n + 1) a.neg a.x))) := fun W u h => twos_any a (n + 1) u W h (by omega) (by omega)
  have HT2 : Hid (∀ (W : World) (u : Value), GV W u b → Calls Tryz.prog 10 #[u, .int .i64 ((n : Int) + 1)] W (LimbPost W (n + 1) (twN (n + 1) b.neg b.x))) := fun W u h => twos_any b (n + 1) u W h (by omega) (by omega)
  have HW : Hid (∀ (W : World) (v : Value), Nat32 W v (bitsM 1 a b) → Calls Tryz.prog 11 #[.bool (bop 1 a.neg b.neg), v] W (SPost W (fracS 0 (bop 1 a.neg b.neg) (bitsM 1 a b) 1))) := fun W v h => whole_S _ _ v W h (by have := HLEN.out; omega)
  have hmx : max (m1 : Int) (m3 : Int) = (n : Int) := by omega
  generalize fracS 0 (bop 1 a.neg b.neg) (bitsM 1 a b) 1 = r at *
  generalize bitsM 1 a b = mm at *
  generalize bop 1 a.neg b.neg = sg at *
  generalize twN (n + 1) a.neg a.x = X at *
  generalize twN (n + 1) b.neg b.x = Y at *
  have HOUT := Lib.hid hOUT
  clear e0 ea eb p1 p2 q1 q2 p4 q4 hOUT hm1 hm3 hn p3 q3
  go_enter Tryz.func4, Tryz.ntmps4
  go_wp2_with fail
  refine (HI.out _ _ _ _ (by exact blk_4 w _ _ _ _ _) (by exact GA.out.to (below_4 w _ _ _ _)) (by exact GB.out.to (below_4 w _ _ _ _))).mono ?_
  rintro e w1 ⟨rfl, hb⟩
  have KA := Lib.hid ((HBK.out.1.alloc _).to hb)
  have KB := Lib.hid ((HBK.out.2.1.alloc _).to hb)
  have KC := Lib.hid ((HBK.out.2.2.alloc _).to hb)
  have HBE : Hid (Below w.heap.size w w1) := (below_4 w _ _ _ _).trans (hb.mono (below_4 w _ _ _ _).size)
  have GA := Lib.hid (GA.out.to HBE.out)
  have GB := Lib.hid (GB.out.to HBE.out)
  have HLT : Hid (w.heap.size + 1 + 1 < w1.heap.size) := KC.out.lt
  clear hb HI HBK
  have ca0 := KA.out.cell 0
  have ca1 := KA.out.cell 1
  have ca2 := KA.out.cell 2
  have cb0 := KB.out.cell 0
  have cb1 := KB.out.cell 1
  have cb2 := KB.out.cell 2
  simp only [List.getElem?_toArray, List.getElem?_cons_zero, List.getElem?_cons_succ] at ca0 ca1 ca2 cb0 cb1 cb2
  have HKW : Hid (∀ w' : World, Below w1.drew.heap.size w1.drew w' → (w'.cell? ⟨w.heap.size, 0, none⟩ = some (.bool a.neg) ∧ w'.cell? ⟨w.heap.size, 1, none⟩ = some (.slice B1 m1 d1) ∧ w'.cell? ⟨w.heap.size, 2, none⟩ = some (.slice B2 m2 d2) ∧ w'.cell? ⟨w.heap.size + 1, 0, none⟩ = some (.bool b.neg) ∧ w'.cell? ⟨w.heap.size + 1, 1, none⟩ = some (.slice B3 m3 d3) ∧ w'.cell? ⟨w.heap.size + 1, 2, none⟩ = some (.slice B4 m4 d4))) := fun W' h => by
    have ka := KA.out.drew.to h
    have kb := KB.out.drew.to h
    exact ⟨ka.cell 0, ka.cell 1, ka.cell 2, kb.cell 0, kb.cell 1, kb.cell 2⟩
  have HD0 : Hid (Below w1.drew.heap.size w1.drew w1.drew) := Below.refl _ _
  have GAD := Lib.hid (GA.out.to (Below.refl _ w1).drew)
  have GBD := Lib.hid (GB.out.to (Below.refl _ w1).drew)
  have hlt := KB.out.lt
  go_wp2_with fail
  go_region_held3 (fun w' => w'.cell? ⟨w.heap.size, 0, none⟩ = some (.bool a.neg) ∧ w'.cell? ⟨w.heap.size, 1, none⟩ = some (.slice B1 m1 d1) ∧ w'.cell? ⟨w.heap.size, 2, none⟩ = some (.slice B2 m2 d2) ∧ w'.cell? ⟨w.heap.size + 1, 0, none⟩ = some (.bool b.neg) ∧ w'.cell? ⟨w.heap.size + 1, 1, none⟩ = some (.slice B3 m3 d3) ∧ w'.cell? ⟨w.heap.size + 1, 2, none⟩ = some (.slice B4 m4 d4))
    (first | (with_reducible exact HKW.out _ (Hid.out (by assumption))) | (go_keep; done))
    (first
      | (go_at_call 10; ((with_reducible refine (HT1.out _ _ (by exact GAD.out)).mono ?_)); rintro e y1 ⟨g1, e1, xs, rfl, ho1, hk1, hv1, hb1⟩; have HD1 : Hid (Below w1.drew.heap.size w1.drew y1) := hb1)
      | (go_at_call 10; ((with_reducible refine (HT2.out _ _ (by exact GBD.out.to hb1)).mono ?_)); rintro e y2 ⟨g2, e2, ys, rfl, ho2, hk2, hv2, hb2⟩; have HD2 : Hid (Below w1.drew.heap.size w1.drew y2) := hb1.trans (hb2.mono hb1.size)))
  have HBE : Hid (Below w.heap.size w y2) := HBE.out.drew.trans (HD2.out.mono HBE.out.drew.size)
  have KC := Lib.hid (KC.out.drew.to HD2.out)
  have hne : g1 ≠ g2 := by have := ho1.lt.2; have := ho2.lt.1; omega
  have O1 : Hid (Own .u32 35 y2 w1.heap.size g1 (n + 1) e1 xs) := ho1.to hb2
  have O2 : Hid (Own .u32 35 y2 w1.heap.size g2 (n + 1) e2 ys) := ⟨ho2.1, Joins.ownsRow_le ho2.2 hb1.size⟩
  obtain ⟨zs, HZS⟩ : ∃ zs, Hid (zs = List.zipWith (nbop 1) xs ys) := ⟨_, rfl⟩
  have HZL : Hid (zs.length = n + 1 ∧ xs.length = n + 1 ∧ ys.length = n + 1) := ⟨by rw [HZS.out]; exact zip_len _ ho1.1 ho2.1, ho1.1, ho2.1⟩
  have HZV : Hid (val W32 zs = nbop 1 X Y ∧ Ok W32 zs) := ⟨by rw [HZS.out, val_zip 1 _ _ hk1 hk2 (by rw [ho1.1, ho2.1]), hv1, hv2], by rw [HZS.out]; exact ok_zip _ _ _ hk1 hk2⟩
  have HKX := Lib.hid (And.intro hk1 hk2)
  clear hb1 hb2 HD0 HD1 HD2 HKW GAD GBD GA GB KA KB ho1 ho2 hv1 hv2 hk1 hk2 HT1 HT2
  have hs1 : w.heap.size + 1 + 1 < w1.heap.size := HLT.out
  go_wp2_with fail
  go_loopg [37] (n + 1) (fun gk s37 wr => ∃ (j : Nat), gk + j = n + 1 ∧ s37 = .int .i64 (j : Int) ∧ Hid (Own .u32 35 wr w1.heap.size g1 (n + 1) e1 (zs.take j ++ xs.drop j)) ∧ Hid (Own .u32 35 wr w1.heap.size g2 (n + 1) e2 ys) ∧ Hid (Below w.heap.size w wr) ∧ Hid (Blk wr (w.heap.size + 1 + 1) 24 #[.bool false, .slice none 0 0, .slice none 0 0]))
  case atStart => exact ⟨0, by omega, rfl, by unfold Hid; rw [List.take_zero, List.nil_append, List.drop_zero]; exact O1.out, O2.out, HBE.out, KC.out⟩
  case round =>
    obtain ⟨j, hgj, rfl, P1, P2, HBR, KCR⟩ := hrel
    by_cases hj : j < n + 1
    · obtain ⟨px, HPX⟩ : ∃ px, Hid (xs.getD j 0 = px) := ⟨_, rfl⟩
      obtain ⟨py, HPY⟩ : ∃ py, Hid (ys.getD j 0 = py) := ⟨_, rfl⟩
      have hpx : px < 4294967296 := by rw [← HPX.out]; exact HKX.out.1.getD (by decide) _
      have hpy : py < 4294967296 := by rw [← HPY.out]; exact HKX.out.2.getD (by decide) _
      obtain ⟨q, hq, HQ⟩ : ∃ q : Nat, bits .or .u32 (px : Int) (py : Int) = (q : Int) ∧ Hid (q = nbop 1 px py) := ⟨_, bits_u32_op 1 (by omega) px py hpx hpy, rfl⟩
      have HQZ : Hid (zs.getD j 0 = q) := by rw [HZS.out, zip_getD 1 HZL.out.2.1 HZL.out.2.2 hj, HPX.out, HPY.out]; exact HQ.out.symm
      have hc1 : wr.cell? ⟨g1, j, none⟩ = some (.int .u32 (px : Int)) := by have := P1.out.cell hj; rw [part_getD HZL.out.1 HZL.out.2.1 hj, HPX.out] at this; exact this
      have hc2 : wr.cell? ⟨g2, j, none⟩ = some (.int .u32 (py : Int)) := by have := P2.out.cell hj; rw [HPY.out] at this; exact this
      have hf1 := P1.out.frozen j
      go_wp2_with fail
      go_region
      all_goals go_wp2_with fail
      all_goals go_roundg (gk - 1)
      all_goals (first | (show _ < _; omega) | skip)
      all_goals
        have hg1 := P1.out.lt
        refine ⟨j + 1, by omega, by go_num, ?_, (P2.out.far (p := ⟨g1, j, none⟩) (Ne.symm hne) _).drew, (HBR.out.setCell (p := ⟨g1, j, none⟩) (by show _ ≤ g1; omega) _).drew, (KCR.out.far (p := ⟨g1, j, none⟩) (by show _ ≠ g1; omega) _).drew⟩
        have := P1.out.stored j q
        rw [← HQZ.out, part_set HZL.out.1 HZL.out.2.1 hj, HQZ.out] at this
        exact this.drew
    · obtain rfl : j = n + 1 := by omega
      have P1 : Hid (Own .u32 35 wr w1.heap.size g1 (n + 1) e1 zs) := by have := P1.out; rw [part_all HZL.out.1 HZL.out.2.1] at this; exact this
      obtain ⟨t, HTE⟩ : ∃ t, Hid (zs.getD n 0 = t) := ⟨_, rfl⟩
      have ht : t < 4294967296 := by rw [← HTE.out]; exact HZV.out.2.getD (by decide) _
      have hc1 : wr.cell? ⟨g1, n, none⟩ = some (.int .u32 (t : Int)) := by have := P1.out.cell (i := n) (by omega); rw [HTE.out] at this; exact this
      have HTOP : Hid (t / 2147483648 = if sg then 1 else 0) := by
        have h := top_bit HZV.out.2 HZL.out.1
        rw [HZV.out.1, HOUT.out.1, HTE.out] at h
        exact h.symm
      clear O1 O2 HBE KC P2
      cases sg with
      | true =>
        have htop : (t : Int) / 2147483648 = 1 := by have h : t / 2147483648 = 1 := HTOP.out; omega
        have HNG : Hid (∀ (W : World) (v : Value), Sl .u32 W v zs → Calls Tryz.prog 13 #[v] W fun e w' => ∃ g c out, e = .returned (.slice (some ⟨g, 0, none⟩) (n + 1) c) ∧ Own .u32 35 w' W.heap.size g (n + 1) c out ∧ Ok W32 out ∧ val W32 out = mm ∧ Below W.heap.size W w') := fun W v h => by
          have := negated_any zs v W h HZV.out.2 (by have := HZL.out.1; omega)
          rw [HZL.out.1, HZV.out.1, HOUT.out.2.2.1 (by first | rfl | trivial)] at this
          exact this
        go_wp2_with fail
        refine (HNG.out _ _ (by exact P1.out.sl)).mono ?_
        rintro e w7 ⟨g7, c7, out7, rfl, ho7, hk7, hv7, hb7⟩
        go_wp2_with fail
        refine (trim_any out7 _ (n + 1) c7 w7 w7.heap.size ho7.rd hk7 ho7.cap.1 ho7.cap.2).mono ?_
        rintro e w8 ⟨m8, rfl, hm8, ht8, rfl⟩
        have N8 : Nat32 w7 (.slice (some ⟨g7, 0, none⟩) m8 c7) mm := Sl.of_rd ho7.rd hm8 ho7.cap.1 ho7.cap.2 (by rw [ht8, hv7])
        have KC7 := KCR.out.to hb7
        have HB7 := HBR.out.trans (hb7.mono HBR.out.size)
        go_wp2_with fail
        refine (HW.out _ _ (by exact N8)).mono ?_
        rintro e w9 ⟨v9, rfl, hg, hb⟩
        have KC := Lib.hid (KC7.to hb)
        have HBE : Hid (Below w.heap.size w w9) := HB7.trans (hb.mono HB7.size)
        have HG := Lib.hid hg
        obtain ⟨C1, q1, r1, C2, q2, r2, rfl, hq1, hq2⟩ := hg.form
        have cc0 := KC.out.cell 0
        have cc1 := KC.out.cell 1
        have cc2 := KC.out.cell 2
        simp only [List.getElem?_toArray, List.getElem?_cons_zero, List.getElem?_cons_succ] at cc0 cc1 cc2
        have fc0 := KC.out.frozen 0
        have fc1 := KC.out.frozen 1
        have fc2 := KC.out.frozen 2
        clear hb hg hq1 hq2
        go_wp2_with fail
        refine bodyPost_ret (v := .tuple #[.agg #[.bool r.1.neg, .slice C1 q1 r1, .slice C2 q2 r2], .int .i64 r.2]) (by rw [results_cell_tmp rfl]; go_simp) rfl ?_
        exact ⟨_, rfl, HG.out.put3 KC.out _ _ _, put3_below HBE.out (by omega) _ _ _⟩
      | false =>
        have htop : (t : Int) / 2147483648 = 0 := by have h : t / 2147483648 = 0 := HTOP.out; omega
        have HP1 := P1.out
        go_wp2_with fail
        refine (trim_any zs _ (n + 1) e1 wr wr.heap.size HP1.rd HZV.out.2 HP1.cap.1 HP1.cap.2).mono ?_
        rintro e w8 ⟨m8, rfl, hm8, ht8, rfl⟩
        have N8 : Nat32 wr (.slice (some ⟨g1, 0, none⟩) m8 e1) mm := Sl.of_rd HP1.rd hm8 HP1.cap.1 HP1.cap.2 (by rw [ht8, HZV.out.1, HOUT.out.2.1 (by first | rfl | trivial)])
        go_wp2_with fail
        refine (HW.out _ _ (by exact N8)).mono ?_
        rintro e w9 ⟨v9, rfl, hg, hb⟩
        have KC := Lib.hid (KCR.out.to hb)
        have HBE : Hid (Below w.heap.size w w9) := HBR.out.trans (hb.mono HBR.out.size)
        have HG := Lib.hid hg
        obtain ⟨C1, q1, r1, C2, q2, r2, rfl, hq1, hq2⟩ := hg.form
        have cc0 := KC.out.cell 0
        have cc1 := KC.out.cell 1
        have cc2 := KC.out.cell 2
        simp only [List.getElem?_toArray, List.getElem?_cons_zero, List.getElem?_cons_succ] at cc0 cc1 cc2
        have fc0 := KC.out.frozen 0
        have fc1 := KC.out.frozen 1
        have fc2 := KC.out.frozen 2
        clear hb hg hq1 hq2
        go_wp2_with fail
        refine bodyPost_ret (v := .tuple #[.agg #[.bool r.1.neg, .slice C1 q1 r1, .slice C2 q2 r2], .int .i64 r.2]) (by rw [results_cell_tmp rfl]; go_simp) rfl ?_
        exact ⟨_, rfl, HG.out.put3 KC.out _ _ _, put3_below HBE.out (by omega) _ _ _⟩

set_option maxRecDepth 100000 in
set_option maxHeartbeats 6400000 in
theorem bits_xor (a b : LN) (va vb : Value) (w : World) (ga : GV w va a) (gb : GV w vb b) (e0 : intErr2 a b = 0) : Calls Tryz.prog 4 #[.int .i64 3, va, vb] w (SPost w (fracS 0 (bop 2 a.neg b.neg) (bitsM 2 a b) 1)) := by
  have GA := Lib.hid ga
  have GB := Lib.hid gb
  have HOK := Lib.hid (And.intro ga.ok gb.ok)
  obtain ⟨B1, m1, d1, B2, m2, d2, rfl, hq1, hq2⟩ := ga.form
  have hm1 := hq1
  clear hq1 hq2
  obtain ⟨B3, m3, d3, B4, m4, d4, rfl, hq1, hq2⟩ := gb.form
  have hm3 := hq1
  clear hq1 hq2 ga gb
  have HBK := Lib.hid (blk_3 w 24 24 24 #[.bool a.neg, .slice B1 m1 d1, .slice B2 m2 d2] #[.bool b.neg, .slice B3 m3 d3, .slice B4 m4 d4] #[.bool false, .slice none 0 0, .slice none 0 0])
  have HI : Hid (∀ (W : World) (g cap : Nat) (t : TypeId), Blk W g t #[.bool a.neg, .slice B1 m1 d1, .slice B2 m2 d2, .bool b.neg, .slice B3 m3 d3, .slice B4 m4 d4] → GV W (.agg #[.bool a.neg, .slice B1 m1 d1, .slice B2 m2 d2]) a → GV W (.agg #[.bool b.neg, .slice B3 m3 d3, .slice B4 m4 d4]) b → Calls Tryz.prog 9 #[.slice (some ⟨g, 0, none⟩) 2 cap] W fun e w' => e = .returned (.int .i64 0) ∧ Below W.heap.size W w') := fun W g cap t h1 h2 h3 => by
    have := integers_two a b g cap _ _ _ _ W t h1 h2 h3
    rw [e0] at this
    exact this
  obtain ⟨⟨ea, eb⟩, _⟩ := intErr2_zero.1 e0
  obtain ⟨p1, p2, p3, p4, _⟩ := LN.good HOK.out.1 ea
  obtain ⟨q1, q2, q3, q4, _⟩ := LN.good HOK.out.2 eb
  rw [← hm1] at p3
  rw [← hm3] at q3
  obtain ⟨n, hn⟩ : ∃ n : Nat, n = max m1 m3 := ⟨_, rfl⟩
  have hnb : n ≤ 128 := by omega
  have hOUT := bits_out (o := 2) (n := n) HOK.out.1 HOK.out.2 ea eb ⟨by omega, by omega⟩
  have HLEN : Hid ((digs W32 (bitsM 2 a b)).length ≤ 200) := Nat.le_trans (bitsM_len hOUT.2.2.2) (by omega)
  have HT1 : Hid (∀ (W : World) (u : Value), GV W u a → Calls Tryz.prog 10 #[u, .int .i64 ((n : Int) + 1)] W (LimbPost W (n + 1) (twN (n + 1) a.neg a.x))) := fun W u h => twos_any a (n + 1) u W h (by omega) (by omega)
  have HT2 : Hid (∀ (W : World) (u : Value), GV W u b → Calls Tryz.prog 10 #[u, .int .i64 ((n : Int) + 1)] W (LimbPost W (n + 1) (twN (n + 1) b.neg b.x))) := fun W u h => twos_any b (n + 1) u W h (by omega) (by omega)
  have HW : Hid (∀ (W : World) (v : Value), Nat32 W v (bitsM 2 a b) → Calls Tryz.prog 11 #[.bool (bop 2 a.neg b.neg), v] W (SPost W (fracS 0 (bop 2 a.neg b.neg) (bitsM 2 a b) 1))) := fun W v h => whole_S _ _ v W h (by have := HLEN.out; omega)
  have hmx : max (m1 : Int) (m3 : Int) = (n : Int) := by omega
  generalize fracS 0 (bop 2 a.neg b.neg) (bitsM 2 a b) 1 = r at *
  generalize bitsM 2 a b = mm at *
  generalize bop 2 a.neg b.neg = sg at *
  generalize twN (n + 1) a.neg a.x = X at *
  generalize twN (n + 1) b.neg b.x = Y at *
  have HOUT := Lib.hid hOUT
  clear e0 ea eb p1 p2 q1 q2 p4 q4 hOUT hm1 hm3 hn p3 q3
  go_enter Tryz.func4, Tryz.ntmps4
  go_wp2_with fail
  refine (HI.out _ _ _ _ (by exact blk_4 w _ _ _ _ _) (by exact GA.out.to (below_4 w _ _ _ _)) (by exact GB.out.to (below_4 w _ _ _ _))).mono ?_
  rintro e w1 ⟨rfl, hb⟩
  have KA := Lib.hid ((HBK.out.1.alloc _).to hb)
  have KB := Lib.hid ((HBK.out.2.1.alloc _).to hb)
  have KC := Lib.hid ((HBK.out.2.2.alloc _).to hb)
  have HBE : Hid (Below w.heap.size w w1) := (below_4 w _ _ _ _).trans (hb.mono (below_4 w _ _ _ _).size)
  have GA := Lib.hid (GA.out.to HBE.out)
  have GB := Lib.hid (GB.out.to HBE.out)
  have HLT : Hid (w.heap.size + 1 + 1 < w1.heap.size) := KC.out.lt
  clear hb HI HBK
  have ca0 := KA.out.cell 0
  have ca1 := KA.out.cell 1
  have ca2 := KA.out.cell 2
  have cb0 := KB.out.cell 0
  have cb1 := KB.out.cell 1
  have cb2 := KB.out.cell 2
  simp only [List.getElem?_toArray, List.getElem?_cons_zero, List.getElem?_cons_succ] at ca0 ca1 ca2 cb0 cb1 cb2
  have HKW : Hid (∀ w' : World, Below w1.drew.heap.size w1.drew w' → (w'.cell? ⟨w.heap.size, 0, none⟩ = some (.bool a.neg) ∧ w'.cell? ⟨w.heap.size, 1, none⟩ = some (.slice B1 m1 d1) ∧ w'.cell? ⟨w.heap.size, 2, none⟩ = some (.slice B2 m2 d2) ∧ w'.cell? ⟨w.heap.size + 1, 0, none⟩ = some (.bool b.neg) ∧ w'.cell? ⟨w.heap.size + 1, 1, none⟩ = some (.slice B3 m3 d3) ∧ w'.cell? ⟨w.heap.size + 1, 2, none⟩ = some (.slice B4 m4 d4))) := fun W' h => by
    have ka := KA.out.drew.to h
    have kb := KB.out.drew.to h
    exact ⟨ka.cell 0, ka.cell 1, ka.cell 2, kb.cell 0, kb.cell 1, kb.cell 2⟩
  have HD0 : Hid (Below w1.drew.heap.size w1.drew w1.drew) := Below.refl _ _
  have GAD := Lib.hid (GA.out.to (Below.refl _ w1).drew)
  have GBD := Lib.hid (GB.out.to (Below.refl _ w1).drew)
  have hlt := KB.out.lt
  go_wp2_with fail
  go_region_held3 (fun w' => w'.cell? ⟨w.heap.size, 0, none⟩ = some (.bool a.neg) ∧ w'.cell? ⟨w.heap.size, 1, none⟩ = some (.slice B1 m1 d1) ∧ w'.cell? ⟨w.heap.size, 2, none⟩ = some (.slice B2 m2 d2) ∧ w'.cell? ⟨w.heap.size + 1, 0, none⟩ = some (.bool b.neg) ∧ w'.cell? ⟨w.heap.size + 1, 1, none⟩ = some (.slice B3 m3 d3) ∧ w'.cell? ⟨w.heap.size + 1, 2, none⟩ = some (.slice B4 m4 d4))
    (first | (with_reducible exact HKW.out _ (Hid.out (by assumption))) | (go_keep; done))
    (first
      | (go_at_call 10; ((with_reducible refine (HT1.out _ _ (by exact GAD.out)).mono ?_)); rintro e y1 ⟨g1, e1, xs, rfl, ho1, hk1, hv1, hb1⟩; have HD1 : Hid (Below w1.drew.heap.size w1.drew y1) := hb1)
      | (go_at_call 10; ((with_reducible refine (HT2.out _ _ (by exact GBD.out.to hb1)).mono ?_)); rintro e y2 ⟨g2, e2, ys, rfl, ho2, hk2, hv2, hb2⟩; have HD2 : Hid (Below w1.drew.heap.size w1.drew y2) := hb1.trans (hb2.mono hb1.size)))
  have HBE : Hid (Below w.heap.size w y2) := HBE.out.drew.trans (HD2.out.mono HBE.out.drew.size)
  have KC := Lib.hid (KC.out.drew.to HD2.out)
  have hne : g1 ≠ g2 := by have := ho1.lt.2; have := ho2.lt.1; omega
  have O1 : Hid (Own .u32 35 y2 w1.heap.size g1 (n + 1) e1 xs) := ho1.to hb2
  have O2 : Hid (Own .u32 35 y2 w1.heap.size g2 (n + 1) e2 ys) := ⟨ho2.1, Joins.ownsRow_le ho2.2 hb1.size⟩
  obtain ⟨zs, HZS⟩ : ∃ zs, Hid (zs = List.zipWith (nbop 2) xs ys) := ⟨_, rfl⟩
  have HZL : Hid (zs.length = n + 1 ∧ xs.length = n + 1 ∧ ys.length = n + 1) := ⟨by rw [HZS.out]; exact zip_len _ ho1.1 ho2.1, ho1.1, ho2.1⟩
  have HZV : Hid (val W32 zs = nbop 2 X Y ∧ Ok W32 zs) := ⟨by rw [HZS.out, val_zip 2 _ _ hk1 hk2 (by rw [ho1.1, ho2.1]), hv1, hv2], by rw [HZS.out]; exact ok_zip _ _ _ hk1 hk2⟩
  have HKX := Lib.hid (And.intro hk1 hk2)
  clear hb1 hb2 HD0 HD1 HD2 HKW GAD GBD GA GB KA KB ho1 ho2 hv1 hv2 hk1 hk2 HT1 HT2
  have hs1 : w.heap.size + 1 + 1 < w1.heap.size := HLT.out
  go_wp2_with fail
  go_loopg [37] (n + 1) (fun gk s37 wr => ∃ (j : Nat), gk + j = n + 1 ∧ s37 = .int .i64 (j : Int) ∧ Hid (Own .u32 35 wr w1.heap.size g1 (n + 1) e1 (zs.take j ++ xs.drop j)) ∧ Hid (Own .u32 35 wr w1.heap.size g2 (n + 1) e2 ys) ∧ Hid (Below w.heap.size w wr) ∧ Hid (Blk wr (w.heap.size + 1 + 1) 24 #[.bool false, .slice none 0 0, .slice none 0 0]))
  case atStart => exact ⟨0, by omega, rfl, by unfold Hid; rw [List.take_zero, List.nil_append, List.drop_zero]; exact O1.out, O2.out, HBE.out, KC.out⟩
  case round =>
    obtain ⟨j, hgj, rfl, P1, P2, HBR, KCR⟩ := hrel
    by_cases hj : j < n + 1
    · obtain ⟨px, HPX⟩ : ∃ px, Hid (xs.getD j 0 = px) := ⟨_, rfl⟩
      obtain ⟨py, HPY⟩ : ∃ py, Hid (ys.getD j 0 = py) := ⟨_, rfl⟩
      have hpx : px < 4294967296 := by rw [← HPX.out]; exact HKX.out.1.getD (by decide) _
      have hpy : py < 4294967296 := by rw [← HPY.out]; exact HKX.out.2.getD (by decide) _
      obtain ⟨q, hq, HQ⟩ : ∃ q : Nat, bits .xor .u32 (px : Int) (py : Int) = (q : Int) ∧ Hid (q = nbop 2 px py) := ⟨_, bits_u32_op 2 (by omega) px py hpx hpy, rfl⟩
      have HQZ : Hid (zs.getD j 0 = q) := by rw [HZS.out, zip_getD 2 HZL.out.2.1 HZL.out.2.2 hj, HPX.out, HPY.out]; exact HQ.out.symm
      have hc1 : wr.cell? ⟨g1, j, none⟩ = some (.int .u32 (px : Int)) := by have := P1.out.cell hj; rw [part_getD HZL.out.1 HZL.out.2.1 hj, HPX.out] at this; exact this
      have hc2 : wr.cell? ⟨g2, j, none⟩ = some (.int .u32 (py : Int)) := by have := P2.out.cell hj; rw [HPY.out] at this; exact this
      have hf1 := P1.out.frozen j
      go_wp2_with fail
      go_region
      all_goals go_wp2_with fail
      all_goals go_roundg (gk - 1)
      all_goals (first | (show _ < _; omega) | skip)
      all_goals
        have hg1 := P1.out.lt
        refine ⟨j + 1, by omega, by go_num, ?_, (P2.out.far (p := ⟨g1, j, none⟩) (Ne.symm hne) _).drew, (HBR.out.setCell (p := ⟨g1, j, none⟩) (by show _ ≤ g1; omega) _).drew, (KCR.out.far (p := ⟨g1, j, none⟩) (by show _ ≠ g1; omega) _).drew⟩
        have := P1.out.stored j q
        rw [← HQZ.out, part_set HZL.out.1 HZL.out.2.1 hj, HQZ.out] at this
        exact this.drew
    · obtain rfl : j = n + 1 := by omega
      have P1 : Hid (Own .u32 35 wr w1.heap.size g1 (n + 1) e1 zs) := by have := P1.out; rw [part_all HZL.out.1 HZL.out.2.1] at this; exact this
      obtain ⟨t, HTE⟩ : ∃ t, Hid (zs.getD n 0 = t) := ⟨_, rfl⟩
      have ht : t < 4294967296 := by rw [← HTE.out]; exact HZV.out.2.getD (by decide) _
      have hc1 : wr.cell? ⟨g1, n, none⟩ = some (.int .u32 (t : Int)) := by have := P1.out.cell (i := n) (by omega); rw [HTE.out] at this; exact this
      have HTOP : Hid (t / 2147483648 = if sg then 1 else 0) := by
        have h := top_bit HZV.out.2 HZL.out.1
        rw [HZV.out.1, HOUT.out.1, HTE.out] at h
        exact h.symm
      clear O1 O2 HBE KC P2
      cases sg with
      | true =>
        have htop : (t : Int) / 2147483648 = 1 := by have h : t / 2147483648 = 1 := HTOP.out; omega
        have HNG : Hid (∀ (W : World) (v : Value), Sl .u32 W v zs → Calls Tryz.prog 13 #[v] W fun e w' => ∃ g c out, e = .returned (.slice (some ⟨g, 0, none⟩) (n + 1) c) ∧ Own .u32 35 w' W.heap.size g (n + 1) c out ∧ Ok W32 out ∧ val W32 out = mm ∧ Below W.heap.size W w') := fun W v h => by
          have := negated_any zs v W h HZV.out.2 (by have := HZL.out.1; omega)
          rw [HZL.out.1, HZV.out.1, HOUT.out.2.2.1 (by first | rfl | trivial)] at this
          exact this
        go_wp2_with fail
        refine (HNG.out _ _ (by exact P1.out.sl)).mono ?_
        rintro e w7 ⟨g7, c7, out7, rfl, ho7, hk7, hv7, hb7⟩
        go_wp2_with fail
        refine (trim_any out7 _ (n + 1) c7 w7 w7.heap.size ho7.rd hk7 ho7.cap.1 ho7.cap.2).mono ?_
        rintro e w8 ⟨m8, rfl, hm8, ht8, rfl⟩
        have N8 : Nat32 w7 (.slice (some ⟨g7, 0, none⟩) m8 c7) mm := Sl.of_rd ho7.rd hm8 ho7.cap.1 ho7.cap.2 (by rw [ht8, hv7])
        have KC7 := KCR.out.to hb7
        have HB7 := HBR.out.trans (hb7.mono HBR.out.size)
        go_wp2_with fail
        refine (HW.out _ _ (by exact N8)).mono ?_
        rintro e w9 ⟨v9, rfl, hg, hb⟩
        have KC := Lib.hid (KC7.to hb)
        have HBE : Hid (Below w.heap.size w w9) := HB7.trans (hb.mono HB7.size)
        have HG := Lib.hid hg
        obtain ⟨C1, q1, r1, C2, q2, r2, rfl, hq1, hq2⟩ := hg.form
        have cc0 := KC.out.cell 0
        have cc1 := KC.out.cell 1
        have cc2 := KC.out.cell 2
        simp only [List.getElem?_toArray, List.getElem?_cons_zero, List.getElem?_cons_succ] at cc0 cc1 cc2
        have fc0 := KC.out.frozen 0
        have fc1 := KC.out.frozen 1
        have fc2 := KC.out.frozen 2
        clear hb hg hq1 hq2
        go_wp2_with fail
        refine bodyPost_ret (v := .tuple #[.agg #[.bool r.1.neg, .slice C1 q1 r1, .slice C2 q2 r2], .int .i64 r.2]) (by rw [results_cell_tmp rfl]; go_simp) rfl ?_
        exact ⟨_, rfl, HG.out.put3 KC.out _ _ _, put3_below HBE.out (by omega) _ _ _⟩
      | false =>
        have htop : (t : Int) / 2147483648 = 0 := by have h : t / 2147483648 = 0 := HTOP.out; omega
        have HP1 := P1.out
        go_wp2_with fail
        refine (trim_any zs _ (n + 1) e1 wr wr.heap.size HP1.rd HZV.out.2 HP1.cap.1 HP1.cap.2).mono ?_
        rintro e w8 ⟨m8, rfl, hm8, ht8, rfl⟩
        have N8 : Nat32 wr (.slice (some ⟨g1, 0, none⟩) m8 e1) mm := Sl.of_rd HP1.rd hm8 HP1.cap.1 HP1.cap.2 (by rw [ht8, HZV.out.1, HOUT.out.2.1 (by first | rfl | trivial)])
        go_wp2_with fail
        refine (HW.out _ _ (by exact N8)).mono ?_
        rintro e w9 ⟨v9, rfl, hg, hb⟩
        have KC := Lib.hid (KCR.out.to hb)
        have HBE : Hid (Below w.heap.size w w9) := HBR.out.trans (hb.mono HBR.out.size)
        have HG := Lib.hid hg
        obtain ⟨C1, q1, r1, C2, q2, r2, rfl, hq1, hq2⟩ := hg.form
        have cc0 := KC.out.cell 0
        have cc1 := KC.out.cell 1
        have cc2 := KC.out.cell 2
        simp only [List.getElem?_toArray, List.getElem?_cons_zero, List.getElem?_cons_succ] at cc0 cc1 cc2
        have fc0 := KC.out.frozen 0
        have fc1 := KC.out.frozen 1
        have fc2 := KC.out.frozen 2
        clear hb hg hq1 hq2
        go_wp2_with fail
        refine bodyPost_ret (v := .tuple #[.agg #[.bool r.1.neg, .slice C1 q1 r1, .slice C2 q2 r2], .int .i64 r.2]) (by rw [results_cell_tmp rfl]; go_simp) rfl ?_
        exact ⟨_, rfl, HG.out.put3 KC.out _ _ _, put3_below HBE.out (by omega) _ _ _⟩

set_option maxRecDepth 100000 in
set_option maxHeartbeats 6400000 in
theorem bits_err (op : Int) (a b : LN) (va vb : Value) (w : World) (ga : GV w va a) (gb : GV w vb b) (e0 : intErr2 a b ≠ 0) : Calls Tryz.prog 4 #[.int .i64 op, va, vb] w (SPost w (zeroL, intErr2 a b)) := by
  have GA := Lib.hid ga
  have GB := Lib.hid gb
  have HOK := Lib.hid (And.intro ga.ok gb.ok)
  obtain ⟨B1, m1, d1, B2, m2, d2, rfl, hq1, hq2⟩ := ga.form
  have hm1 := hq1
  clear hq1 hq2
  obtain ⟨B3, m3, d3, B4, m4, d4, rfl, hq1, hq2⟩ := gb.form
  have hm3 := hq1
  clear hq1 hq2 ga gb
  have HBK := Lib.hid (blk_3 w 24 24 24 #[.bool a.neg, .slice B1 m1 d1, .slice B2 m2 d2] #[.bool b.neg, .slice B3 m3 d3, .slice B4 m4 d4] #[.bool false, .slice none 0 0, .slice none 0 0])
  have HI : Hid (∀ (W : World) (g cap : Nat) (t : TypeId), Blk W g t #[.bool a.neg, .slice B1 m1 d1, .slice B2 m2 d2, .bool b.neg, .slice B3 m3 d3, .slice B4 m4 d4] → GV W (.agg #[.bool a.neg, .slice B1 m1 d1, .slice B2 m2 d2]) a → GV W (.agg #[.bool b.neg, .slice B3 m3 d3, .slice B4 m4 d4]) b → Calls Tryz.prog 9 #[.slice (some ⟨g, 0, none⟩) 2 cap] W fun e w' => e = .returned (.int .i64 (intErr2 a b)) ∧ Below W.heap.size W w') := fun W g cap t h1 h2 h3 => integers_two a b g cap _ _ _ _ W t h1 h2 h3
  have b0 : (intErr2 a b != 0) = true := by rw [bne_iff_ne]; exact e0
  generalize intErr2 a b = z at *
  clear e0 hm1 hm3
  go_enter Tryz.func4, Tryz.ntmps4
  go_wp2_with fail
  refine (HI.out _ _ _ _ (by exact blk_4 w _ _ _ _ _) (by exact GA.out.to (below_4 w _ _ _ _)) (by exact GB.out.to (below_4 w _ _ _ _))).mono ?_
  rintro e w1 ⟨rfl, hb⟩
  have KC := Lib.hid ((HBK.out.2.2.alloc _).to hb)
  have HBE : Hid (Below w.heap.size w w1) := (below_4 w _ _ _ _).trans (hb.mono (below_4 w _ _ _ _).size)
  clear hb HI HBK
  have cc0 := KC.out.cell 0
  have cc1 := KC.out.cell 1
  have cc2 := KC.out.cell 2
  simp only [List.getElem?_toArray, List.getElem?_cons_zero, List.getElem?_cons_succ] at cc0 cc1 cc2
  have fc0 := KC.out.frozen 0
  have fc1 := KC.out.frozen 1
  have fc2 := KC.out.frozen 2
  go_wp2_with fail
  refine bodyPost_ret (v := .tuple #[zeroNum, .int .i64 z]) (by rw [results_cell_tmp rfl]; go_simp; rfl) rfl ?_
  exact ⟨_, rfl, GV.zero _, put3_below HBE.out (by omega) _ _ _⟩

set_option maxRecDepth 100000 in
set_option maxHeartbeats 6400000 in
theorem bits_other (op : Int) (a b : LN) (va vb : Value) (w : World) (ga : GV w va a) (gb : GV w vb b) (e0 : intErr2 a b = 0) (h1 : op ≠ 1) (h2 : op ≠ 2) (h3 : op ≠ 3) : Calls Tryz.prog 4 #[.int .i64 op, va, vb] w (SPost w (zeroL, 1)) := by
  have GA := Lib.hid ga
  have GB := Lib.hid gb
  have HOK := Lib.hid (And.intro ga.ok gb.ok)
  obtain ⟨B1, m1, d1, B2, m2, d2, rfl, hq1, hq2⟩ := ga.form
  have hm1 := hq1
  clear hq1 hq2
  obtain ⟨B3, m3, d3, B4, m4, d4, rfl, hq1, hq2⟩ := gb.form
  have hm3 := hq1
  clear hq1 hq2 ga gb
  have HBK := Lib.hid (blk_3 w 24 24 24 #[.bool a.neg, .slice B1 m1 d1, .slice B2 m2 d2] #[.bool b.neg, .slice B3 m3 d3, .slice B4 m4 d4] #[.bool false, .slice none 0 0, .slice none 0 0])
  have k1 : (op == 1) = false := beq_eq_false_iff_ne.2 h1
  have k2 : (op == 2) = false := beq_eq_false_iff_ne.2 h2
  have k3 : (op == 3) = false := beq_eq_false_iff_ne.2 h3
  clear h1 h2 h3
  have HI : Hid (∀ (W : World) (g cap : Nat) (t : TypeId), Blk W g t #[.bool a.neg, .slice B1 m1 d1, .slice B2 m2 d2, .bool b.neg, .slice B3 m3 d3, .slice B4 m4 d4] → GV W (.agg #[.bool a.neg, .slice B1 m1 d1, .slice B2 m2 d2]) a → GV W (.agg #[.bool b.neg, .slice B3 m3 d3, .slice B4 m4 d4]) b → Calls Tryz.prog 9 #[.slice (some ⟨g, 0, none⟩) 2 cap] W fun e w' => e = .returned (.int .i64 0) ∧ Below W.heap.size W w') := fun W g cap t h1 h2 h3 => by
    have := integers_two a b g cap _ _ _ _ W t h1 h2 h3
    rw [e0] at this
    exact this
  obtain ⟨⟨ea, eb⟩, _⟩ := intErr2_zero.1 e0
  obtain ⟨p1, p2, p3, p4, _⟩ := LN.good HOK.out.1 ea
  obtain ⟨q1, q2, q3, q4, _⟩ := LN.good HOK.out.2 eb
  rw [← hm1] at p3
  rw [← hm3] at q3
  obtain ⟨n, hn⟩ : ∃ n : Nat, n = max m1 m3 := ⟨_, rfl⟩
  have hnb : n ≤ 128 := by omega
  have HT1 : Hid (∀ (W : World) (u : Value), GV W u a → Calls Tryz.prog 10 #[u, .int .i64 ((n : Int) + 1)] W (LimbPost W (n + 1) (twN (n + 1) a.neg a.x))) := fun W u h => twos_any a (n + 1) u W h (by omega) (by omega)
  have HT2 : Hid (∀ (W : World) (u : Value), GV W u b → Calls Tryz.prog 10 #[u, .int .i64 ((n : Int) + 1)] W (LimbPost W (n + 1) (twN (n + 1) b.neg b.x))) := fun W u h => twos_any b (n + 1) u W h (by omega) (by omega)
  have hmx : max (m1 : Int) (m3 : Int) = (n : Int) := by omega
  generalize twN (n + 1) a.neg a.x = X at *
  generalize twN (n + 1) b.neg b.x = Y at *
  clear e0 ea eb p1 p2 q1 q2 p4 q4 hm1 hm3 hn p3 q3
  go_enter Tryz.func4, Tryz.ntmps4
  go_wp2_with fail
  refine (HI.out _ _ _ _ (by exact blk_4 w _ _ _ _ _) (by exact GA.out.to (below_4 w _ _ _ _)) (by exact GB.out.to (below_4 w _ _ _ _))).mono ?_
  rintro e w1 ⟨rfl, hb⟩
  have KA := Lib.hid ((HBK.out.1.alloc _).to hb)
  have KB := Lib.hid ((HBK.out.2.1.alloc _).to hb)
  have KC := Lib.hid ((HBK.out.2.2.alloc _).to hb)
  have HBE : Hid (Below w.heap.size w w1) := (below_4 w _ _ _ _).trans (hb.mono (below_4 w _ _ _ _).size)
  have GA := Lib.hid (GA.out.to HBE.out)
  have GB := Lib.hid (GB.out.to HBE.out)
  have HLT : Hid (w.heap.size + 1 + 1 < w1.heap.size) := KC.out.lt
  clear hb HI HBK
  have ca0 := KA.out.cell 0
  have ca1 := KA.out.cell 1
  have ca2 := KA.out.cell 2
  have cb0 := KB.out.cell 0
  have cb1 := KB.out.cell 1
  have cb2 := KB.out.cell 2
  simp only [List.getElem?_toArray, List.getElem?_cons_zero, List.getElem?_cons_succ] at ca0 ca1 ca2 cb0 cb1 cb2
  have HKW : Hid (∀ w' : World, Below w1.drew.heap.size w1.drew w' → (w'.cell? ⟨w.heap.size, 0, none⟩ = some (.bool a.neg) ∧ w'.cell? ⟨w.heap.size, 1, none⟩ = some (.slice B1 m1 d1) ∧ w'.cell? ⟨w.heap.size, 2, none⟩ = some (.slice B2 m2 d2) ∧ w'.cell? ⟨w.heap.size + 1, 0, none⟩ = some (.bool b.neg) ∧ w'.cell? ⟨w.heap.size + 1, 1, none⟩ = some (.slice B3 m3 d3) ∧ w'.cell? ⟨w.heap.size + 1, 2, none⟩ = some (.slice B4 m4 d4))) := fun W' h => by
    have ka := KA.out.drew.to h
    have kb := KB.out.drew.to h
    exact ⟨ka.cell 0, ka.cell 1, ka.cell 2, kb.cell 0, kb.cell 1, kb.cell 2⟩
  have HD0 : Hid (Below w1.drew.heap.size w1.drew w1.drew) := Below.refl _ _
  have GAD := Lib.hid (GA.out.to (Below.refl _ w1).drew)
  have GBD := Lib.hid (GB.out.to (Below.refl _ w1).drew)
  have hlt := KB.out.lt
  go_wp2_with fail
  go_region_held3 (fun w' => w'.cell? ⟨w.heap.size, 0, none⟩ = some (.bool a.neg) ∧ w'.cell? ⟨w.heap.size, 1, none⟩ = some (.slice B1 m1 d1) ∧ w'.cell? ⟨w.heap.size, 2, none⟩ = some (.slice B2 m2 d2) ∧ w'.cell? ⟨w.heap.size + 1, 0, none⟩ = some (.bool b.neg) ∧ w'.cell? ⟨w.heap.size + 1, 1, none⟩ = some (.slice B3 m3 d3) ∧ w'.cell? ⟨w.heap.size + 1, 2, none⟩ = some (.slice B4 m4 d4))
    (first | (with_reducible exact HKW.out _ (Hid.out (by assumption))) | (go_keep; done))
    (first
      | (go_at_call 10; ((with_reducible refine (HT1.out _ _ (by exact GAD.out)).mono ?_)); rintro e y1 ⟨g1, e1, xs, rfl, ho1, hk1, hv1, hb1⟩; have HD1 : Hid (Below w1.drew.heap.size w1.drew y1) := hb1)
      | (go_at_call 10; ((with_reducible refine (HT2.out _ _ (by exact GBD.out.to hb1)).mono ?_)); rintro e y2 ⟨g2, e2, ys, rfl, ho2, hk2, hv2, hb2⟩; have HD2 : Hid (Below w1.drew.heap.size w1.drew y2) := hb1.trans (hb2.mono hb1.size)))
  have HBE : Hid (Below w.heap.size w y2) := HBE.out.drew.trans (HD2.out.mono HBE.out.drew.size)
  have KC := Lib.hid (KC.out.drew.to HD2.out)
  have hne : g1 ≠ g2 := by have := ho1.lt.2; have := ho2.lt.1; omega
  have O1 : Hid (Own .u32 35 y2 w1.heap.size g1 (n + 1) e1 xs) := ho1.to hb2
  have O2 : Hid (Own .u32 35 y2 w1.heap.size g2 (n + 1) e2 ys) := ⟨ho2.1, Joins.ownsRow_le ho2.2 hb1.size⟩
  have HKX := Lib.hid (And.intro hk1 hk2)
  clear hb1 hb2 HD0 HD1 HD2 HKW GAD GBD GA GB KA KB ho1 ho2 hv1 hv2 hk1 hk2 HT1 HT2
  have hs1 : w.heap.size + 1 + 1 < w1.heap.size := HLT.out
  go_wp2_with fail
  go_loopg [37] (n + 1) (fun gk s37 wr => gk = n + 1 ∧ s37 = .int .i64 (0 : Int) ∧ wr = y2)
  case atStart => exact ⟨rfl, rfl, rfl⟩
  case round =>
    obtain ⟨rfl, rfl, rfl⟩ := hrel
    have cc0 := KC.out.cell 0
    have cc1 := KC.out.cell 1
    have cc2 := KC.out.cell 2
    simp only [List.getElem?_toArray, List.getElem?_cons_zero, List.getElem?_cons_succ] at cc0 cc1 cc2
    have fc0 := KC.out.frozen 0
    have fc1 := KC.out.frozen 1
    have fc2 := KC.out.frozen 2
    go_wp2_with fail
    refine bodyPost_ret (v := .tuple #[zeroNum, .int .i64 1]) (by rw [results_cell_tmp rfl]; go_simp; rfl) rfl ?_
    exact ⟨_, rfl, GV.zero _, put3_below HBE.out (by omega) _ _ _⟩

theorem bitsNum_S (op : Int) (a b : LN) (va vb : Value) (w : World) (ga : GV w va a) (gb : GV w vb b) : Calls Tryz.prog 4 #[.int .i64 op, va, vb] w (SPost w (bitsS op a b)) := by
  unfold bitsS
  by_cases e0 : intErr2 a b = 0
  · rw [if_pos e0]
    by_cases h : 1 ≤ op ∧ op ≤ 3
    · rw [if_pos h]
      have h3 : op = 1 ∨ op = 2 ∨ op = 3 := by omega
      rcases h3 with rfl | rfl | rfl
      · exact bits_and a b va vb w ga gb e0
      · exact bits_or a b va vb w ga gb e0
      · exact bits_xor a b va vb w ga gb e0
    · rw [if_neg h]
      exact bits_other op a b va vb w ga gb e0 (by omega) (by omega) (by omega)
  · rw [if_neg e0]
    exact bits_err op a b va vb w ga gb e0
end Go.Proofs.YtdmhkhnnomdkcaaGreatDoor

/- The reference's matched: bindings, extended. -/
import Derived.Deep.RegionHeld3
import Derived.Test.YtkfnpcilanheiaaGreatJo30
import Derived.Test.YtkfnpcilanheiaaGreatJo33
import Derived.Test.YtkfnpcilanheiaaGreatJo34
set_option linter.unusedVariables false
set_option linter.unusedSimpArgs false
set_option maxRecDepth 100000
namespace Go.Proofs.YtkfnpcilanheiaaGreat
open Go.RowKit NumB
set_option maxHeartbeats 12800000 in
theorem matched_any {w : World} {p : Tm} {cp : List Value} (hp : TC w p cp) : ∀ (t : Tm) (ct : List Value), TC w t ct → p.err0 = 0 → t.err0 = 0 → ∀ (bs : List (Int × Tm)) (lv : Value) (W : World), Below w.heap.size w W → BL W lv bs → Vld bs → bs.length + p.count ≤ 1000000 →
    Calls Tryz.prog 51 #[.agg cp.toArray, .agg ct.toArray, lv] W fun e W' => ∃ lv', e = .returned (.tuple #[lv', .bool (p.mat t bs).isSome]) ∧ Hid (∀ bs', p.mat t bs = some bs' → BL W' lv' bs' ∧ Vld bs' ∧ bs'.length ≤ bs.length + p.count) ∧ Below W.heap.size W W' := by
  induction hp with
  | mk k v s n args A B Ar cap cs hk hv hs hA hB hn hcap hm hr ha ih =>
    intro t ct ht ep et bs lv W hW hM hvd hbl
    have hp0 : TC w (.mk k v s n args) [.int .i64 k, .int .i64 v, .string s, .bool n.neg, A, B, .slice Ar args.length cap] := .mk k v s n args A B Ar cap cs hk hv hs hA hB hn hcap hm hr ha
    have HROO : Hid (∀ W', Below w.heap.size w W' → Calls Tryz.prog 93 #[.agg #[.int .i64 k, .int .i64 v, .string s, .bool n.neg, A, B, .slice Ar args.length cap], .agg ct.toArray] W' fun e w' => e = .returned (.int .i64 (rootsI (.mk k v s n args) t)) ∧ Below W'.heap.size W' w') := fun W' hb => roots_any hp0 t ct ht ep et W' hb
    have HRH : Hid (k ≠ 1 → (rootsI (.mk k v s n args) t = 0 ↔ (Tm.mk k v s n args).hd t = true)) := fun h => roots_hd (hp0.fine ep) (ht.fine et) h
    have HORD : Hid (∀ W1, Below w.heap.size w W1 → ∀ x cx, TC W1 x cx → x.err0 = 0 → ∀ W', Below W1.heap.size W1 W' → Calls Tryz.prog 91 #[.agg cx.toArray, .agg ct.toArray] W' fun e w' => e = .returned (.int .i64 (x.cmp t)) ∧ Below W'.heap.size W' w') := fun W1 hb1 x cx hx ex W' hb => rorder_any hx t ct (ht.to hb1) ex et W' hb
    have HFD : Hid (∀ W1, BL W1 lv bs → ∀ W', Below W1.heap.size W1 W' → Calls Tryz.prog 80 #[lv, .int .i64 v] W' fun e w2 => ∃ cx, e = .returned (.tuple #[.agg cx.toArray, .bool (fnd bs v).isSome]) ∧ TCP (fun b => b < W1.heap.size) w2 ((fnd bs v).getD (.var v)) cx ∧ Below W'.heap.size W' w2) := fun W1 h1 W' hb => rfind_any h1 v hv W' hb
    have HPT : Hid (∀ W', BL W' lv bs → Below w.heap.size w W' → Calls Tryz.prog 92 #[lv, .agg (Value.int .i64 v :: ct).toArray] W' fun e w2 => ∃ ov, e = .returned ov ∧ BL w2 ov (insK (v, t) bs) ∧ Below W'.heap.size W' w2) := fun W' h1 hb => rput_any W' h1 hv (ht.to hb) (by omega)
    cases ht with
    | mk k2 v2 s2 n2 args2 A2 B2 Ar2 cap2 cs2 hk2 hv2 hs2 hA2 hB2 hn2 hcap2 hm2 hr2 ha2 =>
      obtain ⟨np, hep⟩ := err0_node ep
      obtain ⟨nt, het⟩ := err0_node et
      have HEP := Lib.hid hep
      have HET := Lib.hid het
      have HE2 := Lib.hid et
      have hl32 : args.length ≤ 32 := by rcases node_parts np with ⟨_, _, _, _, h⟩ | ⟨_, _, _, _, ⟨_, _, _, _, h⟩ | ⟨_, _, _, h⟩ | ⟨_, _, _, h⟩ | ⟨_, _, _, _, h⟩⟩ <;> omega
      have HCT : Hid ((Tm.mk k v s n args).count = 1 + countL args) := rfl
      have HMT : Hid ((k = 1 → (fnd bs v = none → (Tm.mk k v s n args).mat (.mk k2 v2 s2 n2 args2) bs = some (insK (v, .mk k2 v2 s2 n2 args2) bs)) ∧ ∀ x, fnd bs v = some x → (Tm.mk k v s n args).mat (.mk k2 v2 s2 n2 args2) bs = if x.cmp (.mk k2 v2 s2 n2 args2) = 0 then some bs else none) ∧ (k ≠ 1 → ((Tm.mk k v s n args).hd (.mk k2 v2 s2 n2 args2) = true → args.length = args2.length ∧ (Tm.mk k v s n args).mat (.mk k2 v2 s2 n2 args2) bs = matL args args2 bs) ∧ ((Tm.mk k v s n args).hd (.mk k2 v2 s2 n2 args2) ≠ true → (Tm.mk k v s n args).mat (.mk k2 v2 s2 n2 args2) bs = none))) := by
        refine ⟨fun h => ⟨fun h2 => ?_, fun x h2 => ?_⟩, fun h => ⟨fun h1 => ⟨?_, ?_⟩, fun h2 => ?_⟩⟩
        · rw [Tm.mat, if_pos h, h2]
        · rw [Tm.mat, if_pos h, h2]
        · rw [Tm.hd, decide_eq_true_eq] at h1; exact h1.2.2.1
        · rw [Tm.mat, if_neg h, if_pos h1]; rfl
        · rw [Tm.mat, if_neg h, if_neg h2]
      have HBL : Hid (bs.length + (1 + countL args) ≤ 1000000) := hbl
      have HVD := Lib.hid hvd
      have IH := Lib.hid ih
      have HR := Lib.hid hr
      have HA := Lib.hid ha
      have HR2 := Lib.hid hr2
      have HA2 := Lib.hid ha2
      have HWB := Lib.hid hW
      have HM0 := Lib.hid hM
      unfold maxLen at hm hm2
      obtain ⟨A1, q1, rfl, _⟩ := hA
      obtain ⟨B1, q2, rfl, _⟩ := hB
      obtain ⟨A2, q3, rfl, _⟩ := hA2
      obtain ⟨B2, q4, rfl, _⟩ := hB2
      clear ih hr ha hr2 ha2 hW hM hvd hbl ep et hep het np nt hk hv hs hn hk2 hv2 hs2 hn2 hp0
      generalize (Tm.mk k v s n args).count = ct at *
      generalize hmt : (Tm.mk k v s n args).mat (.mk k2 v2 s2 n2 args2) bs = mt at *
      generalize rootsI (.mk k v s n args) (.mk k2 v2 s2 n2 args2) = ri at *
      generalize (Tm.mk k v s n args).hd (.mk k2 v2 s2 n2 args2) = hdb at *
      generalize Tm.mk k2 v2 s2 n2 args2 = tt at *
      clear hmt
      generalize n.num.length = m1 at *
      generalize n.den.length = m2 at *
      generalize n2.num.length = m3 at *
      generalize n2.den.length = m4 at *
      generalize n.neg = ng at *
      generalize n2.neg = ng2 at *
      obtain ⟨l, hl⟩ : ∃ l, args.length = l := ⟨_, rfl⟩
      obtain ⟨l2, hl2⟩ : ∃ l2, args2.length = l2 := ⟨_, rfl⟩
      rw [hl] at hcap hl32 HMT HROO ⊢
      rw [hl2] at hcap2 HMT HORD HPT HROO ⊢
      have HL := Lib.hid hl
      have HL2 := Lib.hid hl2
      clear hl hl2
      have HB0 : Hid (Below W.heap.size W ((W.alloc (.cells #[.int .i64 k, .int .i64 v, .string s, .bool ng, .slice A1 m1 q1, .slice B1 m2 q2, .slice Ar l cap] 27)).alloc (.cells #[.int .i64 k2, .int .i64 v2, .string s2, .bool ng2, .slice A2 m3 q3, .slice B2 m4 q4, .slice Ar2 l2 cap2] 27))) := below_pair W _ _
      have HKP : Hid (Blk ((W.alloc (.cells #[.int .i64 k, .int .i64 v, .string s, .bool ng, .slice A1 m1 q1, .slice B1 m2 q2, .slice Ar l cap] 27)).alloc (.cells #[.int .i64 k2, .int .i64 v2, .string s2, .bool ng2, .slice A2 m3 q3, .slice B2 m4 q4, .slice Ar2 l2 cap2] 27)) W.heap.size 27 #[.int .i64 k, .int .i64 v, .string s, .bool ng, .slice A1 m1 q1, .slice B1 m2 q2, .slice Ar l cap]) := (Blk.new W _ _).alloc _
      have HKT : Hid (Blk ((W.alloc (.cells #[.int .i64 k, .int .i64 v, .string s, .bool ng, .slice A1 m1 q1, .slice B1 m2 q2, .slice Ar l cap] 27)).alloc (.cells #[.int .i64 k2, .int .i64 v2, .string s2, .bool ng2, .slice A2 m3 q3, .slice B2 m4 q4, .slice Ar2 l2 cap2] 27)) (W.heap.size + 1) 27 #[.int .i64 k2, .int .i64 v2, .string s2, .bool ng2, .slice A2 m3 q3, .slice B2 m4 q4, .slice Ar2 l2 cap2]) := blk_2nd W _ _
      go_enter Tryz.func51, Tryz.ntmps51
      by_cases hk1 : k = 1
      · subst hk1
        have HMV := Lib.hid (HMT.out.1 rfl)
        have HFN := Lib.hid (HFD.out W HM0.out _ HB0.out)
        clear HMT IH HROO HRH HFD
        go_wp2_with fail
        refine HFN.out.mono ?_
        rintro e w1 ⟨cx, rfl, htx, hb1⟩
        obtain ⟨k7, v7, st7, ng7, A7, n7, c7, B7, b7, d7, X7, l7, e7, hf7⟩ := htx.form
        subst hf7
        have HB1 : Hid (Below W.heap.size W (w1.alloc (.cells #[.int .i64 k7, .int .i64 v7, .string st7, .bool ng7, .slice A7 n7 c7, .slice B7 b7 d7, .slice X7 l7 e7] 27))) := HB0.out.trans ((hb1.trans ((below_one w1 _).mono hb1.size)).mono HB0.out.size)
        have HT1 := Lib.hid ((HKT.out.to hb1).to (below_one w1 (.cells #[.int .i64 k7, .int .i64 v7, .string st7, .bool ng7, .slice A7 n7 c7, .slice B7 b7 d7, .slice X7 l7 e7] 27)))
        have HP1 := Lib.hid ((HKP.out.to hb1).to (below_one w1 (.cells #[.int .i64 k7, .int .i64 v7, .string st7, .bool ng7, .slice A7 n7 c7, .slice B7 b7 d7, .slice X7 l7 e7] 27)))
        have HBW : Hid (Below w.heap.size w (w1.alloc (.cells #[.int .i64 k7, .int .i64 v7, .string st7, .bool ng7, .slice A7 n7 c7, .slice B7 b7 d7, .slice X7 l7 e7] 27))) := HWB.out.trans (HB1.out.mono HWB.out.size)
        have HM1 : Hid (BL (w1.alloc (.cells #[.int .i64 k7, .int .i64 v7, .string st7, .bool ng7, .slice A7 n7 c7, .slice B7 b7 d7, .slice X7 l7 e7] 27)) lv bs) := HM0.out.to HB1.out
        have HX1 : Hid (TC (w1.alloc (.cells #[.int .i64 k7, .int .i64 v7, .string st7, .bool ng7, .slice A7 n7 c7, .slice B7 b7 d7, .slice X7 l7 e7] 27)) ((fnd bs v).getD (.var v)) [.int .i64 k7, .int .i64 v7, .string st7, .bool ng7, .slice A7 n7 c7, .slice B7 b7 d7, .slice X7 l7 e7]) := htx.tc.to (below_one w1 _)
        clear htx hb1 HB0 HKT HKP HFN HM0
        have hy0 := HT1.out.cell 0
        have hy1 := HT1.out.cell 1
        have hy2 := HT1.out.cell 2
        have hy3 := HT1.out.cell 3
        have hy4 := HT1.out.cell 4
        have hy5 := HT1.out.cell 5
        have hy6 := HT1.out.cell 6
        simp only [List.getElem?_toArray, List.getElem?_cons_zero, List.getElem?_cons_succ] at hy0 hy1 hy2 hy3 hy4 hy5 hy6
        have hx0 := HP1.out.cell 0
        have hx1 := HP1.out.cell 1
        have hx2 := HP1.out.cell 2
        have hx3 := HP1.out.cell 3
        have hx4 := HP1.out.cell 4
        have hx5 := HP1.out.cell 5
        have hx6 := HP1.out.cell 6
        simp only [List.getElem?_toArray, List.getElem?_cons_zero, List.getElem?_cons_succ] at hx0 hx1 hx2 hx3 hx4 hx5 hx6
        cases hf : fnd bs v with
        | none =>
          have HF := Lib.hid (HMV.out.1 hf)
          have HPC := Lib.hid (HPT.out _ HM1.out HBW.out)
          have HVN := Lib.hid (HVD.out.ins hf HE2.out)
          clear hf HMV HORD HX1 HPT
          go_wp2_with fail
          refine HPC.out.mono ?_
          rintro e w2 ⟨ov, rfl, hbl2, hb2⟩
          have HB2 : Hid (Below W.heap.size W w2) := HB1.out.trans (hb2.mono HB1.out.size)
          have HBL2 := Lib.hid hbl2
          clear hb2 hbl2 HPC hy0 hy1 hy2 hy3 hy4 hy5 hy6 hx0 hx1 hx2 hx3 hx4 hx5 hx6
          go_wp2_with fail
          refine bodyPost_ret (v := .tuple #[ov, .bool true]) (by rw [results_tmp2 rfl]; rfl) rfl ?_
          rw [HF.out]
          exact ⟨_, rfl, (fun bs' h => by cases h; exact ⟨HBL2.out, HVN.out, by rw [insK_len]; have := HCT.out; omega⟩), HB2.out⟩
        | some x =>
          rw [hf] at HX1
          simp only [Option.getD_some] at HX1
          have HF := Lib.hid (HMV.out.2 x hf)
          have HCO := Lib.hid (HORD.out _ HBW.out x _ HX1.out (HVD.out v x hf))
          have hxc := (Blk.new w1 27 #[.int .i64 k7, .int .i64 v7, .string st7, .bool ng7, .slice A7 n7 c7, .slice B7 b7 d7, .slice X7 l7 e7])
          have hz0 := hxc.cell 0
          have hz1 := hxc.cell 1
          have hz2 := hxc.cell 2
          have hz3 := hxc.cell 3
          have hz4 := hxc.cell 4
          have hz5 := hxc.cell 5
          have hz6 := hxc.cell 6
          simp only [List.getElem?_toArray, List.getElem?_cons_zero, List.getElem?_cons_succ] at hz0 hz1 hz2 hz3 hz4 hz5 hz6
          generalize x.cmp tt = c at *
          clear hf HMV HORD HPT HX1 hxc
          go_wp2_with fail
          refine (HCO.out _ (by exact Below.refl _ _)).mono ?_
          rintro e w2 ⟨rfl, hb2⟩
          have HB2 : Hid (Below W.heap.size W w2) := HB1.out.trans (hb2.mono HB1.out.size)
          have HM2 : Hid (BL w2 lv bs) := HM1.out.to hb2
          clear hb2 HCO hy0 hy1 hy2 hy3 hy4 hy5 hy6 hx0 hx1 hx2 hx3 hx4 hx5 hx6 hz0 hz1 hz2 hz3 hz4 hz5 hz6
          by_cases hc : c = 0
          · subst hc
            have HF2 : Hid (mt = some bs) := by have := HF.out; rw [if_pos rfl] at this; exact this
            clear HF
            go_wp2_with fail
            refine bodyPost_ret (v := .tuple #[lv, .bool true]) (by rw [results_tmp2 rfl]; rfl) rfl ?_
            rw [HF2.out]
            exact ⟨_, rfl, (fun bs' h => by cases h; exact ⟨HM2.out, HVD.out, by omega⟩), HB2.out⟩
          · have hcb : (c == 0) = false := beq_eq_false_iff_ne.2 hc
            have HF2 : Hid (mt = none) := by have := HF.out; rw [if_neg hc] at this; exact this
            clear HF hc
            go_wp2_with fail
            refine bodyPost_ret (v := .tuple #[lv, .bool false]) (by rw [results_tmp2 rfl]; go_simp) rfl ?_
            rw [HF2.out]
            exact ⟨_, rfl, (fun bs' h => by cases h), HB2.out⟩
      · have hkb : (k == 1) = false := beq_eq_false_iff_ne.2 hk1
        have HMT := Lib.hid (HMT.out.2 hk1)
        have HRI := Lib.hid (HRH.out hk1)
        clear HORD HFD HPT HRH hk1
        go_wp2_with fail
        refine (HROO.out _ (by exact HWB.out.trans (HB0.out.mono HWB.out.size))).mono ?_
        rintro e w1 ⟨rfl, hb1⟩
        have HB1 : Hid (Below W.heap.size W w1) := HB0.out.trans (hb1.mono HB0.out.size)
        have HP1 := Lib.hid (HKP.out.to hb1)
        have HT1 := Lib.hid (HKT.out.to hb1)
        have HM1 : Hid (BL w1 lv bs) := HM0.out.to HB1.out
        clear hb1 HB0 HKP HKT HM0 HROO
        by_cases hri : ri = 0
        rotate_left
        · have hrib : (ri == 0) = false := beq_eq_false_iff_ne.2 hri
          have HF : Hid (mt = none) := HMT.out.2 fun h => hri (HRI.out.2 h)
          clear HMT HRI IH hri
          go_wp2_with fail
          refine bodyPost_ret (v := .tuple #[lv, .bool false]) (by rw [results_tmp2 rfl]; rfl) rfl ?_
          rw [HF.out]
          exact ⟨_, rfl, (fun bs' h => by cases h), HB1.out⟩
        have hml := HMT.out.1 (HRI.out.1 hri)
        obtain ⟨hll, hml⟩ := hml
        subst hri
        subst hll
        have HML : Hid (mt = matL (args.drop 0) (args2.drop 0) bs) := hml
        have HJ1 : Hid (Below W.heap.size W w1 ∧ Blk w1 W.heap.size 27 #[.int .i64 k, .int .i64 v, .string s, .bool ng, .slice A1 m1 q1, .slice B1 m2 q2, .slice Ar l cap] ∧ Blk w1 (W.heap.size + 1) 27 #[.int .i64 k2, .int .i64 v2, .string s2, .bool ng2, .slice A2 m3 q3, .slice B2 m4 q4, .slice Ar2 l cap2]) := ⟨HB1.out, HP1.out, HT1.out⟩
        have y6 := HP1.out.cell 6
        simp only [List.getElem?_toArray, List.getElem?_cons_zero, List.getElem?_cons_succ] at y6
        clear hml HMT HRI HB1 HP1 HT1
        go_wp2_with fail
        clear hkb y6
        go_loopg [2, 42] l (fun gk lz s42 wr => ∃ (j : Nat) (bj : List (Int × Tm)) (lj : Value), gk + j = l ∧ s42 = .int .i64 (j : Int) ∧ lz = lj ∧ Hid (mt = matL (args.drop j) (args2.drop j) bj) ∧ Hid (BL wr lj bj ∧ Vld bj ∧ bj.length ≤ bs.length + countL (args.take j)) ∧ Hid (Below W.heap.size W wr ∧ Blk wr W.heap.size 27 #[.int .i64 k, .int .i64 v, .string s, .bool ng, .slice A1 m1 q1, .slice B1 m2 q2, .slice Ar l cap] ∧ Blk wr (W.heap.size + 1) 27 #[.int .i64 k2, .int .i64 v2, .string s2, .bool ng2, .slice A2 m3 q3, .slice B2 m4 q4, .slice Ar2 l cap2]))
        case atStart => exact ⟨0, bs, _, by omega, rfl, rfl, HML.out, ⟨HM1.out, HVD.out, by rw [List.take_zero]; simp only [countL]; omega⟩, HJ1.out⟩
        case round =>
          clear HML HM1 HJ1
          obtain ⟨j, bj, lj, hgj, rfl, rfl, HML, HMJ, HJ⟩ := hrel
          by_cases hj : j < l
          · have hja : j < args.length := by rw [HL.out]; exact hj
            have hjb : j < args2.length := by rw [HL2.out]; exact hj
            have HBW : Below w.heap.size w wr.drew := (HWB.out.trans (HJ.out.1.mono HWB.out.size)).drew
            obtain ⟨pb, po, k5, v5, st5, ng5, A5, n5, c5, B5, b5, d5, X5, l5, e5, hAr, hcs, hlt, _⟩ := arg_cells HR.out HA.out HBW hja
            obtain ⟨tb, tq, k6, v6, st6, ng6, A6, n6, c6, B6, b6, d6, X6, l6, e6, hAr2, hcs2, hlt2, _⟩ := arg_cells HR2.out HA2.out HBW hjb
            subst hAr hAr2
            have HSS : Hid (∀ w', Below w.heap.size w w' → Blk w' W.heap.size 27 #[.int .i64 k, .int .i64 v, .string s, .bool ng, .slice A1 m1 q1, .slice B1 m2 q2, .slice (some ⟨pb, po, none⟩) l cap] → Blk w' (W.heap.size + 1) 27 #[.int .i64 k2, .int .i64 v2, .string s2, .bool ng2, .slice A2 m3 q3, .slice B2 m4 q4, .slice (some ⟨tb, tq, none⟩) l cap2] → w'.cell? ⟨W.heap.size, 6, none⟩ = some (.slice (some ⟨pb, po, none⟩) l cap) ∧ w'.cell? ⟨W.heap.size + 1, 6, none⟩ = some (.slice (some ⟨tb, tq, none⟩) l cap2) ∧ w'.cell? ⟨pb, po + j * 7, none⟩ = some (.int .i64 k5) ∧ w'.cell? ⟨pb, po + j * 7 + 1, none⟩ = some (.int .i64 v5) ∧ w'.cell? ⟨pb, po + j * 7 + 2, none⟩ = some (.string st5) ∧ w'.cell? ⟨pb, po + j * 7 + 3, none⟩ = some (.bool ng5) ∧ w'.cell? ⟨pb, po + j * 7 + 4, none⟩ = some (.slice A5 n5 c5) ∧ w'.cell? ⟨pb, po + j * 7 + 5, none⟩ = some (.slice B5 b5 d5) ∧ w'.cell? ⟨pb, po + j * 7 + 6, none⟩ = some (.slice X5 l5 e5) ∧ w'.cell? ⟨tb, tq + j * 7, none⟩ = some (.int .i64 k6) ∧ w'.cell? ⟨tb, tq + j * 7 + 1, none⟩ = some (.int .i64 v6) ∧ w'.cell? ⟨tb, tq + j * 7 + 2, none⟩ = some (.string st6) ∧ w'.cell? ⟨tb, tq + j * 7 + 3, none⟩ = some (.bool ng6) ∧ w'.cell? ⟨tb, tq + j * 7 + 4, none⟩ = some (.slice A6 n6 c6) ∧ w'.cell? ⟨tb, tq + j * 7 + 5, none⟩ = some (.slice B6 b6 d6) ∧ w'.cell? ⟨tb, tq + j * 7 + 6, none⟩ = some (.slice X6 l6 e6)) := fun w' hb h1 h2 => by
              obtain ⟨pb', po', _, _, _, _, _, _, _, _, _, _, _, _, _, ea, ec, _, x0, x1, x2, x3, x4, x5, x6⟩ := arg_cells HR.out HA.out hb hja
              obtain ⟨tb', tq', _, _, _, _, _, _, _, _, _, _, _, _, _, ea2, ec2, _, z0, z1, z2, z3, z4, z5, z6⟩ := arg_cells HR2.out HA2.out hb hjb
              cases ea
              cases ea2
              rw [hcs] at ec
              rw [hcs2] at ec2
              cases ec
              cases ec2
              exact ⟨h1.cell 6, h2.cell 6, x0, x1, x2, x3, x4, x5, x6, z0, z1, z2, z3, z4, z5, z6⟩
            have hS0 := HSS.out _ HBW HJ.out.2.1.drew HJ.out.2.2.drew
            have HST := Lib.hid (matL_at hja hjb bj)
            have HQ : Hid (∀ y, y = wr.drew → Calls Tryz.prog 51 #[.agg #[.int .i64 k5, .int .i64 v5, .string st5, .bool ng5, .slice A5 n5 c5, .slice B5 b5 d5, .slice X5 l5 e5], .agg #[.int .i64 k6, .int .i64 v6, .string st6, .bool ng6, .slice A6 n6 c6, .slice B6 b6 d6, .slice X6 l6 e6], u2] y fun e w' => ∃ lv', e = .returned (.tuple #[lv', .bool ((args[j]).mat args2[j] bj).isSome]) ∧ Hid ((∀ bs', (args[j]).mat args2[j] bj = some bs' → BL w' lv' bs' ∧ Vld bs' ∧ bs'.length ≤ bs.length + countL (args.take (j + 1))) ∧ Below W.heap.size W w' ∧ Blk w' W.heap.size 27 #[.int .i64 k, .int .i64 v, .string s, .bool ng, .slice A1 m1 q1, .slice B1 m2 q2, .slice (some ⟨pb, po, none⟩) l cap] ∧ Blk w' (W.heap.size + 1) 27 #[.int .i64 k2, .int .i64 v2, .string s2, .bool ng2, .slice A2 m3 q3, .slice B2 m4 q4, .slice (some ⟨tb, tq, none⟩) l cap2]) ∧ (w'.cell? ⟨W.heap.size, 6, none⟩ = some (.slice (some ⟨pb, po, none⟩) l cap) ∧ w'.cell? ⟨W.heap.size + 1, 6, none⟩ = some (.slice (some ⟨tb, tq, none⟩) l cap2) ∧ w'.cell? ⟨pb, po + j * 7, none⟩ = some (.int .i64 k5) ∧ w'.cell? ⟨pb, po + j * 7 + 1, none⟩ = some (.int .i64 v5) ∧ w'.cell? ⟨pb, po + j * 7 + 2, none⟩ = some (.string st5) ∧ w'.cell? ⟨pb, po + j * 7 + 3, none⟩ = some (.bool ng5) ∧ w'.cell? ⟨pb, po + j * 7 + 4, none⟩ = some (.slice A5 n5 c5) ∧ w'.cell? ⟨pb, po + j * 7 + 5, none⟩ = some (.slice B5 b5 d5) ∧ w'.cell? ⟨pb, po + j * 7 + 6, none⟩ = some (.slice X5 l5 e5) ∧ w'.cell? ⟨tb, tq + j * 7, none⟩ = some (.int .i64 k6) ∧ w'.cell? ⟨tb, tq + j * 7 + 1, none⟩ = some (.int .i64 v6) ∧ w'.cell? ⟨tb, tq + j * 7 + 2, none⟩ = some (.string st6) ∧ w'.cell? ⟨tb, tq + j * 7 + 3, none⟩ = some (.bool ng6) ∧ w'.cell? ⟨tb, tq + j * 7 + 4, none⟩ = some (.slice A6 n6 c6) ∧ w'.cell? ⟨tb, tq + j * 7 + 5, none⟩ = some (.slice B6 b6 d6) ∧ w'.cell? ⟨tb, tq + j * 7 + 6, none⟩ = some (.slice X6 l6 e6))) := fun y hy => by
              subst hy
              have h1 := countL_take args hja
              have h2 := countL_le args (j + 1)
              have h3 := HMJ.out.2.2
              have h4 := HBL.out
              have := IH.out j hja args2[j] (cs2 j) (HA2.out j hjb) (errL_get HEP.out hja) (errL_get HET.out hjb) bj u2 wr.drew HBW (HMJ.out.1.to (Below.refl _ wr).drew) HMJ.out.2.1 (by omega)
              rw [hcs, hcs2] at this
              refine this.mono ?_
              rintro e w' ⟨lv', he, hc, hk⟩
              have hk2 : Below W.heap.size W w' := HJ.out.1.drew.trans (hk.mono HJ.out.1.drew.size)
              have hb1 := HJ.out.2.1.drew.to hk
              have hb2 := HJ.out.2.2.drew.to hk
              refine ⟨lv', he, ⟨fun bs' hbs => ?_, hk2, hb1, hb2⟩, HSS.out _ (HWB.out.trans (hk2.mono HWB.out.size)) hb1 hb2⟩
              obtain ⟨q3, q4, q5⟩ := hc.out bs' hbs
              exact ⟨q3, q4, by omega⟩
            obtain ⟨mo, hmo⟩ : ∃ mo, (args[j]).mat args2[j] bj = mo := ⟨_, rfl⟩
            rw [hmo] at HQ HST
            clear hmo
            clear HBW hlt hlt2 hcs hcs2 HSS HJ HMJ
            go_wp2_with fail
            go_region_held3 (fun w' => w'.cell? ⟨W.heap.size, 6, none⟩ = some (.slice (some ⟨pb, po, none⟩) l cap) ∧ w'.cell? ⟨W.heap.size + 1, 6, none⟩ = some (.slice (some ⟨tb, tq, none⟩) l cap2) ∧ w'.cell? ⟨pb, po + j * 7, none⟩ = some (.int .i64 k5) ∧ w'.cell? ⟨pb, po + j * 7 + 1, none⟩ = some (.int .i64 v5) ∧ w'.cell? ⟨pb, po + j * 7 + 2, none⟩ = some (.string st5) ∧ w'.cell? ⟨pb, po + j * 7 + 3, none⟩ = some (.bool ng5) ∧ w'.cell? ⟨pb, po + j * 7 + 4, none⟩ = some (.slice A5 n5 c5) ∧ w'.cell? ⟨pb, po + j * 7 + 5, none⟩ = some (.slice B5 b5 d5) ∧ w'.cell? ⟨pb, po + j * 7 + 6, none⟩ = some (.slice X5 l5 e5) ∧ w'.cell? ⟨tb, tq + j * 7, none⟩ = some (.int .i64 k6) ∧ w'.cell? ⟨tb, tq + j * 7 + 1, none⟩ = some (.int .i64 v6) ∧ w'.cell? ⟨tb, tq + j * 7 + 2, none⟩ = some (.string st6) ∧ w'.cell? ⟨tb, tq + j * 7 + 3, none⟩ = some (.bool ng6) ∧ w'.cell? ⟨tb, tq + j * 7 + 4, none⟩ = some (.slice A6 n6 c6) ∧ w'.cell? ⟨tb, tq + j * 7 + 5, none⟩ = some (.slice B6 b6 d6) ∧ w'.cell? ⟨tb, tq + j * 7 + 6, none⟩ = some (.slice X6 l6 e6))
              (with_reducible assumption)
              (first
                | (go_at_call 51; (with_reducible refine (HQ.out _ rfl).mono ?_); rintro e y1 ⟨lv', rfl, HC, hS1⟩))
            clear HQ hS0 hS1
            have HK := Lib.hid HC.out.2
            have HC1 := Lib.hid HC.out.1
            clear HC
            cases mo with
            | some bs' =>
              have HM2 := Lib.hid (HC1.out bs' rfl)
              have HML2 : Hid (mt = matL (args.drop (j + 1)) (args2.drop (j + 1)) bs') := by have := HML.out; rw [HST.out] at this; exact this
              clear HC1 HML HST
              go_wp2_with fail
              go_roundg (gk - 1)
              case measure => omega
              case rel => exact ⟨j + 1, bs', lv', by omega, by go_num, rfl, HML2.out, HM2.out, HK.out⟩
            | none =>
              have HF : Hid (mt = none) := by have := HML.out; rw [HST.out] at this; exact this
              clear HC1 HML HST
              go_wp2_with fail
              refine bodyPost_ret (v := .tuple #[lv', .bool false]) (by rw [results_tmp2 rfl]; rfl) rfl ?_
              rw [HF.out]
              exact ⟨_, rfl, (fun bs' h => by cases h), HK.out.1⟩
          · obtain rfl : l = j := by omega
            have HF : Hid (mt = some bj) := by have := HML.out; rw [matL_end (by rw [HL.out]; exact Nat.le_refl _)] at this; exact this
            have HTK := Lib.hid (List.take_of_length_le (i := l) (l := args) (by rw [HL.out]; exact Nat.le_refl _))
            clear HML
            go_wp2_with fail
            refine bodyPost_ret (v := .tuple #[u2, .bool true]) (by rw [results_tmp2 rfl]; rfl) rfl ?_
            have h3 := HMJ.out.2.2
            rw [HTK.out] at h3
            rw [HF.out]
            exact ⟨_, rfl, (fun bs' h => by cases h; exact ⟨HMJ.out.1, HMJ.out.2.1, by have := HCT.out; omega⟩), HJ.out.1⟩
end Go.Proofs.YtkfnpcilanheiaaGreat

/-  -/
import Derived.Deep.RegionHeld3
import Derived.Test.YtkamkaehlofgpaaJo29
import Derived.Test.YtkamkaehlofgpaaJo48
import Derived.Test.YtkamkaehlofgpaaJo52
set_option linter.unusedVariables false
set_option linter.unusedSimpArgs false
/- TermListRoundTrip: for all lists of terms and every rest that is no list cell, List builds a list from which Elements returns the terms and the rest. -/
namespace Go.Proofs.Ytkamkaehlofgpaa
open Go.RowKit NumB
set_option linter.unusedVariables false
set_option linter.unusedSimpArgs false

set_option maxRecDepth 100000 in
set_option maxHeartbeats 12800000 in
theorem law_tmList : LawTmList.Walk := by
  intro ts v0 r cr w hT hlen hr
  have HFA : Hid (∀ W t c, TC W t c → ∀ W', Below W.heap.size W W' → Calls Try.prog 4 #[.agg c.toArray] W' fun e w' => e = .returned (.int .i64 t.check) ∧ Below W'.heap.size W' w') := fun W t c h W' hb => tmFault_any h W' hb
  have HBN : Hid (∀ W : World, Calls Try.prog 5 #[] W fun e w' => e = .returned (.bool true) ∧ Below W.heap.size W w') := fun W => bound_any W
  have HLST : Hid ((∀ i (h : i < ts.length), (ts[i]).sm) → r.sm → (ts.length : Int) ≤ 2000000000000 → ∀ W, Below w.heap.size w W → Calls Try.prog 7 #[v0, .agg cr.toArray] W fun e w' => ∃ cs', e = .returned (.agg cs'.toArray) ∧ TC w' (listT ts r) cs' ∧ Below W.heap.size W w') := fun h1 h2 h3 W hb => list_any hT h3 hr h1 h2 W hb
  obtain ⟨Ar, cap, cs, rfl, hcap, hm, hrow, ha⟩ := hT
  obtain ⟨k0, v0, st0, ng0, A0, n0, c0, B0, m0, d0, X0, l0, e0, hf0⟩ := hr.form
  subst hf0
  have HROW := Lib.hid hrow
  have HA := Lib.hid ha
  have HR0 := Lib.hid hr
  obtain ⟨n, hl⟩ : ∃ n, ts.length = n := ⟨_, rfl⟩
  rw [hl] at hcap hlen ⊢
  have HL := Lib.hid hl
  have HLN : Hid ((1 + n) * 112 ≤ 140737488355328) := by show _ ≤ _; omega
  have HLN4 : Hid (1 + n ≤ maxLen) := by
    have := HLN.out
    show _ ≤ _
    unfold maxLen
    omega
  have HLN2 : Hid ((ts.length : Int) ≤ 2000000000000) := by show _ ≤ _; omega
  have HLN3 : Hid ((ts.length : Int) * 112 ≤ 140737488355328) := by show _ ≤ _; omega
  unfold maxLen at hm
  clear hl hlen hrow ha
  have HB1 : Hid (Below w.heap.size w ((w.alloc (.cells #[.int .i64 k0, .int .i64 v0, .string st0, .bool ng0, .slice A0 n0 c0, .slice B0 m0 d0, .slice X0 l0 e0] 27)).alloc (.cells #[.int .i64 k0, .int .i64 v0, .string st0, .bool ng0, .slice A0 n0 c0, .slice B0 m0 d0, .slice X0 l0 e0] 27))) := below_pair w _ _
  have HK1 : Hid (Blk ((w.alloc (.cells #[.int .i64 k0, .int .i64 v0, .string st0, .bool ng0, .slice A0 n0 c0, .slice B0 m0 d0, .slice X0 l0 e0] 27)).alloc (.cells #[.int .i64 k0, .int .i64 v0, .string st0, .bool ng0, .slice A0 n0 c0, .slice B0 m0 d0, .slice X0 l0 e0] 27)) w.heap.size 27 #[.int .i64 k0, .int .i64 v0, .string st0, .bool ng0, .slice A0 n0 c0, .slice B0 m0 d0, .slice X0 l0 e0]) := (Blk.new w _ _).alloc _
  have HRW1 : Hid (∀ i, i < ts.length → TC ((w.alloc (.cells #[.int .i64 k0, .int .i64 v0, .string st0, .bool ng0, .slice A0 n0 c0, .slice B0 m0 d0, .slice X0 l0 e0] 27)).alloc (.cells #[.int .i64 k0, .int .i64 v0, .string st0, .bool ng0, .slice A0 n0 c0, .slice B0 m0 d0, .slice X0 l0 e0] 27)) (ts.getD i r) (cs i)) := fun i hi => by
    rw [show ts.getD i r = ts[i] by simp [List.getD, hi]]; exact (HA.out i hi).to HB1.out
  have HOWN : Hid ((((w.alloc (.cells #[.int .i64 k0, .int .i64 v0, .string st0, .bool ng0, .slice A0 n0 c0, .slice B0 m0 d0, .slice X0 l0 e0] 27)).alloc (.cells #[.int .i64 k0, .int .i64 v0, .string st0, .bool ng0, .slice A0 n0 c0, .slice B0 m0 d0, .slice X0 l0 e0] 27))).ownsRow (w.heap.size + 1) 27 7 (.slice (some ⟨w.heap.size + 1, 0, none⟩) 1 1) 1 [.int .i64 k0, .int .i64 v0, .string st0, .bool ng0, .slice A0 n0 c0, .slice B0 m0 d0, .slice X0 l0 e0]) := by
    have h := World.ownsRow_lit (w.alloc (.cells #[.int .i64 k0, .int .i64 v0, .string st0, .bool ng0, .slice A0 n0 c0, .slice B0 m0 d0, .slice X0 l0 e0] 27)) (e := 27) (size := 7) #[.int .i64 k0, .int .i64 v0, .string st0, .bool ng0, .slice A0 n0 c0, .slice B0 m0 d0, .slice X0 l0 e0] 1 (Nat.le_refl _) (by unfold maxLen; omega) rfl
    rw [show (w.alloc (.cells #[.int .i64 k0, .int .i64 v0, .string st0, .bool ng0, .slice A0 n0 c0, .slice B0 m0 d0, .slice X0 l0 e0] 27)).heap.size = w.heap.size + 1 by simp] at h
    exact h
  have HROW1 : Hid (0 < ts.length → ∃ b o, Ar = some ⟨b, o, none⟩ ∧ b < (((w.alloc (.cells #[.int .i64 k0, .int .i64 v0, .string st0, .bool ng0, .slice A0 n0 c0, .slice B0 m0 d0, .slice X0 l0 e0] 27)).alloc (.cells #[.int .i64 k0, .int .i64 v0, .string st0, .bool ng0, .slice A0 n0 c0, .slice B0 m0 d0, .slice X0 l0 e0] 27))).heap.size ∧ ∀ i, i < ts.length → ∀ j, j < 7 → (((w.alloc (.cells #[.int .i64 k0, .int .i64 v0, .string st0, .bool ng0, .slice A0 n0 c0, .slice B0 m0 d0, .slice X0 l0 e0] 27)).alloc (.cells #[.int .i64 k0, .int .i64 v0, .string st0, .bool ng0, .slice A0 n0 c0, .slice B0 m0 d0, .slice X0 l0 e0] 27))).cell? ⟨b, o + i * 7 + j, none⟩ = (cs i)[j]?) := fun h0 => by
    obtain ⟨b, o, e, hlt, hc⟩ := HROW.out h0
    exact ⟨b, o, e, Nat.lt_of_lt_of_le hlt HB1.out.size, fun i hi j hj => (HB1.out.cell (p := ⟨b, o + i * 7 + j, none⟩) hlt).trans (hc i hi j hj)⟩
  have HA1 : Hid (∀ i (h : i < ts.length), TC ((w.alloc (.cells #[.int .i64 k0, .int .i64 v0, .string st0, .bool ng0, .slice A0 n0 c0, .slice B0 m0 d0, .slice X0 l0 e0] 27)).alloc (.cells #[.int .i64 k0, .int .i64 v0, .string st0, .bool ng0, .slice A0 n0 c0, .slice B0 m0 d0, .slice X0 l0 e0] 27)) ts[i] (cs i)) := fun i h => (HA.out i h).to HB1.out
  have HMK : Hid (∀ gv w2, w2.ownsRow (w.heap.size + 1) 27 7 gv (1 + n) ([.int .i64 k0, .int .i64 v0, .string st0, .bool ng0, .slice A0 n0 c0, .slice B0 m0 d0, .slice X0 l0 e0] ++ rowsOf cs n) → (((w.alloc (.cells #[.int .i64 k0, .int .i64 v0, .string st0, .bool ng0, .slice A0 n0 c0, .slice B0 m0 d0, .slice X0 l0 e0] 27)).alloc (.cells #[.int .i64 k0, .int .i64 v0, .string st0, .bool ng0, .slice A0 n0 c0, .slice B0 m0 d0, .slice X0 l0 e0] 27))).grownBy w2 (some (w.heap.size + 1)) → TL w2 gv (r :: ts) ∧ Below w.heap.size w w2 ∧ Blk w2 w.heap.size 27 #[.int .i64 k0, .int .i64 v0, .string st0, .bool ng0, .slice A0 n0 c0, .slice B0 m0 d0, .slice X0 l0 e0]) := fun gv w2 ho hg => by
    have hb : Below w.heap.size w w2 := HB1.out.grown hg HB1.out.size (fun k hk => by simp at hk; omega)
    have h7 : ∀ i, i < n → (cs i).length = 7 := fun i hi => (HA.out i (by rw [HL.out]; exact hi)).len
    refine ⟨elems_done (P := fun b => b < w2.heap.size) (vals := fun i => if i = 0 then [.int .i64 k0, .int .i64 v0, .string st0, .bool ng0, .slice A0 n0 c0, .slice B0 m0 d0, .slice X0 l0 e0] else cs (i - 1)) ho (by simp [HL.out]; omega) (fun i hi q hq => ?_) (fun i h => ?_), hb, (hg.block _ HK1.out.lt (by simp)).trans HK1.out⟩
    · cases i with
      | zero => rw [List.getElem?_append_left (by simpa using hq)]; simp
      | succ i =>
        rw [List.getElem?_append_right (by simp; omega)]
        have := rowsOf_get h7 (i := i) (q := q) (by omega) hq
        simp only [Nat.add_one_ne_zero, if_false, Nat.add_one_sub_one]
        rw [← this]
        congr 1
        simp
        omega
    · cases i with
      | zero => exact TCP.of_tc (HR0.out.to hb)
      | succ i => exact TCP.of_tc ((HA.out i (by simpa using h)).to hb)
  go_enter Try.func3, Try.ntmps3
  go_wp2_with (at_builtin; go_loud (refine wpList_append_terms _ rfl _ _ rfl (w.heap.size + 1) (w.heap.size + 1) 1 1 [.int .i64 k0, .int .i64 v0, .string st0, .bool ng0, .slice A0 n0 c0, .slice B0 m0 d0, .slice X0 l0 e0] rfl (Nat.le_refl _) HOWN.out Ar n cap ts cs HL.out rfl HROW1.out HA1.out HLN4.out HLN.out (by simp) ?_; intro gv w2 hown2 hg2; obtain ⟨htl2, hb2, hk2⟩ := HMK.out gv w2 hown2 hg2; have HB2 := Lib.hid hb2; have HK2 := Lib.hid hk2; clear hown2 hg2 hb2 hk2; obtain ⟨Ag, capg, csg, rfl, hcg, hmg, hrg, hag⟩ := htl2; have HRG := Lib.hid hrg; have HAG := Lib.hid hag; unfold maxLen at hmg; have hlg : (r :: ts).length = n + 1 := (by rw [List.length_cons, HL.out]); rw [hlg] at hcg; (try rw [hlg]); have HLG := Lib.hid hlg; clear hrg hag hlg))
  clear HOWN HROW1 HA1 HMK HB1 HK1 HRW1
  go_loopg [15] (n + 1) (fun gk s15 wr => ∃ j : Nat, gk + j = n + 1 ∧ s15 = .int .i64 (j : Int) ∧ Hid (∀ i (h : i < (r :: ts).length), i < j → ((r :: ts)[i]).check = 0) ∧ Hid (Below w.heap.size w wr) ∧ Hid (Below w2.heap.size w2 wr) ∧ Hid (Blk wr w.heap.size 27 #[.int .i64 k0, .int .i64 v0, .string st0, .bool ng0, .slice A0 n0 c0, .slice B0 m0 d0, .slice X0 l0 e0]))
  case atStart => exact ⟨0, by omega, rfl, fun i _ h => absurd h (by omega), HB2.out, Below.refl _ _, HK2.out⟩
  case round =>
    clear HB2 HK2
    obtain ⟨j, hgj, rfl, HCK, HB, HBG, HK⟩ := hrel
    by_cases hj : j < n + 1
    · have hja : j < (r :: ts).length := by rw [HLG.out]; exact hj
      obtain ⟨b, o, k5, v5, st5, ng5, A5, n5, c5, B5, m5, d5, X5, l5, e5, hAr, hcs5, hlt, y0, y1, y2, y3, y4, y5, y6⟩ := arg_cells HRG.out HAG.out HBG.out hja
      subst hAr
      have HCALL := Lib.hid (HFA.out _ _ _ (HAG.out j hja))
      rw [hcs5] at HCALL
      have HNX : Hid (((r :: ts)[j]).check = 0 → ∀ i (h : i < (r :: ts).length), i < j + 1 → ((r :: ts)[i]).check = 0) := fun h0 i h hi => by
        by_cases e : i = j
        · subst e; exact h0
        · exact HCK.out i h (by omega)
      generalize ((r :: ts)[j]).check = ck at *
      clear hcs5 hlt
      go_wp2_with fail
      refine (HCALL.out _ (by exact HBG.out.trans ((below_one wr _).mono HBG.out.size))).mono ?_
      rintro e w3 ⟨rfl, hb3⟩
      have HA3 := Lib.hid ((below_one wr (.cells #[.int .i64 k5, .int .i64 v5, .string st5, .bool ng5, .slice A5 n5 c5, .slice B5 m5 d5, .slice X5 l5 e5] 27)).trans (hb3.mono (below_one wr _).size))
      have HB3 : Hid (Below w.heap.size w w3) := HB.out.trans (HA3.out.mono HB.out.size)
      clear hb3 y0 y1 y2 y3 y4 y5 y6 HCALL
      by_cases hc0 : ck = 0
      · subst hc0
        go_wp2_with fail
        go_roundg (gk - 1)
        case measure => omega
        case rel => exact ⟨j + 1, by omega, by go_num, HNX.out (by first | rfl | trivial), HB3.out, HBG.out.trans (HA3.out.mono HBG.out.size), HK.out.to HA3.out⟩
      · have hcb : (ck == 0) = false := beq_eq_false_iff_ne.2 hc0
        clear hc0 HNX HCK
        go_wp2_with fail
        refine (HBN.out _).mono ?_
        rintro e w9 ⟨rfl, hb9⟩
        have HW9 : Hid (Below w.heap.size w w9) := HB3.out.trans (hb9.mono HB3.out.size)
        clear hb9
        go_wp2_with fail
        go_ret
        exact ⟨rfl, HW9.out⟩
    · obtain rfl : j = n + 1 := by omega
      have HRV : Hid (r.count ≤ 10000 ∧ r.err0 = 0) := check_err0 (HCK.out 0 (by simp) (by omega))
      have HTV : Hid (∀ i (h : i < ts.length), (ts[i]).count ≤ 10000 ∧ (ts[i]).err0 = 0) := fun i h => check_err0 (HCK.out (i + 1) (by simpa using h) (by have := HL.out; omega))
      have HRSM : Hid r.sm := HR0.out.sm HRV.out.2
      have HSM : Hid (∀ i (h : i < ts.length), (ts[i]).sm) := fun i h => (HA.out i h).sm (HTV.out i h).2
      have hlst := HLST.out HSM.out HRSM.out HLN2.out
      rw [HL.out] at hlst
      have HLIST := Lib.hid hlst
      clear hlst
      have HREST : Hid (r.rest ↔ ¬ (k0 = 5 ∧ st0.toList = [46] ∧ l0 = 2)) := by
        have := HR0.out
        cases this
        exact Iff.rfl
      clear HLST HCK HFA HRG HAG HLG HLN HLN2 HLN4 HBG
      have y0 := HK.out.cell 0
      have y1 := HK.out.cell 1
      have y2 := HK.out.cell 2
      have y3 := HK.out.cell 3
      have y4 := HK.out.cell 4
      have y5 := HK.out.cell 5
      have y6 := HK.out.cell 6
      simp only [List.getElem?_toArray, List.getElem?_cons_zero, List.getElem?_cons_succ] at y0 y1 y2 y3 y4 y5 y6
      by_cases hcell : k0 = 5 ∧ st0.toList = [46] ∧ l0 = 2
      · obtain ⟨rfl, hs, rfl⟩ := hcell
        have hs1 : (st0.toList == [46]) = true := by rw [hs]; rfl
        have hs2 : (st0.toList == (⟨#[46]⟩ : ByteArray).toList) = true := by rw [hs, Lib.toList_data]; rfl
        clear hs
        go_wp2_with fail
        refine (HBN.out _).mono ?_
        rintro e w9 ⟨rfl, hb9⟩
        have HW9 : Hid (Below w.heap.size w w9) := HB.out.trans (hb9.mono HB.out.size)
        clear hb9
        go_wp2_with fail
        go_ret
        exact ⟨rfl, HW9.out⟩
      · have HRE : Hid r.rest := HREST.out.2 hcell
        have h3 : (k0 == 5) = false ∨ ((k0 == 5) = true ∧ (st0.toList == [46]) = false ∧ (st0.toList == (⟨#[46]⟩ : ByteArray).toList) = false) ∨ ((k0 == 5) = true ∧ (st0.toList == [46]) = true ∧ (st0.toList == (⟨#[46]⟩ : ByteArray).toList) = true ∧ ((l0 : Int) == 2) = false) := by
          rw [Lib.toList_data ⟨#[46]⟩]
          by_cases h1 : k0 = 5
          · right
            by_cases h2 : st0.toList = [46]
            · right
              exact ⟨by rw [h1]; rfl, by rw [h2]; rfl, by rw [h2]; rfl, beq_eq_false_iff_ne.2 fun e => hcell ⟨h1, h2, by omega⟩⟩
            · left
              exact ⟨by rw [h1]; rfl, beq_eq_false_iff_ne.2 h2, beq_eq_false_iff_ne.2 h2⟩
          · left
            exact beq_eq_false_iff_ne.2 h1
        clear hcell HREST
        rcases h3 with h1 | ⟨h1, h2, h3⟩ | ⟨h1, h2, h3, h4⟩
        all_goals
          go_wp2_with fail
          refine (HLIST.out _ HB.out).mono ?_
          rintro e w4 ⟨csl, rfl, htl, hb4⟩
          obtain ⟨k8, v8, st8, ng8, A8, n8, c8, B8, m8, d8, X8, l8, e8, hf8⟩ := htl.form
          subst hf8
          have HEL := Lib.hid (fun W' hb => elements_any htl HRE.out HLN3.out HSM.out HRSM.out W' hb)
          have HB4 : Hid (Below w.heap.size w w4) := HB.out.trans (hb4.mono HB.out.size)
          have HK4 := Lib.hid (HK.out.to hb4)
          clear htl hb4
          go_wp2_with fail
          refine (HEL.out w4 (Below.refl _ _)).mono ?_
          rintro e w5 ⟨mv, crr, rfl, htm, htr, hb5⟩
          obtain ⟨k9, v9, st9, ng9, A9, n9, c9, B9, m9, d9, X9, l9, e9, hf9⟩ := htr.form
          subst hf9
          obtain ⟨Am, capm, csm, rfl, hcm, hmm, hrm, ham⟩ := htm
          have HRM := Lib.hid hrm
          have HAM := Lib.hid ham
          have HTR := Lib.hid htr
          have hll := HL.out
          rw [hll] at hcm ⊢
          unfold maxLen at hmm
          clear hrm ham htr hll HEL HLIST
          have HJ0 : Hid (Below w.heap.size w (w5.alloc (.cells #[.int .i64 k9, .int .i64 v9, .string st9, .bool ng9, .slice A9 n9 c9, .slice B9 m9 d9, .slice X9 l9 e9] 27)).drew ∧ Below w5.heap.size w5 (w5.alloc (.cells #[.int .i64 k9, .int .i64 v9, .string st9, .bool ng9, .slice A9 n9 c9, .slice B9 m9 d9, .slice X9 l9 e9] 27)).drew ∧ Blk (w5.alloc (.cells #[.int .i64 k9, .int .i64 v9, .string st9, .bool ng9, .slice A9 n9 c9, .slice B9 m9 d9, .slice X9 l9 e9] 27)).drew w.heap.size 27 #[.int .i64 k0, .int .i64 v0, .string st0, .bool ng0, .slice A0 n0 c0, .slice B0 m0 d0, .slice X0 l0 e0] ∧ Blk (w5.alloc (.cells #[.int .i64 k9, .int .i64 v9, .string st9, .bool ng9, .slice A9 n9 c9, .slice B9 m9 d9, .slice X9 l9 e9] 27)).drew w5.heap.size 27 #[.int .i64 k9, .int .i64 v9, .string st9, .bool ng9, .slice A9 n9 c9, .slice B9 m9 d9, .slice X9 l9 e9]) := ⟨(HB4.out.trans ((hb5.trans ((below_one w5 _).mono hb5.size)).mono HB4.out.size)).drew, (below_one w5 _).drew, ((HK4.out.to hb5).to (below_one w5 _)).drew, (Blk.new w5 _ _).drew⟩
          have HSS : Hid (∀ W, Below w.heap.size w W ∧ Below w5.heap.size w5 W ∧ Blk W w.heap.size 27 #[.int .i64 k0, .int .i64 v0, .string st0, .bool ng0, .slice A0 n0 c0, .slice B0 m0 d0, .slice X0 l0 e0] ∧ Blk W w5.heap.size 27 #[.int .i64 k9, .int .i64 v9, .string st9, .bool ng9, .slice A9 n9 c9, .slice B9 m9 d9, .slice X9 l9 e9] → W.cell? ⟨w5.heap.size, 0, none⟩ = some (.int .i64 k9) ∧ W.cell? ⟨w5.heap.size, 1, none⟩ = some (.int .i64 v9) ∧ W.cell? ⟨w5.heap.size, 2, none⟩ = some (.string st9) ∧ W.cell? ⟨w5.heap.size, 3, none⟩ = some (.bool ng9) ∧ W.cell? ⟨w5.heap.size, 4, none⟩ = some (.slice A9 n9 c9) ∧ W.cell? ⟨w5.heap.size, 5, none⟩ = some (.slice B9 m9 d9) ∧ W.cell? ⟨w5.heap.size, 6, none⟩ = some (.slice X9 l9 e9) ∧ W.cell? ⟨w.heap.size, 0, none⟩ = some (.int .i64 k0) ∧ W.cell? ⟨w.heap.size, 1, none⟩ = some (.int .i64 v0) ∧ W.cell? ⟨w.heap.size, 2, none⟩ = some (.string st0) ∧ W.cell? ⟨w.heap.size, 3, none⟩ = some (.bool ng0) ∧ W.cell? ⟨w.heap.size, 4, none⟩ = some (.slice A0 n0 c0) ∧ W.cell? ⟨w.heap.size, 5, none⟩ = some (.slice B0 m0 d0) ∧ W.cell? ⟨w.heap.size, 6, none⟩ = some (.slice X0 l0 e0)) := fun W j => ⟨j.2.2.2.cell 0, j.2.2.2.cell 1, j.2.2.2.cell 2, j.2.2.2.cell 3, j.2.2.2.cell 4, j.2.2.2.cell 5, j.2.2.2.cell 6, j.2.2.1.cell 0, j.2.2.1.cell 1, j.2.2.1.cell 2, j.2.2.1.cell 3, j.2.2.1.cell 4, j.2.2.1.cell 5, j.2.2.1.cell 6⟩
          have HS1 : Hid (∀ W, Hid (Below w.heap.size w W ∧ Below w5.heap.size w5 W ∧ Blk W w.heap.size 27 #[.int .i64 k0, .int .i64 v0, .string st0, .bool ng0, .slice A0 n0 c0, .slice B0 m0 d0, .slice X0 l0 e0] ∧ Blk W w5.heap.size 27 #[.int .i64 k9, .int .i64 v9, .string st9, .bool ng9, .slice A9 n9 c9, .slice B9 m9 d9, .slice X9 l9 e9]) → Calls Try.prog 8 #[.agg #[.int .i64 k9, .int .i64 v9, .string st9, .bool ng9, .slice A9 n9 c9, .slice B9 m9 d9, .slice X9 l9 e9]] W fun e w' => e = .returned (.string ⟨r.shapeL.toArray⟩) ∧ Hid (Below w.heap.size w w' ∧ Below w5.heap.size w5 w' ∧ Blk w' w.heap.size 27 #[.int .i64 k0, .int .i64 v0, .string st0, .bool ng0, .slice A0 n0 c0, .slice B0 m0 d0, .slice X0 l0 e0] ∧ Blk w' w5.heap.size 27 #[.int .i64 k9, .int .i64 v9, .string st9, .bool ng9, .slice A9 n9 c9, .slice B9 m9 d9, .slice X9 l9 e9]) ∧ (w'.cell? ⟨w5.heap.size, 0, none⟩ = some (.int .i64 k9) ∧ w'.cell? ⟨w5.heap.size, 1, none⟩ = some (.int .i64 v9) ∧ w'.cell? ⟨w5.heap.size, 2, none⟩ = some (.string st9) ∧ w'.cell? ⟨w5.heap.size, 3, none⟩ = some (.bool ng9) ∧ w'.cell? ⟨w5.heap.size, 4, none⟩ = some (.slice A9 n9 c9) ∧ w'.cell? ⟨w5.heap.size, 5, none⟩ = some (.slice B9 m9 d9) ∧ w'.cell? ⟨w5.heap.size, 6, none⟩ = some (.slice X9 l9 e9) ∧ w'.cell? ⟨w.heap.size, 0, none⟩ = some (.int .i64 k0) ∧ w'.cell? ⟨w.heap.size, 1, none⟩ = some (.int .i64 v0) ∧ w'.cell? ⟨w.heap.size, 2, none⟩ = some (.string st0) ∧ w'.cell? ⟨w.heap.size, 3, none⟩ = some (.bool ng0) ∧ w'.cell? ⟨w.heap.size, 4, none⟩ = some (.slice A0 n0 c0) ∧ w'.cell? ⟨w.heap.size, 5, none⟩ = some (.slice B0 m0 d0) ∧ w'.cell? ⟨w.heap.size, 6, none⟩ = some (.slice X0 l0 e0))) := fun W j => (lawShape_any HTR.out HRV.out.2 HRV.out.1 W j.out.2.1).mono fun e w' q => by
            have j' : Below w.heap.size w w' ∧ Below w5.heap.size w5 w' ∧ Blk w' w.heap.size 27 #[.int .i64 k0, .int .i64 v0, .string st0, .bool ng0, .slice A0 n0 c0, .slice B0 m0 d0, .slice X0 l0 e0] ∧ Blk w' w5.heap.size 27 #[.int .i64 k9, .int .i64 v9, .string st9, .bool ng9, .slice A9 n9 c9, .slice B9 m9 d9, .slice X9 l9 e9] := ⟨j.out.1.trans (q.2.mono j.out.1.size), j.out.2.1.trans (q.2.mono j.out.2.1.size), j.out.2.2.1.to q.2, j.out.2.2.2.to q.2⟩
            exact ⟨q.1, j', HSS.out _ j'⟩
          have HS2 : Hid (∀ W, Hid (Below w.heap.size w W ∧ Below w5.heap.size w5 W ∧ Blk W w.heap.size 27 #[.int .i64 k0, .int .i64 v0, .string st0, .bool ng0, .slice A0 n0 c0, .slice B0 m0 d0, .slice X0 l0 e0] ∧ Blk W w5.heap.size 27 #[.int .i64 k9, .int .i64 v9, .string st9, .bool ng9, .slice A9 n9 c9, .slice B9 m9 d9, .slice X9 l9 e9]) → Calls Try.prog 8 #[.agg #[.int .i64 k0, .int .i64 v0, .string st0, .bool ng0, .slice A0 n0 c0, .slice B0 m0 d0, .slice X0 l0 e0]] W fun e w' => e = .returned (.string ⟨r.shapeL.toArray⟩) ∧ Hid (Below w.heap.size w w' ∧ Below w5.heap.size w5 w' ∧ Blk w' w.heap.size 27 #[.int .i64 k0, .int .i64 v0, .string st0, .bool ng0, .slice A0 n0 c0, .slice B0 m0 d0, .slice X0 l0 e0] ∧ Blk w' w5.heap.size 27 #[.int .i64 k9, .int .i64 v9, .string st9, .bool ng9, .slice A9 n9 c9, .slice B9 m9 d9, .slice X9 l9 e9]) ∧ (w'.cell? ⟨w5.heap.size, 0, none⟩ = some (.int .i64 k9) ∧ w'.cell? ⟨w5.heap.size, 1, none⟩ = some (.int .i64 v9) ∧ w'.cell? ⟨w5.heap.size, 2, none⟩ = some (.string st9) ∧ w'.cell? ⟨w5.heap.size, 3, none⟩ = some (.bool ng9) ∧ w'.cell? ⟨w5.heap.size, 4, none⟩ = some (.slice A9 n9 c9) ∧ w'.cell? ⟨w5.heap.size, 5, none⟩ = some (.slice B9 m9 d9) ∧ w'.cell? ⟨w5.heap.size, 6, none⟩ = some (.slice X9 l9 e9) ∧ w'.cell? ⟨w.heap.size, 0, none⟩ = some (.int .i64 k0) ∧ w'.cell? ⟨w.heap.size, 1, none⟩ = some (.int .i64 v0) ∧ w'.cell? ⟨w.heap.size, 2, none⟩ = some (.string st0) ∧ w'.cell? ⟨w.heap.size, 3, none⟩ = some (.bool ng0) ∧ w'.cell? ⟨w.heap.size, 4, none⟩ = some (.slice A0 n0 c0) ∧ w'.cell? ⟨w.heap.size, 5, none⟩ = some (.slice B0 m0 d0) ∧ w'.cell? ⟨w.heap.size, 6, none⟩ = some (.slice X0 l0 e0))) := fun W j => (lawShape_any HR0.out HRV.out.2 HRV.out.1 W j.out.1).mono fun e w' q => by
            have j' : Below w.heap.size w w' ∧ Below w5.heap.size w5 w' ∧ Blk w' w.heap.size 27 #[.int .i64 k0, .int .i64 v0, .string st0, .bool ng0, .slice A0 n0 c0, .slice B0 m0 d0, .slice X0 l0 e0] ∧ Blk w' w5.heap.size 27 #[.int .i64 k9, .int .i64 v9, .string st9, .bool ng9, .slice A9 n9 c9, .slice B9 m9 d9, .slice X9 l9 e9] := ⟨j.out.1.trans (q.2.mono j.out.1.size), j.out.2.1.trans (q.2.mono j.out.2.1.size), j.out.2.2.1.to q.2, j.out.2.2.2.to q.2⟩
            exact ⟨q.1, j', HSS.out _ j'⟩
          have hS0 := HSS.out _ HJ0.out
          have HC1 : Hid (∀ j (h : j < ts.length) W, Below w5.heap.size w5 W → Calls Try.prog 8 #[.agg (csm j).toArray] W fun e w' => e = .returned (.string ⟨(ts[j]).shapeL.toArray⟩) ∧ Below W.heap.size W w') := fun j h W hb => lawShape_any (HAM.out j h) (HTV.out j h).2 (HTV.out j h).1 W hb
          have HC2 : Hid (∀ j (h : j < ts.length) W, Below w.heap.size w W → Calls Try.prog 8 #[.agg (cs j).toArray] W fun e w' => e = .returned (.string ⟨(ts[j]).shapeL.toArray⟩) ∧ Below W.heap.size W w') := fun j h W hb => lawShape_any (HA.out j h) (HTV.out j h).2 (HTV.out j h).1 W hb
          generalize (⟨r.shapeL.toArray⟩ : ByteArray) = sr at *
          have hsr : (sr.toList == sr.toList) = true := by simp
          have hnn : ((n : Int) == (n : Int)) = true := by simp
          clear HB HB4 HK HK4 HTV HRV HSM HRSM HRE HLN3 hb5
          go_wp2_with fail
          go_region_held3 (fun w' => w'.cell? ⟨w5.heap.size, 0, none⟩ = some (.int .i64 k9) ∧ w'.cell? ⟨w5.heap.size, 1, none⟩ = some (.int .i64 v9) ∧ w'.cell? ⟨w5.heap.size, 2, none⟩ = some (.string st9) ∧ w'.cell? ⟨w5.heap.size, 3, none⟩ = some (.bool ng9) ∧ w'.cell? ⟨w5.heap.size, 4, none⟩ = some (.slice A9 n9 c9) ∧ w'.cell? ⟨w5.heap.size, 5, none⟩ = some (.slice B9 m9 d9) ∧ w'.cell? ⟨w5.heap.size, 6, none⟩ = some (.slice X9 l9 e9) ∧ w'.cell? ⟨w.heap.size, 0, none⟩ = some (.int .i64 k0) ∧ w'.cell? ⟨w.heap.size, 1, none⟩ = some (.int .i64 v0) ∧ w'.cell? ⟨w.heap.size, 2, none⟩ = some (.string st0) ∧ w'.cell? ⟨w.heap.size, 3, none⟩ = some (.bool ng0) ∧ w'.cell? ⟨w.heap.size, 4, none⟩ = some (.slice A0 n0 c0) ∧ w'.cell? ⟨w.heap.size, 5, none⟩ = some (.slice B0 m0 d0) ∧ w'.cell? ⟨w.heap.size, 6, none⟩ = some (.slice X0 l0 e0))
            (with_reducible assumption)
            (first
              | (go_at_call 8; (with_reducible refine (HS1.out _ HJ0).mono ?_); rintro e y1 ⟨rfl, HJ1, hS1⟩)
              | (go_at_call 8; (with_reducible refine (HS2.out _ HJ1).mono ?_); rintro e y2 ⟨rfl, HJ2, hS2⟩))
          clear HS1 HS2 HJ0 HJ1 hS0 hS1 hS2 HSS hsr
          go_wp2_with fail
          go_loopg [9] n (fun gk s9 wr => ∃ j : Nat, gk + j = n ∧ s9 = .int .i64 (j : Int) ∧ Hid (Below w.heap.size w wr ∧ Below w5.heap.size w5 wr ∧ Blk wr w.heap.size 27 #[.int .i64 k0, .int .i64 v0, .string st0, .bool ng0, .slice A0 n0 c0, .slice B0 m0 d0, .slice X0 l0 e0] ∧ Blk wr w5.heap.size 27 #[.int .i64 k9, .int .i64 v9, .string st9, .bool ng9, .slice A9 n9 c9, .slice B9 m9 d9, .slice X9 l9 e9]))
          case atStart => exact ⟨0, by omega, rfl, HJ2.out⟩
          case round =>
            clear HJ2
            obtain ⟨j, hgj, rfl, HJ⟩ := hrel
            by_cases hj : j < n
            · have hja : j < ts.length := by rw [HL.out]; exact hj
              obtain ⟨bm, om, k6, v6, st6, ng6, A6, n6, c6, B6, m6, d6, X6, l6, e6, hAm, hcs6, hlt6, _⟩ := arg_cells HRM.out HAM.out (Below.refl _ w5) hja
              obtain ⟨bl, ol, k7, v7, st7, ng7, A7, n7, c7, B7, m7, d7, X7, l7, e7, hAl, hcs7, hlt7, _⟩ := arg_cells HROW.out HA.out (Below.refl _ w) hja
              subst hAm hAl
              have HSJ : Hid (∀ W, Below w.heap.size w W ∧ Below w5.heap.size w5 W ∧ Blk W w.heap.size 27 #[.int .i64 k0, .int .i64 v0, .string st0, .bool ng0, .slice A0 n0 c0, .slice B0 m0 d0, .slice X0 l0 e0] ∧ Blk W w5.heap.size 27 #[.int .i64 k9, .int .i64 v9, .string st9, .bool ng9, .slice A9 n9 c9, .slice B9 m9 d9, .slice X9 l9 e9] → W.cell? ⟨bm, om + j * 7, none⟩ = some (.int .i64 k6) ∧ W.cell? ⟨bm, om + j * 7 + 1, none⟩ = some (.int .i64 v6) ∧ W.cell? ⟨bm, om + j * 7 + 2, none⟩ = some (.string st6) ∧ W.cell? ⟨bm, om + j * 7 + 3, none⟩ = some (.bool ng6) ∧ W.cell? ⟨bm, om + j * 7 + 4, none⟩ = some (.slice A6 n6 c6) ∧ W.cell? ⟨bm, om + j * 7 + 5, none⟩ = some (.slice B6 m6 d6) ∧ W.cell? ⟨bm, om + j * 7 + 6, none⟩ = some (.slice X6 l6 e6) ∧ W.cell? ⟨bl, ol + j * 7, none⟩ = some (.int .i64 k7) ∧ W.cell? ⟨bl, ol + j * 7 + 1, none⟩ = some (.int .i64 v7) ∧ W.cell? ⟨bl, ol + j * 7 + 2, none⟩ = some (.string st7) ∧ W.cell? ⟨bl, ol + j * 7 + 3, none⟩ = some (.bool ng7) ∧ W.cell? ⟨bl, ol + j * 7 + 4, none⟩ = some (.slice A7 n7 c7) ∧ W.cell? ⟨bl, ol + j * 7 + 5, none⟩ = some (.slice B7 m7 d7) ∧ W.cell? ⟨bl, ol + j * 7 + 6, none⟩ = some (.slice X7 l7 e7)) := fun W jj => by
                obtain ⟨bm', om', z0, z1, z2, z3, z4, z5, z6, z7, z8, z9, z10, z11, z12, hA6, hcs6', _, y0, y1, y2, y3, y4, y5, y6⟩ := arg_cells HRM.out HAM.out jj.2.1 hja
                obtain ⟨bl', ol', g0, g1, g2, g3, g4, g5, g6, g7, g8, g9, g10, g11, g12, hA7, hcs7', _, x0, x1, x2, x3, x4, x5, x6⟩ := arg_cells HROW.out HA.out jj.1 hja
                rw [hcs6] at hcs6'
                rw [hcs7] at hcs7'
                simp only [Option.some.injEq, Addr.mk.injEq, and_true] at hA6 hA7
                obtain ⟨rfl, rfl⟩ := hA6
                obtain ⟨rfl, rfl⟩ := hA7
                simp only [List.cons.injEq, Value.int.injEq, Value.string.injEq, Value.bool.injEq, Value.slice.injEq, and_true, true_and] at hcs6' hcs7'
                obtain ⟨rfl, rfl, rfl, rfl, ⟨rfl, rfl, rfl⟩, ⟨rfl, rfl, rfl⟩, rfl, rfl, rfl⟩ := hcs6'
                obtain ⟨rfl, rfl, rfl, rfl, ⟨rfl, rfl, rfl⟩, ⟨rfl, rfl, rfl⟩, rfl, rfl, rfl⟩ := hcs7'
                exact ⟨y0, y1, y2, y3, y4, y5, y6, x0, x1, x2, x3, x4, x5, x6⟩
              have H1 := Lib.hid (HC1.out j hja)
              have H2 := Lib.hid (HC2.out j hja)
              rw [hcs6] at H1
              rw [hcs7] at H2
              have HS1 : Hid (∀ W, Hid (Below w.heap.size w W ∧ Below w5.heap.size w5 W ∧ Blk W w.heap.size 27 #[.int .i64 k0, .int .i64 v0, .string st0, .bool ng0, .slice A0 n0 c0, .slice B0 m0 d0, .slice X0 l0 e0] ∧ Blk W w5.heap.size 27 #[.int .i64 k9, .int .i64 v9, .string st9, .bool ng9, .slice A9 n9 c9, .slice B9 m9 d9, .slice X9 l9 e9]) → Calls Try.prog 8 #[.agg #[.int .i64 k6, .int .i64 v6, .string st6, .bool ng6, .slice A6 n6 c6, .slice B6 m6 d6, .slice X6 l6 e6]] W fun e w' => e = .returned (.string ⟨(ts[j]).shapeL.toArray⟩) ∧ Hid (Below w.heap.size w w' ∧ Below w5.heap.size w5 w' ∧ Blk w' w.heap.size 27 #[.int .i64 k0, .int .i64 v0, .string st0, .bool ng0, .slice A0 n0 c0, .slice B0 m0 d0, .slice X0 l0 e0] ∧ Blk w' w5.heap.size 27 #[.int .i64 k9, .int .i64 v9, .string st9, .bool ng9, .slice A9 n9 c9, .slice B9 m9 d9, .slice X9 l9 e9]) ∧ (w'.cell? ⟨bm, om + j * 7, none⟩ = some (.int .i64 k6) ∧ w'.cell? ⟨bm, om + j * 7 + 1, none⟩ = some (.int .i64 v6) ∧ w'.cell? ⟨bm, om + j * 7 + 2, none⟩ = some (.string st6) ∧ w'.cell? ⟨bm, om + j * 7 + 3, none⟩ = some (.bool ng6) ∧ w'.cell? ⟨bm, om + j * 7 + 4, none⟩ = some (.slice A6 n6 c6) ∧ w'.cell? ⟨bm, om + j * 7 + 5, none⟩ = some (.slice B6 m6 d6) ∧ w'.cell? ⟨bm, om + j * 7 + 6, none⟩ = some (.slice X6 l6 e6) ∧ w'.cell? ⟨bl, ol + j * 7, none⟩ = some (.int .i64 k7) ∧ w'.cell? ⟨bl, ol + j * 7 + 1, none⟩ = some (.int .i64 v7) ∧ w'.cell? ⟨bl, ol + j * 7 + 2, none⟩ = some (.string st7) ∧ w'.cell? ⟨bl, ol + j * 7 + 3, none⟩ = some (.bool ng7) ∧ w'.cell? ⟨bl, ol + j * 7 + 4, none⟩ = some (.slice A7 n7 c7) ∧ w'.cell? ⟨bl, ol + j * 7 + 5, none⟩ = some (.slice B7 m7 d7) ∧ w'.cell? ⟨bl, ol + j * 7 + 6, none⟩ = some (.slice X7 l7 e7))) := fun W jj => (H1.out W jj.out.2.1).mono fun e w' q => by
                have j' : Below w.heap.size w w' ∧ Below w5.heap.size w5 w' ∧ Blk w' w.heap.size 27 #[.int .i64 k0, .int .i64 v0, .string st0, .bool ng0, .slice A0 n0 c0, .slice B0 m0 d0, .slice X0 l0 e0] ∧ Blk w' w5.heap.size 27 #[.int .i64 k9, .int .i64 v9, .string st9, .bool ng9, .slice A9 n9 c9, .slice B9 m9 d9, .slice X9 l9 e9] := ⟨jj.out.1.trans (q.2.mono jj.out.1.size), jj.out.2.1.trans (q.2.mono jj.out.2.1.size), jj.out.2.2.1.to q.2, jj.out.2.2.2.to q.2⟩
                exact ⟨q.1, j', HSJ.out _ j'⟩
              have HS2 : Hid (∀ W, Hid (Below w.heap.size w W ∧ Below w5.heap.size w5 W ∧ Blk W w.heap.size 27 #[.int .i64 k0, .int .i64 v0, .string st0, .bool ng0, .slice A0 n0 c0, .slice B0 m0 d0, .slice X0 l0 e0] ∧ Blk W w5.heap.size 27 #[.int .i64 k9, .int .i64 v9, .string st9, .bool ng9, .slice A9 n9 c9, .slice B9 m9 d9, .slice X9 l9 e9]) → Calls Try.prog 8 #[.agg #[.int .i64 k7, .int .i64 v7, .string st7, .bool ng7, .slice A7 n7 c7, .slice B7 m7 d7, .slice X7 l7 e7]] W fun e w' => e = .returned (.string ⟨(ts[j]).shapeL.toArray⟩) ∧ Hid (Below w.heap.size w w' ∧ Below w5.heap.size w5 w' ∧ Blk w' w.heap.size 27 #[.int .i64 k0, .int .i64 v0, .string st0, .bool ng0, .slice A0 n0 c0, .slice B0 m0 d0, .slice X0 l0 e0] ∧ Blk w' w5.heap.size 27 #[.int .i64 k9, .int .i64 v9, .string st9, .bool ng9, .slice A9 n9 c9, .slice B9 m9 d9, .slice X9 l9 e9]) ∧ (w'.cell? ⟨bm, om + j * 7, none⟩ = some (.int .i64 k6) ∧ w'.cell? ⟨bm, om + j * 7 + 1, none⟩ = some (.int .i64 v6) ∧ w'.cell? ⟨bm, om + j * 7 + 2, none⟩ = some (.string st6) ∧ w'.cell? ⟨bm, om + j * 7 + 3, none⟩ = some (.bool ng6) ∧ w'.cell? ⟨bm, om + j * 7 + 4, none⟩ = some (.slice A6 n6 c6) ∧ w'.cell? ⟨bm, om + j * 7 + 5, none⟩ = some (.slice B6 m6 d6) ∧ w'.cell? ⟨bm, om + j * 7 + 6, none⟩ = some (.slice X6 l6 e6) ∧ w'.cell? ⟨bl, ol + j * 7, none⟩ = some (.int .i64 k7) ∧ w'.cell? ⟨bl, ol + j * 7 + 1, none⟩ = some (.int .i64 v7) ∧ w'.cell? ⟨bl, ol + j * 7 + 2, none⟩ = some (.string st7) ∧ w'.cell? ⟨bl, ol + j * 7 + 3, none⟩ = some (.bool ng7) ∧ w'.cell? ⟨bl, ol + j * 7 + 4, none⟩ = some (.slice A7 n7 c7) ∧ w'.cell? ⟨bl, ol + j * 7 + 5, none⟩ = some (.slice B7 m7 d7) ∧ w'.cell? ⟨bl, ol + j * 7 + 6, none⟩ = some (.slice X7 l7 e7))) := fun W jj => (H2.out W jj.out.1).mono fun e w' q => by
                have j' : Below w.heap.size w w' ∧ Below w5.heap.size w5 w' ∧ Blk w' w.heap.size 27 #[.int .i64 k0, .int .i64 v0, .string st0, .bool ng0, .slice A0 n0 c0, .slice B0 m0 d0, .slice X0 l0 e0] ∧ Blk w' w5.heap.size 27 #[.int .i64 k9, .int .i64 v9, .string st9, .bool ng9, .slice A9 n9 c9, .slice B9 m9 d9, .slice X9 l9 e9] := ⟨jj.out.1.trans (q.2.mono jj.out.1.size), jj.out.2.1.trans (q.2.mono jj.out.2.1.size), jj.out.2.2.1.to q.2, jj.out.2.2.2.to q.2⟩
                exact ⟨q.1, j', HSJ.out _ j'⟩
              generalize (⟨(ts[j]).shapeL.toArray⟩ : ByteArray) = sj at *
              have hsj : (sj.toList == sj.toList) = true := by simp
              have HJ0 : Hid (Below w.heap.size w wr.drew ∧ Below w5.heap.size w5 wr.drew ∧ Blk wr.drew w.heap.size 27 #[.int .i64 k0, .int .i64 v0, .string st0, .bool ng0, .slice A0 n0 c0, .slice B0 m0 d0, .slice X0 l0 e0] ∧ Blk wr.drew w5.heap.size 27 #[.int .i64 k9, .int .i64 v9, .string st9, .bool ng9, .slice A9 n9 c9, .slice B9 m9 d9, .slice X9 l9 e9]) := ⟨HJ.out.1.drew, HJ.out.2.1.drew, HJ.out.2.2.1.drew, HJ.out.2.2.2.drew⟩
              have hS0 := HSJ.out _ HJ0.out
              clear hcs6 hcs7 hlt6 hlt7 H1 H2 HC1 HC2 HSJ HJ
              go_wp2_with fail
              go_region_held3 (fun w' => w'.cell? ⟨bm, om + j * 7, none⟩ = some (.int .i64 k6) ∧ w'.cell? ⟨bm, om + j * 7 + 1, none⟩ = some (.int .i64 v6) ∧ w'.cell? ⟨bm, om + j * 7 + 2, none⟩ = some (.string st6) ∧ w'.cell? ⟨bm, om + j * 7 + 3, none⟩ = some (.bool ng6) ∧ w'.cell? ⟨bm, om + j * 7 + 4, none⟩ = some (.slice A6 n6 c6) ∧ w'.cell? ⟨bm, om + j * 7 + 5, none⟩ = some (.slice B6 m6 d6) ∧ w'.cell? ⟨bm, om + j * 7 + 6, none⟩ = some (.slice X6 l6 e6) ∧ w'.cell? ⟨bl, ol + j * 7, none⟩ = some (.int .i64 k7) ∧ w'.cell? ⟨bl, ol + j * 7 + 1, none⟩ = some (.int .i64 v7) ∧ w'.cell? ⟨bl, ol + j * 7 + 2, none⟩ = some (.string st7) ∧ w'.cell? ⟨bl, ol + j * 7 + 3, none⟩ = some (.bool ng7) ∧ w'.cell? ⟨bl, ol + j * 7 + 4, none⟩ = some (.slice A7 n7 c7) ∧ w'.cell? ⟨bl, ol + j * 7 + 5, none⟩ = some (.slice B7 m7 d7) ∧ w'.cell? ⟨bl, ol + j * 7 + 6, none⟩ = some (.slice X7 l7 e7))
                (with_reducible assumption)
                (first
                  | (go_at_call 8; (with_reducible refine (HS1.out _ HJ0).mono ?_); rintro e y1 ⟨rfl, HJ1, hS1⟩)
                  | (go_at_call 8; (with_reducible refine (HS2.out _ HJ1).mono ?_); rintro e y2 ⟨rfl, HJ2, hS2⟩))
              clear HS1 HS2 HJ0 HJ1 hS0 hS1 hS2
              go_wp2_with fail
              go_roundg (gk - 1)
              case measure => omega
              case rel => exact ⟨j + 1, by omega, by go_num, HJ2.out⟩
            · obtain rfl : n = j := by omega
              go_wp2_with fail
              refine (HBN.out _).mono ?_
              rintro e w9 ⟨rfl, hb9⟩
              have HW9 : Hid (Below w.heap.size w w9) := HJ.out.1.trans (hb9.mono HJ.out.1.size)
              clear hb9
              go_wp2_with fail
              go_ret
              exact ⟨rfl, HW9.out⟩

/-- TermListRoundTrip. -/
theorem termList_holds : Rows.TermListRoundTripSaid := LawTmList.said law_tmList
end Go.Proofs.Ytkamkaehlofgpaa

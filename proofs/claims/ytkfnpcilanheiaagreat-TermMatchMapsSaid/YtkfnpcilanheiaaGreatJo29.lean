/- term.match: a map of bindings, extended. And 1 more texts. -/
import Derived.Deep.RegionHeld3
import Derived.Shelf.SlSortCmp.WholeK
import Derived.Ground.SlsfProg
import Derived.Test.YtkfnpcilanheiaaGreatProg
import Derived.Test.YtkfnpcilanheiaaGreatJo27
import Derived.Test.YtkfnpcilanheiaaGreatJo28
set_option linter.unusedVariables false
set_option linter.unusedSimpArgs false
set_option maxRecDepth 100000
namespace Go.Proofs.YtkfnpcilanheiaaGreat
open Go.RowKit NumB
set_option maxHeartbeats 12800000 in
theorem match_any {w : World} (ms : Nat) (hms : w.heap.size ≤ ms) {p : Tm} {cp : List Value} (hp : TC w p cp) : ∀ (t : Tm) (ct : List Value), TC w t ct → p.err0 = 0 → t.err0 = 0 → ∀ (bs : List (Int × Tm)), Vld bs → bs.length + p.count ≤ 1000000 → ∀ (W : World), Below w.heap.size w W → MapT w W ms bs →
    Calls Tryz.prog 49 #[.agg cp.toArray, .agg ct.toArray, .map (some ms)] W fun e W' => e = .returned (.bool (p.mat t bs).isSome) ∧ Hid (∀ bs', p.mat t bs = some bs' → MapT w W' ms bs' ∧ Vld bs' ∧ bs'.length ≤ bs.length + p.count) ∧ Kept (fun k => k = ms) W W' := by
  induction hp with
  | mk k v s n args A B Ar cap cs hk hv hs hA hB hn hcap hm hr ha ih =>
    intro t ct ht ep et bs hvd hbl W hW hM
    have HORD : Hid (∀ x cx, TC w x cx → x.err0 = 0 → ∀ W', Below w.heap.size w W' → Calls Tryz.prog 87 #[.agg cx.toArray, .agg ct.toArray] W' fun e w' => e = .returned (.int .i64 (x.cmp t)) ∧ Below W'.heap.size W' w') := fun x cx hx ex W' hb => order_any hx t ct ht ex et W' hb
    have HTT := Lib.hid ht
    cases ht with
    | mk k2 v2 s2 n2 args2 A2 B2 Ar2 cap2 cs2 hk2 hv2 hs2 hA2 hB2 hn2 hcap2 hm2 hr2 ha2 =>
      have HSN : Hid (∀ W', Below w.heap.size w W' → Calls Tryz.prog 88 #[.agg #[.bool n.neg, A, B], .agg #[.bool n2.neg, A2, B2]] W' fun e w' => e = .returned (.bool (sameB n n2)) ∧ Below W'.heap.size W' w') := fun W' hb => sameNumber_any n n2 A B A2 B2 hA hB hA2 hB2 W' hb
      obtain ⟨np, hep⟩ := err0_node ep
      obtain ⟨nt, het⟩ := err0_node et
      have HEP := Lib.hid hep
      have HET := Lib.hid het
      have HE2 := Lib.hid et
      have hl32 : args.length ≤ 32 := by rcases node_parts np with ⟨_, _, _, _, h⟩ | ⟨_, _, _, _, ⟨_, _, _, _, h⟩ | ⟨_, _, _, h⟩ | ⟨_, _, _, h⟩ | ⟨_, _, _, _, h⟩⟩ <;> omega
      have hnum : k = 2 → args.length = 0 := fun h => (node_parts np).elim (fun q => q.2.2.2.2) (fun q => absurd h q.1)
      have HCT : Hid ((Tm.mk k v s n args).count = 1 + countL args) := rfl
      have HMT : Hid ((k = 1 → (fnd bs v = none → (Tm.mk k v s n args).mat (.mk k2 v2 s2 n2 args2) bs = some (insK (v, .mk k2 v2 s2 n2 args2) bs)) ∧ ∀ x, fnd bs v = some x → (Tm.mk k v s n args).mat (.mk k2 v2 s2 n2 args2) bs = if x.cmp (.mk k2 v2 s2 n2 args2) = 0 then some bs else none) ∧ (k ≠ 1 → (k = k2 → s.toList = s2.toList → args.length = args2.length → (k = 2 → sameB n n2 = true) → (Tm.mk k v s n args).mat (.mk k2 v2 s2 n2 args2) bs = matL args args2 bs) ∧ (¬ (k = k2 ∧ s.toList = s2.toList ∧ args.length = args2.length ∧ (k = 2 → sameB n n2 = true)) → (Tm.mk k v s n args).mat (.mk k2 v2 s2 n2 args2) bs = none))) := by
        refine ⟨fun h => ⟨fun h2 => ?_, fun x h2 => ?_⟩, fun h => ⟨fun h1 h2 h3 h4 => ?_, fun h2 => ?_⟩⟩
        · rw [Tm.mat, if_pos h, h2]
        · rw [Tm.mat, if_pos h, h2]
        · rw [Tm.mat, if_neg h, if_pos (by rw [Tm.hd]; exact decide_eq_true ⟨h1, h2, h3, h4⟩)]; rfl
        · rw [Tm.mat, if_neg h, if_neg (by rw [Tm.hd]; intro q; exact h2 (of_decide_eq_true q))]
      have HBL : Hid (bs.length + (1 + countL args) ≤ 1000000) := hbl
      have HVD := Lib.hid hvd
      have IH := Lib.hid ih
      have HR := Lib.hid hr
      have HA := Lib.hid ha
      have HR2 := Lib.hid hr2
      have HA2 := Lib.hid ha2
      have HWB := Lib.hid hW
      have HM0 := Lib.hid hM
      have HMS := Lib.hid hms
      have HMS2 := Lib.hid hM.lt
      have HV : Hid (i64ok v) := hv
      unfold maxLen at hm hm2
      obtain ⟨A1, q1, rfl, _⟩ := hA
      obtain ⟨B1, q2, rfl, _⟩ := hB
      obtain ⟨A2, q3, rfl, _⟩ := hA2
      obtain ⟨B2, q4, rfl, _⟩ := hB2
      clear ih hr ha hr2 ha2 hW hM hvd hbl ep et hep het np nt hk hv hs hn hk2 hv2 hs2 hn2 hms
      generalize (Tm.mk k v s n args).count = ct at *
      generalize hmt : (Tm.mk k v s n args).mat (.mk k2 v2 s2 n2 args2) bs = mt at *
      generalize Tm.mk k2 v2 s2 n2 args2 = tt at *
      clear hmt
      generalize sameB n n2 = sb at *
      generalize n.num.length = m1 at *
      generalize n.den.length = m2 at *
      generalize n2.num.length = m3 at *
      generalize n2.den.length = m4 at *
      generalize n.neg = ng at *
      generalize n2.neg = ng2 at *
      obtain ⟨l, hl⟩ : ∃ l, args.length = l := ⟨_, rfl⟩
      obtain ⟨l2, hl2⟩ : ∃ l2, args2.length = l2 := ⟨_, rfl⟩
      rw [hl] at hcap hl32 hnum HMT ⊢
      rw [hl2] at hcap2 HMT HORD HTT ⊢
      have HL := Lib.hid hl
      have HL2 := Lib.hid hl2
      clear hl hl2
      have HB0 : Hid (Below W.heap.size W ((W.alloc (.cells #[.int .i64 k, .int .i64 v, .string s, .bool ng, .slice A1 m1 q1, .slice B1 m2 q2, .slice Ar l cap] 27)).alloc (.cells #[.int .i64 k2, .int .i64 v2, .string s2, .bool ng2, .slice A2 m3 q3, .slice B2 m4 q4, .slice Ar2 l2 cap2] 27))) := below_pair W _ _
      have HKP : Hid (Blk ((W.alloc (.cells #[.int .i64 k, .int .i64 v, .string s, .bool ng, .slice A1 m1 q1, .slice B1 m2 q2, .slice Ar l cap] 27)).alloc (.cells #[.int .i64 k2, .int .i64 v2, .string s2, .bool ng2, .slice A2 m3 q3, .slice B2 m4 q4, .slice Ar2 l2 cap2] 27)) W.heap.size 27 #[.int .i64 k, .int .i64 v, .string s, .bool ng, .slice A1 m1 q1, .slice B1 m2 q2, .slice Ar l cap]) := (Blk.new W _ _).alloc _
      have HKT : Hid (Blk ((W.alloc (.cells #[.int .i64 k, .int .i64 v, .string s, .bool ng, .slice A1 m1 q1, .slice B1 m2 q2, .slice Ar l cap] 27)).alloc (.cells #[.int .i64 k2, .int .i64 v2, .string s2, .bool ng2, .slice A2 m3 q3, .slice B2 m4 q4, .slice Ar2 l2 cap2] 27)) (W.heap.size + 1) 27 #[.int .i64 k2, .int .i64 v2, .string s2, .bool ng2, .slice A2 m3 q3, .slice B2 m4 q4, .slice Ar2 l2 cap2]) := blk_2nd W _ _
      go_enter Tryz.func49, Tryz.ntmps49
      by_cases hk1 : k = 1
      · subst hk1
        have HMV := Lib.hid (HMT.out.1 rfl)
        have HMY : Hid (MapT w ((W.alloc (.cells #[.int .i64 1, .int .i64 v, .string s, .bool ng, .slice A1 m1 q1, .slice B1 m2 q2, .slice Ar l cap] 27)).alloc (.cells #[.int .i64 k2, .int .i64 v2, .string s2, .bool ng2, .slice A2 m3 q3, .slice B2 m4 q4, .slice Ar2 l2 cap2] 27)) ms bs) := HM0.out.below HB0.out
        clear HMT IH HSN
        rcases HMY.out.look HV.out with ⟨hf, lk⟩ | ⟨x, cx, hf, hx, lk⟩
        · have HF := Lib.hid (HMV.out.1 hf)
          have HM1 : Hid (MapT w (((W.alloc (.cells #[.int .i64 1, .int .i64 v, .string s, .bool ng, .slice A1 m1 q1, .slice B1 m2 q2, .slice Ar l cap] 27)).alloc (.cells #[.int .i64 k2, .int .i64 v2, .string s2, .bool ng2, .slice A2 m3 q3, .slice B2 m4 q4, .slice Ar2 l2 cap2] 27)).alloc (.cells #[.int .i64 0, .int .i64 0, .string ⟨#[]⟩, .bool false, .slice none 0 0, .slice none 0 0, .slice none 0 0] 27)) ms bs) := HMY.out.below (below_one _ _)
          have hlen : bs.length < maxLen := by have := HBL.out; unfold maxLen; omega
          obtain ⟨z, hz, hmz, hgz⟩ := HM1.out.put HV.out hf hlen HTT.out
          have HK1 : Hid (Kept (fun k => k = ms) W z) := (Kept.of_below (HB0.out.trans ((below_one _ _).mono HB0.out.size))).trans ((Kept.grown hgz).mono fun k hk => by cases hk; rfl)
          have HMZ := Lib.hid hmz
          have HVZ := Lib.hid (HVD.out.ins hf HE2.out)
          clear hmz hgz hlen hf HM1 HMY HM0 HMV
          go_wp2_with fail
          go_ret
          rw [HF.out]
          exact ⟨rfl, (fun bs' h => by cases h; exact ⟨HMZ.out, HVZ.out, by rw [insK_len]; have := HCT.out; omega⟩), HK1.out⟩
        · have HF := Lib.hid (HMV.out.2 x hf)
          obtain ⟨k7, v7, st7, ng7, A7, n7, c7, B7, b7, d7, X7, l7, e7, hf7⟩ := hx.form
          subst hf7
          have HCO := Lib.hid (HORD.out x _ hx (HVD.out v x hf))
          generalize x.cmp tt = c at *
          clear hf hx HMV HORD
          have HB1 : Hid (Below W.heap.size W (((W.alloc (.cells #[.int .i64 1, .int .i64 v, .string s, .bool ng, .slice A1 m1 q1, .slice B1 m2 q2, .slice Ar l cap] 27)).alloc (.cells #[.int .i64 k2, .int .i64 v2, .string s2, .bool ng2, .slice A2 m3 q3, .slice B2 m4 q4, .slice Ar2 l2 cap2] 27)).alloc (.cells #[.int .i64 k7, .int .i64 v7, .string st7, .bool ng7, .slice A7 n7 c7, .slice B7 b7 d7, .slice X7 l7 e7] 27))) := HB0.out.trans ((below_one _ _).mono HB0.out.size)
          go_wp2_with fail
          refine (HCO.out _ (by exact HWB.out.trans (HB1.out.mono HWB.out.size))).mono ?_
          rintro e w1 ⟨rfl, hb1⟩
          have HB2 : Hid (Below W.heap.size W w1) := HB1.out.trans (hb1.mono HB1.out.size)
          have HM2 : Hid (MapT w w1 ms bs) := (HM0.out.below HB1.out).below hb1
          clear hb1 HB1 HB0 HKP HKT HM0 HMY HCO lk
          by_cases hc : c = 0
          · subst hc
            have HF2 : Hid (mt = some bs) := by have := HF.out; rw [if_pos rfl] at this; exact this
            clear HF
            go_wp2_with fail
            go_ret
            rw [HF2.out]
            exact ⟨rfl, (fun bs' h => by cases h; exact ⟨HM2.out, HVD.out, by omega⟩), .of_below HB2.out⟩
          · have hcb : (c == 0) = false := beq_eq_false_iff_ne.2 hc
            have HF2 : Hid (mt = none) := by have := HF.out; rw [if_neg hc] at this; exact this
            clear HF hc
            go_wp2_with fail
            go_ret
            rw [HF2.out]
            exact ⟨rfl, (fun bs' h => by cases h), .of_below HB2.out⟩
      · have hkb : (k == 1) = false := beq_eq_false_iff_ne.2 hk1
        have HMT := Lib.hid (HMT.out.2 hk1)
        have HK0 : Hid (Kept (fun k => k = ms) W ((W.alloc (.cells #[.int .i64 k, .int .i64 v, .string s, .bool ng, .slice A1 m1 q1, .slice B1 m2 q2, .slice Ar l cap] 27)).alloc (.cells #[.int .i64 k2, .int .i64 v2, .string s2, .bool ng2, .slice A2 m3 q3, .slice B2 m4 q4, .slice Ar2 l2 cap2] 27))) := .of_below HB0.out
        clear HORD HTT hk1
        by_cases hkk : k = k2
        rotate_left
        · have hkf : (k == k2) = false := beq_eq_false_iff_ne.2 hkk
          have HF : Hid (mt = none) := HMT.out.2 fun h => hkk h.1
          clear HMT HM0 IH HSN
          go_wp2_with fail
          go_ret
          rw [HF.out]
          exact ⟨rfl, (fun bs' h => by cases h), HK0.out⟩
        subst hkk
        by_cases hss : s.toList = s2.toList
        rotate_left
        · have hsf : (s.toList == s2.toList) = false := beq_eq_false_iff_ne.2 hss
          have HF : Hid (mt = none) := HMT.out.2 fun h => hss h.2.1
          clear HMT HM0 IH HSN
          go_wp2_with fail
          go_ret
          rw [HF.out]
          exact ⟨rfl, (fun bs' h => by cases h), HK0.out⟩
        have hst : (s.toList == s2.toList) = true := by rw [hss]; exact beq_self_eq_true _
        by_cases hll : l = l2
        rotate_left
        · have hlf : ((l : Int) == (l2 : Int)) = false := beq_eq_false_iff_ne.2 (by omega)
          have HF : Hid (mt = none) := HMT.out.2 fun h => hll h.2.2.1
          clear HMT HM0 IH HSN
          go_wp2_with fail
          go_ret
          rw [HF.out]
          exact ⟨rfl, (fun bs' h => by cases h), HK0.out⟩
        subst hll
        have HSS0 := Lib.hid hss
        clear hss
        by_cases hk2 : k = 2
        · subst hk2
          obtain rfl : l = 0 := hnum rfl
          have y0 := HKP.out.cell 0
          have y1 := HKP.out.cell 1
          have y2 := HKP.out.cell 2
          have y3 := HKP.out.cell 3
          have y4 := HKP.out.cell 4
          have y5 := HKP.out.cell 5
          have y6 := HKP.out.cell 6
          simp only [List.getElem?_toArray, List.getElem?_cons_zero, List.getElem?_cons_succ] at y0 y1 y2 y3 y4 y5 y6
          have x0 := HKT.out.cell 0
          have x1 := HKT.out.cell 1
          have x2 := HKT.out.cell 2
          have x3 := HKT.out.cell 3
          have x4 := HKT.out.cell 4
          have x5 := HKT.out.cell 5
          have x6 := HKT.out.cell 6
          simp only [List.getElem?_toArray, List.getElem?_cons_zero, List.getElem?_cons_succ] at x0 x1 x2 x3 x4 x5 x6
          go_wp2_with fail
          refine (HSN.out _ (by exact HWB.out.trans (HB0.out.mono HWB.out.size))).mono ?_
          rintro e w1 ⟨rfl, hb1⟩
          have HB1 : Hid (Below W.heap.size W w1) := HB0.out.trans (hb1.mono HB0.out.size)
          have HK1 : Hid (Kept (fun k => k = ms) W w1) := .of_below HB1.out
          have HM1 : Hid (MapT w w1 ms bs) := HM0.out.below HB1.out
          have y6 := (HKP.out.to hb1).cell 6
          simp only [List.getElem?_toArray, List.getElem?_cons_zero, List.getElem?_cons_succ] at y6
          clear hb1 HB0 HK0 HM0 y0 y1 y2 y3 y4 y5 x0 x1 x2 x3 x4 x5 x6 HKP HKT
          cases sb with
          | true =>
            have HF : Hid (mt = some bs) := by
              have h := HMT.out.1 (by trivial) HSS0.out (by trivial) (fun _ => rfl)
              rw [h, List.eq_nil_of_length_eq_zero HL.out]
              rfl
            clear HMT IH HSN
            go_wp2_with fail
            go_loopg [67] 0 (fun gk s67 wr => gk = 0 ∧ s67 = .int .i64 0 ∧ w1 = wr)
            case atStart => exact ⟨rfl, rfl, rfl⟩
            case round =>
              obtain ⟨rfl, rfl, rfl⟩ := hrel
              go_wp2_with fail
              go_ret
              rw [HF.out]
              exact ⟨rfl, (fun bs' h => by cases h; exact ⟨HM1.out, HVD.out, by omega⟩), HK1.out⟩
          | false =>
            have HF : Hid (mt = none) := HMT.out.2 fun h => by have := h.2.2.2 (by trivial); cases this
            clear HMT IH HSN
            go_wp2_with fail
            go_ret
            rw [HF.out]
            exact ⟨rfl, (fun bs' h => by cases h), HK1.out⟩
        · have hk2b : (k == 2) = false := beq_eq_false_iff_ne.2 hk2
          have HML : Hid (mt = matL (args.drop 0) (args2.drop 0) bs) := HMT.out.1 (by trivial) HSS0.out (by trivial) (fun h => absurd h hk2)
          have HM1 : Hid (MapT w ((W.alloc (.cells #[.int .i64 k, .int .i64 v, .string s, .bool ng, .slice A1 m1 q1, .slice B1 m2 q2, .slice Ar l cap] 27)).alloc (.cells #[.int .i64 k, .int .i64 v2, .string s2, .bool ng2, .slice A2 m3 q3, .slice B2 m4 q4, .slice Ar2 l cap2] 27)) ms bs) := HM0.out.below HB0.out
          have HJ1 : Hid (Kept (fun k => k = ms) W ((W.alloc (.cells #[.int .i64 k, .int .i64 v, .string s, .bool ng, .slice A1 m1 q1, .slice B1 m2 q2, .slice Ar l cap] 27)).alloc (.cells #[.int .i64 k, .int .i64 v2, .string s2, .bool ng2, .slice A2 m3 q3, .slice B2 m4 q4, .slice Ar2 l cap2] 27)) ∧ Blk ((W.alloc (.cells #[.int .i64 k, .int .i64 v, .string s, .bool ng, .slice A1 m1 q1, .slice B1 m2 q2, .slice Ar l cap] 27)).alloc (.cells #[.int .i64 k, .int .i64 v2, .string s2, .bool ng2, .slice A2 m3 q3, .slice B2 m4 q4, .slice Ar2 l cap2] 27)) W.heap.size 27 #[.int .i64 k, .int .i64 v, .string s, .bool ng, .slice A1 m1 q1, .slice B1 m2 q2, .slice Ar l cap] ∧ Blk ((W.alloc (.cells #[.int .i64 k, .int .i64 v, .string s, .bool ng, .slice A1 m1 q1, .slice B1 m2 q2, .slice Ar l cap] 27)).alloc (.cells #[.int .i64 k, .int .i64 v2, .string s2, .bool ng2, .slice A2 m3 q3, .slice B2 m4 q4, .slice Ar2 l cap2] 27)) (W.heap.size + 1) 27 #[.int .i64 k, .int .i64 v2, .string s2, .bool ng2, .slice A2 m3 q3, .slice B2 m4 q4, .slice Ar2 l cap2]) := ⟨HK0.out, HKP.out, HKT.out⟩
          clear HMT HSN HM0 HK0 HB0 HKP HKT hk2 HSS0
          go_wp2_with fail
          clear hkb hst hk2b
          go_loopg [67] l (fun gk s67 wr => ∃ (j : Nat) (bj : List (Int × Tm)), gk + j = l ∧ s67 = .int .i64 (j : Int) ∧ Hid (mt = matL (args.drop j) (args2.drop j) bj) ∧ Hid (MapT w wr ms bj ∧ Vld bj ∧ bj.length ≤ bs.length + countL (args.take j)) ∧ Hid (Kept (fun k => k = ms) W wr ∧ Blk wr W.heap.size 27 #[.int .i64 k, .int .i64 v, .string s, .bool ng, .slice A1 m1 q1, .slice B1 m2 q2, .slice Ar l cap] ∧ Blk wr (W.heap.size + 1) 27 #[.int .i64 k, .int .i64 v2, .string s2, .bool ng2, .slice A2 m3 q3, .slice B2 m4 q4, .slice Ar2 l cap2]))
          case atStart => exact ⟨0, bs, by omega, rfl, HML.out, ⟨HM1.out, HVD.out, by rw [List.take_zero]; simp only [countL]; omega⟩, HJ1.out⟩
          case round =>
            clear HML HM1 HJ1
            obtain ⟨j, bj, hgj, rfl, HML, HMJ, HJ⟩ := hrel
            by_cases hj : j < l
            · have hja : j < args.length := by rw [HL.out]; exact hj
              have hjb : j < args2.length := by rw [HL2.out]; exact hj
              have HBW : Below w.heap.size w wr.drew := HWB.out.trans ((HJ.out.1.below HWB.out.size fun k hk => by subst hk; exact HMS.out).mono (Nat.le_refl _)).drew
              obtain ⟨pb, po, k5, v5, st5, ng5, A5, n5, c5, B5, b5, d5, X5, l5, e5, hAr, hcs, hlt, _⟩ := arg_cells HR.out HA.out HBW hja
              obtain ⟨tb, tq, k6, v6, st6, ng6, A6, n6, c6, B6, b6, d6, X6, l6, e6, hAr2, hcs2, hlt2, _⟩ := arg_cells HR2.out HA2.out HBW hjb
              subst hAr hAr2
              have HSS : Hid (∀ w', Below w.heap.size w w' → Blk w' W.heap.size 27 #[.int .i64 k, .int .i64 v, .string s, .bool ng, .slice A1 m1 q1, .slice B1 m2 q2, .slice (some ⟨pb, po, none⟩) l cap] → Blk w' (W.heap.size + 1) 27 #[.int .i64 k, .int .i64 v2, .string s2, .bool ng2, .slice A2 m3 q3, .slice B2 m4 q4, .slice (some ⟨tb, tq, none⟩) l cap2] → w'.cell? ⟨W.heap.size, 6, none⟩ = some (.slice (some ⟨pb, po, none⟩) l cap) ∧ w'.cell? ⟨W.heap.size + 1, 6, none⟩ = some (.slice (some ⟨tb, tq, none⟩) l cap2) ∧ w'.cell? ⟨pb, po + j * 7, none⟩ = some (.int .i64 k5) ∧ w'.cell? ⟨pb, po + j * 7 + 1, none⟩ = some (.int .i64 v5) ∧ w'.cell? ⟨pb, po + j * 7 + 2, none⟩ = some (.string st5) ∧ w'.cell? ⟨pb, po + j * 7 + 3, none⟩ = some (.bool ng5) ∧ w'.cell? ⟨pb, po + j * 7 + 4, none⟩ = some (.slice A5 n5 c5) ∧ w'.cell? ⟨pb, po + j * 7 + 5, none⟩ = some (.slice B5 b5 d5) ∧ w'.cell? ⟨pb, po + j * 7 + 6, none⟩ = some (.slice X5 l5 e5) ∧ w'.cell? ⟨tb, tq + j * 7, none⟩ = some (.int .i64 k6) ∧ w'.cell? ⟨tb, tq + j * 7 + 1, none⟩ = some (.int .i64 v6) ∧ w'.cell? ⟨tb, tq + j * 7 + 2, none⟩ = some (.string st6) ∧ w'.cell? ⟨tb, tq + j * 7 + 3, none⟩ = some (.bool ng6) ∧ w'.cell? ⟨tb, tq + j * 7 + 4, none⟩ = some (.slice A6 n6 c6) ∧ w'.cell? ⟨tb, tq + j * 7 + 5, none⟩ = some (.slice B6 b6 d6) ∧ w'.cell? ⟨tb, tq + j * 7 + 6, none⟩ = some (.slice X6 l6 e6)) := fun w' hb h1 h2 => by
                obtain ⟨pb', po', _, _, _, _, _, _, _, _, _, _, _, _, _, ea, ec, _, x0, x1, x2, x3, x4, x5, x6⟩ := arg_cells HR.out HA.out hb hja
                obtain ⟨tb', tq', _, _, _, _, _, _, _, _, _, _, _, _, _, ea2, ec2, _, z0, z1, z2, z3, z4, z5, z6⟩ := arg_cells HR2.out HA2.out hb hjb
                cases ea
                cases ea2
                rw [hcs] at ec
                rw [hcs2] at ec2
                cases ec
                cases ec2
                exact ⟨h1.cell 6, h2.cell 6, x0, x1, x2, x3, x4, x5, x6, z0, z1, z2, z3, z4, z5, z6⟩
              have hS0 := HSS.out _ HBW HJ.out.2.1.drew HJ.out.2.2.drew
              have HST := Lib.hid (matL_at hja hjb bj)
              have HQ : Hid (∀ y, y = wr.drew → Calls Tryz.prog 49 #[.agg #[.int .i64 k5, .int .i64 v5, .string st5, .bool ng5, .slice A5 n5 c5, .slice B5 b5 d5, .slice X5 l5 e5], .agg #[.int .i64 k6, .int .i64 v6, .string st6, .bool ng6, .slice A6 n6 c6, .slice B6 b6 d6, .slice X6 l6 e6], .map (some ms)] y fun e w' => e = .returned (.bool ((args[j]).mat args2[j] bj).isSome) ∧ Hid ((∀ bs', (args[j]).mat args2[j] bj = some bs' → MapT w w' ms bs' ∧ Vld bs' ∧ bs'.length ≤ bs.length + countL (args.take (j + 1))) ∧ Kept (fun k => k = ms) W w' ∧ Blk w' W.heap.size 27 #[.int .i64 k, .int .i64 v, .string s, .bool ng, .slice A1 m1 q1, .slice B1 m2 q2, .slice (some ⟨pb, po, none⟩) l cap] ∧ Blk w' (W.heap.size + 1) 27 #[.int .i64 k, .int .i64 v2, .string s2, .bool ng2, .slice A2 m3 q3, .slice B2 m4 q4, .slice (some ⟨tb, tq, none⟩) l cap2]) ∧ (w'.cell? ⟨W.heap.size, 6, none⟩ = some (.slice (some ⟨pb, po, none⟩) l cap) ∧ w'.cell? ⟨W.heap.size + 1, 6, none⟩ = some (.slice (some ⟨tb, tq, none⟩) l cap2) ∧ w'.cell? ⟨pb, po + j * 7, none⟩ = some (.int .i64 k5) ∧ w'.cell? ⟨pb, po + j * 7 + 1, none⟩ = some (.int .i64 v5) ∧ w'.cell? ⟨pb, po + j * 7 + 2, none⟩ = some (.string st5) ∧ w'.cell? ⟨pb, po + j * 7 + 3, none⟩ = some (.bool ng5) ∧ w'.cell? ⟨pb, po + j * 7 + 4, none⟩ = some (.slice A5 n5 c5) ∧ w'.cell? ⟨pb, po + j * 7 + 5, none⟩ = some (.slice B5 b5 d5) ∧ w'.cell? ⟨pb, po + j * 7 + 6, none⟩ = some (.slice X5 l5 e5) ∧ w'.cell? ⟨tb, tq + j * 7, none⟩ = some (.int .i64 k6) ∧ w'.cell? ⟨tb, tq + j * 7 + 1, none⟩ = some (.int .i64 v6) ∧ w'.cell? ⟨tb, tq + j * 7 + 2, none⟩ = some (.string st6) ∧ w'.cell? ⟨tb, tq + j * 7 + 3, none⟩ = some (.bool ng6) ∧ w'.cell? ⟨tb, tq + j * 7 + 4, none⟩ = some (.slice A6 n6 c6) ∧ w'.cell? ⟨tb, tq + j * 7 + 5, none⟩ = some (.slice B6 b6 d6) ∧ w'.cell? ⟨tb, tq + j * 7 + 6, none⟩ = some (.slice X6 l6 e6))) := fun y hy => by
                subst hy
                have h1 := countL_take args hja
                have h2 := countL_le args (j + 1)
                have h3 := HMJ.out.2.2
                have h4 := HBL.out
                have := IH.out j hja args2[j] (cs2 j) (HA2.out j hjb) (errL_get HEP.out hja) (errL_get HET.out hjb) bj HMJ.out.2.1 (by omega) wr.drew HBW HMJ.out.1.drew
                rw [hcs, hcs2] at this
                refine this.mono ?_
                rintro e w' ⟨he, hc, hk⟩
                have hne : ∀ g, W.heap.size ≤ g → ¬ g = ms := fun g hg e => by have := HMS2.out; omega
                have hb1 : Blk w' W.heap.size 27 #[.int .i64 k, .int .i64 v, .string s, .bool ng, .slice A1 m1 q1, .slice B1 m2 q2, .slice (some ⟨pb, po, none⟩) l cap] := hk.blk HJ.out.2.1.drew (hne _ (Nat.le_refl _))
                have hb2 : Blk w' (W.heap.size + 1) 27 #[.int .i64 k, .int .i64 v2, .string s2, .bool ng2, .slice A2 m3 q3, .slice B2 m4 q4, .slice (some ⟨tb, tq, none⟩) l cap2] := hk.blk HJ.out.2.2.drew (hne _ (Nat.le_succ _))
                have hk2 : Kept (fun k => k = ms) W w' := HJ.out.1.drew.trans hk
                refine ⟨he, ⟨fun bs' hbs => ?_, hk2, hb1, hb2⟩, HSS.out _ (HWB.out.trans ((hk2.below HWB.out.size fun k hk => by subst hk; exact HMS.out).mono (Nat.le_refl _))) hb1 hb2⟩
                obtain ⟨q3, q4, q5⟩ := hc.out bs' hbs
                exact ⟨q3, q4, by omega⟩
              obtain ⟨mo, hmo⟩ : ∃ mo, (args[j]).mat args2[j] bj = mo := ⟨_, rfl⟩
              rw [hmo] at HQ HST
              clear hmo
              clear HBW hlt hlt2 hcs hcs2 HSS HJ HMJ
              go_wp2_with fail
              go_region_held3 (fun w' => w'.cell? ⟨W.heap.size, 6, none⟩ = some (.slice (some ⟨pb, po, none⟩) l cap) ∧ w'.cell? ⟨W.heap.size + 1, 6, none⟩ = some (.slice (some ⟨tb, tq, none⟩) l cap2) ∧ w'.cell? ⟨pb, po + j * 7, none⟩ = some (.int .i64 k5) ∧ w'.cell? ⟨pb, po + j * 7 + 1, none⟩ = some (.int .i64 v5) ∧ w'.cell? ⟨pb, po + j * 7 + 2, none⟩ = some (.string st5) ∧ w'.cell? ⟨pb, po + j * 7 + 3, none⟩ = some (.bool ng5) ∧ w'.cell? ⟨pb, po + j * 7 + 4, none⟩ = some (.slice A5 n5 c5) ∧ w'.cell? ⟨pb, po + j * 7 + 5, none⟩ = some (.slice B5 b5 d5) ∧ w'.cell? ⟨pb, po + j * 7 + 6, none⟩ = some (.slice X5 l5 e5) ∧ w'.cell? ⟨tb, tq + j * 7, none⟩ = some (.int .i64 k6) ∧ w'.cell? ⟨tb, tq + j * 7 + 1, none⟩ = some (.int .i64 v6) ∧ w'.cell? ⟨tb, tq + j * 7 + 2, none⟩ = some (.string st6) ∧ w'.cell? ⟨tb, tq + j * 7 + 3, none⟩ = some (.bool ng6) ∧ w'.cell? ⟨tb, tq + j * 7 + 4, none⟩ = some (.slice A6 n6 c6) ∧ w'.cell? ⟨tb, tq + j * 7 + 5, none⟩ = some (.slice B6 b6 d6) ∧ w'.cell? ⟨tb, tq + j * 7 + 6, none⟩ = some (.slice X6 l6 e6))
                (with_reducible assumption)
                (first
                  | (go_at_call 49; (with_reducible refine (HQ.out _ rfl).mono ?_); rintro e y1 ⟨rfl, HC, hS1⟩))
              clear HQ hS0 hS1
              have HK := Lib.hid HC.out.2
              have HC1 := Lib.hid HC.out.1
              clear HC
              cases mo with
              | some bs' =>
                have HM2 := Lib.hid (HC1.out bs' rfl)
                have HML2 : Hid (mt = matL (args.drop (j + 1)) (args2.drop (j + 1)) bs') := by have := HML.out; rw [HST.out] at this; exact this
                clear HC1 HML HST
                go_wp2_with fail
                go_roundg (gk - 1)
                case measure => omega
                case rel => exact ⟨j + 1, bs', by omega, by go_num, HML2.out, HM2.out, HK.out⟩
              | none =>
                have HF : Hid (mt = none) := by have := HML.out; rw [HST.out] at this; exact this
                clear HC1 HML HST
                go_wp2_with fail
                go_ret
                rw [HF.out]
                exact ⟨rfl, (fun bs' h => by cases h), HK.out.1⟩
            · obtain rfl : l = j := by omega
              have HF : Hid (mt = some bj) := by have := HML.out; rw [matL_end (by rw [HL.out]; exact Nat.le_refl _)] at this; exact this
              have HTK := Lib.hid (List.take_of_length_le (i := l) (l := args) (by rw [HL.out]; exact Nat.le_refl _))
              clear HML
              go_wp2_with fail
              go_ret
              have h3 := HMJ.out.2.2
              rw [HTK.out] at h3
              rw [HF.out]
              exact ⟨rfl, (fun bs' h => by cases h; exact ⟨HMJ.out.1, HMJ.out.2.1, by have := HCT.out; omega⟩), HJ.out.1⟩
end Go.Proofs.YtkfnpcilanheiaaGreat
namespace Go.Proofs
open Go.Shelf
def Tryz.sortB_ren : Go.Shelf.Ren := ⟨fun | 6 => 89 | 15 => 136 | 14 => 135 | 28 => 201 | 29 => 202 | 20 => 193 | 21 => 194 | 22 => 195 | 23 => 196 | 24 => 197 | 25 => 198 | 26 => 199 | 27 => 200 | 46 => 260 | 47 => 261 | 48 => 262 | 49 => 263 | 50 => 264 | 57 => 289 | n => n, fun | 22 => 28 | 24 => 51 | 25 => 119 | 3 => 3 | 39 => 105 | 0 => 0 | 53 => 89 | 55 => 186 | 4 => 4 | 46 => 208 | 45 => 207 | 50 => 55 | 5 => 5 | 9 => 9 | 66 => 252 | 70 => 256 | 76 => 285 | 77 => 286 | n => n, fun | n => n⟩
theorem Tryz.sortB : Go.Proofs.SlLaysF0.n6 Tryz.prog Tryz.sortB_ren := {
  mixed := by kernel_rfl
  f6 := ⟨Tryz.f89.name, by decide, Tryz.func89.trans (congrArg some (by kernel_rfl))⟩
  f14 := ⟨Tryz.f135.name, by decide, Tryz.func135.trans (congrArg some (by kernel_rfl))⟩
  f15 := Tryz.func136.trans (congrArg some (by kernel_rfl))
  f20 := ⟨Tryz.f193.name, by decide, Tryz.func193.trans (congrArg some (by kernel_rfl))⟩
  f21 := ⟨Tryz.f194.name, by decide, Tryz.func194.trans (congrArg some (by kernel_rfl))⟩
  f22 := ⟨Tryz.f195.name, by decide, Tryz.func195.trans (congrArg some (by kernel_rfl))⟩
  f23 := ⟨Tryz.f196.name, by decide, Tryz.func196.trans (congrArg some (by kernel_rfl))⟩
  f24 := ⟨Tryz.f197.name, by decide, Tryz.func197.trans (congrArg some (by kernel_rfl))⟩
  f25 := ⟨Tryz.f198.name, by decide, Tryz.func198.trans (congrArg some (by kernel_rfl))⟩
  f26 := ⟨Tryz.f199.name, by decide, Tryz.func199.trans (congrArg some (by kernel_rfl))⟩
  f27 := ⟨Tryz.f200.name, by decide, Tryz.func200.trans (congrArg some (by kernel_rfl))⟩
  f28 := Tryz.func201.trans (congrArg some (by kernel_rfl))
  f29 := Tryz.func202.trans (congrArg some (by kernel_rfl))
  f46 := ⟨Tryz.f260.name, by decide, Tryz.func260.trans (congrArg some (by kernel_rfl))⟩
  f47 := Tryz.func261.trans (congrArg some (by kernel_rfl))
  f48 := Tryz.func262.trans (congrArg some (by kernel_rfl))
  f49 := ⟨Tryz.f263.name, by decide, Tryz.func263.trans (congrArg some (by kernel_rfl))⟩
  f50 := ⟨Tryz.f264.name, by decide, Tryz.func264.trans (congrArg some (by kernel_rfl))⟩
  f57 := ⟨Tryz.f289.name, by decide, Tryz.func289.trans (congrArg some (by kernel_rfl))⟩
  t0 := Tryz.underlying0
  a0 := Tryz.isAgg0
  z0 := Tryz.sizeOf0
  v0 := Tryz.zeroValue0
  t3 := Tryz.underlying3
  a3 := Tryz.isAgg3
  z3 := Tryz.sizeOf3
  v3 := Tryz.zeroValue3
  t4 := Tryz.underlying4
  a4 := Tryz.isAgg4
  z4 := Tryz.sizeOf4
  v4 := Tryz.zeroValue4
  t5 := Tryz.underlying5
  a5 := Tryz.isAgg5
  z5 := Tryz.sizeOf5
  v5 := Tryz.zeroValue5
  t9 := Tryz.underlying9
  a9 := Tryz.isAgg9
  z9 := Tryz.sizeOf9
  v9 := Tryz.zeroValue9
  t22 := Tryz.underlying28
  a22 := Tryz.isAgg28
  z22 := Tryz.sizeOf28
  v22 := Tryz.zeroValue28
  t25 := Tryz.underlying119
  a25 := Tryz.isAgg119
  z25 := Tryz.sizeOf119
  v25 := Tryz.zeroValue119
  t39 := Tryz.underlying105
  a39 := Tryz.isAgg105
  z39 := Tryz.sizeOf105
  v39 := Tryz.zeroValue105
  t45 := Tryz.underlying207
  a45 := Tryz.isAgg207
  z45 := Tryz.sizeOf207
  v45 := Tryz.zeroValue207
  t46 := Tryz.underlying208
  a46 := Tryz.isAgg208
  z46 := Tryz.sizeOf208
  v46 := Tryz.zeroValue208
  t50 := Tryz.underlying55
  a50 := Tryz.isAgg55
  z50 := Tryz.sizeOf55
  v50 := Tryz.zeroValue55
  t53 := Tryz.underlying89
  a53 := Tryz.isAgg89
  z53 := Tryz.sizeOf89
  v53 := Tryz.zeroValue89
  t55 := Tryz.underlying186
  a55 := Tryz.isAgg186
  z55 := Tryz.sizeOf186
  v55 := Tryz.zeroValue186
  t66 := Tryz.underlying252
  a66 := Tryz.isAgg252
  z66 := Tryz.sizeOf252
  v66 := Tryz.zeroValue252
  t70 := Tryz.underlying256
  a70 := Tryz.isAgg256
  z70 := Tryz.sizeOf256
  v70 := Tryz.zeroValue256
  t76 := Tryz.underlying285
  a76 := Tryz.isAgg285
  z76 := Tryz.sizeOf285
  v76 := Tryz.zeroValue285
  t77 := Tryz.underlying286
  a77 := Tryz.isAgg286
  z77 := Tryz.sizeOf286
  v77 := Tryz.zeroValue286 }
end Go.Proofs

/- fetterlockref1.digits, OfDecimal. Conditions: at most 10000 letters. fetterlockref1.reduce. Conditions: at most 50000 digits; the denominator is not 0. fetterlockref1.Made, with the answer as a plain function. -/
import Derived.Deep.RegionHeld3
import Derived.Test.YtdhgbnnopekfjaaDoorJo14
import Derived.Test.YtdhgbnnopekfjaaDoorJo15
import Derived.Test.YtdhgbnnopekfjaaDoorJo22
import Derived.Test.YtdhgbnnopekfjaaDoorJo23
import Derived.Test.YtdhgbnnopekfjaaDoorJo24
import Derived.Test.YtdhgbnnopekfjaaDoorJo25
import Derived.Test.YtdhgbnnopekfjaaDoorJo26
import Derived.Test.YtdhgbnnopekfjaaDoorJo31
set_option linter.unusedVariables false
set_option linter.unusedSimpArgs false
namespace Go.Proofs.YtdhgbnnopekfjaaDoor
open Go.RowKit NumB
set_option linter.unusedVariables false
set_option linter.unusedSimpArgs false

theorem allDig_step {t : ByteArray} {i c : Nat} (hi : i < t.size) (hc : t[i].toNat = c) (h : allDig (t.data.toList.take i) = true) (h1 : 48 ≤ c) (h2 : c ≤ 57) : allDig (t.data.toList.take (i + 1)) = true := by
  have hl : i < t.data.toList.length := by simpa using hi
  unfold allDig at *
  rw [List.take_succ_eq_append_getElem hl, List.all_append, h]
  have : isDig t.data.toList[i] = true := by
    unfold isDig
    have e : t.data.toList[i] = t[i] := rfl
    rw [e, hc]
    exact decide_eq_true ⟨h1, h2⟩
  rw [List.all_cons, this]; rfl
theorem allDig_not {t : ByteArray} {i c : Nat} (hi : i < t.size) (hc : t[i].toNat = c) (h1 : c < 48 ∨ 57 < c) : allDig t.data.toList = false := by
  cases h : allDig t.data.toList with
  | false => rfl
  | true => have := dig_at h hi; omega

set_option maxRecDepth 100000 in
set_option maxHeartbeats 3200000 in
theorem rdigits_any (s : ByteArray) (w : World) (hs : s.size ≤ 10000) :
    Calls Tryd.prog 35 #[.string s] w fun e w' => e = .returned (.bool (digitsB s.data.toList)) ∧ w' = w := by
  by_cases h0 : s.data.toList = []
  · have E : Hid (digitsB s.data.toList = false) := by unfold Hid digitsB; rw [h0]; rfl
    have h1 : s.toList.isEmpty = true := by rw [Lib.toList_data, h0]; rfl
    have h2 : s.toList = [] := by rw [Lib.toList_data, h0]
    clear h0
    go_enter Tryd.func35, Tryd.ntmps35
    go_wp2_with fail
    go_ret
    rw [E.out]
    exact ⟨rfl, rfl⟩
  · have h1 : s.toList.isEmpty = false := by rw [Lib.toList_data]; cases h : s.data.toList with | nil => exact absurd h h0 | cons _ _ => rfl
    have h2 : s.toList ≠ [] := by rw [Lib.toList_data]; exact h0
    have E : Hid (digitsB s.data.toList = allDig s.data.toList) := by unfold Hid digitsB; cases h : s.data.toList with | nil => exact absurd h h0 | cons _ _ => rfl
    clear h0
    go_enter Tryd.func35, Tryd.ntmps35
    go_wp2_with fail
    go_loopg [3] s.size (fun gk s3 wr => ∃ i : Nat, gk + i = s.size ∧ s3 = .int .i64 (i : Int) ∧ Hid (allDig (s.data.toList.take i) = true) ∧ wr = w)
    case atStart => exact ⟨0, by omega, rfl, rfl, rfl⟩
    case round =>
      obtain ⟨i, hgj, rfl, HA, rfl⟩ := hrel
      by_cases hi : i < s.size
      · obtain ⟨c, hc⟩ : ∃ c : Nat, s[i].toNat = c := ⟨_, rfl⟩
        have HC := Lib.hid hc
        by_cases hc1 : c < 48
        · have E2 : Hid (allDig s.data.toList = false) := allDig_not hi hc (.inl hc1)
          go_wp2
          go_ret
          rw [E.out, E2.out]
          exact ⟨rfl, rfl⟩
        · by_cases hc2 : 57 < c
          · have E2 : Hid (allDig s.data.toList = false) := allDig_not hi hc (.inr hc2)
            go_wp2
            go_ret
            rw [E.out, E2.out]
            exact ⟨rfl, rfl⟩
          · have HS := Lib.hid (allDig_step hi hc HA.out (by omega) (by omega))
            go_wp2
            go_roundg (gk - 1)
            case measure => omega
            case rel => exact ⟨i + 1, by omega, by go_num, HS.out, rfl⟩
      · obtain rfl : gk = 0 := by omega
        have E2 : Hid (allDig s.data.toList = true) := by
          have h := HA.out
          rw [List.take_of_length_le (by have := Lib.size_eq s; omega)] at h
          exact h
        go_wp2
        go_ret
        rw [E.out, E2.out]
        exact ⟨rfl, rfl⟩

theorem digs16_dec {x n : Nat} (h : x < 10 ^ n) : (digs W16 x).length ≤ n := digs_len_le W16_gt (Nat.lt_of_lt_of_le h (Nat.pow_le_pow_left (by decide) n))
theorem ten16 (w : World) (g : Nat) (hg : w.heap.size = g) : Nat16 (w.alloc (.cells #[.int .i64 10] 3)) (.slice (some ⟨g, 0, none⟩) 1 1) 10 := by
  subst hg
  have e : digs W16 10 = [10] := by decide +kernel
  unfold Nat16
  rw [e]
  refine ⟨some ⟨w.heap.size, 0, none⟩, 1, rfl, by decide, by decide, rfl, fun _ => ⟨w.heap.size, 0, rfl, by simp, fun i hi => ?_⟩⟩
  obtain rfl : i = 0 := by simpa using hi
  exact (Blk.new w 3 #[.int .i64 10]).cell 0

set_option maxRecDepth 100000 in
set_option maxHeartbeats 6400000 in
theorem rofDec_any (s : ByteArray) (w : World) (hs : s.size ≤ 10000) (hd : allDig s.data.toList = true) :
    Calls Tryd.prog 36 #[.string s] w (RPost w (dval s.data.toList)) := by
  have HDL : Hid (∀ i, (digs W16 (dval (s.data.toList.take i))).length ≤ 10000) := fun i => Nat.le_trans (digs16_dec (dval_lt (allDig_take hd i))) (Nat.le_trans (List.length_take_le' _ _) (by have := Lib.size_eq s; omega))
  have H0 := Lib.hid hd
  clear hd
  go_enter Tryd.func36, Tryd.ntmps36
  go_wp2
  go_loopg [3, 4] s.size (fun gk s3 s4 wr => ∃ i : Nat, gk + i = s.size ∧ s4 = .int .i64 (i : Int) ∧ Hid (Nat16 wr s3 (dval (s.data.toList.take i))) ∧ Hid (Below w.heap.size w wr))
  case atStart => exact ⟨0, by omega, rfl, nat16_zero _, Below.refl _ _⟩
  case round =>
    obtain ⟨i, hgj, rfl, HN, HB⟩ := hrel
    by_cases hi : i < s.size
    · obtain ⟨c, hc⟩ : ∃ c : Nat, s[i].toNat = c := ⟨_, rfl⟩
      have hdig : 48 ≤ c ∧ c ≤ 57 := by rw [← hc]; exact dig_at H0.out hi
      have HE := Lib.hid (dval_at hi hc)
      have HX := Lib.hid (HDL.out i)
      have HC := Lib.hid hc
      have HIO : Hid (∀ W : World, Calls Tryd.prog 51 #[.int .u64 (IntKind.u64.wrap (IntKind.u8.wrap ((c : Int) - 48)))] W (RPost W (c - 48))) := fun W => by
        have := rofInt_any (c - 48) W (by omega)
        rw [show ((c - 48 : Nat) : Int) = IntKind.u64.wrap (IntKind.u8.wrap ((c : Int) - 48)) by rw [IntKind.wrap_u8, IntKind.wrap_u64]; omega] at this
        exact this
      have HDC : Hid ((digs W16 (c - 48)).length ≤ 100) := Nat.le_trans (digs_len_le (k := 1) W16_gt (by unfold W16; omega)) (by omega)
      obtain ⟨A3, n3, c3, hu3, hn3⟩ := HN.out.form
      subst hu3
      clear hn3
      generalize dval (s.data.toList.take i) = x at *
      have HMU : Hid (∀ (W : World) (u v : Value), Nat16 W u x → Nat16 W v 10 → Calls Tryd.prog 50 #[u, v] W (RPost W (x * 10))) := fun W u v h1 h2 => rmul_any x 10 u v W h1 h2 (by have := HX.out; omega) (by rw [show digs W16 10 = [10] from by decide +kernel]; decide)
      have HXL : Hid ((digs W16 (x * 10)).length ≤ 20000) := Nat.le_trans (digs16_len_mul _ _) (by rw [show digs W16 10 = [10] from by decide +kernel]; have := HX.out; simp; omega)
      have HAD : Hid (∀ (W : World) (u v : Value), Nat16 W u (x * 10) → Nat16 W v (c - 48) → Calls Tryd.prog 67 #[u, v] W (RPost W (x * 10 + (c - 48)))) := fun W u v h1 h2 => radd_any _ _ u v W h1 h2 (by have := HXL.out; omega) (by have := HDC.out; omega)
      have HND := Lib.hid (HN.out.to (w' := wr.drew) (Below.refl _ _).drew)
      have HBD : Hid (Below w.heap.size w wr.drew) := HB.out.drew
      go_wp2_with fail
      go_region_held3 (fun w' => True)
        (first | trivial | go_keep)
        (first
          | (go_at_call 50; ((with_reducible refine (HMU.out _ _ _ (by first | exact HN.out.to (below_one _ _).drew | exact HND.out.to (below_one _ _) | exact (HN.out.to (below_one _ _).drew).to hbo | exact (HND.out.to hbo).to (below_one _ _)) (by first | exact ten16 _ _ rfl | exact (ten16 _ _ rfl).to (Below.refl _ _).drew | exact ((ten16 _ _ rfl).to (Below.refl _ _).drew).to hbo | exact (ten16 _ _ rfl).to hbo)).mono ?_)); rintro e y1 ⟨v1, rfl, hm, hbm⟩)
          | (go_at_call 51; ((with_reducible refine (HIO.out _).mono ?_)); rintro e y2 ⟨v2, rfl, ho, hbo⟩)
          | (go_at_call 67; ((with_reducible refine (HAD.out _ _ _ (by first | exact hm | exact hm.to hbo) (by first | exact ho | exact ho.to hbm)).mono ?_)); rintro e y3 ⟨v3, rfl, ha, hba⟩))
      all_goals
        go_wp2_with fail
        go_roundg (gk - 1)
        case measure => omega
        case rel =>
          refine ⟨i + 1, by omega, by go_num, by unfold Hid; rw [HE.out]; exact ha, ?_⟩
          first
            | exact (((HBD.out.trans ((below_one _ _).mono HBD.out.size)).trans (hbm.mono (Nat.le_trans HBD.out.size (below_one _ _).size))).trans (hbo.mono (Nat.le_trans (Nat.le_trans HBD.out.size (below_one _ _).size) hbm.size))).trans (hba.mono (Nat.le_trans (Nat.le_trans (Nat.le_trans HBD.out.size (below_one _ _).size) hbm.size) hbo.size))
            | exact (((HBD.out.trans ((below_one _ _).mono HBD.out.size)).trans (hbo.mono (Nat.le_trans HBD.out.size (below_one _ _).size))).trans (hbm.mono (Nat.le_trans (Nat.le_trans HBD.out.size (below_one _ _).size) hbo.size))).trans (hba.mono (Nat.le_trans (Nat.le_trans (Nat.le_trans HBD.out.size (below_one _ _).size) hbo.size) hbm.size))
            | exact (((HBD.out.trans (hbo.mono HBD.out.size)).trans ((below_one _ _).mono (Nat.le_trans HBD.out.size hbo.size))).trans (hbm.mono (Nat.le_trans (Nat.le_trans HBD.out.size hbo.size) (below_one _ _).size))).trans (hba.mono (Nat.le_trans (Nat.le_trans (Nat.le_trans HBD.out.size hbo.size) (below_one _ _).size) hbm.size))
    · obtain rfl : gk = 0 := by omega
      have E2 : Hid (s.data.toList.take i = s.data.toList) := List.take_of_length_le (by have := Lib.size_eq s; omega)
      go_wp2
      go_ret
      rw [E2.out] at HN
      exact ⟨_, rfl, HN.out, HB.out⟩
end Go.Proofs.YtdhgbnnopekfjaaDoor
namespace Go.Proofs.YtdhgbnnopekfjaaDoor
open Go.RowKit NumB
set_option linter.unusedVariables false
set_option linter.unusedSimpArgs false

theorem nilRat (w : World) : Blk (w.alloc (.cells #[.bool false, .slice none 0 0, .slice none 0 0] 38)) w.heap.size 38 #[.bool false, .slice none 0 0, .slice none 0 0] := Blk.new _ _ _
theorem div_gcd_pos {x g : Nat} (h : g ∣ x) (hg : 0 < g) : 0 < x / g ↔ 0 < x := by
  constructor
  · intro h1
    rcases Nat.eq_zero_or_pos x with h0 | h0
    · subst h0; rw [Nat.zero_div] at h1; exact absurd h1 (by omega)
    · exact h0
  · intro h1; exact Nat.div_pos (Nat.le_of_dvd h1 h) hg

set_option maxRecDepth 100000 in
set_option maxHeartbeats 3200000 in
theorem rreduce_any (neg : Bool) (x y : Nat) (va vb : Value) (w : World) (ha : Nat16 w va x) (hb : Nat16 w vb y) (hy0 : 0 < y) (hx : (digs W16 x).length ≤ 50000) (hy : (digs W16 y).length ≤ 50000) :
    Calls Tryd.prog 38 #[.bool neg, va, vb] w (RVPost w (neg && decide (0 < x)) (x / Nat.gcd x y) (y / Nat.gcd x y)) := by
  have HA := Lib.hid ha
  have HB := Lib.hid hb
  have HL := Lib.hid (And.intro hy0 (And.intro hx hy))
  have HBK := Lib.hid (nilRat w)
  have hgp : 0 < Nat.gcd x y := Nat.gcd_pos_of_pos_right _ hy0
  have HGP := Lib.hid hgp
  have HGL : Hid ((digs W16 (Nat.gcd x y)).length ≤ 50000) := Nat.le_trans (digs_len_mono W16_gt (Nat.gcd_le_right x hy0)) hy
  have HXX0 := Lib.hid (div_gcd_pos (Nat.gcd_dvd_left x y) hgp)
  have HG0 := Lib.hid (fun W h1 h2 => rgcd_any x y va vb W h1 h2 hx hy)
  have HG1 : Hid (Nat.gcd x y = 1 → x / Nat.gcd x y = x ∧ y / Nat.gcd x y = y) := fun h => by rw [h, Nat.div_one, Nat.div_one]; exact ⟨rfl, rfl⟩
  generalize Nat.gcd x y = g at *
  clear ha hb hy0 hx hy hgp
  go_enter Tryd.func38, Tryd.ntmps38
  go_wp2_with fail
  refine (HG0.out _ (by exact HA.out.to (below_one w _)) (by exact HB.out.to (below_one w _))).mono ?_
  rintro e w1 ⟨v1, rfl, hn1, hb1⟩
  have HN1 := Lib.hid hn1
  have HB1 := Lib.hid hb1
  have HBE1 : Hid (Below w.heap.size w w1) := (below_one w _).trans (hb1.mono (below_one w _).size)
  clear hn1 hb1 HG0
  go_wp2_with fail
  refine (rcmp_any g 1 _ _ _ (by exact HN1.out.to (below_one w1 _)) (by exact one16 w1) (by have := HGL.out; omega) (by rw [digs_one16]; decide)).mono ?_
  rintro e w2 ⟨rfl, rfl⟩
  have HBE2 : Hid (Below w.heap.size w (w1.alloc (.cells #[.int .i64 1] 3))) := HBE1.out.trans ((below_one w1 _).mono HBE1.out.size)
  have HBL2 := Lib.hid ((HBK.out.to HB1.out).to (below_one w1 (.cells #[.int .i64 1] 3)))
  have HN2 := Lib.hid (HN1.out.to (below_one w1 (.cells #[.int .i64 1] 3)))
  clear HB1 HBK HN1
  generalize w1.alloc (.cells #[.int .i64 1] 3) = w2 at *
  by_cases hg : g = 1
  · rw [cmpI_eq hg]
    obtain ⟨e1, e2⟩ := HG1.out hg
    have HX1 : Hid (Nat16 w2 va (x / g)) := by rw [e1]; exact HA.out.to HBE2.out
    have HY1 : Hid (Nat16 w2 vb (y / g)) := by rw [e2]; exact HB.out.to HBE2.out
    have HXX := HXX0
    have HBL := HBL2
    have HBE := HBE2
    clear hg e1 e2 HBL2 HBE2 HA HB HN2 HG1
    obtain ⟨C1, n1, d1, rfl, hq1⟩ := HX1.out.form
    obtain ⟨C2, n2, d2, rfl, hq2⟩ := HY1.out.form
    have HGT : Hid (decide (0 < n1) = decide (0 < x)) := by
      have hpos := len_pos16 hq1
      have hxx := HXX.out
      unfold Hid
      by_cases h : 0 < n1
      · rw [decide_eq_true (hxx.1 (hpos.1 h)), decide_eq_true h]
      · rw [decide_eq_false (fun hh => h (hpos.2 (hxx.2 hh))), decide_eq_false h]
    have hc0 := HBL.out.cell 0
    have hc1 := HBL.out.cell 1
    have hc2 := HBL.out.cell 2
    have hf0 := HBL.out.frozen 0
    have hf1 := HBL.out.frozen 1
    have hf2 := HBL.out.frozen 2
    simp only [List.getElem?_toArray, List.getElem?_cons_zero, List.getElem?_cons_succ] at hc0 hc1 hc2
    clear hq1 hq2
    cases neg with
    | false =>
      go_wp2_with fail
      refine bodyPost_ret (v := .agg #[.bool false, .slice C1 n1 d1, .slice C2 n2 d2]) (by simp [results, Tryd.results38, go_sem, hc0, hc1, hc2]) rfl ⟨_, rfl, ?_, ?_⟩
      · exact RV.put3 (w := w2) ⟨_, _, rfl, HX1.out, HY1.out⟩ HBL.out _ _ _
      · exact put3_below HBE.out (Nat.le_refl _) _ _ _
    | true =>
      go_wp2_with fail
      refine bodyPost_ret (v := .agg #[.bool (decide (0 < n1)), .slice C1 n1 d1, .slice C2 n2 d2]) (by simp [results, Tryd.results38, go_sem, hc0, hc1, hc2]) rfl ⟨_, rfl, ?_, ?_⟩
      · rw [HGT.out]
        exact RV.put3 (w := w2) ⟨_, _, rfl, HX1.out, HY1.out⟩ HBL.out _ _ _
      · exact put3_below HBE.out (Nat.le_refl _) _ _ _
  · obtain ⟨z, hz, hz0⟩ : ∃ z, cmpI g 1 = z ∧ (z == 0) = false := ⟨_, rfl, by rw [beq_eq_false_iff_ne]; exact fun h => hg (cmpI_zero.1 h)⟩
    rw [hz]
    have hz1 : (z != 0) = true := by simp [bne, hz0]
    clear hz hg HG1
    go_wp2_with fail
    refine (rdiv_any x g _ _ _ (by exact HA.out.to HBE2.out) (by exact HN2.out) HGP.out HL.out.2.1 HGL.out).mono ?_
    rintro e w3 ⟨v3, u3, rfl, hn3, -, hb3⟩
    have HX3 := Lib.hid hn3
    have HN3 := Lib.hid (HN2.out.to hb3)
    have HBL3 := Lib.hid (HBL2.out.to hb3)
    have HBE3 : Hid (Below w.heap.size w w3) := HBE2.out.trans (hb3.mono HBE2.out.size)
    clear hn3 hb3 HBL2 HBE2 HN2
    go_wp2_with fail
    refine (rdiv_any y g _ _ _ (by exact HB.out.to HBE3.out) (by exact HN3.out) HGP.out HL.out.2.2 HGL.out).mono ?_
    rintro e w4 ⟨v4, u4, rfl, hn4, -, hb4⟩
    have HX1 := Lib.hid (HX3.out.to hb4)
    have HY1 := Lib.hid hn4
    have HXX := HXX0
    have HBL := Lib.hid (HBL3.out.to hb4)
    have HBE : Hid (Below w.heap.size w w4) := HBE3.out.trans (hb4.mono HBE3.out.size)
    clear hn4 hb4 HBL3 HBE3 HN3 HX3 HA HB
    obtain ⟨C1, n1, d1, rfl, hq1⟩ := HX1.out.form
    obtain ⟨C2, n2, d2, rfl, hq2⟩ := HY1.out.form
    have HGT : Hid (decide (0 < n1) = decide (0 < x)) := by
      have hpos := len_pos16 hq1
      have hxx := HXX.out
      unfold Hid
      by_cases h : 0 < n1
      · rw [decide_eq_true (hxx.1 (hpos.1 h)), decide_eq_true h]
      · rw [decide_eq_false (fun hh => h (hpos.2 (hxx.2 hh))), decide_eq_false h]
    have hc0 := HBL.out.cell 0
    have hc1 := HBL.out.cell 1
    have hc2 := HBL.out.cell 2
    have hf0 := HBL.out.frozen 0
    have hf1 := HBL.out.frozen 1
    have hf2 := HBL.out.frozen 2
    simp only [List.getElem?_toArray, List.getElem?_cons_zero, List.getElem?_cons_succ] at hc0 hc1 hc2
    clear hq1 hq2
    cases neg with
    | false =>
      go_wp2_with fail
      refine bodyPost_ret (v := .agg #[.bool false, .slice C1 n1 d1, .slice C2 n2 d2]) (by simp [results, Tryd.results38, go_sem, hc0, hc1, hc2]) rfl ⟨_, rfl, ?_, ?_⟩
      · exact RV.put3 (w := w4) ⟨_, _, rfl, HX1.out, HY1.out⟩ HBL.out _ _ _
      · exact put3_below HBE.out (Nat.le_refl _) _ _ _
    | true =>
      go_wp2_with fail
      refine bodyPost_ret (v := .agg #[.bool (decide (0 < n1)), .slice C1 n1 d1, .slice C2 n2 d2]) (by simp [results, Tryd.results38, go_sem, hc0, hc1, hc2]) rfl ⟨_, rfl, ?_, ?_⟩
      · rw [HGT.out]
        exact RV.put3 (w := w4) ⟨_, _, rfl, HX1.out, HY1.out⟩ HBL.out _ _ _
      · exact put3_below HBE.out (Nat.le_refl _) _ _ _
end Go.Proofs.YtdhgbnnopekfjaaDoor
namespace Go.Proofs.YtdhgbnnopekfjaaDoor
open Go.RowKit NumB
set_option linter.unusedVariables false
set_option linter.unusedSimpArgs false

theorem GV.putM {w : World} {v : Value} {a : LN} {g : Nat} {t : TypeId} {s : Bool} {A A' : Option Addr} {n m ca cb : Nat} (h : GV w v a) (hg : Blk w g t #[.bool s, .slice A n ca, .slice A' m cb]) (x y z : Value) : GV (Go.Proofs.YtdhgbnnopekfjaaDoor.put3 w g x y z) v a := by
  obtain ⟨p, q, e, h1, h2, h3⟩ := h
  exact ⟨p, q, e, Sl.boxed h1 hg noInts_num (Nat.le_of_eq (put3_size w g x y z).symm) (put3_far w g x y z), Sl.boxed h2 hg noInts_num (Nat.le_of_eq (put3_size w g x y z).symm) (put3_far w g x y z), h3⟩
theorem rmade_S2 (s : Bool) (x y : Nat) (v : Value) (w : World) (h : RV w v s x y) (hl1 : (digs W16 x).length ≤ 100000) (hl2 : (digs W16 y).length ≤ 100000) : Calls Tryd.prog 37 #[v] w (SPost w (opS 0 s x y)) := (rmade_any s x y v w h hl1 hl2).mono fun _ _ h => FitPost.toS h
end Go.Proofs.YtdhgbnnopekfjaaDoor

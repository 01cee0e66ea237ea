/-  -/
import Derived.Test.YtdmhkhnnomdkcaaGreatDoorJo13
import Derived.Test.YtdmhkhnnomdkcaaGreatDoorJo14
import Derived.Test.YtdmhkhnnomdkcaaGreatDoorJo15
import Derived.Test.YtdmhkhnnomdkcaaGreatDoorJo25
set_option linter.unusedVariables false
set_option linter.unusedSimpArgs false
/- fetterlockref1.DivNat. Conditions: at most 50000 digits; the divisor is not 0. -/
namespace Go.Proofs.YtdmhkhnnomdkcaaGreatDoor
open Go.RowKit NumB
set_option linter.unusedVariables false
set_option linter.unusedSimpArgs false

/-- Two naturals. -/
def RPost2 (w : World) (x y : Nat) (e : Ending) (w' : World) : Prop := ∃ v u, e = .returned (.tuple #[v, u]) ∧ Nat16 w' v x ∧ Nat16 w' u y ∧ Below w.heap.size w w'
theorem nil16 (w : World) : Nat16 w (.slice none 0 0) 0 := by
  unfold Nat16
  rw [digs_zero]
  exact (OwnV.nil_ (B := 0) (T := 0) w).sl
theorem len_small16 {a b n : Nat} (h : a < b) (hb : (digs W16 b).length ≤ n) : (digs W16 a).length ≤ n := Nat.le_trans (digs_len_mono W16_gt (Nat.le_of_lt h)) hb
theorem len_two16 {a b n : Nat} (h : a < 2 * b) (hb : (digs W16 b).length ≤ n) : (digs W16 a).length ≤ n + 1 := by
  refine digs_len_le W16_gt (Nat.lt_of_lt_of_le h ?_)
  rw [Nat.pow_succ]
  have h1 := digs_lt W16_gt (n := b)
  have h2 : W16 ^ (digs W16 b).length ≤ W16 ^ n := Nat.pow_le_pow_right (by decide) hb
  have h3 : W16 = 65536 := rfl
  generalize W16 ^ n = P at *
  rw [h3]; omega

set_option maxRecDepth 100000 in
set_option maxHeartbeats 3200000 in
theorem rdiv_any (x y : Nat) (va vb : Value) (w : World) (ha : Nat16 w va x) (hb : Nat16 w vb y) (hy0 : 0 < y) (hx : (digs W16 x).length ≤ 50000) (hy : (digs W16 y).length ≤ 50000) :
    Calls Tryz.prog 29 #[va, vb] w (RPost2 w (x / y) (x % y)) := by
  have HA := Lib.hid ha
  have HB := Lib.hid hb
  have HY0 := Lib.hid (And.intro hy0 (And.intro hx hy))
  have HLB := Lib.hid (blen_digs hx)
  obtain ⟨A, n, ca, rfl, hn⟩ := ha.form
  obtain ⟨A', m, cb, rfl, hm⟩ := hb.form
  have HBN : Hid (blen x ≤ 16 * n) := by unfold Hid; rw [hn]; exact blen_digs (Nat.le_refl _)
  have hnb : n ≤ 50000 := by rw [hn]; exact hx
  clear ha hb hn hm hy0 hx hy
  have hblb : blen x ≤ 800000 := by have := HLB.out; omega
  obtain ⟨bl, HBL, hblb2⟩ : ∃ bl, Hid (bl = blen x) ∧ bl ≤ 800000 := ⟨_, rfl, hblb⟩
  have HLEN : Hid (∀ W : World, Nat16 W (.slice A n ca) x → Calls Tryz.prog 49 #[.slice A n ca] W fun e w' => e = .returned (.int .i64 (bl : Int)) ∧ W = w') := fun W h => by rw [HBL.out]; exact rlen_any x _ W h (by have := HY0.out.2.1; omega)
  clear hblb
  obtain ⟨i0, hi0, hz0, hz1, hz2⟩ := info_parts info_i64
  have HI := Lib.hid hi0
  have HZ0 := Lib.hid hz0
  have HZ1 := Lib.hid hz1
  have HZ2 := Lib.hid hz2
  clear hi0 hz0 hz1 hz2
  go_enter Tryz.func29, Tryz.ntmps29
  go_wp2_with (at_make; refine wpList_make_full _ rfl _ _ 41 rfl w.heap.size 3 i0 (.int .i64 0) 1 Tryz.underlying41 HI.out HZ0.out HZ1.out .i64 .i64 _ _ n rfl rfl rfl rfl (by rw [HZ2.out]; omega) (by unfold maxLen; omega) (Nat.le_refl _) ?_; intro w1 hown1 hg1)
  have HOW := Lib.hid (Own.made hown1)
  have HB1 := Lib.hid ((Below.refl w.heap.size w).grown hg1 (Nat.le_refl _) (by simp))
  clear hown1 hg1
  refine (HLEN.out _ (HA.out.to HB1.out)).mono ?_
  rintro e w1' ⟨rfl, rfl⟩
  go_wp2
  go_loopg [7, 8] bl (fun gk s7 s8 wr => s8 = .int .i64 ((gk : Int) - 1) ∧ gk ≤ bl ∧ Hid (Nat16 wr s7 (x / 2 ^ gk % y)) ∧ Hid (∃ out, Own .i64 3 wr w.heap.size w.heap.size n n out ∧ val W16 out = 2 ^ gk * (x / 2 ^ gk / y) ∧ Ok W16 out) ∧ Hid (Below w.heap.size w wr))
  case atStart =>
    have e : x / 2 ^ bl = 0 := Nat.div_eq_of_lt (by rw [HBL.out]; exact blen_lt x)
    refine ⟨rfl, Nat.le_refl _, ?_, ⟨_, HOW.out, ?_, ok_replicate (by decide)⟩, HB1.out⟩
    · unfold Hid; rw [e, Nat.zero_mod]; exact nil16 _
    · rw [e, Nat.zero_div, Nat.mul_zero, val_replicate]
  case round =>
    obtain ⟨rfl, hgk, HN7, HQ, HBW⟩ := hrel
    rcases gk with _ | j
    · obtain ⟨out, HO, HV, HOK⟩ : ∃ out, Hid (Own .i64 3 wr w.heap.size w.heap.size n n out) ∧ Hid (val W16 out = x / y) ∧ Hid (Ok W16 out) := by
        obtain ⟨out, h1, h2, h3⟩ := HQ.out
        rw [Nat.pow_zero, Nat.one_mul, Nat.div_one] at h2
        exact ⟨out, h1, h2, h3⟩
      go_wp2_with fail
      refine (rtrim_any out _ _ HO.out.sl HOK.out).mono ?_
      rintro e w2 ⟨v2, rfl, hn2, rfl⟩
      rw [HV.out] at hn2
      have HN2 := Lib.hid hn2
      clear hn2
      go_wp2
      go_ret2
      refine ⟨_, _, rfl, HN2.out, ?_, HBW.out⟩
      have := HN7.out
      rw [Nat.pow_zero, Nat.div_one] at this
      exact this
    · have hj : ((j + 1 : Nat) : Int) - 1 = (j : Int) := by omega
      rw [hj]
      obtain ⟨out, d, HO, HV, HOK, HDE, hdb⟩ : ∃ out d, Hid (Own .i64 3 wr w.heap.size w.heap.size n n out) ∧ Hid (val W16 out = 2 ^ (j + 1) * (x / 2 ^ (j + 1) / y)) ∧ Hid (Ok W16 out) ∧ Hid (out.getD (j / 16) 0 = d) ∧ d < 65536 := by
        obtain ⟨out, h1, h2, h3⟩ := HQ.out
        exact ⟨out, _, h1, h2, h3, rfl, h3.getD (by decide) _⟩
      obtain ⟨ex, HEX⟩ : ∃ ex, Hid (d = ex * 2 ^ (j % 16 + 1)) := low_zero HOK.out HV.out HDE.out
      obtain ⟨k, s, hk, hs, hs16, HKS⟩ : ∃ k s : Nat, (j : Int) / 16 = (k : Int) ∧ (j : Int) % 16 = (s : Int) ∧ s < 16 ∧ Hid (j / 16 = k ∧ j % 16 = s) := ⟨j / 16, j % 16, by omega, by omega, by omega, rfl, rfl⟩
      have hkn : k < n := by have := HKS.out.1; have := HBN.out; have := HBL.out; omega
      obtain ⟨pw, dp, hpw, hpw2, hpwb, HPW⟩ : ∃ pw dp : Nat, IntKind.i64.wrap ((2 : Int) ^ s) = (pw : Int) ∧ bits .or .i64 (d : Int) (pw : Int) = (dp : Int) ∧ dp < 65536 ∧ Hid (dp = d + 2 ^ s) := by
        have h1 := HEX.out
        rw [HKS.out.2] at h1
        have h2 := bit_lt16 hs16 hdb h1
        have h3 : (2 : Nat) ^ s ≤ 2 ^ 15 := Nat.pow_le_pow_right (by omega) (by omega)
        refine ⟨2 ^ s, d + 2 ^ s, ?_, ?_, h2, rfl⟩
        · rw [← pow32]
          generalize (2 : Nat) ^ s = gg at *
          rw [IntKind.wrap_i64]; omega
        · rw [or_i64 _ _ (by omega) (by omega), or_bit h1]
      have hwj : IntKind.i64.wrap (j : Int) = (j : Int) := by rw [IntKind.wrap_i64]; omega
      obtain ⟨r, HRE⟩ : ∃ r, Hid (r = x / 2 ^ (j + 1) % y) := ⟨_, rfl⟩
      have hrl : r < y := by rw [HRE.out]; exact Nat.mod_lt _ HY0.out.1
      have HRL := Lib.hid hrl
      clear hrl
      have HNR : Hid (Nat16 wr u7 r) := by unfold Hid; rw [HRE.out]; exact HN7.out
      have HLR : Hid ((digs W16 r).length ≤ 50000) := len_small16 HRL.out HY0.out.2.2
      have hjb : j < 1000000 := by omega
      have hb2 : x / 2 ^ j % 2 = 0 ∨ x / 2 ^ j % 2 = 1 := by omega
      have HC : Hid (∀ (W W2 : World) (hW : Below w.heap.size w W2) (v2 : Value) (r1 : Nat), Nat16 W2 v2 r1 → r1 < 2 * y → Calls Tryz.prog 38 #[v2, .slice A' m cb] W2 fun e w' => e = .returned (.int .i64 (cmpI r1 y)) ∧ W2 = w') := fun W W2 hW v2 r1 h1 h2 => rcmp_any r1 y v2 _ W2 h1 (HB.out.to hW) (by have := len_two16 h2 HY0.out.2.2; omega) (by have := HY0.out.2.2; omega)
      have HSH : Hid (Calls Tryz.prog 47 #[u7, .int .i64 1] wr (RPost wr (r * 2 ^ 1))) := rshl_any r 1 u7 wr HNR.out (by have := HLR.out; omega) (by omega)
      rcases hb2 with hb2 | hb2
      · have HBIT : Hid (∀ W : World, Below w.heap.size w W → Calls Tryz.prog 45 #[.slice A n ca, .int .i64 (j : Int)] W fun e w' => e = .returned (.int .i64 0) ∧ W = w') := fun W hW => by
          have := rbit_any x j _ W (HA.out.to hW) (by omega)
          rw [hb2] at this
          exact this
        have HXS := Lib.hid (div_bit HY0.out.1 hb2)
        clear hb2
        go_wp2_with fail
        refine HSH.out.mono ?_
        rintro e w2 ⟨v2, rfl, hn2, hb2⟩
        have HN2 := Lib.hid hn2
        have HB2 := Lib.hid (HBW.out.trans (hb2.mono HBW.out.size))
        have HO2 := Lib.hid (HO.out.to hb2)
        clear hn2 hb2
        go_wp2_with fail
        refine (HBIT.out _ HB2.out).mono ?_
        rintro e w2' ⟨rfl, rfl⟩

        go_wp2_with fail
        refine (HC.out wr _ HB2.out _ (r * 2 ^ 1) HN2.out (by have := HRL.out; omega)).mono ?_
        rintro e w2' ⟨rfl, rfl⟩
        by_cases hge : y ≤ r * 2 ^ 1
        · obtain ⟨z, hz, hz0⟩ : ∃ z, cmpI (r * 2 ^ 1) y = z ∧ 0 ≤ z := ⟨_, rfl, cmpI_nonneg.2 hge⟩
          rw [hz]
          have HGE := Lib.hid hge
          clear hz hge
          go_wp2_with fail
          refine (rsub_fresh (r * 2 ^ 1) y _ _ _ HN2.out (HB.out.to HB2.out) (by have := len_two16 (a := r * 2 ^ 1) (b := y) (by have := HRL.out; omega) HY0.out.2.2; omega) HGE.out).mono ?_
          rintro e w3 ⟨v3, rfl, hn3, hf3, hb3⟩
          have HF3 := Lib.hid hf3
          have HLT := Lib.hid (HO2.out.lt.2)
          have HN3 := Lib.hid hn3
          have HB3 := Lib.hid (HB2.out.trans (hb3.mono HB2.out.size))
          have HO3 := Lib.hid (HO2.out.to hb3)
          have hcell : w3.cell? ⟨w.heap.size, k, none⟩ = some (.int .i64 (d : Int)) := by rw [← HKS.out.1, ← HDE.out]; exact HO3.out.cell (by rw [HKS.out.1]; exact hkn)
          have hfr := HO3.out.frozen k
          clear hn3 hb3 hf3
          go_wp2_with fail
          go_region
          all_goals go_wp2
          all_goals go_roundg j
          all_goals (first | exact Nat.lt_succ_self _ | skip)
          all_goals
            obtain ⟨d1, d2⟩ := div_yes (X := x / 2 ^ (j + 1)) (X' := x / 2 ^ j) (r := r) (b := 0) HY0.out.1 HXS.out (by omega) HRE.out (by have := HGE.out; omega)
            refine ⟨rfl, by omega, ?_, ⟨_, (HO3.out.stored k dp).drew, ?_, HOK.out.set hpwb⟩, (HB3.out.setCell (p := ⟨w.heap.size, k, none⟩) (Nat.le_refl _) _).drew⟩
            · unfold Hid
              rw [d1]
              have := HN3.out.far (i := k) (u := .int .i64 (dp : Int)) HF3.out HLT.out
              rw [show 2 * r + 0 - y = r * 2 ^ 1 - y from by omega]
              exact this
            · rw [d2, ← HKS.out.1, HPW.out, ← HKS.out.2]
              exact set_bit (by rw [HKS.out.1, HO.out.1]; exact hkn) HV.out HDE.out
        · obtain ⟨z, hz, hz0⟩ : ∃ z, cmpI (r * 2 ^ 1) y = z ∧ z < 0 := ⟨_, rfl, cmpI_neg.2 (by omega)⟩
          rw [hz]
          have HGE := Lib.hid hge
          clear hz hge
          go_wp2
          go_roundg j
          case measure => exact Nat.lt_succ_self _
          case rel =>
            obtain ⟨d1, d2⟩ := div_no (X := x / 2 ^ (j + 1)) (X' := x / 2 ^ j) (r := r) (b := 0) HY0.out.1 HXS.out (by omega) HRE.out (by have := HGE.out; omega)
            refine ⟨rfl, by omega, ?_, ⟨_, HO2.out, ?_, HOK.out⟩, HB2.out⟩
            · unfold Hid
              rw [d1, show 2 * r + 0 = r * 2 ^ 1 from by omega]
              exact HN2.out
            · rw [d2, HV.out, Nat.pow_succ, Nat.mul_assoc]
      · have HBIT : Hid (∀ W : World, Below w.heap.size w W → Calls Tryz.prog 45 #[.slice A n ca, .int .i64 (j : Int)] W fun e w' => e = .returned (.int .i64 1) ∧ W = w') := fun W hW => by
          have := rbit_any x j _ W (HA.out.to hW) (by omega)
          rw [hb2] at this
          exact this
        have HXS := Lib.hid (div_bit HY0.out.1 hb2)
        clear hb2
        go_wp2_with fail
        refine HSH.out.mono ?_
        rintro e w2 ⟨v2, rfl, hn2, hb2⟩
        have HN2 := Lib.hid hn2
        have HB2 := Lib.hid (HBW.out.trans (hb2.mono HBW.out.size))
        have HO2 := Lib.hid (HO.out.to hb2)
        clear hn2 hb2
        go_wp2_with fail
        refine (HBIT.out _ HB2.out).mono ?_
        rintro e w2' ⟨rfl, rfl⟩
        go_wp2_with fail
        refine (radd_any (r * 2 ^ 1) 1 _ _ _ (by exact HN2.out.to (below_one _ _)) (by exact one16 _) (by have := len_two16 (a := r * 2 ^ 1) (b := y) (by have := HRL.out; omega) HY0.out.2.2; omega) (by rw [digs_one16]; decide)).mono ?_
        rintro e w4 ⟨v4, rfl, hn4, hb4⟩
        have HN2 := Lib.hid hn4
        have HO2 := Lib.hid ((HO2.out.to (below_one _ _)).to hb4)
        have HB2 := Lib.hid ((HB2.out.trans ((below_one _ _).mono HB2.out.size)).trans (hb4.mono (Nat.le_trans HB2.out.size (below_one _ _).size)))
        clear hn4 hb4

        go_wp2_with fail
        refine (HC.out wr _ HB2.out _ (r * 2 ^ 1 + 1) HN2.out (by have := HRL.out; omega)).mono ?_
        rintro e w2' ⟨rfl, rfl⟩
        by_cases hge : y ≤ r * 2 ^ 1 + 1
        · obtain ⟨z, hz, hz0⟩ : ∃ z, cmpI (r * 2 ^ 1 + 1) y = z ∧ 0 ≤ z := ⟨_, rfl, cmpI_nonneg.2 hge⟩
          rw [hz]
          have HGE := Lib.hid hge
          clear hz hge
          go_wp2_with fail
          refine (rsub_fresh (r * 2 ^ 1 + 1) y _ _ _ HN2.out (HB.out.to HB2.out) (by have := len_two16 (a := r * 2 ^ 1 + 1) (b := y) (by have := HRL.out; omega) HY0.out.2.2; omega) HGE.out).mono ?_
          rintro e w3 ⟨v3, rfl, hn3, hf3, hb3⟩
          have HF3 := Lib.hid hf3
          have HLT := Lib.hid (HO2.out.lt.2)
          have HN3 := Lib.hid hn3
          have HB3 := Lib.hid (HB2.out.trans (hb3.mono HB2.out.size))
          have HO3 := Lib.hid (HO2.out.to hb3)
          have hcell : w3.cell? ⟨w.heap.size, k, none⟩ = some (.int .i64 (d : Int)) := by rw [← HKS.out.1, ← HDE.out]; exact HO3.out.cell (by rw [HKS.out.1]; exact hkn)
          have hfr := HO3.out.frozen k
          clear hn3 hb3 hf3
          go_wp2_with fail
          go_region
          all_goals go_wp2
          all_goals go_roundg j
          all_goals (first | exact Nat.lt_succ_self _ | skip)
          all_goals
            obtain ⟨d1, d2⟩ := div_yes (X := x / 2 ^ (j + 1)) (X' := x / 2 ^ j) (r := r) (b := 1) HY0.out.1 HXS.out (by omega) HRE.out (by have := HGE.out; omega)
            refine ⟨rfl, by omega, ?_, ⟨_, (HO3.out.stored k dp).drew, ?_, HOK.out.set hpwb⟩, (HB3.out.setCell (p := ⟨w.heap.size, k, none⟩) (Nat.le_refl _) _).drew⟩
            · unfold Hid
              rw [d1]
              have := HN3.out.far (i := k) (u := .int .i64 (dp : Int)) HF3.out HLT.out
              rw [show 2 * r + 1 - y = r * 2 ^ 1 + 1 - y from by omega]
              exact this
            · rw [d2, ← HKS.out.1, HPW.out, ← HKS.out.2]
              exact set_bit (by rw [HKS.out.1, HO.out.1]; exact hkn) HV.out HDE.out
        · obtain ⟨z, hz, hz0⟩ : ∃ z, cmpI (r * 2 ^ 1 + 1) y = z ∧ z < 0 := ⟨_, rfl, cmpI_neg.2 (by omega)⟩
          rw [hz]
          have HGE := Lib.hid hge
          clear hz hge
          go_wp2
          go_roundg j
          case measure => exact Nat.lt_succ_self _
          case rel =>
            obtain ⟨d1, d2⟩ := div_no (X := x / 2 ^ (j + 1)) (X' := x / 2 ^ j) (r := r) (b := 1) HY0.out.1 HXS.out (by omega) HRE.out (by have := HGE.out; omega)
            refine ⟨rfl, by omega, ?_, ⟨_, HO2.out, ?_, HOK.out⟩, HB2.out⟩
            · unfold Hid
              rw [d1, show 2 * r + 1 = r * 2 ^ 1 + 1 from by omega]
              exact HN2.out
            · rw [d2, HV.out, Nat.pow_succ, Nat.mul_assoc]
end Go.Proofs.YtdmhkhnnomdkcaaGreatDoor
/- fetterlockref1.Whole. -/
namespace Go.Proofs.YtdmhkhnnomdkcaaGreatDoor
open Go.RowKit NumB
set_option linter.unusedVariables false
set_option linter.unusedSimpArgs false

set_option maxRecDepth 100000 in
set_option maxHeartbeats 1600000 in
theorem rwhole_any (neg : Bool) (x : Nat) (v : Value) (w : World) (h : Nat16 w v x) : Calls Tryz.prog 23 #[.bool neg, v] w (RVPost w (neg && decide (0 < x)) x 1) := by
  have HN := Lib.hid h
  obtain ⟨A, n, c, rfl, hn⟩ := h.form
  have hpos := len_pos16 hn
  have HGT : Hid (decide (0 < n) = decide (0 < x)) := by
    unfold Hid
    by_cases h : 0 < n
    · rw [decide_eq_true (hpos.1 h), decide_eq_true h]
    · rw [decide_eq_false (fun hh => h (hpos.2 hh)), decide_eq_false h]
  have HOne : ∀ o : Obj, Nat16 ((w.alloc o).alloc (.cells #[.int .i64 1] 3)) (.slice (some ⟨w.heap.size + 1, 0, none⟩) 1 1) 1 := fun o => by
    have h := one16 (w.alloc o)
    rw [show (w.alloc o).heap.size = w.heap.size + 1 from by simp] at h
    exact h
  clear h hn hpos
  cases neg with
  | false =>
    go_enter Tryz.func23, Tryz.ntmps23
    go_wp2_with fail
    refine bodyPost_ret (v := .agg #[.bool false, .slice A n c, .slice (some ⟨w.heap.size + 1, 0, none⟩) 1 1]) (by simp [results, Tryz.results23, go_sem]) rfl ⟨_, rfl, ?_, below_two w _ _⟩
    exact ⟨_, _, rfl, HN.out.to (below_two w _ _), HOne _⟩
  | true =>
    go_enter Tryz.func23, Tryz.ntmps23
    go_wp2_with fail
    refine bodyPost_ret (v := .agg #[.bool (decide (0 < n)), .slice A n c, .slice (some ⟨w.heap.size + 1, 0, none⟩) 1 1]) (by simp [results, Tryz.results23, go_sem]) rfl ⟨_, rfl, ?_, below_two w _ _⟩
    rw [HGT.out]
    exact ⟨_, _, rfl, HN.out.to (below_two w _ _), HOne _⟩
end Go.Proofs.YtdmhkhnnomdkcaaGreatDoor

/-  -/
import Derived.Deep.RegionHeld3
import Derived.Test.YtdmhkhnnomdkcaaGreatDoorJo14
import Derived.Test.YtdmhkhnnomdkcaaGreatDoorJo18
import Derived.Test.YtdmhkhnnomdkcaaGreatDoorJo24
import Derived.Test.YtdmhkhnnomdkcaaGreatDoorJo25
import Derived.Test.YtdmhkhnnomdkcaaGreatDoorJo26
set_option linter.unusedVariables false
set_option linter.unusedSimpArgs false
/- fetterlockref1.reduce. Conditions: at most 50000 digits; the denominator is not 0. -/
namespace Go.Proofs.YtdmhkhnnomdkcaaGreatDoor
open Go.RowKit NumB
set_option linter.unusedVariables false
set_option linter.unusedSimpArgs false

theorem nilRat (w : World) : Blk (w.alloc (.cells #[.bool false, .slice none 0 0, .slice none 0 0] 43)) w.heap.size 43 #[.bool false, .slice none 0 0, .slice none 0 0] := Blk.new _ _ _
theorem div_gcd_pos {x g : Nat} (h : g ∣ x) (hg : 0 < g) : 0 < x / g ↔ 0 < x := by
  constructor
  · intro h1
    rcases Nat.eq_zero_or_pos x with h0 | h0
    · subst h0; rw [Nat.zero_div] at h1; exact absurd h1 (by omega)
    · exact h0
  · intro h1; exact Nat.div_pos (Nat.le_of_dvd h1 h) hg

set_option maxRecDepth 100000 in
set_option maxHeartbeats 3200000 in
theorem rreduce_any (neg : Bool) (x y : Nat) (va vb : Value) (w : World) (ha : Nat16 w va x) (hb : Nat16 w vb y) (hy0 : 0 < y) (hx : (digs W16 x).length ≤ 50000) (hy : (digs W16 y).length ≤ 50000) :
    Calls Tryz.prog 42 #[.bool neg, va, vb] w (RVPost w (neg && decide (0 < x)) (x / Nat.gcd x y) (y / Nat.gcd x y)) := by
  have HA := Lib.hid ha
  have HB := Lib.hid hb
  have HL := Lib.hid (And.intro hy0 (And.intro hx hy))
  have HBK := Lib.hid (nilRat w)
  have hgp : 0 < Nat.gcd x y := Nat.gcd_pos_of_pos_right _ hy0
  have HGP := Lib.hid hgp
  have HGL : Hid ((digs W16 (Nat.gcd x y)).length ≤ 50000) := Nat.le_trans (digs_len_mono W16_gt (Nat.gcd_le_right x hy0)) hy
  have HXX0 := Lib.hid (div_gcd_pos (Nat.gcd_dvd_left x y) hgp)
  have HG0 := Lib.hid (fun W h1 h2 => rgcd_any x y va vb W h1 h2 hx hy)
  have HG1 : Hid (Nat.gcd x y = 1 → x / Nat.gcd x y = x ∧ y / Nat.gcd x y = y) := fun h => by rw [h, Nat.div_one, Nat.div_one]; exact ⟨rfl, rfl⟩
  generalize Nat.gcd x y = g at *
  clear ha hb hy0 hx hy hgp
  go_enter Tryz.func42, Tryz.ntmps42
  go_wp2_with fail
  refine (HG0.out _ (by exact HA.out.to (below_one w _)) (by exact HB.out.to (below_one w _))).mono ?_
  rintro e w1 ⟨v1, rfl, hn1, hb1⟩
  have HN1 := Lib.hid hn1
  have HB1 := Lib.hid hb1
  have HBE1 : Hid (Below w.heap.size w w1) := (below_one w _).trans (hb1.mono (below_one w _).size)
  clear hn1 hb1 HG0
  go_wp2_with fail
  refine (rcmp_any g 1 _ _ _ (by exact HN1.out.to (below_one w1 _)) (by exact one16 w1) (by have := HGL.out; omega) (by rw [digs_one16]; decide)).mono ?_
  rintro e w2 ⟨rfl, rfl⟩
  have HBE2 : Hid (Below w.heap.size w (w1.alloc (.cells #[.int .i64 1] 3))) := HBE1.out.trans ((below_one w1 _).mono HBE1.out.size)
  have HBL2 := Lib.hid ((HBK.out.to HB1.out).to (below_one w1 (.cells #[.int .i64 1] 3)))
  have HN2 := Lib.hid (HN1.out.to (below_one w1 (.cells #[.int .i64 1] 3)))
  clear HB1 HBK HN1
  generalize w1.alloc (.cells #[.int .i64 1] 3) = w2 at *
  by_cases hg : g = 1
  · rw [cmpI_eq hg]
    obtain ⟨e1, e2⟩ := HG1.out hg
    have HX1 : Hid (Nat16 w2 va (x / g)) := by rw [e1]; exact HA.out.to HBE2.out
    have HY1 : Hid (Nat16 w2 vb (y / g)) := by rw [e2]; exact HB.out.to HBE2.out
    have HXX := HXX0
    have HBL := HBL2
    have HBE := HBE2
    clear hg e1 e2 HBL2 HBE2 HA HB HN2 HG1
    obtain ⟨C1, n1, d1, rfl, hq1⟩ := HX1.out.form
    obtain ⟨C2, n2, d2, rfl, hq2⟩ := HY1.out.form
    have HGT : Hid (decide (0 < n1) = decide (0 < x)) := by
      have hpos := len_pos16 hq1
      have hxx := HXX.out
      unfold Hid
      by_cases h : 0 < n1
      · rw [decide_eq_true (hxx.1 (hpos.1 h)), decide_eq_true h]
      · rw [decide_eq_false (fun hh => h (hpos.2 (hxx.2 hh))), decide_eq_false h]
    have hc0 := HBL.out.cell 0
    have hc1 := HBL.out.cell 1
    have hc2 := HBL.out.cell 2
    have hf0 := HBL.out.frozen 0
    have hf1 := HBL.out.frozen 1
    have hf2 := HBL.out.frozen 2
    simp only [List.getElem?_toArray, List.getElem?_cons_zero, List.getElem?_cons_succ] at hc0 hc1 hc2
    clear hq1 hq2
    cases neg with
    | false =>
      go_wp2_with fail
      refine bodyPost_ret (v := .agg #[.bool false, .slice C1 n1 d1, .slice C2 n2 d2]) (by simp [results, Tryz.results42, go_sem, hc0, hc1, hc2]) rfl ⟨_, rfl, ?_, ?_⟩
      · exact RV.put3 (w := w2) ⟨_, _, rfl, HX1.out, HY1.out⟩ HBL.out _ _ _
      · exact put3_below HBE.out (Nat.le_refl _) _ _ _
    | true =>
      go_wp2_with fail
      refine bodyPost_ret (v := .agg #[.bool (decide (0 < n1)), .slice C1 n1 d1, .slice C2 n2 d2]) (by simp [results, Tryz.results42, go_sem, hc0, hc1, hc2]) rfl ⟨_, rfl, ?_, ?_⟩
      · rw [HGT.out]
        exact RV.put3 (w := w2) ⟨_, _, rfl, HX1.out, HY1.out⟩ HBL.out _ _ _
      · exact put3_below HBE.out (Nat.le_refl _) _ _ _
  · obtain ⟨z, hz, hz0⟩ : ∃ z, cmpI g 1 = z ∧ (z == 0) = false := ⟨_, rfl, by rw [beq_eq_false_iff_ne]; exact fun h => hg (cmpI_zero.1 h)⟩
    rw [hz]
    have hz1 : (z != 0) = true := by simp [bne, hz0]
    clear hz hg HG1
    go_wp2_with fail
    refine (rdiv_any x g _ _ _ (by exact HA.out.to HBE2.out) (by exact HN2.out) HGP.out HL.out.2.1 HGL.out).mono ?_
    rintro e w3 ⟨v3, u3, rfl, hn3, -, hb3⟩
    have HX3 := Lib.hid hn3
    have HN3 := Lib.hid (HN2.out.to hb3)
    have HBL3 := Lib.hid (HBL2.out.to hb3)
    have HBE3 : Hid (Below w.heap.size w w3) := HBE2.out.trans (hb3.mono HBE2.out.size)
    clear hn3 hb3 HBL2 HBE2 HN2
    go_wp2_with fail
    refine (rdiv_any y g _ _ _ (by exact HB.out.to HBE3.out) (by exact HN3.out) HGP.out HL.out.2.2 HGL.out).mono ?_
    rintro e w4 ⟨v4, u4, rfl, hn4, -, hb4⟩
    have HX1 := Lib.hid (HX3.out.to hb4)
    have HY1 := Lib.hid hn4
    have HXX := HXX0
    have HBL := Lib.hid (HBL3.out.to hb4)
    have HBE : Hid (Below w.heap.size w w4) := HBE3.out.trans (hb4.mono HBE3.out.size)
    clear hn4 hb4 HBL3 HBE3 HN3 HX3 HA HB
    obtain ⟨C1, n1, d1, rfl, hq1⟩ := HX1.out.form
    obtain ⟨C2, n2, d2, rfl, hq2⟩ := HY1.out.form
    have HGT : Hid (decide (0 < n1) = decide (0 < x)) := by
      have hpos := len_pos16 hq1
      have hxx := HXX.out
      unfold Hid
      by_cases h : 0 < n1
      · rw [decide_eq_true (hxx.1 (hpos.1 h)), decide_eq_true h]
      · rw [decide_eq_false (fun hh => h (hpos.2 (hxx.2 hh))), decide_eq_false h]
    have hc0 := HBL.out.cell 0
    have hc1 := HBL.out.cell 1
    have hc2 := HBL.out.cell 2
    have hf0 := HBL.out.frozen 0
    have hf1 := HBL.out.frozen 1
    have hf2 := HBL.out.frozen 2
    simp only [List.getElem?_toArray, List.getElem?_cons_zero, List.getElem?_cons_succ] at hc0 hc1 hc2
    clear hq1 hq2
    cases neg with
    | false =>
      go_wp2_with fail
      refine bodyPost_ret (v := .agg #[.bool false, .slice C1 n1 d1, .slice C2 n2 d2]) (by simp [results, Tryz.results42, go_sem, hc0, hc1, hc2]) rfl ⟨_, rfl, ?_, ?_⟩
      · exact RV.put3 (w := w4) ⟨_, _, rfl, HX1.out, HY1.out⟩ HBL.out _ _ _
      · exact put3_below HBE.out (Nat.le_refl _) _ _ _
    | true =>
      go_wp2_with fail
      refine bodyPost_ret (v := .agg #[.bool (decide (0 < n1)), .slice C1 n1 d1, .slice C2 n2 d2]) (by simp [results, Tryz.results42, go_sem, hc0, hc1, hc2]) rfl ⟨_, rfl, ?_, ?_⟩
      · rw [HGT.out]
        exact RV.put3 (w := w4) ⟨_, _, rfl, HX1.out, HY1.out⟩ HBL.out _ _ _
      · exact put3_below HBE.out (Nat.le_refl _) _ _ _
end Go.Proofs.YtdmhkhnnomdkcaaGreatDoor
/- fetterlockref1.Minus, Inverse. -/
namespace Go.Proofs.YtdmhkhnnomdkcaaGreatDoor
open Go.RowKit NumB
set_option linter.unusedVariables false
set_option linter.unusedSimpArgs false

set_option maxRecDepth 100000 in
set_option maxHeartbeats 1600000 in
theorem rminus_any (neg : Bool) (x y : Nat) (v : Value) (w : World) (h : RV w v neg x y) : Calls Tryz.prog 20 #[v] w (RVPost w (!neg && decide (0 < x)) x y) := by
  have HR := Lib.hid h
  obtain ⟨A, n, c, B, m, d, rfl, hn, hm⟩ := h.form
  have hpos := len_pos16 hn
  have HGT : Hid (decide (0 < n) = decide (0 < x)) := by
    unfold Hid
    by_cases h : 0 < n
    · rw [decide_eq_true (hpos.1 h), decide_eq_true h]
    · rw [decide_eq_false (fun hh => h (hpos.2 hh)), decide_eq_false h]
  obtain ⟨_, h1, h2⟩ := h.parts
  have HN1 := Lib.hid h1
  have HN2 := Lib.hid h2
  clear h hn hm hpos h1 h2 HR
  cases neg with
  | true =>
    go_enter Tryz.func20, Tryz.ntmps20
    go_wp2_with fail
    refine bodyPost_ret (v := .agg #[.bool false, .slice A n c, .slice B m d]) (by simp [results, Tryz.results20, go_sem]) rfl ⟨_, rfl, ?_, below_two w _ _⟩
    exact ⟨_, _, rfl, HN1.out.to (below_two w _ _), HN2.out.to (below_two w _ _)⟩
  | false =>
    go_enter Tryz.func20, Tryz.ntmps20
    go_wp2_with fail
    refine bodyPost_ret (v := .agg #[.bool (decide (0 < n)), .slice A n c, .slice B m d]) (by simp [results, Tryz.results20, go_sem]) rfl ⟨_, rfl, ?_, below_two w _ _⟩
    rw [HGT.out]
    exact ⟨_, _, rfl, HN1.out.to (below_two w _ _), HN2.out.to (below_two w _ _)⟩

set_option maxRecDepth 100000 in
set_option maxHeartbeats 1600000 in
theorem rinverse_any (neg : Bool) (x y : Nat) (v : Value) (w : World) (h : RV w v neg x y) : Calls Tryz.prog 22 #[v] w (RVPost w neg y x) := by
  obtain ⟨A, n, c, B, m, d, rfl, hn, hm⟩ := h.form
  obtain ⟨_, h1, h2⟩ := h.parts
  have HN1 := Lib.hid h1
  have HN2 := Lib.hid h2
  clear h hn hm h1 h2
  go_enter Tryz.func22, Tryz.ntmps22
  go_wp2_with fail
  refine bodyPost_ret (v := .agg #[.bool neg, .slice B m d, .slice A n c]) (by simp [results, Tryz.results22, go_sem]) rfl ⟨_, rfl, ?_, below_two w _ _⟩
  exact ⟨_, _, rfl, HN2.out.to (below_two w _ _), HN1.out.to (below_two w _ _)⟩
end Go.Proofs.YtdmhkhnnomdkcaaGreatDoor
/- fetterlockref1.MulNat. Conditions: at most 50000 digits. -/
namespace Go.Proofs.YtdmhkhnnomdkcaaGreatDoor
open Go.RowKit NumB
set_option linter.unusedVariables false
set_option linter.unusedSimpArgs false

theorem rmul_inner {out o2 ys : List Nat} {i k c x y o s : Nat} (hlen : i + k < o2.length) (ho : out.getD (i + k) 0 = o) (hy : ys.getD k 0 = y) (hs : s = c + (x * y + o))
    (h : val W16 (o2.take (i + k)) + W16 ^ (i + k) * c = val W16 (out.take (i + k)) + W16 ^ i * x * val W16 (ys.take k)) :
    val W16 ((o2.set (i + k) (s % 65536)).take (i + (k + 1))) + W16 ^ (i + (k + 1)) * (s / 65536) = val W16 (out.take (i + (k + 1))) + W16 ^ i * x * val W16 (ys.take (k + 1)) := by
  rw [← Nat.add_assoc, val_take_succ, val_take_succ, val_take_succ, take_set_lt _ _ _ _ (Nat.le_refl _), getD_set_self _ _ _ hlen, ho, hy, Nat.pow_succ]
  exact mul_alg hs (Nat.pow_add _ _ _) h W16
theorem rmul_outer {out o2 xs ys : List Nat} {i m k x Y : Nat} (hm : ys.length = m) (hY : val W16 ys = Y) (hx : xs.getD i 0 = x) (hk : k = m ∨ k = m + 1) (hz : ∀ q, i + m ≤ q → out.getD q 0 = 0) (hj : ∀ q, i + k ≤ q → o2.getD q 0 = out.getD q 0)
    (h : val W16 (o2.take (i + k)) + W16 ^ (i + k) * 0 = val W16 (out.take (i + k)) + W16 ^ i * x * val W16 (ys.take k)) (ho : val W16 (out.take (i + m)) = val W16 (xs.take i) * Y) :
    val W16 (o2.take (i + 1 + m)) = val W16 (xs.take (i + 1)) * Y := by
  rw [Nat.mul_zero, Nat.add_zero, val_take_all W16 ys (j := k) (by omega), hY] at h
  rw [val_take_succ W16 xs, hx, Nat.add_mul, ← ho]
  rcases hk with rfl | rfl
  · rw [show i + 1 + k = i + k + 1 from by omega, val_take_succ, hj _ (Nat.le_refl _), hz _ (Nat.le_refl _), Nat.mul_zero, Nat.add_zero]
    exact h
  · rw [show i + (m + 1) = i + m + 1 from by omega] at h
    rw [show i + 1 + m = i + m + 1 from by omega, h, val_take_succ, hz _ (Nat.le_refl _), Nat.mul_zero, Nat.add_zero]

set_option maxRecDepth 100000 in
set_option maxHeartbeats 6400000 in
theorem rmul_any (x y : Nat) (va vb : Value) (w : World) (ha : Nat16 w va x) (hb : Nat16 w vb y) (hx : (digs W16 x).length ≤ 50000) (hy : (digs W16 y).length ≤ 50000) :
    Calls Tryz.prog 41 #[va, vb] w (RPost w (x * y)) := by
  have HB0 := Lib.hid hb
  obtain ⟨A, ca, rfl, hca, hma, hra⟩ := ha
  obtain ⟨A', cb, rfl, hcb, hmb, hrb⟩ := hb
  unfold maxLen at hma hmb
  unfold Nat16 at HB0
  have HX := Lib.hid (And.intro (And.intro (val_digs W16_gt x) (val_digs W16_gt y)) (And.intro (ok_digs W16_gt x) (ok_digs W16_gt y)))
  generalize digs W16 x = xs at *
  generalize digs W16 y = ys at *
  generalize hn : xs.length = n at *
  generalize hm : ys.length = m at *
  have HRA := Lib.hid hra
  have HM := Lib.hid hm
  clear hra hrb hn hm
  obtain ⟨i0, hi0, hz0, hz1, hz2⟩ := info_parts info_i64
  have HI := Lib.hid hi0
  have HZ0 := Lib.hid hz0
  have HZ1 := Lib.hid hz1
  have HZ2 := Lib.hid hz2
  clear hi0 hz0 hz1 hz2
  go_enter Tryz.func41, Tryz.ntmps41
  go_wp2_with (at_make; refine wpList_make_full _ rfl _ _ 41 rfl w.heap.size 3 i0 (.int .i64 0) 1 Tryz.underlying41 HI.out HZ0.out HZ1.out .i64 .i64 _ _ (n + m + 1) rfl rfl (by omega) (by omega) (by rw [HZ2.out]; omega) (by unfold maxLen; omega) (Nat.le_refl _) ?_; intro w1 hown1 hg1)
  have HO1 := Lib.hid (Own.made hown1)
  have HB1 := Lib.hid ((Below.refl w.heap.size w).grown hg1 (Nat.le_refl _) (by simp))
  clear hown1 hg1
  go_loopg [19, 6, 7, 8, 9] n (fun gk si s6 s7 s8 s9 wr => ∃ (i : Nat) (out : List Nat), gk + i = n ∧ si = .int .i64 (i : Int) ∧ Hid (Own .i64 3 wr w.heap.size w.heap.size (n + m + 1) (n + m + 1) out) ∧ Hid (Ok W16 out) ∧ Hid (∀ q, i + m ≤ q → out.getD q 0 = 0) ∧ Hid (val W16 (out.take (i + m)) = val W16 (xs.take i) * y) ∧ Hid (Below w.heap.size w wr))
  case atStart => exact ⟨0, List.replicate (n + m + 1) 0, by omega, rfl, HO1.out, ok_replicate (by decide), fun q _ => getD_replicate _ _, by unfold Hid; rw [List.take_replicate, val_replicate]; simp, HB1.out⟩
  case round =>
    obtain ⟨i, out, hgi, rfl, HO, HOK, HZ, HE, HB⟩ := hrel
    obtain ⟨wo, rfl⟩ : ∃ wo : World, wo = wr := ⟨_, rfl⟩
    by_cases hi : i < n
    · obtain ⟨b, o, p, rfl, hb, hpe, hcp0⟩ := HRA.out.at_ (i := i) hi
      have hpb : p < 65536 := by rw [← hpe]; exact HX.out.2.1.getD (by decide) _
      have HP := Lib.hid hpe
      have HCP := Lib.hid hcp0
      clear hpe hcp0
      go_wp2_with fail
      go_loopg [7, 8, 9] (m + 2) (fun gk2 s7 s8 s9 wr => ∃ (k c : Nat) (o2 : List Nat), gk2 + k = m + 2 ∧ k ≤ m + 1 ∧ (k = m + 1 → c = 0) ∧ s8 = .int .i64 (k : Int) ∧ s7 = .int .i64 (c : Int) ∧ c < 65536 ∧ Hid (Own .i64 3 wr w.heap.size w.heap.size (n + m + 1) (n + m + 1) o2) ∧ Hid (Ok W16 o2) ∧ Hid (∀ q, i + k ≤ q → o2.getD q 0 = out.getD q 0) ∧ Hid (val W16 (o2.take (i + k)) + W16 ^ (i + k) * c = val W16 (out.take (i + k)) + W16 ^ i * p * val W16 (ys.take k)) ∧ Hid (Below w.heap.size w wr))
      case atStart => exact ⟨0, 0, out, by omega, by omega, fun _ => rfl, rfl, rfl, by omega, HO.out, HOK.out, fun _ _ => rfl, by unfold Hid; simp, HB.out⟩
      case round =>
        obtain ⟨k, c, o2, hgk, hkm, hkc, rfl, rfl, hc, HO2, HOK2, HJ2, HE2, HB2⟩ := hrel
        by_cases hex : m ≤ k ∧ c = 0
        · obtain ⟨hmk, rfl⟩ := hex
          have hnk : ¬ (k < m) := by omega
          clear hkc
          go_wp2
          go_roundg (n - (i + 1))
          case measure => omega
          case rel =>
            refine ⟨i + 1, o2, by omega, by go_num, HO2.out, HOK2.out, ?_, rmul_outer HM.out HX.out.1.2 HP.out (by omega) HZ.out HJ2.out HE2.out HE.out, HB2.out⟩
            intro q' hq'
            rw [HJ2.out q' (by omega)]
            exact HZ.out q' (by omega)
        · have hkm2 : k ≤ m := by
            rcases Nat.lt_or_ge m k with h | h
            · exact absurd ⟨by omega, hkc (by omega)⟩ hex
            · exact h
          have hcase : k < m ∨ (m ≤ k ∧ 0 < c) := by
            rcases Nat.lt_or_ge k m with h | h
            · exact .inl h
            · exact .inr ⟨h, Nat.pos_of_ne_zero fun h0 => hex ⟨h, h0⟩⟩
          obtain ⟨q, hqe⟩ : ∃ q, ys.getD k 0 = q := ⟨_, rfl⟩
          have hqb : q < 65536 := by rw [← hqe]; exact HX.out.2.2.getD (by decide) _
          have HQ0 : Hid (k = m → q = 0) := fun h => by rw [← hqe]; exact getD_ge (by rw [HM.out]; omega)
          have HQ := Lib.hid hqe
          clear hqe
          obtain ⟨r, hr⟩ : ∃ r, out.getD (i + k) 0 = r := ⟨_, rfl⟩
          have HR := Lib.hid hr
          have HR0 : Hid (k = m → r = 0) := fun h => by rw [← hr]; exact HZ.out _ (by omega)
          have hrb : r < 65536 := by rw [← hr]; exact HOK.out.getD (by decide) _
          have hcr : wr.cell? ⟨w.heap.size, i + k, none⟩ = some (.int .i64 (r : Int)) := by rw [← hr, ← HJ2.out _ (Nat.le_refl _)]; exact HO2.out.cell (by omega)
          have hcp : wr.cell? ⟨b, o + i, none⟩ = some (.int .i64 (p : Int)) := (HB2.out.cell (p := ⟨b, o + i, none⟩) hb).trans HCP.out
          clear hr hex hkc
          obtain ⟨pq, hpq⟩ : ∃ pq, pq = p * q := ⟨_, rfl⟩
          have HPQ := Lib.hid hpq
          have hpqb : pq ≤ 4294836225 := by rw [hpq]; exact Nat.mul_le_mul (show p ≤ 65535 by omega) (show q ≤ 65535 by omega)
          have hpqi : (p : Int) * (q : Int) = (pq : Int) := by rw [hpq, Int.natCast_mul]
          clear hpq
          have HSl : Hid (Sl .i64 wr (.slice A' m cb) ys) := HB0.out.to HB2.out
          have hi0 : (0 : Int) ≤ (i : Int) + (k : Int) := by omega
          have hi1 : (i : Int) + (k : Int) < ((n + m + 1 : Nat) : Int) := by omega
          have hi2 : (0 : Int) ≤ (i : Int) := by omega
          have hi3 : (i : Int) < (n : Int) := by omega
          have ht : ((i : Int) + (k : Int)).toNat = i + k := by omega
          have hw1 : IntKind.i64.wrap ((i : Int) + (k : Int)) = (i : Int) + (k : Int) := by rw [IntKind.wrap_i64]; omega
          have hw2 : IntKind.i64.wrap (pq : Int) = (pq : Int) := by rw [IntKind.wrap_i64]; omega
          have hw3 : IntKind.i64.wrap ((r : Int) + (pq : Int)) = (r : Int) + (pq : Int) := by rw [IntKind.wrap_i64]; omega
          have hw4 : IntKind.i64.wrap ((r : Int) + (pq : Int) + (c : Int)) = (r : Int) + (pq : Int) + (c : Int) := by rw [IntKind.wrap_i64]; omega
          rcases hcase with hlt | ⟨hkm3, hc0⟩
          all_goals
            try (have hnk : ¬ (k < m) := by omega)
            go_wp2
            go_quiet ((go_at_call 62; exact quietL (rdigit_eq ys _ k q _ (by exact HSl.out) (by omega) HQ.out)))
            clear hw2 hw3 hw4 hcp
            generalize hwq : wr.drewN nq = wq
            have HO3 : Hid (Own .i64 3 wq w.heap.size w.heap.size (n + m + 1) (n + m + 1) o2) := by rw [← hwq]; exact HO2.out
            have HB3 : Hid (Below w.heap.size w wq) := by rw [← hwq]; exact below_drewN HB2.out _
            have hcr2 : wq.cell? ⟨w.heap.size, i + k, none⟩ = some (.int .i64 (r : Int)) := by rw [← hwq]; exact hcr
            have hf := HO3.out.frozen (i + k)
            clear hwq hcr
            go_wp2
            go_roundg (gk - 1)
            case measure => omega
            case rel =>
              have el : ((r : Int) + (pq : Int) + (c : Int)) % 65536 = (((c + (pq + r)) % 65536 : Nat) : Int) := by omega
              have eh : ((r : Int) + (pq : Int) + (c : Int)) / 65536 = (((c + (pq + r)) / 65536 : Nat) : Int) := by omega
              rw [el, eh]
              refine ⟨k + 1, (c + (pq + r)) / 65536, o2.set (i + k) ((c + (pq + r)) % 65536), by omega, by omega, ?_, by go_num, rfl, by omega, HO3.out.stored _ _, HOK2.out.set (Nat.mod_lt _ (by decide)), ?_, rmul_inner (by rw [HO3.out.1]; omega) HR.out HQ.out (by rw [HPQ.out]) HE2.out, HB3.out.setCell (Nat.le_refl _) _⟩
              · intro hk1
                have hkm4 : k = m := by omega
                have h1 := HR0.out hkm4
                have h2 := HQ0.out hkm4
                have h3 := HPQ.out
                rw [h2, Nat.mul_zero] at h3
                omega
              · intro q' hq'
                rw [NumB.getD_set_ne _ _ _ _ (by omega)]
                exact HJ2.out q' (by omega)
    · obtain rfl : i = n := by omega
      clear hgi hi
      go_wp2_with (go_at_call 52; refine (rtrim_any out _ _ HO.out.sl HOK.out).mono ?_; rintro e w' ⟨v', rfl, hn', rfl⟩)
      go_ret
      have he := HE.out
      have hv : val W16 out = val W16 (out.take (i + m)) := by
        rw [← val_take_all W16 out (j := i + m + 1) (by rw [HO.out.1]; exact Nat.le_refl _), val_take_succ, HZ.out _ (Nat.le_refl _), Nat.mul_zero, Nat.add_zero]
      rw [hv, he, val_take_all W16 xs (by rw [HRA.out.1]; exact Nat.le_refl _), HX.out.1.1] at hn'
      exact ⟨_, rfl, hn', HB.out⟩
end Go.Proofs.YtdmhkhnnomdkcaaGreatDoor
/- number.compare, number.Compare; fetterlockref1.Cmp. -/
namespace Go.Proofs.YtdmhkhnnomdkcaaGreatDoor
open Go.RowKit NumB
set_option linter.unusedVariables false
set_option linter.unusedSimpArgs false

/-- How two fractions compare. -/
def cmpQ (na : Bool) (xa ya : Nat) (nb : Bool) (xb yb : Nat) : Int := if na = nb then (if na then -cmpI (xa * yb) (xb * ya) else cmpI (xa * yb) (xb * ya)) else if na then -1 else 1
theorem cmpI_swap (x y : Nat) : cmpI y x = -cmpI x y := by unfold cmpI; split <;> split <;> (try split) <;> omega
theorem compare_B (x y : Nat) (va vb : Value) (w : World) (ha : Nat32 w va x) (hb : Nat32 w vb y) :
    Calls Tryz.prog 86 #[va, vb] w fun e w' => e = .returned (.int .i64 (cmpI x y)) ∧ Below w.heap.size w w' :=
  (compare_any x y va vb w ha hb).mono fun _ _ ⟨he, m, hm⟩ => ⟨he, by rw [hm]; exact below_of_drewN m⟩
theorem Two.drew2 {w : World} {na nb : Bool} {A1 A2 A3 A4 : Value} {xa ya xb yb : List Nat} (h : Two w na nb A1 A2 A3 A4 xa ya xb yb) (o1 o2 : Obj) : Two ((w.alloc o1).alloc o2).drew na nb A1 A2 A3 A4 xa ya xb yb := h.to (below_two w o1 o2).drew

end Go.Proofs.YtdmhkhnnomdkcaaGreatDoor
/- fetterlockref1.Cmp. -/
namespace Go.Proofs.YtdmhkhnnomdkcaaGreatDoor
open Go.RowKit NumB
set_option linter.unusedVariables false
set_option linter.unusedSimpArgs false

theorem digs16_len_mul (x y : Nat) : (digs W16 (x * y)).length ≤ (digs W16 x).length + (digs W16 y).length := by
  refine digs_len_le W16_gt ?_
  rw [Nat.pow_add]
  exact Nat.mul_lt_mul'' (digs_lt W16_gt) (digs_lt W16_gt)


/-- number.Compare at any two numbers. -/
def cmpS (a b : LN) : Int := cmpQ a.neg a.x a.y b.neg b.x b.y

end Go.Proofs.YtdmhkhnnomdkcaaGreatDoor

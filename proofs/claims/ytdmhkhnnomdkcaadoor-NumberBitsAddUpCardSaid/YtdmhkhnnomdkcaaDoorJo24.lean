/-  -/
import Derived.Test.YtdmhkhnnomdkcaaDoorJo2
import Derived.Test.YtdmhkhnnomdkcaaDoorJo3
import Derived.Test.YtdmhkhnnomdkcaaDoorJo11
import Derived.Test.YtdmhkhnnomdkcaaDoorJo21
set_option linter.unusedVariables false
set_option linter.unusedSimpArgs false
/- number.FromInt, at any int. -/
namespace Go.Proofs.YtdmhkhnnomdkcaaDoor
open Go.RowKit NumB
set_option linter.unusedVariables false
set_option linter.unusedSimpArgs false

theorem small64 {k : Nat} (h : k < 18446744073709551616) : (digs W32 k).length ≤ 50000 := Nat.le_trans (digs_len_le (k := 2) W32_gt (by unfold W32; omega)) (by omega)

set_option maxRecDepth 100000 in
set_option maxHeartbeats 1600000 in
theorem fromInt_pos (k : Nat) (w : World) (h : k < 9223372036854775808) : Calls Tryd.prog 10 #[.int .i64 (k : Int)] w (RawPost w (false && decide (0 < k)) k 1) := by
  have HO : Hid (∀ W : World, Calls Tryd.prog 26 #[.int .u64 (k : Int)] W fun e w' => ∃ v, e = .returned v ∧ Nat32 w' v k ∧ Below W.heap.size W w') := fun W => of_any k W (by omega)
  have HR : Hid (∀ (W : World) (va vb : Value), Nat32 W va k → Nat32 W vb 1 → Calls Tryd.prog 25 #[.bool false, va, vb] W (RawPost W (false && decide (0 < k)) k 1)) := fun W va vb h1 h2 => by
    have h := raw_any false k 1 va vb W h1 h2 (by omega) (small64 (by omega)) (by rw [digs_one32]; decide)
    rw [Nat.gcd_one_right, Nat.div_one, Nat.div_one] at h
    exact h
  have HBK := Lib.hid (nilBlk w)
  generalize (false && decide (0 < k)) = sg at *
  have hlt : decide ((k : Int) < 0) = false := decide_eq_false (by omega)
  have hwr : IntKind.u64.wrap (k : Int) = (k : Int) := by rw [IntKind.wrap_u64]; omega
  go_enter Tryd.func10, Tryd.ntmps10
  go_wp2_with fail
  refine (HO.out _).mono ?_
  rintro e w1 ⟨v1, rfl, hn1, hb1⟩
  have HN1 := Lib.hid hn1
  obtain ⟨C1, n1, d1, rfl, hq⟩ := hn1.form
  have HB1 := Lib.hid hb1
  clear hq hn1 hb1
  go_wp2_with fail
  refine (HR.out _ _ _ (by exact HN1.out.to (below_one w1 _)) (by exact one32 w1)).mono ?_
  rintro e w2 ⟨v2, rfl, hn2, hb2⟩
  obtain ⟨C2, n2, d2, C3, n3, d3, rfl, hq1, hq2⟩ := hn2.form
  clear hq1 hq2
  have hblk := ((HBK.out.to HB1.out).to (below_one w1 _)).to hb2
  have hc0 := hblk.cell 0
  have hc1 := hblk.cell 1
  have hc2 := hblk.cell 2
  have hf0 := hblk.frozen 0
  have hf1 := hblk.frozen 1
  have hf2 := hblk.frozen 2
  simp only [List.getElem?_toArray, List.getElem?_cons_zero, List.getElem?_cons_succ] at hc0 hc1 hc2
  have HN2 := Lib.hid hn2
  have HBL := Lib.hid hblk
  have HB2 : Hid (Below w.heap.size w w2) := (((below_one w _).trans (HB1.out.mono (below_one w _).size)).trans ((below_one w1 _).mono (Nat.le_trans (below_one w _).size HB1.out.size))).trans (hb2.mono (Nat.le_trans (Nat.le_trans (below_one w _).size HB1.out.size) (below_one w1 _).size))
  clear hn2 hblk hb2
  go_wp2_with fail
  refine bodyPost_ret (v := .agg #[.bool sg, .slice C2 n2 d2, .slice C3 n3 d3]) (by simp [results, Tryd.results10, go_sem, hc0, hc1, hc2]) rfl ⟨_, rfl, ?_, ?_⟩
  · exact NumV.put3 (w := w2) HN2.out HBL.out _ _ _
  · exact put3_below HB2.out (Nat.le_refl _) _ _ _

set_option maxRecDepth 100000 in
set_option maxHeartbeats 1600000 in
theorem fromInt_neg (k : Nat) (w : World) (h0 : 0 < k) (h : k ≤ 9223372036854775808) : Calls Tryd.prog 10 #[.int .i64 (-(k : Int))] w (RawPost w (true && decide (0 < k)) k 1) := by
  have HO : Hid (∀ W : World, Calls Tryd.prog 26 #[.int .u64 (k : Int)] W fun e w' => ∃ v, e = .returned v ∧ Nat32 w' v k ∧ Below W.heap.size W w') := fun W => of_any k W (by omega)
  have HR : Hid (∀ (W : World) (va vb : Value), Nat32 W va k → Nat32 W vb 1 → Calls Tryd.prog 25 #[.bool true, va, vb] W (RawPost W (true && decide (0 < k)) k 1)) := fun W va vb h1 h2 => by
    have h := raw_any true k 1 va vb W h1 h2 (by omega) (small64 (by omega)) (by rw [digs_one32]; decide)
    rw [Nat.gcd_one_right, Nat.div_one, Nat.div_one] at h
    exact h
  have HBK := Lib.hid (nilBlk w)
  generalize (true && decide (0 < k)) = sg at *
  obtain ⟨m, hm, hmb⟩ : ∃ m : Nat, IntKind.u64.wrap (-(k : Int)) = (m : Int) ∧ m + k = 18446744073709551616 := ⟨18446744073709551616 - k, by rw [IntKind.wrap_u64]; omega, by omega⟩
  have hm2 : IntKind.u64.wrap (-(m : Int)) = (k : Int) := by rw [IntKind.wrap_u64]; omega
  have hlt : decide (-(k : Int) < 0) = true := decide_eq_true (by omega)
  go_enter Tryd.func10, Tryd.ntmps10
  go_wp2_with fail
  refine (HO.out _).mono ?_
  rintro e w1 ⟨v1, rfl, hn1, hb1⟩
  have HN1 := Lib.hid hn1
  obtain ⟨C1, n1, d1, rfl, hq⟩ := hn1.form
  have HB1 := Lib.hid hb1
  clear hq hn1 hb1
  go_wp2_with fail
  refine (HR.out _ _ _ (by exact HN1.out.to (below_one w1 _)) (by exact one32 w1)).mono ?_
  rintro e w2 ⟨v2, rfl, hn2, hb2⟩
  obtain ⟨C2, n2, d2, C3, n3, d3, rfl, hq1, hq2⟩ := hn2.form
  clear hq1 hq2
  have hblk := ((HBK.out.to HB1.out).to (below_one w1 _)).to hb2
  have hc0 := hblk.cell 0
  have hc1 := hblk.cell 1
  have hc2 := hblk.cell 2
  have hf0 := hblk.frozen 0
  have hf1 := hblk.frozen 1
  have hf2 := hblk.frozen 2
  simp only [List.getElem?_toArray, List.getElem?_cons_zero, List.getElem?_cons_succ] at hc0 hc1 hc2
  have HN2 := Lib.hid hn2
  have HBL := Lib.hid hblk
  have HB2 : Hid (Below w.heap.size w w2) := (((below_one w _).trans (HB1.out.mono (below_one w _).size)).trans ((below_one w1 _).mono (Nat.le_trans (below_one w _).size HB1.out.size))).trans (hb2.mono (Nat.le_trans (Nat.le_trans (below_one w _).size HB1.out.size) (below_one w1 _).size))
  clear hn2 hblk hb2
  go_wp2_with fail
  refine bodyPost_ret (v := .agg #[.bool sg, .slice C2 n2 d2, .slice C3 n3 d3]) (by simp [results, Tryd.results10, go_sem, hc0, hc1, hc2]) rfl ⟨_, rfl, ?_, ?_⟩
  · exact NumV.put3 (w := w2) HN2.out HBL.out _ _ _
  · exact put3_below HB2.out (Nat.le_refl _) _ _ _
end Go.Proofs.YtdmhkhnnomdkcaaDoor
/- Numbers of one limb, of more limbs: plain facts. -/
namespace Go.Proofs.YtdmhkhnnomdkcaaDoor
open Go.RowKit NumB
set_option linter.unusedVariables false

theorem digs_single {x : Nat} (h : (digs W32 x).length = 1) : (digs W32 x).getD 0 0 = x ∧ x < 4294967296 := by
  have h1 := digs_lt (n := x) W32_gt
  rw [h, Nat.pow_one] at h1
  have h2 : x < 4294967296 := h1
  have h0 : x ≠ 0 := by intro e; subst e; rw [digs_zero] at h; cases h
  rw [digs_step W32_gt h0]
  exact ⟨Nat.mod_eq_of_lt h1, h2⟩
theorem digs_many {x : Nat} (h : 2 ≤ (digs W32 x).length) : 4294967296 ≤ x := by
  have h1 := (digs_len_gt (n := x) (k := 1) W32_gt).1 (by omega)
  rw [Nat.pow_one] at h1
  exact h1
end Go.Proofs.YtdmhkhnnomdkcaaDoor

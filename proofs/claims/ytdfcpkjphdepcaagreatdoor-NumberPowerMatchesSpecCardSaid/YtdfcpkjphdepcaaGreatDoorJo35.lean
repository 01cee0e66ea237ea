/- number.Gcd, at any two numbers. number.FromInt, at any int. Numbers of one limb, of more limbs: plain facts. -/
import Derived.Test.YtdfcpkjphdepcaaGreatDoorJo2
import Derived.Test.YtdfcpkjphdepcaaGreatDoorJo3
import Derived.Test.YtdfcpkjphdepcaaGreatDoorJo10
import Derived.Test.YtdfcpkjphdepcaaGreatDoorJo25
import Derived.Test.YtdfcpkjphdepcaaGreatDoorJo28
import Derived.Test.YtdfcpkjphdepcaaGreatDoorJo34
set_option linter.unusedVariables false
set_option linter.unusedSimpArgs false
namespace Go.Proofs.YtdfcpkjphdepcaaGreatDoor
open Go.RowKit NumB
set_option linter.unusedVariables false
set_option linter.unusedSimpArgs false

/-- What Gcd answers. -/
def gcdS (a b : LN) : LN × Int := if intErr2 a b = 0 then fracS 0 false (Nat.gcd a.x b.x) 1 else (zeroL, intErr2 a b)
theorem intErr2_zero {a b : LN} : intErr2 a b = 0 ↔ (a.err = 0 ∧ b.err = 0) ∧ a.y = 1 ∧ b.y = 1 := by
  unfold intErr2
  by_cases h : err2 a.err b.err = 0
  · rw [if_pos h]
    have := err2_zero.1 h
    by_cases h2 : a.y = 1 ∧ b.y = 1
    · simp [h2, this]
    · rw [if_neg h2]; simp [h2]
  · rw [if_neg h]
    have : ¬ (a.err = 0 ∧ b.err = 0) := fun hh => h (err2_zero.2 hh)
    simp [h, this]
theorem blk_4 (w : World) (t : TypeId) (o1 o2 o3 : Obj) (c : Array Value) : Blk ((((w.alloc o1).alloc o2).alloc o3).alloc (.cells c t)) (w.heap.size + 1 + 1 + 1) t c := by
  have := Blk.new (((w.alloc o1).alloc o2).alloc o3) t c
  simpa using this
theorem below_4 (w : World) (o1 o2 o3 o4 : Obj) : Below w.heap.size w ((((w.alloc o1).alloc o2).alloc o3).alloc o4) := (below_3 w o1 o2 o3).alloc (by simp; omega) o4

end Go.Proofs.YtdfcpkjphdepcaaGreatDoor
namespace Go.Proofs.YtdfcpkjphdepcaaGreatDoor
open Go.RowKit NumB
set_option linter.unusedVariables false
set_option linter.unusedSimpArgs false

theorem small64 {k : Nat} (h : k < 18446744073709551616) : (digs W32 k).length ≤ 50000 := Nat.le_trans (digs_len_le (k := 2) W32_gt (by unfold W32; omega)) (by omega)

set_option maxRecDepth 100000 in
set_option maxHeartbeats 1600000 in
theorem fromInt_pos (k : Nat) (w : World) (h : k < 9223372036854775808) : Calls Tryz.prog 48 #[.int .i64 (k : Int)] w (RawPost w (false && decide (0 < k)) k 1) := by
  have HO : Hid (∀ W : World, Calls Tryz.prog 76 #[.int .u64 (k : Int)] W fun e w' => ∃ v, e = .returned v ∧ Nat32 w' v k ∧ Below W.heap.size W w') := fun W => of_any k W (by omega)
  have HR : Hid (∀ (W : World) (va vb : Value), Nat32 W va k → Nat32 W vb 1 → Calls Tryz.prog 75 #[.bool false, va, vb] W (RawPost W (false && decide (0 < k)) k 1)) := fun W va vb h1 h2 => by
    have h := raw_any false k 1 va vb W h1 h2 (by omega) (small64 (by omega)) (by rw [digs_one32]; decide)
    rw [Nat.gcd_one_right, Nat.div_one, Nat.div_one] at h
    exact h
  have HBK := Lib.hid (nilBlk w)
  generalize (false && decide (0 < k)) = sg at *
  have hlt : decide ((k : Int) < 0) = false := decide_eq_false (by omega)
  have hwr : IntKind.u64.wrap (k : Int) = (k : Int) := by rw [IntKind.wrap_u64]; omega
  go_enter Tryz.func48, Tryz.ntmps48
  go_wp2_with fail
  refine (HO.out _).mono ?_
  rintro e w1 ⟨v1, rfl, hn1, hb1⟩
  have HN1 := Lib.hid hn1
  obtain ⟨C1, n1, d1, rfl, hq⟩ := hn1.form
  have HB1 := Lib.hid hb1
  clear hq hn1 hb1
  go_wp2_with fail
  refine (HR.out _ _ _ (by exact HN1.out.to (below_one w1 _)) (by exact one32 w1)).mono ?_
  rintro e w2 ⟨v2, rfl, hn2, hb2⟩
  obtain ⟨C2, n2, d2, C3, n3, d3, rfl, hq1, hq2⟩ := hn2.form
  clear hq1 hq2
  have hblk := ((HBK.out.to HB1.out).to (below_one w1 _)).to hb2
  have hc0 := hblk.cell 0
  have hc1 := hblk.cell 1
  have hc2 := hblk.cell 2
  have hf0 := hblk.frozen 0
  have hf1 := hblk.frozen 1
  have hf2 := hblk.frozen 2
  simp only [List.getElem?_toArray, List.getElem?_cons_zero, List.getElem?_cons_succ] at hc0 hc1 hc2
  have HN2 := Lib.hid hn2
  have HBL := Lib.hid hblk
  have HB2 : Hid (Below w.heap.size w w2) := (((below_one w _).trans (HB1.out.mono (below_one w _).size)).trans ((below_one w1 _).mono (Nat.le_trans (below_one w _).size HB1.out.size))).trans (hb2.mono (Nat.le_trans (Nat.le_trans (below_one w _).size HB1.out.size) (below_one w1 _).size))
  clear hn2 hblk hb2
  go_wp2_with fail
  refine bodyPost_ret (v := .agg #[.bool sg, .slice C2 n2 d2, .slice C3 n3 d3]) (by simp [results, Tryz.results48, go_sem, hc0, hc1, hc2]) rfl ⟨_, rfl, ?_, ?_⟩
  · exact NumV.put3 (w := w2) HN2.out HBL.out _ _ _
  · exact put3_below HB2.out (Nat.le_refl _) _ _ _

set_option maxRecDepth 100000 in
set_option maxHeartbeats 1600000 in
theorem fromInt_neg (k : Nat) (w : World) (h0 : 0 < k) (h : k ≤ 9223372036854775808) : Calls Tryz.prog 48 #[.int .i64 (-(k : Int))] w (RawPost w (true && decide (0 < k)) k 1) := by
  have HO : Hid (∀ W : World, Calls Tryz.prog 76 #[.int .u64 (k : Int)] W fun e w' => ∃ v, e = .returned v ∧ Nat32 w' v k ∧ Below W.heap.size W w') := fun W => of_any k W (by omega)
  have HR : Hid (∀ (W : World) (va vb : Value), Nat32 W va k → Nat32 W vb 1 → Calls Tryz.prog 75 #[.bool true, va, vb] W (RawPost W (true && decide (0 < k)) k 1)) := fun W va vb h1 h2 => by
    have h := raw_any true k 1 va vb W h1 h2 (by omega) (small64 (by omega)) (by rw [digs_one32]; decide)
    rw [Nat.gcd_one_right, Nat.div_one, Nat.div_one] at h
    exact h
  have HBK := Lib.hid (nilBlk w)
  generalize (true && decide (0 < k)) = sg at *
  obtain ⟨m, hm, hmb⟩ : ∃ m : Nat, IntKind.u64.wrap (-(k : Int)) = (m : Int) ∧ m + k = 18446744073709551616 := ⟨18446744073709551616 - k, by rw [IntKind.wrap_u64]; omega, by omega⟩
  have hm2 : IntKind.u64.wrap (-(m : Int)) = (k : Int) := by rw [IntKind.wrap_u64]; omega
  have hlt : decide (-(k : Int) < 0) = true := decide_eq_true (by omega)
  go_enter Tryz.func48, Tryz.ntmps48
  go_wp2_with fail
  refine (HO.out _).mono ?_
  rintro e w1 ⟨v1, rfl, hn1, hb1⟩
  have HN1 := Lib.hid hn1
  obtain ⟨C1, n1, d1, rfl, hq⟩ := hn1.form
  have HB1 := Lib.hid hb1
  clear hq hn1 hb1
  go_wp2_with fail
  refine (HR.out _ _ _ (by exact HN1.out.to (below_one w1 _)) (by exact one32 w1)).mono ?_
  rintro e w2 ⟨v2, rfl, hn2, hb2⟩
  obtain ⟨C2, n2, d2, C3, n3, d3, rfl, hq1, hq2⟩ := hn2.form
  clear hq1 hq2
  have hblk := ((HBK.out.to HB1.out).to (below_one w1 _)).to hb2
  have hc0 := hblk.cell 0
  have hc1 := hblk.cell 1
  have hc2 := hblk.cell 2
  have hf0 := hblk.frozen 0
  have hf1 := hblk.frozen 1
  have hf2 := hblk.frozen 2
  simp only [List.getElem?_toArray, List.getElem?_cons_zero, List.getElem?_cons_succ] at hc0 hc1 hc2
  have HN2 := Lib.hid hn2
  have HBL := Lib.hid hblk
  have HB2 : Hid (Below w.heap.size w w2) := (((below_one w _).trans (HB1.out.mono (below_one w _).size)).trans ((below_one w1 _).mono (Nat.le_trans (below_one w _).size HB1.out.size))).trans (hb2.mono (Nat.le_trans (Nat.le_trans (below_one w _).size HB1.out.size) (below_one w1 _).size))
  clear hn2 hblk hb2
  go_wp2_with fail
  refine bodyPost_ret (v := .agg #[.bool sg, .slice C2 n2 d2, .slice C3 n3 d3]) (by simp [results, Tryz.results48, go_sem, hc0, hc1, hc2]) rfl ⟨_, rfl, ?_, ?_⟩
  · exact NumV.put3 (w := w2) HN2.out HBL.out _ _ _
  · exact put3_below HB2.out (Nat.le_refl _) _ _ _
end Go.Proofs.YtdfcpkjphdepcaaGreatDoor
namespace Go.Proofs.YtdfcpkjphdepcaaGreatDoor
open Go.RowKit NumB
set_option linter.unusedVariables false

theorem digs_single {x : Nat} (h : (digs W32 x).length = 1) : (digs W32 x).getD 0 0 = x ∧ x < 4294967296 := by
  have h1 := digs_lt (n := x) W32_gt
  rw [h, Nat.pow_one] at h1
  have h2 : x < 4294967296 := h1
  have h0 : x ≠ 0 := by intro e; subst e; rw [digs_zero] at h; cases h
  rw [digs_step W32_gt h0]
  exact ⟨Nat.mod_eq_of_lt h1, h2⟩
theorem digs_many {x : Nat} (h : 2 ≤ (digs W32 x).length) : 4294967296 ≤ x := by
  have h1 := (digs_len_gt (n := x) (k := 1) W32_gt).1 (by omega)
  rw [Nat.pow_one] at h1
  exact h1
end Go.Proofs.YtdfcpkjphdepcaaGreatDoor

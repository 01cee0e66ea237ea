/- nat.Sub: a difference that is not negative. Conditions: at most 100000 limbs. -/
import Derived.Test.YtfiedhopgmgnoaaDoorJo16
set_option linter.unusedVariables false
set_option linter.unusedSimpArgs false
namespace Go.Proofs.YtfiedhopgmgnoaaDoor
open Go.RowKit NumB
set_option linter.unusedVariables false
set_option linter.unusedSimpArgs false

theorem sb_cell (p l b : Nat) (hp : p < 4294967296) (hl : l ≤ 1) (hb : b < 4294967296) :
    ∃ x c : Nat, IntKind.u64.wrap (IntKind.u64.wrap ((p : Int) - (l : Int)) - (b : Int)) % 4294967296 = (x : Int) ∧
      bits .and .u64 (IntKind.u64.wrap (IntKind.u64.wrap ((p : Int) - (l : Int)) - (b : Int)) / 4294967296) 1 = (c : Int) ∧ x < 4294967296 ∧ c ≤ 1 ∧ p + 4294967296 * c = x + b + l := by
  have e : IntKind.u64.wrap (IntKind.u64.wrap ((p : Int) - (l : Int)) - (b : Int)) = (((p + 18446744073709551616 - l - b) % 18446744073709551616 : Nat) : Int) := by
    rw [IntKind.wrap_u64, IntKind.wrap_u64]; omega
  rw [e]
  generalize hX : (p + 18446744073709551616 - l - b) % 18446744073709551616 = X
  refine ⟨X % 4294967296, X / 4294967296 % 2, (of_cast X).1, ?_, by omega, by omega, by omega⟩
  rw [(of_cast X).2, and_one_u64' _ (by omega)]
theorem sb_cell1 (p l : Nat) (hp : p < 4294967296) (hl : l ≤ 1) :
    ∃ x c : Nat, IntKind.u64.wrap ((p : Int) - (l : Int)) % 4294967296 = (x : Int) ∧
      bits .and .u64 (IntKind.u64.wrap ((p : Int) - (l : Int)) / 4294967296) 1 = (c : Int) ∧ x < 4294967296 ∧ c ≤ 1 ∧ p + 4294967296 * c = x + 0 + l := by
  have e : IntKind.u64.wrap ((p : Int) - (l : Int)) = (((p + 18446744073709551616 - l) % 18446744073709551616 : Nat) : Int) := by
    rw [IntKind.wrap_u64]; omega
  rw [e]
  generalize hX : (p + 18446744073709551616 - l) % 18446744073709551616 = X
  refine ⟨X % 4294967296, X / 4294967296 % 2, (of_cast X).1, ?_, by omega, by omega, by omega⟩
  rw [(of_cast X).2, and_one_u64' _ (by omega)]
theorem sub_list {xs ys out : List Nat} {j bo p q z c : Nat} (hj : j < out.length) (hp : xs.getD j 0 = p) (hq : ys.getD j 0 = q) (hz : p + 4294967296 * c = z + q + bo)
    (he : val W32 (xs.take j) + W32 ^ j * bo = val W32 (out.take j) + val W32 (ys.take j)) :
    val W32 (xs.take (j + 1)) + W32 ^ (j + 1) * c = val W32 ((out.set j z).take (j + 1)) + val W32 (ys.take (j + 1)) := by
  rw [val_take_succ, val_take_succ, val_take_succ, take_set_lt _ _ _ _ (Nat.le_refl _), getD_set_self _ _ _ hj, hp, hq, Nat.pow_succ, Nat.mul_assoc]
  have h1 : W32 ^ j * p + W32 ^ j * (W32 * c) = W32 ^ j * z + W32 ^ j * q + W32 ^ j * bo := by
    rw [← Nat.mul_add, show W32 * c = 4294967296 * c from rfl, hz, Nat.mul_add, Nat.mul_add]
  omega
theorem sub_end {xs ys out : List Nat} {n bo x y : Nat} (hx : val W32 xs = x) (hy : val W32 ys = y) (hl : xs.length = n) (hm : ys.length ≤ n) (ho : out.length = n) (ook : Ok W32 out) (hle : y ≤ x)
    (he : val W32 (xs.take n) + W32 ^ n * bo = val W32 (out.take n) + val W32 (ys.take n)) : val W32 out = x - y := by
  rw [val_take_all W32 out (by omega), val_take_all W32 xs (by omega), val_take_all W32 ys (by omega), hx, hy] at he
  have h1 := val_lt ook
  rw [ho] at h1
  rcases Nat.eq_zero_or_pos bo with h0 | h0
  · rw [h0, Nat.mul_zero, Nat.add_zero] at he
    omega
  · exfalso
    have h4 : W32 ^ n * 1 ≤ W32 ^ n * bo := Nat.mul_le_mul_left _ h0
    omega

set_option maxRecDepth 100000 in
set_option maxHeartbeats 1600000 in
theorem sub_any (x y : Nat) (va vb : Value) (w : World) (ha : Nat32 w va x) (hb : Nat32 w vb y) (hx : (digs W32 x).length ≤ 100000) (hle : y ≤ x) :
    Calls Tryd.prog 106 #[va, vb] w (NPost w (x - y)) := by
  have HA := Lib.hid ha
  obtain ⟨A', cb, rfl, hcb, hmb, hrb⟩ := hb
  have hlen := digs_len_mono (B := W32) W32_gt hle
  have HX := Lib.hid (And.intro (And.intro (val_digs W32_gt x) (val_digs W32_gt y)) (And.intro (ok_digs W32_gt x) (ok_digs W32_gt y)))
  unfold maxLen at hmb
  unfold Nat32 at HA
  clear ha
  generalize digs W32 x = xs at *
  generalize digs W32 y = ys at *
  generalize hm : ys.length = m at *
  have HRB := Lib.hid hrb
  clear hrb hm
  go_enter Tryd.func106, Tryd.ntmps106
  go_wp2_with fail
  refine (clone_any xs _ _ HA.out (by omega)).mono ?_
  rintro e w1 ⟨v1, rfl, hown, hb1⟩
  have HB1 := Lib.hid hb1
  rcases hown.form with ⟨rfl, rfl⟩ | ⟨g, c, rfl, ho⟩
  · have HZ : Hid (x = 0 ∧ y = 0) := by
      have h := HX.out.1.1
      rw [val_nil] at h
      exact ⟨h.symm, by omega⟩
    clear hown hb1 hlen hle hx HX
    go_wp2_with fail
    go_loopg [13] 0 (fun gk si wr => si = .int .i64 0 ∧ wr = w1)
    case atStart => exact ⟨rfl, rfl⟩
    case round =>
      obtain ⟨rfl, rfl⟩ := hrel
      go_wp2_with (go_at_call 92; refine (trim_sl [] _ _ (OwnV.nil_ (B := 0) (T := 0) _).sl Ok.nil).mono ?_; rintro e w' ⟨v', rfl, hn', rfl⟩)
      go_ret
      rw [HZ.out.1, HZ.out.2]
      exact ⟨_, rfl, hn', HB1.out⟩
  · generalize hn : xs.length = n at *
    have HN := Lib.hid hn
    have HO1 := Lib.hid ho
    have HWG : Hid (w.heap.size ≤ g) := ho.lt.1
    have HLE := Lib.hid hle
    clear hn hown hb1 ho hle
    go_wp2_with fail
    go_loopg [13, 6] n (fun gk si sb wr => ∃ (j bo : Nat) (out : List Nat), gk + j = n ∧ si = .int .i64 (j : Int) ∧ sb = .int .u64 (bo : Int) ∧ bo ≤ 1 ∧ Hid (Own .u32 56 wr w.heap.size g n c out) ∧ Hid (Ok W32 out) ∧ Hid (∀ q, j ≤ q → out.getD q 0 = xs.getD q 0) ∧ Hid (val W32 (xs.take j) + W32 ^ j * bo = val W32 (out.take j) + val W32 (ys.take j)) ∧ Hid (Below w.heap.size w wr))
    case atStart => exact ⟨0, 0, xs, by omega, rfl, rfl, by omega, HO1.out, HX.out.2.1, fun _ _ => rfl, by unfold Hid; simp, HB1.out⟩
    case round =>
      obtain ⟨j, bo, out, hgj, rfl, rfl, hbo, HO, HOK, HJ, HE, HB⟩ := hrel
      by_cases hj : j < n
      · obtain ⟨p, hp⟩ : ∃ p, xs.getD j 0 = p := ⟨_, rfl⟩
        have HP := Lib.hid hp
        have hpb : p < 4294967296 := by rw [← hp]; exact HX.out.2.1.getD (by decide) _
        have hcell : wr.cell? ⟨g, j, none⟩ = some (.int .u32 (p : Int)) := by rw [← hp, ← HJ.out j (Nat.le_refl _)]; exact HO.out.cell hj
        have hf := HO.out.frozen j
        clear hp
        by_cases hjm : j < m
        · obtain ⟨b, o, q, rfl, hb, hqe, hcq⟩ := (HRB.out.below HB.out).at_ (i := j) hjm
          have hqb : q < 4294967296 := by rw [← hqe]; exact HX.out.2.2.getD (by decide) _
          have HQ := Lib.hid hqe
          clear hqe
          go_wp2
          go_roundg (gk - 1)
          case measure => omega
          case rel =>
            obtain ⟨z, c', e1, e2, hzb, hcb', hz⟩ := sb_cell p bo q hpb hbo hqb
            rw [e1, e2]
            refine ⟨j + 1, c', out.set j z, by omega, by go_num, rfl, hcb', HO.out.stored _ _, HOK.out.set hzb, ?_, sub_list (by rw [HO.out.1]; omega) HP.out HQ.out hz HE.out, HB.out.setCell HWG.out _⟩
            intro q' hq'
            rw [NumB.getD_set_ne _ _ _ _ (by omega)]
            exact HJ.out q' (by omega)
        · have HQ : Hid (ys.getD j 0 = 0) := getD_ge (by rw [HRB.out.1]; omega)
          go_wp2
          go_roundg (gk - 1)
          case measure => omega
          case rel =>
            obtain ⟨z, c', e1, e2, hzb, hcb', hz⟩ := sb_cell1 p bo hpb hbo
            rw [e1, e2]
            refine ⟨j + 1, c', out.set j z, by omega, by go_num, rfl, hcb', HO.out.stored _ _, HOK.out.set hzb, ?_, sub_list (by rw [HO.out.1]; omega) HP.out HQ.out hz HE.out, HB.out.setCell HWG.out _⟩
            intro q' hq'
            rw [NumB.getD_set_ne _ _ _ _ (by omega)]
            exact HJ.out q' (by omega)
      · obtain rfl : j = n := by omega
        clear hgj hj
        go_wp2_with (go_at_call 92; refine (trim_sl out _ _ HO.out.sl HOK.out).mono ?_; rintro e w' ⟨v', rfl, hn', rfl⟩)
        go_ret
        obtain ⟨⟨ex, ey⟩, ox, oy⟩ := HX.out
        rw [sub_end ex ey HN.out (by rw [HRB.out.1]; exact hlen) HO.out.1 HOK.out HLE.out HE.out] at hn'
        exact ⟨_, rfl, hn', HB.out⟩
end Go.Proofs.YtfiedhopgmgnoaaDoor

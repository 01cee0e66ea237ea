/-  -/
import Derived.Test.YtdmhkhnnomdkcaaGreatDoorJo17
set_option linter.unusedVariables false
set_option linter.unusedSimpArgs false
/- nat.Sub: a difference that is not negative. Conditions: at most 100000 limbs. -/
namespace Go.Proofs.YtdmhkhnnomdkcaaGreatDoor
open Go.RowKit NumB
set_option linter.unusedVariables false
set_option linter.unusedSimpArgs false

theorem sb_cell (p l b : Nat) (hp : p < 4294967296) (hl : l ≤ 1) (hb : b < 4294967296) :
    ∃ x c : Nat, IntKind.u64.wrap (IntKind.u64.wrap ((p : Int) - (l : Int)) - (b : Int)) % 4294967296 = (x : Int) ∧
      bits .and .u64 (IntKind.u64.wrap (IntKind.u64.wrap ((p : Int) - (l : Int)) - (b : Int)) / 4294967296) 1 = (c : Int) ∧ x < 4294967296 ∧ c ≤ 1 ∧ p + 4294967296 * c = x + b + l := by
  have e : IntKind.u64.wrap (IntKind.u64.wrap ((p : Int) - (l : Int)) - (b : Int)) = (((p + 18446744073709551616 - l - b) % 18446744073709551616 : Nat) : Int) := by
    rw [IntKind.wrap_u64, IntKind.wrap_u64]; omega
  rw [e]
  generalize hX : (p + 18446744073709551616 - l - b) % 18446744073709551616 = X
  refine ⟨X % 4294967296, X / 4294967296 % 2, (of_cast X).1, ?_, by omega, by omega, by omega⟩
  rw [(of_cast X).2, and_one_u64' _ (by omega)]
theorem sb_cell1 (p l : Nat) (hp : p < 4294967296) (hl : l ≤ 1) :
    ∃ x c : Nat, IntKind.u64.wrap ((p : Int) - (l : Int)) % 4294967296 = (x : Int) ∧
      bits .and .u64 (IntKind.u64.wrap ((p : Int) - (l : Int)) / 4294967296) 1 = (c : Int) ∧ x < 4294967296 ∧ c ≤ 1 ∧ p + 4294967296 * c = x + 0 + l := by
  have e : IntKind.u64.wrap ((p : Int) - (l : Int)) = (((p + 18446744073709551616 - l) % 18446744073709551616 : Nat) : Int) := by
    rw [IntKind.wrap_u64]; omega
  rw [e]
  generalize hX : (p + 18446744073709551616 - l) % 18446744073709551616 = X
  refine ⟨X % 4294967296, X / 4294967296 % 2, (of_cast X).1, ?_, by omega, by omega, by omega⟩
  rw [(of_cast X).2, and_one_u64' _ (by omega)]
theorem sub_list {xs ys out : List Nat} {j bo p q z c : Nat} (hj : j < out.length) (hp : xs.getD j 0 = p) (hq : ys.getD j 0 = q) (hz : p + 4294967296 * c = z + q + bo)
    (he : val W32 (xs.take j) + W32 ^ j * bo = val W32 (out.take j) + val W32 (ys.take j)) :
    val W32 (xs.take (j + 1)) + W32 ^ (j + 1) * c = val W32 ((out.set j z).take (j + 1)) + val W32 (ys.take (j + 1)) := by
  rw [val_take_succ, val_take_succ, val_take_succ, take_set_lt _ _ _ _ (Nat.le_refl _), getD_set_self _ _ _ hj, hp, hq, Nat.pow_succ, Nat.mul_assoc]
  have h1 : W32 ^ j * p + W32 ^ j * (W32 * c) = W32 ^ j * z + W32 ^ j * q + W32 ^ j * bo := by
    rw [← Nat.mul_add, show W32 * c = 4294967296 * c from rfl, hz, Nat.mul_add, Nat.mul_add]
  omega
theorem sub_end {xs ys out : List Nat} {n bo x y : Nat} (hx : val W32 xs = x) (hy : val W32 ys = y) (hl : xs.length = n) (hm : ys.length ≤ n) (ho : out.length = n) (ook : Ok W32 out) (hle : y ≤ x)
    (he : val W32 (xs.take n) + W32 ^ n * bo = val W32 (out.take n) + val W32 (ys.take n)) : val W32 out = x - y := by
  rw [val_take_all W32 out (by omega), val_take_all W32 xs (by omega), val_take_all W32 ys (by omega), hx, hy] at he
  have h1 := val_lt ook
  rw [ho] at h1
  rcases Nat.eq_zero_or_pos bo with h0 | h0
  · rw [h0, Nat.mul_zero, Nat.add_zero] at he
    omega
  · exfalso
    have h4 : W32 ^ n * 1 ≤ W32 ^ n * bo := Nat.mul_le_mul_left _ h0
    omega

set_option maxRecDepth 100000 in
set_option maxHeartbeats 1600000 in
theorem sub_any (x y : Nat) (va vb : Value) (w : World) (ha : Nat32 w va x) (hb : Nat32 w vb y) (hx : (digs W32 x).length ≤ 100000) (hle : y ≤ x) :
    Calls Tryz.prog 87 #[va, vb] w (NPost w (x - y)) := by
  have HA := Lib.hid ha
  obtain ⟨A', cb, rfl, hcb, hmb, hrb⟩ := hb
  have hlen := digs_len_mono (B := W32) W32_gt hle
  have HX := Lib.hid (And.intro (And.intro (val_digs W32_gt x) (val_digs W32_gt y)) (And.intro (ok_digs W32_gt x) (ok_digs W32_gt y)))
  unfold maxLen at hmb
  unfold Nat32 at HA
  clear ha
  generalize digs W32 x = xs at *
  generalize digs W32 y = ys at *
  generalize hm : ys.length = m at *
  have HRB := Lib.hid hrb
  clear hrb hm
  go_enter Tryz.func87, Tryz.ntmps87
  go_wp2_with fail
  refine (clone_any xs _ _ HA.out (by omega)).mono ?_
  rintro e w1 ⟨v1, rfl, hown, hb1⟩
  have HB1 := Lib.hid hb1
  rcases hown.form with ⟨rfl, rfl⟩ | ⟨g, c, rfl, ho⟩
  · have HZ : Hid (x = 0 ∧ y = 0) := by
      have h := HX.out.1.1
      rw [val_nil] at h
      exact ⟨h.symm, by omega⟩
    clear hown hb1 hlen hle hx HX
    go_wp2_with fail
    go_loopg [13] 0 (fun gk si wr => si = .int .i64 0 ∧ wr = w1)
    case atStart => exact ⟨rfl, rfl⟩
    case round =>
      obtain ⟨rfl, rfl⟩ := hrel
      go_wp2_with (go_at_call 12; refine (trim_sl [] _ _ (OwnV.nil_ (B := 0) (T := 0) _).sl Ok.nil).mono ?_; rintro e w' ⟨v', rfl, hn', rfl⟩)
      go_ret
      rw [HZ.out.1, HZ.out.2]
      exact ⟨_, rfl, hn', HB1.out⟩
  · generalize hn : xs.length = n at *
    have HN := Lib.hid hn
    have HO1 := Lib.hid ho
    have HWG : Hid (w.heap.size ≤ g) := ho.lt.1
    have HLE := Lib.hid hle
    clear hn hown hb1 ho hle
    go_wp2_with fail
    go_loopg [13, 6] n (fun gk si sb wr => ∃ (j bo : Nat) (out : List Nat), gk + j = n ∧ si = .int .i64 (j : Int) ∧ sb = .int .u64 (bo : Int) ∧ bo ≤ 1 ∧ Hid (Own .u32 35 wr w.heap.size g n c out) ∧ Hid (Ok W32 out) ∧ Hid (∀ q, j ≤ q → out.getD q 0 = xs.getD q 0) ∧ Hid (val W32 (xs.take j) + W32 ^ j * bo = val W32 (out.take j) + val W32 (ys.take j)) ∧ Hid (Below w.heap.size w wr))
    case atStart => exact ⟨0, 0, xs, by omega, rfl, rfl, by omega, HO1.out, HX.out.2.1, fun _ _ => rfl, by unfold Hid; simp, HB1.out⟩
    case round =>
      obtain ⟨j, bo, out, hgj, rfl, rfl, hbo, HO, HOK, HJ, HE, HB⟩ := hrel
      by_cases hj : j < n
      · obtain ⟨p, hp⟩ : ∃ p, xs.getD j 0 = p := ⟨_, rfl⟩
        have HP := Lib.hid hp
        have hpb : p < 4294967296 := by rw [← hp]; exact HX.out.2.1.getD (by decide) _
        have hcell : wr.cell? ⟨g, j, none⟩ = some (.int .u32 (p : Int)) := by rw [← hp, ← HJ.out j (Nat.le_refl _)]; exact HO.out.cell hj
        have hf := HO.out.frozen j
        clear hp
        by_cases hjm : j < m
        · obtain ⟨b, o, q, rfl, hb, hqe, hcq⟩ := (HRB.out.below HB.out).at_ (i := j) hjm
          have hqb : q < 4294967296 := by rw [← hqe]; exact HX.out.2.2.getD (by decide) _
          have HQ := Lib.hid hqe
          clear hqe
          go_wp2
          go_roundg (gk - 1)
          case measure => omega
          case rel =>
            obtain ⟨z, c', e1, e2, hzb, hcb', hz⟩ := sb_cell p bo q hpb hbo hqb
            rw [e1, e2]
            refine ⟨j + 1, c', out.set j z, by omega, by go_num, rfl, hcb', HO.out.stored _ _, HOK.out.set hzb, ?_, sub_list (by rw [HO.out.1]; omega) HP.out HQ.out hz HE.out, HB.out.setCell HWG.out _⟩
            intro q' hq'
            rw [NumB.getD_set_ne _ _ _ _ (by omega)]
            exact HJ.out q' (by omega)
        · have HQ : Hid (ys.getD j 0 = 0) := getD_ge (by rw [HRB.out.1]; omega)
          go_wp2
          go_roundg (gk - 1)
          case measure => omega
          case rel =>
            obtain ⟨z, c', e1, e2, hzb, hcb', hz⟩ := sb_cell1 p bo hpb hbo
            rw [e1, e2]
            refine ⟨j + 1, c', out.set j z, by omega, by go_num, rfl, hcb', HO.out.stored _ _, HOK.out.set hzb, ?_, sub_list (by rw [HO.out.1]; omega) HP.out HQ.out hz HE.out, HB.out.setCell HWG.out _⟩
            intro q' hq'
            rw [NumB.getD_set_ne _ _ _ _ (by omega)]
            exact HJ.out q' (by omega)
      · obtain rfl : j = n := by omega
        clear hgj hj
        go_wp2_with (go_at_call 12; refine (trim_sl out _ _ HO.out.sl HOK.out).mono ?_; rintro e w' ⟨v', rfl, hn', rfl⟩)
        go_ret
        obtain ⟨⟨ex, ey⟩, ox, oy⟩ := HX.out
        rw [sub_end ex ey HN.out (by rw [HRB.out.1]; exact hlen) HO.out.1 HOK.out HLE.out HE.out] at hn'
        exact ⟨_, rfl, hn', HB.out⟩
end Go.Proofs.YtdmhkhnnomdkcaaGreatDoor
/- nat.Mul: the product. Conditions: at most 50000 limbs. -/
namespace Go.Proofs.YtdmhkhnnomdkcaaGreatDoor
open Go.RowKit NumB
set_option linter.unusedVariables false
set_option linter.unusedSimpArgs false

theorem mul_alg {V Vo Vy P Q x y o c B s : Nat} (hs : s = c + (x * y + o)) (hP : P = Q * B) (h : V + P * c = Vo + Q * x * Vy) (W : Nat) :
    (V + P * (s % W)) + (P * W) * (s / W) = (Vo + P * o) + Q * x * (Vy + B * y) := by
  have h1 := mod_div_step P W s
  have h2 : P * s = P * c + (P * (x * y) + P * o) := by rw [hs, Nat.mul_add, Nat.mul_add]
  have h3 : Q * x * (B * y) = P * (x * y) := by
    rw [hP]; simp only [Nat.mul_comm, Nat.mul_left_comm, Nat.mul_assoc]
  rw [Nat.mul_add (Q * x), h3]
  omega
theorem mul_inner {out o2 ys : List Nat} {i k c x y o s : Nat} (hlen : i + k < o2.length) (ho : out.getD (i + k) 0 = o) (hy : ys.getD k 0 = y) (hs : s = c + (x * y + o))
    (h : val W32 (o2.take (i + k)) + W32 ^ (i + k) * c = val W32 (out.take (i + k)) + W32 ^ i * x * val W32 (ys.take k)) :
    val W32 ((o2.set (i + k) (s % 4294967296)).take (i + (k + 1))) + W32 ^ (i + (k + 1)) * (s / 4294967296) = val W32 (out.take (i + (k + 1))) + W32 ^ i * x * val W32 (ys.take (k + 1)) := by
  rw [← Nat.add_assoc, val_take_succ, val_take_succ, val_take_succ, take_set_lt _ _ _ _ (Nat.le_refl _), getD_set_self _ _ _ hlen, ho, hy, Nat.pow_succ]
  exact mul_alg hs (Nat.pow_add _ _ _) h W32
theorem mul_outer {out o2 xs ys : List Nat} {i m c x Y : Nat} (hlen : i + m < o2.length) (hm : ys.length = m) (hY : val W32 ys = Y) (hx : xs.getD i 0 = x)
    (h : val W32 (o2.take (i + m)) + W32 ^ (i + m) * c = val W32 (out.take (i + m)) + W32 ^ i * x * val W32 (ys.take m)) (ho : val W32 (out.take (i + m)) = val W32 (xs.take i) * Y) :
    val W32 ((o2.set (i + m) c).take (i + 1 + m)) = val W32 (xs.take (i + 1)) * Y := by
  rw [show i + 1 + m = i + m + 1 from by omega, val_take_succ, val_take_succ, take_set_lt _ _ _ _ (Nat.le_refl _), getD_set_self _ _ _ hlen, h, ho, val_take_all W32 ys (by omega), hY, hx, Nat.add_mul]

set_option maxRecDepth 100000 in
set_option maxHeartbeats 3200000 in
theorem mul_any (x y : Nat) (va vb : Value) (w : World) (ha : Nat32 w va x) (hb : Nat32 w vb y) (hx : (digs W32 x).length ≤ 50000) (hy : (digs W32 y).length ≤ 50000) :
    Calls Tryz.prog 68 #[va, vb] w (NPost w (x * y)) := by
  obtain ⟨A, ca, rfl, hca, hma, hra⟩ := ha
  obtain ⟨A', cb, rfl, hcb, hmb, hrb⟩ := hb
  unfold maxLen at hma hmb
  have HX := Lib.hid (And.intro (And.intro (val_digs W32_gt x) (val_digs W32_gt y)) (And.intro (ok_digs W32_gt x) (ok_digs W32_gt y)))
  generalize digs W32 x = xs at *
  generalize digs W32 y = ys at *
  generalize hn : xs.length = n at *
  generalize hm : ys.length = m at *
  have HRA := Lib.hid hra
  have HRB := Lib.hid hrb
  clear hra hrb hn hm
  obtain ⟨i0, hi0, hz0, hz1, hz2⟩ := info_parts info_u32
  have HI := Lib.hid hi0
  have HZ0 := Lib.hid hz0
  have HZ1 := Lib.hid hz1
  have HZ2 := Lib.hid hz2
  clear hi0 hz0 hz1 hz2
  go_enter Tryz.func68, Tryz.ntmps68
  go_wp2_with (at_make; refine wpList_make_full _ rfl _ _ 22 rfl w.heap.size 35 i0 (.int .u32 0) 1 Tryz.underlying22 HI.out HZ0.out HZ1.out .i64 .i64 _ _ (n + m) rfl rfl (by omega) (by omega) (by rw [HZ2.out]; omega) (by unfold maxLen; omega) (Nat.le_refl _) ?_; intro w1 hown1 hg1)
  have HO1 := Lib.hid (Own.made hown1)
  have HB1 := Lib.hid ((Below.refl w.heap.size w).grown hg1 (Nat.le_refl _) (by simp))
  clear hown1 hg1
  go_loopg [19, 6, 7, 8, 9, 10] n (fun gk si s6 s7 s8 s9 s10 wr => ∃ (i : Nat) (out : List Nat), gk + i = n ∧ si = .int .i64 (i : Int) ∧ Hid (Own .u32 35 wr w.heap.size w.heap.size (n + m) (n + m) out) ∧ Hid (Ok W32 out) ∧ Hid (∀ q, i + m ≤ q → out.getD q 0 = 0) ∧ Hid (val W32 (out.take (i + m)) = val W32 (xs.take i) * y) ∧ Hid (Below w.heap.size w wr))
  case atStart => exact ⟨0, List.replicate (n + m) 0, by omega, rfl, HO1.out, ok_replicate (by decide), fun q _ => getD_replicate _ _, by unfold Hid; rw [List.take_replicate, val_replicate]; simp, HB1.out⟩
  case round =>
    obtain ⟨i, out, hgi, rfl, HO, HOK, HZ, HE, HB⟩ := hrel
    obtain ⟨wo, rfl⟩ : ∃ wo : World, wo = wr := ⟨_, rfl⟩
    by_cases hi : i < n
    · obtain ⟨b, o, p, rfl, hb, hpe, hcp⟩ := (HRA.out.below HB.out).at_ (i := i) hi
      have hpb : p < 4294967296 := by rw [← hpe]; exact HX.out.2.1.getD (by decide) _
      have HP := Lib.hid hpe
      clear hpe
      go_wp2_with fail
      clear hcp
      go_loopg [26, 8, 9, 10] m (fun gk2 sk s8 s9 s10 wr => ∃ (k c : Nat) (o2 : List Nat), gk2 + k = m ∧ sk = .int .i64 (k : Int) ∧ s8 = .int .u64 (c : Int) ∧ c < 4294967296 ∧ Hid (Own .u32 35 wr w.heap.size w.heap.size (n + m) (n + m) o2) ∧ Hid (Ok W32 o2) ∧ Hid (∀ q, i + k ≤ q → o2.getD q 0 = out.getD q 0) ∧ Hid (val W32 (o2.take (i + k)) + W32 ^ (i + k) * c = val W32 (out.take (i + k)) + W32 ^ i * p * val W32 (ys.take k)) ∧ Hid (Below w.heap.size w wr))
      case atStart => exact ⟨0, 0, out, by omega, rfl, rfl, by omega, HO.out, HOK.out, fun _ _ => rfl, by unfold Hid; simp, HB.out⟩
      case round =>
        obtain ⟨k, c, o2, hgk, rfl, rfl, hc, HO2, HOK2, HJ2, HE2, HB2⟩ := hrel
        by_cases hk : k < m
        · obtain ⟨b', o', q, rfl, hb', hqe, hcq⟩ := (HRB.out.below HB2.out).at_ (i := k) hk
          have hqb : q < 4294967296 := by rw [← hqe]; exact HX.out.2.2.getD (by decide) _
          have HQ := Lib.hid hqe
          clear hqe
          obtain ⟨r, hr⟩ : ∃ r, out.getD (i + k) 0 = r := ⟨_, rfl⟩
          have HR := Lib.hid hr
          have hrb : r < 4294967296 := by rw [← hr]; exact HOK.out.getD (by decide) _
          have hcr : wr.cell? ⟨w.heap.size, i + k, none⟩ = some (.int .u32 (r : Int)) := by rw [← hr, ← HJ2.out _ (Nat.le_refl _)]; exact HO2.out.cell (by omega)
          have hf := HO2.out.frozen (i + k)
          clear hr
          obtain ⟨pq, hpq⟩ : ∃ pq, pq = p * q := ⟨_, rfl⟩
          have HPQ := Lib.hid hpq
          have hpqb : pq ≤ 18446744065119617025 := by rw [hpq]; exact Nat.mul_le_mul (show p ≤ 4294967295 by omega) (show q ≤ 4294967295 by omega)
          have hpqi : (p : Int) * (q : Int) = (pq : Int) := by rw [hpq, Int.natCast_mul]
          clear hpq
          go_wp2
          go_roundg (gk - 1)
          case measure => omega
          case rel =>
            have el : ((c : Int) + ((pq : Int) + (r : Int))) % 4294967296 = (((c + (pq + r)) % 4294967296 : Nat) : Int) := by omega
            have eh : ((c : Int) + ((pq : Int) + (r : Int))) / 4294967296 = (((c + (pq + r)) / 4294967296 : Nat) : Int) := by omega
            rw [el, eh]
            refine ⟨k + 1, (c + (pq + r)) / 4294967296, o2.set (i + k) ((c + (pq + r)) % 4294967296), by omega, by go_num, rfl, by omega, HO2.out.stored _ _, HOK2.out.set (Nat.mod_lt _ (by decide)), ?_, mul_inner (by rw [HO2.out.1]; omega) HR.out HQ.out (by rw [HPQ.out]) HE2.out, HB2.out.setCell (Nat.le_refl _) _⟩
            intro q' hq'
            rw [NumB.getD_set_ne _ _ _ _ (by omega)]
            exact HJ2.out q' (by omega)
        · obtain rfl : k = m := by omega
          clear hgk hk
          obtain ⟨r, hcr⟩ : ∃ r : Nat, wr.cell? ⟨w.heap.size, i + k, none⟩ = some (.int .u32 (r : Int)) := ⟨_, HO2.out.cell (by omega)⟩
          have hf := HO2.out.frozen (i + k)
          go_wp2
          go_roundg (n - (i + 1))
          case measure => omega
          case rel =>
            refine ⟨i + 1, o2.set (i + k) c, by omega, by go_num, HO2.out.stored _ _, HOK2.out.set hc, ?_, mul_outer (by rw [HO2.out.1]; omega) HRB.out.1 HX.out.1.2 HP.out HE2.out HE.out, HB2.out.setCell (Nat.le_refl _) _⟩
            intro q' hq'
            rw [NumB.getD_set_ne _ _ _ _ (by omega), HJ2.out q' (by omega)]
            exact HZ.out q' (by omega)
    · obtain rfl : i = n := by omega
      clear hgi hi
      go_wp2_with (go_at_call 12; refine (trim_sl out _ _ HO.out.sl HOK.out).mono ?_; rintro e w' ⟨v', rfl, hn', rfl⟩)
      go_ret
      have he := HE.out
      rw [val_take_all W32 out (by rw [HO.out.1]; exact Nat.le_refl _), val_take_all W32 xs (by rw [HRA.out.1]; exact Nat.le_refl _), HX.out.1.1] at he
      rw [he] at hn'
      exact ⟨_, rfl, hn', HB.out⟩
end Go.Proofs.YtdmhkhnnomdkcaaGreatDoor
/- number.sum. Conditions: at most 50000 limbs. -/
namespace Go.Proofs.YtdmhkhnnomdkcaaGreatDoor
open Go.RowKit NumB
set_option linter.unusedVariables false
set_option linter.unusedSimpArgs false

theorem digs_len_mul (x y : Nat) : (digs W32 (x * y)).length ≤ (digs W32 x).length + (digs W32 y).length := by
  refine digs_len_le W32_gt ?_
  rw [Nat.pow_add]
  exact Nat.mul_lt_mul'' (digs_lt W32_gt) (digs_lt W32_gt)
theorem digs_len_add {x y n : Nat} (hx : (digs W32 x).length ≤ n) (hy : (digs W32 y).length ≤ n) : (digs W32 (x + y)).length ≤ n + 1 := by
  refine digs_len_le W32_gt ?_
  have h1 := Nat.lt_of_lt_of_le (digs_lt (n := x) W32_gt) (Nat.pow_le_pow_right (n := W32) (by decide) hx)
  have h2 := Nat.lt_of_lt_of_le (digs_lt (n := y) W32_gt) (Nat.pow_le_pow_right (n := W32) (by decide) hy)
  rw [Nat.pow_succ]
  have h3 : W32 ^ n * 2 ≤ W32 ^ n * W32 := Nat.mul_le_mul_left _ (by decide)
  omega
theorem digs_len_sub {x y n : Nat} (hx : (digs W32 x).length ≤ n) : (digs W32 (x - y)).length ≤ n := Nat.le_trans (digs_len_mono W32_gt (Nat.sub_le _ _)) hx

/-- The sum of two naturals with signs. -/
def sumN (na : Bool) (x : Nat) (nb : Bool) (y : Nat) : Bool × Nat := if na = nb then (na, x + y) else if y ≤ x then (na, x - y) else (nb, y - x)
theorem sumN_len {na nb : Bool} {x y n : Nat} (hx : (digs W32 x).length ≤ n) (hy : (digs W32 y).length ≤ n) : (digs W32 (sumN na x nb y).2).length ≤ n + 1 := by
  unfold sumN
  split
  · exact digs_len_add hx hy
  · split
    · exact Nat.le_trans (digs_len_sub hx) (by omega)
    · exact Nat.le_trans (digs_len_sub hy) (by omega)

def SumPost (w : World) (r : Bool × Nat) (e : Ending) (w' : World) : Prop := ∃ v, e = .returned (.tuple #[.bool r.1, v]) ∧ Nat32 w' v r.2 ∧ Below w.heap.size w w'

theorem nats_two {w : World} {A B : Value} {x y : Nat} (ha : Nat32 w A x) (hb : Nat32 w B y) (t : TypeId) : Nats (w.alloc (.cells #[A, B] t)) w.heap.size 0 [x, y] := by
  refine ⟨by simp, fun i hi => ?_⟩
  have hk := Blk.new w t #[A, B]
  rcases i with _ | _ | i
  · exact ⟨A, hk.cell 0, ha.to (below_one _ _)⟩
  · exact ⟨B, hk.cell 1, hb.to (below_one _ _)⟩
  · simp at hi; omega
theorem nats_two' {w : World} {A B : Value} {x y g : Nat} (hg : w.heap.size = g) (ha : Nat32 w A x) (hb : Nat32 w B y) (t : TypeId) : Nats (w.alloc (.cells #[A, B] t)) g 0 [x, y] := by subst hg; exact nats_two ha hb t

set_option maxRecDepth 100000 in
set_option maxHeartbeats 3200000 in
theorem sum_any (na nb : Bool) (x y : Nat) (va vb : Value) (w : World) (ha : Nat32 w va x) (hb : Nat32 w vb y) (hx : (digs W32 x).length ≤ 50000) (hy : (digs W32 y).length ≤ 50000) :
    Calls Tryz.prog 70 #[.bool na, va, .bool nb, vb] w (SumPost w (sumN na x nb y)) := by
  have HA := Lib.hid ha
  have HB := Lib.hid hb
  obtain ⟨A, n, c, rfl, hn⟩ := ha.form
  obtain ⟨A', m, d, rfl, hm⟩ := hb.form
  have HX := Lib.hid (And.intro hx hy)
  clear ha hb hn hm hx hy
  by_cases hs : na = nb
  · have E : Hid (sumN na x nb y = (na, x + y)) := by unfold Hid sumN; rw [if_pos hs]
    have HS : Hid ((digs W32 [x, y].sum).length ≤ 100000) := Nat.le_trans (by simpa using digs_len_add HX.out.1 HX.out.2) (by omega)
    subst hs
    have hbe : (na == na) = true := by simp
    go_enter Tryz.func70, Tryz.ntmps70
    go_wp2_with fail
    refine (add_any [x, y] _ 0 2 2 _ rfl (by exact nats_two HA.out HB.out _) HS.out (by omega)).mono ?_
    rintro e w1 ⟨v1, rfl, hn1, hb1⟩
    go_wp2
    go_ret2
    rw [E.out]
    exact ⟨_, rfl, by simpa using hn1, (below_one w _).trans (hb1.mono (below_one w _).size)⟩
  · have hbe : (na == nb) = false := beq_eq_false_iff_ne.2 hs
    by_cases hle : y ≤ x
    · have E : Hid (sumN na x nb y = (na, x - y)) := by unfold Hid sumN; rw [if_neg hs, if_pos hle]
      have HLE := Lib.hid hle
      have hc : 0 ≤ cmpI x y := cmpI_nonneg.2 hle
      generalize hcc : cmpI x y = z at *
      have HC := Lib.hid hcc
      have hbd := cmpI_bd x y
      rw [hcc] at hbd
      clear hcc hs hle
      go_enter Tryz.func70, Tryz.ntmps70
      go_wp2_with fail
      refine (compare_any x y _ _ _ HA.out HB.out).mono ?_
      rintro e w1 ⟨rfl, k1, rfl⟩
      rw [HC.out]
      go_wp2_with fail
      refine (sub_any x y _ _ _ (by exact HA.out) (by exact HB.out) (Nat.le_trans HX.out.1 (by omega)) HLE.out).mono ?_
      rintro e w1 ⟨v1, rfl, hn1, hb1⟩
      go_wp2
      go_ret2
      rw [E.out]
      exact ⟨_, rfl, hn1, below_undrewN hb1⟩
    · have E : Hid (sumN na x nb y = (nb, y - x)) := by unfold Hid sumN; rw [if_neg hs, if_neg hle]
      have HLE : Hid (x ≤ y) := by unfold Hid; omega
      have hc : cmpI x y < 0 := cmpI_neg.2 (by omega)
      generalize hcc : cmpI x y = z at *
      have HC := Lib.hid hcc
      have hbd := cmpI_bd x y
      rw [hcc] at hbd
      clear hcc hs hle
      go_enter Tryz.func70, Tryz.ntmps70
      go_wp2_with fail
      refine (compare_any x y _ _ _ HA.out HB.out).mono ?_
      rintro e w1 ⟨rfl, k1, rfl⟩
      rw [HC.out]
      go_wp2_with fail
      refine (sub_any y x _ _ _ (by exact HB.out) (by exact HA.out) (Nat.le_trans HX.out.2 (by omega)) HLE.out).mono ?_
      rintro e w1 ⟨v1, rfl, hn1, hb1⟩
      go_wp2
      go_ret2
      rw [E.out]
      exact ⟨_, rfl, hn1, below_undrewN hb1⟩
end Go.Proofs.YtdmhkhnnomdkcaaGreatDoor

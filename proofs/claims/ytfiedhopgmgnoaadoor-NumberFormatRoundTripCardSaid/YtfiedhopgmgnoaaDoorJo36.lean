/- fetterlockref1.MulNat. Conditions: at most 50000 digits. -/
import Derived.Test.YtfiedhopgmgnoaaDoorJo18
import Derived.Test.YtfiedhopgmgnoaaDoorJo31
set_option linter.unusedVariables false
set_option linter.unusedSimpArgs false
namespace Go.Proofs.YtfiedhopgmgnoaaDoor
open Go.RowKit NumB
set_option linter.unusedVariables false
set_option linter.unusedSimpArgs false

theorem rmul_inner {out o2 ys : List Nat} {i k c x y o s : Nat} (hlen : i + k < o2.length) (ho : out.getD (i + k) 0 = o) (hy : ys.getD k 0 = y) (hs : s = c + (x * y + o))
    (h : val W16 (o2.take (i + k)) + W16 ^ (i + k) * c = val W16 (out.take (i + k)) + W16 ^ i * x * val W16 (ys.take k)) :
    val W16 ((o2.set (i + k) (s % 65536)).take (i + (k + 1))) + W16 ^ (i + (k + 1)) * (s / 65536) = val W16 (out.take (i + (k + 1))) + W16 ^ i * x * val W16 (ys.take (k + 1)) := by
  rw [← Nat.add_assoc, val_take_succ, val_take_succ, val_take_succ, take_set_lt _ _ _ _ (Nat.le_refl _), getD_set_self _ _ _ hlen, ho, hy, Nat.pow_succ]
  exact mul_alg hs (Nat.pow_add _ _ _) h W16
theorem rmul_outer {out o2 xs ys : List Nat} {i m k x Y : Nat} (hm : ys.length = m) (hY : val W16 ys = Y) (hx : xs.getD i 0 = x) (hk : k = m ∨ k = m + 1) (hz : ∀ q, i + m ≤ q → out.getD q 0 = 0) (hj : ∀ q, i + k ≤ q → o2.getD q 0 = out.getD q 0)
    (h : val W16 (o2.take (i + k)) + W16 ^ (i + k) * 0 = val W16 (out.take (i + k)) + W16 ^ i * x * val W16 (ys.take k)) (ho : val W16 (out.take (i + m)) = val W16 (xs.take i) * Y) :
    val W16 (o2.take (i + 1 + m)) = val W16 (xs.take (i + 1)) * Y := by
  rw [Nat.mul_zero, Nat.add_zero, val_take_all W16 ys (j := k) (by omega), hY] at h
  rw [val_take_succ W16 xs, hx, Nat.add_mul, ← ho]
  rcases hk with rfl | rfl
  · rw [show i + 1 + k = i + k + 1 from by omega, val_take_succ, hj _ (Nat.le_refl _), hz _ (Nat.le_refl _), Nat.mul_zero, Nat.add_zero]
    exact h
  · rw [show i + (m + 1) = i + m + 1 from by omega] at h
    rw [show i + 1 + m = i + m + 1 from by omega, h, val_take_succ, hz _ (Nat.le_refl _), Nat.mul_zero, Nat.add_zero]

set_option maxRecDepth 100000 in
set_option maxHeartbeats 6400000 in
theorem rmul_any (x y : Nat) (va vb : Value) (w : World) (ha : Nat16 w va x) (hb : Nat16 w vb y) (hx : (digs W16 x).length ≤ 50000) (hy : (digs W16 y).length ≤ 50000) :
    Calls Tryd.prog 48 #[va, vb] w (RPost w (x * y)) := by
  have HB0 := Lib.hid hb
  obtain ⟨A, ca, rfl, hca, hma, hra⟩ := ha
  obtain ⟨A', cb, rfl, hcb, hmb, hrb⟩ := hb
  unfold maxLen at hma hmb
  unfold Nat16 at HB0
  have HX := Lib.hid (And.intro (And.intro (val_digs W16_gt x) (val_digs W16_gt y)) (And.intro (ok_digs W16_gt x) (ok_digs W16_gt y)))
  generalize digs W16 x = xs at *
  generalize digs W16 y = ys at *
  generalize hn : xs.length = n at *
  generalize hm : ys.length = m at *
  have HRA := Lib.hid hra
  have HM := Lib.hid hm
  clear hra hrb hn hm
  obtain ⟨i0, hi0, hz0, hz1, hz2⟩ := info_parts info_i64
  have HI := Lib.hid hi0
  have HZ0 := Lib.hid hz0
  have HZ1 := Lib.hid hz1
  have HZ2 := Lib.hid hz2
  clear hi0 hz0 hz1 hz2
  go_enter Tryd.func48, Tryd.ntmps48
  go_wp2_with (at_make; refine wpList_make_full _ rfl _ _ 39 rfl w.heap.size 3 i0 (.int .i64 0) 1 Tryd.underlying39 HI.out HZ0.out HZ1.out .i64 .i64 _ _ (n + m + 1) rfl rfl (by omega) (by omega) (by rw [HZ2.out]; omega) (by unfold maxLen; omega) (Nat.le_refl _) ?_; intro w1 hown1 hg1)
  have HO1 := Lib.hid (Own.made hown1)
  have HB1 := Lib.hid ((Below.refl w.heap.size w).grown hg1 (Nat.le_refl _) (by simp))
  clear hown1 hg1
  go_loopg [19, 6, 7, 8, 9] n (fun gk si s6 s7 s8 s9 wr => ∃ (i : Nat) (out : List Nat), gk + i = n ∧ si = .int .i64 (i : Int) ∧ Hid (Own .i64 3 wr w.heap.size w.heap.size (n + m + 1) (n + m + 1) out) ∧ Hid (Ok W16 out) ∧ Hid (∀ q, i + m ≤ q → out.getD q 0 = 0) ∧ Hid (val W16 (out.take (i + m)) = val W16 (xs.take i) * y) ∧ Hid (Below w.heap.size w wr))
  case atStart => exact ⟨0, List.replicate (n + m + 1) 0, by omega, rfl, HO1.out, ok_replicate (by decide), fun q _ => getD_replicate _ _, by unfold Hid; rw [List.take_replicate, val_replicate]; simp, HB1.out⟩
  case round =>
    obtain ⟨i, out, hgi, rfl, HO, HOK, HZ, HE, HB⟩ := hrel
    obtain ⟨wo, rfl⟩ : ∃ wo : World, wo = wr := ⟨_, rfl⟩
    by_cases hi : i < n
    · obtain ⟨b, o, p, rfl, hb, hpe, hcp0⟩ := HRA.out.at_ (i := i) hi
      have hpb : p < 65536 := by rw [← hpe]; exact HX.out.2.1.getD (by decide) _
      have HP := Lib.hid hpe
      have HCP := Lib.hid hcp0
      clear hpe hcp0
      go_wp2_with fail
      go_loopg [7, 8, 9] (m + 2) (fun gk2 s7 s8 s9 wr => ∃ (k c : Nat) (o2 : List Nat), gk2 + k = m + 2 ∧ k ≤ m + 1 ∧ (k = m + 1 → c = 0) ∧ s8 = .int .i64 (k : Int) ∧ s7 = .int .i64 (c : Int) ∧ c < 65536 ∧ Hid (Own .i64 3 wr w.heap.size w.heap.size (n + m + 1) (n + m + 1) o2) ∧ Hid (Ok W16 o2) ∧ Hid (∀ q, i + k ≤ q → o2.getD q 0 = out.getD q 0) ∧ Hid (val W16 (o2.take (i + k)) + W16 ^ (i + k) * c = val W16 (out.take (i + k)) + W16 ^ i * p * val W16 (ys.take k)) ∧ Hid (Below w.heap.size w wr))
      case atStart => exact ⟨0, 0, out, by omega, by omega, fun _ => rfl, rfl, rfl, by omega, HO.out, HOK.out, fun _ _ => rfl, by unfold Hid; simp, HB.out⟩
      case round =>
        obtain ⟨k, c, o2, hgk, hkm, hkc, rfl, rfl, hc, HO2, HOK2, HJ2, HE2, HB2⟩ := hrel
        by_cases hex : m ≤ k ∧ c = 0
        · obtain ⟨hmk, rfl⟩ := hex
          have hnk : ¬ (k < m) := by omega
          clear hkc
          go_wp2
          go_roundg (n - (i + 1))
          case measure => omega
          case rel =>
            refine ⟨i + 1, o2, by omega, by go_num, HO2.out, HOK2.out, ?_, rmul_outer HM.out HX.out.1.2 HP.out (by omega) HZ.out HJ2.out HE2.out HE.out, HB2.out⟩
            intro q' hq'
            rw [HJ2.out q' (by omega)]
            exact HZ.out q' (by omega)
        · have hkm2 : k ≤ m := by
            rcases Nat.lt_or_ge m k with h | h
            · exact absurd ⟨by omega, hkc (by omega)⟩ hex
            · exact h
          have hcase : k < m ∨ (m ≤ k ∧ 0 < c) := by
            rcases Nat.lt_or_ge k m with h | h
            · exact .inl h
            · exact .inr ⟨h, Nat.pos_of_ne_zero fun h0 => hex ⟨h, h0⟩⟩
          obtain ⟨q, hqe⟩ : ∃ q, ys.getD k 0 = q := ⟨_, rfl⟩
          have hqb : q < 65536 := by rw [← hqe]; exact HX.out.2.2.getD (by decide) _
          have HQ0 : Hid (k = m → q = 0) := fun h => by rw [← hqe]; exact getD_ge (by rw [HM.out]; omega)
          have HQ := Lib.hid hqe
          clear hqe
          obtain ⟨r, hr⟩ : ∃ r, out.getD (i + k) 0 = r := ⟨_, rfl⟩
          have HR := Lib.hid hr
          have HR0 : Hid (k = m → r = 0) := fun h => by rw [← hr]; exact HZ.out _ (by omega)
          have hrb : r < 65536 := by rw [← hr]; exact HOK.out.getD (by decide) _
          have hcr : wr.cell? ⟨w.heap.size, i + k, none⟩ = some (.int .i64 (r : Int)) := by rw [← hr, ← HJ2.out _ (Nat.le_refl _)]; exact HO2.out.cell (by omega)
          have hcp : wr.cell? ⟨b, o + i, none⟩ = some (.int .i64 (p : Int)) := (HB2.out.cell (p := ⟨b, o + i, none⟩) hb).trans HCP.out
          clear hr hex hkc
          obtain ⟨pq, hpq⟩ : ∃ pq, pq = p * q := ⟨_, rfl⟩
          have HPQ := Lib.hid hpq
          have hpqb : pq ≤ 4294836225 := by rw [hpq]; exact Nat.mul_le_mul (show p ≤ 65535 by omega) (show q ≤ 65535 by omega)
          have hpqi : (p : Int) * (q : Int) = (pq : Int) := by rw [hpq, Int.natCast_mul]
          clear hpq
          have HSl : Hid (Sl .i64 wr (.slice A' m cb) ys) := HB0.out.to HB2.out
          have hi0 : (0 : Int) ≤ (i : Int) + (k : Int) := by omega
          have hi1 : (i : Int) + (k : Int) < ((n + m + 1 : Nat) : Int) := by omega
          have hi2 : (0 : Int) ≤ (i : Int) := by omega
          have hi3 : (i : Int) < (n : Int) := by omega
          have ht : ((i : Int) + (k : Int)).toNat = i + k := by omega
          have hw1 : IntKind.i64.wrap ((i : Int) + (k : Int)) = (i : Int) + (k : Int) := by rw [IntKind.wrap_i64]; omega
          have hw2 : IntKind.i64.wrap (pq : Int) = (pq : Int) := by rw [IntKind.wrap_i64]; omega
          have hw3 : IntKind.i64.wrap ((r : Int) + (pq : Int)) = (r : Int) + (pq : Int) := by rw [IntKind.wrap_i64]; omega
          have hw4 : IntKind.i64.wrap ((r : Int) + (pq : Int) + (c : Int)) = (r : Int) + (pq : Int) + (c : Int) := by rw [IntKind.wrap_i64]; omega
          rcases hcase with hlt | ⟨hkm3, hc0⟩
          all_goals
            try (have hnk : ¬ (k < m) := by omega)
            go_wp2
            go_quiet ((go_at_call 80; exact quietL (rdigit_eq ys _ k q _ (by exact HSl.out) (by omega) HQ.out)))
            clear hw2 hw3 hw4 hcp
            generalize hwq : wr.drewN nq = wq
            have HO3 : Hid (Own .i64 3 wq w.heap.size w.heap.size (n + m + 1) (n + m + 1) o2) := by rw [← hwq]; exact HO2.out
            have HB3 : Hid (Below w.heap.size w wq) := by rw [← hwq]; exact below_drewN HB2.out _
            have hcr2 : wq.cell? ⟨w.heap.size, i + k, none⟩ = some (.int .i64 (r : Int)) := by rw [← hwq]; exact hcr
            have hf := HO3.out.frozen (i + k)
            clear hwq hcr
            go_wp2
            go_roundg (gk - 1)
            case measure => omega
            case rel =>
              have el : ((r : Int) + (pq : Int) + (c : Int)) % 65536 = (((c + (pq + r)) % 65536 : Nat) : Int) := by omega
              have eh : ((r : Int) + (pq : Int) + (c : Int)) / 65536 = (((c + (pq + r)) / 65536 : Nat) : Int) := by omega
              rw [el, eh]
              refine ⟨k + 1, (c + (pq + r)) / 65536, o2.set (i + k) ((c + (pq + r)) % 65536), by omega, by omega, ?_, by go_num, rfl, by omega, HO3.out.stored _ _, HOK2.out.set (Nat.mod_lt _ (by decide)), ?_, rmul_inner (by rw [HO3.out.1]; omega) HR.out HQ.out (by rw [HPQ.out]) HE2.out, HB3.out.setCell (Nat.le_refl _) _⟩
              · intro hk1
                have hkm4 : k = m := by omega
                have h1 := HR0.out hkm4
                have h2 := HQ0.out hkm4
                have h3 := HPQ.out
                rw [h2, Nat.mul_zero] at h3
                omega
              · intro q' hq'
                rw [NumB.getD_set_ne _ _ _ _ (by omega)]
                exact HJ2.out q' (by omega)
    · obtain rfl : i = n := by omega
      clear hgi hi
      go_wp2_with (go_at_call 79; refine (rtrim_any out _ _ HO.out.sl HOK.out).mono ?_; rintro e w' ⟨v', rfl, hn', rfl⟩)
      go_ret
      have he := HE.out
      have hv : val W16 out = val W16 (out.take (i + m)) := by
        rw [← val_take_all W16 out (j := i + m + 1) (by rw [HO.out.1]; exact Nat.le_refl _), val_take_succ, HZ.out _ (Nat.le_refl _), Nat.mul_zero, Nat.add_zero]
      rw [hv, he, val_take_all W16 xs (by rw [HRA.out.1]; exact Nat.le_refl _), HX.out.1.1] at hn'
      exact ⟨_, rfl, hn', HB.out⟩
end Go.Proofs.YtfiedhopgmgnoaaDoor

/-  -/
import Derived.Deep.RegionHeld3
import Derived.Test.YtkamkaehlofgpaaJo17
set_option linter.unusedVariables false
set_option linter.unusedSimpArgs false
/- fetterlockref1.CmpNat, half. Conditions: at most 100000 digits. -/
namespace Go.Proofs.Ytkamkaehlofgpaa
open Go.RowKit NumB
set_option linter.unusedVariables false
set_option linter.unusedSimpArgs false

theorem nat16_zero (w : World) : Nat16 w (.slice none 0 0) 0 := by
  unfold Nat16
  rw [digs_zero]
  exact (OwnV.nil_ (B := 0) (T := 0) w).sl
theorem Nat16.to {w w' : World} {v : Value} {x : Nat} (h : Nat16 w v x) (hb : Below w.heap.size w w') : Nat16 w' v x := Sl.to h hb

theorem rdigit_eq (xs : List Nat) (v : Value) (i d : Nat) (w : World) (h : Sl .i64 w v xs) (hi : i < 9223372036854775807) (hd : xs.getD i 0 = d) :
    Calls Try.prog 45 #[v, .int .i64 (i : Int)] w fun e w' => e = .returned (.int .i64 (d : Int)) ∧ w = w' := by
  subst hd
  exact rdigit_any xs v i w h hi

set_option maxRecDepth 100000 in
set_option maxHeartbeats 800000 in
theorem rcmp_any (x y : Nat) (va vb : Value) (w : World) (ha : Nat16 w va x) (hb : Nat16 w vb y) (hx : (digs W16 x).length ≤ 1000000) (hy : (digs W16 y).length ≤ 1000000) :
    Calls Try.prog 32 #[va, vb] w fun e w' => e = .returned (.int .i64 (cmpI x y)) ∧ w = w' := by
  have HA := Lib.hid ha
  have HB := Lib.hid hb
  obtain ⟨A, ca, rfl, hca, hma, hra⟩ := ha
  obtain ⟨A', cb, rfl, hcb, hmb, hrb⟩ := hb
  have HX := Lib.hid (And.intro (And.intro (val_digs W16_gt x) (val_digs W16_gt y)) (And.intro (ok_digs W16_gt x) (ok_digs W16_gt y)))
  unfold Nat16 at HA HB
  generalize digs W16 x = xs at *
  generalize digs W16 y = ys at *
  generalize hn : xs.length = n at *
  generalize hm : ys.length = m at *
  have HL := Lib.hid (And.intro hn hm)
  clear hra hrb hn hm hma hmb hca hcb
  obtain ⟨M, hM1, hM2, hM3⟩ : ∃ M : Nat, max (n : Int) (m : Int) = (M : Int) ∧ n ≤ M ∧ m ≤ M ∧ M ≤ 1000000 := ⟨max n m, by omega, by omega, by omega, by omega⟩
  go_enter Try.func32, Try.ntmps32
  go_wp2_with fail
  clear hM1
  go_loopg [5, 6, 7] (M + 1) (fun gk si s6 s7 wr => ∃ j : Nat, gk = j + 1 ∧ j ≤ M ∧ si = .int .i64 ((j : Int) - 1) ∧ Hid (val W16 (xs.drop j) = val W16 (ys.drop j)) ∧ w = wr)
  case atStart => exact ⟨M, rfl, Nat.le_refl _, rfl, by unfold Hid; rw [List.drop_eq_nil_of_le (by rw [HL.out.1]; exact hM2), List.drop_eq_nil_of_le (by rw [HL.out.2]; exact hM3.1)], rfl⟩
  case round =>
    obtain ⟨j, rfl, hj, rfl, HV, rfl⟩ := hrel
    by_cases h0 : 0 < j
    · obtain ⟨i, rfl⟩ : ∃ i, j = i + 1 := ⟨j - 1, by omega⟩
      have hjc : ((i + 1 : Nat) : Int) - 1 = (i : Int) := by omega
      rw [hjc]
      clear hjc
      obtain ⟨p, hp⟩ : ∃ p, xs.getD i 0 = p := ⟨_, rfl⟩
      obtain ⟨q, hq⟩ : ∃ q, ys.getD i 0 = q := ⟨_, rfl⟩
      have HPQ := Lib.hid (And.intro hp hq)
      clear hp hq
      go_wp2_with fail
      refine (rdigit_eq xs _ i p _ HA.out (by omega) HPQ.out.1).mono ?_
      rintro e w1 ⟨rfl, rfl⟩
      go_wp2_with fail
      refine (rdigit_eq ys _ i q _ HB.out (by omega) HPQ.out.2).mono ?_
      rintro e w1 ⟨rfl, rfl⟩
      obtain ⟨⟨ex, ey⟩, ox, oy⟩ := HX.out
      have HX1 := Lib.hid (And.intro ex ey)
      have HX2 := Lib.hid (And.intro ox oy)
      clear ex ey ox oy
      by_cases hlt : p < q
      · go_wp2
        go_ret
        refine ⟨ret_i ?_, rfl⟩
        rw [cmpI_lt]
        rw [← HX1.out.1, ← HX1.out.2]
        exact val_lt_of_digit' (by decide) HX2.out.1 (j := i) HV.out (by rw [HPQ.out.1, HPQ.out.2]; exact hlt)
      · by_cases hgt : q < p
        · go_wp2
          go_ret
          refine ⟨ret_i ?_, rfl⟩
          rw [cmpI_gt]
          rw [← HX1.out.1, ← HX1.out.2]
          exact val_lt_of_digit' (by decide) HX2.out.2 (j := i) HV.out.symm (by rw [HPQ.out.1, HPQ.out.2]; exact hgt)
        · go_wp2
          go_roundg (i + 1)
          case measure => omega
          case rel =>
            refine ⟨i, rfl, by omega, rfl, ?_, rfl⟩
            have h1 := val_drop_step W16 xs i
            have h2 := val_drop_step W16 ys i
            rw [HPQ.out.1, HV.out] at h1
            rw [HPQ.out.2] at h2
            have hpq : p = q := by omega
            rw [hpq] at h1
            exact h1.trans h2.symm
    · obtain rfl : j = 0 := by omega
      go_wp2
      go_ret
      refine ⟨ret_i ?_, rfl⟩
      have := HV.out
      rw [List.drop_zero, List.drop_zero, HX.out.1.1, HX.out.1.2] at this
      exact (cmpI_eq this).symm

/- half -/
theorem half_digit (a b : Nat) : (a / 2 + b % 2 * 32768) = ((a + 65536 * b) / 2) % 65536 ∨ 65536 ≤ a := by
  rcases Nat.lt_or_ge a 65536 with h | h
  · left; omega
  · right; exact h
theorem or_half (a b : Nat) (ha : a < 65536) (hb : b < 2) : bits .or .i64 ((a / 2 : Nat) : Int) ((b * 32768 : Nat) : Int) = ((a / 2 + b * 32768 : Nat) : Int) := by
  have h1 : a / 2 < 32768 := by omega
  have e : a / 2 ||| b * 32768 = a / 2 + b * 32768 := by
    rw [Nat.or_comm, show (32768 : Nat) = 2 ^ 15 from rfl, ← Nat.shiftLeft_eq, ← Nat.shiftLeft_add_eq_or_of_lt (by omega), Nat.shiftLeft_eq]; omega
  have hx : a / 2 ||| b * 32768 < 2 ^ 63 := by rw [e]; omega
  show IntKind.i64.wrap ((BitVec.ofInt 64 ((a / 2 : Nat) : Int) ||| BitVec.ofInt 64 ((b * 32768 : Nat) : Int)).toNat : Int) = _
  have e1 : (BitVec.ofInt 64 ((a / 2 : Nat) : Int)).toNat = a / 2 := by
    rw [BitVec.ofInt_natCast, BitVec.toNat_ofNat]; exact Nat.mod_eq_of_lt (by omega)
  have e2 : (BitVec.ofInt 64 ((b * 32768 : Nat) : Int)).toNat = b * 32768 := by
    rw [BitVec.ofInt_natCast, BitVec.toNat_ofNat]; exact Nat.mod_eq_of_lt (by omega)
  rw [BitVec.toNat_or, e1, e2, e, IntKind.wrap_i64]
  omega
theorem half_list {xs out : List Nat} {j p q : Nat} (ho : Ok W16 xs) (hj : j < out.length) (hp : xs.getD j 0 = p) (hq : xs.getD (j + 1) 0 = q) (D : Nat)
    (hv : val W16 (out.take j) + W16 ^ j * (val W16 (xs.drop j) / 2) = D) :
    val W16 ((out.set j (p / 2 + q % 2 * 32768)).take (j + 1)) + W16 ^ (j + 1) * (val W16 (xs.drop (j + 1)) / 2) = D := by
  have e1 := val_drop_step W16 xs j
  have e2 := val_drop_step W16 xs (j + 1)
  rw [hp] at e1
  rw [hq] at e2
  have hpb : p < 65536 := by rw [← hp]; exact ho.getD (by decide) _
  have hW : W16 = 65536 := rfl
  have hd : p / 2 + q % 2 * 32768 = val W16 (xs.drop j) / 2 % W16 := by
    rw [e1, e2, hW]; omega
  rw [val_take_succ, take_set_lt _ _ _ _ (Nat.le_refl _), getD_set_self _ _ _ hj, hd, Nat.pow_succ]
  exact shr_step _ _ _ _ _ _ p _ (by decide) e1 (by rw [hW]; exact hpb) hv

set_option maxRecDepth 100000 in
set_option maxHeartbeats 1600000 in
theorem half_any (x : Nat) (va : Value) (w : World) (ha : Nat16 w va x) (hx : (digs W16 x).length ≤ 100000) :
    Calls Try.prog 47 #[va] w (RPost w (x / 2)) := by
  have HA := Lib.hid ha
  obtain ⟨A, c, rfl, hc, hm, hr⟩ := ha
  unfold maxLen at hm
  have HX := Lib.hid (And.intro (val_digs W16_gt x) (ok_digs W16_gt x))
  unfold Nat16 at HA
  generalize digs W16 x = xs at *
  generalize hn : xs.length = n at *
  have HL := Lib.hid hn
  have HR := Lib.hid hr
  clear hr hn
  obtain ⟨i0, hi0, hz0, hz1, hz2⟩ := info_parts info_i64
  have HI := Lib.hid hi0
  have HZ0 := Lib.hid hz0
  have HZ1 := Lib.hid hz1
  have HZ2 := Lib.hid hz2
  clear hi0 hz0 hz1 hz2
  go_enter Try.func47, Try.ntmps47
  go_wp2_with (at_make; refine wpList_make_full _ rfl _ _ 64 rfl w.heap.size 3 i0 (.int .i64 0) 1 Try.underlying64 HI.out HZ0.out HZ1.out .i64 .i64 _ _ n rfl rfl rfl rfl (by rw [HZ2.out]; omega) (by unfold maxLen; omega) (Nat.le_refl _) ?_; intro w1 hown1 hg1)
  have HO1 := Lib.hid (Own.made hown1)
  have HB1 := Lib.hid ((Below.refl w.heap.size w).grown hg1 (Nat.le_refl _) (by simp))
  clear hown1 hg1
  go_loopg [10, 4] n (fun gk si s4 wr => ∃ (j : Nat) (out : List Nat), gk + j = n ∧ si = .int .i64 (j : Int) ∧ Hid (Own .i64 3 wr w.heap.size w.heap.size n n out) ∧ Hid (Ok W16 out) ∧ Hid (val W16 (out.take j) + W16 ^ j * (val W16 (xs.drop j) / 2) = x / 2) ∧ Hid (Below w.heap.size w wr))
  case atStart => exact ⟨0, _, by omega, rfl, HO1.out, ok_replicate (by decide), by unfold Hid; rw [List.take_zero, List.drop_zero, HX.out.1]; simp, HB1.out⟩
  case round =>
    obtain ⟨j, out, hgj, rfl, HO, HOK, HV, HB⟩ := hrel
    by_cases hj : j < n
    · obtain ⟨b, o, p, rfl, hb, hpe, hcell⟩ := (HR.out.below HB.out).at_ (i := j) hj
      have hpb : p < 65536 := by rw [← hpe]; exact HX.out.2.getD (by decide) _
      have HP := Lib.hid hpe
      obtain ⟨q, hqe⟩ : ∃ q, xs.getD (j + 1) 0 = q := ⟨_, rfl⟩
      have hqb : q < 65536 := by rw [← hqe]; exact HX.out.2.getD (by decide) _
      have HQ := Lib.hid hqe
      clear hpe hqe
      obtain ⟨y, hy⟩ : ∃ y : Nat, wr.cell? ⟨w.heap.size, j, none⟩ = some (.int .i64 (y : Int)) := ⟨_, HO.out.cell hj⟩
      have hf := HO.out.frozen j
      have hj0 : (0 : Int) ≤ (j : Int) := by omega
      have hj1 : (j : Int) < (n : Int) := by omega
      have hw1 : IntKind.i64.wrap ((j : Int) + 1) = (j : Int) + 1 := by rw [IntKind.wrap_i64]; omega
      have hand := and_one_i64 q (by omega)
      have HSl : Hid (Sl .i64 wr (.slice (some ⟨b, o, none⟩) n c) xs) := HA.out.to HB.out
      have HNE1 : Hid ((⟨w.heap.size, j, none⟩ : Addr) ≠ ⟨b, o + j, none⟩) := by intro e; injection e with e; omega
      have HNE2 : Hid ((⟨b, o + j, none⟩ : Addr) ≠ ⟨w.heap.size, j, none⟩) := by intro e; injection e with e; omega
      go_wp2
      go_region_held3 (fun w' => w'.cell? ⟨b, o + j, none⟩ = some (.int .i64 (p : Int))) (first | exact hcell | exact (World.cell?_setCell_other wr ⟨w.heap.size, j, none⟩ ⟨b, o + j, none⟩ _ HNE1.out).trans hcell | exact (World.cell?_setCell_other wr ⟨w.heap.size, j, none⟩ ⟨b, o + j, none⟩ _ HNE2.out).trans hcell)
        (first | (go_at_call 45; refine (rdigit_eq xs _ (j + 1) q _ (by exact HSl.out) (by omega) HQ.out).mono ?_; rintro e w' ⟨rfl, rfl⟩))
      clear hw1 hand
      go_wp2
      go_roundg (gk - 1)
      case measure => omega
      case rel =>
        have e1 : bits .or .i64 ((p : Int) / 2) ((q : Int) % 2 * 32768) = ((p / 2 + q % 2 * 32768 : Nat) : Int) := by
          have h := or_half p (q % 2) hpb (by omega)
          have e2 : (q : Int) % 2 * 32768 = ((q % 2 * 32768 : Nat) : Int) := by omega
          have e3 : (p : Int) / 2 = ((p / 2 : Nat) : Int) := by omega
          rw [e2, e3]
          exact h
        rw [e1]
        exact ⟨j + 1, _, by omega, by go_num, (HO.out.stored _ _).drew, HOK.out.set (by show _ < 65536; omega), half_list HX.out.2 (by rw [HO.out.1]; omega) HP.out HQ.out _ HV.out, (HB.out.setCell (Nat.le_refl _) _).drew⟩
    · obtain rfl : j = n := by omega
      clear hgj hj
      go_wp2_with (go_at_call 44; refine (rtrim_any out _ _ HO.out.sl HOK.out).mono ?_; rintro e w' ⟨v', rfl, hn', rfl⟩)
      go_ret
      have hv := HV.out
      rw [List.drop_eq_nil_of_le (by rw [HL.out]; exact Nat.le_refl _), val_nil, Nat.zero_div, Nat.mul_zero, Nat.add_zero, val_take_all W16 out (by rw [HO.out.1]; exact Nat.le_refl _)] at hv
      rw [hv] at hn'
      exact ⟨_, rfl, hn', HB.out⟩
end Go.Proofs.Ytkamkaehlofgpaa
/- fetterlockref1.SubNat, ShlNat. Conditions: at most 100000 digits. -/
namespace Go.Proofs.Ytkamkaehlofgpaa
open Go.RowKit NumB
set_option linter.unusedVariables false
set_option linter.unusedSimpArgs false

/-- A contract that leaves the world alone, as a quiet region asks for it. -/
theorem quietL {P : Program} {f : FuncId} {args : Array Value} {w : World} {n : Nat} {v : Value} (h : Calls P f args (w.drewN n) fun e w' => e = .returned v ∧ w.drewN n = w') :
    Calls P f args (w.drewN n) fun e w' => e = .returned v ∧ ∃ m, w' = w.drewN m := h.mono fun _ _ hh => ⟨hh.1, n, hh.2.symm⟩
theorem val_snoc (B : Nat) (l : List Nat) (d : Nat) : val B (l ++ [d]) = val B l + B ^ l.length * d := by
  rw [val_append]; simp
theorem rsub_step {xs ys out : List Nat} {j bo p q z c : Nat} (hl : out.length = j) (hp : xs.getD j 0 = p) (hq : ys.getD j 0 = q) (hz : p + 65536 * c = z + q + bo)
    (he : val W16 (xs.take j) + W16 ^ j * bo = val W16 out + val W16 (ys.take j)) :
    val W16 (xs.take (j + 1)) + W16 ^ (j + 1) * c = val W16 (out ++ [z]) + val W16 (ys.take (j + 1)) := by
  rw [val_take_succ, val_take_succ, val_snoc, hl, hp, hq, Nat.pow_succ, Nat.mul_assoc]
  have h1 : W16 ^ j * p + W16 ^ j * (W16 * c) = W16 ^ j * z + W16 ^ j * q + W16 ^ j * bo := by
    rw [← Nat.mul_add, show W16 * c = 65536 * c from rfl, hz, Nat.mul_add, Nat.mul_add]
  omega
theorem rsub_end {xs ys out : List Nat} {n bo x y : Nat} (hx : val W16 xs = x) (hy : val W16 ys = y) (hl : xs.length = n) (hm : ys.length ≤ n) (ho : out.length = n) (ook : Ok W16 out) (hle : y ≤ x)
    (he : val W16 (xs.take n) + W16 ^ n * bo = val W16 out + val W16 (ys.take n)) : val W16 out = x - y := by
  rw [val_take_all W16 xs (by omega), val_take_all W16 ys (by omega), hx, hy] at he
  have h1 := val_lt ook
  rw [ho] at h1
  rcases Nat.eq_zero_or_pos bo with h0 | h0
  · rw [h0, Nat.mul_zero, Nat.add_zero] at he
    omega
  · exfalso
    have h4 : W16 ^ n * 1 ≤ W16 ^ n * bo := Nat.mul_le_mul_left _ h0
    omega

set_option maxRecDepth 100000 in
set_option maxHeartbeats 1600000 in
theorem rsub_any (x y : Nat) (va vb : Value) (w : World) (ha : Nat16 w va x) (hb : Nat16 w vb y) (hx : (digs W16 x).length ≤ 100000) (hle : y ≤ x) :
    Calls Try.prog 48 #[va, vb] w (RPost w (x - y)) := by
  have HB0 := Lib.hid hb
  obtain ⟨A, ca, rfl, hca, hma, hra⟩ := ha
  obtain ⟨A', cb, rfl, hcb, hmb, hrb⟩ := hb
  have hlen := digs_len_mono (B := W16) W16_gt hle
  have HX := Lib.hid (And.intro (And.intro (val_digs W16_gt x) (val_digs W16_gt y)) (And.intro (ok_digs W16_gt x) (ok_digs W16_gt y)))
  unfold maxLen at hma hmb
  unfold Nat16 at HB0
  generalize digs W16 x = xs at *
  generalize digs W16 y = ys at *
  generalize hn : xs.length = n at *
  generalize hm : ys.length = m at *
  have HL := Lib.hid (And.intro hn hm)
  have HRA := Lib.hid hra
  have HLE := Lib.hid hle
  clear hra hrb hm hn hle
  go_enter Try.func48, Try.ntmps48
  go_wp2
  go_loopg [11, 5, 6, 7, 8] n (fun gk si so sb s7 s8 wr => ∃ (j bo : Nat) (out : List Nat), gk + j = n ∧ si = .int .i64 (j : Int) ∧ sb = .int .i64 (bo : Int) ∧ bo ≤ 1 ∧ Hid (OwnV .i64 3 wr w.heap.size so out) ∧ Hid (out.length = j ∧ Ok W16 out) ∧ Hid (val W16 (xs.take j) + W16 ^ j * bo = val W16 out + val W16 (ys.take j)) ∧ Hid (Below w.heap.size w wr))
  case atStart => exact ⟨0, 0, [], by omega, rfl, rfl, by omega, OwnV.nil_ _, ⟨rfl, Ok.nil⟩, by unfold Hid; simp, Below.refl _ _⟩
  case round =>
    obtain ⟨j, bo, out, hgj, rfl, rfl, hbo, HS, HV, HE, HB⟩ := hrel
    by_cases hj : j < n
    · obtain ⟨b, o, p, rfl, hb, hpe, hcell⟩ := (HRA.out.below HB.out).at_ (i := j) hj
      have hpb : p < 65536 := by rw [← hpe]; exact HX.out.2.1.getD (by decide) _
      have HP := Lib.hid hpe
      obtain ⟨q, hqe⟩ : ∃ q, ys.getD j 0 = q := ⟨_, rfl⟩
      have hqb : q < 65536 := by rw [← hqe]; exact HX.out.2.2.getD (by decide) _
      have HQ := Lib.hid hqe
      clear hpe hqe
      have hj0 : (0 : Int) ≤ (j : Int) := by omega
      have hj1 : (j : Int) < (n : Int) := by omega
      have hw1 : IntKind.i64.wrap ((p : Int) - (q : Int)) = (p : Int) - (q : Int) := by rw [IntKind.wrap_i64]; omega
      have hw2 : IntKind.i64.wrap ((p : Int) - (q : Int) - (bo : Int)) = (p : Int) - (q : Int) - (bo : Int) := by rw [IntKind.wrap_i64]; omega
      have HSl : Hid (Sl .i64 wr (.slice A' m cb) ys) := HB0.out.to HB.out
      have hlen1 : out.length + [p].length ≤ 1000000 := by have := HV.out.1; simp; omega
      have HLEN := Lib.hid hlen1
      clear hlen1
      go_wp2
      go_quiet ((go_at_call 45; exact quietL (rdigit_eq ys _ j q _ (by exact HSl.out) (by omega) HQ.out)))
      clear hw1 hw2
      generalize hwq : wr.drewN nq = wq
      have HS1 : Hid (OwnV .i64 3 wq w.heap.size u5 out) := by rw [← hwq]; exact HS.out
      have HBq : Hid (Below w.heap.size w wq) := by rw [← hwq]; exact below_drewN HB.out _
      clear hwq hcell
      by_cases hneg : p < q + bo
      · obtain ⟨z, hz, hzb, HZ⟩ : ∃ z : Nat, (p : Int) - (q : Int) - (bo : Int) + 65536 = (z : Int) ∧ z < 65536 ∧ Hid (p + 65536 * 1 = z + q + bo) := ⟨p + 65536 - q - bo, by omega, by omega, by unfold Hid; omega⟩
        have hng : (p : Int) - (q : Int) - (bo : Int) < 0 := by omega
        go_wp2_with (at_builtin; refine wpList_push wq rfl _ _ 64 rfl .i64 3 8 Try.underlying64 info_i64 (by decide) w.heap.size _ out [z] (by rfl) (by rfl) HS1.out HLEN.out HBq.out.size _ rfl ?_; intro v1 w1 hown1 hb1)
        go_roundg (gk - 1)
        case measure => omega
        case rel =>
          obtain ⟨e1, e2⟩ := HV.out
          exact ⟨j + 1, 1, out ++ [z], by omega, by go_num, rfl, by omega, hown1, ⟨by simp; omega, e2.append (Ok.cons hzb Ok.nil)⟩, rsub_step e1 HP.out HQ.out HZ.out HE.out, HBq.out.trans hb1⟩
      · obtain ⟨z, hz, hzb, HZ⟩ : ∃ z : Nat, (p : Int) - (q : Int) - (bo : Int) = (z : Int) ∧ z < 65536 ∧ Hid (p + 65536 * 0 = z + q + bo) := ⟨p - q - bo, by omega, by omega, by unfold Hid; omega⟩
        rw [hz]
        clear hz
        go_wp2_with (at_builtin; refine wpList_push wq rfl _ _ 64 rfl .i64 3 8 Try.underlying64 info_i64 (by decide) w.heap.size _ out [z] (by rfl) (by rfl) HS1.out HLEN.out HBq.out.size _ rfl ?_; intro v1 w1 hown1 hb1)
        go_roundg (gk - 1)
        case measure => omega
        case rel =>
          obtain ⟨e1, e2⟩ := HV.out
          exact ⟨j + 1, 0, out ++ [z], by omega, by go_num, rfl, by omega, hown1, ⟨by simp; omega, e2.append (Ok.cons hzb Ok.nil)⟩, rsub_step e1 HP.out HQ.out HZ.out HE.out, HBq.out.trans hb1⟩
    · obtain rfl : j = n := by omega
      clear hgj hj
      go_wp2_with (go_at_call 44; refine (rtrim_any out _ _ HS.out.sl HV.out.2).mono ?_; rintro e w' ⟨v', rfl, hn', rfl⟩)
      go_ret
      rw [rsub_end HX.out.1.1 HX.out.1.2 HL.out.1 (by rw [HL.out.2]; exact hlen) HV.out.1 HV.out.2 HLE.out HE.out] at hn'
      exact ⟨_, rfl, hn', HB.out⟩
end Go.Proofs.Ytkamkaehlofgpaa
/- fetterlockref1.ShlNat. Conditions: at most 100000 digits and bits. -/
namespace Go.Proofs.Ytkamkaehlofgpaa
open Go.RowKit NumB
set_option linter.unusedVariables false
set_option linter.unusedSimpArgs false

theorem or_low_i64 (p s c : Nat) (hp : p < 65536) (hs : s < 16) (hc : c < 2 ^ s) : bits .or .i64 ((p * 2 ^ s : Nat) : Int) (c : Int) = ((p * 2 ^ s + c : Nat) : Int) ∧ p * 2 ^ s + c < 4294967296 := by
  have h1 : (2 : Nat) ^ s ≤ 2 ^ 15 := Nat.pow_le_pow_right (by omega) (by omega)
  have h2 : p * 2 ^ s ≤ 65535 * 2 ^ 15 := Nat.mul_le_mul (by omega) h1
  have e : p * 2 ^ s ||| c = p * 2 ^ s + c := by
    rw [← Nat.shiftLeft_eq, ← Nat.shiftLeft_add_eq_or_of_lt hc]
  refine ⟨?_, by omega⟩
  show IntKind.i64.wrap ((BitVec.ofInt 64 ((p * 2 ^ s : Nat) : Int) ||| BitVec.ofInt 64 (c : Int)).toNat : Int) = _
  have e1 : (BitVec.ofInt 64 ((p * 2 ^ s : Nat) : Int)).toNat = p * 2 ^ s := by
    rw [BitVec.ofInt_natCast, BitVec.toNat_ofNat]; exact Nat.mod_eq_of_lt (by omega)
  have e2 : (BitVec.ofInt 64 (c : Int)).toNat = c := by
    rw [BitVec.ofInt_natCast, BitVec.toNat_ofNat]; exact Nat.mod_eq_of_lt (by omega)
  rw [BitVec.toNat_or, e1, e2, e, IntKind.wrap_i64]
  omega
theorem rshl_facts (p s c : Nat) (hp : p < 65536) (hs : s < 16) (hc : c < 2 ^ s) : ∃ y t lo hi : Nat, IntKind.i64.wrap ((p : Int) * 2 ^ s) = (y : Int) ∧ bits .or .i64 (y : Int) (c : Int) = (t : Int) ∧ (t : Int) % 65536 = (lo : Int) ∧ (t : Int) / 65536 = (hi : Int) ∧ t < 4294967296 ∧ lo < 65536 ∧ hi < 2 ^ s ∧ p * 2 ^ s + c = lo + 65536 * hi := by
  obtain ⟨h1, h2⟩ := or_low_i64 p s c hp hs hc
  refine ⟨p * 2 ^ s, p * 2 ^ s + c, (p * 2 ^ s + c) % 65536, (p * 2 ^ s + c) / 65536, ?_, h1, by omega, by omega, h2, by omega, ?_, by omega⟩
  · rw [← pow32, ← Int.natCast_mul]
    generalize p * 2 ^ s = y at *
    rw [IntKind.wrap_i64]
    omega
  · rw [Nat.div_lt_iff_lt_mul (by omega)]
    have h3 : (p + 1) * 2 ^ s ≤ 65536 * 2 ^ s := Nat.mul_le_mul_right _ (by omega)
    rw [Nat.add_mul, Nat.one_mul, Nat.mul_comm 65536] at h3
    omega
theorem rshl_step {xs out : List Nat} {j k s c p lo hi : Nat} (hl : out.length = k + j) (hx : xs.getD j 0 = p) (he : p * 2 ^ s + c = lo + 65536 * hi)
    (hv : val W16 out + W16 ^ (k + j) * c = 2 ^ s * W16 ^ k * val W16 (xs.take j)) :
    val W16 (out ++ [lo]) + W16 ^ (k + (j + 1)) * hi = 2 ^ s * W16 ^ k * val W16 (xs.take (j + 1)) := by
  rw [val_snoc, hl, val_take_succ, hx, ← Nat.add_assoc, Nat.pow_succ, Nat.mul_assoc, Nat.add_assoc, ← Nat.mul_add, show lo + W16 * hi = lo + 65536 * hi from rfl, ← he, Nat.mul_add, Nat.mul_add (2 ^ s * W16 ^ k), ← hv]
  have : W16 ^ (k + j) * (p * 2 ^ s) = 2 ^ s * W16 ^ k * (W16 ^ j * p) := by
    rw [Nat.pow_add]; simp only [Nat.mul_comm, Nat.mul_left_comm, Nat.mul_assoc]
  omega

set_option maxRecDepth 100000 in
set_option maxHeartbeats 1600000 in
theorem rshl_any (x n : Nat) (va : Value) (w : World) (ha : Nat16 w va x) (hl : (digs W16 x).length ≤ 100000) (hn : n ≤ 1000000) :
    Calls Try.prog 49 #[va, .int .i64 (n : Int)] w (RPost w (x * 2 ^ n)) := by
  obtain ⟨A, c, rfl, hc, hm, hr⟩ := ha
  unfold maxLen at hm
  obtain ⟨k, s, hk, hs, hs16, HN⟩ : ∃ k s : Nat, (n : Int) / 16 = (k : Int) ∧ (n : Int) % 16 = (s : Int) ∧ s < 16 ∧ Hid (n = 16 * k + s) := ⟨n / 16, n % 16, by omega, by omega, by omega, by unfold Hid; omega⟩
  have hkb : k ≤ 100000 := by have := HN.out; omega
  have HX := Lib.hid (And.intro (val_digs W16_gt x) (ok_digs W16_gt x))
  generalize digs W16 x = xs at *
  generalize hxl : xs.length = l at *
  have HL := Lib.hid hxl
  have HR := Lib.hid hr
  clear hxl hr
  by_cases h0 : l = 0
  · subst h0
    have hb0 : (((0 : Nat) : Int) == 0) = true := rfl
    have HX0 : Hid (x = 0) := by
      have h1 := HX.out.1
      rw [List.eq_nil_of_length_eq_zero HL.out] at h1
      exact h1.symm
    clear hk hs
    go_enter Try.func49, Try.ntmps49
    go_wp2
    go_ret
    refine ⟨_, rfl, ?_, Below.refl _ _⟩
    rw [HX0.out, Nat.zero_mul]
    exact nat16_zero _
  have hb0 : ((l : Int) == 0) = false := beq_eq_false_iff_ne.2 (by omega)
  obtain ⟨i0, hi0, hz0, hz1, hz2⟩ := info_parts info_i64
  have HI := Lib.hid hi0
  have HZ0 := Lib.hid hz0
  have HZ1 := Lib.hid hz1
  have HZ2 := Lib.hid hz2
  clear hi0 hz0 hz1 hz2
  go_enter Try.func49, Try.ntmps49
  go_wp2_with (at_make; refine wpList_make_full _ rfl _ _ 64 rfl w.heap.size 3 i0 (.int .i64 0) 1 Try.underlying64 HI.out HZ0.out HZ1.out .i64 .i64 _ _ k rfl rfl (by omega) (by omega) (by rw [HZ2.out]; omega) (by unfold maxLen; omega) (Nat.le_refl _) ?_; intro w1 hown1 hg1)
  have HO1 : Hid (OwnV .i64 3 w1 w.heap.size (.slice (some ⟨w.heap.size, 0, none⟩) k k) (List.replicate k 0)) := by
    have h := (Own.made hown1).2
    unfold OwnV
    rw [List.length_replicate]
    exact h
  have HB1 := Lib.hid ((Below.refl w.heap.size w).grown hg1 (Nat.le_refl _) (by simp))
  clear hown1 hg1
  go_loopg [18, 5, 6, 8, 9] l (fun gk si so sc s8 s9 wr => ∃ (j ca : Nat) (out : List Nat), gk + j = l ∧ si = .int .i64 (j : Int) ∧ sc = .int .i64 (ca : Int) ∧ ca < 2 ^ s ∧ Hid (OwnV .i64 3 wr w.heap.size so out) ∧ Hid (out.length = k + j ∧ Ok W16 out) ∧ Hid (val W16 out + W16 ^ (k + j) * ca = 2 ^ s * W16 ^ k * val W16 (xs.take j)) ∧ Hid (Below w.heap.size w wr))
  case atStart => exact ⟨0, 0, List.replicate k 0, by omega, rfl, rfl, Nat.pow_pos (by omega), HO1.out, ⟨by simp, ok_replicate (by decide)⟩, by unfold Hid; rw [val_replicate]; simp, HB1.out⟩
  case round =>
    obtain ⟨j, ca, out, hgj, rfl, rfl, hca, HS, HV, HE, HB⟩ := hrel
    by_cases hj : j < l
    · obtain ⟨b, o, p, rfl, hb, hpe, hcell⟩ := (HR.out.below HB.out).at_ (i := j) hj
      have hpb : p < 65536 := by rw [← hpe]; exact HX.out.2.getD (by decide) _
      have HP := Lib.hid hpe
      clear hpe
      obtain ⟨y, t, lo, hi, f1, f2, f3, f4, htb, hlo, hhi, fe⟩ := rshl_facts p s ca hpb hs16 hca
      have HFE := Lib.hid fe
      have hlen1 : out.length + [lo].length ≤ 1000000 := by have := HV.out.1; simp; omega
      have HLEN := Lib.hid hlen1
      clear hlen1 fe
      go_wp2_with (at_builtin; refine wpList_push wr rfl _ _ 64 rfl .i64 3 8 Try.underlying64 info_i64 (by decide) w.heap.size _ out [lo] (by rfl) (by rfl) HS.out HLEN.out HB.out.size _ rfl ?_; intro v1 w1 hown1 hb1)
      go_roundg (gk - 1)
      case measure => omega
      case rel =>
        obtain ⟨e1, e2⟩ := HV.out
        exact ⟨j + 1, hi, out ++ [lo], by omega, by go_num, rfl, hhi, hown1, ⟨by simp; omega, e2.append (Ok.cons hlo Ok.nil)⟩, rshl_step e1 HP.out HFE.out HE.out, HB.out.trans hb1⟩
    · obtain rfl : j = l := by omega
      have hlen1 : out.length + [ca].length ≤ 1000000 := by have := HV.out.1; simp; omega
      have HLEN := Lib.hid hlen1
      clear hgj hj hlen1
      have HCA : Hid (ca < 65536) := by
        have h1 : (2 : Nat) ^ s ≤ 2 ^ 15 := Nat.pow_le_pow_right (by omega) (by omega)
        unfold Hid; omega
      go_wp2_with (first
        | (at_builtin; refine wpList_push wr rfl _ _ 64 rfl .i64 3 8 Try.underlying64 info_i64 (by decide) w.heap.size _ out [ca] (by rfl) (by rfl) HS.out HLEN.out HB.out.size _ rfl ?_; intro v1 w1 hown1 hb1)
        | (go_at_call 44; refine (rtrim_any (out ++ [ca]) _ _ hown1.sl (HV.out.2.append (Ok.cons HCA.out Ok.nil))).mono ?_; rintro e w' ⟨v', rfl, hn', rfl⟩))
      go_ret
      have he := HE.out
      rw [val_take_all W16 xs (by rw [HL.out]; exact Nat.le_refl _), HX.out.1] at he
      have hv : val W16 (out ++ [ca]) = x * 2 ^ n := by
        rw [val_snoc, HV.out.1, he, HN.out, Nat.pow_add, Nat.pow_mul, show (2 : Nat) ^ 16 = W16 from rfl, Nat.mul_comm x, Nat.mul_comm (W16 ^ k)]
      rw [hv] at hn'
      exact ⟨_, rfl, hn', HB.out.trans hb1⟩
end Go.Proofs.Ytkamkaehlofgpaa

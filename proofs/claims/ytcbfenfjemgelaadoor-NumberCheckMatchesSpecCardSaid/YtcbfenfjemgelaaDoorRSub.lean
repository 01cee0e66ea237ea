/- fetterlockref1.SubNat, ShlNat. Conditions: at most 100000 digits. -/
import Derived.Test.YtcbfenfjemgelaaDoorRCmp
namespace Go.Proofs.YtcbfenfjemgelaaDoor
open Go.RowKit NumB
set_option linter.unusedVariables false

/-- A contract that leaves the world alone, as a quiet region asks for it. -/
theorem quietL {P : Program} {f : FuncId} {args : Array Value} {w : World} {n : Nat} {v : Value} (h : Calls P f args (w.drewN n) fun e w' => e = .returned v ∧ w.drewN n = w') :
    Calls P f args (w.drewN n) fun e w' => e = .returned v ∧ ∃ m, w' = w.drewN m := h.mono fun _ _ hh => ⟨hh.1, n, hh.2.symm⟩
theorem val_snoc (B : Nat) (l : List Nat) (d : Nat) : val B (l ++ [d]) = val B l + B ^ l.length * d := by
  rw [val_append]; simp
theorem rsub_step {xs ys out : List Nat} {j bo p q z c : Nat} (hl : out.length = j) (hp : xs.getD j 0 = p) (hq : ys.getD j 0 = q) (hz : p + 65536 * c = z + q + bo)
    (he : val W16 (xs.take j) + W16 ^ j * bo = val W16 out + val W16 (ys.take j)) :
    val W16 (xs.take (j + 1)) + W16 ^ (j + 1) * c = val W16 (out ++ [z]) + val W16 (ys.take (j + 1)) := by
  rw [val_take_succ, val_take_succ, val_snoc, hl, hp, hq, Nat.pow_succ, Nat.mul_assoc]
  have h1 : W16 ^ j * p + W16 ^ j * (W16 * c) = W16 ^ j * z + W16 ^ j * q + W16 ^ j * bo := by
    rw [← Nat.mul_add, show W16 * c = 65536 * c from rfl, hz, Nat.mul_add, Nat.mul_add]
  omega
theorem rsub_end {xs ys out : List Nat} {n bo x y : Nat} (hx : val W16 xs = x) (hy : val W16 ys = y) (hl : xs.length = n) (hm : ys.length ≤ n) (ho : out.length = n) (ook : Ok W16 out) (hle : y ≤ x)
    (he : val W16 (xs.take n) + W16 ^ n * bo = val W16 out + val W16 (ys.take n)) : val W16 out = x - y := by
  rw [val_take_all W16 xs (by omega), val_take_all W16 ys (by omega), hx, hy] at he
  have h1 := val_lt ook
  rw [ho] at h1
  rcases Nat.eq_zero_or_pos bo with h0 | h0
  · rw [h0, Nat.mul_zero, Nat.add_zero] at he
    omega
  · exfalso
    have h4 : W16 ^ n * 1 ≤ W16 ^ n * bo := Nat.mul_le_mul_left _ h0
    omega

set_option maxRecDepth 100000 in
set_option maxHeartbeats 1600000 in
theorem rsub_any (x y : Nat) (va vb : Value) (w : World) (ha : Nat16 w va x) (hb : Nat16 w vb y) (hx : (digs W16 x).length ≤ 100000) (hle : y ≤ x) :
    Calls Tryd.prog 22 #[va, vb] w (RPost w (x - y)) := by
  have HB0 := Lib.hid hb
  obtain ⟨A, ca, rfl, hca, hma, hra⟩ := ha
  obtain ⟨A', cb, rfl, hcb, hmb, hrb⟩ := hb
  have hlen := digs_len_mono (B := W16) W16_gt hle
  have HX := Lib.hid (And.intro (And.intro (val_digs W16_gt x) (val_digs W16_gt y)) (And.intro (ok_digs W16_gt x) (ok_digs W16_gt y)))
  unfold maxLen at hma hmb
  unfold Nat16 at HB0
  generalize digs W16 x = xs at *
  generalize digs W16 y = ys at *
  generalize hn : xs.length = n at *
  generalize hm : ys.length = m at *
  have HL := Lib.hid (And.intro hn hm)
  have HRA := Lib.hid hra
  have HLE := Lib.hid hle
  clear hra hrb hm hn hle
  go_enter Tryd.func22, Tryd.ntmps22
  go_wp2
  go_loopg [11, 5, 6, 7, 8] n (fun gk si so sb s7 s8 wr => ∃ (j bo : Nat) (out : List Nat), gk + j = n ∧ si = .int .i64 (j : Int) ∧ sb = .int .i64 (bo : Int) ∧ bo ≤ 1 ∧ Hid (OwnV .i64 3 wr w.heap.size so out) ∧ Hid (out.length = j ∧ Ok W16 out) ∧ Hid (val W16 (xs.take j) + W16 ^ j * bo = val W16 out + val W16 (ys.take j)) ∧ Hid (Below w.heap.size w wr))
  case atStart => exact ⟨0, 0, [], by omega, rfl, rfl, by omega, OwnV.nil_ _, ⟨rfl, Ok.nil⟩, by unfold Hid; simp, Below.refl _ _⟩
  case round =>
    obtain ⟨j, bo, out, hgj, rfl, rfl, hbo, HS, HV, HE, HB⟩ := hrel
    by_cases hj : j < n
    · obtain ⟨b, o, p, rfl, hb, hpe, hcell⟩ := (HRA.out.below HB.out).at_ (i := j) hj
      have hpb : p < 65536 := by rw [← hpe]; exact HX.out.2.1.getD (by decide) _
      have HP := Lib.hid hpe
      obtain ⟨q, hqe⟩ : ∃ q, ys.getD j 0 = q := ⟨_, rfl⟩
      have hqb : q < 65536 := by rw [← hqe]; exact HX.out.2.2.getD (by decide) _
      have HQ := Lib.hid hqe
      clear hpe hqe
      have hj0 : (0 : Int) ≤ (j : Int) := by omega
      have hj1 : (j : Int) < (n : Int) := by omega
      have hw1 : IntKind.i64.wrap ((p : Int) - (q : Int)) = (p : Int) - (q : Int) := by rw [IntKind.wrap_i64]; omega
      have hw2 : IntKind.i64.wrap ((p : Int) - (q : Int) - (bo : Int)) = (p : Int) - (q : Int) - (bo : Int) := by rw [IntKind.wrap_i64]; omega
      have HSl : Hid (Sl .i64 wr (.slice A' m cb) ys) := HB0.out.to HB.out
      have hlen1 : out.length + [p].length ≤ 1000000 := by have := HV.out.1; simp; omega
      have HLEN := Lib.hid hlen1
      clear hlen1
      go_wp2
      go_quiet ((go_at_call 19; exact quietL (rdigit_eq ys _ j q _ (by exact HSl.out) (by omega) HQ.out)))
      clear hw1 hw2
      generalize hwq : wr.drewN nq = wq
      have HS1 : Hid (OwnV .i64 3 wq w.heap.size u5 out) := by rw [← hwq]; exact HS.out
      have HBq : Hid (Below w.heap.size w wq) := by rw [← hwq]; exact below_drewN HB.out _
      clear hwq hcell
      by_cases hneg : p < q + bo
      · obtain ⟨z, hz, hzb, HZ⟩ : ∃ z : Nat, (p : Int) - (q : Int) - (bo : Int) + 65536 = (z : Int) ∧ z < 65536 ∧ Hid (p + 65536 * 1 = z + q + bo) := ⟨p + 65536 - q - bo, by omega, by omega, by unfold Hid; omega⟩
        have hng : (p : Int) - (q : Int) - (bo : Int) < 0 := by omega
        go_wp2_with (at_builtin; refine wpList_push wq rfl _ _ 33 rfl .i64 3 8 Tryd.underlying33 info_i64 (by decide) w.heap.size _ out [z] (by rfl) (by rfl) HS1.out HLEN.out HBq.out.size _ rfl ?_; intro v1 w1 hown1 hb1)
        go_roundg (gk - 1)
        case measure => omega
        case rel =>
          obtain ⟨e1, e2⟩ := HV.out
          exact ⟨j + 1, 1, out ++ [z], by omega, by go_num, rfl, by omega, hown1, ⟨by simp; omega, e2.append (Ok.cons hzb Ok.nil)⟩, rsub_step e1 HP.out HQ.out HZ.out HE.out, HBq.out.trans hb1⟩
      · obtain ⟨z, hz, hzb, HZ⟩ : ∃ z : Nat, (p : Int) - (q : Int) - (bo : Int) = (z : Int) ∧ z < 65536 ∧ Hid (p + 65536 * 0 = z + q + bo) := ⟨p - q - bo, by omega, by omega, by unfold Hid; omega⟩
        rw [hz]
        clear hz
        go_wp2_with (at_builtin; refine wpList_push wq rfl _ _ 33 rfl .i64 3 8 Tryd.underlying33 info_i64 (by decide) w.heap.size _ out [z] (by rfl) (by rfl) HS1.out HLEN.out HBq.out.size _ rfl ?_; intro v1 w1 hown1 hb1)
        go_roundg (gk - 1)
        case measure => omega
        case rel =>
          obtain ⟨e1, e2⟩ := HV.out
          exact ⟨j + 1, 0, out ++ [z], by omega, by go_num, rfl, by omega, hown1, ⟨by simp; omega, e2.append (Ok.cons hzb Ok.nil)⟩, rsub_step e1 HP.out HQ.out HZ.out HE.out, HBq.out.trans hb1⟩
    · obtain rfl : j = n := by omega
      clear hgj hj
      go_wp2_with (go_at_call 18; refine (rtrim_any out _ _ HS.out.sl HV.out.2).mono ?_; rintro e w' ⟨v', rfl, hn', rfl⟩)
      go_ret
      rw [rsub_end HX.out.1.1 HX.out.1.2 HL.out.1 (by rw [HL.out.2]; exact hlen) HV.out.1 HV.out.2 HLE.out HE.out] at hn'
      exact ⟨_, rfl, hn', HB.out⟩
end Go.Proofs.YtcbfenfjemgelaaDoor

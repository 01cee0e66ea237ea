/-  -/
import Derived.Test.YtdmhkhnnomdkcaaGreatDoorJo2
import Derived.Test.YtdmhkhnnomdkcaaGreatDoorJo12
import Derived.Test.YtdmhkhnnomdkcaaGreatDoorJo13
set_option linter.unusedVariables false
set_option linter.unusedSimpArgs false
/- fetterlockref1.SubNat, ShlNat. Conditions: at most 100000 digits. -/
namespace Go.Proofs.YtdmhkhnnomdkcaaGreatDoor
open Go.RowKit NumB
set_option linter.unusedVariables false
set_option linter.unusedSimpArgs false

/-- A contract that leaves the world alone, as a quiet region asks for it. -/
theorem quietL {P : Program} {f : FuncId} {args : Array Value} {w : World} {n : Nat} {v : Value} (h : Calls P f args (w.drewN n) fun e w' => e = .returned v ∧ w.drewN n = w') :
    Calls P f args (w.drewN n) fun e w' => e = .returned v ∧ ∃ m, w' = w.drewN m := h.mono fun _ _ hh => ⟨hh.1, n, hh.2.symm⟩
theorem val_snoc (B : Nat) (l : List Nat) (d : Nat) : val B (l ++ [d]) = val B l + B ^ l.length * d := by
  rw [val_append]; simp
theorem rsub_step {xs ys out : List Nat} {j bo p q z c : Nat} (hl : out.length = j) (hp : xs.getD j 0 = p) (hq : ys.getD j 0 = q) (hz : p + 65536 * c = z + q + bo)
    (he : val W16 (xs.take j) + W16 ^ j * bo = val W16 out + val W16 (ys.take j)) :
    val W16 (xs.take (j + 1)) + W16 ^ (j + 1) * c = val W16 (out ++ [z]) + val W16 (ys.take (j + 1)) := by
  rw [val_take_succ, val_take_succ, val_snoc, hl, hp, hq, Nat.pow_succ, Nat.mul_assoc]
  have h1 : W16 ^ j * p + W16 ^ j * (W16 * c) = W16 ^ j * z + W16 ^ j * q + W16 ^ j * bo := by
    rw [← Nat.mul_add, show W16 * c = 65536 * c from rfl, hz, Nat.mul_add, Nat.mul_add]
  omega
theorem rsub_end {xs ys out : List Nat} {n bo x y : Nat} (hx : val W16 xs = x) (hy : val W16 ys = y) (hl : xs.length = n) (hm : ys.length ≤ n) (ho : out.length = n) (ook : Ok W16 out) (hle : y ≤ x)
    (he : val W16 (xs.take n) + W16 ^ n * bo = val W16 out + val W16 (ys.take n)) : val W16 out = x - y := by
  rw [val_take_all W16 xs (by omega), val_take_all W16 ys (by omega), hx, hy] at he
  have h1 := val_lt ook
  rw [ho] at h1
  rcases Nat.eq_zero_or_pos bo with h0 | h0
  · rw [h0, Nat.mul_zero, Nat.add_zero] at he
    omega
  · exfalso
    have h4 : W16 ^ n * 1 ≤ W16 ^ n * bo := Nat.mul_le_mul_left _ h0
    omega

set_option maxRecDepth 100000 in
set_option maxHeartbeats 1600000 in
theorem rsub_any (x y : Nat) (va vb : Value) (w : World) (ha : Nat16 w va x) (hb : Nat16 w vb y) (hx : (digs W16 x).length ≤ 100000) (hle : y ≤ x) :
    Calls Tryz.prog 44 #[va, vb] w (RPost w (x - y)) := by
  have HB0 := Lib.hid hb
  obtain ⟨A, ca, rfl, hca, hma, hra⟩ := ha
  obtain ⟨A', cb, rfl, hcb, hmb, hrb⟩ := hb
  have hlen := digs_len_mono (B := W16) W16_gt hle
  have HX := Lib.hid (And.intro (And.intro (val_digs W16_gt x) (val_digs W16_gt y)) (And.intro (ok_digs W16_gt x) (ok_digs W16_gt y)))
  unfold maxLen at hma hmb
  unfold Nat16 at HB0
  generalize digs W16 x = xs at *
  generalize digs W16 y = ys at *
  generalize hn : xs.length = n at *
  generalize hm : ys.length = m at *
  have HL := Lib.hid (And.intro hn hm)
  have HRA := Lib.hid hra
  have HLE := Lib.hid hle
  clear hra hrb hm hn hle
  go_enter Tryz.func44, Tryz.ntmps44
  go_wp2
  go_loopg [11, 5, 6, 7, 8] n (fun gk si so sb s7 s8 wr => ∃ (j bo : Nat) (out : List Nat), gk + j = n ∧ si = .int .i64 (j : Int) ∧ sb = .int .i64 (bo : Int) ∧ bo ≤ 1 ∧ Hid (OwnV .i64 3 wr w.heap.size so out) ∧ Hid (out.length = j ∧ Ok W16 out) ∧ Hid (val W16 (xs.take j) + W16 ^ j * bo = val W16 out + val W16 (ys.take j)) ∧ Hid (Below w.heap.size w wr))
  case atStart => exact ⟨0, 0, [], by omega, rfl, rfl, by omega, OwnV.nil_ _, ⟨rfl, Ok.nil⟩, by unfold Hid; simp, Below.refl _ _⟩
  case round =>
    obtain ⟨j, bo, out, hgj, rfl, rfl, hbo, HS, HV, HE, HB⟩ := hrel
    by_cases hj : j < n
    · obtain ⟨b, o, p, rfl, hb, hpe, hcell⟩ := (HRA.out.below HB.out).at_ (i := j) hj
      have hpb : p < 65536 := by rw [← hpe]; exact HX.out.2.1.getD (by decide) _
      have HP := Lib.hid hpe
      obtain ⟨q, hqe⟩ : ∃ q, ys.getD j 0 = q := ⟨_, rfl⟩
      have hqb : q < 65536 := by rw [← hqe]; exact HX.out.2.2.getD (by decide) _
      have HQ := Lib.hid hqe
      clear hpe hqe
      have hj0 : (0 : Int) ≤ (j : Int) := by omega
      have hj1 : (j : Int) < (n : Int) := by omega
      have hw1 : IntKind.i64.wrap ((p : Int) - (q : Int)) = (p : Int) - (q : Int) := by rw [IntKind.wrap_i64]; omega
      have hw2 : IntKind.i64.wrap ((p : Int) - (q : Int) - (bo : Int)) = (p : Int) - (q : Int) - (bo : Int) := by rw [IntKind.wrap_i64]; omega
      have HSl : Hid (Sl .i64 wr (.slice A' m cb) ys) := HB0.out.to HB.out
      have hlen1 : out.length + [p].length ≤ 1000000 := by have := HV.out.1; simp; omega
      have HLEN := Lib.hid hlen1
      clear hlen1
      go_wp2
      go_quiet ((go_at_call 62; exact quietL (rdigit_eq ys _ j q _ (by exact HSl.out) (by omega) HQ.out)))
      clear hw1 hw2
      generalize hwq : wr.drewN nq = wq
      have HS1 : Hid (OwnV .i64 3 wq w.heap.size u5 out) := by rw [← hwq]; exact HS.out
      have HBq : Hid (Below w.heap.size w wq) := by rw [← hwq]; exact below_drewN HB.out _
      clear hwq hcell
      by_cases hneg : p < q + bo
      · obtain ⟨z, hz, hzb, HZ⟩ : ∃ z : Nat, (p : Int) - (q : Int) - (bo : Int) + 65536 = (z : Int) ∧ z < 65536 ∧ Hid (p + 65536 * 1 = z + q + bo) := ⟨p + 65536 - q - bo, by omega, by omega, by unfold Hid; omega⟩
        have hng : (p : Int) - (q : Int) - (bo : Int) < 0 := by omega
        go_wp2_with (at_builtin; refine wpList_push wq rfl _ _ 41 rfl .i64 3 8 Tryz.underlying41 info_i64 (by decide) w.heap.size _ out [z] (by rfl) (by rfl) HS1.out HLEN.out HBq.out.size _ rfl ?_; intro v1 w1 hown1 hb1)
        go_roundg (gk - 1)
        case measure => omega
        case rel =>
          obtain ⟨e1, e2⟩ := HV.out
          exact ⟨j + 1, 1, out ++ [z], by omega, by go_num, rfl, by omega, hown1, ⟨by simp; omega, e2.append (Ok.cons hzb Ok.nil)⟩, rsub_step e1 HP.out HQ.out HZ.out HE.out, HBq.out.trans hb1⟩
      · obtain ⟨z, hz, hzb, HZ⟩ : ∃ z : Nat, (p : Int) - (q : Int) - (bo : Int) = (z : Int) ∧ z < 65536 ∧ Hid (p + 65536 * 0 = z + q + bo) := ⟨p - q - bo, by omega, by omega, by unfold Hid; omega⟩
        rw [hz]
        clear hz
        go_wp2_with (at_builtin; refine wpList_push wq rfl _ _ 41 rfl .i64 3 8 Tryz.underlying41 info_i64 (by decide) w.heap.size _ out [z] (by rfl) (by rfl) HS1.out HLEN.out HBq.out.size _ rfl ?_; intro v1 w1 hown1 hb1)
        go_roundg (gk - 1)
        case measure => omega
        case rel =>
          obtain ⟨e1, e2⟩ := HV.out
          exact ⟨j + 1, 0, out ++ [z], by omega, by go_num, rfl, by omega, hown1, ⟨by simp; omega, e2.append (Ok.cons hzb Ok.nil)⟩, rsub_step e1 HP.out HQ.out HZ.out HE.out, HBq.out.trans hb1⟩
    · obtain rfl : j = n := by omega
      clear hgj hj
      go_wp2_with (go_at_call 52; refine (rtrim_any out _ _ HS.out.sl HV.out.2).mono ?_; rintro e w' ⟨v', rfl, hn', rfl⟩)
      go_ret
      rw [rsub_end HX.out.1.1 HX.out.1.2 HL.out.1 (by rw [HL.out.2]; exact hlen) HV.out.1 HV.out.2 HLE.out HE.out] at hn'
      exact ⟨_, rfl, hn', HB.out⟩
end Go.Proofs.YtdmhkhnnomdkcaaGreatDoor
/- How long the digits in base 2^16 are. -/
namespace Go.Proofs.YtdmhkhnnomdkcaaGreatDoor
open Go.RowKit NumB
theorem len_pos16 {x n : Nat} (h : n = (digs W16 x).length) : 0 < n ↔ 0 < x := by
  subst h
  constructor
  · intro h
    rcases Nat.eq_zero_or_pos x with h4 | h4
    · subst h4; rw [digs_zero] at h; exact absurd h (by simp)
    · exact h4
  · intro h
    exact List.length_pos_iff.2 fun h4 => by have := (digs_nil W16_gt).1 h4; omega
end Go.Proofs.YtdmhkhnnomdkcaaGreatDoor
/- fetterlockref1.LenNat. Conditions: at most 1000000 digits. -/
namespace Go.Proofs.YtdmhkhnnomdkcaaGreatDoor
open Go.RowKit NumB
set_option linter.unusedVariables false
set_option linter.unusedSimpArgs false

set_option maxRecDepth 100000 in
set_option maxHeartbeats 1600000 in
theorem rlen_any (x : Nat) (v : Value) (w : World) (h : Nat16 w v x) (hx : (digs W16 x).length ≤ 1000000) :
    Calls Tryz.prog 49 #[v] w fun e w' => e = .returned (.int .i64 (blen x : Int)) ∧ w = w' := by
  obtain ⟨A, c, rfl, hc, hm, hr⟩ := h
  unfold maxLen at hm
  have HT := Lib.hid (fun n t (hn : (digs W16 x).length = n + 1) (ht : (digs W16 x).getD n 0 = t) => blen_top hn ht)
  have HZ := Lib.hid (len_pos16 (x := x) rfl)
  have HO := Lib.hid (ok_digs W16_gt x)
  generalize digs W16 x = xs at *
  generalize hn : xs.length = n at *
  have HN := Lib.hid hn
  have HR := Lib.hid hr
  clear hn hr
  rcases Nat.eq_zero_or_pos n with h0 | h0
  · subst h0
    have HX0 : Hid (blen x = 0) := by
      have : ¬ 0 < x := fun h => absurd (HZ.out.2 h) (by omega)
      have e : x = 0 := by omega
      subst e; rfl
    have hb0 : decide ((0 : Int) < ((0 : Nat) : Int)) = false := rfl
    go_enter Tryz.func49, Tryz.ntmps49
    go_wp2
    go_ret
    rw [HX0.out]
    exact ⟨rfl, rfl⟩
  · obtain ⟨b, o, t, rfl, hb, hte, hcell⟩ := HR.out.at_ (i := n - 1) (by omega)
    have htb : t < 65536 := by rw [← hte]; exact HO.out.getD (by decide) _
    have HB : Hid (blen x = 16 * (n - 1) + blen t) := HT.out (n - 1) t (by omega) hte
    have hcast : ((n : Int) - 1) = ((n - 1 : Nat) : Int) := by omega
    have htl : blen t ≤ 16 := blen_le (by omega)
    generalize hn1 : n - 1 = n1 at *
    clear hte
    go_enter Tryz.func49, Tryz.ntmps49
    go_wp2
    go_loop [3, 4] (fun s3 s4 => ∃ (u : Nat) (r : Nat), s4 = .int .i64 (r : Int) ∧ s3 = .int .i64 (u : Int) ∧ r < 65536 ∧ Hid (u + blen r = blen x) ∧ u ≤ 16 * n1 + 16) (fun _ s4 => (intOf s4).toNat)
    case atStart => exact ⟨16 * n1, t, rfl, by go_num, htb, by unfold Hid; rw [HB.out], by omega⟩
    case round =>
      obtain ⟨u, r, rfl, rfl, hrb, HU, hu⟩ := hrel
      by_cases hr0 : 0 < r
      · have hst := blen_step hr0
        have HS := Lib.hid hst
        clear hst
        go_wp2
        go_round
        case rel => exact ⟨u + 1, r / 2, by go_num, by go_num, by omega, by have := HU.out; have := HS.out; unfold Hid; omega, by have := HU.out; have := HS.out; have := HB.out; omega⟩
        case measure => simp [intOf]; omega
      · obtain rfl : r = 0 := by omega
        go_wp2
        go_ret
        have := HU.out
        rw [blen_zero, Nat.add_zero] at this
        rw [← this]
        exact ⟨rfl, rfl⟩
end Go.Proofs.YtdmhkhnnomdkcaaGreatDoor
/- fetterlockref1.ShlNat. Conditions: at most 100000 digits and bits. -/
namespace Go.Proofs.YtdmhkhnnomdkcaaGreatDoor
open Go.RowKit NumB
set_option linter.unusedVariables false
set_option linter.unusedSimpArgs false

theorem or_low_i64 (p s c : Nat) (hp : p < 65536) (hs : s < 16) (hc : c < 2 ^ s) : bits .or .i64 ((p * 2 ^ s : Nat) : Int) (c : Int) = ((p * 2 ^ s + c : Nat) : Int) ∧ p * 2 ^ s + c < 4294967296 := by
  have h1 : (2 : Nat) ^ s ≤ 2 ^ 15 := Nat.pow_le_pow_right (by omega) (by omega)
  have h2 : p * 2 ^ s ≤ 65535 * 2 ^ 15 := Nat.mul_le_mul (by omega) h1
  have e : p * 2 ^ s ||| c = p * 2 ^ s + c := by
    rw [← Nat.shiftLeft_eq, ← Nat.shiftLeft_add_eq_or_of_lt hc]
  refine ⟨?_, by omega⟩
  show IntKind.i64.wrap ((BitVec.ofInt 64 ((p * 2 ^ s : Nat) : Int) ||| BitVec.ofInt 64 (c : Int)).toNat : Int) = _
  have e1 : (BitVec.ofInt 64 ((p * 2 ^ s : Nat) : Int)).toNat = p * 2 ^ s := by
    rw [BitVec.ofInt_natCast, BitVec.toNat_ofNat]; exact Nat.mod_eq_of_lt (by omega)
  have e2 : (BitVec.ofInt 64 (c : Int)).toNat = c := by
    rw [BitVec.ofInt_natCast, BitVec.toNat_ofNat]; exact Nat.mod_eq_of_lt (by omega)
  rw [BitVec.toNat_or, e1, e2, e, IntKind.wrap_i64]
  omega
theorem rshl_facts (p s c : Nat) (hp : p < 65536) (hs : s < 16) (hc : c < 2 ^ s) : ∃ y t lo hi : Nat, IntKind.i64.wrap ((p : Int) * 2 ^ s) = (y : Int) ∧ bits .or .i64 (y : Int) (c : Int) = (t : Int) ∧ (t : Int) % 65536 = (lo : Int) ∧ (t : Int) / 65536 = (hi : Int) ∧ t < 4294967296 ∧ lo < 65536 ∧ hi < 2 ^ s ∧ p * 2 ^ s + c = lo + 65536 * hi := by
  obtain ⟨h1, h2⟩ := or_low_i64 p s c hp hs hc
  refine ⟨p * 2 ^ s, p * 2 ^ s + c, (p * 2 ^ s + c) % 65536, (p * 2 ^ s + c) / 65536, ?_, h1, by omega, by omega, h2, by omega, ?_, by omega⟩
  · rw [← pow32, ← Int.natCast_mul]
    generalize p * 2 ^ s = y at *
    rw [IntKind.wrap_i64]
    omega
  · rw [Nat.div_lt_iff_lt_mul (by omega)]
    have h3 : (p + 1) * 2 ^ s ≤ 65536 * 2 ^ s := Nat.mul_le_mul_right _ (by omega)
    rw [Nat.add_mul, Nat.one_mul, Nat.mul_comm 65536] at h3
    omega
theorem rshl_step {xs out : List Nat} {j k s c p lo hi : Nat} (hl : out.length = k + j) (hx : xs.getD j 0 = p) (he : p * 2 ^ s + c = lo + 65536 * hi)
    (hv : val W16 out + W16 ^ (k + j) * c = 2 ^ s * W16 ^ k * val W16 (xs.take j)) :
    val W16 (out ++ [lo]) + W16 ^ (k + (j + 1)) * hi = 2 ^ s * W16 ^ k * val W16 (xs.take (j + 1)) := by
  rw [val_snoc, hl, val_take_succ, hx, ← Nat.add_assoc, Nat.pow_succ, Nat.mul_assoc, Nat.add_assoc, ← Nat.mul_add, show lo + W16 * hi = lo + 65536 * hi from rfl, ← he, Nat.mul_add, Nat.mul_add (2 ^ s * W16 ^ k), ← hv]
  have : W16 ^ (k + j) * (p * 2 ^ s) = 2 ^ s * W16 ^ k * (W16 ^ j * p) := by
    rw [Nat.pow_add]; simp only [Nat.mul_comm, Nat.mul_left_comm, Nat.mul_assoc]
  omega

set_option maxRecDepth 100000 in
set_option maxHeartbeats 1600000 in
theorem rshl_any (x n : Nat) (va : Value) (w : World) (ha : Nat16 w va x) (hl : (digs W16 x).length ≤ 100000) (hn : n ≤ 1000000) :
    Calls Tryz.prog 47 #[va, .int .i64 (n : Int)] w (RPost w (x * 2 ^ n)) := by
  obtain ⟨A, c, rfl, hc, hm, hr⟩ := ha
  unfold maxLen at hm
  obtain ⟨k, s, hk, hs, hs16, HN⟩ : ∃ k s : Nat, (n : Int) / 16 = (k : Int) ∧ (n : Int) % 16 = (s : Int) ∧ s < 16 ∧ Hid (n = 16 * k + s) := ⟨n / 16, n % 16, by omega, by omega, by omega, by unfold Hid; omega⟩
  have hkb : k ≤ 100000 := by have := HN.out; omega
  have HX := Lib.hid (And.intro (val_digs W16_gt x) (ok_digs W16_gt x))
  generalize digs W16 x = xs at *
  generalize hxl : xs.length = l at *
  have HL := Lib.hid hxl
  have HR := Lib.hid hr
  clear hxl hr
  by_cases h0 : l = 0
  · subst h0
    have hb0 : (((0 : Nat) : Int) == 0) = true := rfl
    have HX0 : Hid (x = 0) := by
      have h1 := HX.out.1
      rw [List.eq_nil_of_length_eq_zero HL.out] at h1
      exact h1.symm
    clear hk hs
    go_enter Tryz.func47, Tryz.ntmps47
    go_wp2
    go_ret
    refine ⟨_, rfl, ?_, Below.refl _ _⟩
    rw [HX0.out, Nat.zero_mul]
    exact nat16_zero _
  have hb0 : ((l : Int) == 0) = false := beq_eq_false_iff_ne.2 (by omega)
  obtain ⟨i0, hi0, hz0, hz1, hz2⟩ := info_parts info_i64
  have HI := Lib.hid hi0
  have HZ0 := Lib.hid hz0
  have HZ1 := Lib.hid hz1
  have HZ2 := Lib.hid hz2
  clear hi0 hz0 hz1 hz2
  go_enter Tryz.func47, Tryz.ntmps47
  go_wp2_with (at_make; refine wpList_make_full _ rfl _ _ 41 rfl w.heap.size 3 i0 (.int .i64 0) 1 Tryz.underlying41 HI.out HZ0.out HZ1.out .i64 .i64 _ _ k rfl rfl (by omega) (by omega) (by rw [HZ2.out]; omega) (by unfold maxLen; omega) (Nat.le_refl _) ?_; intro w1 hown1 hg1)
  have HO1 : Hid (OwnV .i64 3 w1 w.heap.size (.slice (some ⟨w.heap.size, 0, none⟩) k k) (List.replicate k 0)) := by
    have h := (Own.made hown1).2
    unfold OwnV
    rw [List.length_replicate]
    exact h
  have HB1 := Lib.hid ((Below.refl w.heap.size w).grown hg1 (Nat.le_refl _) (by simp))
  clear hown1 hg1
  go_loopg [18, 5, 6, 8, 9] l (fun gk si so sc s8 s9 wr => ∃ (j ca : Nat) (out : List Nat), gk + j = l ∧ si = .int .i64 (j : Int) ∧ sc = .int .i64 (ca : Int) ∧ ca < 2 ^ s ∧ Hid (OwnV .i64 3 wr w.heap.size so out) ∧ Hid (out.length = k + j ∧ Ok W16 out) ∧ Hid (val W16 out + W16 ^ (k + j) * ca = 2 ^ s * W16 ^ k * val W16 (xs.take j)) ∧ Hid (Below w.heap.size w wr))
  case atStart => exact ⟨0, 0, List.replicate k 0, by omega, rfl, rfl, Nat.pow_pos (by omega), HO1.out, ⟨by simp, ok_replicate (by decide)⟩, by unfold Hid; rw [val_replicate]; simp, HB1.out⟩
  case round =>
    obtain ⟨j, ca, out, hgj, rfl, rfl, hca, HS, HV, HE, HB⟩ := hrel
    by_cases hj : j < l
    · obtain ⟨b, o, p, rfl, hb, hpe, hcell⟩ := (HR.out.below HB.out).at_ (i := j) hj
      have hpb : p < 65536 := by rw [← hpe]; exact HX.out.2.getD (by decide) _
      have HP := Lib.hid hpe
      clear hpe
      obtain ⟨y, t, lo, hi, f1, f2, f3, f4, htb, hlo, hhi, fe⟩ := rshl_facts p s ca hpb hs16 hca
      have HFE := Lib.hid fe
      have hlen1 : out.length + [lo].length ≤ 1000000 := by have := HV.out.1; simp; omega
      have HLEN := Lib.hid hlen1
      clear hlen1 fe
      go_wp2_with (at_builtin; refine wpList_push wr rfl _ _ 41 rfl .i64 3 8 Tryz.underlying41 info_i64 (by decide) w.heap.size _ out [lo] (by rfl) (by rfl) HS.out HLEN.out HB.out.size _ rfl ?_; intro v1 w1 hown1 hb1)
      go_roundg (gk - 1)
      case measure => omega
      case rel =>
        obtain ⟨e1, e2⟩ := HV.out
        exact ⟨j + 1, hi, out ++ [lo], by omega, by go_num, rfl, hhi, hown1, ⟨by simp; omega, e2.append (Ok.cons hlo Ok.nil)⟩, rshl_step e1 HP.out HFE.out HE.out, HB.out.trans hb1⟩
    · obtain rfl : j = l := by omega
      have hlen1 : out.length + [ca].length ≤ 1000000 := by have := HV.out.1; simp; omega
      have HLEN := Lib.hid hlen1
      clear hgj hj hlen1
      have HCA : Hid (ca < 65536) := by
        have h1 : (2 : Nat) ^ s ≤ 2 ^ 15 := Nat.pow_le_pow_right (by omega) (by omega)
        unfold Hid; omega
      go_wp2_with (first
        | (at_builtin; refine wpList_push wr rfl _ _ 41 rfl .i64 3 8 Tryz.underlying41 info_i64 (by decide) w.heap.size _ out [ca] (by rfl) (by rfl) HS.out HLEN.out HB.out.size _ rfl ?_; intro v1 w1 hown1 hb1)
        | (go_at_call 52; refine (rtrim_any (out ++ [ca]) _ _ hown1.sl (HV.out.2.append (Ok.cons HCA.out Ok.nil))).mono ?_; rintro e w' ⟨v', rfl, hn', rfl⟩))
      go_ret
      have he := HE.out
      rw [val_take_all W16 xs (by rw [HL.out]; exact Nat.le_refl _), HX.out.1] at he
      have hv : val W16 (out ++ [ca]) = x * 2 ^ n := by
        rw [val_snoc, HV.out.1, he, HN.out, Nat.pow_add, Nat.pow_mul, show (2 : Nat) ^ 16 = W16 from rfl, Nat.mul_comm x, Nat.mul_comm (W16 ^ k)]
      rw [hv] at hn'
      exact ⟨_, rfl, hn', HB.out.trans hb1⟩
end Go.Proofs.YtdmhkhnnomdkcaaGreatDoor

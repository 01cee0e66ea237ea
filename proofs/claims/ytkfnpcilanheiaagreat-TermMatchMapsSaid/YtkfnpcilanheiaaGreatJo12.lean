/- fetterlockref1: trim, digit, bit, natOf. Conditions: at most 100000 digits. And 2 more texts. -/
import Derived.Deep.RegionHeld3
import Derived.Test.YtkfnpcilanheiaaGreatJo2
import Derived.Test.YtkfnpcilanheiaaGreatJo5
import Derived.Test.YtkfnpcilanheiaaGreatJo11
set_option linter.unusedVariables false
set_option linter.unusedSimpArgs false
set_option maxRecDepth 100000
namespace Go.Proofs.YtkfnpcilanheiaaGreat
open Go.RowKit NumB
theorem rtrim_end {xs : List Nat} {g : Nat} (ho : Ok W16 xs) (hg : g ≤ xs.length) (hv : val W16 (xs.take g) = val W16 xs) (hl : g = 0 ∨ xs.getD (g - 1) 0 ≠ 0) : xs.take g = digs W16 (val W16 xs) := by
  refine (digs_eq W16_gt (ho.take g) (NumB.top_of_last ?_) hv).symm
  have hlen : (xs.take g).length = g := by rw [List.length_take]; omega
  rcases hl with rfl | hl
  · left; rfl
  · rcases Nat.eq_zero_or_pos g with rfl | h0
    · left; rfl
    · right
      rw [hlen, List.getD_eq_getElem?_getD, List.getElem?_take, if_pos (by omega), ← List.getD_eq_getElem?_getD]
      exact hl
set_option maxHeartbeats 400000 in
theorem rtrim_any (xs : List Nat) (v : Value) (w : World) (h : Sl .i64 w v xs) (ho : Ok W16 xs) :
    Calls Tryz.prog 104 #[v] w fun e w' => ∃ v', e = .returned v' ∧ Nat16 w v' (val W16 xs) ∧ w = w' := by
  obtain ⟨A, c, rfl, hc, hm, hr⟩ := h
  have HM := Lib.hid hm
  unfold maxLen at hm
  generalize hn : xs.length = n at *
  have HL := Lib.hid hn
  have HR := Lib.hid hr
  clear hr hn
  have HO := Lib.hid ho
  clear ho
  go_enter Tryz.func104, Tryz.ntmps104
  go_wp2
  go_loopg [0] n (fun g v wr => g ≤ n ∧ v = .slice A g c ∧ Hid (val W16 (xs.take g) = val W16 xs) ∧ w = wr)
  case atStart => exact ⟨Nat.le_refl _, rfl, by rw [← HL.out, List.take_length]; rfl, rfl⟩
  case round =>
    obtain ⟨hg, rfl, HV, rfl⟩ := hrel
    by_cases h0 : 0 < gk
    · obtain ⟨b, o, x, rfl, hb, hxe, hx⟩ := HR.out.at_ (i := gk - 1) (by omega)
      have HX := Lib.hid hxe
      have hxb : x < 65536 := by rw [← hxe]; exact HO.out.getD (by decide) _
      clear hxe
      by_cases hz : x = 0
      · subst hz
        go_wp2
        go_roundg (gk - 1)
        case measure => omega
        case rel =>
          refine ⟨by omega, rfl, ?_, rfl⟩
          have h := val_take_succ W16 xs (gk - 1)
          rw [show gk - 1 + 1 = gk from by omega, HX.out, Nat.mul_zero, Nat.add_zero] at h
          exact h.symm.trans HV.out
      · have HZ := Lib.hid hz
        have hne : ((x : Int) == 0) = false := beq_eq_false_iff_ne.2 (by omega)
        clear hz
        go_wp2
        go_ret
        exact ⟨_, rfl, Sl.of_rd HR.out hg hc HM.out (rtrim_end HO.out (by rw [HL.out]; exact hg) HV.out (.inr (by rw [HX.out]; exact HZ.out))), rfl⟩
    · go_wp2
      go_ret
      exact ⟨_, rfl, Sl.of_rd HR.out hg hc HM.out (rtrim_end HO.out (by rw [HL.out]; exact hg) HV.out (.inl (by omega))), rfl⟩
theorem rdigit_any (xs : List Nat) (v : Value) (i : Nat) (w : World) (h : Sl .i64 w v xs) (hi : i < 9223372036854775807) :
    Calls Tryz.prog 105 #[v, .int .i64 (i : Int)] w fun e w' => e = .returned (.int .i64 ((xs.getD i 0 : Nat) : Int)) ∧ w = w' := by
  obtain ⟨A, c, rfl, hc, hm, hr⟩ := h
  unfold maxLen at hm
  generalize hn : xs.length = n at *
  have HL := Lib.hid hn
  clear hn
  by_cases hin : i < n
  · obtain ⟨b, o, x, rfl, hb, hxe, hx⟩ := hr.at_ hin
    rw [hxe]
    clear hr hxe
    go_enter Tryz.func105, Tryz.ntmps105
    go_wp2
    go_ret
    exact ⟨rfl, rfl⟩
  · rw [getD_ge (by rw [HL.out]; omega)]
    clear hr
    go_enter Tryz.func105, Tryz.ntmps105
    go_wp2
    go_ret
    exact ⟨rfl, rfl⟩
theorem and_one_i64 (y : Nat) (hy : y < 9223372036854775808) : bits .and .i64 (y : Int) 1 = ((y % 2 : Nat) : Int) := by
  have hx : y &&& 1 < 2 ^ 63 := Nat.and_lt_two_pow _ (by omega)
  show IntKind.i64.wrap ((BitVec.ofInt 64 (y : Int) &&& BitVec.ofInt 64 1).toNat : Int) = _
  have e : (BitVec.ofInt 64 (y : Int)).toNat = y := by
    rw [BitVec.ofInt_natCast, BitVec.toNat_ofNat]; exact Nat.mod_eq_of_lt (by omega)
  rw [BitVec.toNat_and, e, show (BitVec.ofInt 64 1).toNat = 1 from rfl, Nat.and_one_is_mod, IntKind.wrap_i64]
  omega
theorem bit_val (x i : Nat) : (digs W16 x).getD (i / 16) 0 / 2 ^ (i % 16) % 2 = x / 2 ^ i % 2 := by
  have h1 := val_split W16 (digs W16 x) (i / 16)
  have h2 := val_drop_step W16 (digs W16 x) (i / 16)
  rw [val_digs W16_gt, h2] at h1
  have hd : (digs W16 x).getD (i / 16) 0 = x / W16 ^ (i / 16) % W16 := by
    rcases Nat.lt_or_ge (i / 16) (digs W16 x).length with hl | hl
    · have h3 := val_take_lt (ok_digs W16_gt x) (j := i / 16) (by omega)
      have e : x / W16 ^ (i / 16) = (digs W16 x).getD (i / 16) 0 + W16 * val W16 ((digs W16 x).drop (i / 16 + 1)) := by
        have this : x / W16 ^ (i / 16) = (val W16 ((digs W16 x).take (i / 16)) + W16 ^ (i / 16) * ((digs W16 x).getD (i / 16) 0 + W16 * val W16 ((digs W16 x).drop (i / 16 + 1)))) / W16 ^ (i / 16) := congrArg (fun z => z / W16 ^ (i / 16)) h1
        rw [this, Nat.add_mul_div_left _ _ (Nat.pow_pos (by decide)), Nat.div_eq_of_lt h3, Nat.zero_add]
      rw [e, Nat.add_mul_mod_self_left, Nat.mod_eq_of_lt ((ok_digs W16_gt x).getD (by decide) _)]
    · rw [getD_ge hl]
      have h4 : x < W16 ^ (i / 16) := Nat.lt_of_lt_of_le (digs_lt W16_gt) (Nat.pow_le_pow_right (by decide) hl)
      rw [Nat.div_eq_of_lt h4]; rfl
  have e : x / 2 ^ i = x / W16 ^ (i / 16) / 2 ^ (i % 16) := by
    rw [Nat.div_div_eq_div_mul]
    congr 1
    rw [show W16 = 2 ^ 16 from rfl, ← Nat.pow_mul, ← Nat.pow_add]
    congr 1
    omega
  rw [hd, e]
  generalize x / W16 ^ (i / 16) = z
  have hm : i % 16 < 16 := Nat.mod_lt _ (by omega)
  generalize i % 16 = k at hm
  have e2 : W16 = 2 ^ k * (2 * 2 ^ (15 - k)) := by
    rw [← Nat.mul_assoc, Nat.mul_comm (2 ^ k) 2, ← Nat.pow_succ', ← Nat.pow_add, show k + 1 + (15 - k) = 16 from by omega]; rfl
  rw [e2, Nat.mod_mul_right_div_self, Nat.mod_mul_right_mod]
theorem rbit_any (x i : Nat) (v : Value) (w : World) (h : Nat16 w v x) (hi : i < 9223372036854775807) :
    Calls Tryz.prog 106 #[v, .int .i64 (i : Int)] w fun e w' => e = .returned (.int .i64 ((x / 2 ^ i % 2 : Nat) : Int)) ∧ w = w' := by
  have H := Lib.hid h
  have HB := Lib.hid (bit_val x i)
  have hd : (digs W16 x).getD (i / 16) 0 < 65536 := (ok_digs W16_gt x).getD (by decide) _
  obtain ⟨k, s, hk, hs, hs16, HN⟩ : ∃ k s : Nat, (i : Int) / 16 = (k : Int) ∧ (i : Int) % 16 = (s : Int) ∧ s < 16 ∧ Hid (i / 16 = k ∧ i % 16 = s) := ⟨i / 16, i % 16, by omega, by omega, by omega, rfl, rfl⟩
  clear h
  go_enter Tryz.func106, Tryz.ntmps106
  go_wp2_with fail
  refine (rdigit_any (digs W16 x) v k _ H.out (by have := HN.out.1; omega)).mono ?_
  rintro e w1 ⟨rfl, rfl⟩
  rw [HN.out.1] at hd
  obtain ⟨d, hde⟩ : ∃ d, (digs W16 x).getD k 0 = d := ⟨_, rfl⟩
  rw [hde] at hd ⊢
  have HD := Lib.hid hde
  have hand : bits .and .i64 ((d : Int) / 2 ^ s) 1 = ((d / 2 ^ s % 2 : Nat) : Int) := by
    have e : (d : Int) / 2 ^ s = ((d / 2 ^ s : Nat) : Int) := by rw [Int.natCast_ediv, Int.natCast_pow]; rfl
    rw [e]
    exact and_one_i64 _ (by have : d / 2 ^ s ≤ d := Nat.div_le_self _ _; omega)
  clear hde
  go_wp2
  go_ret
  refine ⟨ret_i ?_, rfl⟩
  have h := HB.out
  rw [HN.out.1, HN.out.2, HD.out] at h
  rw [← h, Int.natCast_emod, Int.natCast_ediv, Int.natCast_pow]; rfl
theorem info_i64 : (Tryz.prog.info? 3).map (fun i => (i.zero, i.size, i.bytes)) = some (some (.int .i64 0), 1, 8) := by kernel_rfl
theorem and_low16 (x : Nat) (hx : x < 4294967296) : bits .and .u32 (x : Int) 65535 = ((x % 65536 : Nat) : Int) := by
  have h := u32_and (x : Int) 65535 (by omega) (by omega) (by omega) (by omega)
  rw [Int.toNat_natCast, show (65535 : Int).toNat = 2 ^ 16 - 1 from rfl, Nat.and_two_pow_sub_one_eq_mod] at h
  exact h
theorem val_two16 (out : List Nat) (j lo hi x V : Nat) (hl : out.length = 2 * j) (hv : val W16 out = V) (hx : x = lo + 65536 * hi) : val W16 (out ++ [lo, hi]) = V + W32 ^ j * x := by
  rw [val_append, hv, hl, show W32 = W16 ^ 2 from rfl, Nat.pow_mul, hx]
  simp [W16]
def RPost (w : World) (x : Nat) (e : Ending) (w' : World) : Prop := ∃ v, e = .returned v ∧ Nat16 w' v x ∧ Below w.heap.size w w'
set_option maxHeartbeats 1600000 in
theorem natOf_sl (xs : List Nat) (va : Value) (w : World) (ha : Sl .u32 w va xs) (ho : Ok W32 xs) (hx : xs.length ≤ 100000) :
    Calls Tryz.prog 59 #[va] w (RPost w (val W32 xs)) := by
  obtain ⟨A, c, rfl, hc, hm, hr⟩ := ha
  unfold maxLen at hm
  generalize hn : xs.length = n at *
  have HL := Lib.hid hn
  have HR := Lib.hid hr
  have HO := Lib.hid ho
  clear hr hn ho
  go_enter Tryz.func59, Tryz.ntmps59
  go_wp2
  go_loopg [8, 3, 5] n (fun gk si so s5 wr => ∃ (j : Nat) (out : List Nat), gk + j = n ∧ si = .int .i64 (j : Int) ∧ Hid (OwnV .i64 3 wr w.heap.size so out) ∧ Hid (out.length = 2 * j ∧ Ok W16 out ∧ val W16 out = val W32 (xs.take j)) ∧ Hid (Below w.heap.size w wr))
  case atStart => exact ⟨0, [], by omega, rfl, OwnV.nil_ _, ⟨rfl, Ok.nil, rfl⟩, Below.refl _ _⟩
  case round =>
    obtain ⟨j, out, hgj, rfl, HS, HV, HB⟩ := hrel
    by_cases hj : j < n
    · obtain ⟨b, o, x, rfl, hb, hxe, hcell⟩ := (HR.out.below HB.out).at_ (i := j) hj
      have hxb : x < 4294967296 := by rw [← hxe]; exact HO.out.getD (by decide) _
      have HX := Lib.hid hxe
      obtain ⟨lo, hi, hand, hshr, hlo, hhi, HE⟩ : ∃ lo hi : Nat, bits .and .u32 (x : Int) 65535 = (lo : Int) ∧ (x : Int) / 65536 = (hi : Int) ∧ lo < 65536 ∧ hi < 65536 ∧ Hid (x = lo + 65536 * hi) :=
        ⟨x % 65536, x / 65536, and_low16 x hxb, by omega, by omega, by omega, by unfold Hid; omega⟩
      clear hxe
      have hlen : out.length + [lo, hi].length ≤ 1000000 := by have := HV.out.1; simp; omega
      have HLEN := Lib.hid hlen
      clear hlen
      go_wp2_with (at_builtin; go_must (refine wpList_push wr rfl _ _ 44 rfl .i64 3 8 Tryz.underlying44 info_i64 (by decide) w.heap.size _ out [lo, hi] (by rfl) (by rfl) HS.out HLEN.out HB.out.size _ rfl ?_); intro v1 w1 hown1 hb1)
      go_roundg (gk - 1)
      case measure => omega
      case rel =>
        obtain ⟨e1, e2, e3⟩ := HV.out
        refine ⟨j + 1, out ++ [lo, hi], by omega, by go_num, hown1, ⟨by simp; omega, e2.append (Ok.cons hlo (Ok.cons hhi Ok.nil)), ?_⟩, HB.out.trans hb1⟩
        rw [val_take_succ, HX.out]
        exact val_two16 out j lo hi x _ e1 e3 HE.out
    · obtain rfl : j = n := by omega
      clear hgj hj
      go_wp2_with (go_at_call 104; refine (rtrim_any out _ _ HS.out.sl HV.out.2.1).mono ?_; rintro e w' ⟨v', rfl, hn', rfl⟩)
      go_ret
      rw [HV.out.2.2, val_take_all W32 xs (by rw [HL.out]; exact Nat.le_refl _)] at hn'
      exact ⟨_, rfl, hn', HB.out⟩
theorem nat16_zero (w : World) : Nat16 w (.slice none 0 0) 0 := by
  unfold Nat16
  rw [digs_zero]
  exact (OwnV.nil_ (B := 0) (T := 0) w).sl
theorem Nat16.to {w w' : World} {v : Value} {x : Nat} (h : Nat16 w v x) (hb : Below w.heap.size w w') : Nat16 w' v x := Sl.to h hb
theorem rdigit_eq (xs : List Nat) (v : Value) (i d : Nat) (w : World) (h : Sl .i64 w v xs) (hi : i < 9223372036854775807) (hd : xs.getD i 0 = d) :
    Calls Tryz.prog 105 #[v, .int .i64 (i : Int)] w fun e w' => e = .returned (.int .i64 (d : Int)) ∧ w = w' := by
  subst hd
  exact rdigit_any xs v i w h hi
set_option maxHeartbeats 800000 in
theorem rcmp_any (x y : Nat) (va vb : Value) (w : World) (ha : Nat16 w va x) (hb : Nat16 w vb y) (hx : (digs W16 x).length ≤ 1000000) (hy : (digs W16 y).length ≤ 1000000) :
    Calls Tryz.prog 60 #[va, vb] w fun e w' => e = .returned (.int .i64 (cmpI x y)) ∧ w = w' := by
  have HA := Lib.hid ha
  have HB := Lib.hid hb
  obtain ⟨A, ca, rfl, hca, hma, hra⟩ := ha
  obtain ⟨A', cb, rfl, hcb, hmb, hrb⟩ := hb
  have HX := Lib.hid (And.intro (And.intro (val_digs W16_gt x) (val_digs W16_gt y)) (And.intro (ok_digs W16_gt x) (ok_digs W16_gt y)))
  unfold Nat16 at HA HB
  generalize digs W16 x = xs at *
  generalize digs W16 y = ys at *
  generalize hn : xs.length = n at *
  generalize hm : ys.length = m at *
  have HL := Lib.hid (And.intro hn hm)
  clear hra hrb hn hm hma hmb hca hcb
  obtain ⟨M, hM1, hM2, hM3⟩ : ∃ M : Nat, max (n : Int) (m : Int) = (M : Int) ∧ n ≤ M ∧ m ≤ M ∧ M ≤ 1000000 := ⟨max n m, by omega, by omega, by omega, by omega⟩
  go_enter Tryz.func60, Tryz.ntmps60
  go_wp2_with fail
  clear hM1
  go_loopg [5, 6, 7] (M + 1) (fun gk si s6 s7 wr => ∃ j : Nat, gk = j + 1 ∧ j ≤ M ∧ si = .int .i64 ((j : Int) - 1) ∧ Hid (val W16 (xs.drop j) = val W16 (ys.drop j)) ∧ w = wr)
  case atStart => exact ⟨M, rfl, Nat.le_refl _, rfl, by unfold Hid; rw [List.drop_eq_nil_of_le (by rw [HL.out.1]; exact hM2), List.drop_eq_nil_of_le (by rw [HL.out.2]; exact hM3.1)], rfl⟩
  case round =>
    obtain ⟨j, rfl, hj, rfl, HV, rfl⟩ := hrel
    by_cases h0 : 0 < j
    · obtain ⟨i, rfl⟩ : ∃ i, j = i + 1 := ⟨j - 1, by omega⟩
      have hjc : ((i + 1 : Nat) : Int) - 1 = (i : Int) := by omega
      rw [hjc]
      clear hjc
      obtain ⟨p, hp⟩ : ∃ p, xs.getD i 0 = p := ⟨_, rfl⟩
      obtain ⟨q, hq⟩ : ∃ q, ys.getD i 0 = q := ⟨_, rfl⟩
      have HPQ := Lib.hid (And.intro hp hq)
      clear hp hq
      go_wp2_with fail
      refine (rdigit_eq xs _ i p _ HA.out (by omega) HPQ.out.1).mono ?_
      rintro e w1 ⟨rfl, rfl⟩
      go_wp2_with fail
      refine (rdigit_eq ys _ i q _ HB.out (by omega) HPQ.out.2).mono ?_
      rintro e w1 ⟨rfl, rfl⟩
      obtain ⟨⟨ex, ey⟩, ox, oy⟩ := HX.out
      have HX1 := Lib.hid (And.intro ex ey)
      have HX2 := Lib.hid (And.intro ox oy)
      clear ex ey ox oy
      by_cases hlt : p < q
      · go_wp2
        go_ret
        refine ⟨ret_i ?_, rfl⟩
        rw [cmpI_lt]
        rw [← HX1.out.1, ← HX1.out.2]
        exact val_lt_of_digit' (by decide) HX2.out.1 (j := i) HV.out (by rw [HPQ.out.1, HPQ.out.2]; exact hlt)
      · by_cases hgt : q < p
        · go_wp2
          go_ret
          refine ⟨ret_i ?_, rfl⟩
          rw [cmpI_gt]
          rw [← HX1.out.1, ← HX1.out.2]
          exact val_lt_of_digit' (by decide) HX2.out.2 (j := i) HV.out.symm (by rw [HPQ.out.1, HPQ.out.2]; exact hgt)
        · go_wp2
          go_roundg (i + 1)
          case measure => omega
          case rel =>
            refine ⟨i, rfl, by omega, rfl, ?_, rfl⟩
            have h1 := val_drop_step W16 xs i
            have h2 := val_drop_step W16 ys i
            rw [HPQ.out.1, HV.out] at h1
            rw [HPQ.out.2] at h2
            have hpq : p = q := by omega
            rw [hpq] at h1
            exact h1.trans h2.symm
    · obtain rfl : j = 0 := by omega
      go_wp2
      go_ret
      refine ⟨ret_i ?_, rfl⟩
      have := HV.out
      rw [List.drop_zero, List.drop_zero, HX.out.1.1, HX.out.1.2] at this
      exact (cmpI_eq this).symm
/- half -/
theorem or_half (a b : Nat) (ha : a < 65536) (hb : b < 2) : bits .or .i64 ((a / 2 : Nat) : Int) ((b * 32768 : Nat) : Int) = ((a / 2 + b * 32768 : Nat) : Int) := by
  have h1 : a / 2 < 32768 := by omega
  have e : a / 2 ||| b * 32768 = a / 2 + b * 32768 := by
    rw [Nat.or_comm, show (32768 : Nat) = 2 ^ 15 from rfl, ← Nat.shiftLeft_eq, ← Nat.shiftLeft_add_eq_or_of_lt (by omega), Nat.shiftLeft_eq]; omega
  have hx : a / 2 ||| b * 32768 < 2 ^ 63 := by rw [e]; omega
  show IntKind.i64.wrap ((BitVec.ofInt 64 ((a / 2 : Nat) : Int) ||| BitVec.ofInt 64 ((b * 32768 : Nat) : Int)).toNat : Int) = _
  have e1 : (BitVec.ofInt 64 ((a / 2 : Nat) : Int)).toNat = a / 2 := by
    rw [BitVec.ofInt_natCast, BitVec.toNat_ofNat]; exact Nat.mod_eq_of_lt (by omega)
  have e2 : (BitVec.ofInt 64 ((b * 32768 : Nat) : Int)).toNat = b * 32768 := by
    rw [BitVec.ofInt_natCast, BitVec.toNat_ofNat]; exact Nat.mod_eq_of_lt (by omega)
  rw [BitVec.toNat_or, e1, e2, e, IntKind.wrap_i64]
  omega
theorem half_list {xs out : List Nat} {j p q : Nat} (ho : Ok W16 xs) (hj : j < out.length) (hp : xs.getD j 0 = p) (hq : xs.getD (j + 1) 0 = q) (D : Nat)
    (hv : val W16 (out.take j) + W16 ^ j * (val W16 (xs.drop j) / 2) = D) :
    val W16 ((out.set j (p / 2 + q % 2 * 32768)).take (j + 1)) + W16 ^ (j + 1) * (val W16 (xs.drop (j + 1)) / 2) = D := by
  have e1 := val_drop_step W16 xs j
  have e2 := val_drop_step W16 xs (j + 1)
  rw [hp] at e1
  rw [hq] at e2
  have hpb : p < 65536 := by rw [← hp]; exact ho.getD (by decide) _
  have hW : W16 = 65536 := rfl
  have hd : p / 2 + q % 2 * 32768 = val W16 (xs.drop j) / 2 % W16 := by
    rw [e1, e2, hW]; omega
  rw [val_take_succ, take_set_lt _ _ _ _ (Nat.le_refl _), getD_set_self _ _ _ hj, hd, Nat.pow_succ]
  exact shr_step _ _ _ _ _ _ p _ (by decide) e1 (by rw [hW]; exact hpb) hv
set_option maxHeartbeats 1600000 in
theorem half_any (x : Nat) (va : Value) (w : World) (ha : Nat16 w va x) (hx : (digs W16 x).length ≤ 100000) :
    Calls Tryz.prog 107 #[va] w (RPost w (x / 2)) := by
  have HA := Lib.hid ha
  obtain ⟨A, c, rfl, hc, hm, hr⟩ := ha
  unfold maxLen at hm
  have HX := Lib.hid (And.intro (val_digs W16_gt x) (ok_digs W16_gt x))
  unfold Nat16 at HA
  generalize digs W16 x = xs at *
  generalize hn : xs.length = n at *
  have HL := Lib.hid hn
  have HR := Lib.hid hr
  clear hr hn
  obtain ⟨i0, hi0, hz0, hz1, hz2⟩ := info_parts info_i64
  have HI := Lib.hid hi0
  have HZ0 := Lib.hid hz0
  have HZ1 := Lib.hid hz1
  have HZ2 := Lib.hid hz2
  clear hi0 hz0 hz1 hz2
  go_enter Tryz.func107, Tryz.ntmps107
  go_wp2_with (at_make; refine wpList_make_full _ rfl _ _ 44 rfl w.heap.size 3 i0 (.int .i64 0) 1 Tryz.underlying44 HI.out HZ0.out HZ1.out .i64 .i64 _ _ n rfl rfl rfl rfl (by rw [HZ2.out]; omega) (by unfold maxLen; omega) (Nat.le_refl _) ?_; intro w1 hown1 hg1)
  have HO1 := Lib.hid (Own.made hown1)
  have HB1 := Lib.hid ((Below.refl w.heap.size w).grown hg1 (Nat.le_refl _) (by simp))
  clear hown1 hg1
  go_loopg [10, 4] n (fun gk si s4 wr => ∃ (j : Nat) (out : List Nat), gk + j = n ∧ si = .int .i64 (j : Int) ∧ Hid (Own .i64 3 wr w.heap.size w.heap.size n n out) ∧ Hid (Ok W16 out) ∧ Hid (val W16 (out.take j) + W16 ^ j * (val W16 (xs.drop j) / 2) = x / 2) ∧ Hid (Below w.heap.size w wr))
  case atStart => exact ⟨0, _, by omega, rfl, HO1.out, ok_replicate (by decide), by unfold Hid; rw [List.take_zero, List.drop_zero, HX.out.1]; simp, HB1.out⟩
  case round =>
    obtain ⟨j, out, hgj, rfl, HO, HOK, HV, HB⟩ := hrel
    by_cases hj : j < n
    · obtain ⟨b, o, p, rfl, hb, hpe, hcell⟩ := (HR.out.below HB.out).at_ (i := j) hj
      have hpb : p < 65536 := by rw [← hpe]; exact HX.out.2.getD (by decide) _
      have HP := Lib.hid hpe
      obtain ⟨q, hqe⟩ : ∃ q, xs.getD (j + 1) 0 = q := ⟨_, rfl⟩
      have hqb : q < 65536 := by rw [← hqe]; exact HX.out.2.getD (by decide) _
      have HQ := Lib.hid hqe
      clear hpe hqe
      obtain ⟨y, hy⟩ : ∃ y : Nat, wr.cell? ⟨w.heap.size, j, none⟩ = some (.int .i64 (y : Int)) := ⟨_, HO.out.cell hj⟩
      have hf := HO.out.frozen j
      have hj0 : (0 : Int) ≤ (j : Int) := by omega
      have hj1 : (j : Int) < (n : Int) := by omega
      have hw1 : IntKind.i64.wrap ((j : Int) + 1) = (j : Int) + 1 := by rw [IntKind.wrap_i64]; omega
      have hand := and_one_i64 q (by omega)
      have HSl : Hid (Sl .i64 wr (.slice (some ⟨b, o, none⟩) n c) xs) := HA.out.to HB.out
      have HNE1 : Hid ((⟨w.heap.size, j, none⟩ : Addr) ≠ ⟨b, o + j, none⟩) := by intro e; injection e with e; omega
      have HNE2 : Hid ((⟨b, o + j, none⟩ : Addr) ≠ ⟨w.heap.size, j, none⟩) := by intro e; injection e with e; omega
      go_wp2
      go_region_held3 (fun w' => w'.cell? ⟨b, o + j, none⟩ = some (.int .i64 (p : Int))) (first | exact hcell | exact (World.cell?_setCell_other wr ⟨w.heap.size, j, none⟩ ⟨b, o + j, none⟩ _ HNE1.out).trans hcell | exact (World.cell?_setCell_other wr ⟨w.heap.size, j, none⟩ ⟨b, o + j, none⟩ _ HNE2.out).trans hcell)
        (first | (go_at_call 105; refine (rdigit_eq xs _ (j + 1) q _ (by exact HSl.out) (by omega) HQ.out).mono ?_; rintro e w' ⟨rfl, rfl⟩))
      clear hw1 hand
      go_wp2
      go_roundg (gk - 1)
      case measure => omega
      case rel =>
        have e1 : bits .or .i64 ((p : Int) / 2) ((q : Int) % 2 * 32768) = ((p / 2 + q % 2 * 32768 : Nat) : Int) := by
          have h := or_half p (q % 2) hpb (by omega)
          have e2 : (q : Int) % 2 * 32768 = ((q % 2 * 32768 : Nat) : Int) := by omega
          have e3 : (p : Int) / 2 = ((p / 2 : Nat) : Int) := by omega
          rw [e2, e3]
          exact h
        rw [e1]
        exact ⟨j + 1, _, by omega, by go_num, (HO.out.stored _ _).drew, HOK.out.set (by show _ < 65536; omega), half_list HX.out.2 (by rw [HO.out.1]; omega) HP.out HQ.out _ HV.out, (HB.out.setCell (Nat.le_refl _) _).drew⟩
    · obtain rfl : j = n := by omega
      clear hgj hj
      go_wp2_with (go_at_call 104; refine (rtrim_any out _ _ HO.out.sl HOK.out).mono ?_; rintro e w' ⟨v', rfl, hn', rfl⟩)
      go_ret
      have hv := HV.out
      rw [List.drop_eq_nil_of_le (by rw [HL.out]; exact Nat.le_refl _), val_nil, Nat.zero_div, Nat.mul_zero, Nat.add_zero, val_take_all W16 out (by rw [HO.out.1]; exact Nat.le_refl _)] at hv
      rw [hv] at hn'
      exact ⟨_, rfl, hn', HB.out⟩
theorem quietL {P : Program} {f : FuncId} {args : Array Value} {w : World} {n : Nat} {v : Value} (h : Calls P f args (w.drewN n) fun e w' => e = .returned v ∧ w.drewN n = w') :
    Calls P f args (w.drewN n) fun e w' => e = .returned v ∧ ∃ m, w' = w.drewN m := h.mono fun _ _ hh => ⟨hh.1, n, hh.2.symm⟩
theorem val_snoc (B : Nat) (l : List Nat) (d : Nat) : val B (l ++ [d]) = val B l + B ^ l.length * d := by
  rw [val_append]; simp
theorem rsub_step {xs ys out : List Nat} {j bo p q z c : Nat} (hl : out.length = j) (hp : xs.getD j 0 = p) (hq : ys.getD j 0 = q) (hz : p + 65536 * c = z + q + bo)
    (he : val W16 (xs.take j) + W16 ^ j * bo = val W16 out + val W16 (ys.take j)) :
    val W16 (xs.take (j + 1)) + W16 ^ (j + 1) * c = val W16 (out ++ [z]) + val W16 (ys.take (j + 1)) := by
  rw [val_take_succ, val_take_succ, val_snoc, hl, hp, hq, Nat.pow_succ, Nat.mul_assoc]
  have h1 : W16 ^ j * p + W16 ^ j * (W16 * c) = W16 ^ j * z + W16 ^ j * q + W16 ^ j * bo := by
    rw [← Nat.mul_add, show W16 * c = 65536 * c from rfl, hz, Nat.mul_add, Nat.mul_add]
  omega
theorem rsub_end {xs ys out : List Nat} {n bo x y : Nat} (hx : val W16 xs = x) (hy : val W16 ys = y) (hl : xs.length = n) (hm : ys.length ≤ n) (ho : out.length = n) (ook : Ok W16 out) (hle : y ≤ x)
    (he : val W16 (xs.take n) + W16 ^ n * bo = val W16 out + val W16 (ys.take n)) : val W16 out = x - y := by
  rw [val_take_all W16 xs (by omega), val_take_all W16 ys (by omega), hx, hy] at he
  have h1 := val_lt ook
  rw [ho] at h1
  rcases Nat.eq_zero_or_pos bo with h0 | h0
  · rw [h0, Nat.mul_zero, Nat.add_zero] at he
    omega
  · exfalso
    have h4 : W16 ^ n * 1 ≤ W16 ^ n * bo := Nat.mul_le_mul_left _ h0
    omega
set_option maxHeartbeats 1600000 in
theorem rsub_any (x y : Nat) (va vb : Value) (w : World) (ha : Nat16 w va x) (hb : Nat16 w vb y) (hx : (digs W16 x).length ≤ 100000) (hle : y ≤ x) :
    Calls Tryz.prog 108 #[va, vb] w (RPost w (x - y)) := by
  have HB0 := Lib.hid hb
  obtain ⟨A, ca, rfl, hca, hma, hra⟩ := ha
  obtain ⟨A', cb, rfl, hcb, hmb, hrb⟩ := hb
  have hlen := digs_len_mono (B := W16) W16_gt hle
  have HX := Lib.hid (And.intro (And.intro (val_digs W16_gt x) (val_digs W16_gt y)) (And.intro (ok_digs W16_gt x) (ok_digs W16_gt y)))
  unfold maxLen at hma hmb
  unfold Nat16 at HB0
  generalize digs W16 x = xs at *
  generalize digs W16 y = ys at *
  generalize hn : xs.length = n at *
  generalize hm : ys.length = m at *
  have HL := Lib.hid (And.intro hn hm)
  have HRA := Lib.hid hra
  have HLE := Lib.hid hle
  clear hra hrb hm hn hle
  go_enter Tryz.func108, Tryz.ntmps108
  go_wp2
  go_loopg [11, 5, 6, 7, 8] n (fun gk si so sb s7 s8 wr => ∃ (j bo : Nat) (out : List Nat), gk + j = n ∧ si = .int .i64 (j : Int) ∧ sb = .int .i64 (bo : Int) ∧ bo ≤ 1 ∧ Hid (OwnV .i64 3 wr w.heap.size so out) ∧ Hid (out.length = j ∧ Ok W16 out) ∧ Hid (val W16 (xs.take j) + W16 ^ j * bo = val W16 out + val W16 (ys.take j)) ∧ Hid (Below w.heap.size w wr))
  case atStart => exact ⟨0, 0, [], by omega, rfl, rfl, by omega, OwnV.nil_ _, ⟨rfl, Ok.nil⟩, by unfold Hid; simp, Below.refl _ _⟩
  case round =>
    obtain ⟨j, bo, out, hgj, rfl, rfl, hbo, HS, HV, HE, HB⟩ := hrel
    by_cases hj : j < n
    · obtain ⟨b, o, p, rfl, hb, hpe, hcell⟩ := (HRA.out.below HB.out).at_ (i := j) hj
      have hpb : p < 65536 := by rw [← hpe]; exact HX.out.2.1.getD (by decide) _
      have HP := Lib.hid hpe
      obtain ⟨q, hqe⟩ : ∃ q, ys.getD j 0 = q := ⟨_, rfl⟩
      have hqb : q < 65536 := by rw [← hqe]; exact HX.out.2.2.getD (by decide) _
      have HQ := Lib.hid hqe
      clear hpe hqe
      have hj0 : (0 : Int) ≤ (j : Int) := by omega
      have hj1 : (j : Int) < (n : Int) := by omega
      have hw1 : IntKind.i64.wrap ((p : Int) - (q : Int)) = (p : Int) - (q : Int) := by rw [IntKind.wrap_i64]; omega
      have hw2 : IntKind.i64.wrap ((p : Int) - (q : Int) - (bo : Int)) = (p : Int) - (q : Int) - (bo : Int) := by rw [IntKind.wrap_i64]; omega
      have HSl : Hid (Sl .i64 wr (.slice A' m cb) ys) := HB0.out.to HB.out
      have hlen1 : out.length + [p].length ≤ 1000000 := by have := HV.out.1; simp; omega
      have HLEN := Lib.hid hlen1
      clear hlen1
      go_wp2
      go_quiet ((go_at_call 105; exact quietL (rdigit_eq ys _ j q _ (by exact HSl.out) (by omega) HQ.out)))
      clear hw1 hw2
      generalize hwq : wr.drewN nq = wq
      have HS1 : Hid (OwnV .i64 3 wq w.heap.size u5 out) := by rw [← hwq]; exact HS.out
      have HBq : Hid (Below w.heap.size w wq) := by rw [← hwq]; exact below_drewN HB.out _
      clear hwq hcell
      by_cases hneg : p < q + bo
      · obtain ⟨z, hz, hzb, HZ⟩ : ∃ z : Nat, (p : Int) - (q : Int) - (bo : Int) + 65536 = (z : Int) ∧ z < 65536 ∧ Hid (p + 65536 * 1 = z + q + bo) := ⟨p + 65536 - q - bo, by omega, by omega, by unfold Hid; omega⟩
        have hng : (p : Int) - (q : Int) - (bo : Int) < 0 := by omega
        go_wp2_with (at_builtin; refine wpList_push wq rfl _ _ 44 rfl .i64 3 8 Tryz.underlying44 info_i64 (by decide) w.heap.size _ out [z] (by rfl) (by rfl) HS1.out HLEN.out HBq.out.size _ rfl ?_; intro v1 w1 hown1 hb1)
        go_roundg (gk - 1)
        case measure => omega
        case rel =>
          obtain ⟨e1, e2⟩ := HV.out
          exact ⟨j + 1, 1, out ++ [z], by omega, by go_num, rfl, by omega, hown1, ⟨by simp; omega, e2.append (Ok.cons hzb Ok.nil)⟩, rsub_step e1 HP.out HQ.out HZ.out HE.out, HBq.out.trans hb1⟩
      · obtain ⟨z, hz, hzb, HZ⟩ : ∃ z : Nat, (p : Int) - (q : Int) - (bo : Int) = (z : Int) ∧ z < 65536 ∧ Hid (p + 65536 * 0 = z + q + bo) := ⟨p - q - bo, by omega, by omega, by unfold Hid; omega⟩
        rw [hz]
        clear hz
        go_wp2_with (at_builtin; refine wpList_push wq rfl _ _ 44 rfl .i64 3 8 Tryz.underlying44 info_i64 (by decide) w.heap.size _ out [z] (by rfl) (by rfl) HS1.out HLEN.out HBq.out.size _ rfl ?_; intro v1 w1 hown1 hb1)
        go_roundg (gk - 1)
        case measure => omega
        case rel =>
          obtain ⟨e1, e2⟩ := HV.out
          exact ⟨j + 1, 0, out ++ [z], by omega, by go_num, rfl, by omega, hown1, ⟨by simp; omega, e2.append (Ok.cons hzb Ok.nil)⟩, rsub_step e1 HP.out HQ.out HZ.out HE.out, HBq.out.trans hb1⟩
    · obtain rfl : j = n := by omega
      clear hgj hj
      go_wp2_with (go_at_call 104; refine (rtrim_any out _ _ HS.out.sl HV.out.2).mono ?_; rintro e w' ⟨v', rfl, hn', rfl⟩)
      go_ret
      rw [rsub_end HX.out.1.1 HX.out.1.2 HL.out.1 (by rw [HL.out.2]; exact hlen) HV.out.1 HV.out.2 HLE.out HE.out] at hn'
      exact ⟨_, rfl, hn', HB.out⟩
end Go.Proofs.YtkfnpcilanheiaaGreat

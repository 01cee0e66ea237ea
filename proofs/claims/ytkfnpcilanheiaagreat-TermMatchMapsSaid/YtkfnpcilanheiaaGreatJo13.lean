/- fetterlockref1.ShlNat. Conditions: at most 100000 digits and bits. And 3 more texts. -/
import Derived.Deep.CutBlock
import Derived.Test.YtkfnpcilanheiaaGreatJo6
import Derived.Test.YtkfnpcilanheiaaGreatJo12
set_option linter.unusedVariables false
set_option linter.unusedSimpArgs false
set_option maxRecDepth 100000
namespace Go.Proofs.YtkfnpcilanheiaaGreat
open Go.RowKit NumB
theorem or_low_i64 (p s c : Nat) (hp : p < 65536) (hs : s < 16) (hc : c < 2 ^ s) : bits .or .i64 ((p * 2 ^ s : Nat) : Int) (c : Int) = ((p * 2 ^ s + c : Nat) : Int) ∧ p * 2 ^ s + c < 4294967296 := by
  have h1 : (2 : Nat) ^ s ≤ 2 ^ 15 := Nat.pow_le_pow_right (by omega) (by omega)
  have h2 : p * 2 ^ s ≤ 65535 * 2 ^ 15 := Nat.mul_le_mul (by omega) h1
  have e : p * 2 ^ s ||| c = p * 2 ^ s + c := by
    rw [← Nat.shiftLeft_eq, ← Nat.shiftLeft_add_eq_or_of_lt hc]
  refine ⟨?_, by omega⟩
  show IntKind.i64.wrap ((BitVec.ofInt 64 ((p * 2 ^ s : Nat) : Int) ||| BitVec.ofInt 64 (c : Int)).toNat : Int) = _
  have e1 : (BitVec.ofInt 64 ((p * 2 ^ s : Nat) : Int)).toNat = p * 2 ^ s := by
    rw [BitVec.ofInt_natCast, BitVec.toNat_ofNat]; exact Nat.mod_eq_of_lt (by omega)
  have e2 : (BitVec.ofInt 64 (c : Int)).toNat = c := by
    rw [BitVec.ofInt_natCast, BitVec.toNat_ofNat]; exact Nat.mod_eq_of_lt (by omega)
  rw [BitVec.toNat_or, e1, e2, e, IntKind.wrap_i64]
  omega
theorem rshl_facts (p s c : Nat) (hp : p < 65536) (hs : s < 16) (hc : c < 2 ^ s) : ∃ y t lo hi : Nat, IntKind.i64.wrap ((p : Int) * 2 ^ s) = (y : Int) ∧ bits .or .i64 (y : Int) (c : Int) = (t : Int) ∧ (t : Int) % 65536 = (lo : Int) ∧ (t : Int) / 65536 = (hi : Int) ∧ t < 4294967296 ∧ lo < 65536 ∧ hi < 2 ^ s ∧ p * 2 ^ s + c = lo + 65536 * hi := by
  obtain ⟨h1, h2⟩ := or_low_i64 p s c hp hs hc
  refine ⟨p * 2 ^ s, p * 2 ^ s + c, (p * 2 ^ s + c) % 65536, (p * 2 ^ s + c) / 65536, ?_, h1, by omega, by omega, h2, by omega, ?_, by omega⟩
  · rw [← pow32, ← Int.natCast_mul]
    generalize p * 2 ^ s = y at *
    rw [IntKind.wrap_i64]
    omega
  · rw [Nat.div_lt_iff_lt_mul (by omega)]
    have h3 : (p + 1) * 2 ^ s ≤ 65536 * 2 ^ s := Nat.mul_le_mul_right _ (by omega)
    rw [Nat.add_mul, Nat.one_mul, Nat.mul_comm 65536] at h3
    omega
theorem rshl_step {xs out : List Nat} {j k s c p lo hi : Nat} (hl : out.length = k + j) (hx : xs.getD j 0 = p) (he : p * 2 ^ s + c = lo + 65536 * hi)
    (hv : val W16 out + W16 ^ (k + j) * c = 2 ^ s * W16 ^ k * val W16 (xs.take j)) :
    val W16 (out ++ [lo]) + W16 ^ (k + (j + 1)) * hi = 2 ^ s * W16 ^ k * val W16 (xs.take (j + 1)) := by
  rw [val_snoc, hl, val_take_succ, hx, ← Nat.add_assoc, Nat.pow_succ, Nat.mul_assoc, Nat.add_assoc, ← Nat.mul_add, show lo + W16 * hi = lo + 65536 * hi from rfl, ← he, Nat.mul_add, Nat.mul_add (2 ^ s * W16 ^ k), ← hv]
  have : W16 ^ (k + j) * (p * 2 ^ s) = 2 ^ s * W16 ^ k * (W16 ^ j * p) := by
    rw [Nat.pow_add]; simp only [Nat.mul_comm, Nat.mul_left_comm, Nat.mul_assoc]
  omega
set_option maxHeartbeats 1600000 in
theorem rshl_any (x n : Nat) (va : Value) (w : World) (ha : Nat16 w va x) (hl : (digs W16 x).length ≤ 100000) (hn : n ≤ 1000000) :
    Calls Tryz.prog 109 #[va, .int .i64 (n : Int)] w (RPost w (x * 2 ^ n)) := by
  obtain ⟨A, c, rfl, hc, hm, hr⟩ := ha
  unfold maxLen at hm
  obtain ⟨k, s, hk, hs, hs16, HN⟩ : ∃ k s : Nat, (n : Int) / 16 = (k : Int) ∧ (n : Int) % 16 = (s : Int) ∧ s < 16 ∧ Hid (n = 16 * k + s) := ⟨n / 16, n % 16, by omega, by omega, by omega, by unfold Hid; omega⟩
  have hkb : k ≤ 100000 := by have := HN.out; omega
  have HX := Lib.hid (And.intro (val_digs W16_gt x) (ok_digs W16_gt x))
  generalize digs W16 x = xs at *
  generalize hxl : xs.length = l at *
  have HL := Lib.hid hxl
  have HR := Lib.hid hr
  clear hxl hr
  by_cases h0 : l = 0
  · subst h0
    have hb0 : (((0 : Nat) : Int) == 0) = true := rfl
    have HX0 : Hid (x = 0) := by
      have h1 := HX.out.1
      rw [List.eq_nil_of_length_eq_zero HL.out] at h1
      exact h1.symm
    clear hk hs
    go_enter Tryz.func109, Tryz.ntmps109
    go_wp2
    go_ret
    refine ⟨_, rfl, ?_, Below.refl _ _⟩
    rw [HX0.out, Nat.zero_mul]
    exact nat16_zero _
  have hb0 : ((l : Int) == 0) = false := beq_eq_false_iff_ne.2 (by omega)
  obtain ⟨i0, hi0, hz0, hz1, hz2⟩ := info_parts info_i64
  have HI := Lib.hid hi0
  have HZ0 := Lib.hid hz0
  have HZ1 := Lib.hid hz1
  have HZ2 := Lib.hid hz2
  clear hi0 hz0 hz1 hz2
  go_enter Tryz.func109, Tryz.ntmps109
  go_wp2_with (at_make; refine wpList_make_full _ rfl _ _ 44 rfl w.heap.size 3 i0 (.int .i64 0) 1 Tryz.underlying44 HI.out HZ0.out HZ1.out .i64 .i64 _ _ k rfl rfl (by omega) (by omega) (by rw [HZ2.out]; omega) (by unfold maxLen; omega) (Nat.le_refl _) ?_; intro w1 hown1 hg1)
  have HO1 : Hid (OwnV .i64 3 w1 w.heap.size (.slice (some ⟨w.heap.size, 0, none⟩) k k) (List.replicate k 0)) := by
    have h := (Own.made hown1).2
    unfold OwnV
    rw [List.length_replicate]
    exact h
  have HB1 := Lib.hid ((Below.refl w.heap.size w).grown hg1 (Nat.le_refl _) (by simp))
  clear hown1 hg1
  go_loopg [18, 5, 6, 8, 9] l (fun gk si so sc s8 s9 wr => ∃ (j ca : Nat) (out : List Nat), gk + j = l ∧ si = .int .i64 (j : Int) ∧ sc = .int .i64 (ca : Int) ∧ ca < 2 ^ s ∧ Hid (OwnV .i64 3 wr w.heap.size so out) ∧ Hid (out.length = k + j ∧ Ok W16 out) ∧ Hid (val W16 out + W16 ^ (k + j) * ca = 2 ^ s * W16 ^ k * val W16 (xs.take j)) ∧ Hid (Below w.heap.size w wr))
  case atStart => exact ⟨0, 0, List.replicate k 0, by omega, rfl, rfl, Nat.pow_pos (by omega), HO1.out, ⟨by simp, ok_replicate (by decide)⟩, by unfold Hid; rw [val_replicate]; simp, HB1.out⟩
  case round =>
    obtain ⟨j, ca, out, hgj, rfl, rfl, hca, HS, HV, HE, HB⟩ := hrel
    by_cases hj : j < l
    · obtain ⟨b, o, p, rfl, hb, hpe, hcell⟩ := (HR.out.below HB.out).at_ (i := j) hj
      have hpb : p < 65536 := by rw [← hpe]; exact HX.out.2.getD (by decide) _
      have HP := Lib.hid hpe
      clear hpe
      obtain ⟨y, t, lo, hi, f1, f2, f3, f4, htb, hlo, hhi, fe⟩ := rshl_facts p s ca hpb hs16 hca
      have HFE := Lib.hid fe
      have hlen1 : out.length + [lo].length ≤ 1000000 := by have := HV.out.1; simp; omega
      have HLEN := Lib.hid hlen1
      clear hlen1 fe
      go_wp2_with (at_builtin; refine wpList_push wr rfl _ _ 44 rfl .i64 3 8 Tryz.underlying44 info_i64 (by decide) w.heap.size _ out [lo] (by rfl) (by rfl) HS.out HLEN.out HB.out.size _ rfl ?_; intro v1 w1 hown1 hb1)
      go_roundg (gk - 1)
      case measure => omega
      case rel =>
        obtain ⟨e1, e2⟩ := HV.out
        exact ⟨j + 1, hi, out ++ [lo], by omega, by go_num, rfl, hhi, hown1, ⟨by simp; omega, e2.append (Ok.cons hlo Ok.nil)⟩, rshl_step e1 HP.out HFE.out HE.out, HB.out.trans hb1⟩
    · obtain rfl : j = l := by omega
      have hlen1 : out.length + [ca].length ≤ 1000000 := by have := HV.out.1; simp; omega
      have HLEN := Lib.hid hlen1
      clear hgj hj hlen1
      have HCA : Hid (ca < 65536) := by
        have h1 : (2 : Nat) ^ s ≤ 2 ^ 15 := Nat.pow_le_pow_right (by omega) (by omega)
        unfold Hid; omega
      go_wp2_with (first
        | (at_builtin; refine wpList_push wr rfl _ _ 44 rfl .i64 3 8 Tryz.underlying44 info_i64 (by decide) w.heap.size _ out [ca] (by rfl) (by rfl) HS.out HLEN.out HB.out.size _ rfl ?_; intro v1 w1 hown1 hb1)
        | (go_at_call 104; refine (rtrim_any (out ++ [ca]) _ _ hown1.sl (HV.out.2.append (Ok.cons HCA.out Ok.nil))).mono ?_; rintro e w' ⟨v', rfl, hn', rfl⟩))
      go_ret
      have he := HE.out
      rw [val_take_all W16 xs (by rw [HL.out]; exact Nat.le_refl _), HX.out.1] at he
      have hv : val W16 (out ++ [ca]) = x * 2 ^ n := by
        rw [val_snoc, HV.out.1, he, HN.out, Nat.pow_add, Nat.pow_mul, show (2 : Nat) ^ 16 = W16 from rfl, Nat.mul_comm x, Nat.mul_comm (W16 ^ k)]
      rw [hv] at hn'
      exact ⟨_, rfl, hn', HB.out.trans hb1⟩
theorem gcd_even_odd (p q : Nat) (hp : p % 2 = 0) (hq : q % 2 = 1) : Nat.gcd (p / 2) q = Nat.gcd p q := by
  have hc : Nat.Coprime 2 q := by
    show Nat.gcd 2 q = 1
    rw [Nat.gcd_rec, hq]; rfl
  have e : p = 2 * (p / 2) := by omega
  have h := Nat.Coprime.gcd_mul_left_cancel (p / 2) hc
  rw [← e] at h
  exact h.symm
theorem gcd_odd_even (p q : Nat) (hp : p % 2 = 1) (hq : q % 2 = 0) : Nat.gcd p (q / 2) = Nat.gcd p q := by
  rw [Nat.gcd_comm, gcd_even_odd q p hq hp, Nat.gcd_comm]
theorem gcd_both_even (p q t g : Nat) (hp : p % 2 = 0) (hq : q % 2 = 0) (h : 2 ^ t * Nat.gcd p q = g) : 2 ^ (t + 1) * Nat.gcd (p / 2) (q / 2) = g := by
  have e1 : p = 2 * (p / 2) := by omega
  have e2 : q = 2 * (q / 2) := by omega
  rw [e1, e2, Nat.gcd_mul_left, ← Nat.mul_assoc, ← Nat.pow_succ] at h
  exact h
theorem rbit_even (x : Nat) (v : Value) (w : World) (h : Nat16 w v x) (he : x % 2 = 0) :
    Calls Tryz.prog 106 #[v, .int .i64 0] w fun e w' => e = .returned (.int .i64 0) ∧ w = w' := by
  refine (rbit_any x 0 v w h (by omega)).mono ?_
  rintro e w' ⟨rfl, rfl⟩
  rw [Nat.pow_zero, Nat.div_one, he]
  exact ⟨rfl, rfl⟩
theorem rbit_odd (x : Nat) (v : Value) (w : World) (h : Nat16 w v x) (he : x % 2 = 1) :
    Calls Tryz.prog 106 #[v, .int .i64 0] w fun e w' => e = .returned (.int .i64 1) ∧ w = w' := by
  refine (rbit_any x 0 v w h (by omega)).mono ?_
  rintro e w' ⟨rfl, rfl⟩
  rw [Nat.pow_zero, Nat.div_one, he]
  exact ⟨rfl, rfl⟩
theorem half_len {x : Nat} {l : Nat} (h : (digs W16 x).length ≤ l) : (digs W16 (x / 2)).length ≤ l := Nat.le_trans (digs_len_mono W16_gt (Nat.div_le_self _ _)) h
def TwoN (w : World) (s0 s1 : Value) (p q : Nat) : Prop := Nat16 w s0 p ∧ Nat16 w s1 q ∧ (digs W16 p).length ≤ 50000 ∧ (digs W16 q).length ≤ 50000
theorem nat16_len {w : World} {v : Value} {x : Nat} (h : Nat16 w v x) (hl : (digs W16 x).length ≤ 50000) : ∃ A n c, v = .slice A n c ∧ n ≤ 50000 ∧ (0 < n ↔ 0 < x) := by
  obtain ⟨A, c, rfl, _⟩ := h
  refine ⟨A, _, c, rfl, hl, ?_⟩
  constructor
  · intro h0
    rcases Nat.eq_zero_or_pos x with h1 | h1
    · subst h1; rw [digs_zero] at h0; exact absurd h0 (by simp)
    · exact h1
  · intro h0
    rcases Nat.eq_zero_or_pos (digs W16 x).length with h1 | h1
    · exact absurd ((digs_nil W16_gt).1 (List.eq_nil_of_length_eq_zero h1)) (by omega)
    · exact h1
theorem twos_le {x t p N : Nat} (hx : (digs W16 x).length ≤ N) (hp : 0 < p) (h : 2 ^ t * p ≤ x) : t ≤ 16 * N := by
  have h1 : 2 ^ t * 1 ≤ 2 ^ t * p := Nat.mul_le_mul_left _ hp
  have h2 := digs_lt (n := x) W16_gt
  have h3 : W16 ^ (digs W16 x).length ≤ W16 ^ N := Nat.pow_le_pow_right (by decide) hx
  have h4 : W16 ^ N = 2 ^ (16 * N) := by rw [show W16 = 2 ^ 16 from rfl, ← Nat.pow_mul]
  have h5 : 2 ^ t < 2 ^ (16 * N) := by rw [← h4]; omega
  exact Nat.le_of_lt ((Nat.pow_lt_pow_iff_right (by omega)).1 h5)
set_option maxHeartbeats 3200000 in
theorem rgcd_any (x y : Nat) (va vb : Value) (w : World) (ha : Nat16 w va x) (hb : Nat16 w vb y) (hx : (digs W16 x).length ≤ 50000) (hy : (digs W16 y).length ≤ 50000) :
    Calls Tryz.prog 61 #[va, vb] w (RPost w (Nat.gcd x y)) := by
  have HA := Lib.hid ha
  have HB := Lib.hid hb
  obtain ⟨A, n, c, rfl, hn, hnx⟩ := nat16_len ha hx
  obtain ⟨A', m, c', rfl, hm, hmy⟩ := nat16_len hb hy
  clear ha hb
  by_cases hx0 : x = 0
  · have hn0 : n = 0 := by omega
    subst hn0 hx0
    clear hnx hmy
    have hb0 : (((0 : Nat) : Int) == 0) = true := rfl
    go_enter Tryz.func61, Tryz.ntmps61
    go_wp2
    go_ret
    rw [Nat.gcd_zero_left]
    exact ⟨_, rfl, HB.out, Below.refl _ _⟩
  by_cases hy0 : y = 0
  · have hm0 : m = 0 := by omega
    have hb1 : ((n : Int) == 0) = false := beq_eq_false_iff_ne.2 (by omega)
    subst hm0 hy0
    clear hnx hmy hx0
    have hb0 : (((0 : Nat) : Int) == 0) = true := rfl
    go_enter Tryz.func61, Tryz.ntmps61
    go_wp2
    go_ret
    rw [Nat.gcd_zero_right]
    exact ⟨_, rfl, HA.out, Below.refl _ _⟩
  have hb1 : ((n : Int) == 0) = false := beq_eq_false_iff_ne.2 (by omega)
  have hb2 : ((m : Int) == 0) = false := beq_eq_false_iff_ne.2 (by omega)
  have HXY : Hid (0 < x ∧ 0 < y) := ⟨by omega, by omega⟩
  clear hnx hmy hx0 hy0
  go_enter Tryz.func61, Tryz.ntmps61
  go_upto_block 0 with fail
  go_cut [0, 1, 5] (fun s0 s1 s5 wx => ∃ p q t : Nat, s5 = .int .i64 (t : Int) ∧ 0 < p ∧ 0 < q ∧ Hid (p % 2 = 1 ∨ q % 2 = 1) ∧ Hid (TwoN wx s0 s1 p q) ∧ Hid (2 ^ t * Nat.gcd p q = Nat.gcd x y) ∧ Hid (Below w.heap.size w wx) ∧ t ≤ 1000000)
  case first =>
    go_wp2_with fail
    go_loopg [0, 1, 5] x (fun gk s0 s1 s5 wr => ∃ q t : Nat, s5 = .int .i64 (t : Int) ∧ 0 < gk ∧ 0 < q ∧ Hid (TwoN wr s0 s1 gk q) ∧ Hid (2 ^ t * Nat.gcd gk q = Nat.gcd x y) ∧ Hid (2 ^ t * gk ≤ x) ∧ Hid (Below w.heap.size w wr) ∧ t ≤ 1000000)
    case atStart => exact ⟨y, 0, rfl, HXY.out.1, HXY.out.2, ⟨HA.out, HB.out, hx, hy⟩, by unfold Hid; simp, by unfold Hid; simp, Below.refl _ _, by omega⟩
    case round =>
      obtain ⟨q, t, rfl, hp, hq, HT, HG, HX, HBe, ht⟩ := hrel
      by_cases hpo : gk % 2 = 1
      · have HPO := Lib.hid hpo
        clear hpo
        go_wp2_with (go_at_call 106; refine (rbit_odd gk _ _ HT.out.1 HPO.out).mono ?_; rintro e w1 ⟨rfl, rfl⟩)
        go_meet
        case rel => exact ⟨gk, q, t, rfl, hp, hq, .inl HPO.out, HT.out, HG.out, HBe.out, ht⟩
      · have HPE : Hid (gk % 2 = 0) := by unfold Hid; omega
        clear hpo
        by_cases hqo : q % 2 = 1
        · have HQO := Lib.hid hqo
          clear hqo
          go_wp2_with fail
          refine (rbit_even gk _ _ HT.out.1 HPE.out).mono ?_
          rintro e w1 ⟨rfl, rfl⟩
          go_wp2_with fail
          refine (rbit_odd q _ _ HT.out.2.1 HQO.out).mono ?_
          rintro e w1 ⟨rfl, rfl⟩
          go_wp2_with fail
          go_meet
          case rel => exact ⟨gk, q, t, rfl, hp, hq, .inr HQO.out, HT.out, HG.out, HBe.out, ht⟩
        · have HQE : Hid (q % 2 = 0) := by unfold Hid; omega
          clear hqo
          go_wp2_with fail
          refine (rbit_even gk _ _ HT.out.1 HPE.out).mono ?_
          rintro e w1 ⟨rfl, rfl⟩
          go_wp2_with fail
          refine (rbit_even q _ _ HT.out.2.1 HQE.out).mono ?_
          rintro e w1 ⟨rfl, rfl⟩
          go_wp2_with fail
          refine (half_any gk _ _ HT.out.1 (Nat.le_trans HT.out.2.2.1 (by omega))).mono ?_
          rintro e w2 ⟨v2, rfl, hn2, hb2⟩
          have H2 := Lib.hid (And.intro hn2 hb2)
          clear hn2 hb2
          go_wp2_with fail
          refine (half_any q _ _ (HT.out.2.1.to H2.out.2) (Nat.le_trans HT.out.2.2.2 (by omega))).mono ?_
          rintro e w3 ⟨v3, rfl, hn3, hb3⟩
          have H3 := Lib.hid (And.intro hn3 hb3)
          clear hn3 hb3
          go_wp2
          go_roundg (gk / 2)
          case measure => omega
          case rel =>
            have hx2 : 2 ^ (t + 1) * (gk / 2) ≤ x := by
              have h1 := HX.out
              have h2 : 2 ^ (t + 1) * (gk / 2) = 2 ^ t * (2 * (gk / 2)) := by rw [Nat.pow_succ, Nat.mul_assoc]
              have h3 : 2 * (gk / 2) = gk := by have := HPE.out; omega
              rw [h2, h3]; exact h1
            have hp2 : 0 < gk / 2 := by have := HPE.out; omega
            have hq2 : 0 < q / 2 := by have := HQE.out; omega
            have ht2 := twos_le hx hp2 hx2
            exact ⟨q / 2, t + 1, by go_num, hp2, hq2, ⟨H2.out.1.to H3.out.2, H3.out.1, half_len HT.out.2.2.1, half_len HT.out.2.2.2⟩, gcd_both_even _ _ _ _ HPE.out HQE.out HG.out, hx2, (HBe.out.trans (H2.out.2.mono HBe.out.size)).trans (H3.out.2.mono (Nat.le_trans HBe.out.size H2.out.2.size)), by omega⟩
  case rest =>
    obtain ⟨p0, q0, t, rfl, hp, hq, HO, HT, HG, HBe, ht⟩ := hcut
    clear HA HB hx hy hn hm HXY hb1 hb2
    go_wp2_with fail
    go_loopg [0, 1, 6] (p0 + q0) (fun gk s0 s1 s6 wr => ∃ p q : Nat, p + q = gk ∧ 0 < q ∧ Hid (p % 2 = 1 ∨ q % 2 = 1) ∧ Hid (TwoN wr s0 s1 p q) ∧ Hid (2 ^ t * Nat.gcd p q = Nat.gcd x y) ∧ Hid (Below w.heap.size w wr))
    case atStart => exact ⟨p0, q0, rfl, hq, HO.out, HT.out, HG.out, HBe.out⟩
    case round =>
      obtain ⟨p, q, hpq, hq', HO', HT', HG', HB'⟩ := hrel
      obtain ⟨Ap, np, cp, hs0, hnp, hpp⟩ := nat16_len HT'.out.1 HT'.out.2.2.1
      subst hs0
      subst hpq
      clear HO HT HG HBe hp hq
      by_cases hp0 : p = 0
      · have hnp0 : np = 0 := by omega
        subst hp0 hnp0
        clear hpp
        go_wp2_with fail
        refine (rshl_any q t _ _ HT'.out.2.1 (Nat.le_trans HT'.out.2.2.2 (by omega)) (by omega)).mono ?_
        rintro e w2 ⟨v2, rfl, hn2, hb2⟩
        go_wp2
        go_ret
        have hg := HG'.out
        rw [Nat.gcd_zero_left, Nat.mul_comm] at hg
        rw [hg] at hn2
        exact ⟨_, rfl, hn2, HB'.out.trans (hb2.mono HB'.out.size)⟩
      · have hnp1 : 0 < np := by omega
        have HP0 : Hid (0 < p) := by unfold Hid; omega
        have HNP := Lib.hid hpp
        clear hpp hp0
        go_upto_block 4 with fail
        go_cut [0] (fun s0 wx => ∃ p' : Nat, 0 < p' ∧ p' ≤ p ∧ Hid (p' % 2 = 1) ∧ Hid (TwoN wx s0 u1 p' q) ∧ Hid (2 ^ t * Nat.gcd p' q = Nat.gcd x y) ∧ Hid (Below w.heap.size w wx))
        case first =>
          go_wp2_with fail
          go_loopg [0] p (fun gj s0 wq => 0 < gj ∧ gj ≤ p ∧ Hid (gj % 2 = 1 ∨ q % 2 = 1) ∧ Hid (TwoN wq s0 u1 gj q) ∧ Hid (2 ^ t * Nat.gcd gj q = Nat.gcd x y) ∧ Hid (Below w.heap.size w wq))
          case atStart => exact ⟨HP0.out, Nat.le_refl _, HO'.out, HT'.out, HG'.out, HB'.out⟩
          case round =>
            obtain ⟨hj, hjp, HO3, HT3, HG3, HB3⟩ := hrel
            by_cases hpo : gk % 2 = 1
            · have HPO := Lib.hid hpo
              clear hpo
              go_wp2_with (go_at_call 106; refine (rbit_odd gk _ _ HT3.out.1 HPO.out).mono ?_; rintro e w1 ⟨rfl, rfl⟩)
              go_meet
              case rel => exact ⟨gk, hj, hjp, HPO.out, HT3.out, HG3.out, HB3.out⟩
            · have HPE : Hid (gk % 2 = 0) := by unfold Hid; omega
              clear hpo
              go_wp2_with fail
              refine (rbit_even gk _ _ HT3.out.1 HPE.out).mono ?_
              rintro e w1 ⟨rfl, rfl⟩
              go_wp2_with fail
              refine (half_any gk _ _ HT3.out.1 (Nat.le_trans HT3.out.2.2.1 (by omega))).mono ?_
              rintro e w2 ⟨v2, rfl, hn2, hb2⟩
              have H2 := Lib.hid (And.intro hn2 hb2)
              clear hn2 hb2
              go_wp2
              go_roundg (gk / 2)
              case measure => omega
              case rel =>
                have hqo : q % 2 = 1 := by
                  have h1 := HO3.out
                  have h2 := HPE.out
                  omega
                have hp2 : 0 < gk / 2 := by have := HPE.out; omega
                exact ⟨hp2, by omega, .inr hqo, ⟨H2.out.1, HT3.out.2.1.to H2.out.2, half_len HT3.out.2.2.1, HT3.out.2.2.2⟩, by unfold Hid; rw [gcd_even_odd _ _ HPE.out hqo]; exact HG3.out, HB3.out.trans (H2.out.2.mono HB3.out.size)⟩
        case rest =>
          obtain ⟨p', hp', hpp', HPO, HT2, HG2, HB2⟩ := hcut
          clear HO' HG' HB' HT' HNP
          go_upto_block 6 with fail
          go_cut [1] (fun s1 wx => ∃ q' : Nat, 0 < q' ∧ q' ≤ q ∧ Hid (q' % 2 = 1) ∧ Hid (TwoN wx u0 s1 p' q') ∧ Hid (2 ^ t * Nat.gcd p' q' = Nat.gcd x y) ∧ Hid (Below w.heap.size w wx))
          case first =>
            go_wp2_with fail
            go_loopg [1] q (fun gj s1 wq => 0 < gj ∧ gj ≤ q ∧ Hid (TwoN wq u0 s1 p' gj) ∧ Hid (2 ^ t * Nat.gcd p' gj = Nat.gcd x y) ∧ Hid (Below w.heap.size w wq))
            case atStart => exact ⟨hq', Nat.le_refl _, HT2.out, HG2.out, HB2.out⟩
            case round =>
              obtain ⟨hj, hjp, HT3, HG3, HB3⟩ := hrel
              by_cases hpo : gk % 2 = 1
              · have HQO := Lib.hid hpo
                clear hpo
                go_wp2_with (go_at_call 106; refine (rbit_odd gk _ _ HT3.out.2.1 HQO.out).mono ?_; rintro e w1 ⟨rfl, rfl⟩)
                go_meet
                case rel => exact ⟨gk, hj, hjp, HQO.out, HT3.out, HG3.out, HB3.out⟩
              · have HPE : Hid (gk % 2 = 0) := by unfold Hid; omega
                clear hpo
                go_wp2_with fail
                refine (rbit_even gk _ _ HT3.out.2.1 HPE.out).mono ?_
                rintro e w1 ⟨rfl, rfl⟩
                go_wp2_with fail
                refine (half_any gk _ _ HT3.out.2.1 (Nat.le_trans HT3.out.2.2.2 (by omega))).mono ?_
                rintro e w2 ⟨v2, rfl, hn2, hb2⟩
                have H2 := Lib.hid (And.intro hn2 hb2)
                clear hn2 hb2
                go_wp2
                go_roundg (gk / 2)
                case measure => omega
                case rel =>
                  have hp2 : 0 < gk / 2 := by have := HPE.out; omega
                  exact ⟨hp2, by omega, ⟨HT3.out.1.to H2.out.2, H2.out.1, HT3.out.2.2.1, half_len HT3.out.2.2.2⟩, by unfold Hid; rw [gcd_odd_even _ _ HPO.out HPE.out]; exact HG3.out, HB3.out.trans (H2.out.2.mono HB3.out.size)⟩
          case rest =>
            obtain ⟨q', hq2, hqq', HQO, HT4, HG4, HB4⟩ := hcut
            clear HT2 HG2 HB2
            go_wp2_with fail
            refine (rcmp_any p' q' _ _ _ HT4.out.1 HT4.out.2.1 (Nat.le_trans HT4.out.2.2.1 (by omega)) (Nat.le_trans HT4.out.2.2.2 (by omega))).mono ?_
            rintro e w2 ⟨rfl, rfl⟩
            by_cases hlt : p' < q'
            · rw [cmpI_lt hlt]
              have HLT := Lib.hid hlt
              clear hlt
              go_wp2_with fail
              refine (rsub_any q' p' _ _ _ HT4.out.2.1 HT4.out.1 (Nat.le_trans HT4.out.2.2.2 (by omega)) (Nat.le_of_lt HLT.out)).mono ?_
              rintro e w3 ⟨v3, rfl, hn3, hb3⟩
              have H3 := Lib.hid (And.intro hn3 hb3)
              clear hn3 hb3
              go_wp2
              go_roundg ((q' - p') + p')
              case measure => have := HP0.out; have := HLT.out; omega
              case rel => exact ⟨q' - p', p', rfl, hp', .inr HPO.out, ⟨H3.out.1, HT4.out.1.to H3.out.2, Nat.le_trans (digs_len_mono W16_gt (Nat.sub_le _ _)) HT4.out.2.2.2, HT4.out.2.2.1⟩, by unfold Hid; rw [Nat.gcd_comm (q' - p') p', Nat.gcd_sub_self_right (Nat.le_of_lt HLT.out)]; exact HG4.out, HB4.out.trans (H3.out.2.mono HB4.out.size)⟩
            · generalize hk : cmpI p' q' = k
              have hk0 : (decide (k < 0)) = false := by rw [decide_eq_false_iff_not, ← hk, cmpI_neg]; exact hlt
              have hkb := cmpI_bd p' q'
              rw [hk] at hkb
              clear hk
              have HGE : Hid (q' ≤ p') := by unfold Hid; omega
              clear hlt
              go_wp2_with fail
              refine (rsub_any p' q' _ _ _ HT4.out.1 HT4.out.2.1 (Nat.le_trans HT4.out.2.2.1 (by omega)) HGE.out).mono ?_
              rintro e w3 ⟨v3, rfl, hn3, hb3⟩
              have H3 := Lib.hid (And.intro hn3 hb3)
              clear hn3 hb3
              go_wp2
              go_roundg ((p' - q') + q')
              case measure => have := HP0.out; have := HGE.out; omega
              case rel => exact ⟨p' - q', q', rfl, hq2, .inr HQO.out, ⟨H3.out.1, HT4.out.2.1.to H3.out.2, Nat.le_trans (digs_len_mono W16_gt (Nat.sub_le _ _)) HT4.out.2.2.1, HT4.out.2.2.2⟩, by unfold Hid; rw [Nat.gcd_sub_self_left HGE.out]; exact HG4.out, HB4.out.trans (H3.out.2.mono HB4.out.size)⟩
set_option maxHeartbeats 1600000 in
theorem fault_big (neg : Bool) (xs ys : List Nat) (va vb : Value) (w : World) (ha : Sl .u32 w va xs) (hb : Sl .u32 w vb ys) (hx : 128 < xs.length ∨ 128 < ys.length) :
    Calls Tryz.prog 21 #[.agg #[.bool neg, va, vb]] w fun e w' => e = .returned (.int .i64 3) ∧ Below w.heap.size w w' := by
  obtain ⟨A, ca, rfl, hca, hma, hra⟩ := ha
  obtain ⟨A', cb, rfl, hcb, hmb, hrb⟩ := hb
  unfold maxLen at hma hmb
  generalize xs.length = n at *
  generalize ys.length = m at *
  clear hra hrb
  by_cases h : 128 < n
  · clear hx
    go_enter Tryz.func21, Tryz.ntmps21
    go_wp2
    go_ret
    exact ⟨rfl, (Below.refl _ _).alloc (Nat.le_refl _) _⟩
  · have hm : 128 < m := by omega
    have hn : n ≤ 128 := by omega
    clear hx h
    go_enter Tryz.func21, Tryz.ntmps21
    go_wp2
    go_ret
    exact ⟨rfl, (Below.refl _ _).alloc (Nat.le_refl _) _⟩
theorem lastB_pos {xs : List Nat} {k : Nat} (hn : xs.length = k + 1) : lastB xs = decide (xs.getD k 0 = 0) := by
  unfold lastB
  rw [hn]
  exact decide_eq_decide.2 ⟨fun h => h.2, fun h => ⟨by omega, h⟩⟩
theorem lastB_nil {xs : List Nat} (hn : xs.length = 0) : lastB xs = false := decide_eq_false (by omega)
set_option maxHeartbeats 1600000 in
theorem fault_last (neg : Bool) (xs ys : List Nat) (va vb : Value) (w : World) (ha : Sl .u32 w va xs) (hb : Sl .u32 w vb ys) (hx : xs.length ≤ 128) (hy : ys.length ≤ 128) (hl : lastB xs = true ∨ lastB ys = true ∨ ys.length = 0) :
    Calls Tryz.prog 21 #[.agg #[.bool neg, va, vb]] w fun e w' => e = .returned (.int .i64 2) ∧ Below w.heap.size w w' := by
  have hbo : ∀ o : Obj, Below w.heap.size w (w.alloc o) := fun o => (Below.refl _ _).alloc (Nat.le_refl _) o
  obtain ⟨A, ca, rfl, hca, hma, hra⟩ := ha
  obtain ⟨A', cb, rfl, hcb, hmb, hrb⟩ := hb
  unfold maxLen at hma hmb
  have HBO := Lib.hid hbo
  clear hbo
  generalize hn : xs.length = n at *
  generalize hm : ys.length = m at *
  rcases Nat.eq_zero_or_pos m with hm0 | hm0
  · subst hm0
    clear hl hra hrb hn hm
    go_enter Tryz.func21, Tryz.ntmps21
    go_wp2
    go_ret
    exact ⟨rfl, HBO.out _⟩
  · obtain ⟨k, rfl⟩ : ∃ k, m = k + 1 := ⟨m - 1, by omega⟩
    obtain ⟨b, o, p, rfl, hbb, hpe, hcp⟩ := hrb.at_ (i := k) (by omega)
    have hk : ((k + 1 : Nat) : Int) - 1 = (k : Int) := by omega
    have hk1 : (k : Int) < ((k + 1 : Nat) : Int) := by omega
    have hk2 : (((k + 1 : Nat) : Int) == 0) = false := beq_eq_false_iff_ne.2 (by omega)
    rw [lastB_pos hm, hpe] at hl
    clear hrb hm
    by_cases hp : p = 0
    · subst hp
      clear hl hra hn hpe
      go_enter Tryz.func21, Tryz.ntmps21
      go_wp2
      go_ret
      exact ⟨rfl, HBO.out _⟩
    · have hp0 : ((p : Int) == 0) = false := beq_eq_false_iff_ne.2 (by omega)
      have hl1 : lastB xs = true := by
        rcases hl with h | h | h
        · exact h
        · exact absurd (of_decide_eq_true h) hp
        · omega
      rcases Nat.eq_zero_or_pos n with hn0 | hn0
      · rw [lastB_nil (by omega)] at hl1; exact absurd hl1 (by decide)
      · obtain ⟨j, rfl⟩ : ∃ j, n = j + 1 := ⟨n - 1, by omega⟩
        obtain ⟨b2, o2, q, rfl, hbb2, hqe, hcq⟩ := hra.at_ (i := j) (by omega)
        rw [lastB_pos hn, hqe] at hl1
        obtain rfl : q = 0 := of_decide_eq_true hl1
        have hj : ((j + 1 : Nat) : Int) - 1 = (j : Int) := by omega
        have hj1 : (j : Int) < ((j + 1 : Nat) : Int) := by omega
        have hj2 : (0 : Int) < ((j + 1 : Nat) : Int) := by omega
        clear hl hra hn hpe hp hl1 hqe
        go_enter Tryz.func21, Tryz.ntmps21
        go_wp2
        go_ret
        exact ⟨rfl, HBO.out _⟩
end Go.Proofs.YtkfnpcilanheiaaGreat

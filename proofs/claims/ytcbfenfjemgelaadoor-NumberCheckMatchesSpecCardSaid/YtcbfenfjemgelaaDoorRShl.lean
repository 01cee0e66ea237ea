/- fetterlockref1.ShlNat. Conditions: at most 100000 digits and bits. -/
import Derived.Test.YtcbfenfjemgelaaDoorRSub
namespace Go.Proofs.YtcbfenfjemgelaaDoor
open Go.RowKit NumB
set_option linter.unusedVariables false

theorem or_low_i64 (p s c : Nat) (hp : p < 65536) (hs : s < 16) (hc : c < 2 ^ s) : bits .or .i64 ((p * 2 ^ s : Nat) : Int) (c : Int) = ((p * 2 ^ s + c : Nat) : Int) ∧ p * 2 ^ s + c < 4294967296 := by
  have h1 : (2 : Nat) ^ s ≤ 2 ^ 15 := Nat.pow_le_pow_right (by omega) (by omega)
  have h2 : p * 2 ^ s ≤ 65535 * 2 ^ 15 := Nat.mul_le_mul (by omega) h1
  have e : p * 2 ^ s ||| c = p * 2 ^ s + c := by
    rw [← Nat.shiftLeft_eq, ← Nat.shiftLeft_add_eq_or_of_lt hc]
  refine ⟨?_, by omega⟩
  show IntKind.i64.wrap ((BitVec.ofInt 64 ((p * 2 ^ s : Nat) : Int) ||| BitVec.ofInt 64 (c : Int)).toNat : Int) = _
  have e1 : (BitVec.ofInt 64 ((p * 2 ^ s : Nat) : Int)).toNat = p * 2 ^ s := by
    rw [BitVec.ofInt_natCast, BitVec.toNat_ofNat]; exact Nat.mod_eq_of_lt (by omega)
  have e2 : (BitVec.ofInt 64 (c : Int)).toNat = c := by
    rw [BitVec.ofInt_natCast, BitVec.toNat_ofNat]; exact Nat.mod_eq_of_lt (by omega)
  rw [BitVec.toNat_or, e1, e2, e, IntKind.wrap_i64]
  omega
theorem rshl_facts (p s c : Nat) (hp : p < 65536) (hs : s < 16) (hc : c < 2 ^ s) : ∃ y t lo hi : Nat, IntKind.i64.wrap ((p : Int) * 2 ^ s) = (y : Int) ∧ bits .or .i64 (y : Int) (c : Int) = (t : Int) ∧ (t : Int) % 65536 = (lo : Int) ∧ (t : Int) / 65536 = (hi : Int) ∧ t < 4294967296 ∧ lo < 65536 ∧ hi < 2 ^ s ∧ p * 2 ^ s + c = lo + 65536 * hi := by
  obtain ⟨h1, h2⟩ := or_low_i64 p s c hp hs hc
  refine ⟨p * 2 ^ s, p * 2 ^ s + c, (p * 2 ^ s + c) % 65536, (p * 2 ^ s + c) / 65536, ?_, h1, by omega, by omega, h2, by omega, ?_, by omega⟩
  · rw [← pow32, ← Int.natCast_mul]
    generalize p * 2 ^ s = y at *
    rw [IntKind.wrap_i64]
    omega
  · rw [Nat.div_lt_iff_lt_mul (by omega)]
    have h3 : (p + 1) * 2 ^ s ≤ 65536 * 2 ^ s := Nat.mul_le_mul_right _ (by omega)
    rw [Nat.add_mul, Nat.one_mul, Nat.mul_comm 65536] at h3
    omega
theorem rshl_step {xs out : List Nat} {j k s c p lo hi : Nat} (hl : out.length = k + j) (hx : xs.getD j 0 = p) (he : p * 2 ^ s + c = lo + 65536 * hi)
    (hv : val W16 out + W16 ^ (k + j) * c = 2 ^ s * W16 ^ k * val W16 (xs.take j)) :
    val W16 (out ++ [lo]) + W16 ^ (k + (j + 1)) * hi = 2 ^ s * W16 ^ k * val W16 (xs.take (j + 1)) := by
  rw [val_snoc, hl, val_take_succ, hx, ← Nat.add_assoc, Nat.pow_succ, Nat.mul_assoc, Nat.add_assoc, ← Nat.mul_add, show lo + W16 * hi = lo + 65536 * hi from rfl, ← he, Nat.mul_add, Nat.mul_add (2 ^ s * W16 ^ k), ← hv]
  have : W16 ^ (k + j) * (p * 2 ^ s) = 2 ^ s * W16 ^ k * (W16 ^ j * p) := by
    rw [Nat.pow_add]; simp only [Nat.mul_comm, Nat.mul_left_comm, Nat.mul_assoc]
  omega

set_option maxRecDepth 100000 in
set_option maxHeartbeats 1600000 in
theorem rshl_any (x n : Nat) (va : Value) (w : World) (ha : Nat16 w va x) (hl : (digs W16 x).length ≤ 100000) (hn : n ≤ 1000000) :
    Calls Tryd.prog 23 #[va, .int .i64 (n : Int)] w (RPost w (x * 2 ^ n)) := by
  obtain ⟨A, c, rfl, hc, hm, hr⟩ := ha
  unfold maxLen at hm
  obtain ⟨k, s, hk, hs, hs16, HN⟩ : ∃ k s : Nat, (n : Int) / 16 = (k : Int) ∧ (n : Int) % 16 = (s : Int) ∧ s < 16 ∧ Hid (n = 16 * k + s) := ⟨n / 16, n % 16, by omega, by omega, by omega, by unfold Hid; omega⟩
  have hkb : k ≤ 100000 := by have := HN.out; omega
  have HX := Lib.hid (And.intro (val_digs W16_gt x) (ok_digs W16_gt x))
  generalize digs W16 x = xs at *
  generalize hxl : xs.length = l at *
  have HL := Lib.hid hxl
  have HR := Lib.hid hr
  clear hxl hr
  by_cases h0 : l = 0
  · subst h0
    have hb0 : (((0 : Nat) : Int) == 0) = true := rfl
    have HX0 : Hid (x = 0) := by
      have h1 := HX.out.1
      rw [List.eq_nil_of_length_eq_zero HL.out] at h1
      exact h1.symm
    clear hk hs
    go_enter Tryd.func23, Tryd.ntmps23
    go_wp2
    go_ret
    refine ⟨_, rfl, ?_, Below.refl _ _⟩
    rw [HX0.out, Nat.zero_mul]
    exact nat16_zero _
  have hb0 : ((l : Int) == 0) = false := beq_eq_false_iff_ne.2 (by omega)
  obtain ⟨i0, hi0, hz0, hz1, hz2⟩ := info_parts info_i64
  have HI := Lib.hid hi0
  have HZ0 := Lib.hid hz0
  have HZ1 := Lib.hid hz1
  have HZ2 := Lib.hid hz2
  clear hi0 hz0 hz1 hz2
  go_enter Tryd.func23, Tryd.ntmps23
  go_wp2_with (at_make; refine wpList_make_full _ rfl _ _ 33 rfl w.heap.size 3 i0 (.int .i64 0) 1 Tryd.underlying33 HI.out HZ0.out HZ1.out .i64 .i64 _ _ k rfl rfl (by omega) (by omega) (by rw [HZ2.out]; omega) (by unfold maxLen; omega) (Nat.le_refl _) ?_; intro w1 hown1 hg1)
  have HO1 : Hid (OwnV .i64 3 w1 w.heap.size (.slice (some ⟨w.heap.size, 0, none⟩) k k) (List.replicate k 0)) := by
    have h := (Own.made hown1).2
    unfold OwnV
    rw [List.length_replicate]
    exact h
  have HB1 := Lib.hid ((Below.refl w.heap.size w).grown hg1 (Nat.le_refl _) (by simp))
  clear hown1 hg1
  go_loopg [18, 5, 6, 8, 9] l (fun gk si so sc s8 s9 wr => ∃ (j ca : Nat) (out : List Nat), gk + j = l ∧ si = .int .i64 (j : Int) ∧ sc = .int .i64 (ca : Int) ∧ ca < 2 ^ s ∧ Hid (OwnV .i64 3 wr w.heap.size so out) ∧ Hid (out.length = k + j ∧ Ok W16 out) ∧ Hid (val W16 out + W16 ^ (k + j) * ca = 2 ^ s * W16 ^ k * val W16 (xs.take j)) ∧ Hid (Below w.heap.size w wr))
  case atStart => exact ⟨0, 0, List.replicate k 0, by omega, rfl, rfl, Nat.pow_pos (by omega), HO1.out, ⟨by simp, ok_replicate (by decide)⟩, by unfold Hid; rw [val_replicate]; simp, HB1.out⟩
  case round =>
    obtain ⟨j, ca, out, hgj, rfl, rfl, hca, HS, HV, HE, HB⟩ := hrel
    by_cases hj : j < l
    · obtain ⟨b, o, p, rfl, hb, hpe, hcell⟩ := (HR.out.below HB.out).at_ (i := j) hj
      have hpb : p < 65536 := by rw [← hpe]; exact HX.out.2.getD (by decide) _
      have HP := Lib.hid hpe
      clear hpe
      obtain ⟨y, t, lo, hi, f1, f2, f3, f4, htb, hlo, hhi, fe⟩ := rshl_facts p s ca hpb hs16 hca
      have HFE := Lib.hid fe
      have hlen1 : out.length + [lo].length ≤ 1000000 := by have := HV.out.1; simp; omega
      have HLEN := Lib.hid hlen1
      clear hlen1 fe
      go_wp2_with (at_builtin; refine wpList_push wr rfl _ _ 33 rfl .i64 3 8 Tryd.underlying33 info_i64 (by decide) w.heap.size _ out [lo] (by rfl) (by rfl) HS.out HLEN.out HB.out.size _ rfl ?_; intro v1 w1 hown1 hb1)
      go_roundg (gk - 1)
      case measure => omega
      case rel =>
        obtain ⟨e1, e2⟩ := HV.out
        exact ⟨j + 1, hi, out ++ [lo], by omega, by go_num, rfl, hhi, hown1, ⟨by simp; omega, e2.append (Ok.cons hlo Ok.nil)⟩, rshl_step e1 HP.out HFE.out HE.out, HB.out.trans hb1⟩
    · obtain rfl : j = l := by omega
      have hlen1 : out.length + [ca].length ≤ 1000000 := by have := HV.out.1; simp; omega
      have HLEN := Lib.hid hlen1
      clear hgj hj hlen1
      have HCA : Hid (ca < 65536) := by
        have h1 : (2 : Nat) ^ s ≤ 2 ^ 15 := Nat.pow_le_pow_right (by omega) (by omega)
        unfold Hid; omega
      go_wp2_with (first
        | (at_builtin; refine wpList_push wr rfl _ _ 33 rfl .i64 3 8 Tryd.underlying33 info_i64 (by decide) w.heap.size _ out [ca] (by rfl) (by rfl) HS.out HLEN.out HB.out.size _ rfl ?_; intro v1 w1 hown1 hb1)
        | (go_at_call 18; refine (rtrim_any (out ++ [ca]) _ _ hown1.sl (HV.out.2.append (Ok.cons HCA.out Ok.nil))).mono ?_; rintro e w' ⟨v', rfl, hn', rfl⟩))
      go_ret
      have he := HE.out
      rw [val_take_all W16 xs (by rw [HL.out]; exact Nat.le_refl _), HX.out.1] at he
      have hv : val W16 (out ++ [ca]) = x * 2 ^ n := by
        rw [val_snoc, HV.out.1, he, HN.out, Nat.pow_add, Nat.pow_mul, show (2 : Nat) ^ 16 = W16 from rfl, Nat.mul_comm x, Nat.mul_comm (W16 ^ k)]
      rw [hv] at hn'
      exact ⟨_, rfl, hn', HB.out.trans hb1⟩
end Go.Proofs.YtcbfenfjemgelaaDoor

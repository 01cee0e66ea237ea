/-  -/
import Derived.Test.YtkamkaehlofgpaaJo3
set_option linter.unusedVariables false
set_option linter.unusedSimpArgs false
/- nat.Shl: a shift to the left. Conditions: at most 100000 limbs and bits. -/
namespace Go.Proofs.Ytkamkaehlofgpaa
open Go.RowKit NumB
set_option linter.unusedVariables false
set_option linter.unusedSimpArgs false

theorem low_bits (p s : Nat) (hs : s < 32) : p * 2 ^ s % 4294967296 = (p % 2 ^ (32 - s)) * 2 ^ s := by
  have : (4294967296 : Nat) = 2 ^ (32 - s) * 2 ^ s := by rw [← Nat.pow_add, Nat.sub_add_cancel (by omega)]
  rw [this, Nat.mul_mod_mul_right]
theorem low_bound (p s h : Nat) (hs : s < 32) (hh : h < 2 ^ s) : h + p * 2 ^ s % 4294967296 < 4294967296 := by
  rw [low_bits p s hs]
  have h1 : p % 2 ^ (32 - s) + 1 ≤ 2 ^ (32 - s) := Nat.mod_lt _ (Nat.pow_pos (by omega))
  have h2 : (p % 2 ^ (32 - s) + 1) * 2 ^ s ≤ 2 ^ (32 - s) * 2 ^ s := Nat.mul_le_mul_right _ h1
  rw [← Nat.pow_add, Nat.sub_add_cancel (by omega), Nat.add_mul, Nat.one_mul] at h2
  omega
theorem low_or (p s h : Nat) (hs : s < 32) (hh : h < 2 ^ s) : h ||| p * 2 ^ s % 4294967296 = h + p * 2 ^ s % 4294967296 := by
  rw [low_bits p s hs, Nat.or_comm, ← Nat.shiftLeft_eq, ← Nat.shiftLeft_add_eq_or_of_lt hh, Nat.add_comm]
theorem shl_lt (p s : Nat) (hp : p < 4294967296) (hs : s < 32) : p * 2 ^ s < 9223372036854775808 := by
  have h1 : (2 : Nat) ^ s ≤ 2 ^ 31 := Nat.pow_le_pow_right (by omega) (by omega)
  have h2 : p * 2 ^ s ≤ 4294967295 * 2 ^ 31 := Nat.mul_le_mul (by omega) h1
  omega
theorem hi_lt (p s : Nat) (hp : p < 4294967296) : p * 2 ^ s / 4294967296 < 2 ^ s := by
  rw [Nat.div_lt_iff_lt_mul (by omega), Nat.mul_comm]
  exact Nat.mul_lt_mul_of_pos_left hp (Nat.pow_pos (by omega))
theorem shl_alg {V P S K Va Wj p h lo hi B : Nat} (hP : P = Wj * K) (hy : p * S = lo + B * hi) (hv : V + P * h = S * K * Va) :
    V + P * (h + lo) + P * B * hi = S * K * (Va + Wj * p) := by
  have e : P * lo + P * B * hi = S * K * (Wj * p) := by
    rw [Nat.mul_assoc, ← Nat.mul_add, ← hy, hP]
    simp only [Nat.mul_comm, Nat.mul_left_comm]
  rw [Nat.mul_add, Nat.mul_add (S * K)]
  omega
theorem pow32 (s : Nat) : ((2 ^ s : Nat) : Int) = 2 ^ s := Int.natCast_pow 2 s
theorem shl_wrap (p s : Nat) (hp : p < 4294967296) (hs : s < 32) : IntKind.u64.wrap ((p : Int) * 2 ^ s) = ((p * 2 ^ s : Nat) : Int) := by
  have h := shl_lt p s hp hs
  rw [← pow32, ← Int.natCast_mul]
  generalize p * 2 ^ s = y at *
  rw [IntKind.wrap_u64]
  omega
theorem or_u32 (a b : Nat) (ha : a < 4294967296) (hb : b < 4294967296) : bits .or .u32 (a : Int) (b : Int) = ((a ||| b : Nat) : Int) := by
  have h := u32_or (a : Int) (b : Int) (by omega) (by omega) (by omega) (by omega)
  rw [Int.toNat_natCast, Int.toNat_natCast] at h
  exact h
theorem shl_low (p s h : Nat) (hp : p < 4294967296) (hs : s < 32) (hh : h < 2 ^ s) :
    bits .or .u32 (h : Int) (IntKind.u64.wrap ((p : Int) * 2 ^ s) % 4294967296) = ((h + p * 2 ^ s % 4294967296 : Nat) : Int) := by
  have hb : h < 4294967296 := by have := low_bound p s h hs hh; omega
  rw [shl_wrap p s hp hs, (of_cast _).1, or_u32 _ _ hb (Nat.mod_lt _ (by omega)), low_or p s h hs hh]
theorem shl_high (p s : Nat) (hp : p < 4294967296) (hs : s < 32) :
    bits .or .u32 0 (IntKind.u64.wrap ((p : Int) * 2 ^ s) / 4294967296 % 4294967296) = ((p * 2 ^ s / 4294967296 : Nat) : Int) := by
  have h := hi_lt p s hp
  have h1 : (2 : Nat) ^ s ≤ 2 ^ 31 := Nat.pow_le_pow_right (by omega) (by omega)
  have hlt : p * 2 ^ s / 4294967296 < 4294967296 := by omega
  rw [shl_wrap p s hp hs, (of_cast _).2, (of_cast _).1, Nat.mod_eq_of_lt hlt]
  have h2 := or_u32 0 _ (by omega) hlt
  rw [Nat.zero_or] at h2
  exact h2

theorem shl_step {xs out : List Nat} {j k s h p : Nat} (hj : j + k + 1 < out.length) (hs : s < 32) (hp : p < 4294967296) (hx : xs.getD j 0 = p)
    (hv : val W32 (out.take (j + k)) + W32 ^ (j + k) * h = 2 ^ s * W32 ^ k * val W32 (xs.take j)) :
    val W32 ((((out.set (j + k) (h + p * 2 ^ s % 4294967296)).set (j + k + 1) (p * 2 ^ s / 4294967296)).take (j + 1 + k))) + W32 ^ (j + 1 + k) * (p * 2 ^ s / 4294967296) = 2 ^ s * W32 ^ k * val W32 (xs.take (j + 1)) := by
  rw [show j + 1 + k = j + k + 1 from by omega, take_set_lt _ _ _ _ (Nat.le_refl _), val_take_succ, val_take_succ, take_set_lt _ _ _ _ (Nat.le_refl _), getD_set_self _ _ _ (by omega), hx, Nat.pow_succ]
  exact shl_alg (Nat.pow_add _ _ _) (by rw [show W32 = 4294967296 from rfl]; omega) hv

theorem shl_end {xs out : List Nat} {l k s h x n : Nat} (hl : xs.length = l) (ho : out.length = l + k + 1) (hx : val W32 xs = x) (hn : n = 32 * k + s) (hh : out.getD (l + k) 0 = h)
    (hv : val W32 (out.take (l + k)) + W32 ^ (l + k) * h = 2 ^ s * W32 ^ k * val W32 (xs.take l)) : val W32 out = x * 2 ^ n := by
  have h1 := val_take_succ W32 out (l + k)
  rw [val_take_all W32 out (by omega), hh, hv, val_take_all W32 xs (by omega), hx] at h1
  rw [h1, hn, Nat.pow_add, Nat.pow_mul, show (2 : Nat) ^ 32 = W32 from rfl, Nat.mul_comm x, Nat.mul_comm (W32 ^ k)]

set_option maxRecDepth 100000 in
set_option maxHeartbeats 800000 in
theorem shl_any (x n : Nat) (va : Value) (w : World) (ha : Nat32 w va x) (hl : (digs W32 x).length ≤ 100000) (hn : n ≤ 100000) :
    Calls Try.prog 92 #[va, .int .i64 (n : Int)] w fun e w' => ∃ v, e = .returned v ∧ Nat32 w' v (x * 2 ^ n) ∧ Below w.heap.size w w' := by
  obtain ⟨A, c, rfl, hc, hm, hr⟩ := ha
  unfold maxLen at hm
  obtain ⟨k, s, hk, hs, hs32, HN⟩ : ∃ k s : Nat, (n : Int) / 32 = (k : Int) ∧ (n : Int) % 32 = (s : Int) ∧ s < 32 ∧ Hid (n = 32 * k + s) := ⟨n / 32, n % 32, by omega, by omega, by omega, by unfold Hid; omega⟩
  have hkb : k ≤ 100000 := by have := HN.out; omega
  have HX := Lib.hid (val_digs W32_gt x)
  have HO := Lib.hid (ok_digs W32_gt x)
  generalize digs W32 x = xs at *
  generalize hxl : xs.length = l at *
  have HL := Lib.hid hxl
  have HR := Lib.hid hr
  clear hxl hr
  by_cases h0 : l = 0
  · subst h0
    have hb0 : (((0 : Nat) : Int) == 0) = true := rfl
    have HX0 : Hid (x = 0) := by
      have h1 := HX.out
      rw [List.eq_nil_of_length_eq_zero HL.out] at h1
      exact h1.symm
    clear hk hs
    go_enter Try.func92, Try.ntmps92
    go_wp2
    go_ret
    refine ⟨_, rfl, ?_, Below.refl _ _⟩
    rw [HX0.out, Nat.zero_mul]
    unfold Nat32
    rw [digs_zero]
    exact (OwnV.nil_ (B := 0) (T := 0) w).sl
  have hb0 : ((l : Int) == 0) = false := beq_eq_false_iff_ne.2 (by omega)
  obtain ⟨i0, hi0, hz0, hz1, hz2⟩ := info_parts info_u32
  have HI := Lib.hid hi0
  have HZ0 := Lib.hid hz0
  have HZ1 := Lib.hid hz1
  have HZ2 := Lib.hid hz2
  clear hi0 hz0 hz1 hz2
  go_enter Try.func92, Try.ntmps92
  go_wp2_with (at_make; refine wpList_make_full _ rfl _ _ 23 rfl w.heap.size 61 i0 (.int .u32 0) 1 Try.underlying23 HI.out HZ0.out HZ1.out .i64 .i64 _ _ (l + k + 1) rfl rfl (by omega) (by omega) (by rw [HZ2.out]; omega) (by unfold maxLen; omega) (Nat.le_refl _) ?_; intro w1 hown1 hg1)
  have HOW := Lib.hid (Own.made hown1)
  have HB := Lib.hid ((Below.refl w.heap.size w).grown hg1 (Nat.le_refl _) (by simp))
  clear hown1 hg1
  go_loopg [21] l (fun g i wr => ∃ (j h : Nat) (out : List Nat), g + j = l ∧ i = .int .i64 (j : Int) ∧ h < 2 ^ s ∧ Hid (out.getD (j + k) 0 = h) ∧ Hid (Own .u32 61 wr w.heap.size w.heap.size (l + k + 1) (l + k + 1) out) ∧ Hid (Below w.heap.size w wr) ∧ Hid (val W32 (out.take (j + k)) + W32 ^ (j + k) * h = 2 ^ s * W32 ^ k * val W32 (xs.take j)) ∧ Hid (Ok W32 out) ∧ Hid (∀ q, j + k < q → out.getD q 0 = 0))
  case atStart =>
    refine ⟨0, 0, List.replicate (l + k + 1) 0, by omega, rfl, Nat.pow_pos (by omega), ?_, HOW.out, HB.out, ?_, ok_replicate (by decide), ?_⟩
    · exact getD_replicate _ _
    · show _ = _
      rw [List.take_replicate, val_replicate]; simp
    · exact fun q _ => getD_replicate _ _
  case round =>
    obtain ⟨j, h, out, hg, rfl, hh, HH, HOw, HBw, HV, HOo, HQ⟩ := hrel
    by_cases hj : j < l
    · obtain ⟨b, o, p, rfl, hb, hpe, hcell⟩ := (HR.out.below HBw.out).at_ (i := j) (by omega)
      have hp : p < 4294967296 := by rw [← hpe]; exact HO.out.getD (by decide) _
      have HP := Lib.hid hpe
      clear hpe
      have hy := HOw.out.cell (i := j + k) (by omega)
      rw [HH.out] at hy
      have hy2 := HOw.out.cell (i := j + k + 1) (by omega)
      rw [HQ.out _ (by omega)] at hy2
      have hf := HOw.out.frozen (j + k)
      have hf2 := HOw.out.frozen (j + k + 1)
      go_wp2
      go_roundg (gk - 1)
      case measure => omega
      case rel =>
        rw [shl_low p s h hp hs32 hh, shl_high p s hp hs32]
        have hlen : out.length = l + k + 1 := HOw.out.1
        refine ⟨j + 1, p * 2 ^ s / 4294967296, _, by omega, by go_num, hi_lt p s hp, ?_, (HOw.out.stored _ _).stored _ _, (HBw.out.setCell (Nat.le_refl _) _).setCell (Nat.le_refl _) _, shl_step (by omega) hs32 hp HP.out HV.out, ?_, ?_⟩
        · show _ = _
          rw [show j + 1 + k = j + k + 1 from by omega, getD_set_self _ _ _ (by simp; omega)]
        · have h1 := hi_lt p s hp
          have h2 : (2 : Nat) ^ s ≤ 2 ^ 31 := Nat.pow_le_pow_right (by omega) (by omega)
          exact (HOo.out.set (low_bound p s h hs32 hh)).set (by show _ < 4294967296; omega)
        · intro q hq
          rw [NumB.getD_set_ne _ _ _ _ (by omega), NumB.getD_set_ne _ _ _ _ (by omega)]
          exact HQ.out q (by omega)
    · obtain rfl : j = l := by omega
      go_wp2_with (go_at_call 95; refine (trim_any out _ (j + k + 1) (j + k + 1) _ _ HOw.out.rd HOo.out (Nat.le_refl _) (by unfold maxLen; omega)).mono ?_; rintro e w' ⟨m, rfl, hm', ht, rfl⟩)
      go_ret
      rw [shl_end HL.out HOw.out.1 HX.out HN.out HH.out HV.out] at ht
      exact ⟨_, rfl, Sl.of_rd HOw.out.rd hm' (Nat.le_refl _) (by unfold maxLen; omega) ht, HBw.out⟩
end Go.Proofs.Ytkamkaehlofgpaa

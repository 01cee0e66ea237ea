/- fetterlockref1.MulNat. Conditions: at most 50000 digits. number.compare, number.Compare; fetterlockref1.Cmp. fetterlockref1.Cmp. fetterlockref1.IsInt; Fault at any number. How long the digits in base 2^16 are. fetterlockref1.Whole. -/
import Derived.Deep.RegionHeld3
import Derived.Test.YtdhgbnnopekfjaaDoorJo12
import Derived.Test.YtdhgbnnopekfjaaDoorJo18
import Derived.Test.YtdhgbnnopekfjaaDoorJo21
import Derived.Test.YtdhgbnnopekfjaaDoorJo23
set_option linter.unusedVariables false
set_option linter.unusedSimpArgs false
namespace Go.Proofs.YtdhgbnnopekfjaaDoor
open Go.RowKit NumB
set_option linter.unusedVariables false
set_option linter.unusedSimpArgs false

theorem rmul_inner {out o2 ys : List Nat} {i k c x y o s : Nat} (hlen : i + k < o2.length) (ho : out.getD (i + k) 0 = o) (hy : ys.getD k 0 = y) (hs : s = c + (x * y + o))
    (h : val W16 (o2.take (i + k)) + W16 ^ (i + k) * c = val W16 (out.take (i + k)) + W16 ^ i * x * val W16 (ys.take k)) :
    val W16 ((o2.set (i + k) (s % 65536)).take (i + (k + 1))) + W16 ^ (i + (k + 1)) * (s / 65536) = val W16 (out.take (i + (k + 1))) + W16 ^ i * x * val W16 (ys.take (k + 1)) := by
  rw [← Nat.add_assoc, val_take_succ, val_take_succ, val_take_succ, take_set_lt _ _ _ _ (Nat.le_refl _), getD_set_self _ _ _ hlen, ho, hy, Nat.pow_succ]
  exact mul_alg hs (Nat.pow_add _ _ _) h W16
theorem rmul_outer {out o2 xs ys : List Nat} {i m k x Y : Nat} (hm : ys.length = m) (hY : val W16 ys = Y) (hx : xs.getD i 0 = x) (hk : k = m ∨ k = m + 1) (hz : ∀ q, i + m ≤ q → out.getD q 0 = 0) (hj : ∀ q, i + k ≤ q → o2.getD q 0 = out.getD q 0)
    (h : val W16 (o2.take (i + k)) + W16 ^ (i + k) * 0 = val W16 (out.take (i + k)) + W16 ^ i * x * val W16 (ys.take k)) (ho : val W16 (out.take (i + m)) = val W16 (xs.take i) * Y) :
    val W16 (o2.take (i + 1 + m)) = val W16 (xs.take (i + 1)) * Y := by
  rw [Nat.mul_zero, Nat.add_zero, val_take_all W16 ys (j := k) (by omega), hY] at h
  rw [val_take_succ W16 xs, hx, Nat.add_mul, ← ho]
  rcases hk with rfl | rfl
  · rw [show i + 1 + k = i + k + 1 from by omega, val_take_succ, hj _ (Nat.le_refl _), hz _ (Nat.le_refl _), Nat.mul_zero, Nat.add_zero]
    exact h
  · rw [show i + (m + 1) = i + m + 1 from by omega] at h
    rw [show i + 1 + m = i + m + 1 from by omega, h, val_take_succ, hz _ (Nat.le_refl _), Nat.mul_zero, Nat.add_zero]

set_option maxRecDepth 100000 in
set_option maxHeartbeats 6400000 in
theorem rmul_any (x y : Nat) (va vb : Value) (w : World) (ha : Nat16 w va x) (hb : Nat16 w vb y) (hx : (digs W16 x).length ≤ 50000) (hy : (digs W16 y).length ≤ 50000) :
    Calls Tryd.prog 50 #[va, vb] w (RPost w (x * y)) := by
  have HB0 := Lib.hid hb
  obtain ⟨A, ca, rfl, hca, hma, hra⟩ := ha
  obtain ⟨A', cb, rfl, hcb, hmb, hrb⟩ := hb
  unfold maxLen at hma hmb
  unfold Nat16 at HB0
  have HX := Lib.hid (And.intro (And.intro (val_digs W16_gt x) (val_digs W16_gt y)) (And.intro (ok_digs W16_gt x) (ok_digs W16_gt y)))
  generalize digs W16 x = xs at *
  generalize digs W16 y = ys at *
  generalize hn : xs.length = n at *
  generalize hm : ys.length = m at *
  have HRA := Lib.hid hra
  have HM := Lib.hid hm
  clear hra hrb hn hm
  obtain ⟨i0, hi0, hz0, hz1, hz2⟩ := info_parts info_i64
  have HI := Lib.hid hi0
  have HZ0 := Lib.hid hz0
  have HZ1 := Lib.hid hz1
  have HZ2 := Lib.hid hz2
  clear hi0 hz0 hz1 hz2
  go_enter Tryd.func50, Tryd.ntmps50
  go_wp2_with (at_make; refine wpList_make_full _ rfl _ _ 36 rfl w.heap.size 3 i0 (.int .i64 0) 1 Tryd.underlying36 HI.out HZ0.out HZ1.out .i64 .i64 _ _ (n + m + 1) rfl rfl (by omega) (by omega) (by rw [HZ2.out]; omega) (by unfold maxLen; omega) (Nat.le_refl _) ?_; intro w1 hown1 hg1)
  have HO1 := Lib.hid (Own.made hown1)
  have HB1 := Lib.hid ((Below.refl w.heap.size w).grown hg1 (Nat.le_refl _) (by simp))
  clear hown1 hg1
  go_loopg [19, 6, 7, 8, 9] n (fun gk si s6 s7 s8 s9 wr => ∃ (i : Nat) (out : List Nat), gk + i = n ∧ si = .int .i64 (i : Int) ∧ Hid (Own .i64 3 wr w.heap.size w.heap.size (n + m + 1) (n + m + 1) out) ∧ Hid (Ok W16 out) ∧ Hid (∀ q, i + m ≤ q → out.getD q 0 = 0) ∧ Hid (val W16 (out.take (i + m)) = val W16 (xs.take i) * y) ∧ Hid (Below w.heap.size w wr))
  case atStart => exact ⟨0, List.replicate (n + m + 1) 0, by omega, rfl, HO1.out, ok_replicate (by decide), fun q _ => getD_replicate _ _, by unfold Hid; rw [List.take_replicate, val_replicate]; simp, HB1.out⟩
  case round =>
    obtain ⟨i, out, hgi, rfl, HO, HOK, HZ, HE, HB⟩ := hrel
    obtain ⟨wo, rfl⟩ : ∃ wo : World, wo = wr := ⟨_, rfl⟩
    by_cases hi : i < n
    · obtain ⟨b, o, p, rfl, hb, hpe, hcp0⟩ := HRA.out.at_ (i := i) hi
      have hpb : p < 65536 := by rw [← hpe]; exact HX.out.2.1.getD (by decide) _
      have HP := Lib.hid hpe
      have HCP := Lib.hid hcp0
      clear hpe hcp0
      go_wp2_with fail
      go_loopg [7, 8, 9] (m + 2) (fun gk2 s7 s8 s9 wr => ∃ (k c : Nat) (o2 : List Nat), gk2 + k = m + 2 ∧ k ≤ m + 1 ∧ (k = m + 1 → c = 0) ∧ s8 = .int .i64 (k : Int) ∧ s7 = .int .i64 (c : Int) ∧ c < 65536 ∧ Hid (Own .i64 3 wr w.heap.size w.heap.size (n + m + 1) (n + m + 1) o2) ∧ Hid (Ok W16 o2) ∧ Hid (∀ q, i + k ≤ q → o2.getD q 0 = out.getD q 0) ∧ Hid (val W16 (o2.take (i + k)) + W16 ^ (i + k) * c = val W16 (out.take (i + k)) + W16 ^ i * p * val W16 (ys.take k)) ∧ Hid (Below w.heap.size w wr))
      case atStart => exact ⟨0, 0, out, by omega, by omega, fun _ => rfl, rfl, rfl, by omega, HO.out, HOK.out, fun _ _ => rfl, by unfold Hid; simp, HB.out⟩
      case round =>
        obtain ⟨k, c, o2, hgk, hkm, hkc, rfl, rfl, hc, HO2, HOK2, HJ2, HE2, HB2⟩ := hrel
        by_cases hex : m ≤ k ∧ c = 0
        · obtain ⟨hmk, rfl⟩ := hex
          have hnk : ¬ (k < m) := by omega
          clear hkc
          go_wp2
          go_roundg (n - (i + 1))
          case measure => omega
          case rel =>
            refine ⟨i + 1, o2, by omega, by go_num, HO2.out, HOK2.out, ?_, rmul_outer HM.out HX.out.1.2 HP.out (by omega) HZ.out HJ2.out HE2.out HE.out, HB2.out⟩
            intro q' hq'
            rw [HJ2.out q' (by omega)]
            exact HZ.out q' (by omega)
        · have hkm2 : k ≤ m := by
            rcases Nat.lt_or_ge m k with h | h
            · exact absurd ⟨by omega, hkc (by omega)⟩ hex
            · exact h
          have hcase : k < m ∨ (m ≤ k ∧ 0 < c) := by
            rcases Nat.lt_or_ge k m with h | h
            · exact .inl h
            · exact .inr ⟨h, Nat.pos_of_ne_zero fun h0 => hex ⟨h, h0⟩⟩
          obtain ⟨q, hqe⟩ : ∃ q, ys.getD k 0 = q := ⟨_, rfl⟩
          have hqb : q < 65536 := by rw [← hqe]; exact HX.out.2.2.getD (by decide) _
          have HQ0 : Hid (k = m → q = 0) := fun h => by rw [← hqe]; exact getD_ge (by rw [HM.out]; omega)
          have HQ := Lib.hid hqe
          clear hqe
          obtain ⟨r, hr⟩ : ∃ r, out.getD (i + k) 0 = r := ⟨_, rfl⟩
          have HR := Lib.hid hr
          have HR0 : Hid (k = m → r = 0) := fun h => by rw [← hr]; exact HZ.out _ (by omega)
          have hrb : r < 65536 := by rw [← hr]; exact HOK.out.getD (by decide) _
          have hcr : wr.cell? ⟨w.heap.size, i + k, none⟩ = some (.int .i64 (r : Int)) := by rw [← hr, ← HJ2.out _ (Nat.le_refl _)]; exact HO2.out.cell (by omega)
          have hcp : wr.cell? ⟨b, o + i, none⟩ = some (.int .i64 (p : Int)) := (HB2.out.cell (p := ⟨b, o + i, none⟩) hb).trans HCP.out
          clear hr hex hkc
          obtain ⟨pq, hpq⟩ : ∃ pq, pq = p * q := ⟨_, rfl⟩
          have HPQ := Lib.hid hpq
          have hpqb : pq ≤ 4294836225 := by rw [hpq]; exact Nat.mul_le_mul (show p ≤ 65535 by omega) (show q ≤ 65535 by omega)
          have hpqi : (p : Int) * (q : Int) = (pq : Int) := by rw [hpq, Int.natCast_mul]
          clear hpq
          have HSl : Hid (Sl .i64 wr (.slice A' m cb) ys) := HB0.out.to HB2.out
          have hi0 : (0 : Int) ≤ (i : Int) + (k : Int) := by omega
          have hi1 : (i : Int) + (k : Int) < ((n + m + 1 : Nat) : Int) := by omega
          have hi2 : (0 : Int) ≤ (i : Int) := by omega
          have hi3 : (i : Int) < (n : Int) := by omega
          have ht : ((i : Int) + (k : Int)).toNat = i + k := by omega
          have hw1 : IntKind.i64.wrap ((i : Int) + (k : Int)) = (i : Int) + (k : Int) := by rw [IntKind.wrap_i64]; omega
          have hw2 : IntKind.i64.wrap (pq : Int) = (pq : Int) := by rw [IntKind.wrap_i64]; omega
          have hw3 : IntKind.i64.wrap ((r : Int) + (pq : Int)) = (r : Int) + (pq : Int) := by rw [IntKind.wrap_i64]; omega
          have hw4 : IntKind.i64.wrap ((r : Int) + (pq : Int) + (c : Int)) = (r : Int) + (pq : Int) + (c : Int) := by rw [IntKind.wrap_i64]; omega
          rcases hcase with hlt | ⟨hkm3, hc0⟩
          all_goals
            try (have hnk : ¬ (k < m) := by omega)
            go_wp2
            go_quiet ((go_at_call 80; exact quietL (rdigit_eq ys _ k q _ (by exact HSl.out) (by omega) HQ.out)))
            clear hw2 hw3 hw4 hcp
            generalize hwq : wr.drewN nq = wq
            have HO3 : Hid (Own .i64 3 wq w.heap.size w.heap.size (n + m + 1) (n + m + 1) o2) := by rw [← hwq]; exact HO2.out
            have HB3 : Hid (Below w.heap.size w wq) := by rw [← hwq]; exact below_drewN HB2.out _
            have hcr2 : wq.cell? ⟨w.heap.size, i + k, none⟩ = some (.int .i64 (r : Int)) := by rw [← hwq]; exact hcr
            have hf := HO3.out.frozen (i + k)
            clear hwq hcr
            go_wp2
            go_roundg (gk - 1)
            case measure => omega
            case rel =>
              have el : ((r : Int) + (pq : Int) + (c : Int)) % 65536 = (((c + (pq + r)) % 65536 : Nat) : Int) := by omega
              have eh : ((r : Int) + (pq : Int) + (c : Int)) / 65536 = (((c + (pq + r)) / 65536 : Nat) : Int) := by omega
              rw [el, eh]
              refine ⟨k + 1, (c + (pq + r)) / 65536, o2.set (i + k) ((c + (pq + r)) % 65536), by omega, by omega, ?_, by go_num, rfl, by omega, HO3.out.stored _ _, HOK2.out.set (Nat.mod_lt _ (by decide)), ?_, rmul_inner (by rw [HO3.out.1]; omega) HR.out HQ.out (by rw [HPQ.out]) HE2.out, HB3.out.setCell (Nat.le_refl _) _⟩
              · intro hk1
                have hkm4 : k = m := by omega
                have h1 := HR0.out hkm4
                have h2 := HQ0.out hkm4
                have h3 := HPQ.out
                rw [h2, Nat.mul_zero] at h3
                omega
              · intro q' hq'
                rw [NumB.getD_set_ne _ _ _ _ (by omega)]
                exact HJ2.out q' (by omega)
    · obtain rfl : i = n := by omega
      clear hgi hi
      go_wp2_with (go_at_call 79; refine (rtrim_any out _ _ HO.out.sl HOK.out).mono ?_; rintro e w' ⟨v', rfl, hn', rfl⟩)
      go_ret
      have he := HE.out
      have hv : val W16 out = val W16 (out.take (i + m)) := by
        rw [← val_take_all W16 out (j := i + m + 1) (by rw [HO.out.1]; exact Nat.le_refl _), val_take_succ, HZ.out _ (Nat.le_refl _), Nat.mul_zero, Nat.add_zero]
      rw [hv, he, val_take_all W16 xs (by rw [HRA.out.1]; exact Nat.le_refl _), HX.out.1.1] at hn'
      exact ⟨_, rfl, hn', HB.out⟩
end Go.Proofs.YtdhgbnnopekfjaaDoor
namespace Go.Proofs.YtdhgbnnopekfjaaDoor
open Go.RowKit NumB
set_option linter.unusedVariables false
set_option linter.unusedSimpArgs false

/-- How two fractions compare. -/
def cmpQ (na : Bool) (xa ya : Nat) (nb : Bool) (xb yb : Nat) : Int := if na = nb then (if na then -cmpI (xa * yb) (xb * ya) else cmpI (xa * yb) (xb * ya)) else if na then -1 else 1
theorem cmpI_swap (x y : Nat) : cmpI y x = -cmpI x y := by unfold cmpI; split <;> split <;> (try split) <;> omega
theorem compare_B (x y : Nat) (va vb : Value) (w : World) (ha : Nat32 w va x) (hb : Nat32 w vb y) :
    Calls Tryd.prog 93 #[va, vb] w fun e w' => e = .returned (.int .i64 (cmpI x y)) ∧ Below w.heap.size w w' :=
  (compare_any x y va vb w ha hb).mono fun _ _ ⟨he, m, hm⟩ => ⟨he, by rw [hm]; exact below_of_drewN m⟩
theorem Two.drew2 {w : World} {na nb : Bool} {A1 A2 A3 A4 : Value} {xa ya xb yb : List Nat} (h : Two w na nb A1 A2 A3 A4 xa ya xb yb) (o1 o2 : Obj) : Two ((w.alloc o1).alloc o2).drew na nb A1 A2 A3 A4 xa ya xb yb := h.to (below_two w o1 o2).drew

end Go.Proofs.YtdhgbnnopekfjaaDoor
namespace Go.Proofs.YtdhgbnnopekfjaaDoor
open Go.RowKit NumB
set_option linter.unusedVariables false
set_option linter.unusedSimpArgs false

theorem digs16_len_mul (x y : Nat) : (digs W16 (x * y)).length ≤ (digs W16 x).length + (digs W16 y).length := by
  refine digs_len_le W16_gt ?_
  rw [Nat.pow_add]
  exact Nat.mul_lt_mul'' (digs_lt W16_gt) (digs_lt W16_gt)

set_option maxRecDepth 100000 in
set_option maxHeartbeats 6400000 in
theorem rcmpR_any (na nb : Bool) (xa ya xb yb : Nat) (va vb : Value) (w : World) (ha : RV w va na xa ya) (hb : RV w vb nb xb yb)
    (l1 : (digs W16 xa).length ≤ 10000) (l2 : (digs W16 ya).length ≤ 10000) (l3 : (digs W16 xb).length ≤ 10000) (l4 : (digs W16 yb).length ≤ 10000) :
    Calls Tryd.prog 16 #[va, vb] w fun e w' => e = .returned (.int .i64 (cmpQ na xa ya nb xb yb)) ∧ Below w.heap.size w w' := by
  obtain ⟨A1, A2, rfl, h1, h2⟩ := ha
  obtain ⟨A3, A4, rfl, h3, h4⟩ := hb
  obtain ⟨B1, n1, c1, rfl, e1⟩ := h1.form
  obtain ⟨B2, n2, c2, rfl, e2⟩ := h2.form
  obtain ⟨B3, n3, c3, rfl, e3⟩ := h3.form
  obtain ⟨B4, n4, c4, rfl, e4⟩ := h4.form
  have HL : Hid (((digs W16 xa).length ≤ 50000 ∧ (digs W16 ya).length ≤ 50000) ∧ ((digs W16 xb).length ≤ 50000 ∧ (digs W16 yb).length ≤ 50000)) := ⟨⟨by omega, by omega⟩, by omega, by omega⟩
  have HM : Hid ((digs W16 (xa * yb)).length ≤ 1000000 ∧ (digs W16 (xb * ya)).length ≤ 1000000) := ⟨Nat.le_trans (digs16_len_mul xa yb) (by omega), Nat.le_trans (digs16_len_mul xb ya) (by omega)⟩
  have HN : ∀ o1 o2 : Obj, Hid (Nat16 ((w.alloc o1).alloc o2).drew (.slice B1 n1 c1) xa ∧ Nat16 ((w.alloc o1).alloc o2).drew (.slice B2 n2 c2) ya ∧ Nat16 ((w.alloc o1).alloc o2).drew (.slice B3 n3 c3) xb ∧ Nat16 ((w.alloc o1).alloc o2).drew (.slice B4 n4 c4) yb) :=
    fun o1 o2 => ⟨h1.to (below_two w o1 o2).drew, h2.to (below_two w o1 o2).drew, h3.to (below_two w o1 o2).drew, h4.to (below_two w o1 o2).drew⟩
  have HB0 : Hid (∀ o1 o2 : Obj, Below w.heap.size w ((w.alloc o1).alloc o2).drew) := fun o1 o2 => (below_two w o1 o2).drew
  have HE : Hid (cmpQ na xa ya nb xb yb = if na = nb then (if na then -cmpI (xa * yb) (xb * ya) else cmpI (xa * yb) (xb * ya)) else if na then -1 else 1) := rfl
  generalize cmpQ na xa ya nb xb yb = r at *
  clear e1 e2 e3 e4 h1 h2 h3 h4 l1 l2 l3 l4
  have HBK := Lib.hid (blk2 w 38 38 #[.bool na, .slice B1 n1 c1, .slice B2 n2 c2] #[.bool nb, .slice B3 n3 c3, .slice B4 n4 c4])
  have hk : ∀ W1 W' : World, Below W1.heap.size W1 W' → (W1.cell? ⟨w.heap.size, 0, none⟩ = some (.bool na) ∧ W1.cell? ⟨w.heap.size, 1, none⟩ = some (.slice B1 n1 c1) ∧ W1.cell? ⟨w.heap.size, 2, none⟩ = some (.slice B2 n2 c2) ∧ W1.cell? ⟨w.heap.size + 1, 0, none⟩ = some (.bool nb) ∧ W1.cell? ⟨w.heap.size + 1, 1, none⟩ = some (.slice B3 n3 c3) ∧ W1.cell? ⟨w.heap.size + 1, 2, none⟩ = some (.slice B4 n4 c4) ∧ w.heap.size + 1 < W1.heap.size) → (W'.cell? ⟨w.heap.size, 0, none⟩ = some (.bool na) ∧ W'.cell? ⟨w.heap.size, 1, none⟩ = some (.slice B1 n1 c1) ∧ W'.cell? ⟨w.heap.size, 2, none⟩ = some (.slice B2 n2 c2) ∧ W'.cell? ⟨w.heap.size + 1, 0, none⟩ = some (.bool nb) ∧ W'.cell? ⟨w.heap.size + 1, 1, none⟩ = some (.slice B3 n3 c3) ∧ W'.cell? ⟨w.heap.size + 1, 2, none⟩ = some (.slice B4 n4 c4) ∧ w.heap.size + 1 < W'.heap.size) := fun W1 W' h1 ⟨a0, a1, a2, a3, a4, a5, a6⟩ => ⟨(h1.cell (p := ⟨w.heap.size, 0, none⟩) (by show w.heap.size < _; omega)).trans a0, (h1.cell (p := ⟨w.heap.size, 1, none⟩) (by show w.heap.size < _; omega)).trans a1, (h1.cell (p := ⟨w.heap.size, 2, none⟩) (by show w.heap.size < _; omega)).trans a2, (h1.cell (p := ⟨w.heap.size + 1, 0, none⟩) (by show w.heap.size + 1 < _; omega)).trans a3, (h1.cell (p := ⟨w.heap.size + 1, 1, none⟩) (by show w.heap.size + 1 < _; omega)).trans a4, (h1.cell (p := ⟨w.heap.size + 1, 2, none⟩) (by show w.heap.size + 1 < _; omega)).trans a5, Nat.lt_of_lt_of_le a6 h1.size⟩
  have HK := Lib.hid hk
  clear hk
  go_enter Tryd.func16, Tryd.ntmps16
  go_wp2_with fail
  go_region_held3 (fun w' => w'.cell? ⟨w.heap.size, 0, none⟩ = some (.bool na) ∧ w'.cell? ⟨w.heap.size, 1, none⟩ = some (.slice B1 n1 c1) ∧ w'.cell? ⟨w.heap.size, 2, none⟩ = some (.slice B2 n2 c2) ∧ w'.cell? ⟨w.heap.size + 1, 0, none⟩ = some (.bool nb) ∧ w'.cell? ⟨w.heap.size + 1, 1, none⟩ = some (.slice B3 n3 c3) ∧ w'.cell? ⟨w.heap.size + 1, 2, none⟩ = some (.slice B4 n4 c4) ∧ w.heap.size + 1 < w'.heap.size)
    (first | go_keep | (refine HK.out _ _ (by assumption) ?_; go_keep))
    (first
      | (go_at_call 50; ((with_reducible refine (rmul_any xa yb (.slice B1 n1 c1) (.slice B4 n4 c4) _ (by exact (HN _ _).out.1) (by exact (HN _ _).out.2.2.2) HL.out.1.1 HL.out.2.2).mono ?_)); rintro e w1 ⟨v1, rfl, hn1, hb1⟩)
      | (go_at_call 50; ((with_reducible refine (rmul_any xb ya (.slice B3 n3 c3) (.slice B2 n2 c2) _ (by exact (HN _ _).out.2.2.1.to hb1) (by exact (HN _ _).out.2.1.to hb1) HL.out.2.1 HL.out.1.2).mono ?_)); rintro e w2 ⟨v2, rfl, hn2, hb2⟩))
  have HBE : Hid (Below w.heap.size w w2) := ((HB0.out _ _).trans (hb1.mono (HB0.out _ _).size)).trans (hb2.mono (Nat.le_trans (HB0.out _ _).size hb1.size))
  have hk1 := (HBK.out.1.drew.to hb1).to hb2
  have hk2 := (HBK.out.2.drew.to hb1).to hb2
  have hca := hk1.cell 0
  have hcb := hk2.cell 0
  simp only [List.getElem?_toArray, List.getElem?_cons_zero] at hca hcb
  have HN1 := Lib.hid (hn1.to hb2)
  have HN2 := Lib.hid hn2
  clear hk1 hk2 hb1 hb2 hn1 hn2 HK HN
  cases na <;> cases nb
  all_goals simp only [if_true, if_false, Bool.false_eq_true, Bool.true_eq_false] at HE
  · go_wp2_with fail
    refine (rcmp_any (xa * yb) (xb * ya) _ _ _ (by exact HN1.out) (by exact HN2.out) HM.out.1 HM.out.2).mono ?_
    rintro e w3 ⟨rfl, rfl⟩
    go_wp2_with fail
    go_ret
    rw [HE.out]
    exact ⟨rfl, HBE.out⟩
  · go_wp2_with fail
    go_ret
    rw [HE.out]
    exact ⟨rfl, HBE.out⟩
  · go_wp2_with fail
    go_ret
    rw [HE.out]
    exact ⟨rfl, HBE.out⟩
  · go_wp2_with fail
    refine (rcmp_any (xb * ya) (xa * yb) _ _ _ (by exact HN2.out) (by exact HN1.out) HM.out.2 HM.out.1).mono ?_
    rintro e w3 ⟨he, rfl⟩
    rw [cmpI_swap] at he
    subst he
    go_wp2_with fail
    go_ret
    rw [HE.out]
    exact ⟨rfl, HBE.out⟩

/-- number.Compare at any two numbers. -/
def cmpS (a b : LN) : Int := cmpQ a.neg a.x a.y b.neg b.x b.y

end Go.Proofs.YtdhgbnnopekfjaaDoor
namespace Go.Proofs.YtdhgbnnopekfjaaDoor
open Go.RowKit NumB
set_option linter.unusedVariables false
set_option linter.unusedSimpArgs false

theorem fault_S (a : LN) (v : Value) (w : World) (h : GV w v a) : Calls Tryd.prog 15 #[v] w fun e w' => e = .returned (.int .i64 a.err) ∧ Below w.heap.size w w' := by
  obtain ⟨A, B, rfl, ha, hb, ox, oy⟩ := h
  exact fault_any a.neg a.num a.den A B w ha hb ox oy
theorem LN.len16 {a : LN} (ho : a.ok) (h : a.err = 0) : (digs W16 a.x).length ≤ 256 ∧ (digs W16 a.y).length ≤ 256 := by
  obtain ⟨_, _, h3, h4, _⟩ := LN.good ho h
  exact ⟨digs16_val_le ho.1 h3, digs16_val_le ho.2 h4⟩

set_option maxRecDepth 100000 in
set_option maxHeartbeats 1600000 in
theorem risInt_any (neg : Bool) (x y : Nat) (v : Value) (w : World) (h : RV w v neg x y) (hy : (digs W16 y).length ≤ 1000000) :
    Calls Tryd.prog 42 #[v] w fun e w' => e = .returned (.bool (cmpI y 1 == 0)) ∧ Below w.heap.size w w' := by
  obtain ⟨A1, A2, rfl, h1, h2⟩ := h
  obtain ⟨B1, n1, c1, rfl, e1⟩ := h1.form
  obtain ⟨B2, n2, c2, rfl, e2⟩ := h2.form
  have HN := Lib.hid h2
  have HL := Lib.hid hy
  have HOne : ∀ o : Obj, Nat16 ((w.alloc o).alloc (.cells #[.int .i64 1] 3)) (.slice (some ⟨w.heap.size + 1, 0, none⟩) 1 1) 1 := fun o => by
    have h := one16 (w.alloc o)
    rw [show (w.alloc o).heap.size = w.heap.size + 1 from by simp] at h
    exact h
  clear h1 h2 e1 e2 hy
  go_enter Tryd.func42, Tryd.ntmps42
  go_wp2_with fail
  refine (rcmp_any y 1 _ _ _ (by exact HN.out.to (below_two w _ _)) (HOne _) HL.out (by rw [digs_one16]; decide)).mono ?_
  rintro e w1 ⟨rfl, rfl⟩
  go_wp2_with fail
  go_ret
  exact ⟨rfl, below_two w _ _⟩

theorem cmpI_one_true {y : Nat} (h : y = 1) : (cmpI y 1 == 0) = true := by subst h; decide
theorem cmpI_one_false {y : Nat} (h : y ≠ 1) : (cmpI y 1 == 0) = false := by
  rcases Nat.lt_trichotomy y 1 with h1 | h1 | h1
  · rw [cmpI_lt h1]; rfl
  · exact absurd h1 h
  · rw [cmpI_gt h1]; rfl
end Go.Proofs.YtdhgbnnopekfjaaDoor
namespace Go.Proofs.YtdhgbnnopekfjaaDoor
open Go.RowKit NumB
theorem len_pos16 {x n : Nat} (h : n = (digs W16 x).length) : 0 < n ↔ 0 < x := by
  subst h
  constructor
  · intro h
    rcases Nat.eq_zero_or_pos x with h4 | h4
    · subst h4; rw [digs_zero] at h; exact absurd h (by simp)
    · exact h4
  · intro h
    exact List.length_pos_iff.2 fun h4 => by have := (digs_nil W16_gt).1 h4; omega
end Go.Proofs.YtdhgbnnopekfjaaDoor
namespace Go.Proofs.YtdhgbnnopekfjaaDoor
open Go.RowKit NumB
set_option linter.unusedVariables false
set_option linter.unusedSimpArgs false

set_option maxRecDepth 100000 in
set_option maxHeartbeats 1600000 in
theorem rwhole_any (neg : Bool) (x : Nat) (v : Value) (w : World) (h : Nat16 w v x) : Calls Tryd.prog 43 #[.bool neg, v] w (RVPost w (neg && decide (0 < x)) x 1) := by
  have HN := Lib.hid h
  obtain ⟨A, n, c, rfl, hn⟩ := h.form
  have hpos := len_pos16 hn
  have HGT : Hid (decide (0 < n) = decide (0 < x)) := by
    unfold Hid
    by_cases h : 0 < n
    · rw [decide_eq_true (hpos.1 h), decide_eq_true h]
    · rw [decide_eq_false (fun hh => h (hpos.2 hh)), decide_eq_false h]
  have HOne : ∀ o : Obj, Nat16 ((w.alloc o).alloc (.cells #[.int .i64 1] 3)) (.slice (some ⟨w.heap.size + 1, 0, none⟩) 1 1) 1 := fun o => by
    have h := one16 (w.alloc o)
    rw [show (w.alloc o).heap.size = w.heap.size + 1 from by simp] at h
    exact h
  clear h hn hpos
  cases neg with
  | false =>
    go_enter Tryd.func43, Tryd.ntmps43
    go_wp2_with fail
    refine bodyPost_ret (v := .agg #[.bool false, .slice A n c, .slice (some ⟨w.heap.size + 1, 0, none⟩) 1 1]) (by simp [results, Tryd.results43, go_sem]) rfl ⟨_, rfl, ?_, below_two w _ _⟩
    exact ⟨_, _, rfl, HN.out.to (below_two w _ _), HOne _⟩
  | true =>
    go_enter Tryd.func43, Tryd.ntmps43
    go_wp2_with fail
    refine bodyPost_ret (v := .agg #[.bool (decide (0 < n)), .slice A n c, .slice (some ⟨w.heap.size + 1, 0, none⟩) 1 1]) (by simp [results, Tryd.results43, go_sem]) rfl ⟨_, rfl, ?_, below_two w _ _⟩
    rw [HGT.out]
    exact ⟨_, _, rfl, HN.out.to (below_two w _ _), HOne _⟩
end Go.Proofs.YtdhgbnnopekfjaaDoor

/-  -/
import Derived.Deep.RegionHeld3
import Derived.Test.YtkamkaehlofgpaaGreatJo11
import Derived.Test.YtkamkaehlofgpaaGreatJo12
import Derived.Test.YtkamkaehlofgpaaGreatJo16
import Derived.Test.YtkamkaehlofgpaaGreatJo47
import Derived.Test.YtkamkaehlofgpaaGreatJo48
set_option linter.unusedVariables false
set_option linter.unusedSimpArgs false
/- fetterlockref1.MulNat. Conditions: at most 50000 digits. -/
namespace Go.Proofs.YtkamkaehlofgpaaGreat
open Go.RowKit NumB
set_option linter.unusedVariables false
set_option linter.unusedSimpArgs false

theorem rmul_inner {out o2 ys : List Nat} {i k c x y o s : Nat} (hlen : i + k < o2.length) (ho : out.getD (i + k) 0 = o) (hy : ys.getD k 0 = y) (hs : s = c + (x * y + o))
    (h : val W16 (o2.take (i + k)) + W16 ^ (i + k) * c = val W16 (out.take (i + k)) + W16 ^ i * x * val W16 (ys.take k)) :
    val W16 ((o2.set (i + k) (s % 65536)).take (i + (k + 1))) + W16 ^ (i + (k + 1)) * (s / 65536) = val W16 (out.take (i + (k + 1))) + W16 ^ i * x * val W16 (ys.take (k + 1)) := by
  rw [← Nat.add_assoc, val_take_succ, val_take_succ, val_take_succ, take_set_lt _ _ _ _ (Nat.le_refl _), getD_set_self _ _ _ hlen, ho, hy, Nat.pow_succ]
  exact mul_alg hs (Nat.pow_add _ _ _) h W16
theorem rmul_outer {out o2 xs ys : List Nat} {i m k x Y : Nat} (hm : ys.length = m) (hY : val W16 ys = Y) (hx : xs.getD i 0 = x) (hk : k = m ∨ k = m + 1) (hz : ∀ q, i + m ≤ q → out.getD q 0 = 0) (hj : ∀ q, i + k ≤ q → o2.getD q 0 = out.getD q 0)
    (h : val W16 (o2.take (i + k)) + W16 ^ (i + k) * 0 = val W16 (out.take (i + k)) + W16 ^ i * x * val W16 (ys.take k)) (ho : val W16 (out.take (i + m)) = val W16 (xs.take i) * Y) :
    val W16 (o2.take (i + 1 + m)) = val W16 (xs.take (i + 1)) * Y := by
  rw [Nat.mul_zero, Nat.add_zero, val_take_all W16 ys (j := k) (by omega), hY] at h
  rw [val_take_succ W16 xs, hx, Nat.add_mul, ← ho]
  rcases hk with rfl | rfl
  · rw [show i + 1 + k = i + k + 1 from by omega, val_take_succ, hj _ (Nat.le_refl _), hz _ (Nat.le_refl _), Nat.mul_zero, Nat.add_zero]
    exact h
  · rw [show i + (m + 1) = i + m + 1 from by omega] at h
    rw [show i + 1 + m = i + m + 1 from by omega, h, val_take_succ, hz _ (Nat.le_refl _), Nat.mul_zero, Nat.add_zero]

set_option maxRecDepth 100000 in
set_option maxHeartbeats 6400000 in
theorem rmul_any (x y : Nat) (va vb : Value) (w : World) (ha : Nat16 w va x) (hb : Nat16 w vb y) (hx : (digs W16 x).length ≤ 50000) (hy : (digs W16 y).length ≤ 50000) :
    Calls Tryz.prog 93 #[va, vb] w (RPost w (x * y)) := by
  have HB0 := Lib.hid hb
  obtain ⟨A, ca, rfl, hca, hma, hra⟩ := ha
  obtain ⟨A', cb, rfl, hcb, hmb, hrb⟩ := hb
  unfold maxLen at hma hmb
  unfold Nat16 at HB0
  have HX := Lib.hid (And.intro (And.intro (val_digs W16_gt x) (val_digs W16_gt y)) (And.intro (ok_digs W16_gt x) (ok_digs W16_gt y)))
  generalize digs W16 x = xs at *
  generalize digs W16 y = ys at *
  generalize hn : xs.length = n at *
  generalize hm : ys.length = m at *
  have HRA := Lib.hid hra
  have HM := Lib.hid hm
  clear hra hrb hn hm
  obtain ⟨i0, hi0, hz0, hz1, hz2⟩ := info_parts info_i64
  have HI := Lib.hid hi0
  have HZ0 := Lib.hid hz0
  have HZ1 := Lib.hid hz1
  have HZ2 := Lib.hid hz2
  clear hi0 hz0 hz1 hz2
  go_enter Tryz.func93, Tryz.ntmps93
  go_wp2_with (at_make; refine wpList_make_full _ rfl _ _ 92 rfl w.heap.size 3 i0 (.int .i64 0) 1 Tryz.underlying92 HI.out HZ0.out HZ1.out .i64 .i64 _ _ (n + m + 1) rfl rfl (by omega) (by omega) (by rw [HZ2.out]; omega) (by unfold maxLen; omega) (Nat.le_refl _) ?_; intro w1 hown1 hg1)
  have HO1 := Lib.hid (Own.made hown1)
  have HB1 := Lib.hid ((Below.refl w.heap.size w).grown hg1 (Nat.le_refl _) (by simp))
  clear hown1 hg1
  go_loopg [19, 6, 7, 8, 9] n (fun gk si s6 s7 s8 s9 wr => ∃ (i : Nat) (out : List Nat), gk + i = n ∧ si = .int .i64 (i : Int) ∧ Hid (Own .i64 3 wr w.heap.size w.heap.size (n + m + 1) (n + m + 1) out) ∧ Hid (Ok W16 out) ∧ Hid (∀ q, i + m ≤ q → out.getD q 0 = 0) ∧ Hid (val W16 (out.take (i + m)) = val W16 (xs.take i) * y) ∧ Hid (Below w.heap.size w wr))
  case atStart => exact ⟨0, List.replicate (n + m + 1) 0, by omega, rfl, HO1.out, ok_replicate (by decide), fun q _ => getD_replicate _ _, by unfold Hid; rw [List.take_replicate, val_replicate]; simp, HB1.out⟩
  case round =>
    obtain ⟨i, out, hgi, rfl, HO, HOK, HZ, HE, HB⟩ := hrel
    obtain ⟨wo, rfl⟩ : ∃ wo : World, wo = wr := ⟨_, rfl⟩
    by_cases hi : i < n
    · obtain ⟨b, o, p, rfl, hb, hpe, hcp0⟩ := HRA.out.at_ (i := i) hi
      have hpb : p < 65536 := by rw [← hpe]; exact HX.out.2.1.getD (by decide) _
      have HP := Lib.hid hpe
      have HCP := Lib.hid hcp0
      clear hpe hcp0
      go_wp2_with fail
      go_loopg [7, 8, 9] (m + 2) (fun gk2 s7 s8 s9 wr => ∃ (k c : Nat) (o2 : List Nat), gk2 + k = m + 2 ∧ k ≤ m + 1 ∧ (k = m + 1 → c = 0) ∧ s8 = .int .i64 (k : Int) ∧ s7 = .int .i64 (c : Int) ∧ c < 65536 ∧ Hid (Own .i64 3 wr w.heap.size w.heap.size (n + m + 1) (n + m + 1) o2) ∧ Hid (Ok W16 o2) ∧ Hid (∀ q, i + k ≤ q → o2.getD q 0 = out.getD q 0) ∧ Hid (val W16 (o2.take (i + k)) + W16 ^ (i + k) * c = val W16 (out.take (i + k)) + W16 ^ i * p * val W16 (ys.take k)) ∧ Hid (Below w.heap.size w wr))
      case atStart => exact ⟨0, 0, out, by omega, by omega, fun _ => rfl, rfl, rfl, by omega, HO.out, HOK.out, fun _ _ => rfl, by unfold Hid; simp, HB.out⟩
      case round =>
        obtain ⟨k, c, o2, hgk, hkm, hkc, rfl, rfl, hc, HO2, HOK2, HJ2, HE2, HB2⟩ := hrel
        by_cases hex : m ≤ k ∧ c = 0
        · obtain ⟨hmk, rfl⟩ := hex
          have hnk : ¬ (k < m) := by omega
          clear hkc
          go_wp2
          go_roundg (n - (i + 1))
          case measure => omega
          case rel =>
            refine ⟨i + 1, o2, by omega, by go_num, HO2.out, HOK2.out, ?_, rmul_outer HM.out HX.out.1.2 HP.out (by omega) HZ.out HJ2.out HE2.out HE.out, HB2.out⟩
            intro q' hq'
            rw [HJ2.out q' (by omega)]
            exact HZ.out q' (by omega)
        · have hkm2 : k ≤ m := by
            rcases Nat.lt_or_ge m k with h | h
            · exact absurd ⟨by omega, hkc (by omega)⟩ hex
            · exact h
          have hcase : k < m ∨ (m ≤ k ∧ 0 < c) := by
            rcases Nat.lt_or_ge k m with h | h
            · exact .inl h
            · exact .inr ⟨h, Nat.pos_of_ne_zero fun h0 => hex ⟨h, h0⟩⟩
          obtain ⟨q, hqe⟩ : ∃ q, ys.getD k 0 = q := ⟨_, rfl⟩
          have hqb : q < 65536 := by rw [← hqe]; exact HX.out.2.2.getD (by decide) _
          have HQ0 : Hid (k = m → q = 0) := fun h => by rw [← hqe]; exact getD_ge (by rw [HM.out]; omega)
          have HQ := Lib.hid hqe
          clear hqe
          obtain ⟨r, hr⟩ : ∃ r, out.getD (i + k) 0 = r := ⟨_, rfl⟩
          have HR := Lib.hid hr
          have HR0 : Hid (k = m → r = 0) := fun h => by rw [← hr]; exact HZ.out _ (by omega)
          have hrb : r < 65536 := by rw [← hr]; exact HOK.out.getD (by decide) _
          have hcr : wr.cell? ⟨w.heap.size, i + k, none⟩ = some (.int .i64 (r : Int)) := by rw [← hr, ← HJ2.out _ (Nat.le_refl _)]; exact HO2.out.cell (by omega)
          have hcp : wr.cell? ⟨b, o + i, none⟩ = some (.int .i64 (p : Int)) := (HB2.out.cell (p := ⟨b, o + i, none⟩) hb).trans HCP.out
          clear hr hex hkc
          obtain ⟨pq, hpq⟩ : ∃ pq, pq = p * q := ⟨_, rfl⟩
          have HPQ := Lib.hid hpq
          have hpqb : pq ≤ 4294836225 := by rw [hpq]; exact Nat.mul_le_mul (show p ≤ 65535 by omega) (show q ≤ 65535 by omega)
          have hpqi : (p : Int) * (q : Int) = (pq : Int) := by rw [hpq, Int.natCast_mul]
          clear hpq
          have HSl : Hid (Sl .i64 wr (.slice A' m cb) ys) := HB0.out.to HB2.out
          have hi0 : (0 : Int) ≤ (i : Int) + (k : Int) := by omega
          have hi1 : (i : Int) + (k : Int) < ((n + m + 1 : Nat) : Int) := by omega
          have hi2 : (0 : Int) ≤ (i : Int) := by omega
          have hi3 : (i : Int) < (n : Int) := by omega
          have ht : ((i : Int) + (k : Int)).toNat = i + k := by omega
          have hw1 : IntKind.i64.wrap ((i : Int) + (k : Int)) = (i : Int) + (k : Int) := by rw [IntKind.wrap_i64]; omega
          have hw2 : IntKind.i64.wrap (pq : Int) = (pq : Int) := by rw [IntKind.wrap_i64]; omega
          have hw3 : IntKind.i64.wrap ((r : Int) + (pq : Int)) = (r : Int) + (pq : Int) := by rw [IntKind.wrap_i64]; omega
          have hw4 : IntKind.i64.wrap ((r : Int) + (pq : Int) + (c : Int)) = (r : Int) + (pq : Int) + (c : Int) := by rw [IntKind.wrap_i64]; omega
          rcases hcase with hlt | ⟨hkm3, hc0⟩
          all_goals
            try (have hnk : ¬ (k < m) := by omega)
            go_wp2
            go_quiet ((go_at_call 102; exact quietL (rdigit_eq ys _ k q _ (by exact HSl.out) (by omega) HQ.out)))
            clear hw2 hw3 hw4 hcp
            generalize hwq : wr.drewN nq = wq
            have HO3 : Hid (Own .i64 3 wq w.heap.size w.heap.size (n + m + 1) (n + m + 1) o2) := by rw [← hwq]; exact HO2.out
            have HB3 : Hid (Below w.heap.size w wq) := by rw [← hwq]; exact below_drewN HB2.out _
            have hcr2 : wq.cell? ⟨w.heap.size, i + k, none⟩ = some (.int .i64 (r : Int)) := by rw [← hwq]; exact hcr
            have hf := HO3.out.frozen (i + k)
            clear hwq hcr
            go_wp2
            go_roundg (gk - 1)
            case measure => omega
            case rel =>
              have el : ((r : Int) + (pq : Int) + (c : Int)) % 65536 = (((c + (pq + r)) % 65536 : Nat) : Int) := by omega
              have eh : ((r : Int) + (pq : Int) + (c : Int)) / 65536 = (((c + (pq + r)) / 65536 : Nat) : Int) := by omega
              rw [el, eh]
              refine ⟨k + 1, (c + (pq + r)) / 65536, o2.set (i + k) ((c + (pq + r)) % 65536), by omega, by omega, ?_, by go_num, rfl, by omega, HO3.out.stored _ _, HOK2.out.set (Nat.mod_lt _ (by decide)), ?_, rmul_inner (by rw [HO3.out.1]; omega) HR.out HQ.out (by rw [HPQ.out]) HE2.out, HB3.out.setCell (Nat.le_refl _) _⟩
              · intro hk1
                have hkm4 : k = m := by omega
                have h1 := HR0.out hkm4
                have h2 := HQ0.out hkm4
                have h3 := HPQ.out
                rw [h2, Nat.mul_zero] at h3
                omega
              · intro q' hq'
                rw [NumB.getD_set_ne _ _ _ _ (by omega)]
                exact HJ2.out q' (by omega)
    · obtain rfl : i = n := by omega
      clear hgi hi
      go_wp2_with (go_at_call 101; refine (rtrim_any out _ _ HO.out.sl HOK.out).mono ?_; rintro e w' ⟨v', rfl, hn', rfl⟩)
      go_ret
      have he := HE.out
      have hv : val W16 out = val W16 (out.take (i + m)) := by
        rw [← val_take_all W16 out (j := i + m + 1) (by rw [HO.out.1]; exact Nat.le_refl _), val_take_succ, HZ.out _ (Nat.le_refl _), Nat.mul_zero, Nat.add_zero]
      rw [hv, he, val_take_all W16 xs (by rw [HRA.out.1]; exact Nat.le_refl _), HX.out.1.1] at hn'
      exact ⟨_, rfl, hn', HB.out⟩
end Go.Proofs.YtkamkaehlofgpaaGreat
/- number.compare, number.Compare; fetterlockref1.Cmp. -/
namespace Go.Proofs.YtkamkaehlofgpaaGreat
open Go.RowKit NumB
set_option linter.unusedVariables false
set_option linter.unusedSimpArgs false

/-- How two fractions compare. -/
def cmpQ (na : Bool) (xa ya : Nat) (nb : Bool) (xb yb : Nat) : Int := if na = nb then (if na then -cmpI (xa * yb) (xb * ya) else cmpI (xa * yb) (xb * ya)) else if na then -1 else 1
theorem cmpI_swap (x y : Nat) : cmpI y x = -cmpI x y := by unfold cmpI; split <;> split <;> (try split) <;> omega
theorem compare_B (x y : Nat) (va vb : Value) (w : World) (ha : Nat32 w va x) (hb : Nat32 w vb y) :
    Calls Tryz.prog 91 #[va, vb] w fun e w' => e = .returned (.int .i64 (cmpI x y)) ∧ Below w.heap.size w w' :=
  (compare_any x y va vb w ha hb).mono fun _ _ ⟨he, m, hm⟩ => ⟨he, by rw [hm]; exact below_of_drewN m⟩
theorem Two.drew2 {w : World} {na nb : Bool} {A1 A2 A3 A4 : Value} {xa ya xb yb : List Nat} (h : Two w na nb A1 A2 A3 A4 xa ya xb yb) (o1 o2 : Obj) : Two ((w.alloc o1).alloc o2).drew na nb A1 A2 A3 A4 xa ya xb yb := h.to (below_two w o1 o2).drew

set_option maxRecDepth 100000 in
set_option maxHeartbeats 6400000 in
theorem compareNum_any (na nb : Bool) (xa ya xb yb : Nat) (A1 A2 A3 A4 : Value) (w : World) (h1 : Nat32 w A1 xa) (h2 : Nat32 w A2 ya) (h3 : Nat32 w A3 xb) (h4 : Nat32 w A4 yb)
    (l1 : (digs W32 xa).length ≤ 10000) (l2 : (digs W32 ya).length ≤ 10000) (l3 : (digs W32 xb).length ≤ 10000) (l4 : (digs W32 yb).length ≤ 10000) :
    Calls Tryz.prog 62 #[.agg #[.bool na, A1, A2], .agg #[.bool nb, A3, A4]] w fun e w' => e = .returned (.int .i64 (cmpQ na xa ya nb xb yb)) ∧ Below w.heap.size w w' := by
  obtain ⟨B1, n1, c1, rfl, e1⟩ := h1.form
  obtain ⟨B2, n2, c2, rfl, e2⟩ := h2.form
  obtain ⟨B3, n3, c3, rfl, e3⟩ := h3.form
  obtain ⟨B4, n4, c4, rfl, e4⟩ := h4.form
  have HL : Hid (((digs W32 xa).length ≤ 50000 ∧ (digs W32 ya).length ≤ 50000) ∧ ((digs W32 xb).length ≤ 50000 ∧ (digs W32 yb).length ≤ 50000)) := ⟨⟨by omega, by omega⟩, by omega, by omega⟩
  have HN : ∀ o1 o2 : Obj, Hid (Nat32 ((w.alloc o1).alloc o2).drew (.slice B1 n1 c1) xa ∧ Nat32 ((w.alloc o1).alloc o2).drew (.slice B2 n2 c2) ya ∧ Nat32 ((w.alloc o1).alloc o2).drew (.slice B3 n3 c3) xb ∧ Nat32 ((w.alloc o1).alloc o2).drew (.slice B4 n4 c4) yb) :=
    fun o1 o2 => ⟨h1.to (below_two w o1 o2).drew, h2.to (below_two w o1 o2).drew, h3.to (below_two w o1 o2).drew, h4.to (below_two w o1 o2).drew⟩
  have HB0 : Hid (∀ o1 o2 : Obj, Below w.heap.size w ((w.alloc o1).alloc o2)) := fun o1 o2 => below_two w o1 o2
  have HE : Hid (cmpQ na xa ya nb xb yb = if na = nb then (if na then -cmpI (xa * yb) (xb * ya) else cmpI (xa * yb) (xb * ya)) else if na then -1 else 1) := rfl
  generalize cmpQ na xa ya nb xb yb = r at *
  clear e1 e2 e3 e4 h1 h2 h3 h4 l1 l2 l3 l4
  have HBK := Lib.hid (blk2 w 24 24 #[.bool na, .slice B1 n1 c1, .slice B2 n2 c2] #[.bool nb, .slice B3 n3 c3, .slice B4 n4 c4])
  have hk : ∀ W1 W' : World, Below W1.heap.size W1 W' → (W1.cell? ⟨w.heap.size, 0, none⟩ = some (.bool na) ∧ W1.cell? ⟨w.heap.size, 1, none⟩ = some (.slice B1 n1 c1) ∧ W1.cell? ⟨w.heap.size, 2, none⟩ = some (.slice B2 n2 c2) ∧ W1.cell? ⟨w.heap.size + 1, 0, none⟩ = some (.bool nb) ∧ W1.cell? ⟨w.heap.size + 1, 1, none⟩ = some (.slice B3 n3 c3) ∧ W1.cell? ⟨w.heap.size + 1, 2, none⟩ = some (.slice B4 n4 c4) ∧ w.heap.size + 1 < W1.heap.size) → (W'.cell? ⟨w.heap.size, 0, none⟩ = some (.bool na) ∧ W'.cell? ⟨w.heap.size, 1, none⟩ = some (.slice B1 n1 c1) ∧ W'.cell? ⟨w.heap.size, 2, none⟩ = some (.slice B2 n2 c2) ∧ W'.cell? ⟨w.heap.size + 1, 0, none⟩ = some (.bool nb) ∧ W'.cell? ⟨w.heap.size + 1, 1, none⟩ = some (.slice B3 n3 c3) ∧ W'.cell? ⟨w.heap.size + 1, 2, none⟩ = some (.slice B4 n4 c4) ∧ w.heap.size + 1 < W'.heap.size) := fun W1 W' h1 ⟨a0, a1, a2, a3, a4, a5, a6⟩ => ⟨(h1.cell (p := ⟨w.heap.size, 0, none⟩) (by show w.heap.size < _; omega)).trans a0, (h1.cell (p := ⟨w.heap.size, 1, none⟩) (by show w.heap.size < _; omega)).trans a1, (h1.cell (p := ⟨w.heap.size, 2, none⟩) (by show w.heap.size < _; omega)).trans a2, (h1.cell (p := ⟨w.heap.size + 1, 0, none⟩) (by show w.heap.size + 1 < _; omega)).trans a3, (h1.cell (p := ⟨w.heap.size + 1, 1, none⟩) (by show w.heap.size + 1 < _; omega)).trans a4, (h1.cell (p := ⟨w.heap.size + 1, 2, none⟩) (by show w.heap.size + 1 < _; omega)).trans a5, Nat.lt_of_lt_of_le a6 h1.size⟩
  have HK := Lib.hid hk
  clear hk
  by_cases hs : na = nb
  · rw [if_pos hs] at HE
    subst hs
    have hne : (na != na) = false := by simp
    have hbd := cmpI_bd (xa * yb) (xb * ya)
    generalize hcc : cmpI (xa * yb) (xb * ya) = z at *
    have HC := Lib.hid hcc
    clear hcc
    go_enter Tryz.func62, Tryz.ntmps62
    go_wp2_with fail
    go_region_held3 (fun w' => w'.cell? ⟨w.heap.size, 0, none⟩ = some (.bool na) ∧ w'.cell? ⟨w.heap.size, 1, none⟩ = some (.slice B1 n1 c1) ∧ w'.cell? ⟨w.heap.size, 2, none⟩ = some (.slice B2 n2 c2) ∧ w'.cell? ⟨w.heap.size + 1, 0, none⟩ = some (.bool na) ∧ w'.cell? ⟨w.heap.size + 1, 1, none⟩ = some (.slice B3 n3 c3) ∧ w'.cell? ⟨w.heap.size + 1, 2, none⟩ = some (.slice B4 n4 c4) ∧ w.heap.size + 1 < w'.heap.size)
      (first | go_keep | (refine HK.out _ _ (by assumption) ?_; go_keep))
      (first
        | (go_at_call 92; ((with_reducible refine (mul_any xa yb (.slice B1 n1 c1) (.slice B4 n4 c4) _ (by exact (HN _ _).out.1) (by exact (HN _ _).out.2.2.2) HL.out.1.1 HL.out.2.2).mono ?_)); rintro e w1 ⟨v1, rfl, hn1, hb1⟩)
        | (go_at_call 92; ((with_reducible refine (mul_any xb ya (.slice B3 n3 c3) (.slice B2 n2 c2) _ (by exact (HN _ _).out.2.2.1.to hb1) (by exact (HN _ _).out.2.1.to hb1) HL.out.2.1 HL.out.1.2).mono ?_)); rintro e w2 ⟨v2, rfl, hn2, hb2⟩)
        | (go_at_call 91; ((with_reducible refine (compare_B (xa * yb) (xb * ya) _ _ _ (by exact hn1.to hb2) (by exact hn2)).mono ?_)); rintro e w3 ⟨he3, hb3⟩; rw [HC.out] at he3; subst he3))
    have HBE : Hid (Below w.heap.size w w3) := (((HB0.out _ _).drew.trans (hb1.mono (HB0.out _ _).drew.size)).trans (hb2.mono (Nat.le_trans (HB0.out _ _).drew.size hb1.size))).trans (hb3.mono (Nat.le_trans (Nat.le_trans (HB0.out _ _).drew.size hb1.size) hb2.size))
    have hk1 := ((HBK.out.1.drew.to hb1).to hb2).to hb3
    have hcn := hk1.cell 0
    simp only [List.getElem?_toArray, List.getElem?_cons_zero] at hcn
    clear hk1 hb1 hb2 hb3 hn1 hn2 HK HN
    cases na with
    | true =>
      simp only [if_true] at HE
      go_wp2_with fail
      go_ret
      rw [HE.out]
      exact ⟨rfl, HBE.out⟩
    | false =>
      simp only [Bool.false_eq_true, if_false] at HE
      go_wp2_with fail
      go_ret
      rw [HE.out]
      exact ⟨rfl, HBE.out⟩
  · rw [if_neg hs] at HE
    clear HK
    cases na <;> cases nb
    · exact absurd rfl hs
    · simp only [Bool.false_eq_true, if_false] at HE
      clear hs
      go_enter Tryz.func62, Tryz.ntmps62
      go_wp2_with fail
      go_ret
      rw [HE.out]
      exact ⟨rfl, HB0.out _ _⟩
    · simp only [if_true] at HE
      clear hs
      go_enter Tryz.func62, Tryz.ntmps62
      go_wp2_with fail
      go_ret
      rw [HE.out]
      exact ⟨rfl, HB0.out _ _⟩
    · exact absurd rfl hs
end Go.Proofs.YtkamkaehlofgpaaGreat
/- fetterlockref1.Cmp. -/
namespace Go.Proofs.YtkamkaehlofgpaaGreat
open Go.RowKit NumB
set_option linter.unusedVariables false
set_option linter.unusedSimpArgs false

theorem digs16_len_mul (x y : Nat) : (digs W16 (x * y)).length ≤ (digs W16 x).length + (digs W16 y).length := by
  refine digs_len_le W16_gt ?_
  rw [Nat.pow_add]
  exact Nat.mul_lt_mul'' (digs_lt W16_gt) (digs_lt W16_gt)

set_option maxRecDepth 100000 in
set_option maxHeartbeats 6400000 in
theorem rcmpR_any (na nb : Bool) (xa ya xb yb : Nat) (va vb : Value) (w : World) (ha : RV w va na xa ya) (hb : RV w vb nb xb yb)
    (l1 : (digs W16 xa).length ≤ 10000) (l2 : (digs W16 ya).length ≤ 10000) (l3 : (digs W16 xb).length ≤ 10000) (l4 : (digs W16 yb).length ≤ 10000) :
    Calls Tryz.prog 65 #[va, vb] w fun e w' => e = .returned (.int .i64 (cmpQ na xa ya nb xb yb)) ∧ Below w.heap.size w w' := by
  obtain ⟨A1, A2, rfl, h1, h2⟩ := ha
  obtain ⟨A3, A4, rfl, h3, h4⟩ := hb
  obtain ⟨B1, n1, c1, rfl, e1⟩ := h1.form
  obtain ⟨B2, n2, c2, rfl, e2⟩ := h2.form
  obtain ⟨B3, n3, c3, rfl, e3⟩ := h3.form
  obtain ⟨B4, n4, c4, rfl, e4⟩ := h4.form
  have HL : Hid (((digs W16 xa).length ≤ 50000 ∧ (digs W16 ya).length ≤ 50000) ∧ ((digs W16 xb).length ≤ 50000 ∧ (digs W16 yb).length ≤ 50000)) := ⟨⟨by omega, by omega⟩, by omega, by omega⟩
  have HM : Hid ((digs W16 (xa * yb)).length ≤ 1000000 ∧ (digs W16 (xb * ya)).length ≤ 1000000) := ⟨Nat.le_trans (digs16_len_mul xa yb) (by omega), Nat.le_trans (digs16_len_mul xb ya) (by omega)⟩
  have HN : ∀ o1 o2 : Obj, Hid (Nat16 ((w.alloc o1).alloc o2).drew (.slice B1 n1 c1) xa ∧ Nat16 ((w.alloc o1).alloc o2).drew (.slice B2 n2 c2) ya ∧ Nat16 ((w.alloc o1).alloc o2).drew (.slice B3 n3 c3) xb ∧ Nat16 ((w.alloc o1).alloc o2).drew (.slice B4 n4 c4) yb) :=
    fun o1 o2 => ⟨h1.to (below_two w o1 o2).drew, h2.to (below_two w o1 o2).drew, h3.to (below_two w o1 o2).drew, h4.to (below_two w o1 o2).drew⟩
  have HB0 : Hid (∀ o1 o2 : Obj, Below w.heap.size w ((w.alloc o1).alloc o2).drew) := fun o1 o2 => (below_two w o1 o2).drew
  have HE : Hid (cmpQ na xa ya nb xb yb = if na = nb then (if na then -cmpI (xa * yb) (xb * ya) else cmpI (xa * yb) (xb * ya)) else if na then -1 else 1) := rfl
  generalize cmpQ na xa ya nb xb yb = r at *
  clear e1 e2 e3 e4 h1 h2 h3 h4 l1 l2 l3 l4
  have HBK := Lib.hid (blk2 w 94 94 #[.bool na, .slice B1 n1 c1, .slice B2 n2 c2] #[.bool nb, .slice B3 n3 c3, .slice B4 n4 c4])
  have hk : ∀ W1 W' : World, Below W1.heap.size W1 W' → (W1.cell? ⟨w.heap.size, 0, none⟩ = some (.bool na) ∧ W1.cell? ⟨w.heap.size, 1, none⟩ = some (.slice B1 n1 c1) ∧ W1.cell? ⟨w.heap.size, 2, none⟩ = some (.slice B2 n2 c2) ∧ W1.cell? ⟨w.heap.size + 1, 0, none⟩ = some (.bool nb) ∧ W1.cell? ⟨w.heap.size + 1, 1, none⟩ = some (.slice B3 n3 c3) ∧ W1.cell? ⟨w.heap.size + 1, 2, none⟩ = some (.slice B4 n4 c4) ∧ w.heap.size + 1 < W1.heap.size) → (W'.cell? ⟨w.heap.size, 0, none⟩ = some (.bool na) ∧ W'.cell? ⟨w.heap.size, 1, none⟩ = some (.slice B1 n1 c1) ∧ W'.cell? ⟨w.heap.size, 2, none⟩ = some (.slice B2 n2 c2) ∧ W'.cell? ⟨w.heap.size + 1, 0, none⟩ = some (.bool nb) ∧ W'.cell? ⟨w.heap.size + 1, 1, none⟩ = some (.slice B3 n3 c3) ∧ W'.cell? ⟨w.heap.size + 1, 2, none⟩ = some (.slice B4 n4 c4) ∧ w.heap.size + 1 < W'.heap.size) := fun W1 W' h1 ⟨a0, a1, a2, a3, a4, a5, a6⟩ => ⟨(h1.cell (p := ⟨w.heap.size, 0, none⟩) (by show w.heap.size < _; omega)).trans a0, (h1.cell (p := ⟨w.heap.size, 1, none⟩) (by show w.heap.size < _; omega)).trans a1, (h1.cell (p := ⟨w.heap.size, 2, none⟩) (by show w.heap.size < _; omega)).trans a2, (h1.cell (p := ⟨w.heap.size + 1, 0, none⟩) (by show w.heap.size + 1 < _; omega)).trans a3, (h1.cell (p := ⟨w.heap.size + 1, 1, none⟩) (by show w.heap.size + 1 < _; omega)).trans a4, (h1.cell (p := ⟨w.heap.size + 1, 2, none⟩) (by show w.heap.size + 1 < _; omega)).trans a5, Nat.lt_of_lt_of_le a6 h1.size⟩
  have HK := Lib.hid hk
  clear hk
  go_enter Tryz.func65, Tryz.ntmps65
  go_wp2_with fail
  go_region_held3 (fun w' => w'.cell? ⟨w.heap.size, 0, none⟩ = some (.bool na) ∧ w'.cell? ⟨w.heap.size, 1, none⟩ = some (.slice B1 n1 c1) ∧ w'.cell? ⟨w.heap.size, 2, none⟩ = some (.slice B2 n2 c2) ∧ w'.cell? ⟨w.heap.size + 1, 0, none⟩ = some (.bool nb) ∧ w'.cell? ⟨w.heap.size + 1, 1, none⟩ = some (.slice B3 n3 c3) ∧ w'.cell? ⟨w.heap.size + 1, 2, none⟩ = some (.slice B4 n4 c4) ∧ w.heap.size + 1 < w'.heap.size)
    (first | go_keep | (refine HK.out _ _ (by assumption) ?_; go_keep))
    (first
      | (go_at_call 93; ((with_reducible refine (rmul_any xa yb (.slice B1 n1 c1) (.slice B4 n4 c4) _ (by exact (HN _ _).out.1) (by exact (HN _ _).out.2.2.2) HL.out.1.1 HL.out.2.2).mono ?_)); rintro e w1 ⟨v1, rfl, hn1, hb1⟩)
      | (go_at_call 93; ((with_reducible refine (rmul_any xb ya (.slice B3 n3 c3) (.slice B2 n2 c2) _ (by exact (HN _ _).out.2.2.1.to hb1) (by exact (HN _ _).out.2.1.to hb1) HL.out.2.1 HL.out.1.2).mono ?_)); rintro e w2 ⟨v2, rfl, hn2, hb2⟩))
  have HBE : Hid (Below w.heap.size w w2) := ((HB0.out _ _).trans (hb1.mono (HB0.out _ _).size)).trans (hb2.mono (Nat.le_trans (HB0.out _ _).size hb1.size))
  have hk1 := (HBK.out.1.drew.to hb1).to hb2
  have hk2 := (HBK.out.2.drew.to hb1).to hb2
  have hca := hk1.cell 0
  have hcb := hk2.cell 0
  simp only [List.getElem?_toArray, List.getElem?_cons_zero] at hca hcb
  have HN1 := Lib.hid (hn1.to hb2)
  have HN2 := Lib.hid hn2
  clear hk1 hk2 hb1 hb2 hn1 hn2 HK HN
  cases na <;> cases nb
  all_goals simp only [if_true, if_false, Bool.false_eq_true, Bool.true_eq_false] at HE
  · go_wp2_with fail
    refine (rcmp_any (xa * yb) (xb * ya) _ _ _ (by exact HN1.out) (by exact HN2.out) HM.out.1 HM.out.2).mono ?_
    rintro e w3 ⟨rfl, rfl⟩
    go_wp2_with fail
    go_ret
    rw [HE.out]
    exact ⟨rfl, HBE.out⟩
  · go_wp2_with fail
    go_ret
    rw [HE.out]
    exact ⟨rfl, HBE.out⟩
  · go_wp2_with fail
    go_ret
    rw [HE.out]
    exact ⟨rfl, HBE.out⟩
  · go_wp2_with fail
    refine (rcmp_any (xb * ya) (xa * yb) _ _ _ (by exact HN2.out) (by exact HN1.out) HM.out.2 HM.out.1).mono ?_
    rintro e w3 ⟨he, rfl⟩
    rw [cmpI_swap] at he
    subst he
    go_wp2_with fail
    go_ret
    rw [HE.out]
    exact ⟨rfl, HBE.out⟩

/-- number.Compare at any two numbers. -/
def cmpS (a b : LN) : Int := cmpQ a.neg a.x a.y b.neg b.x b.y

set_option maxRecDepth 100000 in
set_option maxHeartbeats 6400000 in
theorem compare_S (a b : LN) (va vb : Value) (w : World) (ha : GV w va a) (hb : GV w vb b) :
    Calls Tryz.prog 27 #[va, vb] w fun e w' => e = .returned (.tuple #[.int .i64 (if err2 a.err b.err = 0 then cmpS a b else 0), .int .i64 (err2 a.err b.err)]) ∧ Below w.heap.size w w' := by
  obtain ⟨A1, A2, rfl, h1, h2, o1, o2⟩ := ha
  obtain ⟨A3, A4, rfl, h3, h4, o3, o4⟩ := hb
  have h : Two w a.neg b.neg A1 A2 A3 A4 a.num a.den b.num b.den := ⟨h1, h2, h3, h4⟩
  have HT := Lib.hid h
  have HPN : Hid (err2 a.err b.err = 0 → ∀ W : World, Two W a.neg b.neg A1 A2 A3 A4 a.num a.den b.num b.den → Calls Tryz.prog 62 #[.agg #[.bool a.neg, A1, A2], .agg #[.bool b.neg, A3, A4]] W fun e w' => e = .returned (.int .i64 (cmpS a b)) ∧ Below W.heap.size W w') := by
    intro he W hW
    obtain ⟨ea, eb⟩ := err2_zero.1 he
    obtain ⟨p1, p2, p3, p4, _⟩ := LN.good ⟨o1, o2⟩ ea
    obtain ⟨q1, q2, q3, q4, _⟩ := LN.good ⟨o3, o4⟩ eb
    refine compareNum_any a.neg b.neg a.x a.y b.x b.y _ _ _ _ W ?_ ?_ ?_ ?_ (by rw [p1]; omega) (by rw [p2]; omega) (by rw [q1]; omega) (by rw [q2]; omega)
    · unfold Nat32; rw [p1]; exact hW.1
    · unfold Nat32; rw [p2]; exact hW.2.1
    · unfold Nat32; rw [q1]; exact hW.2.2.1
    · unfold Nat32; rw [q2]; exact hW.2.2.2
  have HCK := Lib.hid (fun (W : World) (t : TypeId) (b' cap : Nat) (hb : W.heap.size = b') (hW : Two W a.neg b.neg A1 A2 A3 A4 a.num a.den b.num b.den) => checks_two' hW o1 o2 o3 o4 t b' cap hb)
  obtain ⟨B1, c1, rfl, _⟩ := h1
  obtain ⟨B2, c2, rfl, _⟩ := h2
  obtain ⟨B3, c3, rfl, _⟩ := h3
  obtain ⟨B4, c4, rfl, _⟩ := h4
  have hbd : 0 ≤ err2 a.err b.err ∧ err2 a.err b.err ≤ 3 := err2_bd (checkL_bd _ _ _) (checkL_bd _ _ _)
  have HE : Hid ((if err2 a.err b.err = 0 then cmpS a b else 0) = if err2 a.err b.err = 0 then cmpS a b else 0) := rfl
  have HCK2 : Hid (∀ (W : World) (t : TypeId) (b' cap : Nat), W.heap.size = b' → Two W a.neg b.neg (.slice B1 a.num.length c1) (.slice B2 a.den.length c2) (.slice B3 b.num.length c3) (.slice B4 b.den.length c4) a.num a.den b.num b.den → Calls Tryz.prog 61 #[.slice (some ⟨b', 0, none⟩) 2 cap] (W.alloc (.cells #[.bool a.neg, .slice B1 a.num.length c1, .slice B2 a.den.length c2, .bool b.neg, .slice B3 b.num.length c3, .slice B4 b.den.length c4] t)) fun e w' => e = .returned (.int .i64 (err2 a.err b.err)) ∧ Below (W.alloc (.cells #[.bool a.neg, .slice B1 a.num.length c1, .slice B2 a.den.length c2, .bool b.neg, .slice B3 b.num.length c3, .slice B4 b.den.length c4] t)).heap.size (W.alloc (.cells #[.bool a.neg, .slice B1 a.num.length c1, .slice B2 a.den.length c2, .bool b.neg, .slice B3 b.num.length c3, .slice B4 b.den.length c4] t)) w') := HCK.out
  clear HCK h
  generalize hrr : (if err2 a.err b.err = 0 then cmpS a b else 0) = rr at *
  have HRR := Lib.hid hrr
  clear hrr HE
  generalize cmpS a b = cc at *
  generalize err2 a.err b.err = er at *
  generalize a.num.length = n1 at *
  generalize a.den.length = n2 at *
  generalize b.num.length = n3 at *
  generalize b.den.length = n4 at *
  generalize a.neg = na at *
  generalize b.neg = nb at *
  have HBK := Lib.hid (blk2 w 24 24 #[.bool na, .slice B1 n1 c1, .slice B2 n2 c2] #[.bool nb, .slice B3 n3 c3, .slice B4 n4 c4])
  by_cases he : er = 0
  · subst he
    rw [if_pos rfl] at HRR
    have HPQ := Lib.hid (HPN.out rfl)
    clear HPN
    go_enter Tryz.func27, Tryz.ntmps27
    go_wp2_with fail
    refine (HCK2.out _ _ _ _ (by simp) (by exact HT.out.to (below_two w _ _))).mono ?_
    rintro e w1 ⟨rfl, hb1⟩
    have hb0 := (below_one _ _).trans (hb1.mono (below_one _ _).size)
    have hg1 := HBK.out.1.to hb0
    have hg2 := HBK.out.2.to hb0
    have a0 := hg1.cell 0
    have a1 := hg1.cell 1
    have a2 := hg1.cell 2
    have b0 := hg2.cell 0
    have b1 := hg2.cell 1
    have b2 := hg2.cell 2
    have HT1 := Lib.hid ((HT.out.to (below_two w _ _)).to hb0)
    have HBL : Hid (Below w.heap.size w w1) := (below_two w _ _).trans (hb0.mono (below_two w _ _).size)
    clear hg1 hg2 hb0 hb1
    simp only [List.getElem?_toArray, List.getElem?_cons_zero, List.getElem?_cons_succ] at a0 a1 a2 b0 b1 b2
    go_wp2_with fail
    refine (HPQ.out _ (by exact HT1.out)).mono ?_
    rintro e w2 ⟨rfl, hb2⟩
    go_wp2_with fail
    go_ret2
    rw [← HRR.out]
    exact ⟨rfl, HBL.out.trans (hb2.mono HBL.out.size)⟩
  · have he1 : (er != 0) = true := by rw [bne_iff_ne]; exact he
    rw [if_neg he] at HRR
    clear he
    go_enter Tryz.func27, Tryz.ntmps27
    go_wp2_with fail
    refine (HCK2.out _ _ _ _ (by simp) (by exact HT.out.to (below_two w _ _))).mono ?_
    rintro e w1 ⟨rfl, hb1⟩
    have hb0 := (below_one _ _).trans (hb1.mono (below_one _ _).size)
    go_wp2_with fail
    go_ret2
    rw [← HRR.out]
    exact ⟨rfl, (below_two w _ _).trans (hb0.mono (below_two w _ _).size)⟩
end Go.Proofs.YtkamkaehlofgpaaGreat
/- The order of numbers, of the plain functions. -/
namespace Go.Proofs.YtkamkaehlofgpaaGreat
open Go.RowKit NumB
set_option linter.unusedVariables false
set_option linter.unusedSimpArgs false

def rcmp (p q : Rat) : Int := if p < q then -1 else if q < p then 1 else 0
theorem rcmp_anti (p q : Rat) : rcmp p q = -rcmp q p := by unfold rcmp; grind
theorem rcmp_zero (p q : Rat) : rcmp p q = 0 ↔ p = q := by unfold rcmp; grind
theorem rcmp_bd (p q : Rat) : -1 ≤ rcmp p q ∧ rcmp p q ≤ 1 := by unfold rcmp; grind
theorem rcmp_tr (p q r : Rat) (h1 : rcmp p q ≤ 0) (h2 : rcmp q r ≤ 0) : rcmp p r ≤ 0 := by unfold rcmp at *; grind
theorem rcmp_tr2 (p q r : Rat) (h1 : rcmp p q < 0) (h2 : rcmp q r < 0) : rcmp p r = -1 := by unfold rcmp at *; grind

theorem sg_scale (n : Bool) (x y : Nat) : RatB.sg n x * (y : Int) = RatB.sg n (x * y) := by
  unfold RatB.sg; cases n <;> simp [Int.neg_mul]
theorem q_lt {na nb : Bool} {xa ya xb yb : Nat} (ca : RatB.Canon na xa ya) (cb : RatB.Canon nb xb yb) : RatB.q na xa ya < RatB.q nb xb yb ↔ RatB.sg na (xa * yb) < RatB.sg nb (xb * ya) := by
  rw [Rat.lt_iff, (RatB.q_num ca).1, (RatB.q_num ca).2, (RatB.q_num cb).1, (RatB.q_num cb).2, sg_scale, sg_scale]
theorem cmpQ_rat {na nb : Bool} {xa ya xb yb : Nat} (ca : RatB.Canon na xa ya) (cb : RatB.Canon nb xb yb) : cmpQ na xa ya nb xb yb = rcmp (RatB.q na xa ya) (RatB.q nb xb yb) := by
  have h1 := q_lt ca cb
  have h2 := q_lt cb ca
  have p1 : na = true → 0 < xa * yb := fun h => Nat.mul_pos (Nat.pos_of_ne_zero fun h0 => by have := ca.2.2 h0; rw [h] at this; cases this) cb.1
  have p2 : nb = true → 0 < xb * ya := fun h => Nat.mul_pos (Nat.pos_of_ne_zero fun h0 => by have := cb.2.2 h0; rw [h] at this; cases this) ca.1
  unfold rcmp
  simp only [h1, h2]
  clear h1 h2
  unfold cmpQ cmpI
  generalize xa * yb = X at *
  generalize xb * ya = Y at *
  unfold RatB.sg
  cases na <;> cases nb <;> simp only [if_true, if_false, Bool.false_eq_true, Bool.true_eq_false]
  · split <;> split <;> (try split) <;> (try split) <;> omega
  · have := p2 rfl
    split <;> (try split) <;> omega
  · have := p1 rfl
    split <;> omega
  · split <;> split <;> (try split) <;> (try split) <;> omega

theorem LN.q_eq {a b : LN} (ha : a.ok) (hb : b.ok) (ea : a.err = 0) (eb : b.err = 0) (h : a.q = b.q) : a = b := by
  obtain ⟨p1, p2, _, _, p5⟩ := LN.good ha ea
  obtain ⟨q1, q2, _, _, q5⟩ := LN.good hb eb
  obtain ⟨e1, e2, e3⟩ := RatB.q_inj p5 q5 h
  obtain ⟨na, xa, ya⟩ := a
  obtain ⟨nb, xb, yb⟩ := b
  have h1 : xa = xb := by rw [← show digs W32 _ = xa from p1, ← show digs W32 _ = xb from q1, e2]
  have h2 : ya = yb := by rw [← show digs W32 _ = ya from p2, ← show digs W32 _ = yb from q2, e3]
  have h3 : na = nb := e1
  rw [h1, h2, h3]
theorem cmpS_rat {a b : LN} (ha : a.ok) (hb : b.ok) (ea : a.err = 0) (eb : b.err = 0) : cmpS a b = rcmp a.q b.q := cmpQ_rat (LN.good ha ea).2.2.2.2 (LN.good hb eb).2.2.2.2

/-- What the law asks of three valid numbers. -/
theorem order_law {a b c : LN} (ha : a.ok) (hb : b.ok) (hc : c.ok) (ea : a.err = 0) (eb : b.err = 0) (ec : c.err = 0) :
    cmpS a b = -cmpS b a ∧ (cmpS a b == 0) = sameB a b ∧ (-1 ≤ cmpS a b ∧ cmpS a b ≤ 1) ∧ (cmpS a b ≤ 0 → cmpS b c ≤ 0 → cmpS a c ≤ 0) ∧ (cmpS a b < 0 → cmpS b c < 0 → cmpS a c = -1) := by
  rw [cmpS_rat ha hb ea eb, cmpS_rat hb ha eb ea, cmpS_rat hb hc eb ec, cmpS_rat ha hc ea ec]
  refine ⟨rcmp_anti _ _, ?_, rcmp_bd _ _, rcmp_tr _ _ _, rcmp_tr2 _ _ _⟩
  by_cases h : a = b
  · subst h
    rw [sameB_true rfl, (rcmp_zero _ _).2 rfl]; rfl
  · have h1 : rcmp a.q b.q ≠ 0 := fun h0 => h (LN.q_eq ha hb ea eb ((rcmp_zero _ _).1 h0))
    have h2 : sameB a b = false := by
      cases hs : sameB a b with
      | false => rfl
      | true =>
        exfalso
        unfold sameB at hs
        simp only [Bool.and_eq_true, beq_iff_eq, eqB, decide_eq_true_eq] at hs
        obtain ⟨e1, e2, e3⟩ := hs
        obtain ⟨na, xa, ya⟩ := a
        obtain ⟨nb, xb, yb⟩ := b
        exact h (by rw [show na = nb from e1, show xa = xb from e2, show ya = yb from e3])
    rw [h2]
    exact beq_eq_false_iff_ne.2 h1
end Go.Proofs.YtkamkaehlofgpaaGreat
/- A number's text is read back as the number: plain facts. -/
namespace Go.Proofs.YtkamkaehlofgpaaGreat
open Go.RowKit NumB
set_option linter.unusedVariables false
set_option linter.unusedSimpArgs false

theorem dig_byte {d : Nat} (h : d < 10) : (48 + d).toUInt8.toNat = 48 + d := by
  show (48 + d) % 256 = 48 + d
  omega
theorem isDig_byte {d : Nat} (h : d < 10) : isDig (48 + d).toUInt8 = true := decide_eq_true (by rw [dig_byte h]; omega)
theorem dval_rev : ∀ (l : List Nat), Ok 10 l → dval (l.map fun d => (48 + d).toUInt8).reverse = val 10 l
  | [], _ => rfl
  | d :: l, h => by
    rw [List.map_cons, List.reverse_cons, dval_append, dval_rev l h.tail, val_cons]
    have : dval [(48 + d).toUInt8] = d := by
      show 0 * 10 + ((48 + d).toUInt8.toNat - 48) = d
      rw [dig_byte h.head]; omega
    rw [this]
    simp
    omega
theorem dval_dec (x : Nat) : dval (dec x) = x := by
  unfold dec
  split
  · rename_i h; rw [h]; rfl
  · unfold decL
    rw [dval_rev _ (ok_digs (by decide) x), val_digs (by decide)]
theorem allDig_dec (x : Nat) : allDig (dec x) = true := by
  unfold dec
  split
  · rfl
  · unfold decL allDig
    rw [List.all_eq_true]
    intro c hc
    obtain ⟨d, hd, rfl⟩ := List.mem_map.1 (List.mem_reverse.1 hc)
    exact isDig_byte (ok_digs (by decide) x d hd)
theorem dec_ne (x : Nat) : dec x ≠ [] := by
  unfold dec
  split
  · simp
  · rename_i h; exact decL_ne h
theorem digitsB_dec (x : Nat) : digitsB (dec x) = true := by
  unfold digitsB
  rw [allDig_dec, Bool.and_true]
  cases h : dec x with
  | nil => exact absurd h (dec_ne x)
  | cons _ _ => rfl

theorem big_pow : W32 ^ 128 ≤ 10 ^ 1234 := by decide +kernel
theorem dec_len2 {x : Nat} (h : (digs W32 x).length ≤ 128) : (dec x).length ≤ 1234 := by
  have h1 : (digs 10 x).length ≤ 1234 := digs_len_le (by decide) (Nat.lt_of_lt_of_le (digs_lt W32_gt) (Nat.le_trans (Nat.pow_le_pow_right (by decide) h) big_pow))
  unfold dec
  split
  · simp
  · unfold decL; rw [List.length_reverse, List.length_map]; exact h1

theorem not_dig_in {l : List UInt8} (h : allDig l = true) {c : UInt8} (hc : isDig c = false) : c ∉ l := fun hm => by
  have := List.all_eq_true.1 h c hm
  rw [hc] at this; cases this
theorem indexByte_none : ∀ {l : List UInt8} {c : UInt8}, c ∉ l → Lib.indexByte l c = -1
  | [], _, _ => rfl
  | b :: l, c, h => by
    have h1 : (b == c) = false := beq_eq_false_iff_ne.2 fun e => h (by simp [e])
    have h2 := indexByte_none (l := l) (c := c) fun e => h (by simp [e])
    unfold Lib.indexByte
    rw [h1, h2]; rfl
theorem indexByte_at : ∀ {l : List UInt8} {c : UInt8} {r : List UInt8}, c ∉ l → Lib.indexByte (l ++ c :: r) c = l.length
  | [], c, r, _ => by unfold Lib.indexByte; simp
  | b :: l, c, r, h => by
    have h1 : (b == c) = false := beq_eq_false_iff_ne.2 fun e => h (by simp [e])
    have h2 := indexByte_at (l := l) (c := c) (r := r) fun e => h (by simp [e])
    show Lib.indexByte (b :: (l ++ c :: r)) c = _
    unfold Lib.indexByte
    rw [h1, h2]
    have h3 : (((l.length : Nat) : Int) == -1) = false := beq_eq_false_iff_ne.2 (by omega)
    rw [h3]
    simp
theorem cutB_none {l : List UInt8} (h : allDig l = true) : cutB l 114 = (l, [], false) := by
  unfold cutB
  rw [indexByte_none (not_dig_in h (by decide)), if_neg (by omega)]
theorem cutB_at {l r : List UInt8} (h : allDig l = true) : cutB (l ++ 114 :: r) 114 = (l, r, true) := by
  unfold cutB
  rw [indexByte_at (not_dig_in h (by decide)), if_pos (by omega), Int.toNat_natCast]
  simp

theorem parse_fmt {neg : Bool} {x y : Nat} (hx : (digs W32 x).length ≤ 128) (hy : (digs W32 y).length ≤ 128) (hy0 : 0 < y) :
    parseErr (fmtL neg x y) = 0 ∧ pNeg (fmtL neg x y) = neg ∧ dval (pCut (fmtL neg x y)).1 = x ∧ pDen (fmtL neg x y) = y := by
  have l1 := dec_len2 hx
  have l2 := dec_len2 hy
  obtain ⟨c, cs, hcs⟩ : ∃ c cs, dec x = c :: cs := by
    cases h : dec x with
    | nil => exact absurd h (dec_ne x)
    | cons c cs => exact ⟨c, cs, rfl⟩
  have hc : isDig c = true := List.all_eq_true.1 (allDig_dec x) c (by rw [hcs]; simp)
  have hc45 : c ≠ 45 := by rintro rfl; exact absurd hc (by decide)
  have hn : pNeg (fmtL neg x y) = neg ∧ Lib.trimPrefix (fmtL neg x y) [45] = dec x ++ (if y = 1 then [] else 114 :: dec y) := by
    unfold pNeg fmtL
    rw [hcs]
    cases neg with
    | true => constructor <;> simp [Lib.hasPrefix, Lib.trimPrefix]
    | false =>
      have hp : ∀ r : List UInt8, [45].isPrefixOf (c :: r) = false := fun r => by
        have h1 : ((45 : UInt8) == c) = false := beq_eq_false_iff_ne.2 (Ne.symm hc45)
        show ((45 : UInt8) == c && ([] : List UInt8).isPrefixOf r) = false
        rw [h1]; rfl
      constructor <;> simp [Lib.hasPrefix, Lib.trimPrefix, hp]
  have hlen : ¬ 2500 < (fmtL neg x y).length := by
    unfold fmtL
    rw [List.length_append, List.length_append]
    have h1 : (if neg = true then [45] else ([] : List UInt8)).length ≤ 1 := by split <;> simp
    have h2 : (if y = 1 then ([] : List UInt8) else 114 :: dec y).length ≤ 1235 := by split <;> simp <;> omega
    omega
  have hcut : pCut (fmtL neg x y) = if y = 1 then (dec x, [], false) else (dec x, dec y, true) := by
    unfold pCut
    rw [hn.2]
    by_cases h : y = 1
    · rw [if_pos h, if_pos h, List.append_nil]; exact cutB_none (allDig_dec x)
    · rw [if_neg h, if_neg h]; exact cutB_at (allDig_dec x)
  have hden : pDen (fmtL neg x y) = y := by
    unfold pDen
    rw [hcut]
    by_cases h : y = 1
    · rw [if_pos h]; simp [h]
    · rw [if_neg h]; simp [dval_dec]
  refine ⟨?_, hn.1, ?_, hden⟩
  · unfold parseErr
    rw [if_neg hlen, hden, if_neg, if_neg (by omega)]
    rw [hcut]
    by_cases h : y = 1
    · rw [if_pos h]; simp [digitsB_dec]
    · rw [if_neg h]; simp [digitsB_dec]
  · rw [hcut]
    by_cases h : y = 1
    · rw [if_pos h]; exact dval_dec x
    · rw [if_neg h]; exact dval_dec x
end Go.Proofs.YtkamkaehlofgpaaGreat
/- The order of terms as a plain function; it is total on valid terms; it is 0 just where the texts are the same. -/
namespace Go.Proofs.YtkamkaehlofgpaaGreat
open Go.RowKit NumB
set_option linter.unusedVariables false
set_option linter.unusedSimpArgs false

def icmp (a b : Int) : Int := if a < b then -1 else if b < a then 1 else 0
theorem icmp_zero (a b : Int) : icmp a b = 0 ↔ a = b := by unfold icmp; split <;> (try split) <;> omega
theorem icmp_anti (a b : Int) : icmp a b = -icmp b a := by unfold icmp; split <;> split <;> (try split) <;> omega
def lex (a b : Int) : Int := if a ≠ 0 then a else b
theorem lex_zero (a b : Int) : lex a b = 0 ↔ a = 0 ∧ b = 0 := by
  unfold lex
  split
  · omega
  · rename_i h; simp at h; simp [h]
theorem lex_anti {a b a' b' : Int} (h1 : a = -a') (h2 : a = 0 → b = -b') : lex a b = -lex a' b' := by
  unfold lex
  by_cases h : a = 0
  · have := h2 h; rw [if_neg (by omega), if_neg (by omega)]; omega
  · rw [if_pos h, if_pos (by omega)]; exact h1
/-- Transitive, and strictly so. -/
def Tr (x z w : Int) : Prop := x ≤ 0 → z ≤ 0 → w ≤ 0 ∧ (w = 0 → x = 0 ∧ z = 0)
theorem lex_tr {x z w x2 z2 w2 : Int} (h : Tr x z w) (h2 : x = 0 → z = 0 → w = 0 → Tr x2 z2 w2) : Tr (lex x x2) (lex z z2) (lex w w2) := by
  intro hx hz
  unfold lex at *
  by_cases h1 : x = 0 <;> by_cases h3 : z = 0 <;> simp only [h1, h3, ne_eq, not_true_eq_false, not_false_eq_true, if_true, if_false] at hx hz ⊢
  · have := h (by omega) (by omega)
    by_cases hw : w = 0
    · rw [if_neg (by omega)]; exact h2 h1 h3 hw hx hz
    · rw [if_pos hw]; exact ⟨this.1, fun q => absurd q hw⟩
  · have := h (by omega) hz
    by_cases hw : w = 0
    · exact absurd (this.2 hw).2 h3
    · rw [if_pos hw]; exact ⟨this.1, fun q => absurd q hw⟩
  · have := h hx (by omega)
    by_cases hw : w = 0
    · exact absurd (this.2 hw).1 h1
    · rw [if_pos hw]; exact ⟨this.1, fun q => absurd q hw⟩
  · have := h hx hz
    by_cases hw : w = 0
    · exact absurd (this.2 hw).1 h1
    · rw [if_pos hw]; exact ⟨this.1, fun q => absurd q hw⟩
theorem icmp_tr (a b c : Int) : Tr (icmp a b) (icmp b c) (icmp a c) := by
  unfold Tr icmp
  intro h1 h2
  (repeat' split at h1) <;> (repeat' split at h2) <;> (repeat' split) <;> omega
theorem rcmp_Tr (a b c : Rat) : Tr (rcmp a b) (rcmp b c) (rcmp a c) := by
  intro h1 h2
  refine ⟨rcmp_tr _ _ _ h1 h2, fun h => ?_⟩
  have h3 := (rcmp_zero _ _).1 h
  subst h3
  have := rcmp_anti a b
  exact ⟨by omega, by omega⟩
def ucmp (x y : UInt8) : Int := icmp x.toNat y.toNat
theorem cmpB_cons (x y : UInt8) (a b : List UInt8) : Lib.compareBytes (x :: a) (y :: b) = lex (ucmp x y) (Lib.compareBytes a b) := by
  rw [Lib.compareBytes]
  simp only [UInt8.lt_iff_toNat_lt]
  unfold ucmp icmp lex
  by_cases h1 : x.toNat < y.toNat
  · have h2 : (x.toNat : Int) < y.toNat := by omega
    rw [if_pos h1, if_pos h2, if_pos (by decide)]
  · have h2 : ¬ (x.toNat : Int) < y.toNat := by omega
    rw [if_neg h1, if_neg h2]
    by_cases h3 : y.toNat < x.toNat
    · have h4 : (y.toNat : Int) < x.toNat := by omega
      rw [if_pos h3, if_pos h4, if_pos (by decide)]
    · have h4 : ¬ (y.toNat : Int) < x.toNat := by omega
      rw [if_neg h3, if_neg h4, if_neg (by decide)]
theorem ucmp_zero (x y : UInt8) : ucmp x y = 0 ↔ x = y := by
  unfold ucmp
  rw [icmp_zero]
  exact ⟨fun h => UInt8.toNat_inj.1 (by omega), fun h => by rw [h]⟩
theorem cmpB_zero : ∀ (a b : List UInt8), Lib.compareBytes a b = 0 ↔ a = b := by
  intro a
  induction a with
  | nil => intro b; cases b <;> simp [Lib.compareBytes]
  | cons x a ih =>
    intro b
    cases b with
    | nil => simp [Lib.compareBytes]
    | cons y b => rw [cmpB_cons, lex_zero, ucmp_zero, ih, List.cons.injEq]
theorem cmpB_anti : ∀ (a b : List UInt8), Lib.compareBytes a b = -Lib.compareBytes b a := by
  intro a
  induction a with
  | nil => intro b; cases b <;> simp [Lib.compareBytes]
  | cons x a ih =>
    intro b
    cases b with
    | nil => simp [Lib.compareBytes]
    | cons y b => rw [cmpB_cons, cmpB_cons]; exact lex_anti (icmp_anti _ _) fun _ => ih b
theorem cmpB_tr : ∀ (a b c : List UInt8), Tr (Lib.compareBytes a b) (Lib.compareBytes b c) (Lib.compareBytes a c) := by
  intro a
  induction a with
  | nil => intro b c; cases b <;> cases c <;> simp [Lib.compareBytes, Tr]
  | cons x a ih =>
    intro b c
    cases b with
    | nil => intro h; simp [Lib.compareBytes] at h
    | cons y b =>
      cases c with
      | nil => intro h1 h; simp [Lib.compareBytes] at h
      | cons z c => rw [cmpB_cons, cmpB_cons, cmpB_cons]; exact lex_tr (icmp_tr _ _ _) fun _ _ _ => ih b c

mutual
/-- The order of terms. -/
def Tm.cmp : Tm → Tm → Int
  | .mk k v s n args, .mk k' v' s' n' args' => lex (icmp k k') (if k = 1 then icmp v v' else if k = 2 then cmpS n n' else lex (icmp args.length args'.length) (lex (Lib.compareBytes s.data.toList s'.data.toList) (cmpTs args args')))
def cmpTs : List Tm → List Tm → Int
  | t :: l, t' :: l' => lex (t.cmp t') (cmpTs l l')
  | _, _ => 0
end
mutual
/-- A valid term with numbers of limbs that are limbs. -/
def Tm.fine : Tm → Prop
  | .mk k v s n args => n.ok ∧ nodeE k v s n.neg n.num.length n.den.length n.err args.length = 0 ∧ fines args
def fines : List Tm → Prop
  | [] => True
  | t :: l => t.fine ∧ fines l
end
theorem fines_of {l : List Tm} (h : ∀ i (hi : i < l.length), (l[i]).fine) : fines l := by
  induction l with
  | nil => rw [fines]; trivial
  | cons x l ih => rw [fines]; exact ⟨h 0 (by simp), ih fun i hi => h (i + 1) (Nat.succ_lt_succ hi)⟩
theorem TC.fine {w : World} {t : Tm} {cs : List Value} (h : TC w t cs) : t.err0 = 0 → t.fine := by
  induction h with
  | mk k v s n args A B Ar cap cs hk hv hs hA hB hn hcap hm hr ha ih =>
    intro he
    obtain ⟨h1, h2⟩ := err0_node he
    rw [Tm.fine]
    exact ⟨hn, h1, fines_of fun i hi => ih i hi (errL_get h2 hi)⟩
theorem num_err {k v : Int} {s : ByteArray} {n : LN} {na : Nat} (h : nodeE k v s n.neg n.num.length n.den.length n.err na = 0) (hk : k = 2) : n.err = 0 := by
  rcases node_parts h with ⟨_, _, _, h, _⟩ | ⟨h, _⟩
  · exact h
  · exact absurd hk h

theorem cmpS_anti {a b : LN} (ha : a.ok) (hb : b.ok) (ea : a.err = 0) (eb : b.err = 0) : cmpS a b = -cmpS b a := by
  rw [cmpS_rat ha hb ea eb, cmpS_rat hb ha eb ea]; exact rcmp_anti _ _
theorem cmpS_zero {a b : LN} (ha : a.ok) (hb : b.ok) (ea : a.err = 0) (eb : b.err = 0) : cmpS a b = 0 ↔ a = b := by
  rw [cmpS_rat ha hb ea eb, rcmp_zero]
  exact ⟨LN.q_eq ha hb ea eb, fun h => by rw [h]⟩
theorem cmpS_tr {a b c : LN} (ha : a.ok) (hb : b.ok) (hc : c.ok) (ea : a.err = 0) (eb : b.err = 0) (ec : c.err = 0) : Tr (cmpS a b) (cmpS b c) (cmpS a c) := by
  rw [cmpS_rat ha hb ea eb, cmpS_rat hb hc eb ec, cmpS_rat ha hc ea ec]; exact rcmp_Tr _ _ _
mutual
theorem Tm.cmp_anti : ∀ (a b : Tm), a.fine → b.fine → a.cmp b = -b.cmp a
  | .mk k v s n args, .mk k' v' s' n' args', ha, hb => by
    rw [Tm.fine] at ha hb
    rw [Tm.cmp, Tm.cmp]
    refine lex_anti (icmp_anti _ _) fun h => ?_
    have hk := (icmp_zero _ _).1 h
    subst hk
    by_cases h1 : k = 1
    · rw [if_pos h1, if_pos h1]; exact icmp_anti _ _
    · rw [if_neg h1, if_neg h1]
      by_cases h2 : k = 2
      · rw [if_pos h2, if_pos h2]; exact cmpS_anti ha.1 hb.1 (num_err ha.2.1 h2) (num_err hb.2.1 h2)
      · rw [if_neg h2, if_neg h2]
        exact lex_anti (icmp_anti _ _) fun _ => lex_anti (cmpB_anti _ _) fun _ => cmpTs_anti args args' ha.2.2 hb.2.2
theorem cmpTs_anti : ∀ (a b : List Tm), fines a → fines b → cmpTs a b = -cmpTs b a
  | [], [], _, _ => by simp [cmpTs]
  | [], _ :: _, _, _ => by simp [cmpTs]
  | _ :: _, [], _, _ => by simp [cmpTs]
  | t :: l, t' :: l', ha, hb => by
    rw [fines] at ha hb
    rw [cmpTs, cmpTs]
    exact lex_anti (t.cmp_anti t' ha.1 hb.1) fun _ => cmpTs_anti l l' ha.2 hb.2
end
mutual
theorem Tm.cmp_tr : ∀ (a b c : Tm), a.fine → b.fine → c.fine → Tr (a.cmp b) (b.cmp c) (a.cmp c)
  | .mk k v s n args, .mk k' v' s' n' args', .mk k2 v2 s2 n2 args2, ha, hb, hc => by
    rw [Tm.fine] at ha hb hc
    rw [Tm.cmp, Tm.cmp, Tm.cmp]
    refine lex_tr (icmp_tr _ _ _) fun h h' _ => ?_
    have hk := (icmp_zero _ _).1 h
    have hk' := (icmp_zero _ _).1 h'
    subst hk hk'
    by_cases h1 : k = 1
    · rw [if_pos h1, if_pos h1, if_pos h1]; exact icmp_tr _ _ _
    · rw [if_neg h1, if_neg h1, if_neg h1]
      by_cases h2 : k = 2
      · rw [if_pos h2, if_pos h2, if_pos h2]; exact cmpS_tr ha.1 hb.1 hc.1 (num_err ha.2.1 h2) (num_err hb.2.1 h2) (num_err hc.2.1 h2)
      · rw [if_neg h2, if_neg h2, if_neg h2]
        refine lex_tr (icmp_tr _ _ _) fun l1 l2 _ => lex_tr (cmpB_tr _ _ _) fun _ _ _ => cmpTs_tr args args' args2 ?_ ?_ ha.2.2 hb.2.2 hc.2.2
        · have := (icmp_zero _ _).1 l1; omega
        · have := (icmp_zero _ _).1 l2; omega
theorem cmpTs_tr : ∀ (a b c : List Tm), a.length = b.length → b.length = c.length → fines a → fines b → fines c → Tr (cmpTs a b) (cmpTs b c) (cmpTs a c)
  | [], [], [], _, _, _, _, _ => by simp [cmpTs, Tr]
  | t :: l, t' :: l', t2 :: l2, h1, h2, ha, hb, hc => by
    rw [fines] at ha hb hc
    rw [cmpTs, cmpTs, cmpTs]
    exact lex_tr (t.cmp_tr t' t2 ha.1 hb.1 hc.1) fun _ _ _ => cmpTs_tr l l' l2 (by simpa using h1) (by simpa using h2) ha.2 hb.2 hc.2
end

/-- Where the order is 0, the texts are the same. -/
theorem label_same {k v : Int} {s : ByteArray} {n : LN} {args args' : List Tm} (h : args.length = args'.length) : labelB (.mk k v s n args) = labelB (.mk k v s n args') := by
  rw [label_eq, label_eq]
  simp only [h]
mutual
theorem Tm.cmp_shape : ∀ (a b : Tm), a.fine → b.fine → a.cmp b = 0 → a.shapeL = b.shapeL
  | .mk k v s n args, .mk k' v' s' n' args', ha, hb, h => by
    rw [Tm.fine] at ha hb
    rw [Tm.cmp, lex_zero, icmp_zero] at h
    obtain ⟨rfl, h⟩ := h
    have hp := node_parts ha.2.1
    have hq := node_parts hb.2.1
    by_cases h1 : k = 1
    · rw [if_pos h1, icmp_zero] at h
      subst h
      have e1 : args = [] := List.eq_nil_of_length_eq_zero (by omega)
      have e2 : args' = [] := List.eq_nil_of_length_eq_zero (by omega)
      subst e1 e2
      have hl : labelB (.mk k v s n []) = labelB (.mk k v s' n' []) := by rw [label_eq, label_eq, if_pos h1, if_pos h1]
      rw [Tm.shapeL, Tm.shapeL, hl]
    · rw [if_neg h1] at h
      by_cases h2 : k = 2
      · rw [if_pos h2, cmpS_zero ha.1 hb.1 (num_err ha.2.1 h2) (num_err hb.2.1 h2)] at h
        subst h
        have e1 : args = [] := List.eq_nil_of_length_eq_zero (by omega)
        have e2 : args' = [] := List.eq_nil_of_length_eq_zero (by omega)
        subst e1 e2
        have hl : labelB (.mk k v s n []) = labelB (.mk k v' s' n []) := by rw [label_eq, label_eq, if_neg h1, if_neg h1, if_pos h2, if_pos h2]
        rw [Tm.shapeL, Tm.shapeL, hl]
      · rw [if_neg h2, lex_zero, lex_zero, icmp_zero, cmpB_zero] at h
        obtain ⟨hl, hs, hc⟩ := h
        have hs' : s = s' := by
          apply ByteArray.ext
          exact Array.toList_inj.1 hs
        subst hs'
        have hl' : args.length = args'.length := by omega
        have he : labelB (.mk k v s n args) = labelB (.mk k v' s n' args') := by
          rw [label_eq, label_eq]
          simp only [if_neg h1, if_neg h2, hl']
        rw [Tm.shapeL, Tm.shapeL, he, cmpTs_shape args args' hl' ha.2.2 hb.2.2 hc]
theorem cmpTs_shape : ∀ (a b : List Tm), a.length = b.length → fines a → fines b → cmpTs a b = 0 → shapesL a = shapesL b
  | [], [], _, _, _, _ => rfl
  | t :: l, t' :: l', hl, ha, hb, h => by
    rw [fines] at ha hb
    rw [cmpTs, lex_zero] at h
    rw [shapesL, shapesL, t.cmp_shape t' ha.1 hb.1 h.1, cmpTs_shape l l' (by simpa using hl) ha.2 hb.2 h.2]
end

theorem split_dig : ∀ {l l' x y : List UInt8} {c : UInt8}, allDig l = true → allDig l' = true → isDig c = false → l ++ c :: x = l' ++ c :: y → l = l' ∧ x = y
  | [], [], x, y, c, _, _, _, h => ⟨rfl, by simpa using h⟩
  | [], d :: l', x, y, c, _, h2, h3, h => by
    simp at h
    have := List.all_eq_true.1 h2 d (by simp)
    rw [← h.1, h3] at this; cases this
  | d :: l, [], x, y, c, h1, _, h3, h => by
    simp at h
    have := List.all_eq_true.1 h1 d (by simp)
    rw [h.1, h3] at this; cases this
  | d :: l, d' :: l', x, y, c, h1, h2, h3, h => by
    simp only [List.cons_append, List.cons.injEq] at h
    obtain ⟨rfl, h⟩ := h
    have e1 : allDig l = true := by unfold allDig at h1 ⊢; rw [List.all_cons] at h1; simp at h1; simpa using h1.2
    have e2 : allDig l' = true := by unfold allDig at h2 ⊢; rw [List.all_cons] at h2; simp at h2; simpa using h2.2
    have := split_dig e1 e2 h3 h
    exact ⟨by rw [this.1], this.2⟩
theorem fmt_inj {a b : LN} (ha : a.ok) (hb : b.ok) (ea : a.err = 0) (eb : b.err = 0) (h : fmtL a.neg a.x a.y = fmtL b.neg b.x b.y) : a = b := by
  obtain ⟨g1, g2, g3, g4, g5⟩ := LN.good ha ea
  obtain ⟨k1, k2, k3, k4, k5⟩ := LN.good hb eb
  have pa := parse_fmt (neg := a.neg) (x := a.x) (y := a.y) (by rw [g1]; exact g3) (by rw [g2]; exact g4) g5.1
  have pb := parse_fmt (neg := b.neg) (x := b.x) (y := b.y) (by rw [k1]; exact k3) (by rw [k2]; exact k4) k5.1
  rw [h] at pa
  have e1 : a.neg = b.neg := pa.2.1.symm.trans pb.2.1
  have e2 : a.x = b.x := pa.2.2.1.symm.trans pb.2.2.1
  have e3 : a.y = b.y := pa.2.2.2.symm.trans pb.2.2.2
  have e4 : a.num = b.num := by rw [← g1, ← k1, e2]
  have e5 : a.den = b.den := by rw [← g2, ← k2, e3]
  cases a; cases b
  simp only at e1 e4 e5
  rw [e1, e4, e5]
theorem enc_arity {l : Nat} (h : l ≤ 32) : (Utf8.encode (48 + (l : Int))).data.toList = [UInt8.ofNat (48 + l)] := by
  have : ∀ m : Fin 33, (Utf8.encode (48 + (m.val : Int))).data.toList = [UInt8.ofNat (48 + m.val)] := by decide +kernel
  obtain ⟨m, rfl⟩ : ∃ m : Fin 33, m.val = l := ⟨⟨l, by omega⟩, rfl⟩
  exact this m
theorem arity_inj {l l' : Nat} (h : l ≤ 32) (h' : l' ≤ 32) (e : UInt8.ofNat (48 + l) = UInt8.ofNat (48 + l')) : l = l' := by
  have := congrArg UInt8.toNat e
  rw [UInt8.toNat_ofNat_of_lt' (by show 48 + l < 256; omega), UInt8.toNat_ofNat_of_lt' (by show 48 + l' < 256; omega)] at this
  omega
theorem label_data (k v : Int) (s : ByteArray) (n : LN) (args : List Tm) : (labelB (.mk k v s n args)).data.toList = if k = 1 then 118 :: dec v.toNat else if k = 2 then 110 :: fmtL n.neg n.x n.y else if k = 3 then 97 :: s.data.toList else if k = 4 then 115 :: s.data.toList else 99 :: ((Utf8.encode (48 + (args.length : Int))).data.toList ++ s.data.toList) := by
  rw [label_eq]
  (repeat' split) <;> simp [ByteArray.data_append]
/-- Where the texts are the same, the order is 0. -/
theorem label_inj {k v : Int} {s : ByteArray} {n : LN} {args : List Tm} {k' v' : Int} {s' : ByteArray} {n' : LN} {args' : List Tm} (hn : n.ok) (hn' : n'.ok)
    (h1 : nodeE k v s n.neg n.num.length n.den.length n.err args.length = 0) (h2 : nodeE k' v' s' n'.neg n'.num.length n'.den.length n'.err args'.length = 0)
    (h : (labelB (.mk k v s n args)).data.toList = (labelB (.mk k' v' s' n' args')).data.toList) :
    k = k' ∧ (k = 1 → v = v') ∧ (k = 2 → n = n') ∧ (k ≠ 1 → k ≠ 2 → s = s') ∧ args.length = args'.length := by
  rw [label_data, label_data] at h
  have hs : s.data.toList = s'.data.toList → s = s' := fun e => ByteArray.ext (Array.toList_inj.1 e)
  rcases node_parts h1 with ⟨rfl, a1, a2, a3, a4⟩ | ⟨_, _, _, _, ⟨rfl, a1, a2, a3, a4⟩ | ⟨rfl, a1, a2, a3⟩ | ⟨rfl, a1, a2, a3⟩ | ⟨rfl, a1, a2, a3, a4⟩⟩ <;>
  rcases node_parts h2 with ⟨rfl, b1, b2, b3, b4⟩ | ⟨_, _, _, _, ⟨rfl, b1, b2, b3, b4⟩ | ⟨rfl, b1, b2, b3⟩ | ⟨rfl, b1, b2, b3⟩ | ⟨rfl, b1, b2, b3, b4⟩⟩ <;>
  simp only [if_true, if_false, (by decide : ¬ (2 : Int) = 1), (by decide : ¬ (3 : Int) = 1), (by decide : ¬ (3 : Int) = 2), (by decide : ¬ (4 : Int) = 1), (by decide : ¬ (4 : Int) = 2), (by decide : ¬ (4 : Int) = 3), (by decide : ¬ (5 : Int) = 1), (by decide : ¬ (5 : Int) = 2), (by decide : ¬ (5 : Int) = 3), (by decide : ¬ (5 : Int) = 4)] at h <;>
  first
    | (exfalso; revert h; simp; done)
    | skip
  · simp only [List.cons.injEq, true_and] at h
    exact ⟨rfl, fun q => absurd q (by decide), fun _ => fmt_inj hn hn' a3 b3 h, fun _ q => absurd rfl q, by omega⟩
  · simp only [List.cons.injEq, true_and] at h
    refine ⟨rfl, fun _ => ?_, fun q => absurd q (by decide), fun q => absurd rfl q, by omega⟩
    have := congrArg dval h
    rw [dval_dec, dval_dec] at this
    omega
  · simp only [List.cons.injEq, true_and] at h
    exact ⟨rfl, fun q => absurd q (by decide), fun q => absurd q (by decide), fun _ _ => hs h, by omega⟩
  · simp only [List.cons.injEq, true_and] at h
    exact ⟨rfl, fun q => absurd q (by decide), fun q => absurd q (by decide), fun _ _ => hs h, by omega⟩
  · simp only [List.cons.injEq, true_and] at h
    rw [enc_arity a4, enc_arity b4] at h
    simp only [List.cons_append, List.nil_append, List.cons.injEq] at h
    exact ⟨rfl, fun q => absurd q (by decide), fun q => absurd q (by decide), fun _ _ => hs h.2, arity_inj a4 b4 h.1⟩
mutual
theorem Tm.shape_inj : ∀ (a b : Tm), a.fine → b.fine → ∀ r r', a.shapeL ++ r = b.shapeL ++ r' → a.cmp b = 0 ∧ r = r'
  | .mk k v s n args, .mk k' v' s' n' args', ha, hb, r, r', h => by
    rw [Tm.fine] at ha hb
    rw [Tm.shapeL, Tm.shapeL, List.append_assoc, List.append_assoc, List.cons_append, List.cons_append] at h
    obtain ⟨h1, h2⟩ := split_dig (allDig_dec _) (allDig_dec _) (by decide) h
    have h3 := congrArg dval h1
    rw [dval_dec, dval_dec] at h3
    rw [List.append_assoc, List.append_assoc] at h2
    obtain ⟨h4, h5⟩ := List.append_inj h2 (by rw [Array.length_toList, Array.length_toList]; exact h3)
    obtain ⟨rfl, e1, e2, e3, e4⟩ := label_inj ha.1 hb.1 ha.2.1 hb.2.1 h4
    obtain ⟨h6, h7⟩ := shapesL_inj args args' e4 ha.2.2 hb.2.2 r r' h5
    refine ⟨?_, h7⟩
    rw [Tm.cmp, lex_zero, icmp_zero]
    refine ⟨rfl, ?_⟩
    by_cases k1 : k = 1
    · rw [if_pos k1, icmp_zero]; exact e1 k1
    · rw [if_neg k1]
      by_cases k2 : k = 2
      · rw [if_pos k2, e2 k2, cmpS_zero hb.1 hb.1 (num_err hb.2.1 k2) (num_err hb.2.1 k2)]
      · rw [if_neg k2, lex_zero, lex_zero, icmp_zero, cmpB_zero, e3 k1 k2]
        exact ⟨by omega, rfl, h6⟩
theorem shapesL_inj : ∀ (a b : List Tm), a.length = b.length → fines a → fines b → ∀ r r', shapesL a ++ r = shapesL b ++ r' → cmpTs a b = 0 ∧ r = r'
  | [], [], _, _, _, r, r', h => ⟨rfl, by simpa [shapesL] using h⟩
  | t :: l, t' :: l', hl, ha, hb, r, r', h => by
    rw [fines] at ha hb
    rw [shapesL, shapesL, List.append_assoc, List.append_assoc] at h
    obtain ⟨h1, h2⟩ := t.shape_inj t' ha.1 hb.1 _ _ h
    obtain ⟨h3, h4⟩ := shapesL_inj l l' (by simpa using hl) ha.2 hb.2 r r' h2
    refine ⟨?_, h4⟩
    rw [cmpTs, lex_zero]
    exact ⟨h1, h3⟩
end
/-- The order is 0 just where the texts are the same. -/
theorem Tm.cmp_zero (a b : Tm) (ha : a.fine) (hb : b.fine) : a.cmp b = 0 ↔ a.shapeL = b.shapeL :=
  ⟨a.cmp_shape b ha hb, fun h => (a.shape_inj b ha hb [] [] (by rw [h])).1⟩
end Go.Proofs.YtkamkaehlofgpaaGreat

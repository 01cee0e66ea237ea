/- fetterlockref1.MulNat. Conditions: at most 50000 digits. And 4 more texts. -/
import Derived.Deep.RegionHeld3
import Derived.Test.YtkfnpcilanheiaaGreatJo7
import Derived.Test.YtkfnpcilanheiaaGreatJo12
import Derived.Test.YtkfnpcilanheiaaGreatJo16
import Derived.Test.YtkfnpcilanheiaaGreatJo17
set_option linter.unusedVariables false
set_option linter.unusedSimpArgs false
set_option maxRecDepth 100000
namespace Go.Proofs.YtkfnpcilanheiaaGreat
open Go.RowKit NumB
theorem rmul_inner {out o2 ys : List Nat} {i k c x y o s : Nat} (hlen : i + k < o2.length) (ho : out.getD (i + k) 0 = o) (hy : ys.getD k 0 = y) (hs : s = c + (x * y + o))
    (h : val W16 (o2.take (i + k)) + W16 ^ (i + k) * c = val W16 (out.take (i + k)) + W16 ^ i * x * val W16 (ys.take k)) :
    val W16 ((o2.set (i + k) (s % 65536)).take (i + (k + 1))) + W16 ^ (i + (k + 1)) * (s / 65536) = val W16 (out.take (i + (k + 1))) + W16 ^ i * x * val W16 (ys.take (k + 1)) := by
  rw [← Nat.add_assoc, val_take_succ, val_take_succ, val_take_succ, take_set_lt _ _ _ _ (Nat.le_refl _), getD_set_self _ _ _ hlen, ho, hy, Nat.pow_succ]
  exact mul_alg hs (Nat.pow_add _ _ _) h W16
theorem rmul_outer {out o2 xs ys : List Nat} {i m k x Y : Nat} (hm : ys.length = m) (hY : val W16 ys = Y) (hx : xs.getD i 0 = x) (hk : k = m ∨ k = m + 1) (hz : ∀ q, i + m ≤ q → out.getD q 0 = 0) (hj : ∀ q, i + k ≤ q → o2.getD q 0 = out.getD q 0)
    (h : val W16 (o2.take (i + k)) + W16 ^ (i + k) * 0 = val W16 (out.take (i + k)) + W16 ^ i * x * val W16 (ys.take k)) (ho : val W16 (out.take (i + m)) = val W16 (xs.take i) * Y) :
    val W16 (o2.take (i + 1 + m)) = val W16 (xs.take (i + 1)) * Y := by
  rw [Nat.mul_zero, Nat.add_zero, val_take_all W16 ys (j := k) (by omega), hY] at h
  rw [val_take_succ W16 xs, hx, Nat.add_mul, ← ho]
  rcases hk with rfl | rfl
  · rw [show i + 1 + k = i + k + 1 from by omega, val_take_succ, hj _ (Nat.le_refl _), hz _ (Nat.le_refl _), Nat.mul_zero, Nat.add_zero]
    exact h
  · rw [show i + (m + 1) = i + m + 1 from by omega] at h
    rw [show i + 1 + m = i + m + 1 from by omega, h, val_take_succ, hz _ (Nat.le_refl _), Nat.mul_zero, Nat.add_zero]
set_option maxHeartbeats 6400000 in
theorem rmul_any (x y : Nat) (va vb : Value) (w : World) (ha : Nat16 w va x) (hb : Nat16 w vb y) (hx : (digs W16 x).length ≤ 50000) (hy : (digs W16 y).length ≤ 50000) :
    Calls Tryz.prog 203 #[va, vb] w (RPost w (x * y)) := by
  have HB0 := Lib.hid hb
  obtain ⟨A, ca, rfl, hca, hma, hra⟩ := ha
  obtain ⟨A', cb, rfl, hcb, hmb, hrb⟩ := hb
  unfold maxLen at hma hmb
  unfold Nat16 at HB0
  have HX := Lib.hid (And.intro (And.intro (val_digs W16_gt x) (val_digs W16_gt y)) (And.intro (ok_digs W16_gt x) (ok_digs W16_gt y)))
  generalize digs W16 x = xs at *
  generalize digs W16 y = ys at *
  generalize hn : xs.length = n at *
  generalize hm : ys.length = m at *
  have HRA := Lib.hid hra
  have HM := Lib.hid hm
  clear hra hrb hn hm
  obtain ⟨i0, hi0, hz0, hz1, hz2⟩ := info_parts info_i64
  have HI := Lib.hid hi0
  have HZ0 := Lib.hid hz0
  have HZ1 := Lib.hid hz1
  have HZ2 := Lib.hid hz2
  clear hi0 hz0 hz1 hz2
  go_enter Tryz.func203, Tryz.ntmps203
  go_wp2_with (at_make; refine wpList_make_full _ rfl _ _ 44 rfl w.heap.size 3 i0 (.int .i64 0) 1 Tryz.underlying44 HI.out HZ0.out HZ1.out .i64 .i64 _ _ (n + m + 1) rfl rfl (by omega) (by omega) (by rw [HZ2.out]; omega) (by unfold maxLen; omega) (Nat.le_refl _) ?_; intro w1 hown1 hg1)
  have HO1 := Lib.hid (Own.made hown1)
  have HB1 := Lib.hid ((Below.refl w.heap.size w).grown hg1 (Nat.le_refl _) (by simp))
  clear hown1 hg1
  go_loopg [19, 6, 7, 8, 9] n (fun gk si s6 s7 s8 s9 wr => ∃ (i : Nat) (out : List Nat), gk + i = n ∧ si = .int .i64 (i : Int) ∧ Hid (Own .i64 3 wr w.heap.size w.heap.size (n + m + 1) (n + m + 1) out) ∧ Hid (Ok W16 out) ∧ Hid (∀ q, i + m ≤ q → out.getD q 0 = 0) ∧ Hid (val W16 (out.take (i + m)) = val W16 (xs.take i) * y) ∧ Hid (Below w.heap.size w wr))
  case atStart => exact ⟨0, List.replicate (n + m + 1) 0, by omega, rfl, HO1.out, ok_replicate (by decide), fun q _ => getD_replicate _ _, by unfold Hid; rw [List.take_replicate, val_replicate]; simp, HB1.out⟩
  case round =>
    obtain ⟨i, out, hgi, rfl, HO, HOK, HZ, HE, HB⟩ := hrel
    obtain ⟨wo, rfl⟩ : ∃ wo : World, wo = wr := ⟨_, rfl⟩
    by_cases hi : i < n
    · obtain ⟨b, o, p, rfl, hb, hpe, hcp0⟩ := HRA.out.at_ (i := i) hi
      have hpb : p < 65536 := by rw [← hpe]; exact HX.out.2.1.getD (by decide) _
      have HP := Lib.hid hpe
      have HCP := Lib.hid hcp0
      clear hpe hcp0
      go_wp2_with fail
      go_loopg [7, 8, 9] (m + 2) (fun gk2 s7 s8 s9 wr => ∃ (k c : Nat) (o2 : List Nat), gk2 + k = m + 2 ∧ k ≤ m + 1 ∧ (k = m + 1 → c = 0) ∧ s8 = .int .i64 (k : Int) ∧ s7 = .int .i64 (c : Int) ∧ c < 65536 ∧ Hid (Own .i64 3 wr w.heap.size w.heap.size (n + m + 1) (n + m + 1) o2) ∧ Hid (Ok W16 o2) ∧ Hid (∀ q, i + k ≤ q → o2.getD q 0 = out.getD q 0) ∧ Hid (val W16 (o2.take (i + k)) + W16 ^ (i + k) * c = val W16 (out.take (i + k)) + W16 ^ i * p * val W16 (ys.take k)) ∧ Hid (Below w.heap.size w wr))
      case atStart => exact ⟨0, 0, out, by omega, by omega, fun _ => rfl, rfl, rfl, by omega, HO.out, HOK.out, fun _ _ => rfl, by unfold Hid; simp, HB.out⟩
      case round =>
        obtain ⟨k, c, o2, hgk, hkm, hkc, rfl, rfl, hc, HO2, HOK2, HJ2, HE2, HB2⟩ := hrel
        by_cases hex : m ≤ k ∧ c = 0
        · obtain ⟨hmk, rfl⟩ := hex
          have hnk : ¬ (k < m) := by omega
          clear hkc
          go_wp2
          go_roundg (n - (i + 1))
          case measure => omega
          case rel =>
            refine ⟨i + 1, o2, by omega, by go_num, HO2.out, HOK2.out, ?_, rmul_outer HM.out HX.out.1.2 HP.out (by omega) HZ.out HJ2.out HE2.out HE.out, HB2.out⟩
            intro q' hq'
            rw [HJ2.out q' (by omega)]
            exact HZ.out q' (by omega)
        · have hkm2 : k ≤ m := by
            rcases Nat.lt_or_ge m k with h | h
            · exact absurd ⟨by omega, hkc (by omega)⟩ hex
            · exact h
          have hcase : k < m ∨ (m ≤ k ∧ 0 < c) := by
            rcases Nat.lt_or_ge k m with h | h
            · exact .inl h
            · exact .inr ⟨h, Nat.pos_of_ne_zero fun h0 => hex ⟨h, h0⟩⟩
          obtain ⟨q, hqe⟩ : ∃ q, ys.getD k 0 = q := ⟨_, rfl⟩
          have hqb : q < 65536 := by rw [← hqe]; exact HX.out.2.2.getD (by decide) _
          have HQ0 : Hid (k = m → q = 0) := fun h => by rw [← hqe]; exact getD_ge (by rw [HM.out]; omega)
          have HQ := Lib.hid hqe
          clear hqe
          obtain ⟨r, hr⟩ : ∃ r, out.getD (i + k) 0 = r := ⟨_, rfl⟩
          have HR := Lib.hid hr
          have HR0 : Hid (k = m → r = 0) := fun h => by rw [← hr]; exact HZ.out _ (by omega)
          have hrb : r < 65536 := by rw [← hr]; exact HOK.out.getD (by decide) _
          have hcr : wr.cell? ⟨w.heap.size, i + k, none⟩ = some (.int .i64 (r : Int)) := by rw [← hr, ← HJ2.out _ (Nat.le_refl _)]; exact HO2.out.cell (by omega)
          have hcp : wr.cell? ⟨b, o + i, none⟩ = some (.int .i64 (p : Int)) := (HB2.out.cell (p := ⟨b, o + i, none⟩) hb).trans HCP.out
          clear hr hex hkc
          obtain ⟨pq, hpq⟩ : ∃ pq, pq = p * q := ⟨_, rfl⟩
          have HPQ := Lib.hid hpq
          have hpqb : pq ≤ 4294836225 := by rw [hpq]; exact Nat.mul_le_mul (show p ≤ 65535 by omega) (show q ≤ 65535 by omega)
          have hpqi : (p : Int) * (q : Int) = (pq : Int) := by rw [hpq, Int.natCast_mul]
          clear hpq
          have HSl : Hid (Sl .i64 wr (.slice A' m cb) ys) := HB0.out.to HB2.out
          have hi0 : (0 : Int) ≤ (i : Int) + (k : Int) := by omega
          have hi1 : (i : Int) + (k : Int) < ((n + m + 1 : Nat) : Int) := by omega
          have hi2 : (0 : Int) ≤ (i : Int) := by omega
          have hi3 : (i : Int) < (n : Int) := by omega
          have ht : ((i : Int) + (k : Int)).toNat = i + k := by omega
          have hw1 : IntKind.i64.wrap ((i : Int) + (k : Int)) = (i : Int) + (k : Int) := by rw [IntKind.wrap_i64]; omega
          have hw2 : IntKind.i64.wrap (pq : Int) = (pq : Int) := by rw [IntKind.wrap_i64]; omega
          have hw3 : IntKind.i64.wrap ((r : Int) + (pq : Int)) = (r : Int) + (pq : Int) := by rw [IntKind.wrap_i64]; omega
          have hw4 : IntKind.i64.wrap ((r : Int) + (pq : Int) + (c : Int)) = (r : Int) + (pq : Int) + (c : Int) := by rw [IntKind.wrap_i64]; omega
          rcases hcase with hlt | ⟨hkm3, hc0⟩
          all_goals
            try (have hnk : ¬ (k < m) := by omega)
            go_wp2
            go_quiet ((go_at_call 105; exact quietL (rdigit_eq ys _ k q _ (by exact HSl.out) (by omega) HQ.out)))
            clear hw2 hw3 hw4 hcp
            generalize hwq : wr.drewN nq = wq
            have HO3 : Hid (Own .i64 3 wq w.heap.size w.heap.size (n + m + 1) (n + m + 1) o2) := by rw [← hwq]; exact HO2.out
            have HB3 : Hid (Below w.heap.size w wq) := by rw [← hwq]; exact below_drewN HB2.out _
            have hcr2 : wq.cell? ⟨w.heap.size, i + k, none⟩ = some (.int .i64 (r : Int)) := by rw [← hwq]; exact hcr
            have hf := HO3.out.frozen (i + k)
            clear hwq hcr
            go_wp2
            go_roundg (gk - 1)
            case measure => omega
            case rel =>
              have el : ((r : Int) + (pq : Int) + (c : Int)) % 65536 = (((c + (pq + r)) % 65536 : Nat) : Int) := by omega
              have eh : ((r : Int) + (pq : Int) + (c : Int)) / 65536 = (((c + (pq + r)) / 65536 : Nat) : Int) := by omega
              rw [el, eh]
              refine ⟨k + 1, (c + (pq + r)) / 65536, o2.set (i + k) ((c + (pq + r)) % 65536), by omega, by omega, ?_, by go_num, rfl, by omega, HO3.out.stored _ _, HOK2.out.set (Nat.mod_lt _ (by decide)), ?_, rmul_inner (by rw [HO3.out.1]; omega) HR.out HQ.out (by rw [HPQ.out]) HE2.out, HB3.out.setCell (Nat.le_refl _) _⟩
              · intro hk1
                have hkm4 : k = m := by omega
                have h1 := HR0.out hkm4
                have h2 := HQ0.out hkm4
                have h3 := HPQ.out
                rw [h2, Nat.mul_zero] at h3
                omega
              · intro q' hq'
                rw [NumB.getD_set_ne _ _ _ _ (by omega)]
                exact HJ2.out q' (by omega)
    · obtain rfl : i = n := by omega
      clear hgi hi
      go_wp2_with (go_at_call 104; refine (rtrim_any out _ _ HO.out.sl HOK.out).mono ?_; rintro e w' ⟨v', rfl, hn', rfl⟩)
      go_ret
      have he := HE.out
      have hv : val W16 out = val W16 (out.take (i + m)) := by
        rw [← val_take_all W16 out (j := i + m + 1) (by rw [HO.out.1]; exact Nat.le_refl _), val_take_succ, HZ.out _ (Nat.le_refl _), Nat.mul_zero, Nat.add_zero]
      rw [hv, he, val_take_all W16 xs (by rw [HRA.out.1]; exact Nat.le_refl _), HX.out.1.1] at hn'
      exact ⟨_, rfl, hn', HB.out⟩
def cmpQ (na : Bool) (xa ya : Nat) (nb : Bool) (xb yb : Nat) : Int := if na = nb then (if na then -cmpI (xa * yb) (xb * ya) else cmpI (xa * yb) (xb * ya)) else if na then -1 else 1
theorem cmpI_swap (x y : Nat) : cmpI y x = -cmpI x y := by unfold cmpI; split <;> split <;> (try split) <;> omega
theorem compare_B (x y : Nat) (va vb : Value) (w : World) (ha : Nat32 w va x) (hb : Nat32 w vb y) :
    Calls Tryz.prog 259 #[va, vb] w fun e w' => e = .returned (.int .i64 (cmpI x y)) ∧ Below w.heap.size w w' :=
  (compare_any x y va vb w ha hb).mono fun _ _ ⟨he, m, hm⟩ => ⟨he, by rw [hm]; exact below_of_drewN m⟩
set_option maxHeartbeats 6400000 in
theorem compareNum_any (na nb : Bool) (xa ya xb yb : Nat) (A1 A2 A3 A4 : Value) (w : World) (h1 : Nat32 w A1 xa) (h2 : Nat32 w A2 ya) (h3 : Nat32 w A3 xb) (h4 : Nat32 w A4 yb)
    (l1 : (digs W32 xa).length ≤ 10000) (l2 : (digs W32 ya).length ≤ 10000) (l3 : (digs W32 xb).length ≤ 10000) (l4 : (digs W32 yb).length ≤ 10000) :
    Calls Tryz.prog 191 #[.agg #[.bool na, A1, A2], .agg #[.bool nb, A3, A4]] w fun e w' => e = .returned (.int .i64 (cmpQ na xa ya nb xb yb)) ∧ Below w.heap.size w w' := by
  obtain ⟨B1, n1, c1, rfl, e1⟩ := h1.form
  obtain ⟨B2, n2, c2, rfl, e2⟩ := h2.form
  obtain ⟨B3, n3, c3, rfl, e3⟩ := h3.form
  obtain ⟨B4, n4, c4, rfl, e4⟩ := h4.form
  have HL : Hid (((digs W32 xa).length ≤ 50000 ∧ (digs W32 ya).length ≤ 50000) ∧ ((digs W32 xb).length ≤ 50000 ∧ (digs W32 yb).length ≤ 50000)) := ⟨⟨by omega, by omega⟩, by omega, by omega⟩
  have HN : ∀ o1 o2 : Obj, Hid (Nat32 ((w.alloc o1).alloc o2).drew (.slice B1 n1 c1) xa ∧ Nat32 ((w.alloc o1).alloc o2).drew (.slice B2 n2 c2) ya ∧ Nat32 ((w.alloc o1).alloc o2).drew (.slice B3 n3 c3) xb ∧ Nat32 ((w.alloc o1).alloc o2).drew (.slice B4 n4 c4) yb) :=
    fun o1 o2 => ⟨h1.to (below_two w o1 o2).drew, h2.to (below_two w o1 o2).drew, h3.to (below_two w o1 o2).drew, h4.to (below_two w o1 o2).drew⟩
  have HB0 : Hid (∀ o1 o2 : Obj, Below w.heap.size w ((w.alloc o1).alloc o2)) := fun o1 o2 => below_two w o1 o2
  have HE : Hid (cmpQ na xa ya nb xb yb = if na = nb then (if na then -cmpI (xa * yb) (xb * ya) else cmpI (xa * yb) (xb * ya)) else if na then -1 else 1) := rfl
  generalize cmpQ na xa ya nb xb yb = r at *
  clear e1 e2 e3 e4 h1 h2 h3 h4 l1 l2 l3 l4
  have HBK := Lib.hid (blk2 w 24 24 #[.bool na, .slice B1 n1 c1, .slice B2 n2 c2] #[.bool nb, .slice B3 n3 c3, .slice B4 n4 c4])
  have hk : ∀ W1 W' : World, Below W1.heap.size W1 W' → (W1.cell? ⟨w.heap.size, 0, none⟩ = some (.bool na) ∧ W1.cell? ⟨w.heap.size, 1, none⟩ = some (.slice B1 n1 c1) ∧ W1.cell? ⟨w.heap.size, 2, none⟩ = some (.slice B2 n2 c2) ∧ W1.cell? ⟨w.heap.size + 1, 0, none⟩ = some (.bool nb) ∧ W1.cell? ⟨w.heap.size + 1, 1, none⟩ = some (.slice B3 n3 c3) ∧ W1.cell? ⟨w.heap.size + 1, 2, none⟩ = some (.slice B4 n4 c4) ∧ w.heap.size + 1 < W1.heap.size) → (W'.cell? ⟨w.heap.size, 0, none⟩ = some (.bool na) ∧ W'.cell? ⟨w.heap.size, 1, none⟩ = some (.slice B1 n1 c1) ∧ W'.cell? ⟨w.heap.size, 2, none⟩ = some (.slice B2 n2 c2) ∧ W'.cell? ⟨w.heap.size + 1, 0, none⟩ = some (.bool nb) ∧ W'.cell? ⟨w.heap.size + 1, 1, none⟩ = some (.slice B3 n3 c3) ∧ W'.cell? ⟨w.heap.size + 1, 2, none⟩ = some (.slice B4 n4 c4) ∧ w.heap.size + 1 < W'.heap.size) := fun W1 W' h1 ⟨a0, a1, a2, a3, a4, a5, a6⟩ => ⟨(h1.cell (p := ⟨w.heap.size, 0, none⟩) (by show w.heap.size < _; omega)).trans a0, (h1.cell (p := ⟨w.heap.size, 1, none⟩) (by show w.heap.size < _; omega)).trans a1, (h1.cell (p := ⟨w.heap.size, 2, none⟩) (by show w.heap.size < _; omega)).trans a2, (h1.cell (p := ⟨w.heap.size + 1, 0, none⟩) (by show w.heap.size + 1 < _; omega)).trans a3, (h1.cell (p := ⟨w.heap.size + 1, 1, none⟩) (by show w.heap.size + 1 < _; omega)).trans a4, (h1.cell (p := ⟨w.heap.size + 1, 2, none⟩) (by show w.heap.size + 1 < _; omega)).trans a5, Nat.lt_of_lt_of_le a6 h1.size⟩
  have HK := Lib.hid hk
  clear hk
  by_cases hs : na = nb
  · rw [if_pos hs] at HE
    subst hs
    have hne : (na != na) = false := by simp
    have hbd := cmpI_bd (xa * yb) (xb * ya)
    generalize hcc : cmpI (xa * yb) (xb * ya) = z at *
    have HC := Lib.hid hcc
    clear hcc
    go_enter Tryz.func191, Tryz.ntmps191
    go_wp2_with fail
    go_region_held3 (fun w' => w'.cell? ⟨w.heap.size, 0, none⟩ = some (.bool na) ∧ w'.cell? ⟨w.heap.size, 1, none⟩ = some (.slice B1 n1 c1) ∧ w'.cell? ⟨w.heap.size, 2, none⟩ = some (.slice B2 n2 c2) ∧ w'.cell? ⟨w.heap.size + 1, 0, none⟩ = some (.bool na) ∧ w'.cell? ⟨w.heap.size + 1, 1, none⟩ = some (.slice B3 n3 c3) ∧ w'.cell? ⟨w.heap.size + 1, 2, none⟩ = some (.slice B4 n4 c4) ∧ w.heap.size + 1 < w'.heap.size)
      (first | go_keep | (refine HK.out _ _ (by assumption) ?_; go_keep))
      (first
        | (go_at_call 216; ((with_reducible refine (mul_any xa yb (.slice B1 n1 c1) (.slice B4 n4 c4) _ (by exact (HN _ _).out.1) (by exact (HN _ _).out.2.2.2) HL.out.1.1 HL.out.2.2).mono ?_)); rintro e w1 ⟨v1, rfl, hn1, hb1⟩)
        | (go_at_call 216; ((with_reducible refine (mul_any xb ya (.slice B3 n3 c3) (.slice B2 n2 c2) _ (by exact (HN _ _).out.2.2.1.to hb1) (by exact (HN _ _).out.2.1.to hb1) HL.out.2.1 HL.out.1.2).mono ?_)); rintro e w2 ⟨v2, rfl, hn2, hb2⟩)
        | (go_at_call 259; ((with_reducible refine (compare_B (xa * yb) (xb * ya) _ _ _ (by exact hn1.to hb2) (by exact hn2)).mono ?_)); rintro e w3 ⟨he3, hb3⟩; rw [HC.out] at he3; subst he3))
    have HBE : Hid (Below w.heap.size w w3) := (((HB0.out _ _).drew.trans (hb1.mono (HB0.out _ _).drew.size)).trans (hb2.mono (Nat.le_trans (HB0.out _ _).drew.size hb1.size))).trans (hb3.mono (Nat.le_trans (Nat.le_trans (HB0.out _ _).drew.size hb1.size) hb2.size))
    have hk1 := ((HBK.out.1.drew.to hb1).to hb2).to hb3
    have hcn := hk1.cell 0
    simp only [List.getElem?_toArray, List.getElem?_cons_zero] at hcn
    clear hk1 hb1 hb2 hb3 hn1 hn2 HK HN
    cases na with
    | true =>
      simp only [if_true] at HE
      go_wp2_with fail
      go_ret
      rw [HE.out]
      exact ⟨rfl, HBE.out⟩
    | false =>
      simp only [Bool.false_eq_true, if_false] at HE
      go_wp2_with fail
      go_ret
      rw [HE.out]
      exact ⟨rfl, HBE.out⟩
  · rw [if_neg hs] at HE
    clear HK
    cases na <;> cases nb
    · exact absurd rfl hs
    · simp only [Bool.false_eq_true, if_false] at HE
      clear hs
      go_enter Tryz.func191, Tryz.ntmps191
      go_wp2_with fail
      go_ret
      rw [HE.out]
      exact ⟨rfl, HB0.out _ _⟩
    · simp only [if_true] at HE
      clear hs
      go_enter Tryz.func191, Tryz.ntmps191
      go_wp2_with fail
      go_ret
      rw [HE.out]
      exact ⟨rfl, HB0.out _ _⟩
    · exact absurd rfl hs
theorem digs16_len_mul (x y : Nat) : (digs W16 (x * y)).length ≤ (digs W16 x).length + (digs W16 y).length := by
  refine digs_len_le W16_gt ?_
  rw [Nat.pow_add]
  exact Nat.mul_lt_mul'' (digs_lt W16_gt) (digs_lt W16_gt)
set_option maxHeartbeats 6400000 in
theorem rcmpR_any (na nb : Bool) (xa ya xb yb : Nat) (va vb : Value) (w : World) (ha : RV w va na xa ya) (hb : RV w vb nb xb yb)
    (l1 : (digs W16 xa).length ≤ 10000) (l2 : (digs W16 ya).length ≤ 10000) (l3 : (digs W16 xb).length ≤ 10000) (l4 : (digs W16 yb).length ≤ 10000) :
    Calls Tryz.prog 138 #[va, vb] w fun e w' => e = .returned (.int .i64 (cmpQ na xa ya nb xb yb)) ∧ Below w.heap.size w w' := by
  obtain ⟨A1, A2, rfl, h1, h2⟩ := ha
  obtain ⟨A3, A4, rfl, h3, h4⟩ := hb
  obtain ⟨B1, n1, c1, rfl, e1⟩ := h1.form
  obtain ⟨B2, n2, c2, rfl, e2⟩ := h2.form
  obtain ⟨B3, n3, c3, rfl, e3⟩ := h3.form
  obtain ⟨B4, n4, c4, rfl, e4⟩ := h4.form
  have HL : Hid (((digs W16 xa).length ≤ 50000 ∧ (digs W16 ya).length ≤ 50000) ∧ ((digs W16 xb).length ≤ 50000 ∧ (digs W16 yb).length ≤ 50000)) := ⟨⟨by omega, by omega⟩, by omega, by omega⟩
  have HM : Hid ((digs W16 (xa * yb)).length ≤ 1000000 ∧ (digs W16 (xb * ya)).length ≤ 1000000) := ⟨Nat.le_trans (digs16_len_mul xa yb) (by omega), Nat.le_trans (digs16_len_mul xb ya) (by omega)⟩
  have HN : ∀ o1 o2 : Obj, Hid (Nat16 ((w.alloc o1).alloc o2).drew (.slice B1 n1 c1) xa ∧ Nat16 ((w.alloc o1).alloc o2).drew (.slice B2 n2 c2) ya ∧ Nat16 ((w.alloc o1).alloc o2).drew (.slice B3 n3 c3) xb ∧ Nat16 ((w.alloc o1).alloc o2).drew (.slice B4 n4 c4) yb) :=
    fun o1 o2 => ⟨h1.to (below_two w o1 o2).drew, h2.to (below_two w o1 o2).drew, h3.to (below_two w o1 o2).drew, h4.to (below_two w o1 o2).drew⟩
  have HB0 : Hid (∀ o1 o2 : Obj, Below w.heap.size w ((w.alloc o1).alloc o2).drew) := fun o1 o2 => (below_two w o1 o2).drew
  have HE : Hid (cmpQ na xa ya nb xb yb = if na = nb then (if na then -cmpI (xa * yb) (xb * ya) else cmpI (xa * yb) (xb * ya)) else if na then -1 else 1) := rfl
  generalize cmpQ na xa ya nb xb yb = r at *
  clear e1 e2 e3 e4 h1 h2 h3 h4 l1 l2 l3 l4
  have HBK := Lib.hid (blk2 w 46 46 #[.bool na, .slice B1 n1 c1, .slice B2 n2 c2] #[.bool nb, .slice B3 n3 c3, .slice B4 n4 c4])
  have hk : ∀ W1 W' : World, Below W1.heap.size W1 W' → (W1.cell? ⟨w.heap.size, 0, none⟩ = some (.bool na) ∧ W1.cell? ⟨w.heap.size, 1, none⟩ = some (.slice B1 n1 c1) ∧ W1.cell? ⟨w.heap.size, 2, none⟩ = some (.slice B2 n2 c2) ∧ W1.cell? ⟨w.heap.size + 1, 0, none⟩ = some (.bool nb) ∧ W1.cell? ⟨w.heap.size + 1, 1, none⟩ = some (.slice B3 n3 c3) ∧ W1.cell? ⟨w.heap.size + 1, 2, none⟩ = some (.slice B4 n4 c4) ∧ w.heap.size + 1 < W1.heap.size) → (W'.cell? ⟨w.heap.size, 0, none⟩ = some (.bool na) ∧ W'.cell? ⟨w.heap.size, 1, none⟩ = some (.slice B1 n1 c1) ∧ W'.cell? ⟨w.heap.size, 2, none⟩ = some (.slice B2 n2 c2) ∧ W'.cell? ⟨w.heap.size + 1, 0, none⟩ = some (.bool nb) ∧ W'.cell? ⟨w.heap.size + 1, 1, none⟩ = some (.slice B3 n3 c3) ∧ W'.cell? ⟨w.heap.size + 1, 2, none⟩ = some (.slice B4 n4 c4) ∧ w.heap.size + 1 < W'.heap.size) := fun W1 W' h1 ⟨a0, a1, a2, a3, a4, a5, a6⟩ => ⟨(h1.cell (p := ⟨w.heap.size, 0, none⟩) (by show w.heap.size < _; omega)).trans a0, (h1.cell (p := ⟨w.heap.size, 1, none⟩) (by show w.heap.size < _; omega)).trans a1, (h1.cell (p := ⟨w.heap.size, 2, none⟩) (by show w.heap.size < _; omega)).trans a2, (h1.cell (p := ⟨w.heap.size + 1, 0, none⟩) (by show w.heap.size + 1 < _; omega)).trans a3, (h1.cell (p := ⟨w.heap.size + 1, 1, none⟩) (by show w.heap.size + 1 < _; omega)).trans a4, (h1.cell (p := ⟨w.heap.size + 1, 2, none⟩) (by show w.heap.size + 1 < _; omega)).trans a5, Nat.lt_of_lt_of_le a6 h1.size⟩
  have HK := Lib.hid hk
  clear hk
  go_enter Tryz.func138, Tryz.ntmps138
  go_wp2_with fail
  go_region_held3 (fun w' => w'.cell? ⟨w.heap.size, 0, none⟩ = some (.bool na) ∧ w'.cell? ⟨w.heap.size, 1, none⟩ = some (.slice B1 n1 c1) ∧ w'.cell? ⟨w.heap.size, 2, none⟩ = some (.slice B2 n2 c2) ∧ w'.cell? ⟨w.heap.size + 1, 0, none⟩ = some (.bool nb) ∧ w'.cell? ⟨w.heap.size + 1, 1, none⟩ = some (.slice B3 n3 c3) ∧ w'.cell? ⟨w.heap.size + 1, 2, none⟩ = some (.slice B4 n4 c4) ∧ w.heap.size + 1 < w'.heap.size)
    (first | go_keep | (refine HK.out _ _ (by assumption) ?_; go_keep))
    (first
      | (go_at_call 203; ((with_reducible refine (rmul_any xa yb (.slice B1 n1 c1) (.slice B4 n4 c4) _ (by exact (HN _ _).out.1) (by exact (HN _ _).out.2.2.2) HL.out.1.1 HL.out.2.2).mono ?_)); rintro e w1 ⟨v1, rfl, hn1, hb1⟩)
      | (go_at_call 203; ((with_reducible refine (rmul_any xb ya (.slice B3 n3 c3) (.slice B2 n2 c2) _ (by exact (HN _ _).out.2.2.1.to hb1) (by exact (HN _ _).out.2.1.to hb1) HL.out.2.1 HL.out.1.2).mono ?_)); rintro e w2 ⟨v2, rfl, hn2, hb2⟩))
  have HBE : Hid (Below w.heap.size w w2) := ((HB0.out _ _).trans (hb1.mono (HB0.out _ _).size)).trans (hb2.mono (Nat.le_trans (HB0.out _ _).size hb1.size))
  have hk1 := (HBK.out.1.drew.to hb1).to hb2
  have hk2 := (HBK.out.2.drew.to hb1).to hb2
  have hca := hk1.cell 0
  have hcb := hk2.cell 0
  simp only [List.getElem?_toArray, List.getElem?_cons_zero] at hca hcb
  have HN1 := Lib.hid (hn1.to hb2)
  have HN2 := Lib.hid hn2
  clear hk1 hk2 hb1 hb2 hn1 hn2 HK HN
  cases na <;> cases nb
  all_goals simp only [if_true, if_false, Bool.false_eq_true, Bool.true_eq_false] at HE
  · go_wp2_with fail
    refine (rcmp_any (xa * yb) (xb * ya) _ _ _ (by exact HN1.out) (by exact HN2.out) HM.out.1 HM.out.2).mono ?_
    rintro e w3 ⟨rfl, rfl⟩
    go_wp2_with fail
    go_ret
    rw [HE.out]
    exact ⟨rfl, HBE.out⟩
  · go_wp2_with fail
    go_ret
    rw [HE.out]
    exact ⟨rfl, HBE.out⟩
  · go_wp2_with fail
    go_ret
    rw [HE.out]
    exact ⟨rfl, HBE.out⟩
  · go_wp2_with fail
    refine (rcmp_any (xb * ya) (xa * yb) _ _ _ (by exact HN2.out) (by exact HN1.out) HM.out.2 HM.out.1).mono ?_
    rintro e w3 ⟨he, rfl⟩
    rw [cmpI_swap] at he
    subst he
    go_wp2_with fail
    go_ret
    rw [HE.out]
    exact ⟨rfl, HBE.out⟩
def cmpS (a b : LN) : Int := cmpQ a.neg a.x a.y b.neg b.x b.y
set_option maxHeartbeats 6400000 in
theorem compare_S (a b : LN) (va vb : Value) (w : World) (ha : GV w va a) (hb : GV w vb b) :
    Calls Tryz.prog 131 #[va, vb] w fun e w' => e = .returned (.tuple #[.int .i64 (if err2 a.err b.err = 0 then cmpS a b else 0), .int .i64 (err2 a.err b.err)]) ∧ Below w.heap.size w w' := by
  obtain ⟨A1, A2, rfl, h1, h2, o1, o2⟩ := ha
  obtain ⟨A3, A4, rfl, h3, h4, o3, o4⟩ := hb
  have h : Two w a.neg b.neg A1 A2 A3 A4 a.num a.den b.num b.den := ⟨h1, h2, h3, h4⟩
  have HT := Lib.hid h
  have HPN : Hid (err2 a.err b.err = 0 → ∀ W : World, Two W a.neg b.neg A1 A2 A3 A4 a.num a.den b.num b.den → Calls Tryz.prog 191 #[.agg #[.bool a.neg, A1, A2], .agg #[.bool b.neg, A3, A4]] W fun e w' => e = .returned (.int .i64 (cmpS a b)) ∧ Below W.heap.size W w') := by
    intro he W hW
    obtain ⟨ea, eb⟩ := err2_zero.1 he
    obtain ⟨p1, p2, p3, p4, _⟩ := LN.good ⟨o1, o2⟩ ea
    obtain ⟨q1, q2, q3, q4, _⟩ := LN.good ⟨o3, o4⟩ eb
    refine compareNum_any a.neg b.neg a.x a.y b.x b.y _ _ _ _ W ?_ ?_ ?_ ?_ (by rw [p1]; omega) (by rw [p2]; omega) (by rw [q1]; omega) (by rw [q2]; omega)
    · unfold Nat32; rw [p1]; exact hW.1
    · unfold Nat32; rw [p2]; exact hW.2.1
    · unfold Nat32; rw [q1]; exact hW.2.2.1
    · unfold Nat32; rw [q2]; exact hW.2.2.2
  have HCK := Lib.hid (fun (W : World) (t : TypeId) (b' cap : Nat) (hb : W.heap.size = b') (hW : Two W a.neg b.neg A1 A2 A3 A4 a.num a.den b.num b.den) => checks_two' hW o1 o2 o3 o4 t b' cap hb)
  obtain ⟨B1, c1, rfl, _⟩ := h1
  obtain ⟨B2, c2, rfl, _⟩ := h2
  obtain ⟨B3, c3, rfl, _⟩ := h3
  obtain ⟨B4, c4, rfl, _⟩ := h4
  have hbd : 0 ≤ err2 a.err b.err ∧ err2 a.err b.err ≤ 3 := err2_bd (checkL_bd _ _ _) (checkL_bd _ _ _)
  have HE : Hid ((if err2 a.err b.err = 0 then cmpS a b else 0) = if err2 a.err b.err = 0 then cmpS a b else 0) := rfl
  have HCK2 : Hid (∀ (W : World) (t : TypeId) (b' cap : Nat), W.heap.size = b' → Two W a.neg b.neg (.slice B1 a.num.length c1) (.slice B2 a.den.length c2) (.slice B3 b.num.length c3) (.slice B4 b.den.length c4) a.num a.den b.num b.den → Calls Tryz.prog 190 #[.slice (some ⟨b', 0, none⟩) 2 cap] (W.alloc (.cells #[.bool a.neg, .slice B1 a.num.length c1, .slice B2 a.den.length c2, .bool b.neg, .slice B3 b.num.length c3, .slice B4 b.den.length c4] t)) fun e w' => e = .returned (.int .i64 (err2 a.err b.err)) ∧ Below (W.alloc (.cells #[.bool a.neg, .slice B1 a.num.length c1, .slice B2 a.den.length c2, .bool b.neg, .slice B3 b.num.length c3, .slice B4 b.den.length c4] t)).heap.size (W.alloc (.cells #[.bool a.neg, .slice B1 a.num.length c1, .slice B2 a.den.length c2, .bool b.neg, .slice B3 b.num.length c3, .slice B4 b.den.length c4] t)) w') := HCK.out
  clear HCK h
  generalize hrr : (if err2 a.err b.err = 0 then cmpS a b else 0) = rr at *
  have HRR := Lib.hid hrr
  clear hrr HE
  generalize cmpS a b = cc at *
  generalize err2 a.err b.err = er at *
  generalize a.num.length = n1 at *
  generalize a.den.length = n2 at *
  generalize b.num.length = n3 at *
  generalize b.den.length = n4 at *
  generalize a.neg = na at *
  generalize b.neg = nb at *
  have HBK := Lib.hid (blk2 w 24 24 #[.bool na, .slice B1 n1 c1, .slice B2 n2 c2] #[.bool nb, .slice B3 n3 c3, .slice B4 n4 c4])
  by_cases he : er = 0
  · subst he
    rw [if_pos rfl] at HRR
    have HPQ := Lib.hid (HPN.out rfl)
    clear HPN
    go_enter Tryz.func131, Tryz.ntmps131
    go_wp2_with fail
    refine (HCK2.out _ _ _ _ (by simp) (by exact HT.out.to (below_two w _ _))).mono ?_
    rintro e w1 ⟨rfl, hb1⟩
    have hb0 := (below_one _ _).trans (hb1.mono (below_one _ _).size)
    have hg1 := HBK.out.1.to hb0
    have hg2 := HBK.out.2.to hb0
    have a0 := hg1.cell 0
    have a1 := hg1.cell 1
    have a2 := hg1.cell 2
    have b0 := hg2.cell 0
    have b1 := hg2.cell 1
    have b2 := hg2.cell 2
    have HT1 := Lib.hid ((HT.out.to (below_two w _ _)).to hb0)
    have HBL : Hid (Below w.heap.size w w1) := (below_two w _ _).trans (hb0.mono (below_two w _ _).size)
    clear hg1 hg2 hb0 hb1
    simp only [List.getElem?_toArray, List.getElem?_cons_zero, List.getElem?_cons_succ] at a0 a1 a2 b0 b1 b2
    go_wp2_with fail
    refine (HPQ.out _ (by exact HT1.out)).mono ?_
    rintro e w2 ⟨rfl, hb2⟩
    go_wp2_with fail
    go_ret2
    rw [← HRR.out]
    exact ⟨rfl, HBL.out.trans (hb2.mono HBL.out.size)⟩
  · have he1 : (er != 0) = true := by rw [bne_iff_ne]; exact he
    rw [if_neg he] at HRR
    clear he
    go_enter Tryz.func131, Tryz.ntmps131
    go_wp2_with fail
    refine (HCK2.out _ _ _ _ (by simp) (by exact HT.out.to (below_two w _ _))).mono ?_
    rintro e w1 ⟨rfl, hb1⟩
    have hb0 := (below_one _ _).trans (hb1.mono (below_one _ _).size)
    go_wp2_with fail
    go_ret2
    rw [← HRR.out]
    exact ⟨rfl, (below_two w _ _).trans (hb0.mono (below_two w _ _).size)⟩
def rcmp (p q : Rat) : Int := if p < q then -1 else if q < p then 1 else 0
theorem rcmp_zero (p q : Rat) : rcmp p q = 0 ↔ p = q := by unfold rcmp; grind
theorem sg_scale (n : Bool) (x y : Nat) : RatB.sg n x * (y : Int) = RatB.sg n (x * y) := by
  unfold RatB.sg; cases n <;> simp [Int.neg_mul]
theorem q_lt {na nb : Bool} {xa ya xb yb : Nat} (ca : RatB.Canon na xa ya) (cb : RatB.Canon nb xb yb) : RatB.q na xa ya < RatB.q nb xb yb ↔ RatB.sg na (xa * yb) < RatB.sg nb (xb * ya) := by
  rw [Rat.lt_iff, (RatB.q_num ca).1, (RatB.q_num ca).2, (RatB.q_num cb).1, (RatB.q_num cb).2, sg_scale, sg_scale]
theorem cmpQ_rat {na nb : Bool} {xa ya xb yb : Nat} (ca : RatB.Canon na xa ya) (cb : RatB.Canon nb xb yb) : cmpQ na xa ya nb xb yb = rcmp (RatB.q na xa ya) (RatB.q nb xb yb) := by
  have h1 := q_lt ca cb
  have h2 := q_lt cb ca
  have p1 : na = true → 0 < xa * yb := fun h => Nat.mul_pos (Nat.pos_of_ne_zero fun h0 => by have := ca.2.2 h0; rw [h] at this; cases this) cb.1
  have p2 : nb = true → 0 < xb * ya := fun h => Nat.mul_pos (Nat.pos_of_ne_zero fun h0 => by have := cb.2.2 h0; rw [h] at this; cases this) ca.1
  unfold rcmp
  simp only [h1, h2]
  clear h1 h2
  unfold cmpQ cmpI
  generalize xa * yb = X at *
  generalize xb * ya = Y at *
  unfold RatB.sg
  cases na <;> cases nb <;> simp only [if_true, if_false, Bool.false_eq_true, Bool.true_eq_false]
  · split <;> split <;> (try split) <;> (try split) <;> omega
  · have := p2 rfl
    split <;> (try split) <;> omega
  · have := p1 rfl
    split <;> omega
  · split <;> split <;> (try split) <;> (try split) <;> omega
theorem LN.q_eq {a b : LN} (ha : a.ok) (hb : b.ok) (ea : a.err = 0) (eb : b.err = 0) (h : a.q = b.q) : a = b := by
  obtain ⟨p1, p2, _, _, p5⟩ := LN.good ha ea
  obtain ⟨q1, q2, _, _, q5⟩ := LN.good hb eb
  obtain ⟨e1, e2, e3⟩ := RatB.q_inj p5 q5 h
  obtain ⟨na, xa, ya⟩ := a
  obtain ⟨nb, xb, yb⟩ := b
  have h1 : xa = xb := by rw [← show digs W32 _ = xa from p1, ← show digs W32 _ = xb from q1, e2]
  have h2 : ya = yb := by rw [← show digs W32 _ = ya from p2, ← show digs W32 _ = yb from q2, e3]
  have h3 : na = nb := e1
  rw [h1, h2, h3]
theorem cmpS_rat {a b : LN} (ha : a.ok) (hb : b.ok) (ea : a.err = 0) (eb : b.err = 0) : cmpS a b = rcmp a.q b.q := cmpQ_rat (LN.good ha ea).2.2.2.2 (LN.good hb eb).2.2.2.2
end Go.Proofs.YtkfnpcilanheiaaGreat

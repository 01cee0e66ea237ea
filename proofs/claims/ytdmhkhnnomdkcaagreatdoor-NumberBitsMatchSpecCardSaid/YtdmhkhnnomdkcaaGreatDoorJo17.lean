/-  -/
import Derived.Test.YtdmhkhnnomdkcaaGreatDoorJo9
import Derived.Test.YtdmhkhnnomdkcaaGreatDoorJo16
set_option linter.unusedVariables false
set_option linter.unusedSimpArgs false
/- number.check: the first error of a list of numbers. -/
namespace Go.Proofs.YtdmhkhnnomdkcaaGreatDoor
open Go.RowKit NumB
set_option linter.unusedVariables false
set_option linter.unusedSimpArgs false

/-- The first of n answers from j on that is not 0. -/
def errsFrom (c : Nat → Int) : Nat → Nat → Int
  | _, 0 => 0
  | j, n + 1 => if c j = 0 then errsFrom c (j + 1) n else c j

/-- A row of k numbers in the block b from o on. -/
def Nums (w : World) (b o k : Nat) (ng : Nat → Bool) (xs ys : Nat → List Nat) : Prop :=
  b < w.heap.size ∧ ∀ i, i < k → ∃ va vb, w.cell? ⟨b, o + i * 3, none⟩ = some (.bool (ng i)) ∧ w.cell? ⟨b, o + i * 3 + 1, none⟩ = some va ∧ w.cell? ⟨b, o + i * 3 + 2, none⟩ = some vb ∧ Sl .u32 w va (xs i) ∧ Sl .u32 w vb (ys i) ∧ Ok W32 (xs i) ∧ Ok W32 (ys i)

set_option maxRecDepth 100000 in
set_option maxHeartbeats 3200000 in
theorem checks_any (b o k cap : Nat) (ng : Nat → Bool) (xs ys : Nat → List Nat) (w : World) (hk : k ≤ 1000) (hN : Nums w b o k ng xs ys) :
    Calls Tryz.prog 34 #[.slice (some ⟨b, o, none⟩) k cap] w fun e w' => e = .returned (.int .i64 (errsFrom (fun i => checkL (ng i) (xs i) (ys i)) 0 k)) ∧ Below w.heap.size w w' := by
  have HN := Lib.hid hN
  clear hN
  have HC : Hid (∀ (i : Nat) (va vb : Value) (W : World), Sl .u32 W va (xs i) → Sl .u32 W vb (ys i) → Ok W32 (xs i) → Ok W32 (ys i) → Calls Tryz.prog 58 #[.agg #[.bool (ng i), va, vb]] W fun e w' => e = .returned (.int .i64 (checkL (ng i) (xs i) (ys i))) ∧ Below W.heap.size W w') :=
    fun i va vb W h1 h2 h3 h4 => check_any (ng i) (xs i) (ys i) va vb W h1 h2 h3 h4
  generalize hc : (fun i => checkL (ng i) (xs i) (ys i)) = c
  have HC2 : Hid (∀ i, checkL (ng i) (xs i) (ys i) = c i) := fun i => by rw [← hc]
  clear hc
  have HD : Hid (∀ (i : Nat) (va vb : Value) (W : World), Sl .u32 W va (xs i) → Sl .u32 W vb (ys i) → Ok W32 (xs i) → Ok W32 (ys i) → Calls Tryz.prog 58 #[.agg #[.bool (ng i), va, vb]] W fun e w' => e = .returned (.int .i64 (c i)) ∧ Below W.heap.size W w') :=
    fun i va vb W h1 h2 h3 h4 => by rw [← HC2.out i]; exact HC.out i va vb W h1 h2 h3 h4
  clear HC HC2
  go_enter Tryz.func34, Tryz.ntmps34
  go_wp2
  go_loopg [8, 4, 5] k (fun gk si s4 s5 wr => ∃ j : Nat, gk + j = k ∧ si = .int .i64 (j : Int) ∧ Hid (errsFrom c j gk = errsFrom c 0 k) ∧ Hid (Below w.heap.size w wr))
  case atStart => exact ⟨0, by omega, rfl, rfl, Below.refl _ _⟩
  case round =>
    obtain ⟨j, hgj, rfl, HE, HB⟩ := hrel
    by_cases hj : j < k
    · obtain ⟨n, rfl⟩ : ∃ n, gk = n + 1 := ⟨gk - 1, by omega⟩
      obtain ⟨va, vb, h0, h1, h2, h3, h4, h5, h6⟩ := HN.out.2 j hj
      have hbl := HN.out.1
      have hc0 : wr.cell? ⟨b, o + j * 3, none⟩ = some (.bool (ng j)) := (HB.out.cell (p := ⟨b, _, none⟩) hbl).trans h0
      have hc1 : wr.cell? ⟨b, o + j * 3 + 1, none⟩ = some va := (HB.out.cell (p := ⟨b, _, none⟩) hbl).trans h1
      have hc2 : wr.cell? ⟨b, o + j * 3 + 2, none⟩ = some vb := (HB.out.cell (p := ⟨b, _, none⟩) hbl).trans h2
      obtain ⟨A, ca, hva, r1⟩ := id h3
      obtain ⟨A', cb, hvb, r2⟩ := id h4
      have HS1 := Lib.hid (h3.to HB.out)
      have HS2 := Lib.hid (h4.to HB.out)
      have HOK := Lib.hid (And.intro h5 h6)
      subst hva hvb
      clear h0 h1 h2 h3 h4 h5 h6 r1 r2
      generalize (xs j).length = n1 at *
      generalize (ys j).length = n2 at *
      by_cases hz : c j = 0
      · have hz1 : (c j != 0) = false := by rw [hz]; rfl
        have HZ := Lib.hid hz
        clear hz
        go_wp2_with (go_at_call 58; go_must (refine (HD.out j _ _ _ (by exact HS1.out.to (below_one _ _)) (by exact HS2.out.to (below_one _ _)) HOK.out.1 HOK.out.2).mono ?_); rintro e w1 ⟨rfl, hb1⟩)
        go_roundg n
        case measure => omega
        case rel => exact ⟨j + 1, by omega, by go_num, by unfold Hid; rw [← HE.out, errsFrom, if_pos HZ.out], (HB.out.alloc HB.out.size _).trans (hb1.mono (Nat.le_trans HB.out.size (below_one _ _).size))⟩
      · have hz1 : (c j != 0) = true := by rw [bne_iff_ne]; exact hz
        have HZ := Lib.hid hz
        clear hz
        go_wp2_with (go_at_call 58; go_must (refine (HD.out j _ _ _ (by exact HS1.out.to (below_one _ _)) (by exact HS2.out.to (below_one _ _)) HOK.out.1 HOK.out.2).mono ?_); rintro e w1 ⟨rfl, hb1⟩)
        go_ret
        exact ⟨by rw [← HE.out, errsFrom, if_neg HZ.out]; rfl, (HB.out.alloc HB.out.size _).trans (hb1.mono (Nat.le_trans HB.out.size (below_one _ _).size))⟩
    · obtain rfl : j = k := by omega
      obtain rfl : gk = 0 := by omega
      clear hgj hj
      go_wp2
      go_ret
      exact ⟨by rw [← HE.out]; rfl, HB.out⟩

/-- Two numbers, one after the other. -/
theorem checks_two (b cap : Nat) (na nb : Bool) (xa ya xb yb : List Nat) (A1 A2 A3 A4 : Value) (w : World) (t : TypeId) (hg : Blk w b t #[.bool na, A1, A2, .bool nb, A3, A4])
    (h1 : Sl .u32 w A1 xa) (h2 : Sl .u32 w A2 ya) (h3 : Sl .u32 w A3 xb) (h4 : Sl .u32 w A4 yb) (o1 : Ok W32 xa) (o2 : Ok W32 ya) (o3 : Ok W32 xb) (o4 : Ok W32 yb) :
    Calls Tryz.prog 34 #[.slice (some ⟨b, 0, none⟩) 2 cap] w fun e w' => e = .returned (.int .i64 (if checkL na xa ya = 0 then checkL nb xb yb else checkL na xa ya)) ∧ Below w.heap.size w w' := by
  have hN : Nums w b 0 2 (fun i => if i = 0 then na else nb) (fun i => if i = 0 then xa else xb) (fun i => if i = 0 then ya else yb) := by
    refine ⟨hg.lt, fun i hi => ?_⟩
    rcases i with _ | _ | i
    · exact ⟨A1, A2, hg.cell 0, hg.cell 1, hg.cell 2, h1, h2, o1, o2⟩
    · exact ⟨A3, A4, hg.cell 3, hg.cell 4, hg.cell 5, h3, h4, o3, o4⟩
    · omega
  refine (checks_any b 0 2 cap _ _ _ w (by omega) hN).mono fun e w' ⟨he, hb⟩ => ⟨he.trans ?_, hb⟩
  have e : errsFrom (fun i => checkL (if i = 0 then na else nb) (if i = 0 then xa else xb) (if i = 0 then ya else yb)) 0 2 = if checkL na xa ya = 0 then checkL nb xb yb else checkL na xa ya := by
    show (if checkL na xa ya = 0 then (if checkL nb xb yb = 0 then 0 else checkL nb xb yb) else checkL na xa ya) = _
    split
    · split <;> simp_all
    · rfl
  rw [e]
/-- One number. -/
theorem checks_one (b cap : Nat) (na : Bool) (xa ya : List Nat) (A1 A2 : Value) (w : World) (t : TypeId) (hg : Blk w b t #[.bool na, A1, A2])
    (h1 : Sl .u32 w A1 xa) (h2 : Sl .u32 w A2 ya) (o1 : Ok W32 xa) (o2 : Ok W32 ya) :
    Calls Tryz.prog 34 #[.slice (some ⟨b, 0, none⟩) 1 cap] w fun e w' => e = .returned (.int .i64 (checkL na xa ya)) ∧ Below w.heap.size w w' := by
  have hN : Nums w b 0 1 (fun i => na) (fun i => xa) (fun i => ya) := by
    refine ⟨hg.lt, fun i hi => ?_⟩
    obtain rfl : i = 0 := by omega
    exact ⟨A1, A2, hg.cell 0, hg.cell 1, hg.cell 2, h1, h2, o1, o2⟩
  refine (checks_any b 0 1 cap _ _ _ w (by omega) hN).mono fun e w' ⟨he, hb⟩ => ⟨he.trans ?_, hb⟩
  have e : errsFrom (fun i => checkL na xa ya) 0 1 = checkL na xa ya := by
    show (if checkL na xa ya = 0 then 0 else checkL na xa ya) = _
    split <;> simp_all
  rw [e]
end Go.Proofs.YtdmhkhnnomdkcaaGreatDoor
/- nat.plus: the sum of two numbers. Conditions: at most 100000 limbs. -/
namespace Go.Proofs.YtdmhkhnnomdkcaaGreatDoor
open Go.RowKit NumB
set_option linter.unusedVariables false
set_option linter.unusedSimpArgs false

theorem plus_cell (ca p q : Nat) : ((ca : Int) + (p : Int) + (q : Int)) % 4294967296 = (((ca + p + q) % 4294967296 : Nat) : Int) ∧ ((ca : Int) + (p : Int) + (q : Int)) / 4294967296 = (((ca + p + q) / 4294967296 : Nat) : Int) := by omega
theorem plus_cell1 (ca p : Nat) : ((ca : Int) + (p : Int)) % 4294967296 = (((ca + p + 0) % 4294967296 : Nat) : Int) ∧ ((ca : Int) + (p : Int)) / 4294967296 = (((ca + p + 0) / 4294967296 : Nat) : Int) := by omega

theorem plus_list {xs ys out : List Nat} {j ca p q : Nat} (hj : j < out.length) (hp : xs.getD j 0 = p) (hq : ys.getD j 0 = q)
    (he : val W32 (out.take j) + W32 ^ j * ca = val W32 (xs.take j) + val W32 (ys.take j)) :
    val W32 ((out.set j ((ca + p + q) % 4294967296)).take (j + 1)) + W32 ^ (j + 1) * ((ca + p + q) / 4294967296) = val W32 (xs.take (j + 1)) + val W32 (ys.take (j + 1)) := by
  rw [val_take_succ, val_take_succ, val_take_succ, take_set_lt _ _ _ _ (Nat.le_refl _), getD_set_self _ _ _ hj, hp, hq, Nat.pow_succ]
  exact add_step he

theorem plus_end {xs ys out : List Nat} {n ca x y : Nat} (hx : val W32 xs = x) (hy : val W32 ys = y) (ox : Ok W32 xs) (oy : Ok W32 ys) (hl : xs.length = n) (hm : ys.length ≤ n) (ho : out.length = n + 1)
    (he : val W32 (out.take (n + 1)) + W32 ^ (n + 1) * ca = val W32 (xs.take (n + 1)) + val W32 (ys.take (n + 1))) : val W32 out = x + y := by
  rw [val_take_all W32 out (by omega), val_take_all W32 xs (by omega), val_take_all W32 ys (by omega), hx, hy] at he
  have h1 := val_lt ox
  have h2 := val_lt oy
  rw [hx, hl] at h1
  rw [hy] at h2
  have h3 : W32 ^ ys.length ≤ W32 ^ n := Nat.pow_le_pow_right (by decide) hm
  rcases Nat.eq_zero_or_pos ca with h0 | h0
  · rw [h0, Nat.mul_zero, Nat.add_zero] at he
    exact he
  · exfalso
    have h4 : W32 ^ (n + 1) * 1 ≤ W32 ^ (n + 1) * ca := Nat.mul_le_mul_left _ h0
    have h5 : W32 ^ (n + 1) = W32 ^ n * W32 := Nat.pow_succ _ _
    have h6 : W32 ^ n * 2 ≤ W32 ^ n * W32 := Nat.mul_le_mul_left _ (by decide)
    omega

/-- The summands, the longer one first. -/
def PlusIn (w : World) (s0 s1 : Value) (t : Nat) : Prop := ∃ (A0 B0 : Option Addr) (n m c d x y : Nat) (xs ys : List Nat), s0 = .slice A0 n c ∧ s1 = .slice B0 m d ∧ m ≤ n ∧ n ≤ 100000 ∧ n ≤ c ∧ m ≤ d ∧ c ≤ maxLen ∧ d ≤ maxLen ∧ Rd .u32 w w.heap.size A0 n xs ∧ Rd .u32 w w.heap.size B0 m ys ∧ val W32 xs = x ∧ val W32 ys = y ∧ Ok W32 xs ∧ Ok W32 ys ∧ x + y = t

theorem size_u32' : (Tryz.prog.info? 35).map (·.size) = some 1 := by kernel_rfl

set_option maxRecDepth 100000 in
set_option maxHeartbeats 1600000 in
theorem plus_any (x y : Nat) (va vb : Value) (w : World) (ha : Nat32 w va x) (hb : Nat32 w vb y) (hx : (digs W32 x).length ≤ 100000) (hy : (digs W32 y).length ≤ 100000) :
    Calls Tryz.prog 67 #[va, vb] w (NPost w (x + y)) := by
  obtain ⟨A, ca, rfl, hca, hma, hra⟩ := ha
  obtain ⟨A', cb, rfl, hcb, hmb, hrb⟩ := hb
  have HX := Lib.hid (And.intro (And.intro (val_digs W32_gt x) (val_digs W32_gt y)) (And.intro (ok_digs W32_gt x) (ok_digs W32_gt y)))
  generalize digs W32 x = xs at *
  generalize digs W32 y = ys at *
  generalize hn : xs.length = n at *
  generalize hm : ys.length = m at *
  have HRA := Lib.hid hra
  have HRB := Lib.hid hrb
  have HMA := Lib.hid (And.intro hma hmb)
  clear hra hrb hn hm hma hmb
  go_enter Tryz.func67, Tryz.ntmps67
  go_upto_if 12 with fail
  go_cut [0, 1] (fun s0 s1 wx => Hid (PlusIn w s0 s1 (x + y)) ∧ w = wx)
  case first =>
    obtain ⟨⟨e1, e2⟩, o1, o2⟩ := HX.out
    by_cases hlt : n < m
    · go_wp2_with fail
      go_meet
      case rel => exact ⟨⟨A', A, m, n, cb, ca, y, x, ys, xs, rfl, rfl, by omega, hy, hcb, hca, HMA.out.2, HMA.out.1, HRB.out, HRA.out, e2, e1, o2, o1, by omega⟩, rfl⟩
    · go_wp2_with fail
      go_meet
      case rel => exact ⟨⟨A, A', n, m, ca, cb, x, y, xs, ys, rfl, rfl, by omega, hx, hca, hcb, HMA.out.1, HMA.out.2, HRA.out, HRB.out, e1, e2, o1, o2, rfl⟩, rfl⟩
  case rest =>
    obtain ⟨HPI, rfl⟩ := hcut
    clear HX HRA HRB HMA hca hcb
    obtain ⟨A0, B0, n', m', c, d, x', y', xs', ys', rfl, rfl, hmn, hn', hc, hd, hcm, hdm, hrx, hry, ex, ey, ox, oy, hxy⟩ := HPI.out
    have HX := Lib.hid (And.intro (And.intro ex ey) (And.intro ox oy))
    have HXY := Lib.hid hxy
    have HRX := Lib.hid hrx
    have HRY := Lib.hid hry
    clear HPI ex ey ox oy hxy hrx hry hx hy
    unfold maxLen at hcm hdm
    obtain ⟨i0, hi0, hz0, hz1, hz2⟩ := info_parts info_u32
    have HI := Lib.hid hi0
    have HZ0 := Lib.hid hz0
    have HZ1 := Lib.hid hz1
    have HZ2 := Lib.hid hz2
    clear hi0 hz0 hz1 hz2
    go_wp2_with (first
      | ((with_reducible refine wpList_copy_Own rfl (.tmp 19) (.tmp 20) 22 22 rfl 35 Tryz.underlying22 size_u32' .u32 35 w.heap.size w.heap.size (n' + 1) (List.replicate (n' + 1) 0) xs' A0 n' c rfl rfl HO1.out HR1.out (by omega) ?_); intro w2 hown2 hb2)
      | (at_make; refine wpList_make_full _ rfl _ _ 22 rfl w.heap.size 35 i0 (.int .u32 0) 1 Tryz.underlying22 HI.out HZ0.out HZ1.out .i64 .i64 _ _ (n' + 1) rfl rfl (by omega) (by omega) (by rw [HZ2.out]; omega) (by unfold maxLen; omega) (Nat.le_refl _) ?_; intro w1 hown1 hg1; have HO1 := Lib.hid (Own.made hown1); have HB1 := Lib.hid ((Below.refl w.heap.size w).grown hg1 (Nat.le_refl _) (by simp)); have HR1 := Lib.hid (HRX.out.to HB1.out); clear hown1 hg1))
    have HU2 : Hid (Own .u32 35 w2 w.heap.size w.heap.size (n' + 1) (n' + 1) (xs' ++ (List.replicate (n' + 1) 0).drop n')) := hown2
    have HB2 : Hid (Below w.heap.size w w2) := HB1.out.trans hb2
    obtain ⟨us, hus⟩ : ∃ us, us = xs' ++ (List.replicate (n' + 1) 0).drop n' := ⟨_, rfl⟩
    have HUS : Hid (∀ j, us.getD j 0 = xs'.getD j 0) := by
      intro j
      subst hus
      rw [List.drop_replicate, List.getD_eq_getElem?_getD, List.getD_eq_getElem?_getD]
      rcases Nat.lt_or_ge j xs'.length with h | h
      · rw [List.getElem?_append_left h]
      · rw [List.getElem?_append_right h, List.getElem?_eq_none h, ← List.getD_eq_getElem?_getD, getD_replicate]; rfl
    have HUO : Hid (Ok W32 us) := by subst hus; exact HX.out.2.1.append ((ok_replicate (by decide)).drop _)
    rw [← hus] at HU2
    clear hus hown2 hb2
    go_loopg [24, 6] (n' + 1) (fun gk si sc wr => ∃ (j ca : Nat) (out : List Nat), gk + j = n' + 1 ∧ si = .int .i64 (j : Int) ∧ sc = .int .u64 (ca : Int) ∧ ca ≤ 1 ∧ Hid (Own .u32 35 wr w.heap.size w.heap.size (n' + 1) (n' + 1) out) ∧ Hid (Ok W32 out) ∧ Hid (∀ q, j ≤ q → out.getD q 0 = xs'.getD q 0) ∧ Hid (val W32 (out.take j) + W32 ^ j * ca = val W32 (xs'.take j) + val W32 (ys'.take j)) ∧ Hid (Below w.heap.size w wr))
    case atStart => exact ⟨0, 0, us, by omega, rfl, rfl, by omega, HU2.out, HUO.out, fun q _ => HUS.out q, by unfold Hid; simp, HB2.out⟩
    case round =>
      obtain ⟨j, ca, out, hgj, rfl, rfl, hca, HO, HOK, HJ, HE, HB⟩ := hrel
      by_cases hj : j < n' + 1
      · obtain ⟨p, hp⟩ : ∃ p, xs'.getD j 0 = p := ⟨_, rfl⟩
        have HP := Lib.hid hp
        have hpb : p < 4294967296 := by rw [← hp]; exact HX.out.2.1.getD (by decide) _
        have hcell : wr.cell? ⟨w.heap.size, j, none⟩ = some (.int .u32 (p : Int)) := by rw [← hp, ← HJ.out j (Nat.le_refl _)]; exact HO.out.cell hj
        have hf := HO.out.frozen j
        clear hp
        by_cases hjm : j < m'
        · obtain ⟨b, o, q, rfl, hb, hqe, hcq⟩ := (HRY.out.below HB.out).at_ (i := j) hjm
          have hqb : q < 4294967296 := by rw [← hqe]; exact HX.out.2.2.getD (by decide) _
          have HQ := Lib.hid hqe
          clear hqe
          go_wp2
          go_roundg (gk - 1)
          case measure => omega
          case rel =>
            rw [(plus_cell ca p q).1, (plus_cell ca p q).2]
            refine ⟨j + 1, _, _, by omega, by go_num, rfl, by omega, HO.out.stored _ _, HOK.out.set (Nat.mod_lt _ (by decide)), ?_, plus_list (by rw [HO.out.1]; omega) HP.out HQ.out HE.out, HB.out.setCell (Nat.le_refl _) _⟩
            intro q' hq'
            rw [NumB.getD_set_ne _ _ _ _ (by omega)]
            exact HJ.out q' (by omega)
        · have HQ : Hid (ys'.getD j 0 = 0) := getD_ge (by rw [HRY.out.1]; omega)
          go_wp2
          go_roundg (gk - 1)
          case measure => omega
          case rel =>
            rw [(plus_cell1 ca p).1, (plus_cell1 ca p).2]
            refine ⟨j + 1, _, _, by omega, by go_num, rfl, by omega, HO.out.stored _ _, HOK.out.set (Nat.mod_lt _ (by decide)), ?_, plus_list (by rw [HO.out.1]; omega) HP.out HQ.out HE.out, HB.out.setCell (Nat.le_refl _) _⟩
            intro q' hq'
            rw [NumB.getD_set_ne _ _ _ _ (by omega)]
            exact HJ.out q' (by omega)
      · obtain rfl : j = n' + 1 := by omega
        clear hgj hj
        go_wp2_with (go_at_call 12; refine (trim_sl out _ _ HO.out.sl HOK.out).mono ?_; rintro e w' ⟨v', rfl, hn', rfl⟩)
        go_ret
        obtain ⟨⟨ex, ey⟩, ox, oy⟩ := HX.out
        rw [plus_end ex ey ox oy HRX.out.1 (by rw [HRY.out.1]; exact hmn) HO.out.1 HE.out, HXY.out] at hn'
        exact ⟨_, rfl, hn', HB.out⟩
end Go.Proofs.YtdmhkhnnomdkcaaGreatDoor
/- nat.Add: the sum of several numbers. Conditions: the sum has at most 100000 limbs. -/
namespace Go.Proofs.YtdmhkhnnomdkcaaGreatDoor
open Go.RowKit NumB
set_option linter.unusedVariables false
set_option linter.unusedSimpArgs false

theorem sum_take_succ (ns : List Nat) (j : Nat) (h : j < ns.length) : (ns.take (j + 1)).sum = (ns.take j).sum + ns.getD j 0 := by
  rw [List.take_succ_eq_append_getElem h, List.sum_append, getD_lt h]; simp
theorem sum_take_le (ns : List Nat) (j : Nat) : (ns.take j).sum ≤ ns.sum := by
  have h := congrArg List.sum (List.take_append_drop j ns)
  rw [List.sum_append] at h
  omega
theorem getD_le_sum (ns : List Nat) (j : Nat) : ns.getD j 0 ≤ ns.sum := by
  rcases Nat.lt_or_ge j ns.length with h | h
  · have h1 := sum_take_succ ns j h
    have h2 := sum_take_le ns (j + 1)
    omega
  · rw [getD_ge h]; exact Nat.zero_le _

/-- A slice of slices, each of which reads as a number. -/
def Nats (w : World) (b o : Nat) (ns : List Nat) : Prop := b < w.heap.size ∧ ∀ i, i < ns.length → ∃ v, w.cell? ⟨b, o + i, none⟩ = some v ∧ Nat32 w v (ns.getD i 0)

set_option maxRecDepth 100000 in
set_option maxHeartbeats 1600000 in
theorem add_any (ns : List Nat) (b o k c : Nat) (w : World) (hk : ns.length = k) (hN : Nats w b o ns) (hs : (digs W32 ns.sum).length ≤ 100000) (hkb : k ≤ 1000) :
    Calls Tryz.prog 85 #[.slice (some ⟨b, o, none⟩) k c] w (NPost w ns.sum) := by
  have HN := Lib.hid hN
  have HK := Lib.hid hk
  clear hN hk
  go_enter Tryz.func85, Tryz.ntmps85
  go_wp2
  go_loopg [8, 3, 5] k (fun gk si so sa wr => ∃ j : Nat, gk + j = k ∧ si = .int .i64 (j : Int) ∧ Hid (Nat32 wr so (ns.take j).sum) ∧ Hid (Below w.heap.size w wr))
  case atStart => exact ⟨0, by omega, rfl, nat32_zero _, Below.refl _ _⟩
  case round =>
    obtain ⟨j, hgj, rfl, HS, HB⟩ := hrel
    by_cases hj : j < k
    · obtain ⟨v, hv, hnv⟩ := HN.out.2 j (by rw [HK.out]; exact hj)
      have hcell : wr.cell? ⟨b, o + j, none⟩ = some v := (HB.out.cell HN.out.1).trans hv
      obtain ⟨Av, cv, rfl, hcv, hmv, hrv⟩ := id hnv
      have HV := Lib.hid (hnv.to HB.out)
      have h1 : (digs W32 (ns.take j).sum).length ≤ 100000 := Nat.le_trans (digs_len_mono W32_gt (sum_take_le ns j)) hs
      have h2 : (digs W32 (ns.getD j 0)).length ≤ 100000 := Nat.le_trans (digs_len_mono W32_gt (getD_le_sum ns j)) hs
      have HL := Lib.hid (And.intro h1 h2)
      clear hv hnv hcv hmv hrv h1 h2
      go_wp2_with fail
      refine (plus_any _ _ _ _ _ HS.out HV.out HL.out.1 HL.out.2).mono ?_
      rintro e w2 ⟨v2, rfl, hn2, hb2⟩
      rw [← sum_take_succ ns j (by rw [HK.out]; exact hj)] at hn2
      have HN2 := Lib.hid hn2
      have HB2 := Lib.hid hb2
      clear hn2 hb2
      go_wp2
      go_roundg (gk - 1)
      case measure => omega
      case rel => exact ⟨j + 1, by omega, by go_num, HN2.out, HB.out.trans (HB2.out.mono HB.out.size)⟩
    · obtain rfl : j = k := by omega
      clear hgj hj
      go_wp2
      go_ret
      have hs := HS.out
      rw [List.take_of_length_le (by rw [HK.out]; exact Nat.le_refl _)] at hs
      exact ⟨_, rfl, hs, HB.out⟩
end Go.Proofs.YtdmhkhnnomdkcaaGreatDoor

/-  -/
import Derived.Test.YtdmhkhnnomdkcaaGreatDoorJo6
import Derived.Test.YtdmhkhnnomdkcaaGreatDoorJo9
import Derived.Test.YtdmhkhnnomdkcaaGreatDoorJo14
set_option linter.unusedVariables false
set_option linter.unusedSimpArgs false
/- fetterlockref1.AddNat. Conditions: at most 100000 digits. -/
namespace Go.Proofs.YtdmhkhnnomdkcaaGreatDoor
open Go.RowKit NumB
set_option linter.unusedVariables false
set_option linter.unusedSimpArgs false

theorem radd_step {xs ys out : List Nat} {j ca p q s : Nat} (hl : out.length = j) (hp : xs.getD j 0 = p) (hq : ys.getD j 0 = q) (hs : s = p + q + ca)
    (he : val W16 out + W16 ^ j * ca = val W16 (xs.take j) + val W16 (ys.take j)) :
    val W16 (out ++ [s % 65536]) + W16 ^ (j + 1) * (s / 65536) = val W16 (xs.take (j + 1)) + val W16 (ys.take (j + 1)) := by
  rw [val_take_succ, val_take_succ, val_snoc, hl, hp, hq, Nat.pow_succ, Nat.mul_assoc]
  have h0 : s % 65536 + 65536 * (s / 65536) = s := Nat.mod_add_div s 65536
  have h1 : W16 ^ j * (s % 65536) + W16 ^ j * (W16 * (s / 65536)) = W16 ^ j * p + W16 ^ j * q + W16 ^ j * ca := by
    rw [← Nat.mul_add, show W16 * (s / 65536) = 65536 * (s / 65536) from rfl, h0, hs, Nat.mul_add, Nat.mul_add]
  omega

theorem digs16_add {x y n : Nat} (hx : (digs W16 x).length ≤ n) (hy : (digs W16 y).length ≤ n) : (digs W16 (x + y)).length ≤ n + 1 := by
  refine digs_len_le W16_gt ?_
  have h1 := Nat.lt_of_lt_of_le (digs_lt (n := x) W16_gt) (Nat.pow_le_pow_right (by decide) hx)
  have h2 := Nat.lt_of_lt_of_le (digs_lt (n := y) W16_gt) (Nat.pow_le_pow_right (by decide) hy)
  rw [Nat.pow_succ]
  have : W16 = 65536 := rfl
  have h3 : W16 ^ n * 2 ≤ W16 ^ n * W16 := Nat.mul_le_mul_left _ (by rw [this]; omega)
  omega

theorem pow_lenR {k m : Nat} (h : k < 16 * m) : (digs W16 (2 ^ k)).length ≤ m := by
  refine digs_len_le (k := m) W16_gt ?_
  have e : W16 ^ m = 2 ^ (16 * m) := by rw [Nat.pow_mul]; rfl
  rw [e]
  exact Nat.pow_lt_pow_right (by decide) h

set_option maxRecDepth 100000 in
set_option maxHeartbeats 3200000 in
theorem radd_any (x y : Nat) (va vb : Value) (w : World) (ha : Nat16 w va x) (hb : Nat16 w vb y) (hx : (digs W16 x).length ≤ 100000) (hy : (digs W16 y).length ≤ 100000) :
    Calls Tryz.prog 43 #[va, vb] w (RPost w (x + y)) := by
  have HA0 := Lib.hid ha
  have HB0 := Lib.hid hb
  obtain ⟨A, cpa, rfl, hca, hma, hra⟩ := ha
  obtain ⟨A', cpb, rfl, hcb, hmb, hrb⟩ := hb
  have HX := Lib.hid (And.intro (And.intro (val_digs W16_gt x) (val_digs W16_gt y)) (And.intro (ok_digs W16_gt x) (ok_digs W16_gt y)))
  unfold maxLen at hma hmb
  unfold Nat16 at HA0 HB0
  generalize digs W16 x = xs at *
  generalize digs W16 y = ys at *
  generalize hn : xs.length = n at *
  generalize hm : ys.length = m at *
  have HL := Lib.hid (And.intro hn hm)
  clear hra hrb hm hn
  obtain ⟨M, hM1, hM2, hM3⟩ : ∃ M : Nat, n ≤ M ∧ m ≤ M ∧ (M = n ∨ M = m) := ⟨max n m, by omega, by omega, by omega⟩
  have hM4 : M ≤ 100000 := by omega
  go_enter Tryz.func43, Tryz.ntmps43
  go_wp2
  go_loopg [5, 6, 7, 8] (M + 2) (fun gk so sc si s8 wr => ∃ (j ca : Nat) (out : List Nat), gk + j = M + 2 ∧ j ≤ M + 1 ∧ (j = M + 1 → ca = 0) ∧ si = .int .i64 (j : Int) ∧ sc = .int .i64 (ca : Int) ∧ ca ≤ 1 ∧ Hid (OwnV .i64 3 wr w.heap.size so out) ∧ Hid (out.length = j ∧ Ok W16 out) ∧ Hid (val W16 out + W16 ^ j * ca = val W16 (xs.take j) + val W16 (ys.take j)) ∧ Hid (Below w.heap.size w wr))
  case atStart => exact ⟨0, 0, [], by omega, by omega, fun _ => rfl, rfl, rfl, by omega, OwnV.nil_ _, ⟨rfl, Ok.nil⟩, by unfold Hid; simp, Below.refl _ _⟩
  case round =>
    obtain ⟨j, ca, out, hgj, hjM, hjc, rfl, rfl, hca1, HS, HV, HE, HB⟩ := hrel
    by_cases hex : n ≤ j ∧ m ≤ j ∧ ca = 0
    · obtain ⟨hj1, hj2, rfl⟩ := hex
      have hn1 : ¬ (j < n) := by omega
      have hn2 : ¬ (j < m) := by omega
      clear hjc
      go_wp2_with (go_at_call 52; refine (rtrim_any out _ _ HS.out.sl HV.out.2).mono ?_; rintro e w' ⟨v', rfl, hn', rfl⟩)
      go_ret
      have he := HE.out
      rw [Nat.mul_zero, Nat.add_zero, val_take_all W16 xs (by rw [HL.out.1]; exact hj1), val_take_all W16 ys (by rw [HL.out.2]; exact hj2), HX.out.1.1, HX.out.1.2] at he
      rw [he] at hn'
      exact ⟨_, rfl, hn', HB.out⟩
    · have hjM2 : j ≤ M := by
        rcases Nat.lt_or_ge M j with h | h
        · exact absurd ⟨by omega, by omega, hjc (by omega)⟩ hex
        · exact h
      have hcase : j < n ∨ (n ≤ j ∧ j < m) ∨ (n ≤ j ∧ m ≤ j ∧ 0 < ca) := by
        rcases Nat.lt_or_ge j n with h | h
        · exact .inl h
        · rcases Nat.lt_or_ge j m with h' | h'
          · exact .inr (.inl ⟨h, h'⟩)
          · exact .inr (.inr ⟨h, h', Nat.pos_of_ne_zero fun h0 => hex ⟨h, h', h0⟩⟩)
      obtain ⟨p, hpe⟩ : ∃ p, xs.getD j 0 = p := ⟨_, rfl⟩
      obtain ⟨q, hqe⟩ : ∃ q, ys.getD j 0 = q := ⟨_, rfl⟩
      have hpb : p < 65536 := by rw [← hpe]; exact HX.out.2.1.getD (by decide) _
      have hqb : q < 65536 := by rw [← hqe]; exact HX.out.2.2.getD (by decide) _
      have HP := Lib.hid hpe
      have HQ := Lib.hid hqe
      have HPQ0 : Hid (n ≤ j → m ≤ j → p = 0 ∧ q = 0) := fun h h' => ⟨by rw [← hpe]; exact getD_ge (by rw [HL.out.1]; exact h), by rw [← hqe]; exact getD_ge (by rw [HL.out.2]; exact h')⟩
      clear hpe hqe hex hjc
      obtain ⟨s, hs⟩ : ∃ s : Nat, s = p + q + ca := ⟨_, rfl⟩
      have HSS := Lib.hid hs
      have hsi : (p : Int) + (q : Int) + (ca : Int) = (s : Int) := by omega
      have hsb : s ≤ 131071 := by omega
      have HSA : Hid (Sl .i64 wr (.slice A n cpa) xs) := HA0.out.to HB.out
      have HSB : Hid (Sl .i64 wr (.slice A' m cpb) ys) := HB0.out.to HB.out
      have HLEN : Hid (out.length + [s % 65536].length ≤ 1000000) := by have := HV.out.1; unfold Hid; simp; omega
      clear hs
      obtain ⟨lo, hlo⟩ : ∃ lo : Nat, lo = s % 65536 := ⟨_, rfl⟩
      obtain ⟨hi, hhi⟩ : ∃ hi : Nat, hi = s / 65536 := ⟨_, rfl⟩
      have hloi : (s : Int) % 65536 = (lo : Int) := by omega
      have hhii : (s : Int) / 65536 = (hi : Int) := by omega
      have hlob : lo < 65536 := by omega
      have hhib : hi ≤ 1 := by omega
      rw [← hlo] at HLEN
      have HLO := Lib.hid (And.intro hlo hhi)
      clear hlo hhi
      rcases hcase with hlt | ⟨hn1, hlt⟩ | ⟨hn1, hn2, hc0⟩
      all_goals
        go_wp2_with fail
        refine (rdigit_eq xs _ j p _ (by exact HSA.out) (by omega) HP.out).mono ?_
        rintro e w1 ⟨rfl, rfl⟩
        go_wp2_with fail
        refine (rdigit_eq ys _ j q _ (by exact HSB.out) (by omega) HQ.out).mono ?_
        rintro e w1 ⟨rfl, rfl⟩
        go_wp2_with (at_builtin; go_must (refine wpList_push wr rfl _ _ 41 rfl .i64 3 8 Tryz.underlying41 info_i64 (by decide) w.heap.size _ out [lo] (by rfl) (by rfl) HS.out HLEN.out HB.out.size _ rfl ?_); intro v1 w1 hown1 hb1)
        go_roundg (gk - 1)
        case measure => omega
        case rel =>
          obtain ⟨e1, e2⟩ := HV.out
          obtain ⟨f1, f2⟩ := HLO.out
          refine ⟨j + 1, hi, out ++ [lo], by omega, by omega, ?_, by go_num, rfl, hhib, hown1, ⟨by simp; omega, e2.append (Ok.cons hlob Ok.nil)⟩, ?_, HB.out.trans hb1⟩
          · intro hj1
            have h1 := HPQ0.out (by omega) (by omega)
            have h2 := HSS.out
            omega
          · rw [f1, f2]; exact radd_step e1 HP.out HQ.out HSS.out HE.out
end Go.Proofs.YtdmhkhnnomdkcaaGreatDoor
/- fetterlockref1.trim and SubNat: where the result lies. Conditions: at most 100000 digits. -/
namespace Go.Proofs.YtdmhkhnnomdkcaaGreatDoor
open Go.RowKit NumB
set_option linter.unusedVariables false
set_option linter.unusedSimpArgs false

/-- A slice that lies in a block from B on. -/
def Fresh (B : Nat) (v : Value) : Prop := ∀ a n c, v = .slice (some a) n c → B ≤ a.block
theorem Sl.far {k : IntKind} {w : World} {v : Value} {xs : List Nat} {B g i : Nat} {u : Value} (h : Sl k w v xs) (hf : Fresh B v) (hg : g < B) : Sl k (w.setCell ⟨g, i, none⟩ u) v xs := by
  obtain ⟨A, c, rfl, h1, h2, h3, h4⟩ := h
  refine ⟨A, c, rfl, h1, h2, h3, fun hn => ?_⟩
  obtain ⟨b, o, rfl, hb, hc⟩ := h4 hn
  have := hf _ _ _ rfl
  refine ⟨b, o, rfl, by simpa [World.setCell] using hb, fun i hi => ?_⟩
  rw [World.cell?_setCell_other _ _ _ _ (by intro e; cases e; exact absurd this (Nat.not_le.2 hg))]
  exact hc i hi

set_option maxRecDepth 100000 in
set_option maxHeartbeats 400000 in
theorem rtrim_at (xs : List Nat) (A : Option Addr) (n0 c0 : Nat) (w : World) (h : Sl .i64 w (.slice A n0 c0) xs) (ho : Ok W16 xs) :
    Calls Tryz.prog 52 #[.slice A n0 c0] w fun e w' => ∃ m, e = .returned (.slice A m c0) ∧ Nat16 w (.slice A m c0) (val W16 xs) ∧ w = w' := by
  obtain ⟨A1, c, he, hc, hm, hr⟩ := h
  simp only [Value.slice.injEq] at he
  obtain ⟨rfl, rfl, rfl⟩ := he
  have HM := Lib.hid hm
  unfold maxLen at hm
  generalize hn : xs.length = n at *
  have HL := Lib.hid hn
  have HR := Lib.hid hr
  clear hr hn
  have HO := Lib.hid ho
  clear ho
  go_enter Tryz.func52, Tryz.ntmps52
  go_wp2
  go_loopg [0] n (fun g v wr => g ≤ n ∧ v = .slice A g c0 ∧ Hid (val W16 (xs.take g) = val W16 xs) ∧ w = wr)
  case atStart => exact ⟨Nat.le_refl _, rfl, by rw [← HL.out, List.take_length]; rfl, rfl⟩
  case round =>
    obtain ⟨hg, rfl, HV, rfl⟩ := hrel
    by_cases h0 : 0 < gk
    · obtain ⟨b, o, x, rfl, hb, hxe, hx⟩ := HR.out.at_ (i := gk - 1) (by omega)
      have HX := Lib.hid hxe
      have hxb : x < 65536 := by rw [← hxe]; exact HO.out.getD (by decide) _
      clear hxe
      by_cases hz : x = 0
      · subst hz
        go_wp2
        go_roundg (gk - 1)
        case measure => omega
        case rel =>
          refine ⟨by omega, rfl, ?_, rfl⟩
          have h := val_take_succ W16 xs (gk - 1)
          rw [show gk - 1 + 1 = gk from by omega, HX.out, Nat.mul_zero, Nat.add_zero] at h
          exact h.symm.trans HV.out
      · have HZ := Lib.hid hz
        have hne : ((x : Int) == 0) = false := beq_eq_false_iff_ne.2 (by omega)
        clear hz
        go_wp2
        go_ret
        exact ⟨_, rfl, Sl.of_rd HR.out hg hc HM.out (rtrim_end HO.out (by rw [HL.out]; exact hg) HV.out (.inr (by rw [HX.out]; exact HZ.out))), rfl⟩
    · go_wp2
      go_ret
      exact ⟨_, rfl, Sl.of_rd HR.out hg hc HM.out (rtrim_end HO.out (by rw [HL.out]; exact hg) HV.out (.inl (by omega))), rfl⟩

set_option maxRecDepth 100000 in
set_option maxHeartbeats 1600000 in
theorem rsub_fresh (x y : Nat) (va vb : Value) (w : World) (ha : Nat16 w va x) (hb : Nat16 w vb y) (hx : (digs W16 x).length ≤ 100000) (hle : y ≤ x) :
    Calls Tryz.prog 44 #[va, vb] w fun e w' => ∃ v, e = .returned v ∧ Nat16 w' v (x - y) ∧ Fresh w.heap.size v ∧ Below w.heap.size w w' := by
  have HB0 := Lib.hid hb
  obtain ⟨A, ca, rfl, hca, hma, hra⟩ := ha
  obtain ⟨A', cb, rfl, hcb, hmb, hrb⟩ := hb
  have hlen := digs_len_mono (B := W16) W16_gt hle
  have HX := Lib.hid (And.intro (And.intro (val_digs W16_gt x) (val_digs W16_gt y)) (And.intro (ok_digs W16_gt x) (ok_digs W16_gt y)))
  unfold maxLen at hma hmb
  unfold Nat16 at HB0
  generalize digs W16 x = xs at *
  generalize digs W16 y = ys at *
  generalize hn : xs.length = n at *
  generalize hm : ys.length = m at *
  have HL := Lib.hid (And.intro hn hm)
  have HRA := Lib.hid hra
  have HLE := Lib.hid hle
  clear hra hrb hm hn hle
  go_enter Tryz.func44, Tryz.ntmps44
  go_wp2
  go_loopg [11, 5, 6, 7, 8] n (fun gk si so sb s7 s8 wr => ∃ (j bo : Nat) (out : List Nat), gk + j = n ∧ si = .int .i64 (j : Int) ∧ sb = .int .i64 (bo : Int) ∧ bo ≤ 1 ∧ Hid (OwnV .i64 3 wr w.heap.size so out) ∧ Hid (out.length = j ∧ Ok W16 out) ∧ Hid (val W16 (xs.take j) + W16 ^ j * bo = val W16 out + val W16 (ys.take j)) ∧ Hid (Below w.heap.size w wr))
  case atStart => exact ⟨0, 0, [], by omega, rfl, rfl, by omega, OwnV.nil_ _, ⟨rfl, Ok.nil⟩, by unfold Hid; simp, Below.refl _ _⟩
  case round =>
    obtain ⟨j, bo, out, hgj, rfl, rfl, hbo, HS, HV, HE, HB⟩ := hrel
    by_cases hj : j < n
    · obtain ⟨b, o, p, rfl, hb, hpe, hcell⟩ := (HRA.out.below HB.out).at_ (i := j) hj
      have hpb : p < 65536 := by rw [← hpe]; exact HX.out.2.1.getD (by decide) _
      have HP := Lib.hid hpe
      obtain ⟨q, hqe⟩ : ∃ q, ys.getD j 0 = q := ⟨_, rfl⟩
      have hqb : q < 65536 := by rw [← hqe]; exact HX.out.2.2.getD (by decide) _
      have HQ := Lib.hid hqe
      clear hpe hqe
      have hj0 : (0 : Int) ≤ (j : Int) := by omega
      have hj1 : (j : Int) < (n : Int) := by omega
      have hw1 : IntKind.i64.wrap ((p : Int) - (q : Int)) = (p : Int) - (q : Int) := by rw [IntKind.wrap_i64]; omega
      have hw2 : IntKind.i64.wrap ((p : Int) - (q : Int) - (bo : Int)) = (p : Int) - (q : Int) - (bo : Int) := by rw [IntKind.wrap_i64]; omega
      have HSl : Hid (Sl .i64 wr (.slice A' m cb) ys) := HB0.out.to HB.out
      have hlen1 : out.length + [p].length ≤ 1000000 := by have := HV.out.1; simp; omega
      have HLEN := Lib.hid hlen1
      clear hlen1
      go_wp2
      go_quiet ((go_at_call 62; exact quietL (rdigit_eq ys _ j q _ (by exact HSl.out) (by omega) HQ.out)))
      clear hw1 hw2
      generalize hwq : wr.drewN nq = wq
      have HS1 : Hid (OwnV .i64 3 wq w.heap.size u5 out) := by rw [← hwq]; exact HS.out
      have HBq : Hid (Below w.heap.size w wq) := by rw [← hwq]; exact below_drewN HB.out _
      clear hwq hcell
      by_cases hneg : p < q + bo
      · obtain ⟨z, hz, hzb, HZ⟩ : ∃ z : Nat, (p : Int) - (q : Int) - (bo : Int) + 65536 = (z : Int) ∧ z < 65536 ∧ Hid (p + 65536 * 1 = z + q + bo) := ⟨p + 65536 - q - bo, by omega, by omega, by unfold Hid; omega⟩
        have hng : (p : Int) - (q : Int) - (bo : Int) < 0 := by omega
        go_wp2_with (at_builtin; refine wpList_push wq rfl _ _ 41 rfl .i64 3 8 Tryz.underlying41 info_i64 (by decide) w.heap.size _ out [z] (by rfl) (by rfl) HS1.out HLEN.out HBq.out.size _ rfl ?_; intro v1 w1 hown1 hb1)
        go_roundg (gk - 1)
        case measure => omega
        case rel =>
          obtain ⟨e1, e2⟩ := HV.out
          exact ⟨j + 1, 1, out ++ [z], by omega, by go_num, rfl, by omega, hown1, ⟨by simp; omega, e2.append (Ok.cons hzb Ok.nil)⟩, rsub_step e1 HP.out HQ.out HZ.out HE.out, HBq.out.trans hb1⟩
      · obtain ⟨z, hz, hzb, HZ⟩ : ∃ z : Nat, (p : Int) - (q : Int) - (bo : Int) = (z : Int) ∧ z < 65536 ∧ Hid (p + 65536 * 0 = z + q + bo) := ⟨p - q - bo, by omega, by omega, by unfold Hid; omega⟩
        rw [hz]
        clear hz
        go_wp2_with (at_builtin; refine wpList_push wq rfl _ _ 41 rfl .i64 3 8 Tryz.underlying41 info_i64 (by decide) w.heap.size _ out [z] (by rfl) (by rfl) HS1.out HLEN.out HBq.out.size _ rfl ?_; intro v1 w1 hown1 hb1)
        go_roundg (gk - 1)
        case measure => omega
        case rel =>
          obtain ⟨e1, e2⟩ := HV.out
          exact ⟨j + 1, 0, out ++ [z], by omega, by go_num, rfl, by omega, hown1, ⟨by simp; omega, e2.append (Ok.cons hzb Ok.nil)⟩, rsub_step e1 HP.out HQ.out HZ.out HE.out, HBq.out.trans hb1⟩
    · obtain rfl : j = n := by omega
      clear hgj hj
      obtain ⟨AO, cO, hvo, HFR⟩ : ∃ AO cO, u5 = .slice AO out.length cO ∧ Hid (∀ a, AO = some a → w.heap.size ≤ a.block) := by
        rcases HS.out.form with ⟨h1, h2⟩ | ⟨g, c, h1, h2⟩
        · exact ⟨none, 0, by rw [h1, h2]; rfl, fun a h => by cases h⟩
        · exact ⟨_, c, h1, fun a h => by cases h; exact h2.lt.1⟩
      subst hvo
      go_wp2_with (go_at_call 52; refine (rtrim_at out _ _ _ _ HS.out.sl HV.out.2).mono ?_; rintro e w' ⟨m', rfl, hn', rfl⟩)
      go_ret
      rw [rsub_end HX.out.1.1 HX.out.1.2 HL.out.1 (by rw [HL.out.2]; exact hlen) HV.out.1 HV.out.2 HLE.out HE.out] at hn'
      exact ⟨_, rfl, hn', (fun a n c h => by cases h; exact HFR.out _ rfl), HB.out⟩
end Go.Proofs.YtdmhkhnnomdkcaaGreatDoor
/- number.Check$1: does the list end with a zero. -/
namespace Go.Proofs.YtdmhkhnnomdkcaaGreatDoor
open Go.RowKit NumB
set_option linter.unusedVariables false
set_option linter.unusedSimpArgs false

/-- Does the list end with a zero? -/
def lastB (xs : List Nat) : Bool := decide (0 < xs.length ∧ xs.getD (xs.length - 1) 0 = 0)

set_option maxRecDepth 100000 in
theorem last_any (xs : List Nat) (va : Value) (w : World) (ha : Sl .u32 w va xs) :
    Calls Tryz.prog 71 #[va] w fun e w' => e = .returned (.bool (lastB xs)) ∧ w = w' := by
  obtain ⟨A, ca, rfl, hca, hma, hra⟩ := ha
  unfold maxLen at hma
  have HE : Hid (lastB xs = decide (0 < xs.length ∧ xs.getD (xs.length - 1) 0 = 0)) := rfl
  generalize lastB xs = bb at *
  generalize hn : xs.length = n at *
  rcases Nat.eq_zero_or_pos n with hn0 | hn0
  · subst hn0
    have E : Hid (bb = false) := by unfold Hid; rw [HE.out]; exact decide_eq_false (by omega)
    clear HE hra hn
    go_enter Tryz.func71, Tryz.ntmps71
    go_wp2
    go_ret
    exact ⟨congrArg (fun b => Ending.returned (.bool b)) E.out.symm, rfl⟩
  · obtain ⟨k, rfl⟩ : ∃ k, n = k + 1 := ⟨n - 1, by omega⟩
    obtain ⟨b, o, p, rfl, hb, hpe, hcp⟩ := hra.at_ (i := k) (by omega)
    have hk : ((k + 1 : Nat) : Int) - 1 = (k : Int) := by omega
    have hk1 : (k : Int) < ((k + 1 : Nat) : Int) := by omega
    have hk2 : (0 : Int) < ((k + 1 : Nat) : Int) := by omega
    by_cases h : p = 0
    · subst h
      have E : Hid (bb = true) := by unfold Hid; rw [HE.out]; exact decide_eq_true ⟨by omega, hpe⟩
      clear HE hra hn hpe
      go_enter Tryz.func71, Tryz.ntmps71
      go_wp2
      go_ret
      exact ⟨congrArg (fun b => Ending.returned (.bool b)) E.out.symm, rfl⟩
    · have hb1 : ((p : Int) == 0) = false := beq_eq_false_iff_ne.2 (by omega)
      have E : Hid (bb = false) := by unfold Hid; rw [HE.out]; exact decide_eq_false (fun h' => h (hpe ▸ h'.2))
      clear HE hra hn hpe h
      go_enter Tryz.func71, Tryz.ntmps71
      go_wp2
      go_ret
      exact ⟨congrArg (fun b => Ending.returned (.bool b)) E.out.symm, rfl⟩
end Go.Proofs.YtdmhkhnnomdkcaaGreatDoor
/- number.Check. -/
namespace Go.Proofs.YtdmhkhnnomdkcaaGreatDoor
open Go.RowKit NumB
set_option linter.unusedVariables false
set_option linter.unusedSimpArgs false

set_option maxRecDepth 100000 in
set_option maxHeartbeats 1600000 in
theorem check_big (neg : Bool) (xs ys : List Nat) (va vb : Value) (w : World) (ha : Sl .u32 w va xs) (hb : Sl .u32 w vb ys) (hx : 128 < xs.length ∨ 128 < ys.length) :
    Calls Tryz.prog 58 #[.agg #[.bool neg, va, vb]] w fun e w' => e = .returned (.int .i64 3) ∧ Below w.heap.size w w' := by
  obtain ⟨A, ca, rfl, hca, hma, hra⟩ := ha
  obtain ⟨A', cb, rfl, hcb, hmb, hrb⟩ := hb
  unfold maxLen at hma hmb
  generalize xs.length = n at *
  generalize ys.length = m at *
  clear hra hrb
  by_cases h : 128 < n
  · clear hx
    go_enter Tryz.func58, Tryz.ntmps58
    go_wp2
    go_ret
    exact ⟨rfl, (Below.refl _ _).alloc (Nat.le_refl _) _⟩
  · have hm : 128 < m := by omega
    have hn : n ≤ 128 := by omega
    clear hx h
    go_enter Tryz.func58, Tryz.ntmps58
    go_wp2
    go_ret
    exact ⟨rfl, (Below.refl _ _).alloc (Nat.le_refl _) _⟩

set_option maxRecDepth 100000 in
set_option maxHeartbeats 1600000 in
theorem check_last (neg : Bool) (xs ys : List Nat) (va vb : Value) (w : World) (ha : Sl .u32 w va xs) (hb : Sl .u32 w vb ys) (hx : xs.length ≤ 128) (hy : ys.length ≤ 128) (hl : lastB xs = true ∨ lastB ys = true ∨ ys.length = 0) :
    Calls Tryz.prog 58 #[.agg #[.bool neg, va, vb]] w fun e w' => e = .returned (.int .i64 2) ∧ Below w.heap.size w w' := by
  have HA := Lib.hid ha
  have HB := Lib.hid hb
  obtain ⟨A, ca, rfl, hca, hma, hra⟩ := ha
  obtain ⟨A', cb, rfl, hcb, hmb, hrb⟩ := hb
  clear hra hrb
  unfold maxLen at hma hmb
  generalize xs.length = n at *
  generalize ys.length = m at *
  by_cases hl1 : lastB xs = true
  · have HL := Lib.hid hl1
    clear hl hl1
    go_enter Tryz.func58, Tryz.ntmps58
    go_wp2_with fail
    refine (last_any xs _ _ (by exact HA.out.to ((Below.refl _ _).alloc (Nat.le_refl _) _))).mono ?_
    rintro e w1 ⟨rfl, rfl⟩
    rw [HL.out]
    go_wp2
    go_ret
    exact ⟨rfl, (Below.refl _ _).alloc (Nat.le_refl _) _⟩
  · have HL : Hid (lastB xs = false) := by unfold Hid; simpa using hl1
    have hl2 : lastB ys = true ∨ m = 0 := by rcases hl with h | h; exact absurd h hl1; exact h
    clear hl hl1
    by_cases hl1 : lastB ys = true
    · have HL2 := Lib.hid hl1
      clear hl2 hl1
      go_enter Tryz.func58, Tryz.ntmps58
      go_wp2_with fail
      refine (last_any xs _ _ (by exact HA.out.to ((Below.refl _ _).alloc (Nat.le_refl _) _))).mono ?_
      rintro e w1 ⟨rfl, rfl⟩
      rw [HL.out]
      go_wp2_with fail
      refine (last_any ys _ _ (by exact HB.out.to ((Below.refl _ _).alloc (Nat.le_refl _) _))).mono ?_
      rintro e w1 ⟨rfl, rfl⟩
      rw [HL2.out]
      go_wp2
      go_ret
      exact ⟨rfl, (Below.refl _ _).alloc (Nat.le_refl _) _⟩
    · have HL2 : Hid (lastB ys = false) := by unfold Hid; simpa using hl1
      obtain rfl : m = 0 := by rcases hl2 with h | h; exact absurd h hl1; exact h
      clear hl2 hl1
      go_enter Tryz.func58, Tryz.ntmps58
      go_wp2_with fail
      refine (last_any xs _ _ (by exact HA.out.to ((Below.refl _ _).alloc (Nat.le_refl _) _))).mono ?_
      rintro e w1 ⟨rfl, rfl⟩
      rw [HL.out]
      go_wp2_with fail
      refine (last_any ys _ _ (by exact HB.out.to ((Below.refl _ _).alloc (Nat.le_refl _) _))).mono ?_
      rintro e w1 ⟨rfl, rfl⟩
      rw [HL2.out]
      go_wp2
      go_ret
      exact ⟨rfl, (Below.refl _ _).alloc (Nat.le_refl _) _⟩
end Go.Proofs.YtdmhkhnnomdkcaaGreatDoor
/- What number.Check answers. -/
namespace Go.Proofs.YtdmhkhnnomdkcaaGreatDoor
open Go.RowKit NumB
set_option linter.unusedVariables false
set_option linter.unusedSimpArgs false

/-- What Check answers at a sign and two canonical naturals, the second positive. -/
def checkN (neg : Bool) (x y : Nat) : Int := if x = 0 then (if neg = false ∧ y = 1 then 0 else 2) else if y = 1 ∨ x = 1 ∨ Nat.gcd x y = 1 then 0 else 2

end Go.Proofs.YtdmhkhnnomdkcaaGreatDoor

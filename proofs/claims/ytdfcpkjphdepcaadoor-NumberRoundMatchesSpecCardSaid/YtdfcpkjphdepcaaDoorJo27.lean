/- number.floored. Conditions: at most 40000 limbs. fetterlockref1.LenNat. Conditions: at most 1000000 digits. fetterlockref1.AddNat. Conditions: at most 100000 digits. fetterlockref1.trim and SubNat: where the result lies. Conditions: at most 100000 digits. -/
import Derived.Test.YtdfcpkjphdepcaaDoorJo12
import Derived.Test.YtdfcpkjphdepcaaDoorJo13
import Derived.Test.YtdfcpkjphdepcaaDoorJo16
import Derived.Test.YtdfcpkjphdepcaaDoorJo26
set_option linter.unusedVariables false
set_option linter.unusedSimpArgs false
namespace Go.Proofs.YtdfcpkjphdepcaaDoor
open Go.RowKit NumB
set_option linter.unusedVariables false
set_option linter.unusedSimpArgs false

set_option maxRecDepth 100000 in
set_option maxHeartbeats 3200000 in
theorem floored_any (neg floor : Bool) (x y : Nat) (va vb : Value) (w : World) (ha : Nat32 w va x) (hb : Nat32 w vb y) (hx : (digs W32 x).length ≤ 40000) (hy : 0 < y) :
    Calls Tryd.prog 46 #[.bool neg, va, vb, .bool floor] w fun e w' => ∃ v, e = .returned v ∧ Nat32 w' v (flo (neg && floor) x y) ∧ Below w.heap.size w w' := by
  have HD : Hid (Calls Tryd.prog 60 #[va, vb] w (DMPost w (x / y) (x % y))) := divMod_any x y va vb w ha hb (by omega) hy
  have HL : Hid ((digs W32 (x / y)).length ≤ 40000) := Nat.le_trans (digs_len_mono W32_gt (Nat.div_le_self _ _)) hx
  obtain ⟨A, n, c, rfl, hn⟩ := ha.form
  obtain ⟨A', m, d, rfl, hm⟩ := hb.form
  have HS : Hid ((digs W32 [x / y, 1].sum).length ≤ 100000) := Nat.le_trans (by simpa using digs_len_add (n := 40000) HL.out (by rw [digs_one32]; decide)) (by omega)
  have HT : Hid (0 < x % y → flo true x y = x / y + 1) := fun h => flo_true h
  have HZ : Hid (x % y = 0 → ∀ up, flo up x y = x / y) := fun h up => flo_rest h
  have HF : Hid (flo false x y = x / y) := flo_false
  generalize x / y = q at *
  generalize x % y = r at *
  clear ha hb hn hm hx hy
  cases neg with
  | false =>
    rw [Bool.false_and, HF.out]
    go_enter Tryd.func46, Tryd.ntmps46
    go_wp2_with fail
    refine HD.out.mono ?_
    rintro e w1 ⟨v1, v2, rfl, hq, hr, hb⟩
    go_wp2_with fail
    go_ret
    exact ⟨_, rfl, hq, hb⟩
  | true =>
    rw [Bool.true_and]
    cases floor with
    | false =>
      rw [HF.out]
      go_enter Tryd.func46, Tryd.ntmps46
      go_wp2_with fail
      refine HD.out.mono ?_
      rintro e w1 ⟨v1, v2, rfl, hq, hr, hb⟩
      go_wp2_with fail
      go_ret
      exact ⟨_, rfl, hq, hb⟩
    | true =>
      rcases Nat.eq_zero_or_pos r with h | h
      · rw [HZ.out h]
        go_enter Tryd.func46, Tryd.ntmps46
        go_wp2_with fail
        refine HD.out.mono ?_
        rintro e w1 ⟨v1, v2, rfl, hq, hr, hb⟩
        have HQ := Lib.hid hq
        have HBB := Lib.hid hb
        obtain ⟨A2, n2, c2, rfl, hn2⟩ := hr.form
        obtain rfl : n2 = 0 := by have := len_pos32 hn2; omega
        clear hq hr hb hn2
        go_wp2_with fail
        go_ret
        exact ⟨_, rfl, HQ.out, HBB.out⟩
      · rw [HT.out h]
        have HR := Lib.hid h
        clear h
        go_enter Tryd.func46, Tryd.ntmps46
        go_wp2_with fail
        refine HD.out.mono ?_
        rintro e w1 ⟨v1, v2, rfl, hq, hr, hb⟩
        have HQ := Lib.hid hq
        have HBB := Lib.hid hb
        obtain ⟨A2, n2, c2, rfl, hn2⟩ := hr.form
        have hn0 : 0 < n2 := (len_pos32 hn2).2 HR.out
        obtain ⟨A3, n3, c3, rfl, hn3⟩ := hq.form
        clear hq hr hb hn2 hn3
        go_wp2_with fail
        refine (add_any [q, 1] _ 0 2 2 _ rfl (by exact nats_two' (by simp) (HQ.out.to (below_one _ _)) (one32' _ _ rfl) _) HS.out (by omega)).mono ?_
        rintro e w2 ⟨v3, rfl, hn1, hb1⟩
        go_wp2
        go_ret
        have h2 : Below w1.heap.size w1 w2 := ((below_one w1 _).alloc (by simp) _).trans (hb1.mono (((below_one w1 _).alloc (by simp) _).size))
        exact ⟨_, rfl, by simpa using hn1, HBB.out.trans (h2.mono HBB.out.size)⟩
end Go.Proofs.YtdfcpkjphdepcaaDoor
namespace Go.Proofs.YtdfcpkjphdepcaaDoor
open Go.RowKit NumB
set_option linter.unusedVariables false
set_option linter.unusedSimpArgs false

set_option maxRecDepth 100000 in
set_option maxHeartbeats 1600000 in
theorem rlen_any (x : Nat) (v : Value) (w : World) (h : Nat16 w v x) (hx : (digs W16 x).length ≤ 1000000) :
    Calls Tryd.prog 64 #[v] w fun e w' => e = .returned (.int .i64 (blen x : Int)) ∧ w = w' := by
  obtain ⟨A, c, rfl, hc, hm, hr⟩ := h
  unfold maxLen at hm
  have HT := Lib.hid (fun n t (hn : (digs W16 x).length = n + 1) (ht : (digs W16 x).getD n 0 = t) => blen_top hn ht)
  have HZ := Lib.hid (len_pos16 (x := x) rfl)
  have HO := Lib.hid (ok_digs W16_gt x)
  generalize digs W16 x = xs at *
  generalize hn : xs.length = n at *
  have HN := Lib.hid hn
  have HR := Lib.hid hr
  clear hn hr
  rcases Nat.eq_zero_or_pos n with h0 | h0
  · subst h0
    have HX0 : Hid (blen x = 0) := by
      have : ¬ 0 < x := fun h => absurd (HZ.out.2 h) (by omega)
      have e : x = 0 := by omega
      subst e; rfl
    have hb0 : decide ((0 : Int) < ((0 : Nat) : Int)) = false := rfl
    go_enter Tryd.func64, Tryd.ntmps64
    go_wp2
    go_ret
    rw [HX0.out]
    exact ⟨rfl, rfl⟩
  · obtain ⟨b, o, t, rfl, hb, hte, hcell⟩ := HR.out.at_ (i := n - 1) (by omega)
    have htb : t < 65536 := by rw [← hte]; exact HO.out.getD (by decide) _
    have HB : Hid (blen x = 16 * (n - 1) + blen t) := HT.out (n - 1) t (by omega) hte
    have hcast : ((n : Int) - 1) = ((n - 1 : Nat) : Int) := by omega
    have htl : blen t ≤ 16 := blen_le (by omega)
    generalize hn1 : n - 1 = n1 at *
    clear hte
    go_enter Tryd.func64, Tryd.ntmps64
    go_wp2
    go_loop [3, 4] (fun s3 s4 => ∃ (u : Nat) (r : Nat), s4 = .int .i64 (r : Int) ∧ s3 = .int .i64 (u : Int) ∧ r < 65536 ∧ Hid (u + blen r = blen x) ∧ u ≤ 16 * n1 + 16) (fun _ s4 => (intOf s4).toNat)
    case atStart => exact ⟨16 * n1, t, rfl, by go_num, htb, by unfold Hid; rw [HB.out], by omega⟩
    case round =>
      obtain ⟨u, r, rfl, rfl, hrb, HU, hu⟩ := hrel
      by_cases hr0 : 0 < r
      · have hst := blen_step hr0
        have HS := Lib.hid hst
        clear hst
        go_wp2
        go_round
        case rel => exact ⟨u + 1, r / 2, by go_num, by go_num, by omega, by have := HU.out; have := HS.out; unfold Hid; omega, by have := HU.out; have := HS.out; have := HB.out; omega⟩
        case measure => simp [intOf]; omega
      · obtain rfl : r = 0 := by omega
        go_wp2
        go_ret
        have := HU.out
        rw [blen_zero, Nat.add_zero] at this
        rw [← this]
        exact ⟨rfl, rfl⟩
end Go.Proofs.YtdfcpkjphdepcaaDoor
namespace Go.Proofs.YtdfcpkjphdepcaaDoor
open Go.RowKit NumB
set_option linter.unusedVariables false
set_option linter.unusedSimpArgs false

theorem radd_step {xs ys out : List Nat} {j ca p q s : Nat} (hl : out.length = j) (hp : xs.getD j 0 = p) (hq : ys.getD j 0 = q) (hs : s = p + q + ca)
    (he : val W16 out + W16 ^ j * ca = val W16 (xs.take j) + val W16 (ys.take j)) :
    val W16 (out ++ [s % 65536]) + W16 ^ (j + 1) * (s / 65536) = val W16 (xs.take (j + 1)) + val W16 (ys.take (j + 1)) := by
  rw [val_take_succ, val_take_succ, val_snoc, hl, hp, hq, Nat.pow_succ, Nat.mul_assoc]
  have h0 : s % 65536 + 65536 * (s / 65536) = s := Nat.mod_add_div s 65536
  have h1 : W16 ^ j * (s % 65536) + W16 ^ j * (W16 * (s / 65536)) = W16 ^ j * p + W16 ^ j * q + W16 ^ j * ca := by
    rw [← Nat.mul_add, show W16 * (s / 65536) = 65536 * (s / 65536) from rfl, h0, hs, Nat.mul_add, Nat.mul_add]
  omega

theorem digs16_add {x y n : Nat} (hx : (digs W16 x).length ≤ n) (hy : (digs W16 y).length ≤ n) : (digs W16 (x + y)).length ≤ n + 1 := by
  refine digs_len_le W16_gt ?_
  have h1 := Nat.lt_of_lt_of_le (digs_lt (n := x) W16_gt) (Nat.pow_le_pow_right (by decide) hx)
  have h2 := Nat.lt_of_lt_of_le (digs_lt (n := y) W16_gt) (Nat.pow_le_pow_right (by decide) hy)
  rw [Nat.pow_succ]
  have : W16 = 65536 := rfl
  have h3 : W16 ^ n * 2 ≤ W16 ^ n * W16 := Nat.mul_le_mul_left _ (by rw [this]; omega)
  omega

theorem pow_lenR {k m : Nat} (h : k < 16 * m) : (digs W16 (2 ^ k)).length ≤ m := by
  refine digs_len_le (k := m) W16_gt ?_
  have e : W16 ^ m = 2 ^ (16 * m) := by rw [Nat.pow_mul]; rfl
  rw [e]
  exact Nat.pow_lt_pow_right (by decide) h

set_option maxRecDepth 100000 in
set_option maxHeartbeats 3200000 in
theorem radd_any (x y : Nat) (va vb : Value) (w : World) (ha : Nat16 w va x) (hb : Nat16 w vb y) (hx : (digs W16 x).length ≤ 100000) (hy : (digs W16 y).length ≤ 100000) :
    Calls Tryd.prog 44 #[va, vb] w (RPost w (x + y)) := by
  have HA0 := Lib.hid ha
  have HB0 := Lib.hid hb
  obtain ⟨A, cpa, rfl, hca, hma, hra⟩ := ha
  obtain ⟨A', cpb, rfl, hcb, hmb, hrb⟩ := hb
  have HX := Lib.hid (And.intro (And.intro (val_digs W16_gt x) (val_digs W16_gt y)) (And.intro (ok_digs W16_gt x) (ok_digs W16_gt y)))
  unfold maxLen at hma hmb
  unfold Nat16 at HA0 HB0
  generalize digs W16 x = xs at *
  generalize digs W16 y = ys at *
  generalize hn : xs.length = n at *
  generalize hm : ys.length = m at *
  have HL := Lib.hid (And.intro hn hm)
  clear hra hrb hm hn
  obtain ⟨M, hM1, hM2, hM3⟩ : ∃ M : Nat, n ≤ M ∧ m ≤ M ∧ (M = n ∨ M = m) := ⟨max n m, by omega, by omega, by omega⟩
  have hM4 : M ≤ 100000 := by omega
  go_enter Tryd.func44, Tryd.ntmps44
  go_wp2
  go_loopg [5, 6, 7, 8] (M + 2) (fun gk so sc si s8 wr => ∃ (j ca : Nat) (out : List Nat), gk + j = M + 2 ∧ j ≤ M + 1 ∧ (j = M + 1 → ca = 0) ∧ si = .int .i64 (j : Int) ∧ sc = .int .i64 (ca : Int) ∧ ca ≤ 1 ∧ Hid (OwnV .i64 3 wr w.heap.size so out) ∧ Hid (out.length = j ∧ Ok W16 out) ∧ Hid (val W16 out + W16 ^ j * ca = val W16 (xs.take j) + val W16 (ys.take j)) ∧ Hid (Below w.heap.size w wr))
  case atStart => exact ⟨0, 0, [], by omega, by omega, fun _ => rfl, rfl, rfl, by omega, OwnV.nil_ _, ⟨rfl, Ok.nil⟩, by unfold Hid; simp, Below.refl _ _⟩
  case round =>
    obtain ⟨j, ca, out, hgj, hjM, hjc, rfl, rfl, hca1, HS, HV, HE, HB⟩ := hrel
    by_cases hex : n ≤ j ∧ m ≤ j ∧ ca = 0
    · obtain ⟨hj1, hj2, rfl⟩ := hex
      have hn1 : ¬ (j < n) := by omega
      have hn2 : ¬ (j < m) := by omega
      clear hjc
      go_wp2_with (go_at_call 69; refine (rtrim_any out _ _ HS.out.sl HV.out.2).mono ?_; rintro e w' ⟨v', rfl, hn', rfl⟩)
      go_ret
      have he := HE.out
      rw [Nat.mul_zero, Nat.add_zero, val_take_all W16 xs (by rw [HL.out.1]; exact hj1), val_take_all W16 ys (by rw [HL.out.2]; exact hj2), HX.out.1.1, HX.out.1.2] at he
      rw [he] at hn'
      exact ⟨_, rfl, hn', HB.out⟩
    · have hjM2 : j ≤ M := by
        rcases Nat.lt_or_ge M j with h | h
        · exact absurd ⟨by omega, by omega, hjc (by omega)⟩ hex
        · exact h
      have hcase : j < n ∨ (n ≤ j ∧ j < m) ∨ (n ≤ j ∧ m ≤ j ∧ 0 < ca) := by
        rcases Nat.lt_or_ge j n with h | h
        · exact .inl h
        · rcases Nat.lt_or_ge j m with h' | h'
          · exact .inr (.inl ⟨h, h'⟩)
          · exact .inr (.inr ⟨h, h', Nat.pos_of_ne_zero fun h0 => hex ⟨h, h', h0⟩⟩)
      obtain ⟨p, hpe⟩ : ∃ p, xs.getD j 0 = p := ⟨_, rfl⟩
      obtain ⟨q, hqe⟩ : ∃ q, ys.getD j 0 = q := ⟨_, rfl⟩
      have hpb : p < 65536 := by rw [← hpe]; exact HX.out.2.1.getD (by decide) _
      have hqb : q < 65536 := by rw [← hqe]; exact HX.out.2.2.getD (by decide) _
      have HP := Lib.hid hpe
      have HQ := Lib.hid hqe
      have HPQ0 : Hid (n ≤ j → m ≤ j → p = 0 ∧ q = 0) := fun h h' => ⟨by rw [← hpe]; exact getD_ge (by rw [HL.out.1]; exact h), by rw [← hqe]; exact getD_ge (by rw [HL.out.2]; exact h')⟩
      clear hpe hqe hex hjc
      obtain ⟨s, hs⟩ : ∃ s : Nat, s = p + q + ca := ⟨_, rfl⟩
      have HSS := Lib.hid hs
      have hsi : (p : Int) + (q : Int) + (ca : Int) = (s : Int) := by omega
      have hsb : s ≤ 131071 := by omega
      have HSA : Hid (Sl .i64 wr (.slice A n cpa) xs) := HA0.out.to HB.out
      have HSB : Hid (Sl .i64 wr (.slice A' m cpb) ys) := HB0.out.to HB.out
      have HLEN : Hid (out.length + [s % 65536].length ≤ 1000000) := by have := HV.out.1; unfold Hid; simp; omega
      clear hs
      obtain ⟨lo, hlo⟩ : ∃ lo : Nat, lo = s % 65536 := ⟨_, rfl⟩
      obtain ⟨hi, hhi⟩ : ∃ hi : Nat, hi = s / 65536 := ⟨_, rfl⟩
      have hloi : (s : Int) % 65536 = (lo : Int) := by omega
      have hhii : (s : Int) / 65536 = (hi : Int) := by omega
      have hlob : lo < 65536 := by omega
      have hhib : hi ≤ 1 := by omega
      rw [← hlo] at HLEN
      have HLO := Lib.hid (And.intro hlo hhi)
      clear hlo hhi
      rcases hcase with hlt | ⟨hn1, hlt⟩ | ⟨hn1, hn2, hc0⟩
      all_goals
        go_wp2_with fail
        refine (rdigit_eq xs _ j p _ (by exact HSA.out) (by omega) HP.out).mono ?_
        rintro e w1 ⟨rfl, rfl⟩
        go_wp2_with fail
        refine (rdigit_eq ys _ j q _ (by exact HSB.out) (by omega) HQ.out).mono ?_
        rintro e w1 ⟨rfl, rfl⟩
        go_wp2_with (at_builtin; go_must (refine wpList_push wr rfl _ _ 58 rfl .i64 3 8 Tryd.underlying58 info_i64 (by decide) w.heap.size _ out [lo] (by rfl) (by rfl) HS.out HLEN.out HB.out.size _ rfl ?_); intro v1 w1 hown1 hb1)
        go_roundg (gk - 1)
        case measure => omega
        case rel =>
          obtain ⟨e1, e2⟩ := HV.out
          obtain ⟨f1, f2⟩ := HLO.out
          refine ⟨j + 1, hi, out ++ [lo], by omega, by omega, ?_, by go_num, rfl, hhib, hown1, ⟨by simp; omega, e2.append (Ok.cons hlob Ok.nil)⟩, ?_, HB.out.trans hb1⟩
          · intro hj1
            have h1 := HPQ0.out (by omega) (by omega)
            have h2 := HSS.out
            omega
          · rw [f1, f2]; exact radd_step e1 HP.out HQ.out HSS.out HE.out
end Go.Proofs.YtdfcpkjphdepcaaDoor
namespace Go.Proofs.YtdfcpkjphdepcaaDoor
open Go.RowKit NumB
set_option linter.unusedVariables false
set_option linter.unusedSimpArgs false

/-- A slice that lies in a block from B on. -/
def Fresh (B : Nat) (v : Value) : Prop := ∀ a n c, v = .slice (some a) n c → B ≤ a.block
theorem Sl.far {k : IntKind} {w : World} {v : Value} {xs : List Nat} {B g i : Nat} {u : Value} (h : Sl k w v xs) (hf : Fresh B v) (hg : g < B) : Sl k (w.setCell ⟨g, i, none⟩ u) v xs := by
  obtain ⟨A, c, rfl, h1, h2, h3, h4⟩ := h
  refine ⟨A, c, rfl, h1, h2, h3, fun hn => ?_⟩
  obtain ⟨b, o, rfl, hb, hc⟩ := h4 hn
  have := hf _ _ _ rfl
  refine ⟨b, o, rfl, by simpa [World.setCell] using hb, fun i hi => ?_⟩
  rw [World.cell?_setCell_other _ _ _ _ (by intro e; cases e; exact absurd this (Nat.not_le.2 hg))]
  exact hc i hi

set_option maxRecDepth 100000 in
set_option maxHeartbeats 400000 in
theorem rtrim_at (xs : List Nat) (A : Option Addr) (n0 c0 : Nat) (w : World) (h : Sl .i64 w (.slice A n0 c0) xs) (ho : Ok W16 xs) :
    Calls Tryd.prog 69 #[.slice A n0 c0] w fun e w' => ∃ m, e = .returned (.slice A m c0) ∧ Nat16 w (.slice A m c0) (val W16 xs) ∧ w = w' := by
  obtain ⟨A1, c, he, hc, hm, hr⟩ := h
  simp only [Value.slice.injEq] at he
  obtain ⟨rfl, rfl, rfl⟩ := he
  have HM := Lib.hid hm
  unfold maxLen at hm
  generalize hn : xs.length = n at *
  have HL := Lib.hid hn
  have HR := Lib.hid hr
  clear hr hn
  have HO := Lib.hid ho
  clear ho
  go_enter Tryd.func69, Tryd.ntmps69
  go_wp2
  go_loopg [0] n (fun g v wr => g ≤ n ∧ v = .slice A g c0 ∧ Hid (val W16 (xs.take g) = val W16 xs) ∧ w = wr)
  case atStart => exact ⟨Nat.le_refl _, rfl, by rw [← HL.out, List.take_length]; rfl, rfl⟩
  case round =>
    obtain ⟨hg, rfl, HV, rfl⟩ := hrel
    by_cases h0 : 0 < gk
    · obtain ⟨b, o, x, rfl, hb, hxe, hx⟩ := HR.out.at_ (i := gk - 1) (by omega)
      have HX := Lib.hid hxe
      have hxb : x < 65536 := by rw [← hxe]; exact HO.out.getD (by decide) _
      clear hxe
      by_cases hz : x = 0
      · subst hz
        go_wp2
        go_roundg (gk - 1)
        case measure => omega
        case rel =>
          refine ⟨by omega, rfl, ?_, rfl⟩
          have h := val_take_succ W16 xs (gk - 1)
          rw [show gk - 1 + 1 = gk from by omega, HX.out, Nat.mul_zero, Nat.add_zero] at h
          exact h.symm.trans HV.out
      · have HZ := Lib.hid hz
        have hne : ((x : Int) == 0) = false := beq_eq_false_iff_ne.2 (by omega)
        clear hz
        go_wp2
        go_ret
        exact ⟨_, rfl, Sl.of_rd HR.out hg hc HM.out (rtrim_end HO.out (by rw [HL.out]; exact hg) HV.out (.inr (by rw [HX.out]; exact HZ.out))), rfl⟩
    · go_wp2
      go_ret
      exact ⟨_, rfl, Sl.of_rd HR.out hg hc HM.out (rtrim_end HO.out (by rw [HL.out]; exact hg) HV.out (.inl (by omega))), rfl⟩

set_option maxRecDepth 100000 in
set_option maxHeartbeats 1600000 in
theorem rsub_fresh (x y : Nat) (va vb : Value) (w : World) (ha : Nat16 w va x) (hb : Nat16 w vb y) (hx : (digs W16 x).length ≤ 100000) (hle : y ≤ x) :
    Calls Tryd.prog 68 #[va, vb] w fun e w' => ∃ v, e = .returned v ∧ Nat16 w' v (x - y) ∧ Fresh w.heap.size v ∧ Below w.heap.size w w' := by
  have HB0 := Lib.hid hb
  obtain ⟨A, ca, rfl, hca, hma, hra⟩ := ha
  obtain ⟨A', cb, rfl, hcb, hmb, hrb⟩ := hb
  have hlen := digs_len_mono (B := W16) W16_gt hle
  have HX := Lib.hid (And.intro (And.intro (val_digs W16_gt x) (val_digs W16_gt y)) (And.intro (ok_digs W16_gt x) (ok_digs W16_gt y)))
  unfold maxLen at hma hmb
  unfold Nat16 at HB0
  generalize digs W16 x = xs at *
  generalize digs W16 y = ys at *
  generalize hn : xs.length = n at *
  generalize hm : ys.length = m at *
  have HL := Lib.hid (And.intro hn hm)
  have HRA := Lib.hid hra
  have HLE := Lib.hid hle
  clear hra hrb hm hn hle
  go_enter Tryd.func68, Tryd.ntmps68
  go_wp2
  go_loopg [11, 5, 6, 7, 8] n (fun gk si so sb s7 s8 wr => ∃ (j bo : Nat) (out : List Nat), gk + j = n ∧ si = .int .i64 (j : Int) ∧ sb = .int .i64 (bo : Int) ∧ bo ≤ 1 ∧ Hid (OwnV .i64 3 wr w.heap.size so out) ∧ Hid (out.length = j ∧ Ok W16 out) ∧ Hid (val W16 (xs.take j) + W16 ^ j * bo = val W16 out + val W16 (ys.take j)) ∧ Hid (Below w.heap.size w wr))
  case atStart => exact ⟨0, 0, [], by omega, rfl, rfl, by omega, OwnV.nil_ _, ⟨rfl, Ok.nil⟩, by unfold Hid; simp, Below.refl _ _⟩
  case round =>
    obtain ⟨j, bo, out, hgj, rfl, rfl, hbo, HS, HV, HE, HB⟩ := hrel
    by_cases hj : j < n
    · obtain ⟨b, o, p, rfl, hb, hpe, hcell⟩ := (HRA.out.below HB.out).at_ (i := j) hj
      have hpb : p < 65536 := by rw [← hpe]; exact HX.out.2.1.getD (by decide) _
      have HP := Lib.hid hpe
      obtain ⟨q, hqe⟩ : ∃ q, ys.getD j 0 = q := ⟨_, rfl⟩
      have hqb : q < 65536 := by rw [← hqe]; exact HX.out.2.2.getD (by decide) _
      have HQ := Lib.hid hqe
      clear hpe hqe
      have hj0 : (0 : Int) ≤ (j : Int) := by omega
      have hj1 : (j : Int) < (n : Int) := by omega
      have hw1 : IntKind.i64.wrap ((p : Int) - (q : Int)) = (p : Int) - (q : Int) := by rw [IntKind.wrap_i64]; omega
      have hw2 : IntKind.i64.wrap ((p : Int) - (q : Int) - (bo : Int)) = (p : Int) - (q : Int) - (bo : Int) := by rw [IntKind.wrap_i64]; omega
      have HSl : Hid (Sl .i64 wr (.slice A' m cb) ys) := HB0.out.to HB.out
      have hlen1 : out.length + [p].length ≤ 1000000 := by have := HV.out.1; simp; omega
      have HLEN := Lib.hid hlen1
      clear hlen1
      go_wp2
      go_quiet ((go_at_call 70; exact quietL (rdigit_eq ys _ j q _ (by exact HSl.out) (by omega) HQ.out)))
      clear hw1 hw2
      generalize hwq : wr.drewN nq = wq
      have HS1 : Hid (OwnV .i64 3 wq w.heap.size u5 out) := by rw [← hwq]; exact HS.out
      have HBq : Hid (Below w.heap.size w wq) := by rw [← hwq]; exact below_drewN HB.out _
      clear hwq hcell
      by_cases hneg : p < q + bo
      · obtain ⟨z, hz, hzb, HZ⟩ : ∃ z : Nat, (p : Int) - (q : Int) - (bo : Int) + 65536 = (z : Int) ∧ z < 65536 ∧ Hid (p + 65536 * 1 = z + q + bo) := ⟨p + 65536 - q - bo, by omega, by omega, by unfold Hid; omega⟩
        have hng : (p : Int) - (q : Int) - (bo : Int) < 0 := by omega
        go_wp2_with (at_builtin; refine wpList_push wq rfl _ _ 58 rfl .i64 3 8 Tryd.underlying58 info_i64 (by decide) w.heap.size _ out [z] (by rfl) (by rfl) HS1.out HLEN.out HBq.out.size _ rfl ?_; intro v1 w1 hown1 hb1)
        go_roundg (gk - 1)
        case measure => omega
        case rel =>
          obtain ⟨e1, e2⟩ := HV.out
          exact ⟨j + 1, 1, out ++ [z], by omega, by go_num, rfl, by omega, hown1, ⟨by simp; omega, e2.append (Ok.cons hzb Ok.nil)⟩, rsub_step e1 HP.out HQ.out HZ.out HE.out, HBq.out.trans hb1⟩
      · obtain ⟨z, hz, hzb, HZ⟩ : ∃ z : Nat, (p : Int) - (q : Int) - (bo : Int) = (z : Int) ∧ z < 65536 ∧ Hid (p + 65536 * 0 = z + q + bo) := ⟨p - q - bo, by omega, by omega, by unfold Hid; omega⟩
        rw [hz]
        clear hz
        go_wp2_with (at_builtin; refine wpList_push wq rfl _ _ 58 rfl .i64 3 8 Tryd.underlying58 info_i64 (by decide) w.heap.size _ out [z] (by rfl) (by rfl) HS1.out HLEN.out HBq.out.size _ rfl ?_; intro v1 w1 hown1 hb1)
        go_roundg (gk - 1)
        case measure => omega
        case rel =>
          obtain ⟨e1, e2⟩ := HV.out
          exact ⟨j + 1, 0, out ++ [z], by omega, by go_num, rfl, by omega, hown1, ⟨by simp; omega, e2.append (Ok.cons hzb Ok.nil)⟩, rsub_step e1 HP.out HQ.out HZ.out HE.out, HBq.out.trans hb1⟩
    · obtain rfl : j = n := by omega
      clear hgj hj
      obtain ⟨AO, cO, hvo, HFR⟩ : ∃ AO cO, u5 = .slice AO out.length cO ∧ Hid (∀ a, AO = some a → w.heap.size ≤ a.block) := by
        rcases HS.out.form with ⟨h1, h2⟩ | ⟨g, c, h1, h2⟩
        · exact ⟨none, 0, by rw [h1, h2]; rfl, fun a h => by cases h⟩
        · exact ⟨_, c, h1, fun a h => by cases h; exact h2.lt.1⟩
      subst hvo
      go_wp2_with (go_at_call 69; refine (rtrim_at out _ _ _ _ HS.out.sl HV.out.2).mono ?_; rintro e w' ⟨m', rfl, hn', rfl⟩)
      go_ret
      rw [rsub_end HX.out.1.1 HX.out.1.2 HL.out.1 (by rw [HL.out.2]; exact hlen) HV.out.1 HV.out.2 HLE.out HE.out] at hn'
      exact ⟨_, rfl, hn', (fun a n c h => by cases h; exact HFR.out _ rfl), HB.out⟩
end Go.Proofs.YtdfcpkjphdepcaaDoor

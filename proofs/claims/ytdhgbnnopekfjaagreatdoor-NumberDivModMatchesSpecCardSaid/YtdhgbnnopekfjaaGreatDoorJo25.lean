/- number.integers, at two numbers; number.whole. Binary digits of naturals, and division bit by bit: plain mathematics. How long the digits in base 2^16 are. fetterlockref1.LenNat. Conditions: at most 1000000 digits. -/
import Derived.Test.YtdhgbnnopekfjaaGreatDoorJo2
import Derived.Test.YtdhgbnnopekfjaaGreatDoorJo18
import Derived.Test.YtdhgbnnopekfjaaGreatDoorJo20
import Derived.Test.YtdhgbnnopekfjaaGreatDoorJo21
import Derived.Test.YtdhgbnnopekfjaaGreatDoorJo24
set_option linter.unusedVariables false
set_option linter.unusedSimpArgs false
namespace Go.Proofs.YtdhgbnnopekfjaaGreatDoor
open Go.RowKit NumB
set_option linter.unusedVariables false
set_option linter.unusedSimpArgs false

/-- What integers answers at two numbers. -/
def intErr2 (a b : LN) : Int := if err2 a.err b.err = 0 then (if a.y = 1 ∧ b.y = 1 then 0 else 7) else err2 a.err b.err
theorem intErr2_bd (a b : LN) : 0 ≤ intErr2 a b ∧ intErr2 a b ≤ 7 := by
  have h : 0 ≤ err2 a.err b.err ∧ err2 a.err b.err ≤ 3 := err2_bd (checkL_bd _ _ _) (checkL_bd _ _ _)
  unfold intErr2
  split
  · split <;> omega
  · omega

set_option maxRecDepth 100000 in
set_option maxHeartbeats 3200000 in
theorem integers_two (a a' : LN) (b cap : Nat) (A1 A2 A3 A4 : Value) (w : World) (t : TypeId) (hg : Blk w b t #[.bool a.neg, A1, A2, .bool a'.neg, A3, A4]) (h : GV w (.agg #[.bool a.neg, A1, A2]) a) (h' : GV w (.agg #[.bool a'.neg, A3, A4]) a') :
    Calls Tryz.prog 27 #[.slice (some ⟨b, 0, none⟩) 2 cap] w fun e w' => e = .returned (.int .i64 (intErr2 a a')) ∧ Below w.heap.size w w' := by
  obtain ⟨_, g1, g2, gok⟩ := h.parts
  obtain ⟨_, g3, g4, gok'⟩ := h'.parts
  have HC : Hid (Calls Tryz.prog 48 #[.slice (some ⟨b, 0, none⟩) 2 cap] w fun e w' => e = .returned (.int .i64 (err2 a.err a'.err)) ∧ Below w.heap.size w w') := checks_two b cap a.neg a'.neg a.num a.den a'.num a'.den A1 A2 A3 A4 w t hg g1 g2 g3 g4 gok.1 gok.2 gok'.1 gok'.2
  have HBK := Lib.hid hg
  have hbd : 0 ≤ err2 a.err a'.err ∧ err2 a.err a'.err ≤ 3 := err2_bd (checkL_bd _ _ _) (checkL_bd _ _ _)
  obtain ⟨B1, n1, d1, B2, n2, d2, he, hq1, hq2⟩ := h.form
  clear hq1 hq2
  simp only [Value.agg.injEq, Array.mk.injEq, List.cons.injEq, and_true, true_and] at he
  obtain ⟨rfl, rfl⟩ := he
  obtain ⟨B3, n3, d3, B4, n4, d4, he, hq1, hq2⟩ := h'.form
  clear hq1 hq2
  simp only [Value.agg.injEq, Array.mk.injEq, List.cons.injEq, and_true, true_and] at he
  obtain ⟨rfl, rfl⟩ := he
  by_cases e0 : err2 a.err a'.err = 0
  · have HY : Hid (Nat32 w (.slice B2 n2 d2) a.y ∧ Nat32 w (.slice B4 n4 d4) a'.y) := by
      have h2 := (LN.good gok (err2_zero.1 e0).1).2.1
      have h4 := (LN.good gok' (err2_zero.1 e0).2).2.1
      refine ⟨?_, ?_⟩
      · unfold Nat32; rw [h2]; exact g2
      · unfold Nat32; rw [h4]; exact g4
    have HI : Hid (intErr2 a a' = if a.y = 1 ∧ a'.y = 1 then 0 else 7) := by unfold Hid intErr2; rw [if_pos e0]
    rw [e0] at HC
    generalize intErr2 a a' = r at *
    generalize a.y = y at *
    generalize a'.y = y' at *
    generalize a.neg = ng at *
    generalize a'.neg = ng' at *
    clear h h' g1 g2 g3 g4 gok gok' hg hbd e0
    go_enter Tryz.func27, Tryz.ntmps27
    go_wp2_with fail
    refine HC.out.mono ?_
    rintro e w1 ⟨rfl, hb1⟩
    have HB1 := Lib.hid hb1
    clear hb1
    go_wp2_with fail
    go_loopg [13, 5] 2 (fun gk s13 s5 wr => ∃ j : Nat, gk + j = 2 ∧ s13 = .int .i64 (j : Int) ∧ Hid ((0 < j → y = 1) ∧ (1 < j → y' = 1)) ∧ Hid (Below w.heap.size w wr))
    case atStart => exact ⟨0, by omega, rfl, ⟨by omega, by omega⟩, HB1.out⟩
    case round =>
      obtain ⟨j, hgj, rfl, HE, HB⟩ := hrel
      have hk := HBK.out.to HB.out
      have c0 := hk.cell 0
      have c1 := hk.cell 1
      have c2 := hk.cell 2
      have c3 := hk.cell 3
      have c4 := hk.cell 4
      have c5 := hk.cell 5
      simp only [List.getElem?_toArray, List.getElem?_cons_zero, List.getElem?_cons_succ] at c0 c1 c2 c3 c4 c5
      clear hk
      by_cases hj : j = 0
      · subst hj
        obtain rfl : gk = 2 := by omega
        clear hgj c3 c4 c5
        by_cases hy : y = 1
        · have HO := Lib.hid (oneB_true hy)
          have HY1 := Lib.hid hy
          clear hy
          go_wp2_with fail
          refine (isOne_any y _ _ (by exact (HY.out.1.to HB.out).to (below_one _ _))).mono ?_
          rintro e w3 ⟨he, rfl⟩
          rw [HO.out] at he
          subst he
          go_wp2_with fail
          go_roundg 1
          case measure => omega
          case rel => exact ⟨1, by omega, by go_num, ⟨fun _ => HY1.out, fun h => absurd h (by omega)⟩, HB.out.alloc HB.out.size _⟩
        · have HO := Lib.hid (oneB_false hy)
          have HY1 := Lib.hid hy
          clear hy
          go_wp2_with fail
          refine (isOne_any y _ _ (by exact (HY.out.1.to HB.out).to (below_one _ _))).mono ?_
          rintro e w3 ⟨he, rfl⟩
          rw [HO.out] at he
          subst he
          go_wp2_with fail
          go_ret
          rw [HI.out, if_neg (fun h => HY1.out h.1)]
          exact ⟨rfl, HB.out.alloc HB.out.size _⟩
      · by_cases hj1 : j = 1
        · subst hj1
          obtain rfl : gk = 1 := by omega
          clear hgj c0 c1 c2 hj
          by_cases hy : y' = 1
          · have HO := Lib.hid (oneB_true hy)
            have HY1 := Lib.hid hy
            clear hy
            go_wp2_with fail
            refine (isOne_any y' _ _ (by exact (HY.out.2.to HB.out).to (below_one _ _))).mono ?_
            rintro e w3 ⟨he, rfl⟩
            rw [HO.out] at he
            subst he
            go_wp2_with fail
            go_roundg 0
            case measure => omega
            case rel => exact ⟨2, by omega, by go_num, ⟨fun _ => HE.out.1 (by omega), fun _ => HY1.out⟩, HB.out.alloc HB.out.size _⟩
          · have HO := Lib.hid (oneB_false hy)
            have HY1 := Lib.hid hy
            clear hy
            go_wp2_with fail
            refine (isOne_any y' _ _ (by exact (HY.out.2.to HB.out).to (below_one _ _))).mono ?_
            rintro e w3 ⟨he, rfl⟩
            rw [HO.out] at he
            subst he
            go_wp2_with fail
            go_ret
            rw [HI.out, if_neg (fun h => HY1.out h.2)]
            exact ⟨rfl, HB.out.alloc HB.out.size _⟩
        · obtain rfl : j = 2 := by omega
          obtain rfl : gk = 0 := by omega
          have HY1 : Hid (y = 1 ∧ y' = 1) := ⟨HE.out.1 (by omega), HE.out.2 (by omega)⟩
          clear hgj hj hj1 c0 c1 c2 c3 c4 c5
          go_wp2_with fail
          go_ret
          rw [HI.out, if_pos HY1.out]
          exact ⟨rfl, HB.out⟩
  · have b0 : (err2 a.err a'.err != 0) = true := by rw [bne_iff_ne]; exact e0
    have HI : Hid (intErr2 a a' = err2 a.err a'.err) := by unfold Hid intErr2; rw [if_neg e0]
    generalize intErr2 a a' = r at *
    generalize err2 a.err a'.err = z at *
    clear h h' g1 g2 g3 g4 gok gok' hg e0
    go_enter Tryz.func27, Tryz.ntmps27
    go_wp2_with fail
    refine HC.out.mono ?_
    rintro e w1 ⟨rfl, hb1⟩
    have HB1 := Lib.hid hb1
    clear hb1
    go_wp2_with fail
    go_ret
    rw [HI.out]
    exact ⟨rfl, HB1.out⟩

set_option maxRecDepth 100000 in
set_option maxHeartbeats 3200000 in
theorem whole_S (neg : Bool) (x : Nat) (va : Value) (w : World) (ha : Nat32 w va x) (hx : (digs W32 x).length ≤ 50000) :
    Calls Tryz.prog 31 #[.bool neg, va] w (SPost w (fracS 0 neg x 1)) := by
  have HN := Lib.hid ha
  have HBK := Lib.hid (nilBlk w)
  have HM : Hid (∀ (W : World) (va vb : Value), Nat32 W va x → Nat32 W vb 1 → Calls Tryz.prog 49 #[.bool neg, va, vb] W (SPost W (fracS 0 neg x 1))) := fun W va vb h1 h2 => (made_any neg x 1 va vb W h1 h2 (by omega) hx (by rw [digs_one32]; decide)).mono fun _ _ h => FitPost.toS h
  generalize fracS 0 neg x 1 = r at *
  clear ha hx
  go_enter Tryz.func31, Tryz.ntmps31
  go_wp2_with fail
  refine (HM.out _ _ _ (by exact HN.out.to (below_two w _ _)) (by exact one32' _ _ (by simp))).mono ?_
  rintro e w1 ⟨v, rfl, hg, hb⟩
  have KC := Lib.hid ((HBK.out.alloc (.cells #[.int .u32 1] 73)).to hb)
  have HBE : Hid (Below w.heap.size w w1) := (below_two w _ _).trans (hb.mono (below_two w _ _).size)
  have HG := Lib.hid hg
  obtain ⟨C1, q1, r1, C2, q2, r2, rfl, hq1, hq2⟩ := hg.form
  have cc0 := KC.out.cell 0
  have cc1 := KC.out.cell 1
  have cc2 := KC.out.cell 2
  simp only [List.getElem?_toArray, List.getElem?_cons_zero, List.getElem?_cons_succ] at cc0 cc1 cc2
  have fc0 := KC.out.frozen 0
  have fc1 := KC.out.frozen 1
  have fc2 := KC.out.frozen 2
  clear hb hg hq1 hq2
  go_wp2_with fail
  refine bodyPost_ret (v := .tuple #[.agg #[.bool r.1.neg, .slice C1 q1 r1, .slice C2 q2 r2], .int .i64 r.2]) (by rw [results_cell_tmp rfl]; go_simp) rfl ?_
  exact ⟨_, rfl, HG.out.put3 KC.out _ _ _, put3_below HBE.out (Nat.le_refl _) _ _ _⟩
end Go.Proofs.YtdhgbnnopekfjaaGreatDoor
namespace Go.Proofs.YtdhgbnnopekfjaaGreatDoor
open Go.RowKit NumB
set_option linter.unusedVariables false
set_option linter.unusedSimpArgs false

/-- The number of binary digits. -/
def blen (x : Nat) : Nat := if x = 0 then 0 else Nat.log2 x + 1
theorem blen_zero : blen 0 = 0 := rfl
theorem blen_eq {x k : Nat} (h1 : 2 ^ k ≤ x) (h2 : x < 2 ^ (k + 1)) : blen x = k + 1 := by
  have hx : x ≠ 0 := by have := Nat.pow_pos (n := k) (show 0 < 2 by omega); omega
  unfold blen
  rw [if_neg hx, (Nat.log2_eq_iff hx).2 ⟨h1, h2⟩]
theorem blen_bd {x : Nat} (hx : 0 < x) : ∃ k, blen x = k + 1 ∧ 2 ^ k ≤ x ∧ x < 2 ^ (k + 1) :=
  ⟨Nat.log2 x, by unfold blen; rw [if_neg (by omega)], (Nat.log2_eq_iff (by omega)).1 rfl⟩
theorem blen_lt (x : Nat) : x < 2 ^ blen x := by
  rcases Nat.eq_zero_or_pos x with h | h
  · subst h; exact Nat.pow_pos (by omega)
  · obtain ⟨k, e, _, h2⟩ := blen_bd h
    rw [e]; exact h2
theorem blen_le {x k : Nat} (h : x < 2 ^ k) : blen x ≤ k := by
  rcases Nat.eq_zero_or_pos x with h0 | h0
  · subst h0; exact Nat.zero_le _
  · obtain ⟨j, e, h1, _⟩ := blen_bd h0
    rw [e]
    have : 2 ^ j < 2 ^ k := Nat.lt_of_le_of_lt h1 h
    exact (Nat.pow_lt_pow_iff_right (by omega)).1 this
theorem blen_gt {x k : Nat} (h : 2 ^ k ≤ x) : k < blen x := by
  rcases Nat.lt_or_ge k (blen x) with h1 | h1
  · exact h1
  · have := Nat.lt_of_lt_of_le (blen_lt x) (Nat.pow_le_pow_right (by omega) h1)
    omega
theorem blen_step {x : Nat} (hx : 0 < x) : blen x = blen (x / 2) + 1 := by
  rcases Nat.lt_or_ge x 2 with h | h
  · obtain rfl : x = 1 := by omega
    rfl
  · obtain ⟨k, e, h1, h2⟩ := blen_bd (x := x / 2) (by omega)
    rw [e]
    refine blen_eq ?_ ?_
    · rw [Nat.pow_succ]; omega
    · rw [Nat.pow_succ]; omega
theorem blen_pos {x : Nat} : 0 < blen x ↔ 0 < x := by
  constructor
  · intro h
    rcases Nat.eq_zero_or_pos x with h0 | h0
    · subst h0; exact absurd h (by decide)
    · exact h0
  · intro h; rw [blen_step h]; omega
theorem blen_shift {k t l : Nat} (ht : 0 < t) (hl : l < 2 ^ k) : blen (l + 2 ^ k * t) = k + blen t := by
  obtain ⟨j, e, h1, h2⟩ := blen_bd ht
  rw [e, show k + (j + 1) = (k + j) + 1 from by omega]
  refine blen_eq ?_ ?_
  · rw [Nat.pow_add]
    exact Nat.le_trans (Nat.mul_le_mul_left _ h1) (Nat.le_add_left _ _)
  · rw [show k + j + 1 = k + (j + 1) from by omega, Nat.pow_add]
    have : 2 ^ k * (t + 1) ≤ 2 ^ k * 2 ^ (j + 1) := Nat.mul_le_mul_left _ h2
    rw [Nat.mul_add] at this
    omega
/-- The number of binary digits, by the highest digit in base 2^16. -/
theorem blen_top {x n t : Nat} (hn : (digs W16 x).length = n + 1) (ht : (digs W16 x).getD n 0 = t) : blen x = 16 * n + blen t := by
  have h1 := val_take_succ W16 (digs W16 x) n
  rw [val_take_all W16 _ (by omega), val_digs W16_gt, ht] at h1
  have h2 := val_take_lt (ok_digs W16_gt x) (j := n) (by omega)
  have ht0 : 0 < t := by
    rcases Nat.eq_zero_or_pos t with h | h
    · subst h
      have h3 := digs_ge W16_gt (n := x) (by intro h; subst h; rw [digs_zero] at hn; cases hn)
      rw [hn, Nat.add_sub_cancel] at h3
      omega
    · exact h
  have e : W16 ^ n = 2 ^ (16 * n) := by rw [Nat.pow_mul]; rfl
  rw [e] at h1 h2
  rw [h1]
  exact blen_shift ht0 h2
theorem blen_digs {x n : Nat} (h : (digs W16 x).length ≤ n) : blen x ≤ 16 * n := by
  refine blen_le (Nat.lt_of_lt_of_le (digs_lt W16_gt) ?_)
  rw [Nat.pow_mul]
  exact Nat.pow_le_pow_right (by decide) h

/-- One step of the division: the next bit comes in. -/
theorem div_bit {x y j b : Nat} (hy : 0 < y) (hb : x / 2 ^ j % 2 = b) : x / 2 ^ j = 2 * (x / 2 ^ (j + 1)) + b := by
  have e : x / 2 ^ (j + 1) = x / 2 ^ j / 2 := by rw [Nat.pow_succ, Nat.div_div_eq_div_mul]
  rw [e]; omega
theorem div_yes {X y r b X' : Nat} (hy : 0 < y) (hX : X' = 2 * X + b) (hb : b < 2) (hr : r = X % y) (h : y ≤ 2 * r + b) : X' % y = 2 * r + b - y ∧ X' / y = 2 * (X / y) + 1 := by
  have h0 := Nat.div_add_mod X y
  have h1 : r < y := by rw [hr]; exact Nat.mod_lt _ hy
  rw [← hr] at h0
  have e : X' = (2 * r + b - y) + y * (2 * (X / y) + 1) := by
    rw [hX, Nat.mul_add, Nat.mul_one, Nat.mul_left_comm]; omega
  rw [e]
  exact ⟨by rw [Nat.add_mul_mod_self_left, Nat.mod_eq_of_lt (by omega)], by rw [Nat.add_mul_div_left _ _ hy, Nat.div_eq_of_lt (by omega), Nat.zero_add]⟩
theorem div_no {X y r b X' : Nat} (hy : 0 < y) (hX : X' = 2 * X + b) (hb : b < 2) (hr : r = X % y) (h : 2 * r + b < y) : X' % y = 2 * r + b ∧ X' / y = 2 * (X / y) := by
  have h0 := Nat.div_add_mod X y
  rw [← hr] at h0
  have e : X' = (2 * r + b) + y * (2 * (X / y)) := by
    rw [hX, Nat.mul_left_comm]; omega
  rw [e]
  exact ⟨by rw [Nat.add_mul_mod_self_left, Nat.mod_eq_of_lt h], by rw [Nat.add_mul_div_left _ _ hy, Nat.div_eq_of_lt h, Nat.zero_add]⟩
/-- A digit whose low bits are 0. -/
theorem low_zero {out : List Nat} {j q d : Nat} (ho : Ok W16 out) (hv : val W16 out = 2 ^ (j + 1) * q) (hd : out.getD (j / 16) 0 = d) : ∃ e, d = e * 2 ^ (j % 16 + 1) := by
  have h1 := val_split W16 out (j / 16)
  rw [val_drop_step, hd] at h1
  have h2 := val_take_lt' (by decide) ho (j / 16)
  generalize val W16 (out.take (j / 16)) = V at h1 h2
  generalize val W16 (out.drop (j / 16 + 1)) = R at h1
  have e1 : 2 ^ (j + 1) = W16 ^ (j / 16) * 2 ^ (j % 16 + 1) := by
    rw [show W16 = 2 ^ 16 from rfl, ← Nat.pow_mul, ← Nat.pow_add]; congr 1; omega
  have hm : j % 16 < 16 := Nat.mod_lt _ (by omega)
  have e2 : W16 = 2 ^ (j % 16 + 1) * 2 ^ (15 - j % 16) := by
    rw [← Nat.pow_add, show j % 16 + 1 + (15 - j % 16) = 16 from by omega]; rfl
  rw [hv, e1, Nat.mul_assoc] at h1
  generalize W16 ^ (j / 16) = P at h1 h2
  have hP : 0 < P := by omega
  have h3 : (P * (2 ^ (j % 16 + 1) * q)) / P = (V + P * (d + W16 * R)) / P := by rw [h1]
  rw [Nat.mul_div_cancel_left _ hP, Nat.add_mul_div_left _ _ hP, Nat.div_eq_of_lt h2, Nat.zero_add, e2] at h3
  generalize 2 ^ (15 - j % 16) = T at h3
  generalize 2 ^ (j % 16 + 1) = U at *
  refine ⟨q - T * R, ?_⟩
  rw [Nat.sub_mul, Nat.mul_comm q U, Nat.mul_right_comm, Nat.mul_comm T U]
  omega
theorem or_bit {d s e : Nat} (hd : d = e * 2 ^ (s + 1)) : d ||| 2 ^ s = d + 2 ^ s := by
  rw [hd, ← Nat.shiftLeft_eq, ← Nat.shiftLeft_add_eq_or_of_lt (by rw [Nat.pow_succ]; have := Nat.pow_pos (n := s) (show 0 < 2 by omega); omega)]
theorem val_set {out : List Nat} {k d e : Nat} (hk : k < out.length) (hd : out.getD k 0 = d) : val W16 (out.set k (d + e)) = val W16 out + W16 ^ k * e := by
  have h1 := val_split W16 out (k + 1)
  have h2 := val_split W16 (out.set k (d + e)) (k + 1)
  rw [val_take_succ, take_set_lt _ _ _ _ (Nat.le_refl _), getD_set_self _ _ _ hk, List.drop_set_of_lt (by omega)] at h2
  rw [val_take_succ, hd] at h1
  rw [h1, h2, Nat.mul_add]; omega
theorem set_bit {out : List Nat} {j q d : Nat} (hk : j / 16 < out.length) (hv : val W16 out = 2 ^ (j + 1) * q) (hd : out.getD (j / 16) 0 = d) : val W16 (out.set (j / 16) (d + 2 ^ (j % 16))) = 2 ^ j * (2 * q + 1) := by
  rw [val_set hk hd, hv, show W16 = 2 ^ 16 from rfl, ← Nat.pow_mul, ← Nat.pow_add, show 16 * (j / 16) + j % 16 = j from by omega, Nat.pow_succ, Nat.mul_add, Nat.mul_one, Nat.mul_assoc]
theorem bit_lt16 {d s e : Nat} (hs : s < 16) (hd : d < 65536) (h : d = e * 2 ^ (s + 1)) : d + 2 ^ s < 65536 := by
  have h1 : (65536 : Nat) = 2 ^ (s + 1) * 2 ^ (15 - s) := by rw [← Nat.pow_add, show s + 1 + (15 - s) = 16 from by omega]
  have h2 : e < 2 ^ (15 - s) := by
    rcases Nat.lt_or_ge e (2 ^ (15 - s)) with h3 | h3
    · exact h3
    · have := Nat.mul_le_mul_left (2 ^ (s + 1)) h3
      rw [← h1, Nat.mul_comm, ← h] at this
      omega
  have h3 : (e + 1) * 2 ^ (s + 1) ≤ 2 ^ (15 - s) * 2 ^ (s + 1) := Nat.mul_le_mul_right _ h2
  rw [Nat.mul_comm (2 ^ (15 - s)), ← h1, Nat.add_mul, ← h, Nat.one_mul, Nat.pow_succ] at h3
  have := Nat.pow_pos (n := s) (show 0 < 2 by omega)
  omega
theorem or_i64 (a b : Nat) (ha : a < 4294967296) (hb : b < 4294967296) : bits .or .i64 (a : Int) (b : Int) = ((a ||| b : Nat) : Int) := by
  have hx : a ||| b < 2 ^ 63 := Nat.lt_trans (Nat.or_lt_two_pow (n := 32) (by omega) (by omega)) (by decide)
  show IntKind.i64.wrap ((BitVec.ofInt 64 (a : Int) ||| BitVec.ofInt 64 (b : Int)).toNat : Int) = _
  have e1 : (BitVec.ofInt 64 (a : Int)).toNat = a := by rw [BitVec.ofInt_natCast, BitVec.toNat_ofNat]; omega
  have e2 : (BitVec.ofInt 64 (b : Int)).toNat = b := by rw [BitVec.ofInt_natCast, BitVec.toNat_ofNat]; omega
  rw [BitVec.toNat_or, e1, e2, IntKind.wrap_i64]
  omega
end Go.Proofs.YtdhgbnnopekfjaaGreatDoor
namespace Go.Proofs.YtdhgbnnopekfjaaGreatDoor
open Go.RowKit NumB
theorem len_pos16 {x n : Nat} (h : n = (digs W16 x).length) : 0 < n ↔ 0 < x := by
  subst h
  constructor
  · intro h
    rcases Nat.eq_zero_or_pos x with h4 | h4
    · subst h4; rw [digs_zero] at h; exact absurd h (by simp)
    · exact h4
  · intro h
    exact List.length_pos_iff.2 fun h4 => by have := (digs_nil W16_gt).1 h4; omega
end Go.Proofs.YtdhgbnnopekfjaaGreatDoor
namespace Go.Proofs.YtdhgbnnopekfjaaGreatDoor
open Go.RowKit NumB
set_option linter.unusedVariables false
set_option linter.unusedSimpArgs false

set_option maxRecDepth 100000 in
set_option maxHeartbeats 1600000 in
theorem rlen_any (x : Nat) (v : Value) (w : World) (h : Nat16 w v x) (hx : (digs W16 x).length ≤ 1000000) :
    Calls Tryz.prog 23 #[v] w fun e w' => e = .returned (.int .i64 (blen x : Int)) ∧ w = w' := by
  obtain ⟨A, c, rfl, hc, hm, hr⟩ := h
  unfold maxLen at hm
  have HT := Lib.hid (fun n t (hn : (digs W16 x).length = n + 1) (ht : (digs W16 x).getD n 0 = t) => blen_top hn ht)
  have HZ := Lib.hid (len_pos16 (x := x) rfl)
  have HO := Lib.hid (ok_digs W16_gt x)
  generalize digs W16 x = xs at *
  generalize hn : xs.length = n at *
  have HN := Lib.hid hn
  have HR := Lib.hid hr
  clear hn hr
  rcases Nat.eq_zero_or_pos n with h0 | h0
  · subst h0
    have HX0 : Hid (blen x = 0) := by
      have : ¬ 0 < x := fun h => absurd (HZ.out.2 h) (by omega)
      have e : x = 0 := by omega
      subst e; rfl
    have hb0 : decide ((0 : Int) < ((0 : Nat) : Int)) = false := rfl
    go_enter Tryz.func23, Tryz.ntmps23
    go_wp2
    go_ret
    rw [HX0.out]
    exact ⟨rfl, rfl⟩
  · obtain ⟨b, o, t, rfl, hb, hte, hcell⟩ := HR.out.at_ (i := n - 1) (by omega)
    have htb : t < 65536 := by rw [← hte]; exact HO.out.getD (by decide) _
    have HB : Hid (blen x = 16 * (n - 1) + blen t) := HT.out (n - 1) t (by omega) hte
    have hcast : ((n : Int) - 1) = ((n - 1 : Nat) : Int) := by omega
    have htl : blen t ≤ 16 := blen_le (by omega)
    generalize hn1 : n - 1 = n1 at *
    clear hte
    go_enter Tryz.func23, Tryz.ntmps23
    go_wp2
    go_loop [3, 4] (fun s3 s4 => ∃ (u : Nat) (r : Nat), s4 = .int .i64 (r : Int) ∧ s3 = .int .i64 (u : Int) ∧ r < 65536 ∧ Hid (u + blen r = blen x) ∧ u ≤ 16 * n1 + 16) (fun _ s4 => (intOf s4).toNat)
    case atStart => exact ⟨16 * n1, t, rfl, by go_num, htb, by unfold Hid; rw [HB.out], by omega⟩
    case round =>
      obtain ⟨u, r, rfl, rfl, hrb, HU, hu⟩ := hrel
      by_cases hr0 : 0 < r
      · have hst := blen_step hr0
        have HS := Lib.hid hst
        clear hst
        go_wp2
        go_round
        case rel => exact ⟨u + 1, r / 2, by go_num, by go_num, by omega, by have := HU.out; have := HS.out; unfold Hid; omega, by have := HU.out; have := HS.out; have := HB.out; omega⟩
        case measure => simp [intOf]; omega
      · obtain rfl : r = 0 := by omega
        go_wp2
        go_ret
        have := HU.out
        rw [blen_zero, Nat.add_zero] at this
        rw [← this]
        exact ⟨rfl, rfl⟩
end Go.Proofs.YtdhgbnnopekfjaaGreatDoor

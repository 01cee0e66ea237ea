/- number.ToInt, at any number. -/
import Derived.Test.YtdhgbnnopekfjaaDoorJo27
set_option linter.unusedVariables false
set_option linter.unusedSimpArgs false
namespace Go.Proofs.YtdhgbnnopekfjaaDoor
open Go.RowKit NumB
set_option linter.unusedVariables false
set_option linter.unusedSimpArgs false

/-- What ToInt answers. -/
def toIntS (a : LN) : Int × Int := if intErr a = 0 then (if a.neg then (if a.x ≤ 9223372036854775808 then (-(a.x : Int), 0) else (0, 3)) else (if a.x ≤ 9223372036854775807 then ((a.x : Int), 0) else (0, 3))) else (0, intErr a)
theorem intErr_zero {a : LN} : intErr a = 0 ↔ a.err = 0 ∧ a.y = 1 := by
  unfold intErr
  by_cases h : a.err = 0
  · by_cases h2 : a.y = 1
    · simp [h, h2]
    · simp [h, h2]
  · simp [h]
theorem intErr_bd (a : LN) : 0 ≤ intErr a ∧ intErr a ≤ 7 := by
  have h : 0 ≤ a.err ∧ a.err ≤ 3 := checkL_bd _ _ _
  unfold intErr
  split
  · split <;> omega
  · omega
theorem val_two {xs : List Nat} (h : xs.length ≤ 2) : val W32 xs = xs.getD 0 0 + 4294967296 * xs.getD 1 0 := by
  rcases xs with _ | ⟨a, _ | ⟨b, _ | ⟨c, l⟩⟩⟩
  · rfl
  · simp
  · simp [W32]
  · simp at h
theorem or_zero_u64 (p : Nat) (hp : p < 4294967296) : bits .or .u64 0 (p : Int) = (p : Int) := by
  have h := u64_or 0 (p : Int) (by omega) (by omega) (by omega) (by omega)
  rw [h]; simp

set_option maxRecDepth 100000 in
set_option maxHeartbeats 3200000 in
theorem toInt_S (a : LN) (v : Value) (w : World) (h : GV w v a) :
    Calls Tryd.prog 12 #[v] w fun e w' => e = .returned (.tuple #[.int .i64 (toIntS a).1, .int .i64 (toIntS a).2]) ∧ Below w.heap.size w w' := by
  have G := Lib.hid h
  obtain ⟨A, n, c, B, m, d, rfl, hq1, hq2⟩ := h.form
  obtain ⟨_, g1, g2, gok⟩ := h.parts
  have HI : Hid (∀ (W : World) (b cap : Nat) (t : TypeId), Blk W b t #[.bool a.neg, .slice A n c, .slice B m d] → GV W (.agg #[.bool a.neg, .slice A n c, .slice B m d]) a → Calls Tryd.prog 41 #[.slice (some ⟨b, 0, none⟩) 1 cap] W fun e w' => e = .returned (.int .i64 (intErr a)) ∧ Below W.heap.size W w') := fun W b cap t h1 h2 => integers_one a b cap _ _ W t h1 h2
  have HBK := Lib.hid (fun t u => blk2 w t u #[.bool a.neg, .slice A n c, .slice B m d] #[.bool a.neg, .slice A n c, .slice B m d])
  have hbd := intErr_bd a
  by_cases e0 : intErr a = 0
  · have HT : Hid (toIntS a = if a.neg then (if a.x ≤ 9223372036854775808 then (-(a.x : Int), 0) else (0, 3)) else (if a.x ≤ 9223372036854775807 then ((a.x : Int), 0) else (0, 3))) := by unfold Hid toIntS; rw [if_pos e0]
    obtain ⟨k1, k2, k3, k4, k5⟩ := LN.good gok (intErr_zero.1 e0).1
    have HNX : Hid (Sl .u32 w (.slice A n c) a.num) := g1
    have HD : Hid (digs W32 a.x = a.num) := k1
    have HOK : Hid (Ok W32 a.num) := gok.1
    have HN : Hid (n = a.num.length) := hq1
    have hnb : n ≤ 128 := by omega
    rw [e0] at HI
    generalize toIntS a = r at *
    have HX : Hid (a.x = val W32 a.num) := rfl
    generalize a.x = x at *
    generalize a.num = xs at *
    generalize a.neg = neg at *
    clear h g1 g2 gok k1 k2 k3 k4 k5 hbd e0 hq1 hq2
    go_enter Tryd.func12, Tryd.ntmps12
    go_wp2_with fail
    refine (HI.out _ _ _ _ (by exact (HBK.out _ _).2) (by exact G.out.to (below_two w _ _))).mono ?_
    rintro e w1 ⟨rfl, hb1⟩
    have HB1 : Hid (Below w.heap.size w w1) := (below_two w _ _).trans (hb1.mono (below_two w _ _).size)
    have hk := (HBK.out _ _).1.to hb1
    have c0 := hk.cell 0
    have c1 := hk.cell 1
    have c2 := hk.cell 2
    simp only [List.getElem?_toArray, List.getElem?_cons_zero, List.getElem?_cons_succ] at c0 c1 c2
    clear hk hb1 HI G HBK
    by_cases hn : n ≤ 2
    · have hnn : decide (2 < (n : Int)) = false := decide_eq_false (by omega)
      go_wp2_with fail
      go_loopg [21, 5, 6, 7] n (fun gk s21 s5 s6 s7 wr => ∃ j u : Nat, gk + j = n ∧ s21 = .int .i64 (j : Int) ∧ s5 = .int .u64 (u : Int) ∧ Hid (u = val W32 (xs.take j)) ∧ wr = w1)
      case atStart => exact ⟨0, 0, by omega, rfl, rfl, rfl, rfl⟩
      case round =>
        obtain ⟨j, u, hgj, rfl, rfl, HU, rfl⟩ := hrel
        by_cases hj : j < n
        · obtain ⟨b, o, p, rfl, hcell, hpb, HP⟩ : ∃ (b o p : Nat), A = some ⟨b, o, none⟩ ∧ wr.cell? ⟨b, o + j, none⟩ = some (.int .u32 (p : Int)) ∧ p < 4294967296 ∧ Hid (xs.getD j 0 = p) := by
            obtain ⟨A1, c1, he, _, _, hrd⟩ := HNX.out.to HB1.out
            simp only [Value.slice.injEq] at he
            obtain ⟨rfl, he2, rfl⟩ := he
            obtain ⟨b, o, p, rfl, _, hpe, hc⟩ := hrd.at_ (i := j) (by omega)
            exact ⟨b, o, p, rfl, hc, by rw [← hpe]; exact HOK.out.getD (by decide) _, hpe⟩
          have hj2 : j = 0 ∨ j = 1 := by omega
          rcases hj2 with rfl | rfl
          · obtain rfl : u = 0 := HU.out
            rw [Nat.add_zero] at hcell
            have hor := or_zero_u64 p hpb
            go_wp2
            go_roundg (gk - 1)
            case measure => omega
            case rel => exact ⟨1, p, by omega, by go_num, by go_num, by have := val_take_succ W32 xs 0; rw [HP.out] at this; unfold Hid; rw [this]; simp, rfl⟩
          · have hub : u < 4294967296 := by rw [HU.out]; have := val_take_lt' (B := W32) (by decide) HOK.out 1; unfold W32 at *; omega
            have hor := u64_or_shift' p u hpb hub
            have hw1 : IntKind.u64.wrap ((p : Int) * 4294967296) = (p : Int) * 4294967296 := by rw [IntKind.wrap_u64]; omega
            go_wp2
            go_roundg (gk - 1)
            case measure => omega
            case rel => exact ⟨2, p * 4294967296 + u, by omega, by go_num, by go_num, by have := val_take_succ W32 xs 1; rw [HP.out, ← HU.out] at this; unfold Hid; rw [this, Nat.pow_one]; unfold W32; omega, rfl⟩
        · obtain rfl : j = n := by omega
          have HUX : Hid (u = x) := by
            have := HU.out
            rw [List.take_of_length_le (by rw [← HN.out]; exact Nat.le_refl _)] at this
            unfold Hid; rw [this, HX.out]
          obtain rfl := HUX.out
          clear HUX
          have hxb : u < 18446744073709551616 := by
            have h1 := digs_lt (n := u) W32_gt
            rw [HD.out, ← HN.out] at h1
            have h2 : W32 ^ j ≤ W32 ^ 2 := Nat.pow_le_pow_right (by decide) hn
            exact Nat.lt_of_lt_of_le h1 h2
          cases neg with
          | false =>
            simp only [Bool.false_eq_true, if_false] at HT
            by_cases hx : u ≤ 9223372036854775807
            · rw [if_pos hx] at HT
              have hwr : IntKind.i64.wrap (u : Int) = (u : Int) := by rw [IntKind.wrap_i64]; omega
              go_wp2
              go_ret2
              rw [HT.out]
              exact ⟨rfl, HB1.out⟩
            · rw [if_neg hx] at HT
              go_wp2
              go_ret2
              rw [HT.out]
              exact ⟨rfl, HB1.out⟩
          | true =>
            simp only [if_true] at HT
            by_cases hx : u ≤ 9223372036854775808
            · rw [if_pos hx] at HT
              obtain ⟨m2, hm1, hm2⟩ : ∃ m2 : Nat, IntKind.u64.wrap (-(u : Int)) = (m2 : Int) ∧ IntKind.i64.wrap (m2 : Int) = -(u : Int) := ⟨(18446744073709551616 - u) % 18446744073709551616, by rw [IntKind.wrap_u64]; omega, by rw [IntKind.wrap_i64]; omega⟩
              go_wp2
              go_ret2
              rw [HT.out]
              exact ⟨rfl, HB1.out⟩
            · rw [if_neg hx] at HT
              go_wp2
              go_ret2
              rw [HT.out]
              exact ⟨rfl, HB1.out⟩
    · have hnn : decide (2 < (n : Int)) = true := decide_eq_true (by omega)
      have HXB : Hid (18446744073709551616 ≤ x) := by
        have h1 := (digs_len_gt (n := x) (k := 2) W32_gt).1 (by rw [HD.out, ← HN.out]; omega)
        exact h1
      have HR : Hid (r = (0, 3)) := by
        have := HXB.out
        unfold Hid
        rw [HT.out]
        split <;> rw [if_neg (by omega)]
      go_wp2
      go_ret2
      rw [HR.out]
      exact ⟨rfl, HB1.out⟩
  · have b0 : (intErr a != 0) = true := by rw [bne_iff_ne]; exact e0
    have HT : Hid (toIntS a = (0, intErr a)) := by unfold Hid toIntS; rw [if_neg e0]
    generalize toIntS a = r at *
    generalize intErr a = z at *
    clear h g1 g2 gok e0 hq1 hq2
    go_enter Tryd.func12, Tryd.ntmps12
    go_wp2_with fail
    refine (HI.out _ _ _ _ (by exact (HBK.out _ _).2) (by exact G.out.to (below_two w _ _))).mono ?_
    rintro e w1 ⟨rfl, hb1⟩
    have HB1 : Hid (Below w.heap.size w w1) := (below_two w _ _).trans (hb1.mono (below_two w _ _).size)
    clear hb1 HI G HBK
    go_wp2
    go_ret2
    rw [HT.out]
    exact ⟨rfl, HB1.out⟩
end Go.Proofs.YtdhgbnnopekfjaaDoor

/- fetterlockref1.Fault at lists without a last zero. And 2 more texts. -/
import Derived.Deep.RegionHeld3
import Derived.Test.YtkfnpcilanheiaaGreatJo6
import Derived.Test.YtkfnpcilanheiaaGreatJo8
import Derived.Test.YtkfnpcilanheiaaGreatJo11
import Derived.Test.YtkfnpcilanheiaaGreatJo13
set_option linter.unusedVariables false
set_option linter.unusedSimpArgs false
set_option maxRecDepth 100000
namespace Go.Proofs.YtkfnpcilanheiaaGreat
open Go.RowKit NumB
theorem digs_one16 : digs W16 1 = [1] := digs_eq W16_gt (Ok.cons (by decide) Ok.nil) (by simp [Top]) (by simp)
theorem one16 (w : World) : Nat16 (w.alloc (.cells #[.int .i64 1] 3)) (.slice (some ⟨w.heap.size, 0, none⟩) 1 1) 1 := by
  unfold Nat16
  rw [digs_one16]
  refine ⟨_, 1, rfl, by decide, by decide, rfl, fun _ => ⟨w.heap.size, 0, rfl, by simp, fun i hi => ?_⟩⟩
  obtain rfl : i = 0 := by simpa using hi
  rw [cell_of_row _ w.heap.size _ #[.int .i64 1] 3 (0, 0) (heap_alloc_new w _)]
  rfl
theorem checkN_gcd {neg : Bool} {x y : Nat} (hx : x ≠ 0) : checkN neg x y = if Nat.gcd x y = 1 then 0 else 2 := by
  unfold checkN
  rw [if_neg hx]
  by_cases h : Nat.gcd x y = 1
  · rw [if_pos h, if_pos (.inr (.inr h))]
  · rw [if_neg h, if_neg]
    rintro (rfl | rfl | h3)
    · exact h (Nat.gcd_one_right _)
    · exact h (Nat.gcd_one_left _)
    · exact h h3
theorem digs16_val_le {xs : List Nat} (ho : Ok W32 xs) (hl : xs.length ≤ 128) : (digs W16 (val W32 xs)).length ≤ 256 := by
  refine digs_len_le W16_gt (Nat.lt_of_lt_of_le (val_lt ho) ?_)
  have h : W32 = W16 ^ 2 := by decide
  rw [h, ← Nat.pow_mul]
  exact Nat.pow_le_pow_right (by decide) (by omega)
set_option maxHeartbeats 6400000 in
theorem fault_rest (neg : Bool) (xs ys : List Nat) (va vb : Value) (w : World) (ha : Sl .u32 w va xs) (hb : Sl .u32 w vb ys) (hox : Ok W32 xs) (hoy : Ok W32 ys) (hx : xs.length ≤ 128) (hy : ys.length ≤ 128) (hl1 : lastB xs = false) (hl2 : lastB ys = false) (hy0 : 0 < ys.length) :
    Calls Tryz.prog 21 #[.agg #[.bool neg, va, vb]] w fun e w' => e = .returned (.int .i64 (checkN neg (val W32 xs) (val W32 ys))) ∧ Below w.heap.size w w' := by
  have HA := Lib.hid ha
  have HB := Lib.hid hb
  obtain ⟨A, ca, rfl, hca, hma, hra⟩ := ha
  obtain ⟨A', cb, rfl, hcb, hmb, hrb⟩ := hb
  unfold maxLen at hma hmb
  have HO := Lib.hid (And.intro (And.intro hox hoy) (And.intro (Nat.le_trans hx (by omega : 128 ≤ 100000)) (Nat.le_trans hy (by omega : 128 ≤ 100000))))
  have HXP : Hid (val W32 xs = 0 ↔ xs.length = 0) := by
    constructor
    · intro h
      rcases Nat.eq_zero_or_pos xs.length with h0 | h0
      · exact h0
      · have := val_pos (B := W32) (by decide) (top_of_last hl1) (by intro e; rw [e] at h0; exact absurd h0 (by simp)); omega
    · intro h
      rw [List.eq_nil_of_length_eq_zero h]; rfl
  have HD := Lib.hid (And.intro (digs16_val_le hox hx) (digs16_val_le hoy hy))
  clear hox hoy
  generalize hn : xs.length = n at *
  generalize hm : ys.length = m at *
  have HN := Lib.hid (And.intro hn hm)
  obtain ⟨k, rfl⟩ : ∃ k, m = k + 1 := ⟨m - 1, by omega⟩
  obtain ⟨b, o, p, rfl, hbb, hpe, hcp⟩ := hrb.at_ (i := k) (by omega)
  rw [lastB_pos hm, hpe] at hl2
  have hp0 : ((p : Int) == 0) = false := beq_eq_false_iff_ne.2 (by have := of_decide_eq_false hl2; omega)
  have hk : ((k + 1 : Nat) : Int) - 1 = (k : Int) := by omega
  have hk1 : (k : Int) < ((k + 1 : Nat) : Int) := by omega
  have hk2 : (((k + 1 : Nat) : Int) == 0) = false := beq_eq_false_iff_ne.2 (by omega)
  clear hrb hm hl2 hpe
  have HSA : ∀ o : Obj, Hid (Sl .u32 (w.alloc o).drew (.slice A n ca) xs) := fun o => HA.out.to ((Below.refl _ _).alloc (Nat.le_refl _) o).drew
  have HSB : ∀ o' : Obj, Hid (Sl .u32 (w.alloc o').drew (.slice (some ⟨b, o, none⟩) (k + 1) cb) ys) := fun o' => HB.out.to ((Below.refl _ _).alloc (Nat.le_refl _) o').drew
  clear HA HB
  have hcase : n = 0 ∨ ∃ j b2 o2 z : Nat, n = j + 1 ∧ A = some ⟨b2, o2, none⟩ ∧ w.cell? ⟨b2, o2 + j, none⟩ = some (.int .u32 (z : Int)) ∧ ((z : Int) == 0) = false ∧ b2 < w.heap.size := by
    rcases Nat.eq_zero_or_pos n with h0 | h0
    · exact .inl h0
    · obtain ⟨j, rfl⟩ : ∃ j, n = j + 1 := ⟨n - 1, by omega⟩
      obtain ⟨b2, o2, q, rfl, hbb2, hqe, hcq⟩ := hra.at_ (i := j) (by omega)
      rw [lastB_pos hn, hqe] at hl1
      exact .inr ⟨j, b2, o2, q, rfl, rfl, hcq, beq_eq_false_iff_ne.2 (by have := of_decide_eq_false hl1; omega), hbb2⟩
  clear hra hn hl1
  have HXP2 : Hid (val W32 xs = 0 ↔ n = 0) := HXP.out
  clear HXP
  generalize hvx : val W32 xs = x at *
  generalize hvy : val W32 ys = y at *
  have HV := Lib.hid (And.intro hvx hvy)
  clear hvx hvy
  rcases hcase with hn0 | ⟨j, b2, o2, z, rfl, rfl, hcz, hz0, hb2⟩
  · have hx0 : x = 0 := HXP2.out.2 hn0
    subst hn0 hx0
    clear HXP2
    have hk : ∀ W1 W' : World, Below W1.heap.size W1 W' → (W1.cell? ⟨w.heap.size, 0, none⟩ = some (.bool neg) ∧ W1.cell? ⟨w.heap.size, 1, none⟩ = some (.slice A 0 ca) ∧ W1.cell? ⟨w.heap.size, 2, none⟩ = some (.slice (some ⟨b, o, none⟩) (k + 1) cb) ∧ w.heap.size < W1.heap.size) → (W'.cell? ⟨w.heap.size, 0, none⟩ = some (.bool neg) ∧ W'.cell? ⟨w.heap.size, 1, none⟩ = some (.slice A 0 ca) ∧ W'.cell? ⟨w.heap.size, 2, none⟩ = some (.slice (some ⟨b, o, none⟩) (k + 1) cb) ∧ w.heap.size < W'.heap.size) :=
      fun W1 W' h1 ⟨h3, h4, h5, h2⟩ => ⟨(h1.cell (p := ⟨w.heap.size, 0, none⟩) h2).trans h3, (h1.cell (p := ⟨w.heap.size, 1, none⟩) h2).trans h4, (h1.cell (p := ⟨w.heap.size, 2, none⟩) h2).trans h5, Nat.lt_of_lt_of_le h2 h1.size⟩
    have HK := Lib.hid hk
    clear hk
    go_enter Tryz.func21, Tryz.ntmps21
    go_wp2
    go_region_held3 (fun w' => w'.cell? ⟨w.heap.size, 0, none⟩ = some (.bool neg) ∧ w'.cell? ⟨w.heap.size, 1, none⟩ = some (.slice A 0 ca) ∧ w'.cell? ⟨w.heap.size, 2, none⟩ = some (.slice (some ⟨b, o, none⟩) (k + 1) cb) ∧ w.heap.size < w'.heap.size)
      (first | go_keep | (refine HK.out _ _ (by assumption) ?_; go_keep))
      (first
        | (go_at_call 59; ((with_reducible refine (natOf_sl xs (.slice A 0 ca) _ (by exact (HSA _).out) HO.out.1.1 (by rw [HN.out.1]; exact HO.out.2.1)).mono ?_)); rintro e w1 ⟨v1, rfl, hn1, hb1⟩)
        | (go_at_call 59; ((with_reducible refine (natOf_sl ys (.slice (some ⟨b, o, none⟩) (k + 1) cb) _ (by exact (HSB _).out.to hb1) HO.out.1.2 (by rw [HN.out.2]; exact HO.out.2.2)).mono ?_)); rintro e w2 ⟨v2, rfl, hn2, hb2⟩))
    have hcn : w2.cell? ⟨w.heap.size, 0, none⟩ = some (.bool neg) := (hb2.cell (p := ⟨w.heap.size, 0, none⟩) (Nat.lt_of_lt_of_le (by simp) hb1.size)).trans ((hb1.cell (p := ⟨w.heap.size, 0, none⟩) (by simp)).trans (by simp))
    have HBW : Hid (Below w.heap.size w w2) := (((Below.refl _ _).alloc (Nat.le_refl _) _).drew.trans (hb1.mono (by simp))).trans (hb2.mono (Nat.le_trans (by simp) hb1.size))
    have HN1 := Lib.hid (hn1.to hb2)
    have HN2 := Lib.hid hn2
    rw [HV.out.1] at HN1
    rw [HV.out.2] at HN2
    clear hn1 hn2 hb1 hb2 HK HSA HSB hcp
    obtain ⟨A1, n1, c1, rfl, hl1, hx1⟩ := nat16_len HN1.out (Nat.le_trans HD.out.1 (by omega))
    obtain rfl : n1 = 0 := by omega
    clear hx1
    cases neg with
    | true =>
      have E : Hid (checkN true 0 y = 2) := by unfold Hid checkN; rw [if_pos rfl, if_neg (by simp)]
      go_wp2
      go_ret
      rw [E.out]
      exact ⟨rfl, HBW.out⟩
    | false =>
      have E : Hid (checkN false 0 y = if y = 1 then 0 else 2) := by unfold Hid checkN; rw [if_pos rfl]; simp
      by_cases hy1 : y = 1
      · rw [if_pos hy1] at E
        have HC1 : Hid (cmpI y 1 = 0) := cmpI_eq hy1
        have HC : Hid (cmpI (Nat.gcd 0 y) 1 = 0) := by unfold Hid; rw [Nat.gcd_zero_left]; exact cmpI_eq hy1
        have HG : Hid ((digs W16 (Nat.gcd 0 y)).length ≤ 1000000) := by unfold Hid; rw [Nat.gcd_zero_left]; exact Nat.le_trans HD.out.2 (by omega)
        clear hy1
        go_wp2_with fail
        refine (rcmp_any y 1 _ _ _ (by exact HN2.out.to ((Below.refl _ _).alloc (Nat.le_refl _) _)) (by exact one16 w2) (Nat.le_trans HD.out.2 (by omega)) (by rw [digs_one16]; decide)).mono ?_
        rintro e w3 ⟨rfl, rfl⟩
        rw [HC1.out]
        have HN1' := Lib.hid (HN1.out.to ((Below.refl _ w2).alloc (Nat.le_refl _) (.cells #[.int .i64 1] 3)))
        have HN2' := Lib.hid (HN2.out.to ((Below.refl _ w2).alloc (Nat.le_refl _) (.cells #[.int .i64 1] 3)))
        have HBW' := Lib.hid (HBW.out.alloc HBW.out.size (.cells #[.int .i64 1] 3))
        clear HN1 HN2 HBW HC1
        generalize w2.alloc (.cells #[.int .i64 1] 3) = w2' at *
        go_wp2_with fail
        refine (rgcd_any 0 y _ _ _ (by exact HN1'.out) (by exact HN2'.out) (Nat.le_trans HD.out.1 (by omega)) (Nat.le_trans HD.out.2 (by omega))).mono ?_
        rintro e w3 ⟨v3, rfl, hn3, hb3⟩
        have HN3 := Lib.hid (And.intro hn3 hb3)
        clear hn3 hb3
        go_wp2_with fail
        refine (rcmp_any (Nat.gcd 0 y) 1 _ _ _ (by exact HN3.out.1.to ((Below.refl _ _).alloc (Nat.le_refl _) _)) (by exact one16 w3) HG.out (by rw [digs_one16]; decide)).mono ?_
        rintro e w4 ⟨rfl, rfl⟩
        rw [HC.out]
        go_wp2
        go_ret
        rw [E.out]
        exact ⟨rfl, (HBW'.out.trans (HN3.out.2.mono HBW'.out.size)).alloc (Nat.le_trans HBW'.out.size HN3.out.2.size) _⟩
      · rw [if_neg hy1] at E
        have hc : (cmpI y 1 != 0) = true := by rw [bne_iff_ne, Ne, cmpI_zero]; exact hy1
        generalize hcc : cmpI y 1 = c at *
        have HC1 := Lib.hid hcc
        clear hy1 hcc
        go_wp2_with fail
        refine (rcmp_any y 1 _ _ _ (by exact HN2.out.to ((Below.refl _ _).alloc (Nat.le_refl _) _)) (by exact one16 w2) (Nat.le_trans HD.out.2 (by omega)) (by rw [digs_one16]; decide)).mono ?_
        rintro e w3 ⟨rfl, rfl⟩
        rw [HC1.out]
        go_wp2
        go_ret
        rw [E.out]
        exact ⟨rfl, HBW.out.alloc HBW.out.size _⟩
  · have HX0 : Hid (x ≠ 0) := by intro h; have := HXP2.out.1 h; omega
    clear HXP2
    have hk : ∀ W1 W' : World, Below W1.heap.size W1 W' → (W1.cell? ⟨w.heap.size, 0, none⟩ = some (.bool neg) ∧ W1.cell? ⟨w.heap.size, 1, none⟩ = some (.slice (some ⟨b2, o2, none⟩) (j + 1) ca) ∧ W1.cell? ⟨w.heap.size, 2, none⟩ = some (.slice (some ⟨b, o, none⟩) (k + 1) cb) ∧ w.heap.size < W1.heap.size) → (W'.cell? ⟨w.heap.size, 0, none⟩ = some (.bool neg) ∧ W'.cell? ⟨w.heap.size, 1, none⟩ = some (.slice (some ⟨b2, o2, none⟩) (j + 1) ca) ∧ W'.cell? ⟨w.heap.size, 2, none⟩ = some (.slice (some ⟨b, o, none⟩) (k + 1) cb) ∧ w.heap.size < W'.heap.size) :=
      fun W1 W' h1 ⟨h3, h4, h5, h2⟩ => ⟨(h1.cell (p := ⟨w.heap.size, 0, none⟩) h2).trans h3, (h1.cell (p := ⟨w.heap.size, 1, none⟩) h2).trans h4, (h1.cell (p := ⟨w.heap.size, 2, none⟩) h2).trans h5, Nat.lt_of_lt_of_le h2 h1.size⟩
    have HK := Lib.hid hk
    clear hk
    go_enter Tryz.func21, Tryz.ntmps21
    go_wp2
    go_region_held3 (fun w' => w'.cell? ⟨w.heap.size, 0, none⟩ = some (.bool neg) ∧ w'.cell? ⟨w.heap.size, 1, none⟩ = some (.slice (some ⟨b2, o2, none⟩) (j + 1) ca) ∧ w'.cell? ⟨w.heap.size, 2, none⟩ = some (.slice (some ⟨b, o, none⟩) (k + 1) cb) ∧ w.heap.size < w'.heap.size)
      (first | go_keep | (refine HK.out _ _ (by assumption) ?_; go_keep))
      (first
        | (go_at_call 59; ((with_reducible refine (natOf_sl xs (.slice (some ⟨b2, o2, none⟩) (j + 1) ca) _ (by exact (HSA _).out) HO.out.1.1 (by rw [HN.out.1]; exact HO.out.2.1)).mono ?_)); rintro e w1 ⟨v1, rfl, hn1, hb1⟩)
        | (go_at_call 59; ((with_reducible refine (natOf_sl ys (.slice (some ⟨b, o, none⟩) (k + 1) cb) _ (by exact (HSB _).out.to hb1) HO.out.1.2 (by rw [HN.out.2]; exact HO.out.2.2)).mono ?_)); rintro e w2 ⟨v2, rfl, hn2, hb2⟩))
    have hcn : w2.cell? ⟨w.heap.size, 0, none⟩ = some (.bool neg) := (hb2.cell (p := ⟨w.heap.size, 0, none⟩) (Nat.lt_of_lt_of_le (by simp) hb1.size)).trans ((hb1.cell (p := ⟨w.heap.size, 0, none⟩) (by simp)).trans (by simp))
    have HBW : Hid (Below w.heap.size w w2) := (((Below.refl _ _).alloc (Nat.le_refl _) _).drew.trans (hb1.mono (by simp))).trans (hb2.mono (Nat.le_trans (by simp) hb1.size))
    have HN1 := Lib.hid (hn1.to hb2)
    have HN2 := Lib.hid hn2
    rw [HV.out.1] at HN1
    rw [HV.out.2] at HN2
    clear hn1 hn2 hb1 hb2 HK HSA HSB hcp
    obtain ⟨A1, n1, c1, rfl, hl1, hx1⟩ := nat16_len HN1.out (Nat.le_trans HD.out.1 (by omega))
    have hn1 : ((n1 : Int) == 0) = false := beq_eq_false_iff_ne.2 (by have := HX0.out; omega)
    clear hx1
    have E0 : Hid (checkN neg x y = if Nat.gcd x y = 1 then 0 else 2) := checkN_gcd HX0.out
    have HG : Hid ((digs W16 (Nat.gcd x y)).length ≤ 1000000) := Nat.le_trans (digs_len_mono W16_gt (Nat.gcd_le_left _ (Nat.pos_of_ne_zero HX0.out))) (Nat.le_trans HD.out.1 (by omega))
    by_cases hg : Nat.gcd x y = 1
    · have E : Hid (checkN neg x y = 0) := by unfold Hid; rw [E0.out, if_pos hg]
      have HC : Hid (cmpI (Nat.gcd x y) 1 = 0) := cmpI_eq hg
      clear hg E0
      go_wp2_with fail
      refine (rgcd_any x y _ _ _ (by exact HN1.out) (by exact HN2.out) (Nat.le_trans HD.out.1 (by omega)) (Nat.le_trans HD.out.2 (by omega))).mono ?_
      rintro e w3 ⟨v3, rfl, hn3, hb3⟩
      have HN3 := Lib.hid (And.intro hn3 hb3)
      clear hn3 hb3
      go_wp2_with fail
      refine (rcmp_any (Nat.gcd x y) 1 _ _ _ (by exact HN3.out.1.to ((Below.refl _ _).alloc (Nat.le_refl _) _)) (by exact one16 w3) HG.out (by rw [digs_one16]; decide)).mono ?_
      rintro e w4 ⟨rfl, rfl⟩
      rw [HC.out]
      go_wp2
      go_ret
      rw [E.out]
      exact ⟨rfl, (HBW.out.trans (HN3.out.2.mono HBW.out.size)).alloc (Nat.le_trans HBW.out.size HN3.out.2.size) _⟩
    · have E : Hid (checkN neg x y = 2) := by unfold Hid; rw [E0.out, if_neg hg]
      have hc : (cmpI (Nat.gcd x y) 1 != 0) = true := by rw [bne_iff_ne, Ne, cmpI_zero]; exact hg
      generalize hcc : cmpI (Nat.gcd x y) 1 = c at *
      have HC := Lib.hid hcc
      clear hg E0 hcc
      go_wp2_with fail
      refine (rgcd_any x y _ _ _ (by exact HN1.out) (by exact HN2.out) (Nat.le_trans HD.out.1 (by omega)) (Nat.le_trans HD.out.2 (by omega))).mono ?_
      rintro e w3 ⟨v3, rfl, hn3, hb3⟩
      have HN3 := Lib.hid (And.intro hn3 hb3)
      clear hn3 hb3
      go_wp2_with fail
      refine (rcmp_any (Nat.gcd x y) 1 _ _ _ (by exact HN3.out.1.to ((Below.refl _ _).alloc (Nat.le_refl _) _)) (by exact one16 w3) HG.out (by rw [digs_one16]; decide)).mono ?_
      rintro e w4 ⟨rfl, rfl⟩
      rw [HC.out]
      go_wp2
      go_ret
      rw [E.out]
      exact ⟨rfl, (HBW.out.trans (HN3.out.2.mono HBW.out.size)).alloc (Nat.le_trans HBW.out.size HN3.out.2.size) _⟩
theorem fault_any (neg : Bool) (xs ys : List Nat) (va vb : Value) (w : World) (ha : Sl .u32 w va xs) (hb : Sl .u32 w vb ys) (hox : Ok W32 xs) (hoy : Ok W32 ys) :
    Calls Tryz.prog 21 #[.agg #[.bool neg, va, vb]] w fun e w' => e = .returned (.int .i64 (checkL neg xs ys)) ∧ Below w.heap.size w w' := by
  unfold checkL
  by_cases h1 : 128 < xs.length ∨ 128 < ys.length
  · rw [if_pos h1]; exact fault_big neg xs ys va vb w ha hb h1
  rw [if_neg h1]
  by_cases h2 : lastB xs = true ∨ lastB ys = true ∨ ys.length = 0
  · rw [if_pos h2]; exact fault_last neg xs ys va vb w ha hb (by omega) (by omega) h2
  rw [if_neg h2]
  have hlx : lastB xs = false := by cases h : lastB xs with | false => rfl | true => exact absurd (.inl h) h2
  have hly : lastB ys = false := by cases h : lastB ys with | false => rfl | true => exact absurd (.inr (.inl h)) h2
  exact fault_rest neg xs ys va vb w ha hb hox hoy (by omega) (by omega) hlx hly (Nat.pos_of_ne_zero fun h => h2 (.inr (.inr h)))
theorem noNumber_any (ng : Bool) (A B : Option Addr) (l1 l2 q1 q2 : Nat) (w : World) (h1 : l1 ≤ 9223372036854775807) (h2 : l2 ≤ 9223372036854775807) :
    Calls Tryz.prog 126 #[.agg #[.bool ng, .slice A l1 q1, .slice B l2 q2]] w fun e w' => e = .returned (.bool (zeroB ng l1 l2)) ∧ Below w.heap.size w w' := by
  have HZ1 : Hid (ng = true → zeroB ng l1 l2 = false) := fun h => by subst h; rfl
  have HZ2 : Hid (ng = false → l1 = 0 → l2 = 0 → zeroB ng l1 l2 = true) := fun h a b => by subst h a b; rfl
  have HZ3 : Hid (l1 ≠ 0 ∨ l2 ≠ 0 → zeroB ng l1 l2 = false) := fun h => by unfold zeroB; rw [decide_eq_false (by omega)]; simp
  generalize zeroB ng l1 l2 = z at *
  cases ng with
  | true =>
    obtain rfl := HZ1.out rfl
    go_enter Tryz.func126, Tryz.ntmps126
    go_wp2_with fail
    go_ret
    exact ⟨rfl, below_one w _⟩
  | false =>
    by_cases a : l1 = 0
    · subst a
      by_cases b : l2 = 0
      · subst b
        obtain rfl := HZ2.out rfl rfl rfl
        go_enter Tryz.func126, Tryz.ntmps126
        go_wp2_with fail
        go_ret
        exact ⟨rfl, below_one w _⟩
      · obtain rfl := HZ3.out (.inr b)
        have hb : ((l2 : Int) == 0) = false := beq_eq_false_iff_ne.2 (by omega)
        go_enter Tryz.func126, Tryz.ntmps126
        go_wp2_with fail
        go_ret
        exact ⟨rfl, below_one w _⟩
    · obtain rfl := HZ3.out (.inl a)
      have hb : ((l1 : Int) == 0) = false := beq_eq_false_iff_ne.2 (by omega)
      go_enter Tryz.func126, Tryz.ntmps126
      go_wp2_with fail
      go_ret
      exact ⟨rfl, below_one w _⟩
set_option maxHeartbeats 3200000 in
theorem sized_any {w : World} {t : Tm} {cs : List Value} (h : TC w t cs) : ∀ (W : World) (n0 : Nat), Below w.heap.size w W → n0 < 1000000 →
    Calls Tryz.prog 124 #[.agg cs.toArray, .int .i64 (n0 : Int)] W fun e W' => e = .returned (.int .i64 ((min (n0 + t.count) 1000000 : Nat) : Int)) ∧ Below W.heap.size W W' := by
  induction h with
  | mk k v s n args A B Ar cap cs hk hv hs hA hB hn hcap hm hr ha ih =>
    intro W n0 hW hn0
    have HR := Lib.hid hr
    have HA := Lib.hid ha
    have IH := Lib.hid ih
    have HCT : Hid ((Tm.mk k v s n args).count = 1 + countL args) := rfl
    unfold maxLen at hm
    have HWB := Lib.hid hW
    generalize (Tm.mk k v s n args).count = ct at *
    generalize n.neg = ng at *
    obtain ⟨A1, q1, rfl, _⟩ := hA
    obtain ⟨B1, q2, rfl, _⟩ := hB
    generalize n.num.length = m1 at *
    generalize n.den.length = m2 at *
    clear hr ha ih hn hk hv hs hW
    obtain ⟨l, hl⟩ : ∃ l, args.length = l := ⟨_, rfl⟩
    rw [hl] at hcap ⊢
    have HL := Lib.hid hl
    clear hl
    have HBA := Lib.hid (below_one W (.cells #[.int .i64 k, .int .i64 v, .string s, .bool ng, .slice A1 m1 q1, .slice B1 m2 q2, .slice Ar l cap] 27))
    go_enter Tryz.func124, Tryz.ntmps124
    go_wp2_with fail
    go_loopg [1, 12] l (fun gk s1 s12 wr => ∃ j c : Nat, gk + j = l ∧ s12 = .int .i64 (j : Int) ∧ s1 = .int .i64 (c : Int) ∧ c ≤ 1000000 ∧ Hid (c = min (n0 + 1 + countL (args.take j)) 1000000) ∧ Hid (Below W.heap.size W wr))
    case atStart => exact ⟨0, n0 + 1, by omega, rfl, rfl, by omega, by unfold Hid; rw [List.take_zero]; simp only [countL]; omega, HBA.out⟩
    case round =>
      obtain ⟨j, c, hgj, rfl, rfl, hcm, HC, HB⟩ := hrel
      by_cases hj : j < l
      · have hja : j < args.length := by rw [HL.out]; exact hj
        have HBW := HWB.out.trans (HB.out.mono HWB.out.size)
        obtain ⟨b, o, k', v', s', ng', A2, n2, c2, B2, m3, d2, Xr, xl, xc, hAr, hcs, hlt, e0, e1, e2, e3, e4, e5, e6⟩ := arg_cells HR.out HA.out HBW hja
        subst hAr
        by_cases hc : (1000000 : Int) ≤ (c : Int)
        · have HCM := Lib.hid hcm
          clear hcm
          go_wp2_with fail
          go_ret
          have hcm := HCM.out
          have h1 := countL_le args j
          have h2 := HC.out
          have h3 := HCT.out
          refine ⟨?_, HB.out.alloc HB.out.size _⟩
          have e : min (n0 + ct) 1000000 = 1000000 := by omega
          rw [e]; rfl
        ·
          have HCALL : Hid (∀ W', Below wr.heap.size wr W' → Calls Tryz.prog 124 #[.agg #[.int .i64 k', .int .i64 v', .string s', .bool ng', .slice A2 n2 c2, .slice B2 m3 d2, .slice Xr xl xc], .int .i64 (c : Int)] W' fun e w' => e = .returned (.int .i64 ((min (c + (args[j]).count) 1000000 : Nat) : Int)) ∧ Below W'.heap.size W' w') := fun W' hb => by
            have := IH.out j hja W' c (HBW.trans (hb.mono HBW.size)) (by omega)
            rw [hcs] at this
            exact this
          go_wp2_with fail
          refine (HCALL.out _ (by exact below_one _ _)).mono ?_
          rintro e w3 ⟨rfl, hb⟩
          have HB3 := Lib.hid (HB.out.trans (((below_one wr (.cells #[.int .i64 k', .int .i64 v', .string s', .bool ng', .slice A2 n2 c2, .slice B2 m3 d2, .slice Xr xl xc] 27)).trans (hb.mono (below_one wr _).size)).mono HB.out.size))
          have h1 := countL_take args hja
          generalize (args[j]).count = cj at *
          have h2 := HC.out
          obtain ⟨z, hz, HZ⟩ : ∃ z : Nat, (min (c + cj) 1000000 : Nat) = z ∧ Hid (z = min (n0 + 1 + countL (args.take (j + 1))) 1000000) ∧ z ≤ 1000000 := ⟨_, rfl, by show _ = _; rw [h1]; omega, by omega⟩
          have hzb := HZ.2
          have HZ := HZ.1
          rw [hz]
          clear hz h1 h2 hb e0 e1 e2 e3 e4 e5 e6 HCALL
          go_wp2_with fail
          go_roundg (gk - 1)
          case measure => omega
          case rel => exact ⟨j + 1, z, by omega, by go_num, rfl, hzb, HZ, HB3.out⟩
      · obtain rfl : j = l := by omega
        have h2 := HC.out
        rw [List.take_of_length_le (by rw [HL.out]; exact Nat.le_refl _), Nat.add_assoc, ← HCT.out] at h2
        subst h2
        go_wp2_with fail
        go_ret
        exact ⟨rfl, HB.out⟩
end Go.Proofs.YtkfnpcilanheiaaGreat

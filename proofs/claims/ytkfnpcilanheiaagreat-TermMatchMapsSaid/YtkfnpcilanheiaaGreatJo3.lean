/- nat.Shr: a shift to the right, and whether it is exact. Conditions: at most 100000 limbs and bits. And 1 more texts. -/
import Derived.Deep.RegionHeld3
import Derived.Test.YtkfnpcilanheiaaGreatJo1
import Derived.Test.YtkfnpcilanheiaaGreatJo2
set_option linter.unusedVariables false
set_option linter.unusedSimpArgs false
set_option maxRecDepth 100000
namespace Go.Proofs.YtkfnpcilanheiaaGreat
open Go.RowKit NumB
theorem shr_digit (y0 y1 Z s : Nat) (hs : s < 32) : ((y0 + 4294967296 * y1) / 2 ^ s) % 4294967296 = ((y0 + 4294967296 * (y1 + 4294967296 * Z)) / 2 ^ s) % 4294967296 := by
  have e : (4294967296 : Nat) = 2 ^ s * 2 ^ (32 - s) := by rw [← Nat.pow_add, Nat.add_sub_cancel' (by omega)]
  have e2 : y0 + 4294967296 * (y1 + 4294967296 * Z) = (y0 + 4294967296 * y1) + 2 ^ s * (2 ^ (32 - s) * Z * 4294967296) := by
    rw [Nat.mul_add, ← Nat.add_assoc]
    congr 1
    rw [← Nat.mul_assoc (2 ^ s), ← Nat.mul_assoc (2 ^ s), ← e, Nat.mul_comm 4294967296 (4294967296 * Z)]
  rw [e2, Nat.add_mul_div_left _ _ (Nat.pow_pos (by omega)), Nat.add_mul_mod_self_right]
theorem shr_step (V P Y D S W y Y' : Nat) (hW : 0 < W) (hY : Y = y + W * Y') (hy : y < W) (hv : V + P * (Y / S) = D) : (V + P * (Y / S % W)) + (P * W) * (Y' / S) = D := by
  have e : Y' / S = Y / S / W := by
    rw [Nat.div_div_eq_div_mul, Nat.mul_comm S W, ← Nat.div_div_eq_div_mul, hY, Nat.add_mul_div_left _ _ hW, Nat.div_eq_of_lt hy, Nat.zero_add]
  rw [e, ← hv, Nat.mul_assoc, Nat.add_assoc, ← Nat.mul_add, Nat.mod_add_div]
theorem exact_iff (x T Wk a r s W : Nat) (hT : T < Wk) (hs : ∃ q, W = 2 ^ s * q) (hx : x = T + Wk * (a + W * r)) : x % (Wk * 2 ^ s) = 0 ↔ T = 0 ∧ a % 2 ^ s = 0 := by
  have h1 : x % Wk = T := by rw [hx, Nat.add_mul_mod_self_left, Nat.mod_eq_of_lt hT]
  have h2 : x / Wk = a + W * r := by rw [hx, Nat.add_mul_div_left _ _ (by omega), Nat.div_eq_of_lt hT, Nat.zero_add]
  obtain ⟨q, rfl⟩ := hs
  have h3 : (a + 2 ^ s * q * r) % 2 ^ s = a % 2 ^ s := by rw [Nat.mul_assoc, Nat.add_mul_mod_self_left]
  rw [Nat.mod_mul, h1, h2, h3]
  constructor
  · intro h
    have h4 : T = 0 := by omega
    refine ⟨h4, ?_⟩
    have h5 : Wk * (a % 2 ^ s) = 0 := by omega
    rcases Nat.mul_eq_zero.1 h5 with h6 | h6
    · omega
    · exact h6
  · rintro ⟨h4, h5⟩
    rw [h4, h5]; simp
theorem and_low (a s : Nat) : a &&& (2 ^ s - 1) = a % 2 ^ s := Nat.and_two_pow_sub_one_eq_mod a s
def exactB (x n : Nat) : Bool := decide (x % 2 ^ n = 0)
theorem trim_sl (xs : List Nat) (v : Value) (w : World) (h : Sl .u32 w v xs) (ho : Ok W32 xs) :
    Calls Tryz.prog 269 #[v] w fun e w' => ∃ v', e = .returned v' ∧ Nat32 w v' (val W32 xs) ∧ w = w' := by
  obtain ⟨A, c, rfl, hc, hm, hr⟩ := h
  refine (trim_any xs A _ c w _ hr ho hc hm).mono ?_
  rintro e w' ⟨m, rfl, hm', ht, rfl⟩
  exact ⟨_, rfl, Sl.of_rd hr hm' hc hm ht, rfl⟩
theorem exactB_eq {x k s p n l : Nat} {xs : List Nat} (hx : val W32 xs = x) (ho : Ok W32 xs) (hl : xs.length = l) (hk : k < l) (hs : s < 32) (hp : xs.getD k 0 = p) (hn : n = 32 * k + s) :
    exactB x n = (decide (val W32 (xs.take k) = 0) && decide (p % 2 ^ s = 0)) := by
  have h := exact_iff x (val W32 (xs.take k)) (W32 ^ k) p (val W32 (xs.drop (k + 1))) s W32 (val_take_lt ho (by omega)) ⟨2 ^ (32 - s), by rw [← Nat.pow_add, Nat.add_sub_cancel' (by omega)]; rfl⟩ (by rw [← hx, val_split W32 xs k, val_drop_step W32 xs k, hp])
  have e : W32 ^ k * 2 ^ s = 2 ^ n := by rw [hn, Nat.pow_add, Nat.pow_mul]; rfl
  rw [e] at h
  unfold exactB
  rw [← Bool.decide_and]
  exact decide_eq_decide.2 h
theorem shr_low_and (p s : Nat) (hp : p < 4294967296) (hs : s < 32) : bits .and .u32 (p : Int) (2 ^ s - 1) = ((p % 2 ^ s : Nat) : Int) := by
  have h1 : (1 : Nat) ≤ 2 ^ s := Nat.one_le_two_pow
  have h2 : (2 : Nat) ^ s ≤ 2 ^ 31 := Nat.pow_le_pow_right (by omega) (by omega)
  have e : ((2 : Int) ^ s - 1) = ((2 ^ s - 1 : Nat) : Int) := by rw [← pow32]; omega
  rw [e]
  have h := u32_and (p : Int) ((2 ^ s - 1 : Nat) : Int) (by omega) (by omega) (by omega) (by omega)
  rw [Int.toNat_natCast, Int.toNat_natCast, and_low] at h
  exact h
theorem shr_cell (p q s : Nat) : ((q : Int) * 4294967296 + p) / 2 ^ s % 4294967296 = (((p + 4294967296 * q) / 2 ^ s % 4294967296 : Nat) : Int) := by
  have e : (q : Int) * 4294967296 + p = ((p + 4294967296 * q : Nat) : Int) := by omega
  rw [e, ← pow32, ← Int.natCast_ediv]
  generalize (p + 4294967296 * q) / 2 ^ s = z
  exact (of_cast z).1
theorem shr_list_step {xs out : List Nat} {j k s p q D : Nat} (hj : j < out.length) (ho : Ok W32 xs) (hs : s < 32) (hp : xs.getD (j + k) 0 = p) (hq : xs.getD (j + k + 1) 0 = q)
    (hv : val W32 (out.take j) + W32 ^ j * (val W32 (xs.drop (k + j)) / 2 ^ s) = D) :
    val W32 ((out.set j ((p + 4294967296 * q) / 2 ^ s % 4294967296)).take (j + 1)) + W32 ^ (j + 1) * (val W32 (xs.drop (k + (j + 1))) / 2 ^ s) = D := by
  have e1 := val_drop_step W32 xs (j + k)
  have e2 := val_drop_step W32 xs (j + k + 1)
  rw [hp] at e1
  rw [hq] at e2
  have hd := shr_digit p q (val W32 (xs.drop (j + k + 1 + 1))) s hs
  have hW : W32 = 4294967296 := rfl
  rw [← hW] at hd ⊢
  rw [← e2, ← e1] at hd
  rw [show k + j = j + k from by omega] at hv
  rw [val_take_succ, take_set_lt _ _ _ _ (Nat.le_refl _), getD_set_self _ _ _ hj, hd, Nat.pow_succ, show k + (j + 1) = j + k + 1 from by omega]
  exact shr_step _ _ _ _ _ _ p _ (by decide) e1 (by rw [← hp]; exact ho.getD (by decide) _) hv
theorem shr_end {xs out : List Nat} {l k s x n : Nat} (hl : xs.length = l) (ho : Ok W32 xs) (hk : k < l) (hol : out.length = l - k) (hx : val W32 xs = x) (hn : n = 32 * k + s)
    (hv : val W32 (out.take (l - k)) + W32 ^ (l - k) * (val W32 (xs.drop (k + (l - k))) / 2 ^ s) = val W32 (xs.drop k) / 2 ^ s) : val W32 out = x / 2 ^ n := by
  rw [val_take_all W32 out (by omega), List.drop_eq_nil_of_le (by omega)] at hv
  rw [val_nil, Nat.zero_div, Nat.mul_zero, Nat.add_zero] at hv
  have e : W32 ^ k * 2 ^ s = 2 ^ n := by rw [hn, Nat.pow_add, Nat.pow_mul]; rfl
  rw [hv, ← e, ← Nat.div_div_eq_div_mul, ← hx, val_split W32 xs k, Nat.add_mul_div_left _ _ (Nat.pow_pos (by decide)), Nat.div_eq_of_lt (val_take_lt ho (by omega)), Nat.zero_add]
theorem pow_u32 (s : Nat) (hs : s < 32) : IntKind.u32.wrap ((2 : Int) ^ s) = 2 ^ s := by
  have h1 : (1 : Nat) ≤ 2 ^ s := Nat.one_le_two_pow
  have h2 : (2 : Nat) ^ s ≤ 2 ^ 31 := Nat.pow_le_pow_right (by omega) (by omega)
  rw [← pow32, IntKind.wrap_u32]
  omega
theorem pred_pow_u32 (s : Nat) (hs : s < 32) : IntKind.u32.wrap ((2 : Int) ^ s - 1) = 2 ^ s - 1 := by
  have h1 : (1 : Nat) ≤ 2 ^ s := Nat.one_le_two_pow
  have h2 : (2 : Nat) ^ s ≤ 2 ^ 31 := Nat.pow_le_pow_right (by omega) (by omega)
  rw [← pow32, IntKind.wrap_u32]
  omega
set_option maxHeartbeats 1600000 in
theorem shr_any (x n : Nat) (va : Value) (w : World) (ha : Nat32 w va x) (hl : (digs W32 x).length ≤ 100000) (hn : n ≤ 100000) :
    Calls Tryz.prog 226 #[va, .int .i64 (n : Int)] w fun e w' => ∃ v, e = .returned (.tuple #[v, .bool (exactB x n)]) ∧ Nat32 w' v (x / 2 ^ n) ∧ Below w.heap.size w w' := by
  obtain ⟨A, c, rfl, hc, hm, hr⟩ := ha
  unfold maxLen at hm
  obtain ⟨k, s, hk, hs, hs32, HN⟩ : ∃ k s : Nat, (n : Int) / 32 = (k : Int) ∧ (n : Int) % 32 = (s : Int) ∧ s < 32 ∧ Hid (n = 32 * k + s) := ⟨n / 32, n % 32, by omega, by omega, by omega, by unfold Hid; omega⟩
  have hkb : k ≤ 100000 := by have := HN.out; omega
  have HXZ : Hid ((digs W32 x).length = 0 ↔ x = 0) := by
    rw [List.length_eq_zero_iff]; exact digs_nil W32_gt
  have HX := Lib.hid (val_digs W32_gt x)
  have HO := Lib.hid (ok_digs W32_gt x)
  generalize digs W32 x = xs at *
  generalize hxl : xs.length = l at *
  have HL := Lib.hid hxl
  have HR := Lib.hid hr
  clear hxl hr
  by_cases hkl : l ≤ k
  · have hlt : x < 2 ^ n := by
      have h1 := val_lt HO.out
      rw [HX.out, HL.out] at h1
      have h2 : W32 ^ l ≤ 2 ^ n := by
        rw [HN.out, show W32 = 2 ^ 32 from rfl, ← Nat.pow_mul]
        exact Nat.pow_le_pow_right (by omega) (by omega)
      omega
    have HD : Hid (x / 2 ^ n = 0) := Nat.div_eq_of_lt hlt
    by_cases h0 : l = 0
    · subst h0
      have HE : Hid (exactB x n = true) := by
        unfold exactB
        rw [Nat.mod_eq_of_lt hlt]
        exact decide_eq_true (HXZ.out.1 rfl)
      clear hlt hs
      have hb0 : (((0 : Nat) : Int) == 0) = true := rfl
      go_enter Tryz.func226, Tryz.ntmps226
      go_wp2
      go_ret2
      rw [HE.out, HD.out]
      exact ⟨_, rfl, by unfold Nat32; rw [digs_zero]; exact (OwnV.nil_ (B := 0) (T := 0) w).sl, Below.refl _ _⟩
    · have HE : Hid (exactB x n = false) := by
        unfold exactB
        rw [Nat.mod_eq_of_lt hlt]
        exact decide_eq_false (fun h => h0 (HXZ.out.2 h))
      clear hlt hs
      have hb0 : ((l : Int) == 0) = false := beq_eq_false_iff_ne.2 (by omega)
      go_enter Tryz.func226, Tryz.ntmps226
      go_wp2
      go_ret2
      rw [HE.out, HD.out]
      exact ⟨_, rfl, by unfold Nat32; rw [digs_zero]; exact (OwnV.nil_ (B := 0) (T := 0) w).sl, Below.refl _ _⟩
  · obtain ⟨b, o, p, rfl, hb, hpe, hcell⟩ := HR.out.at_ (i := k) (by omega)
    have hp : p < 4294967296 := by rw [← hpe]; exact HO.out.getD (by decide) _
    have HP := Lib.hid hpe
    clear hpe
    have hk0 : (0 : Int) ≤ (k : Int) := by omega
    have hkc : (k : Int) ≤ (c : Int) := by omega
    have HQ1 : Hid ((digs W32 (val W32 (xs.take k))).length = 0 ↔ val W32 (xs.take k) = 0) := by
      constructor
      · intro e; exact (digs_nil W32_gt).1 (List.eq_nil_of_length_eq_zero e)
      · intro e; rw [e, digs_zero]; rfl
    have HTK : Hid (Sl .u32 w (.slice (some ⟨b, o, none⟩) k c) (xs.take k)) := Sl.of_rd HR.out (by omega) hc (by unfold maxLen; omega) rfl
    go_enter Tryz.func226, Tryz.ntmps226
    go_upto_region 4 with fail
    go_cut [5] (fun s5 wx => s5 = .bool (exactB x n) ∧ Hid (Below w.heap.size w wx))
    case first =>
      by_cases hT : val W32 (xs.take k) = 0
      · have hq : (((digs W32 (val W32 (xs.take k))).length : Int) == 0) = true := by
          apply beq_iff_eq.2
          have := HQ1.out.2 hT
          omega
        have HT := Lib.hid hT
        clear hT
        have hs' : (n : Int).tmod 32 = (s : Int) := by rw [Int.tmod_eq_emod_of_nonneg (by omega)]; exact hs
        have hkl' : (k : Int) < (l : Int) := by omega
        go_region_held3 (fun w' => w'.cell? ⟨b, o + k, none⟩ = some (.int .u32 (p : Int))) (first | exact hcell | exact hc1)
          (first
            | (go_at_call 78; refine (clone_any (xs.take k) _ _ (by exact HTK.out) (by rw [List.length_take, HL.out]; omega)).mono ?_; rintro e w1 ⟨v1, rfl, hown1, hb1⟩; have hc1 : w1.cell? ⟨b, o + k, none⟩ = some (.int .u32 (p : Int)) := (hb1.cell hb).trans hcell)
            | (go_at_call 269; refine (trim_sl (xs.take k) _ _ (by exact hown1.sl) (HO.out.take _)).mono ?_; rintro e w2 ⟨v2, rfl, ⟨A2, c2, rfl, hc2, hm2, hr2⟩, rfl⟩))
        clear hs'
        go_wp2_with fail
        go_meet
        case rel =>
          refine ⟨?_, below_undrew hb1⟩
          rw [exactB_eq HX.out HO.out HL.out (by omega) hs32 HP.out HN.out, decide_eq_true HT.out, Bool.true_and]
          congr 1
          rw [Bool.eq_iff_iff, beq_iff_eq, decide_eq_true_iff]
          rw [pow_u32 s hs32, pred_pow_u32 s hs32, shr_low_and p s hp hs32]
          omega
      · have hq : (((digs W32 (val W32 (xs.take k))).length : Int) == 0) = false := by
          apply beq_eq_false_iff_ne.2
          intro e
          exact hT (HQ1.out.1 (by omega))
        have HT := Lib.hid hT
        clear hT
        (refine wp_region_any (by kernel_rfl) ?_; (try (change wpAny _ _ _ _ _ _ _ (World.drew _))))
        (refine wpAny_take (i := 0) (v := ?_) rfl (by kernel_rfl) (by kernel_rfl) (by kernel_rfl) (fun _ _ _ h => h) (Or.inl ⟨by kernel_rfl, ?_⟩) ?_; rotate_left; ((intro w; go_simp) <;> (with_reducible rfl)); (try (simp only [Act.put, List.setIfInBounds_toArray, List.set_cons_succ, List.set_cons_zero, List.getElem_toArray, List.getElem_cons_succ, List.getElem_cons_zero])))
        (refine wpAny_take (i := 1) (v := ?_) rfl (by kernel_rfl) (by kernel_rfl) (by kernel_rfl) (fun _ _ _ h => h) (Or.inl ⟨by kernel_rfl, ?_⟩) ?_; rotate_left; ((intro w; go_simp) <;> (with_reducible rfl)); (try (simp only [Act.put, List.setIfInBounds_toArray, List.set_cons_succ, List.set_cons_zero, List.getElem_toArray, List.getElem_cons_succ, List.getElem_cons_zero])))
        (refine wpAny_take (i := 2) (v := ?_) rfl (by kernel_rfl) (by kernel_rfl) (by kernel_rfl) (fun _ _ _ h => h) (Or.inl ⟨by kernel_rfl, ?_⟩) ?_; rotate_left; ((intro w; go_simp) <;> (with_reducible rfl)); (try (simp only [Act.put, List.setIfInBounds_toArray, List.set_cons_succ, List.set_cons_zero, List.getElem_toArray, List.getElem_cons_succ, List.getElem_cons_zero])))
        (refine wpAny_ready (rs := [3]) (by kernel_rfl) (by simp) ?_; refine AllReady.cons rfl (fun K hK => ?_) AllReady.nil; go_simp)
        refine (clone_any (xs.take k) _ _ (by exact HTK.out) (by rw [List.length_take, HL.out]; omega)).mono ?_
        rintro e w1 ⟨v1, rfl, hown1, hb1⟩
        (refine hK _ _ ?_; clear hK K; (try (simp only [Act.put, List.setIfInBounds_toArray, List.set_cons_succ, List.set_cons_zero, List.getElem_toArray, List.getElem_cons_succ, List.getElem_cons_zero])))
        (refine wpAny_ready (rs := [4]) (by kernel_rfl) (by simp) ?_; refine AllReady.cons rfl (fun K hK => ?_) AllReady.nil; go_simp)
        refine (trim_sl (xs.take k) _ _ (by exact hown1.sl) (HO.out.take _)).mono ?_
        rintro e w2 ⟨v2, rfl, ⟨A2, c2, rfl, hc2, hm2, hr2⟩, rfl⟩
        (refine hK _ _ ?_; clear hK K; (try (simp only [Act.put, List.setIfInBounds_toArray, List.set_cons_succ, List.set_cons_zero, List.getElem_toArray, List.getElem_cons_succ, List.getElem_cons_zero])))
        (refine wpAny_take (i := 5) (v := ?_) rfl (by kernel_rfl) (by kernel_rfl) (by kernel_rfl) (fun _ _ _ h => h) (Or.inl ⟨by kernel_rfl, ?_⟩) ?_; rotate_left; ((intro w; go_simp) <;> (with_reducible rfl)); (try (simp only [Act.put, List.setIfInBounds_toArray, List.set_cons_succ, List.set_cons_zero, List.getElem_toArray, List.getElem_cons_succ, List.getElem_cons_zero])))
        (refine wpAny_take (i := 6) (v := ?_) rfl (by kernel_rfl) (by kernel_rfl) (by kernel_rfl) (fun _ _ _ h => h) (Or.inl ⟨by kernel_rfl, ?_⟩) ?_; rotate_left; ((intro w; go_simp) <;> (with_reducible rfl)); (try (simp only [Act.put, List.setIfInBounds_toArray, List.set_cons_succ, List.set_cons_zero, List.getElem_toArray, List.getElem_cons_succ, List.getElem_cons_zero])))
        (refine wpAny_take (i := 7) (v := ?_) rfl (by kernel_rfl) (by kernel_rfl) (by kernel_rfl) (fun _ _ _ h => h) (Or.inl ⟨by kernel_rfl, ?_⟩) ?_; rotate_left; ((intro w; go_simp) <;> (with_reducible rfl)); (try (simp only [Act.put, List.setIfInBounds_toArray, List.set_cons_succ, List.set_cons_zero, List.getElem_toArray, List.getElem_cons_succ, List.getElem_cons_zero])))
        (refine wpAny_take (i := 8) (v := undef) rfl (by kernel_rfl) (by kernel_rfl) (by kernel_rfl) (fun _ _ _ h => h) (Or.inr ⟨by kernel_rfl, rfl⟩) ?_; (try (simp only [Act.put, List.setIfInBounds_toArray, List.set_cons_succ, List.set_cons_zero, List.getElem_toArray, List.getElem_cons_succ, List.getElem_cons_zero])))
        (refine wpAny_take (i := 9) (v := undef) rfl (by kernel_rfl) (by kernel_rfl) (by kernel_rfl) (fun _ _ _ h => h) (Or.inr ⟨by kernel_rfl, rfl⟩) ?_; (try (simp only [Act.put, List.setIfInBounds_toArray, List.set_cons_succ, List.set_cons_zero, List.getElem_toArray, List.getElem_cons_succ, List.getElem_cons_zero])))
        (refine wpAny_take (i := 10) (v := undef) rfl (by kernel_rfl) (by kernel_rfl) (by kernel_rfl) (fun _ _ _ h => h) (Or.inr ⟨by kernel_rfl, rfl⟩) ?_; (try (simp only [Act.put, List.setIfInBounds_toArray, List.set_cons_succ, List.set_cons_zero, List.getElem_toArray, List.getElem_cons_succ, List.getElem_cons_zero])))
        (refine wpAny_take (i := 11) (v := undef) rfl (by kernel_rfl) (by kernel_rfl) (by kernel_rfl) (fun _ _ _ h => h) (Or.inr ⟨by kernel_rfl, rfl⟩) ?_; (try (simp only [Act.put, List.setIfInBounds_toArray, List.set_cons_succ, List.set_cons_zero, List.getElem_toArray, List.getElem_cons_succ, List.getElem_cons_zero])))
        (refine wpAny_take (i := 12) (v := undef) rfl (by kernel_rfl) (by kernel_rfl) (by kernel_rfl) (fun _ _ _ h => h) (Or.inr ⟨by kernel_rfl, rfl⟩) ?_; (try (simp only [Act.put, List.setIfInBounds_toArray, List.set_cons_succ, List.set_cons_zero, List.getElem_toArray, List.getElem_cons_succ, List.getElem_cons_zero])))
        (refine wpAny_take (i := 13) (v := undef) rfl (by kernel_rfl) (by kernel_rfl) (by kernel_rfl) (fun _ _ _ h => h) (Or.inr ⟨by kernel_rfl, rfl⟩) ?_; (try (simp only [Act.put, List.setIfInBounds_toArray, List.set_cons_succ, List.set_cons_zero, List.getElem_toArray, List.getElem_cons_succ, List.getElem_cons_zero])))
        (refine wpAny_take (i := 14) (v := undef) rfl (by kernel_rfl) (by kernel_rfl) (by kernel_rfl) (fun _ _ _ h => h) (Or.inr ⟨by kernel_rfl, rfl⟩) ?_; (try (simp only [Act.put, List.setIfInBounds_toArray, List.set_cons_succ, List.set_cons_zero, List.getElem_toArray, List.getElem_cons_succ, List.getElem_cons_zero])))
        (refine wpAny_take (i := 15) (v := undef) rfl (by kernel_rfl) (by kernel_rfl) (by kernel_rfl) (fun _ _ _ h => h) (Or.inr ⟨by kernel_rfl, rfl⟩) ?_; (try (simp only [Act.put, List.setIfInBounds_toArray, List.set_cons_succ, List.set_cons_zero, List.getElem_toArray, List.getElem_cons_succ, List.getElem_cons_zero])))
        (refine wpAny_take (i := 16) (v := undef) rfl (by kernel_rfl) (by kernel_rfl) (by kernel_rfl) (fun _ _ _ h => h) (Or.inr ⟨by kernel_rfl, rfl⟩) ?_; (try (simp only [Act.put, List.setIfInBounds_toArray, List.set_cons_succ, List.set_cons_zero, List.getElem_toArray, List.getElem_cons_succ, List.getElem_cons_zero])))
        (refine wpAny_take (i := 17) (v := undef) rfl (by kernel_rfl) (by kernel_rfl) (by kernel_rfl) (fun _ _ _ h => h) (Or.inr ⟨by kernel_rfl, rfl⟩) ?_; (try (simp only [Act.put, List.setIfInBounds_toArray, List.set_cons_succ, List.set_cons_zero, List.getElem_toArray, List.getElem_cons_succ, List.getElem_cons_zero])))
        (refine wpAny_take (i := 18) (v := ?_) rfl (by kernel_rfl) (by kernel_rfl) (by kernel_rfl) (fun _ _ _ h => h) (Or.inl ⟨by kernel_rfl, ?_⟩) ?_; rotate_left; ((intro w; go_simp) <;> (with_reducible rfl)); (try (simp only [Act.put, List.setIfInBounds_toArray, List.set_cons_succ, List.set_cons_zero, List.getElem_toArray, List.getElem_cons_succ, List.getElem_cons_zero])))
        (refine wpAny_take (i := 19) (v := ?_) rfl (by kernel_rfl) (by kernel_rfl) (by kernel_rfl) (fun _ _ _ h => h) (Or.inl ⟨by kernel_rfl, ?_⟩) ?_; rotate_left; ((intro w; go_simp) <;> (with_reducible rfl)); (try (simp only [Act.put, List.setIfInBounds_toArray, List.set_cons_succ, List.set_cons_zero, List.getElem_toArray, List.getElem_cons_succ, List.getElem_cons_zero])))
        (refine wpAny_done (by kernel_rfl) ?_ _)
        go_wp2_with fail
        go_meet
        case rel =>
          refine ⟨?_, below_undrew hb1⟩
          rw [exactB_eq HX.out HO.out HL.out (by omega) hs32 HP.out HN.out, decide_eq_false HT.out]; rfl
    case rest =>
      obtain ⟨rfl, HBc⟩ := hcut
      clear hcell hk0 hkc
      obtain ⟨i0, hi0, hz0, hz1, hz2⟩ := info_parts info_u32
      have HI := Lib.hid hi0
      have HZ0 := Lib.hid hz0
      have HZ1 := Lib.hid hz1
      have HZ2 := Lib.hid hz2
      clear hi0 hz0 hz1 hz2
      go_wp2_with (at_make; refine wpList_make_full _ rfl _ _ 22 rfl w.heap.size 89 i0 (.int .u32 0) 1 Tryz.underlying22 HI.out HZ0.out HZ1.out .i64 .i64 _ _ (l - k) rfl rfl (by omega) (by omega) (by rw [HZ2.out]; omega) (by unfold maxLen; omega) HBc.out.size ?_; intro w1 hown1 hg1)
      obtain ⟨g0, hg0⟩ : ∃ g0, g0 = wc.heap.size := ⟨_, rfl⟩
      rw [← hg0] at hown1 ⊢
      have HG : Hid (w.heap.size ≤ g0) := by rw [hg0]; exact HBc.out.size
      have HOW := Lib.hid (Own.made hown1)
      have HB := Lib.hid (HBc.out.grown hg1 HBc.out.size (by simp))
      clear hown1 hg1 hg0
      go_loopg [44] (l - k) (fun g i wr => ∃ (j : Nat) (out : List Nat), g + j + k = l ∧ i = .int .i64 (j : Int) ∧ Hid (Own .u32 89 wr w.heap.size g0 (l - k) (l - k) out) ∧ Hid (Below w.heap.size w wr) ∧ Hid (val W32 (out.take j) + W32 ^ j * (val W32 (xs.drop (k + j)) / 2 ^ s) = val W32 (xs.drop k) / 2 ^ s) ∧ Hid (Ok W32 out))
      case atStart => exact ⟨0, _, by omega, rfl, HOW.out, HB.out, by unfold Hid; simp, ok_replicate (by decide)⟩
      case round =>
        obtain ⟨j, out, hgj, rfl, HOw, HBw, HV, HOo⟩ := hrel
        by_cases hj : k + j < l
        · obtain ⟨b', o', p', e', hb', hpe, hcell⟩ := (HR.out.below HBw.out).at_ (i := j + k) (by omega)
          injection e' with e'
          injection e' with e1 e2
          subst e1 e2
          have hp' : p' < 4294967296 := by rw [← hpe]; exact HO.out.getD (by decide) _
          have HP' := Lib.hid hpe
          clear hpe
          obtain ⟨y, hy⟩ : ∃ y : Nat, wr.cell? ⟨g0, j, none⟩ = some (.int .u32 (y : Int)) := ⟨_, HOw.out.cell (by omega)⟩
          have hf := HOw.out.frozen j
          by_cases hj2 : j + k + 1 < l
          · obtain ⟨b', o', q', e', hb'', hqe, hcell2⟩ := (HR.out.below HBw.out).at_ (i := j + k + 1) (by omega)
            injection e' with e'
            injection e' with e1 e2
            subst e1 e2
            have hq' : q' < 4294967296 := by rw [← hqe]; exact HO.out.getD (by decide) _
            have HQ' := Lib.hid hqe
            clear hqe
            have hor := u64_or_shift' q' p' hq' hp'
            go_wp2
            go_roundg (gk - 1)
            case measure => omega
            case rel =>
              rw [shr_cell]
              exact ⟨j + 1, _, by omega, by go_num, HOw.out.stored _ _, HBw.out.setCell HG.out _, shr_list_step (by rw [HOw.out.1]; omega) HO.out hs32 HP'.out HQ'.out HV.out, HOo.out.set (Nat.mod_lt _ (by decide))⟩
          · have HQ' : Hid (xs.getD (j + k + 1) 0 = 0) := getD_ge (by rw [HL.out]; omega)
            go_wp2
            go_roundg (gk - 1)
            case measure => omega
            case rel =>
              have e := shr_cell p' 0 s
              rw [Int.natCast_zero, Int.zero_mul, Int.zero_add] at e
              rw [e]
              exact ⟨j + 1, _, by omega, by go_num, HOw.out.stored _ _, HBw.out.setCell HG.out _, shr_list_step (by rw [HOw.out.1]; omega) HO.out hs32 HP'.out HQ'.out HV.out, HOo.out.set (Nat.mod_lt _ (by decide))⟩
        · obtain rfl : j = l - k := by omega
          go_wp2_with (go_at_call 269; refine (trim_any out _ (l - k) (l - k) _ _ HOw.out.rd HOo.out (Nat.le_refl _) (by unfold maxLen; omega)).mono ?_; rintro e w' ⟨m, rfl, hm', ht, rfl⟩)
          go_ret2
          rw [shr_end HL.out HO.out (by omega) HOw.out.1 HX.out HN.out HV.out] at ht
          exact ⟨_, rfl, Sl.of_rd HOw.out.rd hm' (Nat.le_refl _) (by unfold maxLen; omega) ht, HBw.out⟩
end Go.Proofs.YtkfnpcilanheiaaGreat
namespace Go.Proofs.YtkfnpcilanheiaaGreat.NumB
theorem val_top2 (B : Nat) (xs : List Nat) {n : Nat} (hn : 2 ≤ n) (hl : xs.length = n) :
    val B xs = (xs.getD (n - 1) 0 * B + xs.getD (n - 2) 0) * B ^ (n - 2) + val B (xs.take (n - 2)) := by
  have h1 := val_split B xs (n - 2)
  have h2 := val_drop_step B xs (n - 2)
  have h3 := val_drop_step B xs (n - 2 + 1)
  rw [List.drop_eq_nil_of_le (i := n - 2 + 1 + 1) (by omega), val_nil, Nat.mul_zero, show n - 2 + 1 = n - 1 from by omega] at h3
  rw [Nat.add_zero] at h3
  rw [show n - 2 + 1 = n - 1 from by omega, h3] at h2
  rw [h1, h2, Nat.mul_comm (B ^ (n - 2)), Nat.add_comm (xs.getD (n - 2) 0), Nat.mul_comm B, Nat.add_comm]
theorem kd_gt {U V t v R ur vr g : Nat} (hV : V = v * R + vr) (hU : U = t * R + ur) (hur : ur < R) (h : t < g * v) (hV0 : 0 < V) : U / V < g := by
  rw [Nat.div_lt_iff_lt_mul hV0, hU, hV]
  have h1 : (t + 1) * R ≤ g * v * R := Nat.mul_le_mul_right _ h
  have h2 : g * (v * R + vr) = g * v * R + g * vr := by rw [Nat.mul_add, Nat.mul_assoc]
  rw [Nat.add_mul, Nat.one_mul] at h1
  omega
theorem kd_le {U V t v R ur vr g : Nat} (hV : V = v * R + vr) (hU : U = t * R + ur) (hvr : vr < R) (h : g * v ≤ t) (hg : g ≤ v) (hV0 : 0 < V) : g ≤ U / V + 1 := by
  rcases Nat.eq_zero_or_pos g with h0 | h0
  · rw [h0]; exact Nat.zero_le _
  have h1 : g - 1 ≤ U / V := by
    rw [Nat.le_div_iff_mul_le hV0, hU]
    have e : (g - 1) * V + V = g * V := by
      rw [← Nat.succ_mul]; congr 1; omega
    have h2 : g * V = g * v * R + g * vr := by rw [hV, Nat.mul_add, Nat.mul_assoc]
    have h3 : g * v * R ≤ t * R := Nat.mul_le_mul_right _ h
    have h4 : g * vr ≤ v * R := Nat.mul_le_mul hg (by omega)
    omega
  omega
theorem kd_break {g r v1 t un u1 B : Nat} (ht : t = un * B + u1) (hu1 : u1 < B) (hun : un ≤ v1) (he : g * v1 + r = t) (hr : B ≤ r) (hv1 : 0 < v1) : g < B := by
  rcases Nat.lt_or_ge g B with h | h
  · exact h
  · have h1 : B * v1 ≤ g * v1 := Nat.mul_le_mul_right _ h
    have h2 : un * B ≤ v1 * B := Nat.mul_le_mul_right _ hun
    rw [Nat.mul_comm B v1] at h1
    omega
theorem kd_fits {g r v1 v2 t u2 B : Nat} (he : g * v1 + r = t) (h : g * v2 ≤ r * B + u2) : g * (v1 * B + v2) ≤ t * B + u2 := by
  rw [Nat.mul_add, ← Nat.mul_assoc, ← he, Nat.add_mul]
  omega
theorem kd_over {g r v1 v2 t u2 B : Nat} (he : g * v1 + r = t) (h : r * B + u2 < g * v2) : t * B + u2 < g * (v1 * B + v2) := by
  rw [Nat.mul_add, ← Nat.mul_assoc, ← he, Nat.add_mul]
  omega
theorem kd_small {g r v2 u2 B : Nat} (hg : g < B) (hv2 : v2 < B) (hr : B ≤ r) : g * v2 ≤ r * B + u2 := by
  have h1 : g * v2 ≤ B * B := Nat.mul_le_mul (by omega) (by omega)
  have h2 : B * B ≤ r * B := Nat.mul_le_mul_right _ hr
  omega
theorem kd_top {U V un v1 B n : Nat} (hU : un * B ^ n ≤ U) (hV : V < (v1 + 1) * B ^ (n - 1)) (hlt : U < V * B) (hn : 0 < n) (hB : 0 < B) : un ≤ v1 := by
  rcases Nat.lt_or_ge v1 un with h | h
  · exfalso
    have h1 : (v1 + 1) * B ^ n ≤ un * B ^ n := Nat.mul_le_mul_right _ h
    have h2 : V * B < (v1 + 1) * B ^ (n - 1) * B := Nat.mul_lt_mul_of_pos_right hV hB
    rw [Nat.mul_assoc, ← Nat.pow_succ, show (n - 1).succ = n from by omega] at h2
    omega
  · exact h
theorem ms_step {Vu Vc Vv P g u v c b x b' B : Nat} (h : Vu + P * (b + c) = Vc + g * Vv) (hx : u + B * b' = x + (c + g * v) % B + b) :
    (Vu + P * u) + (P * B) * (b' + (c + g * v) / B) = (Vc + P * x) + g * (Vv + P * v) := by
  have h1 := mod_div_step P B (c + g * v)
  have h2 : P * u + P * B * b' = P * x + P * ((c + g * v) % B) + P * b := by
    rw [Nat.mul_assoc, ← Nat.mul_add, hx, Nat.mul_add, Nat.mul_add]
  have h3 : g * (Vv + P * v) = g * Vv + P * (g * v) := by rw [Nat.mul_add, Nat.mul_left_comm]
  rw [Nat.mul_add] at h
  rw [Nat.mul_add] at h1
  rw [Nat.mul_add, h3]
  omega
end Go.Proofs.YtkfnpcilanheiaaGreat.NumB

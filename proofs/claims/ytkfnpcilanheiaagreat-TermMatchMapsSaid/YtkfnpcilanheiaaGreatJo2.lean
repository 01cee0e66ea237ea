/- nat.Trim: the limbs without last zeros. Conditions: none. And 6 more texts. -/
import Derived.Test.YtkfnpcilanheiaaGreatJo1
set_option linter.unusedVariables false
set_option linter.unusedSimpArgs false
set_option maxRecDepth 100000
namespace Go.Proofs.YtkfnpcilanheiaaGreat
open Go.RowKit NumB
theorem trim_end {xs : List Nat} {g : Nat} (ho : Ok W32 xs) (hg : g ≤ xs.length) (hv : val W32 (xs.take g) = val W32 xs) (hl : g = 0 ∨ xs.getD (g - 1) 0 ≠ 0) : xs.take g = digs W32 (val W32 xs) := by
  refine (digs_eq W32_gt (ho.take g) (top_of_last ?_) hv).symm
  have hlen : (xs.take g).length = g := by rw [List.length_take]; omega
  rcases hl with rfl | hl
  · left; rfl
  · rcases Nat.eq_zero_or_pos g with rfl | h0
    · left; rfl
    · right
      rw [hlen, List.getD_eq_getElem?_getD, List.getElem?_take, if_pos (by omega), ← List.getD_eq_getElem?_getD]
      exact hl
set_option maxHeartbeats 400000 in
theorem trim_any (xs : List Nat) (A : Option Addr) (n c : Nat) (w : World) (B : Nat) (hr : Rd .u32 w B A n xs) (ho : Ok W32 xs) (hc : n ≤ c) (hm : c ≤ maxLen) :
    Calls Tryz.prog 269 #[.slice A n c] w fun e w' => ∃ m, e = .returned (.slice A m c) ∧ m ≤ n ∧ xs.take m = digs W32 (val W32 xs) ∧ w = w' := by
  unfold maxLen at hm
  have HL := Lib.hid hr.1
  have HR := Lib.hid hr.2
  clear hr
  have HO := Lib.hid ho
  clear ho
  go_enter Tryz.func269, Tryz.ntmps269
  go_wp2
  go_loopg [0] n (fun g v wr => g ≤ n ∧ v = .slice A g c ∧ Hid (val W32 (xs.take g) = val W32 xs) ∧ w = wr)
  case atStart => exact ⟨Nat.le_refl _, rfl, by rw [← HL.out, List.take_length]; rfl, rfl⟩
  case round =>
    obtain ⟨hg, rfl, HV, rfl⟩ := hrel
    by_cases h0 : 0 < gk
    · obtain ⟨b, o, rfl, hb, hcell⟩ := HR.out (by omega)
      have hx := hcell (gk - 1) (by omega)
      clear hcell
      generalize hxe : xs.getD (gk - 1) 0 = x at hx
      have HX := Lib.hid hxe
      clear hxe
      by_cases hz : x = 0
      · subst hz
        go_wp2
        go_roundg (gk - 1)
        case measure => omega
        case rel =>
          refine ⟨by omega, rfl, ?_, rfl⟩
          have h := val_take_succ W32 xs (gk - 1)
          rw [show gk - 1 + 1 = gk from by omega, HX.out, Nat.mul_zero, Nat.add_zero] at h
          exact h.symm.trans HV.out
      · have HZ := Lib.hid hz
        have hne : ((x : Int) == 0) = false := beq_eq_false_iff_ne.2 (by omega)
        clear hz
        go_wp2
        go_ret
        exact ⟨gk, rfl, hg, trim_end HO.out (by rw [HL.out]; exact hg) HV.out (.inr (by rw [HX.out]; exact HZ.out)), rfl⟩
    · go_wp2
      go_ret
      exact ⟨gk, rfl, hg, trim_end HO.out (by rw [HL.out]; exact hg) HV.out (.inl (by omega)), rfl⟩
theorem ret_i {k : IntKind} {a b : Int} (h : a = b) : Ending.returned (.int k a) = .returned (.int k b) := by rw [h]
def sgnI (n : Int) : Int := if n < 0 then -1 else if 0 < n then 1 else 0
theorem sign_any (n : Int) (w : World) : Calls Tryz.prog 288 #[.int .i64 n] w fun e w' => e = .returned (.int .i64 (sgnI n)) ∧ w = w' := by
  by_cases h1 : n < 0
  · have e : sgnI n = -1 := by unfold sgnI; rw [if_pos h1]
    have E := Lib.hid e
    clear e
    go_enter Tryz.func288, Tryz.ntmps288
    go_wp2
    go_ret
    exact ⟨ret_i E.out.symm, rfl⟩
  · by_cases h2 : 0 < n
    · have e : sgnI n = 1 := by unfold sgnI; rw [if_neg h1, if_pos h2]
      have E := Lib.hid e
      clear e
      go_enter Tryz.func288, Tryz.ntmps288
      go_wp2
      go_ret
      exact ⟨ret_i E.out.symm, rfl⟩
    · have e : sgnI n = 0 := by unfold sgnI; rw [if_neg h1, if_neg h2]
      have E := Lib.hid e
      clear e
      go_enter Tryz.func288, Tryz.ntmps288
      go_wp2
      go_ret
      exact ⟨ret_i E.out.symm, rfl⟩
set_option maxHeartbeats 400000 in
theorem compare_any (x y : Nat) (va vb : Value) (w : World) (ha : Nat32 w va x) (hb : Nat32 w vb y) :
    Calls Tryz.prog 259 #[va, vb] w fun e w' => e = .returned (.int .i64 (cmpI x y)) ∧ ∃ m, w' = w.drewN m := by
  obtain ⟨A, ca, rfl, hca, hma, hra⟩ := ha
  obtain ⟨A', cb, rfl, hcb, hmb, hrb⟩ := hb
  unfold maxLen at hma hmb
  have hxv := val_digs W32_gt x
  have hyv := val_digs W32_gt y
  have hxo := ok_digs W32_gt x
  have hyo := ok_digs W32_gt y
  have hxt := top_digs W32_gt x
  have hyt := top_digs W32_gt y
  generalize digs W32 x = xs at *
  generalize digs W32 y = ys at *
  generalize hn : xs.length = n at *
  generalize hm : ys.length = m at *
  by_cases hne : n = m
  · subst hne
    have HE : Hid ((val W32 xs = x ∧ val W32 ys = y) ∧ (Ok W32 xs ∧ Ok W32 ys) ∧ xs.length = n ∧ ys.length = n) := ⟨⟨hxv, hyv⟩, ⟨hxo, hyo⟩, hn, hm⟩
    have HA := Lib.hid hra
    have HB := Lib.hid hrb
    clear hxv hyv hxo hyo hxt hyt hn hm hra hrb
    have hb1 : ((n : Int) != (n : Int)) = false := by simp
    go_enter Tryz.func259, Tryz.ntmps259
    go_wp2
    go_loopg [5] (n + 1) (fun g i wr => ∃ j m : Nat, g = j + 1 ∧ j ≤ n ∧ i = .int .i64 ((j : Int) - 1) ∧ Hid (val W32 (xs.drop j) = val W32 (ys.drop j)) ∧ Hid (wr = w.drewN m))
    case atStart => exact ⟨n, 0, rfl, Nat.le_refl _, rfl, by obtain ⟨_, _, h1, h2⟩ := HE.out; unfold Hid; rw [List.drop_eq_nil_of_le (by omega), List.drop_eq_nil_of_le (by omega)], rfl⟩
    case round =>
      obtain ⟨j, dr, rfl, hj, rfl, HV, HW⟩ := hrel
      obtain rfl := HW.out
      by_cases h0 : 0 < j
      · obtain ⟨b, o, p, rfl, hb, hpe, hcp⟩ := HA.out.at_ (i := j - 1) (by omega)
        obtain ⟨b', o', q, rfl, hb', hqe, hcq⟩ := HB.out.at_ (i := j - 1) (by omega)
        have HP : Hid (xs.getD (j - 1) 0 = p ∧ ys.getD (j - 1) 0 = q) := ⟨hpe, hqe⟩
        clear hpe hqe
        have hi0 : (0 : Int) ≤ (j : Int) - 1 := by omega
        have hi1 : (j : Int) - 1 < (n : Int) := by omega
        by_cases hpq : p = q
        · subst hpq
          have hbn : ((p : Int) != (p : Int)) = false := by simp
          go_wp2
          go_quiet (fail)
          go_wp2
          go_roundg j
          case measure => omega
          case rel =>
            refine ⟨j - 1, _, by omega, by omega, ?_, ?_, rfl⟩
            · congr 1; omega
            · have h1 := val_drop_step W32 xs (j - 1)
              have h2 := val_drop_step W32 ys (j - 1)
              rw [HP.out.1, Nat.sub_add_cancel h0, HV.out] at h1
              rw [HP.out.2, Nat.sub_add_cancel h0] at h2
              exact h1.trans h2.symm
        · have hbn : ((p : Int) != (q : Int)) = true := by rw [bne_iff_ne]; omega
          by_cases hlt : p < q
          · go_wp2
            go_quiet (fail)
            go_wp2
            go_quiet (fail)
            go_wp2
            go_ret
            refine ⟨ret_i ?_, _, by rw [World.drewN_drewN, World.drewN_drewN]⟩
            obtain ⟨⟨hx, hy⟩, ⟨ox, oy⟩, l1, l2⟩ := HE.out
            rw [cmpI_lt]
            rw [← hx, ← hy]
            exact val_lt_of_digit ox (j := j - 1) (by omega) (by rw [Nat.sub_add_cancel h0]; exact HV.out) (by rw [HP.out.1, HP.out.2]; exact hlt)
          · have hgt : q < p := by omega
            go_wp2
            go_quiet (fail)
            go_wp2
            go_quiet (fail)
            go_wp2
            go_ret
            refine ⟨ret_i ?_, _, by rw [World.drewN_drewN, World.drewN_drewN]⟩
            obtain ⟨⟨hx, hy⟩, ⟨ox, oy⟩, l1, l2⟩ := HE.out
            rw [cmpI_gt]
            rw [← hx, ← hy]
            exact val_lt_of_digit oy (j := j - 1) (by omega) (by rw [Nat.sub_add_cancel h0]; exact HV.out.symm) (by rw [HP.out.1, HP.out.2]; exact hgt)
      · obtain rfl : j = 0 := by omega
        go_wp2
        go_ret
        refine ⟨ret_i ?_, dr, rfl⟩
        obtain ⟨⟨hx, hy⟩, _⟩ := HE.out
        have := HV.out
        rw [List.drop_zero, List.drop_zero, hx, hy] at this
        exact (cmpI_eq this).symm
  · have hb1 : ((n : Int) != (m : Int)) = true := by rw [bne_iff_ne]; omega
    have e : sgnI ((n : Int) - (m : Int)) = cmpI x y := by
      rcases Nat.lt_or_ge n m with h | h
      · rw [cmpI_lt (by rw [← hxv, ← hyv]; exact val_lt_of_len (by decide) hxo hyt (by omega))]
        unfold sgnI; rw [if_pos (by omega)]
      · rw [cmpI_gt (by rw [← hxv, ← hyv]; exact val_lt_of_len (by decide) hyo hxt (by omega))]
        unfold sgnI; rw [if_neg (by omega), if_pos (by omega)]
    have E := Lib.hid e
    clear e hxv hyv hxo hyo hxt hyt hn hm hne hra hrb
    go_enter Tryz.func259, Tryz.ntmps259
    go_wp2_with (go_at_call 288; refine (sign_any _ _).mono ?_; rintro e w' ⟨rfl, rfl⟩)
    go_ret
    exact ⟨ret_i E.out, 0, rfl⟩
def oneB (x : Nat) : Bool := decide (x = 1)
theorem oneB_true {x : Nat} (h : x = 1) : oneB x = true := decide_eq_true h
theorem oneB_false {x : Nat} (h : x ≠ 1) : oneB x = false := decide_eq_false h
theorem isOne_any (x : Nat) (va : Value) (w : World) (ha : Nat32 w va x) :
    Calls Tryz.prog 220 #[va] w fun e w' => e = .returned (.bool (oneB x)) ∧ w = w' := by
  obtain ⟨A, ca, rfl, hca, hma, hra⟩ := ha
  unfold maxLen at hma
  have hxv := val_digs W32_gt x
  have h1 : x = 1 → (digs W32 x).length = 1 := by
    rintro rfl
    have : digs W32 1 = [1] := digs_eq (l := [1]) W32_gt (Ok.cons (by decide) Ok.nil) (by simp [Top]) rfl
    rw [this]; rfl
  generalize digs W32 x = xs at *
  generalize hn : xs.length = n at *
  by_cases hn1 : n = 1
  · subst hn1
    obtain ⟨b, o, p, rfl, hb, hpe, hcp⟩ := hra.at_ (i := 0) (by omega)
    rw [Nat.add_zero] at hcp
    have hp : p = x := by
      match xs, hn with
      | [q], _ => simp only [List.getD_cons_zero] at hpe; simp only [val_cons, val_nil, Nat.mul_zero, Nat.add_zero] at hxv; omega
    subst hp
    by_cases h : p = 1
    · subst h
      clear hxv h1 hra hpe hn
      have E := Lib.hid (oneB_true (x := 1) rfl)
      go_enter Tryz.func220, Tryz.ntmps220
      go_wp2
      go_ret
      exact ⟨congrArg (fun b => Ending.returned (.bool b)) E.out.symm, rfl⟩
    · have hb1 : ((p : Int) == 1) = false := beq_eq_false_iff_ne.2 (by omega)
      have E := Lib.hid (oneB_false h)
      clear hxv h1 hra hpe hn h
      go_enter Tryz.func220, Tryz.ntmps220
      go_wp2
      go_ret
      exact ⟨congrArg (fun b => Ending.returned (.bool b)) E.out.symm, rfl⟩
  · have hb1 : ((n : Int) == 1) = false := beq_eq_false_iff_ne.2 (by omega)
    have E := Lib.hid (oneB_false (x := x) (fun h => hn1 (h1 h)))
    clear hxv h1 hra hn hn1
    go_enter Tryz.func220, Tryz.ntmps220
    go_wp2
    go_ret
    exact ⟨congrArg (fun b => Ending.returned (.bool b)) E.out.symm, rfl⟩
def lastB (xs : List Nat) : Bool := decide (0 < xs.length ∧ xs.getD (xs.length - 1) 0 = 0)
theorem last_any (xs : List Nat) (va : Value) (w : World) (ha : Sl .u32 w va xs) :
    Calls Tryz.prog 256 #[va] w fun e w' => e = .returned (.bool (lastB xs)) ∧ w = w' := by
  obtain ⟨A, ca, rfl, hca, hma, hra⟩ := ha
  unfold maxLen at hma
  have HE : Hid (lastB xs = decide (0 < xs.length ∧ xs.getD (xs.length - 1) 0 = 0)) := rfl
  generalize lastB xs = bb at *
  generalize hn : xs.length = n at *
  rcases Nat.eq_zero_or_pos n with hn0 | hn0
  · subst hn0
    have E : Hid (bb = false) := by unfold Hid; rw [HE.out]; exact decide_eq_false (by omega)
    clear HE hra hn
    go_enter Tryz.func256, Tryz.ntmps256
    go_wp2
    go_ret
    exact ⟨congrArg (fun b => Ending.returned (.bool b)) E.out.symm, rfl⟩
  · obtain ⟨k, rfl⟩ : ∃ k, n = k + 1 := ⟨n - 1, by omega⟩
    obtain ⟨b, o, p, rfl, hb, hpe, hcp⟩ := hra.at_ (i := k) (by omega)
    have hk : ((k + 1 : Nat) : Int) - 1 = (k : Int) := by omega
    have hk1 : (k : Int) < ((k + 1 : Nat) : Int) := by omega
    have hk2 : (0 : Int) < ((k + 1 : Nat) : Int) := by omega
    by_cases h : p = 0
    · subst h
      have E : Hid (bb = true) := by unfold Hid; rw [HE.out]; exact decide_eq_true ⟨by omega, hpe⟩
      clear HE hra hn hpe
      go_enter Tryz.func256, Tryz.ntmps256
      go_wp2
      go_ret
      exact ⟨congrArg (fun b => Ending.returned (.bool b)) E.out.symm, rfl⟩
    · have hb1 : ((p : Int) == 0) = false := beq_eq_false_iff_ne.2 (by omega)
      have E : Hid (bb = false) := by unfold Hid; rw [HE.out]; exact decide_eq_false (fun h' => h (hpe ▸ h'.2))
      clear HE hra hn hpe h
      go_enter Tryz.func256, Tryz.ntmps256
      go_wp2
      go_ret
      exact ⟨congrArg (fun b => Ending.returned (.bool b)) E.out.symm, rfl⟩
theorem div_facts (rest x d : Nat) (hr : rest < d) (hd2 : d < 4294967296) (hx : x < 4294967296) :
    ∃ q r : Nat, (((rest : Int) * 4294967296 + x) / (d : Int) = (q : Int)) ∧ (((rest : Int) * 4294967296 + x) % (d : Int) = (r : Int)) ∧ q < 4294967296 ∧ r < d ∧ rest * 4294967296 + x = d * q + r := by
  refine ⟨(rest * 4294967296 + x) / d, (rest * 4294967296 + x) % d, ?_, ?_, ?_, Nat.mod_lt _ (by omega), (Nat.div_add_mod _ _).symm⟩
  · rw [Int.natCast_ediv, castW]
  · rw [Int.natCast_emod, castW]
  · rw [Nat.div_lt_iff_lt_mul (by omega)]
    have : (rest + 1) * 4294967296 ≤ d * 4294967296 := Nat.mul_le_mul_right _ (by omega)
    omega
theorem divSmall_step {xs out : List Nat} {j x d rest q r : Nat} (hj : 0 < j) (hl : j ≤ out.length) (hx : xs.getD (j - 1) 0 = x) (hjx : j ≤ xs.length) (hv : val W32 (xs.drop j) = d * val W32 (out.drop j) + rest)
    (he : rest * 4294967296 + x = d * q + r) : val W32 (xs.drop (j - 1)) = d * val W32 ((out.set (j - 1) q).drop (j - 1)) + r := by
  have e1 : xs.drop (j - 1) = x :: xs.drop j := by
    rw [List.drop_eq_getElem_cons (by omega), ← getD_lt (by omega), hx, Nat.sub_add_cancel hj]
  have e2 : (out.set (j - 1) q).drop (j - 1) = q :: out.drop j := by
    rw [List.drop_eq_getElem_cons (by simp; omega), Nat.sub_add_cancel hj]
    simp [List.drop_set]
    omega
  rw [e1, e2, val_cons, val_cons, hv]
  have : W32 = 4294967296 := rfl
  rw [this, Nat.mul_add, Nat.mul_add, Nat.mul_left_comm]
  omega
theorem info_u32 : (Tryz.prog.info? 89).map (fun i => (i.zero, i.size, i.bytes)) = some (some (.int .u32 0), 1, 4) := by kernel_rfl
set_option maxHeartbeats 400000 in
theorem divSmall_any (xs : List Nat) (A : Option Addr) (n c d : Nat) (w : World) (hr : Rd .u32 w w.heap.size A n xs) (ho : Ok W32 xs) (hc : n ≤ c) (hm : c ≤ maxLen) (hn : n ≤ 1000000) (hd : 0 < d) (hd2 : d < 4294967296) :
    Calls Tryz.prog 290 #[.slice A n c, .int .u32 (d : Int)] w fun e w' => ∃ v, e = .returned (.tuple #[v, .int .u32 ((val W32 xs % d : Nat) : Int)]) ∧ Nat32 w' v (val W32 xs / d) ∧ Below w.heap.size w w' := by
  unfold maxLen at hm
  have HR := Lib.hid hr
  clear hr
  have HO := Lib.hid ho
  clear ho
  obtain ⟨i0, hi0, hz0, hz1, hz2⟩ := info_parts info_u32
  have HI := Lib.hid hi0
  have HZ0 := Lib.hid hz0
  have HZ1 := Lib.hid hz1
  have HZ2 := Lib.hid hz2
  clear hi0 hz0 hz1 hz2
  go_enter Tryz.func290, Tryz.ntmps290
  go_wp2_with (at_make; refine wpList_make_full _ rfl _ _ 22 rfl w.heap.size 89 i0 (.int .u32 0) 1 Tryz.underlying22 HI.out HZ0.out HZ1.out .i64 .i64 _ _ n rfl rfl rfl rfl (by rw [HZ2.out]; omega) (by unfold maxLen; omega) (Nat.le_refl _) ?_; intro w1 hown1 hg1)
  have HOW := Lib.hid (Own.made hown1)
  have HB := Lib.hid ((Below.refl w.heap.size w).grown hg1 (Nat.le_refl _) (by simp))
  clear hown1 hg1
  go_loopg [7, 8] (n + 1) (fun g r i wr => ∃ (j : Nat) (rest : Nat) (out : List Nat), g = j + 1 ∧ j ≤ n ∧ i = .int .i64 ((j : Int) - 1) ∧ r = .int .u64 (rest : Int) ∧ rest < d ∧ Hid (Own .u32 89 wr w.heap.size w.heap.size n n out) ∧ Hid (Below w.heap.size w wr) ∧ Hid (val W32 (xs.drop j) = d * val W32 (out.drop j) + rest) ∧ Hid (Ok W32 out))
  case atStart => exact ⟨n, 0, _, rfl, Nat.le_refl _, rfl, rfl, hd, HOW.out, HB.out, by rw [← HR.out.1, List.drop_length, List.drop_eq_nil_of_le (by simp)]; rfl, ok_replicate (by decide)⟩
  case round =>
    obtain ⟨j, rest, out, rfl, hj, rfl, rfl, hrest, HOw, HBw, HV, HOo⟩ := hrel
    by_cases h0 : 0 < j
    · obtain ⟨b, o, x, rfl, hb, hxe, hcell⟩ := (HR.out.below HBw.out).at_ (i := j - 1) (by omega)
      have hx : x < 4294967296 := by rw [← hxe]; exact HO.out.getD (by decide) _
      have HX := Lib.hid hxe
      clear hxe
      obtain ⟨y, hy⟩ : ∃ y : Nat, wr.cell? ⟨w.heap.size, j - 1, none⟩ = some (.int .u32 (y : Int)) := ⟨_, HOw.out.cell (by omega)⟩
      have hf := HOw.out.frozen (j - 1)
      have hor := u64_or_shift rest x (by omega) hx
      obtain ⟨q, r, hq, hr', hqb, hrd, he⟩ := div_facts rest x d hrest hd2 hx
      have HE := Lib.hid he
      clear he
      go_wp2
      go_roundg j
      case measure => omega
      case rel =>
        refine ⟨j - 1, r, out.set (j - 1) q, by omega, by omega, ?_, congrArg (Value.int .u64) hr', hrd, (HOw.out.stored _ _), HBw.out.setCell (Nat.le_refl _) _, ?_, HOo.out.set hqb⟩
        · congr 1; omega
        · exact divSmall_step h0 (by rw [HOw.out.1]; exact hj) HX.out (by rw [HR.out.1]; exact hj) HV.out HE.out
    · obtain rfl : j = 0 := by omega
      go_wp2_with (go_at_call 269; refine (trim_any out _ n n _ _ HOw.out.rd HOo.out (Nat.le_refl _) (by unfold maxLen; omega)).mono ?_; rintro e w' ⟨m, rfl, hm', ht, rfl⟩)
      go_ret2
      have hv := HV.out
      rw [List.drop_zero, List.drop_zero] at hv
      have e1 : val W32 xs / d = val W32 out := by rw [hv, Nat.mul_add_div hd, Nat.div_eq_of_lt hrest, Nat.add_zero]
      have e2 : val W32 xs % d = rest := by rw [hv, Nat.mul_add_mod, Nat.mod_eq_of_lt hrest]
      rw [e1, e2]
      exact ⟨_, rfl, Sl.of_rd HOw.out.rd hm' (Nat.le_refl _) (by unfold maxLen; omega) ht, HBw.out⟩
theorem divSmall_nat (x d : Nat) (va : Value) (w : World) (ha : Nat32 w va x) (hn : (digs W32 x).length ≤ 1000000) (hd : 0 < d) (hd2 : d < 4294967296) :
    Calls Tryz.prog 290 #[va, .int .u32 (d : Int)] w fun e w' => ∃ v, e = .returned (.tuple #[v, .int .u32 ((x % d : Nat) : Int)]) ∧ Nat32 w' v (x / d) ∧ Below w.heap.size w w' := by
  obtain ⟨A, c, rfl, hc, hm, hr⟩ := ha
  have h := divSmall_any (digs W32 x) A _ c d w hr (ok_digs W32_gt x) hc hm hn hd hd2
  rw [val_digs W32_gt] at h
  exact h
set_option maxHeartbeats 400000 in
theorem clone_any (xs : List Nat) (va : Value) (w : World) (ha : Sl .u32 w va xs) (hn : xs.length ≤ 1000000) :
    Calls Tryz.prog 78 #[va] w fun e w' => ∃ v, e = .returned v ∧ OwnV .u32 89 w' w.heap.size v xs ∧ Below w.heap.size w w' := by
  obtain ⟨A, c, rfl, hc, hm, hr⟩ := ha
  unfold maxLen at hm
  have heq := fun W => Lib.run_eql_slice_nil (P := Tryz.prog) W 22 89 A xs.length c 0 0 Tryz.underlying22
  rcases A with _ | ad
  · have hx : xs = [] := by
      rcases Nat.eq_zero_or_pos xs.length with h | h
      · exact List.eq_nil_of_length_eq_zero h
      · obtain ⟨_, _, e, _⟩ := hr.2 h; cases e
    subst hx
    clear hr hn heq
    have heq := fun W => Lib.run_eql_slice_nil (P := Tryz.prog) W 22 89 none 0 c 0 0 Tryz.underlying22
    have hc0 : (0 : Nat) ≤ c := hc
    clear hc
    show Calls _ _ #[.slice none 0 c] _ _
    go_enter Tryz.func78, Tryz.ntmps78
    go_wp2
    go_ret
    exact ⟨_, rfl, OwnV.nil_ _, Below.refl _ _⟩
  · obtain ⟨i0, hi0, hz0, hz1, hz2⟩ := info_parts info_u32
    have HI := Lib.hid hi0
    have HZ0 := Lib.hid hz0
    have HZ1 := Lib.hid hz1
    have HZ2 := Lib.hid hz2
    clear hi0 hz0 hz1 hz2
    have HR := Lib.hid hr
    clear hr
    generalize hxl : xs.length = n at *
    have HL := Lib.hid hxl
    clear hxl
    go_enter Tryz.func78, Tryz.ntmps78
    go_wp2_with (at_builtin; refine wpList_append_own_at _ rfl _ _ 22 rfl w.heap.size 89 i0 (.int .u32 0) 1 4 Tryz.underlying22 HI.out HZ0.out HZ1.out HZ2.out rfl (by decide) (.slice (some ⟨w.heap.size, 0, none⟩) 0 0) 0 [] rfl (World.ownsRow_lit w #[] 0 (Nat.le_refl _) (by unfold maxLen; omega) rfl) ad n c (cellsN .u32 xs) rfl (by rw [cellsN_len, HL.out]; omega) (rd_news ((HR.out.below ((Below.refl _ _).alloc (Nat.le_refl _) _)))) cellsN_one (by unfold maxLen; omega) (by omega) (by simp) ?_; intro v1 w1 hown1 hg1 hnil1 hat1)
    go_ret
    refine ⟨v1, rfl, ?_, ?_⟩
    · unfold OwnV; rw [HL.out]; simpa using hown1
    · exact ((Below.refl _ _).alloc (Nat.le_refl _) _).grown hg1 (by simp) (fun k hk => by simp [Value.ownBlock] at hk; omega)
theorem own_two (w : World) (p q : Nat) : Own .u32 89 (w.alloc (.cells #[.int .u32 (p : Int), .int .u32 (q : Int)] 89)) w.heap.size w.heap.size 2 2 [p, q] :=
  ⟨rfl, World.ownsRow_lit w #[.int .u32 (p : Int), .int .u32 (q : Int)] 2 (Nat.le_refl _) (by unfold maxLen; omega) rfl⟩
theorem of_cast (x : Nat) : (x : Int) % 4294967296 = ((x % 4294967296 : Nat) : Int) ∧ (x : Int) / 4294967296 = ((x / 4294967296 : Nat) : Int) := by omega
set_option maxHeartbeats 400000 in
theorem of_any (x : Nat) (w : World) (hx : x < 18446744073709551616) :
    Calls Tryz.prog 210 #[.int .u64 (x : Int)] w fun e w' => ∃ v, e = .returned v ∧ Nat32 w' v x ∧ Below w.heap.size w w' := by
  have hp : x % 4294967296 < 4294967296 := by omega
  have hq : x / 4294967296 < 4294967296 := by omega
  have HV : Hid (val W32 [x % 4294967296, x / 4294967296] = x) := by
    show x % 4294967296 + 4294967296 * (x / 4294967296 + 4294967296 * 0) = x
    omega
  go_enter Tryz.func210, Tryz.ntmps210
  go_wp2_with fail
  rw [(of_cast x).1, (of_cast x).2]
  generalize x % 4294967296 = p at *
  generalize x / 4294967296 = q at *
  refine (trim_any [p, q] _ 2 2 _ _ (own_two w p q).rd (Ok.cons hp (Ok.cons hq Ok.nil)) (Nat.le_refl _) (by unfold maxLen; omega)).mono ?_
  rintro e w' ⟨m, rfl, hm, ht, rfl⟩
  rw [HV.out] at ht
  have HT := Lib.hid ht
  clear ht
  go_wp2
  go_ret
  exact ⟨_, rfl, Sl.of_rd (own_two w p q).rd hm (Nat.le_refl _) (by unfold maxLen; omega) HT.out, (Below.refl _ _).alloc (Nat.le_refl _) _⟩
theorem low_bits (p s : Nat) (hs : s < 32) : p * 2 ^ s % 4294967296 = (p % 2 ^ (32 - s)) * 2 ^ s := by
  have : (4294967296 : Nat) = 2 ^ (32 - s) * 2 ^ s := by rw [← Nat.pow_add, Nat.sub_add_cancel (by omega)]
  rw [this, Nat.mul_mod_mul_right]
theorem low_bound (p s h : Nat) (hs : s < 32) (hh : h < 2 ^ s) : h + p * 2 ^ s % 4294967296 < 4294967296 := by
  rw [low_bits p s hs]
  have h1 : p % 2 ^ (32 - s) + 1 ≤ 2 ^ (32 - s) := Nat.mod_lt _ (Nat.pow_pos (by omega))
  have h2 : (p % 2 ^ (32 - s) + 1) * 2 ^ s ≤ 2 ^ (32 - s) * 2 ^ s := Nat.mul_le_mul_right _ h1
  rw [← Nat.pow_add, Nat.sub_add_cancel (by omega), Nat.add_mul, Nat.one_mul] at h2
  omega
theorem low_or (p s h : Nat) (hs : s < 32) (hh : h < 2 ^ s) : h ||| p * 2 ^ s % 4294967296 = h + p * 2 ^ s % 4294967296 := by
  rw [low_bits p s hs, Nat.or_comm, ← Nat.shiftLeft_eq, ← Nat.shiftLeft_add_eq_or_of_lt hh, Nat.add_comm]
theorem shl_lt (p s : Nat) (hp : p < 4294967296) (hs : s < 32) : p * 2 ^ s < 9223372036854775808 := by
  have h1 : (2 : Nat) ^ s ≤ 2 ^ 31 := Nat.pow_le_pow_right (by omega) (by omega)
  have h2 : p * 2 ^ s ≤ 4294967295 * 2 ^ 31 := Nat.mul_le_mul (by omega) h1
  omega
theorem hi_lt (p s : Nat) (hp : p < 4294967296) : p * 2 ^ s / 4294967296 < 2 ^ s := by
  rw [Nat.div_lt_iff_lt_mul (by omega), Nat.mul_comm]
  exact Nat.mul_lt_mul_of_pos_left hp (Nat.pow_pos (by omega))
theorem shl_alg {V P S K Va Wj p h lo hi B : Nat} (hP : P = Wj * K) (hy : p * S = lo + B * hi) (hv : V + P * h = S * K * Va) :
    V + P * (h + lo) + P * B * hi = S * K * (Va + Wj * p) := by
  have e : P * lo + P * B * hi = S * K * (Wj * p) := by
    rw [Nat.mul_assoc, ← Nat.mul_add, ← hy, hP]
    simp only [Nat.mul_comm, Nat.mul_left_comm]
  rw [Nat.mul_add, Nat.mul_add (S * K)]
  omega
theorem pow32 (s : Nat) : ((2 ^ s : Nat) : Int) = 2 ^ s := Int.natCast_pow 2 s
theorem shl_wrap (p s : Nat) (hp : p < 4294967296) (hs : s < 32) : IntKind.u64.wrap ((p : Int) * 2 ^ s) = ((p * 2 ^ s : Nat) : Int) := by
  have h := shl_lt p s hp hs
  rw [← pow32, ← Int.natCast_mul]
  generalize p * 2 ^ s = y at *
  rw [IntKind.wrap_u64]
  omega
theorem or_u32 (a b : Nat) (ha : a < 4294967296) (hb : b < 4294967296) : bits .or .u32 (a : Int) (b : Int) = ((a ||| b : Nat) : Int) := by
  have h := u32_or (a : Int) (b : Int) (by omega) (by omega) (by omega) (by omega)
  rw [Int.toNat_natCast, Int.toNat_natCast] at h
  exact h
theorem shl_low (p s h : Nat) (hp : p < 4294967296) (hs : s < 32) (hh : h < 2 ^ s) :
    bits .or .u32 (h : Int) (IntKind.u64.wrap ((p : Int) * 2 ^ s) % 4294967296) = ((h + p * 2 ^ s % 4294967296 : Nat) : Int) := by
  have hb : h < 4294967296 := by have := low_bound p s h hs hh; omega
  rw [shl_wrap p s hp hs, (of_cast _).1, or_u32 _ _ hb (Nat.mod_lt _ (by omega)), low_or p s h hs hh]
theorem shl_high (p s : Nat) (hp : p < 4294967296) (hs : s < 32) :
    bits .or .u32 0 (IntKind.u64.wrap ((p : Int) * 2 ^ s) / 4294967296 % 4294967296) = ((p * 2 ^ s / 4294967296 : Nat) : Int) := by
  have h := hi_lt p s hp
  have h1 : (2 : Nat) ^ s ≤ 2 ^ 31 := Nat.pow_le_pow_right (by omega) (by omega)
  have hlt : p * 2 ^ s / 4294967296 < 4294967296 := by omega
  rw [shl_wrap p s hp hs, (of_cast _).2, (of_cast _).1, Nat.mod_eq_of_lt hlt]
  have h2 := or_u32 0 _ (by omega) hlt
  rw [Nat.zero_or] at h2
  exact h2
theorem shl_step {xs out : List Nat} {j k s h p : Nat} (hj : j + k + 1 < out.length) (hs : s < 32) (hp : p < 4294967296) (hx : xs.getD j 0 = p)
    (hv : val W32 (out.take (j + k)) + W32 ^ (j + k) * h = 2 ^ s * W32 ^ k * val W32 (xs.take j)) :
    val W32 ((((out.set (j + k) (h + p * 2 ^ s % 4294967296)).set (j + k + 1) (p * 2 ^ s / 4294967296)).take (j + 1 + k))) + W32 ^ (j + 1 + k) * (p * 2 ^ s / 4294967296) = 2 ^ s * W32 ^ k * val W32 (xs.take (j + 1)) := by
  rw [show j + 1 + k = j + k + 1 from by omega, take_set_lt _ _ _ _ (Nat.le_refl _), val_take_succ, val_take_succ, take_set_lt _ _ _ _ (Nat.le_refl _), getD_set_self _ _ _ (by omega), hx, Nat.pow_succ]
  exact shl_alg (Nat.pow_add _ _ _) (by rw [show W32 = 4294967296 from rfl]; omega) hv
theorem shl_end {xs out : List Nat} {l k s h x n : Nat} (hl : xs.length = l) (ho : out.length = l + k + 1) (hx : val W32 xs = x) (hn : n = 32 * k + s) (hh : out.getD (l + k) 0 = h)
    (hv : val W32 (out.take (l + k)) + W32 ^ (l + k) * h = 2 ^ s * W32 ^ k * val W32 (xs.take l)) : val W32 out = x * 2 ^ n := by
  have h1 := val_take_succ W32 out (l + k)
  rw [val_take_all W32 out (by omega), hh, hv, val_take_all W32 xs (by omega), hx] at h1
  rw [h1, hn, Nat.pow_add, Nat.pow_mul, show (2 : Nat) ^ 32 = W32 from rfl, Nat.mul_comm x, Nat.mul_comm (W32 ^ k)]
set_option maxHeartbeats 800000 in
theorem shl_any (x n : Nat) (va : Value) (w : World) (ha : Nat32 w va x) (hl : (digs W32 x).length ≤ 100000) (hn : n ≤ 100000) :
    Calls Tryz.prog 225 #[va, .int .i64 (n : Int)] w fun e w' => ∃ v, e = .returned v ∧ Nat32 w' v (x * 2 ^ n) ∧ Below w.heap.size w w' := by
  obtain ⟨A, c, rfl, hc, hm, hr⟩ := ha
  unfold maxLen at hm
  obtain ⟨k, s, hk, hs, hs32, HN⟩ : ∃ k s : Nat, (n : Int) / 32 = (k : Int) ∧ (n : Int) % 32 = (s : Int) ∧ s < 32 ∧ Hid (n = 32 * k + s) := ⟨n / 32, n % 32, by omega, by omega, by omega, by unfold Hid; omega⟩
  have hkb : k ≤ 100000 := by have := HN.out; omega
  have HX := Lib.hid (val_digs W32_gt x)
  have HO := Lib.hid (ok_digs W32_gt x)
  generalize digs W32 x = xs at *
  generalize hxl : xs.length = l at *
  have HL := Lib.hid hxl
  have HR := Lib.hid hr
  clear hxl hr
  by_cases h0 : l = 0
  · subst h0
    have hb0 : (((0 : Nat) : Int) == 0) = true := rfl
    have HX0 : Hid (x = 0) := by
      have h1 := HX.out
      rw [List.eq_nil_of_length_eq_zero HL.out] at h1
      exact h1.symm
    clear hk hs
    go_enter Tryz.func225, Tryz.ntmps225
    go_wp2
    go_ret
    refine ⟨_, rfl, ?_, Below.refl _ _⟩
    rw [HX0.out, Nat.zero_mul]
    unfold Nat32
    rw [digs_zero]
    exact (OwnV.nil_ (B := 0) (T := 0) w).sl
  have hb0 : ((l : Int) == 0) = false := beq_eq_false_iff_ne.2 (by omega)
  obtain ⟨i0, hi0, hz0, hz1, hz2⟩ := info_parts info_u32
  have HI := Lib.hid hi0
  have HZ0 := Lib.hid hz0
  have HZ1 := Lib.hid hz1
  have HZ2 := Lib.hid hz2
  clear hi0 hz0 hz1 hz2
  go_enter Tryz.func225, Tryz.ntmps225
  go_wp2_with (at_make; refine wpList_make_full _ rfl _ _ 22 rfl w.heap.size 89 i0 (.int .u32 0) 1 Tryz.underlying22 HI.out HZ0.out HZ1.out .i64 .i64 _ _ (l + k + 1) rfl rfl (by omega) (by omega) (by rw [HZ2.out]; omega) (by unfold maxLen; omega) (Nat.le_refl _) ?_; intro w1 hown1 hg1)
  have HOW := Lib.hid (Own.made hown1)
  have HB := Lib.hid ((Below.refl w.heap.size w).grown hg1 (Nat.le_refl _) (by simp))
  clear hown1 hg1
  go_loopg [21] l (fun g i wr => ∃ (j h : Nat) (out : List Nat), g + j = l ∧ i = .int .i64 (j : Int) ∧ h < 2 ^ s ∧ Hid (out.getD (j + k) 0 = h) ∧ Hid (Own .u32 89 wr w.heap.size w.heap.size (l + k + 1) (l + k + 1) out) ∧ Hid (Below w.heap.size w wr) ∧ Hid (val W32 (out.take (j + k)) + W32 ^ (j + k) * h = 2 ^ s * W32 ^ k * val W32 (xs.take j)) ∧ Hid (Ok W32 out) ∧ Hid (∀ q, j + k < q → out.getD q 0 = 0))
  case atStart =>
    refine ⟨0, 0, List.replicate (l + k + 1) 0, by omega, rfl, Nat.pow_pos (by omega), ?_, HOW.out, HB.out, ?_, ok_replicate (by decide), ?_⟩
    · exact getD_replicate _ _
    · show _ = _
      rw [List.take_replicate, val_replicate]; simp
    · exact fun q _ => getD_replicate _ _
  case round =>
    obtain ⟨j, h, out, hg, rfl, hh, HH, HOw, HBw, HV, HOo, HQ⟩ := hrel
    by_cases hj : j < l
    · obtain ⟨b, o, p, rfl, hb, hpe, hcell⟩ := (HR.out.below HBw.out).at_ (i := j) (by omega)
      have hp : p < 4294967296 := by rw [← hpe]; exact HO.out.getD (by decide) _
      have HP := Lib.hid hpe
      clear hpe
      have hy := HOw.out.cell (i := j + k) (by omega)
      rw [HH.out] at hy
      have hy2 := HOw.out.cell (i := j + k + 1) (by omega)
      rw [HQ.out _ (by omega)] at hy2
      have hf := HOw.out.frozen (j + k)
      have hf2 := HOw.out.frozen (j + k + 1)
      go_wp2
      go_roundg (gk - 1)
      case measure => omega
      case rel =>
        rw [shl_low p s h hp hs32 hh, shl_high p s hp hs32]
        have hlen : out.length = l + k + 1 := HOw.out.1
        refine ⟨j + 1, p * 2 ^ s / 4294967296, _, by omega, by go_num, hi_lt p s hp, ?_, (HOw.out.stored _ _).stored _ _, (HBw.out.setCell (Nat.le_refl _) _).setCell (Nat.le_refl _) _, shl_step (by omega) hs32 hp HP.out HV.out, ?_, ?_⟩
        · show _ = _
          rw [show j + 1 + k = j + k + 1 from by omega, getD_set_self _ _ _ (by simp; omega)]
        · have h1 := hi_lt p s hp
          have h2 : (2 : Nat) ^ s ≤ 2 ^ 31 := Nat.pow_le_pow_right (by omega) (by omega)
          exact (HOo.out.set (low_bound p s h hs32 hh)).set (by show _ < 4294967296; omega)
        · intro q hq
          rw [NumB.getD_set_ne _ _ _ _ (by omega), NumB.getD_set_ne _ _ _ _ (by omega)]
          exact HQ.out q (by omega)
    · obtain rfl : j = l := by omega
      go_wp2_with (go_at_call 269; refine (trim_any out _ (j + k + 1) (j + k + 1) _ _ HOw.out.rd HOo.out (Nat.le_refl _) (by unfold maxLen; omega)).mono ?_; rintro e w' ⟨m, rfl, hm', ht, rfl⟩)
      go_ret
      rw [shl_end HL.out HOw.out.1 HX.out HN.out HH.out HV.out] at ht
      exact ⟨_, rfl, Sl.of_rd HOw.out.rd hm' (Nat.le_refl _) (by unfold maxLen; omega) ht, HBw.out⟩
end Go.Proofs.YtkfnpcilanheiaaGreat

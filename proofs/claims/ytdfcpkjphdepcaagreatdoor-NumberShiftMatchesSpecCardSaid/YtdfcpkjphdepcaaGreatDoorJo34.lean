/- number.integers, at two numbers; number.whole. number.Gcd, at any two numbers. nat.Len. Conditions: at most 1000000 limbs. number.ToInt, at any number. The canonical number of an integer: plain facts. The canonical number of an integer: more plain facts. -/
import Derived.Test.YtdfcpkjphdepcaaGreatDoorShelf
import Derived.Test.YtdfcpkjphdepcaaGreatDoorJo2
import Derived.Test.YtdfcpkjphdepcaaGreatDoorJo10
import Derived.Test.YtdfcpkjphdepcaaGreatDoorJo23
import Derived.Test.YtdfcpkjphdepcaaGreatDoorJo28
import Derived.Test.YtdfcpkjphdepcaaGreatDoorJo33
set_option linter.unusedVariables false
set_option linter.unusedSimpArgs false
namespace Go.Proofs.YtdfcpkjphdepcaaGreatDoor
open Go.RowKit NumB
set_option linter.unusedVariables false
set_option linter.unusedSimpArgs false

/-- What integers answers at two numbers. -/
def intErr2 (a b : LN) : Int := if err2 a.err b.err = 0 then (if a.y = 1 ∧ b.y = 1 then 0 else 7) else err2 a.err b.err
theorem intErr2_bd (a b : LN) : 0 ≤ intErr2 a b ∧ intErr2 a b ≤ 7 := by
  have h : 0 ≤ err2 a.err b.err ∧ err2 a.err b.err ≤ 3 := err2_bd (checkL_bd _ _ _) (checkL_bd _ _ _)
  unfold intErr2
  split
  · split <;> omega
  · omega

set_option maxRecDepth 100000 in
set_option maxHeartbeats 3200000 in
theorem integers_two (a a' : LN) (b cap : Nat) (A1 A2 A3 A4 : Value) (w : World) (t : TypeId) (hg : Blk w b t #[.bool a.neg, A1, A2, .bool a'.neg, A3, A4]) (h : GV w (.agg #[.bool a.neg, A1, A2]) a) (h' : GV w (.agg #[.bool a'.neg, A3, A4]) a') :
    Calls Tryz.prog 18 #[.slice (some ⟨b, 0, none⟩) 2 cap] w fun e w' => e = .returned (.int .i64 (intErr2 a a')) ∧ Below w.heap.size w w' := by
  obtain ⟨_, g1, g2, gok⟩ := h.parts
  obtain ⟨_, g3, g4, gok'⟩ := h'.parts
  have HC : Hid (Calls Tryz.prog 46 #[.slice (some ⟨b, 0, none⟩) 2 cap] w fun e w' => e = .returned (.int .i64 (err2 a.err a'.err)) ∧ Below w.heap.size w w') := checks_two b cap a.neg a'.neg a.num a.den a'.num a'.den A1 A2 A3 A4 w t hg g1 g2 g3 g4 gok.1 gok.2 gok'.1 gok'.2
  have HBK := Lib.hid hg
  have hbd : 0 ≤ err2 a.err a'.err ∧ err2 a.err a'.err ≤ 3 := err2_bd (checkL_bd _ _ _) (checkL_bd _ _ _)
  obtain ⟨B1, n1, d1, B2, n2, d2, he, hq1, hq2⟩ := h.form
  clear hq1 hq2
  simp only [Value.agg.injEq, Array.mk.injEq, List.cons.injEq, and_true, true_and] at he
  obtain ⟨rfl, rfl⟩ := he
  obtain ⟨B3, n3, d3, B4, n4, d4, he, hq1, hq2⟩ := h'.form
  clear hq1 hq2
  simp only [Value.agg.injEq, Array.mk.injEq, List.cons.injEq, and_true, true_and] at he
  obtain ⟨rfl, rfl⟩ := he
  by_cases e0 : err2 a.err a'.err = 0
  · have HY : Hid (Nat32 w (.slice B2 n2 d2) a.y ∧ Nat32 w (.slice B4 n4 d4) a'.y) := by
      have h2 := (LN.good gok (err2_zero.1 e0).1).2.1
      have h4 := (LN.good gok' (err2_zero.1 e0).2).2.1
      refine ⟨?_, ?_⟩
      · unfold Nat32; rw [h2]; exact g2
      · unfold Nat32; rw [h4]; exact g4
    have HI : Hid (intErr2 a a' = if a.y = 1 ∧ a'.y = 1 then 0 else 7) := by unfold Hid intErr2; rw [if_pos e0]
    rw [e0] at HC
    generalize intErr2 a a' = r at *
    generalize a.y = y at *
    generalize a'.y = y' at *
    generalize a.neg = ng at *
    generalize a'.neg = ng' at *
    clear h h' g1 g2 g3 g4 gok gok' hg hbd e0
    go_enter Tryz.func18, Tryz.ntmps18
    go_wp2_with fail
    refine HC.out.mono ?_
    rintro e w1 ⟨rfl, hb1⟩
    have HB1 := Lib.hid hb1
    clear hb1
    go_wp2_with fail
    go_loopg [13, 5] 2 (fun gk s13 s5 wr => ∃ j : Nat, gk + j = 2 ∧ s13 = .int .i64 (j : Int) ∧ Hid ((0 < j → y = 1) ∧ (1 < j → y' = 1)) ∧ Hid (Below w.heap.size w wr))
    case atStart => exact ⟨0, by omega, rfl, ⟨by omega, by omega⟩, HB1.out⟩
    case round =>
      obtain ⟨j, hgj, rfl, HE, HB⟩ := hrel
      have hk := HBK.out.to HB.out
      have c0 := hk.cell 0
      have c1 := hk.cell 1
      have c2 := hk.cell 2
      have c3 := hk.cell 3
      have c4 := hk.cell 4
      have c5 := hk.cell 5
      simp only [List.getElem?_toArray, List.getElem?_cons_zero, List.getElem?_cons_succ] at c0 c1 c2 c3 c4 c5
      clear hk
      by_cases hj : j = 0
      · subst hj
        obtain rfl : gk = 2 := by omega
        clear hgj c3 c4 c5
        by_cases hy : y = 1
        · have HO := Lib.hid (oneB_true hy)
          have HY1 := Lib.hid hy
          clear hy
          go_wp2_with fail
          refine (isOne_any y _ _ (by exact (HY.out.1.to HB.out).to (below_one _ _))).mono ?_
          rintro e w3 ⟨he, rfl⟩
          rw [HO.out] at he
          subst he
          go_wp2_with fail
          go_roundg 1
          case measure => omega
          case rel => exact ⟨1, by omega, by go_num, ⟨fun _ => HY1.out, fun h => absurd h (by omega)⟩, HB.out.alloc HB.out.size _⟩
        · have HO := Lib.hid (oneB_false hy)
          have HY1 := Lib.hid hy
          clear hy
          go_wp2_with fail
          refine (isOne_any y _ _ (by exact (HY.out.1.to HB.out).to (below_one _ _))).mono ?_
          rintro e w3 ⟨he, rfl⟩
          rw [HO.out] at he
          subst he
          go_wp2_with fail
          go_ret
          rw [HI.out, if_neg (fun h => HY1.out h.1)]
          exact ⟨rfl, HB.out.alloc HB.out.size _⟩
      · by_cases hj1 : j = 1
        · subst hj1
          obtain rfl : gk = 1 := by omega
          clear hgj c0 c1 c2 hj
          by_cases hy : y' = 1
          · have HO := Lib.hid (oneB_true hy)
            have HY1 := Lib.hid hy
            clear hy
            go_wp2_with fail
            refine (isOne_any y' _ _ (by exact (HY.out.2.to HB.out).to (below_one _ _))).mono ?_
            rintro e w3 ⟨he, rfl⟩
            rw [HO.out] at he
            subst he
            go_wp2_with fail
            go_roundg 0
            case measure => omega
            case rel => exact ⟨2, by omega, by go_num, ⟨fun _ => HE.out.1 (by omega), fun _ => HY1.out⟩, HB.out.alloc HB.out.size _⟩
          · have HO := Lib.hid (oneB_false hy)
            have HY1 := Lib.hid hy
            clear hy
            go_wp2_with fail
            refine (isOne_any y' _ _ (by exact (HY.out.2.to HB.out).to (below_one _ _))).mono ?_
            rintro e w3 ⟨he, rfl⟩
            rw [HO.out] at he
            subst he
            go_wp2_with fail
            go_ret
            rw [HI.out, if_neg (fun h => HY1.out h.2)]
            exact ⟨rfl, HB.out.alloc HB.out.size _⟩
        · obtain rfl : j = 2 := by omega
          obtain rfl : gk = 0 := by omega
          have HY1 : Hid (y = 1 ∧ y' = 1) := ⟨HE.out.1 (by omega), HE.out.2 (by omega)⟩
          clear hgj hj hj1 c0 c1 c2 c3 c4 c5
          go_wp2_with fail
          go_ret
          rw [HI.out, if_pos HY1.out]
          exact ⟨rfl, HB.out⟩
  · have b0 : (err2 a.err a'.err != 0) = true := by rw [bne_iff_ne]; exact e0
    have HI : Hid (intErr2 a a' = err2 a.err a'.err) := by unfold Hid intErr2; rw [if_neg e0]
    generalize intErr2 a a' = r at *
    generalize err2 a.err a'.err = z at *
    clear h h' g1 g2 g3 g4 gok gok' hg e0
    go_enter Tryz.func18, Tryz.ntmps18
    go_wp2_with fail
    refine HC.out.mono ?_
    rintro e w1 ⟨rfl, hb1⟩
    have HB1 := Lib.hid hb1
    clear hb1
    go_wp2_with fail
    go_ret
    rw [HI.out]
    exact ⟨rfl, HB1.out⟩

set_option maxRecDepth 100000 in
set_option maxHeartbeats 3200000 in
theorem whole_S (neg : Bool) (x : Nat) (va : Value) (w : World) (ha : Nat32 w va x) (hx : (digs W32 x).length ≤ 50000) :
    Calls Tryz.prog 19 #[.bool neg, va] w (SPost w (fracS 0 neg x 1)) := by
  have HN := Lib.hid ha
  have HBK := Lib.hid (nilBlk w)
  have HM : Hid (∀ (W : World) (va vb : Value), Nat32 W va x → Nat32 W vb 1 → Calls Tryz.prog 49 #[.bool neg, va, vb] W (SPost W (fracS 0 neg x 1))) := fun W va vb h1 h2 => (made_any neg x 1 va vb W h1 h2 (by omega) hx (by rw [digs_one32]; decide)).mono fun _ _ h => FitPost.toS h
  generalize fracS 0 neg x 1 = r at *
  clear ha hx
  go_enter Tryz.func19, Tryz.ntmps19
  go_wp2_with fail
  refine (HM.out _ _ _ (by exact HN.out.to (below_two w _ _)) (by exact one32' _ _ (by simp))).mono ?_
  rintro e w1 ⟨v, rfl, hg, hb⟩
  have KC := Lib.hid ((HBK.out.alloc (.cells #[.int .u32 1] 45)).to hb)
  have HBE : Hid (Below w.heap.size w w1) := (below_two w _ _).trans (hb.mono (below_two w _ _).size)
  have HG := Lib.hid hg
  obtain ⟨C1, q1, r1, C2, q2, r2, rfl, hq1, hq2⟩ := hg.form
  have cc0 := KC.out.cell 0
  have cc1 := KC.out.cell 1
  have cc2 := KC.out.cell 2
  simp only [List.getElem?_toArray, List.getElem?_cons_zero, List.getElem?_cons_succ] at cc0 cc1 cc2
  have fc0 := KC.out.frozen 0
  have fc1 := KC.out.frozen 1
  have fc2 := KC.out.frozen 2
  clear hb hg hq1 hq2
  go_wp2_with fail
  refine bodyPost_ret (v := .tuple #[.agg #[.bool r.1.neg, .slice C1 q1 r1, .slice C2 q2 r2], .int .i64 r.2]) (by rw [results_cell_tmp rfl]; go_simp) rfl ?_
  exact ⟨_, rfl, HG.out.put3 KC.out _ _ _, put3_below HBE.out (Nat.le_refl _) _ _ _⟩
end Go.Proofs.YtdfcpkjphdepcaaGreatDoor
namespace Go.Proofs.YtdfcpkjphdepcaaGreatDoor
open Go.RowKit NumB
set_option linter.unusedVariables false
set_option linter.unusedSimpArgs false

/-- What Gcd answers. -/
def gcdS (a b : LN) : LN × Int := if intErr2 a b = 0 then fracS 0 false (Nat.gcd a.x b.x) 1 else (zeroL, intErr2 a b)
theorem intErr2_zero {a b : LN} : intErr2 a b = 0 ↔ (a.err = 0 ∧ b.err = 0) ∧ a.y = 1 ∧ b.y = 1 := by
  unfold intErr2
  by_cases h : err2 a.err b.err = 0
  · rw [if_pos h]
    have := err2_zero.1 h
    by_cases h2 : a.y = 1 ∧ b.y = 1
    · simp [h2, this]
    · rw [if_neg h2]; simp [h2]
  · rw [if_neg h]
    have : ¬ (a.err = 0 ∧ b.err = 0) := fun hh => h (err2_zero.2 hh)
    simp [h, this]
theorem blk_4 (w : World) (t : TypeId) (o1 o2 o3 : Obj) (c : Array Value) : Blk ((((w.alloc o1).alloc o2).alloc o3).alloc (.cells c t)) (w.heap.size + 1 + 1 + 1) t c := by
  have := Blk.new (((w.alloc o1).alloc o2).alloc o3) t c
  simpa using this
theorem below_4 (w : World) (o1 o2 o3 o4 : Obj) : Below w.heap.size w ((((w.alloc o1).alloc o2).alloc o3).alloc o4) := (below_3 w o1 o2 o3).alloc (by simp; omega) o4

end Go.Proofs.YtdfcpkjphdepcaaGreatDoor
namespace Go.Proofs.YtdfcpkjphdepcaaGreatDoor
open Go.RowKit NumB
set_option linter.unusedVariables false
set_option linter.unusedSimpArgs false

theorem bitLenAux_eq : ∀ (f x : Nat), x < 2 ^ f → Lib.bitLenAux f x = blen x
  | 0, x, h => by
    have : x = 0 := by simpa using h
    subst this; rfl
  | f + 1, x, h => by
    unfold Lib.bitLenAux
    rcases Nat.eq_zero_or_pos x with h0 | h0
    · subst h0; rfl
    · rw [if_neg (by omega), bitLenAux_eq f (x / 2) (by rw [Nat.pow_succ] at h; omega), blen_step h0]; omega
theorem bitLen_eq {x : Nat} (h : x < 18446744073709551616) : Lib.bitLen x = blen x := bitLenAux_eq 64 x h
theorem blen_top32 {x n t : Nat} (hn : (digs W32 x).length = n + 1) (ht : (digs W32 x).getD n 0 = t) : blen x = 32 * n + blen t := by
  have h1 := val_take_succ W32 (digs W32 x) n
  rw [val_take_all W32 _ (by omega), val_digs W32_gt, ht] at h1
  have h2 := val_take_lt (ok_digs W32_gt x) (j := n) (by omega)
  have ht0 : 0 < t := by
    rcases Nat.eq_zero_or_pos t with h | h
    · subst h
      have h3 := digs_ge W32_gt (n := x) (by intro h; subst h; rw [digs_zero] at hn; cases hn)
      rw [hn, Nat.add_sub_cancel] at h3
      omega
    · exact h
  have e : W32 ^ n = 2 ^ (32 * n) := by rw [Nat.pow_mul]; rfl
  rw [e] at h1 h2
  rw [h1]
  exact blen_shift ht0 h2

theorem blen_digs32 {x n : Nat} (h : (digs W32 x).length ≤ n) : blen x ≤ 32 * n := by
  refine blen_le (Nat.lt_of_lt_of_le (digs_lt W32_gt) ?_)
  rw [Nat.pow_mul]
  exact Nat.pow_le_pow_right (by decide) h
theorem pow_lenG {k m : Nat} (h : k < 32 * m) : (digs W32 (2 ^ k)).length ≤ m := by
  refine digs_len_le (k := m) W32_gt ?_
  have e : W32 ^ m = 2 ^ (32 * m) := by rw [Nat.pow_mul]; rfl
  rw [e]
  exact Nat.pow_lt_pow_right (by decide) h
theorem pow_len32 {k : Nat} (h : k ≤ 3000) : (digs W32 (2 ^ k)).length ≤ 200 := pow_lenG (by omega)

set_option maxRecDepth 100000 in
set_option maxHeartbeats 1600000 in
theorem len_any (x : Nat) (v : Value) (w : World) (h : Nat32 w v x) (hx : (digs W32 x).length ≤ 1000000) :
    Calls Tryz.prog 37 #[v] w fun e w' => e = .returned (.int .i64 (blen x : Int)) ∧ w' = w := by
  obtain ⟨A, c, rfl, hc, hm, hr⟩ := h
  unfold maxLen at hm
  have HT := Lib.hid (fun n t (hn : (digs W32 x).length = n + 1) (ht : (digs W32 x).getD n 0 = t) => blen_top32 hn ht)
  have HZ := Lib.hid (len_pos32 (x := x) rfl)
  have HO := Lib.hid (ok_digs W32_gt x)
  generalize digs W32 x = xs at *
  generalize hn : xs.length = n at *
  have HN := Lib.hid hn
  have HR := Lib.hid hr
  clear hn hr
  rcases Nat.eq_zero_or_pos n with h0 | h0
  · subst h0
    have HX0 : Hid (blen x = 0) := by
      have : ¬ 0 < x := fun h => absurd (HZ.out.2 h) (by omega)
      have e : x = 0 := by omega
      subst e; rfl
    go_enter Tryz.func37, Tryz.ntmps37
    go_wp2
    go_ret
    rw [HX0.out]
    exact ⟨rfl, rfl⟩
  · obtain ⟨b, o, t, rfl, hb, hte, hcell⟩ := HR.out.at_ (i := n - 1) (by omega)
    have htb : t < 4294967296 := by rw [← hte]; exact HO.out.getD (by decide) _
    have HB : Hid (blen x = 32 * (n - 1) + blen t) := HT.out (n - 1) t (by omega) hte
    have hn0 : ((n : Int) == 0) = false := beq_eq_false_iff_ne.2 (by omega)
    have htl : blen t ≤ 32 := blen_le (by omega)
    have HC : Hid (∀ W : World, Calls Tryz.prog 66 #[.int .u32 (t : Int)] W fun e w' => e = .returned (.int .i64 (blen t : Int)) ∧ w' = W) := fun W => by
      have := Tryz.bits_Len32 (t : Int) W (by omega) (by omega)
      rw [Int.toNat_natCast, bitLen_eq (by omega)] at this
      exact this
    obtain ⟨l, hl⟩ : ∃ l, blen t = l := ⟨_, rfl⟩
    rw [hl] at HB HC htl
    have hix : ((n : Int) - 1).toNat = n - 1 := by omega
    clear hte hl
    go_enter Tryz.func37, Tryz.ntmps37
    go_wp2_with fail
    refine (HC.out _).mono ?_
    rintro e w1 ⟨rfl, rfl⟩
    go_wp2
    go_ret
    have := HB.out
    have e1 : (32 * ((n : Int) - 1) + (l : Int)) = ((blen x : Nat) : Int) := by omega
    rw [← e1]
    exact ⟨rfl, rfl⟩
end Go.Proofs.YtdfcpkjphdepcaaGreatDoor
namespace Go.Proofs.YtdfcpkjphdepcaaGreatDoor
open Go.RowKit NumB
set_option linter.unusedVariables false
set_option linter.unusedSimpArgs false

/-- What ToInt answers. -/
def toIntS (a : LN) : Int × Int := if intErr a = 0 then (if a.neg then (if a.x ≤ 9223372036854775808 then (-(a.x : Int), 0) else (0, 3)) else (if a.x ≤ 9223372036854775807 then ((a.x : Int), 0) else (0, 3))) else (0, intErr a)
theorem intErr_zero {a : LN} : intErr a = 0 ↔ a.err = 0 ∧ a.y = 1 := by
  unfold intErr
  by_cases h : a.err = 0
  · by_cases h2 : a.y = 1
    · simp [h, h2]
    · simp [h, h2]
  · simp [h]
theorem intErr_bd (a : LN) : 0 ≤ intErr a ∧ intErr a ≤ 7 := by
  have h : 0 ≤ a.err ∧ a.err ≤ 3 := checkL_bd _ _ _
  unfold intErr
  split
  · split <;> omega
  · omega
theorem val_two {xs : List Nat} (h : xs.length ≤ 2) : val W32 xs = xs.getD 0 0 + 4294967296 * xs.getD 1 0 := by
  rcases xs with _ | ⟨a, _ | ⟨b, _ | ⟨c, l⟩⟩⟩
  · rfl
  · simp
  · simp [W32]
  · simp at h
theorem or_zero_u64 (p : Nat) (hp : p < 4294967296) : bits .or .u64 0 (p : Int) = (p : Int) := by
  have h := u64_or 0 (p : Int) (by omega) (by omega) (by omega) (by omega)
  rw [h]; simp

end Go.Proofs.YtdfcpkjphdepcaaGreatDoor
namespace Go.Proofs.YtdfcpkjphdepcaaGreatDoor
open Go.RowKit NumB
set_option linter.unusedVariables false
set_option linter.unusedSimpArgs false

/-- The canonical number of an integer. -/
def intL (s : Bool) (k : Nat) : LN := ⟨s && decide (0 < k), digs W32 k, digs W32 1⟩
theorem fracS_int {s : Bool} {k : Nat} (h : fitB k 1 = true) : fracS 0 s k 1 = (intL s k, 0) := by
  unfold fracS opS
  rw [Nat.gcd_one_right, Nat.div_one, Nat.div_one, if_pos rfl, h, if_pos rfl]
  rfl
theorem fit_64 {k : Nat} (h : k < 18446744073709551616) : fitB k 1 = true := decide_eq_true ⟨Nat.le_trans (digs_len_le (k := 2) W32_gt (by unfold W32; omega)) (by omega), by rw [digs_one32]; decide⟩
theorem intL_fit {s : Bool} {k : Nat} (h : fitB k 1 = true) : (intL s k).ok ∧ (intL s k).err = 0 := by
  have h1 := fracS_ok (s := s) (n := k) (d := 1) (by omega) (by rw [fracS_int h])
  rw [fracS_int h] at h1
  exact ⟨h1.1, h1.2.1⟩
theorem intL_ok (s : Bool) {k : Nat} (h : k < 18446744073709551616) : (intL s k).ok ∧ (intL s k).err = 0 := intL_fit (fit_64 h)
theorem intL_x (s : Bool) (k : Nat) : (intL s k).x = k := val_digs W32_gt k
theorem intL_y (s : Bool) (k : Nat) : (intL s k).y = 1 := val_digs W32_gt 1
theorem intL_int {s : Bool} {k : Nat} (h : k < 18446744073709551616) : intErr (intL s k) = 0 := intErr_zero.2 ⟨(intL_ok s h).2, intL_y s k⟩
theorem toIntS_pos {k : Nat} (h : k ≤ 9223372036854775807) : toIntS (intL false k) = ((k : Int), 0) := by
  unfold toIntS
  rw [if_pos (intL_int (by omega)), intL_x, show (intL false k).neg = false from rfl]
  simp [h]
theorem toIntS_neg {k : Nat} (h0 : 0 < k) (h : k ≤ 9223372036854775808) : toIntS (intL true k) = (-(k : Int), 0) := by
  unfold toIntS
  rw [if_pos (intL_int (by omega)), intL_x, show (intL true k).neg = true from by simp [intL, h0]]
  simp [h]
end Go.Proofs.YtdfcpkjphdepcaaGreatDoor
namespace Go.Proofs.YtdfcpkjphdepcaaGreatDoor
open Go.RowKit NumB
set_option linter.unusedVariables false
set_option linter.unusedSimpArgs false

theorem intL_rat (s : Bool) (k : Nat) : (intL s k).q = ((RatB.sg s k : Int) : Rat) := by
  unfold LN.q RatB.q
  rw [intL_x, intL_y, Rat.mkRat_one]
  show ((RatB.sg (s && decide (0 < k)) k : Int) : Rat) = _
  rw [RatB.sg_and]
/-- A valid integer is the canonical number of it. -/
theorem LN.as_int {a : LN} (ho : a.ok) (he : a.err = 0) (hy : a.y = 1) : a = intL a.neg a.x ∧ fitB a.x 1 = true ∧ (a.x = 0 → a.neg = false) := by
  obtain ⟨h1, h2, h3, h4, h5⟩ := LN.good ho he
  refine ⟨?_, decide_eq_true ⟨by rw [h1]; exact h3, by rw [digs_one32]; decide⟩, h5.2.2⟩
  have hn : (a.neg && decide (0 < a.x)) = a.neg := by
    rcases Nat.eq_zero_or_pos a.x with h | h
    · rw [h5.2.2 h]; rfl
    · simp [h]
  unfold intL
  rw [hn, h1, ← hy, h2]
theorem fit_le {x y : Nat} (h : fitB x 1 = true) (hl : y ≤ x) : fitB y 1 = true := by
  have := of_decide_eq_true (show decide _ = true from h)
  exact decide_eq_true ⟨Nat.le_trans (digs_len_mono W32_gt hl) this.1, this.2⟩
theorem fit_len {x : Nat} : fitB x 1 = true ↔ (digs W32 x).length ≤ 128 := by
  constructor
  · intro h; exact (of_decide_eq_true (show decide _ = true from h)).1
  · intro h; exact decide_eq_true ⟨h, by rw [digs_one32]; decide⟩
theorem opS_int {s : Bool} {k : Nat} (h : fitB k 1 = true) : opS 0 (s && decide (0 < k)) k 1 = (intL s k, 0) := by
  unfold opS
  rw [if_pos rfl, h, if_pos rfl]; rfl
theorem intL_neg {s : Bool} {k : Nat} (h : k = 0 → s = false) : (intL s k).neg = s := by
  show (s && decide (0 < k)) = s
  rcases Nat.eq_zero_or_pos k with h0 | h0
  · rw [h h0]; rfl
  · simp [h0]
theorem intL_eq {s t : Bool} {k : Nat} (h : 0 < k → s = t) : intL s k = intL t k := by
  unfold intL
  rcases Nat.eq_zero_or_pos k with h0 | h0
  · subst h0; simp
  · rw [h h0]
theorem bx_zero {b : LN} (hb : b.ok) (he : b.err = 0) : b.num.length = 0 ↔ b.x = 0 := by
  obtain ⟨h1, _⟩ := LN.good hb he
  rw [← h1]
  have := len_pos32 (x := b.x) (n := (digs W32 b.x).length) rfl
  omega
end Go.Proofs.YtdfcpkjphdepcaaGreatDoor

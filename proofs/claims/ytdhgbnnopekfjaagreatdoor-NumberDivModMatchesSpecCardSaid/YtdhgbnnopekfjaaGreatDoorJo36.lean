/- number.Sign; fetterlocklaw1.same. The greatest common divisor as the law asks for it: the program's and the document's answers agree, the quotients have no common divisor. number.FromInt, at any int. -/
import Derived.Test.YtdhgbnnopekfjaaGreatDoorJo3
import Derived.Test.YtdhgbnnopekfjaaGreatDoorJo10
import Derived.Test.YtdhgbnnopekfjaaGreatDoorJo19
import Derived.Test.YtdhgbnnopekfjaaGreatDoorJo23
import Derived.Test.YtdhgbnnopekfjaaGreatDoorJo24
import Derived.Test.YtdhgbnnopekfjaaGreatDoorJo29
import Derived.Test.YtdhgbnnopekfjaaGreatDoorJo35
set_option linter.unusedVariables false
set_option linter.unusedSimpArgs false
namespace Go.Proofs.YtdhgbnnopekfjaaGreatDoor
open Go.RowKit NumB
set_option linter.unusedVariables false
set_option linter.unusedSimpArgs false

/-- The sign of a valid number. -/
def signS (a : LN) : Int := if a.num.length = 0 then 0 else if a.neg then -1 else 1

set_option maxRecDepth 100000 in
set_option maxHeartbeats 3200000 in
theorem sign_S (a : LN) (v : Value) (w : World) (h : GV w v a) : Calls Tryz.prog 15 #[v] w fun e w' => e = .returned (.tuple #[.int .i64 (if a.err = 0 then signS a else 0), .int .i64 a.err]) ∧ Below w.heap.size w w' := by
  obtain ⟨A, B, rfl, ha, hb, ox, oy⟩ := h
  have HC : Hid (∀ o : Obj, Calls Tryz.prog 52 #[.agg #[.bool a.neg, A, B]] (w.alloc o) fun e w' => e = .returned (.int .i64 a.err) ∧ Below (w.alloc o).heap.size (w.alloc o) w') := fun o => check_any a.neg a.num a.den A B _ (ha.to (below_one _ _)) (hb.to (below_one _ _)) ox oy
  obtain ⟨A', ca, rfl, _⟩ := ha
  obtain ⟨B', cb, rfl, _⟩ := hb
  have hbd : 0 ≤ a.err ∧ a.err ≤ 3 := checkL_bd _ _ _
  have HE : Hid ((if a.err = 0 then signS a else 0) = if a.err = 0 then (if a.num.length = 0 then 0 else if a.neg then -1 else 1) else 0) := rfl
  generalize (if a.err = 0 then signS a else 0) = rs at *
  generalize a.err = er at *
  generalize a.num.length = n at *
  generalize a.den.length = m at *
  generalize a.neg = neg at *
  have HBK := Lib.hid (Blk.new w 24 #[.bool neg, .slice A' n ca, .slice B' m cb])
  by_cases he : er = 0
  · subst he
    rw [if_pos rfl] at HE
    by_cases hn : n = 0
    · subst hn
      rw [if_pos rfl] at HE
      go_enter Tryz.func15, Tryz.ntmps15
      go_wp2_with fail
      refine (HC.out _).mono ?_
      rintro e w1 ⟨rfl, hb1⟩
      have hk := HBK.out.to hb1
      have c0 := hk.cell 0
      have c1 := hk.cell 1
      simp only [List.getElem?_toArray, List.getElem?_cons_zero, List.getElem?_cons_succ] at c0 c1
      clear hk
      go_wp2_with fail
      go_ret2
      rw [HE.out]
      exact ⟨rfl, (below_one w _).trans (hb1.mono (below_one w _).size)⟩
    · rw [if_neg hn] at HE
      have hn0 : ((n : Int) == 0) = false := beq_eq_false_iff_ne.2 (by omega)
      cases neg <;> simp only [if_true, if_false, Bool.false_eq_true] at HE
      all_goals
        go_enter Tryz.func15, Tryz.ntmps15
        go_wp2_with fail
        refine (HC.out _).mono ?_
        rintro e w1 ⟨rfl, hb1⟩
        have hk := HBK.out.to hb1
        have c0 := hk.cell 0
        have c1 := hk.cell 1
        simp only [List.getElem?_toArray, List.getElem?_cons_zero, List.getElem?_cons_succ] at c0 c1
        clear hk
        go_wp2_with fail
        go_ret2
        rw [HE.out]
        exact ⟨rfl, (below_one w _).trans (hb1.mono (below_one w _).size)⟩
  · have he1 : (er != 0) = true := by rw [bne_iff_ne]; exact he
    rw [if_neg he] at HE
    clear he
    go_enter Tryz.func15, Tryz.ntmps15
    go_wp2_with fail
    refine (HC.out _).mono ?_
    rintro e w1 ⟨rfl, hb1⟩
    go_wp2_with fail
    go_ret2
    rw [HE.out]
    exact ⟨rfl, (below_one w _).trans (hb1.mono (below_one w _).size)⟩

set_option maxRecDepth 100000 in
set_option maxHeartbeats 3200000 in
theorem same_S (a b : LN) (va vb : Value) (w : World) (ha : GV w va a) (hb : GV w vb b) : Calls Tryz.prog 10 #[va, vb] w fun e w' => e = .returned (.bool (sameB a b)) ∧ Below w.heap.size w w' := by
  obtain ⟨A1, A2, rfl, h1, h2, _, _⟩ := ha
  obtain ⟨A3, A4, rfl, h3, h4, _, _⟩ := hb
  have HB2 : Hid (∀ o1 o2 : Obj, Below w.heap.size w ((w.alloc o1).alloc o2)) := fun o1 o2 => (below_one w o1).alloc (by simp) o2
  have HS1 : Hid (∀ (W : World), Below w.heap.size w W → Calls Tryz.prog 45 #[A1, A3] W fun e w' => e = .returned (.bool (eqB a.num b.num)) ∧ ∃ m, w' = W.drewN m) := fun W hW => sameLimbs_any a.num b.num A1 A3 W (h1.to hW) (h3.to hW)
  have HS2 : Hid (∀ (W : World), Below w.heap.size w W → Calls Tryz.prog 45 #[A2, A4] W fun e w' => e = .returned (.bool (eqB a.den b.den)) ∧ ∃ m, w' = W.drewN m) := fun W hW => sameLimbs_any a.den b.den A2 A4 W (h2.to hW) (h4.to hW)
  obtain ⟨B1, c1, rfl, _⟩ := h1
  obtain ⟨B2, c2, rfl, _⟩ := h2
  obtain ⟨B3, c3, rfl, _⟩ := h3
  obtain ⟨B4, c4, rfl, _⟩ := h4
  have HE : Hid (sameB a b = ((a.neg == b.neg) && (eqB a.num b.num && eqB a.den b.den))) := rfl
  generalize sameB a b = r at *
  generalize eqB a.num b.num = p at *
  generalize eqB a.den b.den = q at *
  generalize a.num.length = n1 at *
  generalize a.den.length = n2 at *
  generalize b.num.length = n3 at *
  generalize b.den.length = n4 at *
  generalize a.neg = na at *
  generalize b.neg = nb at *
  by_cases hn : na = nb
  · have hn1 : (na == nb) = true := by simp [hn]
    rw [hn1] at HE
    subst hn
    cases p with
    | true =>
      go_enter Tryz.func10, Tryz.ntmps10
      go_wp2_with fail
      refine (HS1.out _ (by exact HB2.out _ _)).mono ?_
      rintro e w1 ⟨rfl, k1, rfl⟩
      go_wp2_with fail
      refine (HS2.out _ (by exact below_drewN (HB2.out _ _) _)).mono ?_
      rintro e w1 ⟨rfl, k2, rfl⟩
      go_wp2_with fail
      go_ret
      rw [HE.out]
      exact ⟨by cases q <;> rfl, below_drewN (HB2.out _ _) _⟩
    | false =>
      go_enter Tryz.func10, Tryz.ntmps10
      go_wp2_with fail
      refine (HS1.out _ (by exact HB2.out _ _)).mono ?_
      rintro e w1 ⟨rfl, k1, rfl⟩
      go_wp2_with fail
      go_ret
      rw [HE.out]
      exact ⟨rfl, below_drewN (HB2.out _ _) _⟩
  · have hn1 : (na == nb) = false := by simp [hn]
    rw [hn1] at HE
    clear hn
    go_enter Tryz.func10, Tryz.ntmps10
    go_wp2_with fail
    go_ret
    rw [HE.out]
    exact ⟨rfl, HB2.out _ _⟩
end Go.Proofs.YtdhgbnnopekfjaaGreatDoor
namespace Go.Proofs.YtdhgbnnopekfjaaGreatDoor
open Go.RowKit NumB
set_option linter.unusedVariables false
set_option linter.unusedSimpArgs false

theorem intL_q (s : Bool) (k : Nat) : (intL s k).q = ((RatB.sg s k : Int) : Rat) := by
  unfold LN.q RatB.q
  rw [intL_x, intL_y, Rat.mkRat_one]
  show ((RatB.sg (s && decide (0 < k)) k : Int) : Rat) = _
  rw [RatB.sg_and]
/-- A valid integer is the canonical number of it. -/
theorem LN.int_eq {a : LN} (ho : a.ok) (he : a.err = 0) (hy : a.y = 1) : a = intL a.neg a.x ∧ fitB a.x 1 = true := by
  obtain ⟨h1, h2, h3, h4, h5⟩ := LN.good ho he
  refine ⟨?_, decide_eq_true ⟨by rw [h1]; exact h3, by rw [digs_one32]; decide⟩⟩
  have hn : (a.neg && decide (0 < a.x)) = a.neg := by
    rcases Nat.eq_zero_or_pos a.x with h | h
    · rw [h5.2.2 h]; rfl
    · simp [h]
  unfold intL
  rw [hn, h1, ← hy, h2]
theorem fit_mono {x y : Nat} (h : fitB x 1 = true) (hl : y ≤ x) : fitB y 1 = true := by
  have := of_decide_eq_true (show decide _ = true from h)
  exact decide_eq_true ⟨Nat.le_trans (digs_len_mono W32_gt hl) this.1, this.2⟩
theorem intL_len (s : Bool) {k : Nat} (h : 0 < k) : (intL s k).num.length ≠ 0 := by
  show (digs W32 k).length ≠ 0
  have := val_digs W32_gt k
  intro h0
  rw [List.length_eq_zero_iff.1 h0] at this
  have : val W32 [] = 0 := rfl
  omega
theorem intL_zero_len (s : Bool) : (intL s 0).num.length = 0 := by
  show (digs W32 0).length = 0
  rw [digs_zero]; rfl
theorem rtwoGS_eq (a b : LN) : rtwoGS 103 a b = gcdS a b := by
  have hf : fracS 0 false (Nat.gcd a.x b.x) 1 = rtwoGSI 103 a b := by
    unfold fracS rtwoGSI
    rw [Nat.gcd_one_right, Nat.div_one, Nat.div_one]
  unfold rtwoGS gcdS intErr2
  by_cases h : err2 a.err b.err = 0
  · by_cases h2 : a.y = 1 ∧ b.y = 1
    · simp [h, h2, hf]
    · simp [h, h2]
  · simp [h]
theorem intL_same (s : Bool) (k : Nat) : intL (intL s k).neg (intL s k).x = intL s k := by
  unfold intL LN.x
  simp [val_digs W32_gt]
/-- Division of an integer by a divisor of it. -/
theorem divS_int {s : Bool} {x g : Nat} (hg : 0 < g) (hd : g ∣ x) (hx : fitB x 1 = true) (hgf : fitB g 1 = true) : divS (intL s x) (intL false g) = (intL s (x / g), 0) := by
  have h1 := intL_fit (s := s) hx
  have h2 := intL_fit (s := false) hgf
  have h3 := intL_fit (s := s) (fit_mono hx (Nat.div_le_self x g))
  refine divS_eq h1.1 h2.1 h3.1 h1.2 h2.2 h3.2 (intL_len _ hg) ?_
  rw [intL_q, intL_q, intL_q, ← Rat.intCast_mul]
  congr 1
  have := Nat.div_mul_cancel hd
  unfold RatB.sg
  cases s with
  | false => simp only [Bool.false_eq_true, if_false]; rw [← Int.natCast_mul, this]
  | true => simp only [if_true, Bool.false_eq_true, if_false]; rw [Int.neg_mul, ← Int.natCast_mul, this]
theorem gcdS_int {s t : Bool} {x y : Nat} (hx : fitB x 1 = true) (hy : fitB y 1 = true) (hg : fitB (Nat.gcd x y) 1 = true) : gcdS (intL s x) (intL t y) = (intL false (Nat.gcd x y), 0) := by
  unfold gcdS
  rw [if_pos (intErr2_zero.2 ⟨⟨(intL_fit hx).2, (intL_fit hy).2⟩, intL_y _ _, intL_y _ _⟩), intL_x, intL_x]
  exact fracS_int hg
theorem gcd_fit {x y : Nat} (hx : fitB x 1 = true) (hy : fitB y 1 = true) : fitB (Nat.gcd x y) 1 = true := by
  rcases Nat.eq_zero_or_pos x with h | h
  · rw [h, Nat.gcd_zero_left]; exact hy
  · exact fit_mono hx (Nat.gcd_le_left _ h)
/-- What the law asks. -/
theorem gcd_law {a b : LN} (ha : a.ok) (hb : b.ok) : ((gcdS a b).2 ≠ 0 ∧ (gcdS a b).1 = zeroL) ∨ ((gcdS a b).2 = 0 ∧ (gcdS a b).1.err = 0 ∧ (signS (gcdS a b).1 = 0 ∨ (signS (gcdS a b).1 = 1 ∧ ∃ x y : LN, divS a (gcdS a b).1 = (x, 0) ∧ divS b (gcdS a b).1 = (y, 0) ∧ gcdS x y = (intL false 1, 0)))) := by
  by_cases h : intErr2 a b = 0
  · right
    obtain ⟨⟨ea, eb⟩, ya, yb⟩ := intErr2_zero.1 h
    obtain ⟨e1, f1⟩ := LN.int_eq ha ea ya
    obtain ⟨e2, f2⟩ := LN.int_eq hb eb yb
    generalize a.neg = s at *
    generalize a.x = x at *
    generalize b.neg = t at *
    generalize b.x = y at *
    subst e1 e2
    have hg := gcd_fit f1 f2
    rw [gcdS_int f1 f2 hg]
    refine ⟨rfl, (intL_fit hg).2, ?_⟩
    rcases Nat.eq_zero_or_pos (Nat.gcd x y) with h0 | h0
    · left
      show signS (intL false (Nat.gcd x y)) = 0
      rw [h0]; unfold signS; rw [if_pos (intL_zero_len _)]
    · right
      refine ⟨?_, intL s (x / Nat.gcd x y), intL t (y / Nat.gcd x y), divS_int h0 (Nat.gcd_dvd_left _ _) f1 hg, divS_int h0 (Nat.gcd_dvd_right _ _) f2 hg, ?_⟩
      · show signS (intL false (Nat.gcd x y)) = 1
        unfold signS; rw [if_neg (intL_len _ h0)]; rfl
      · have h1 : Nat.gcd (x / Nat.gcd x y) (y / Nat.gcd x y) = 1 := by rw [Nat.gcd_div (Nat.gcd_dvd_left x y) (Nat.gcd_dvd_right x y), Nat.div_self h0]
        have := gcdS_int (s := s) (t := t) (fit_mono f1 (Nat.div_le_self x (Nat.gcd x y))) (fit_mono f2 (Nat.div_le_self y (Nat.gcd x y))) (by rw [h1]; exact fit_64 (by decide))
        rw [h1] at this
        exact this
  · left
    unfold gcdS
    rw [if_neg h]
    exact ⟨h, rfl⟩
end Go.Proofs.YtdhgbnnopekfjaaGreatDoor
namespace Go.Proofs.YtdhgbnnopekfjaaGreatDoor
open Go.RowKit NumB
set_option linter.unusedVariables false
set_option linter.unusedSimpArgs false

theorem small64 {k : Nat} (h : k < 18446744073709551616) : (digs W32 k).length ≤ 50000 := Nat.le_trans (digs_len_le (k := 2) W32_gt (by unfold W32; omega)) (by omega)

set_option maxRecDepth 100000 in
set_option maxHeartbeats 1600000 in
theorem fromInt_pos (k : Nat) (w : World) (h : k < 9223372036854775808) : Calls Tryz.prog 17 #[.int .i64 (k : Int)] w (RawPost w (false && decide (0 < k)) k 1) := by
  have HO : Hid (∀ W : World, Calls Tryz.prog 54 #[.int .u64 (k : Int)] W fun e w' => ∃ v, e = .returned v ∧ Nat32 w' v k ∧ Below W.heap.size W w') := fun W => of_any k W (by omega)
  have HR : Hid (∀ (W : World) (va vb : Value), Nat32 W va k → Nat32 W vb 1 → Calls Tryz.prog 53 #[.bool false, va, vb] W (RawPost W (false && decide (0 < k)) k 1)) := fun W va vb h1 h2 => by
    have h := raw_any false k 1 va vb W h1 h2 (by omega) (small64 (by omega)) (by rw [digs_one32]; decide)
    rw [Nat.gcd_one_right, Nat.div_one, Nat.div_one] at h
    exact h
  have HBK := Lib.hid (nilBlk w)
  generalize (false && decide (0 < k)) = sg at *
  have hlt : decide ((k : Int) < 0) = false := decide_eq_false (by omega)
  have hwr : IntKind.u64.wrap (k : Int) = (k : Int) := by rw [IntKind.wrap_u64]; omega
  go_enter Tryz.func17, Tryz.ntmps17
  go_wp2_with fail
  refine (HO.out _).mono ?_
  rintro e w1 ⟨v1, rfl, hn1, hb1⟩
  have HN1 := Lib.hid hn1
  obtain ⟨C1, n1, d1, rfl, hq⟩ := hn1.form
  have HB1 := Lib.hid hb1
  clear hq hn1 hb1
  go_wp2_with fail
  refine (HR.out _ _ _ (by exact HN1.out.to (below_one w1 _)) (by exact one32 w1)).mono ?_
  rintro e w2 ⟨v2, rfl, hn2, hb2⟩
  obtain ⟨C2, n2, d2, C3, n3, d3, rfl, hq1, hq2⟩ := hn2.form
  clear hq1 hq2
  have hblk := ((HBK.out.to HB1.out).to (below_one w1 _)).to hb2
  have hc0 := hblk.cell 0
  have hc1 := hblk.cell 1
  have hc2 := hblk.cell 2
  have hf0 := hblk.frozen 0
  have hf1 := hblk.frozen 1
  have hf2 := hblk.frozen 2
  simp only [List.getElem?_toArray, List.getElem?_cons_zero, List.getElem?_cons_succ] at hc0 hc1 hc2
  have HN2 := Lib.hid hn2
  have HBL := Lib.hid hblk
  have HB2 : Hid (Below w.heap.size w w2) := (((below_one w _).trans (HB1.out.mono (below_one w _).size)).trans ((below_one w1 _).mono (Nat.le_trans (below_one w _).size HB1.out.size))).trans (hb2.mono (Nat.le_trans (Nat.le_trans (below_one w _).size HB1.out.size) (below_one w1 _).size))
  clear hn2 hblk hb2
  go_wp2_with fail
  refine bodyPost_ret (v := .agg #[.bool sg, .slice C2 n2 d2, .slice C3 n3 d3]) (by simp [results, Tryz.results17, go_sem, hc0, hc1, hc2]) rfl ⟨_, rfl, ?_, ?_⟩
  · exact NumV.put3 (w := w2) HN2.out HBL.out _ _ _
  · exact put3_below HB2.out (Nat.le_refl _) _ _ _

set_option maxRecDepth 100000 in
set_option maxHeartbeats 1600000 in
theorem fromInt_neg (k : Nat) (w : World) (h0 : 0 < k) (h : k ≤ 9223372036854775808) : Calls Tryz.prog 17 #[.int .i64 (-(k : Int))] w (RawPost w (true && decide (0 < k)) k 1) := by
  have HO : Hid (∀ W : World, Calls Tryz.prog 54 #[.int .u64 (k : Int)] W fun e w' => ∃ v, e = .returned v ∧ Nat32 w' v k ∧ Below W.heap.size W w') := fun W => of_any k W (by omega)
  have HR : Hid (∀ (W : World) (va vb : Value), Nat32 W va k → Nat32 W vb 1 → Calls Tryz.prog 53 #[.bool true, va, vb] W (RawPost W (true && decide (0 < k)) k 1)) := fun W va vb h1 h2 => by
    have h := raw_any true k 1 va vb W h1 h2 (by omega) (small64 (by omega)) (by rw [digs_one32]; decide)
    rw [Nat.gcd_one_right, Nat.div_one, Nat.div_one] at h
    exact h
  have HBK := Lib.hid (nilBlk w)
  generalize (true && decide (0 < k)) = sg at *
  obtain ⟨m, hm, hmb⟩ : ∃ m : Nat, IntKind.u64.wrap (-(k : Int)) = (m : Int) ∧ m + k = 18446744073709551616 := ⟨18446744073709551616 - k, by rw [IntKind.wrap_u64]; omega, by omega⟩
  have hm2 : IntKind.u64.wrap (-(m : Int)) = (k : Int) := by rw [IntKind.wrap_u64]; omega
  have hlt : decide (-(k : Int) < 0) = true := decide_eq_true (by omega)
  go_enter Tryz.func17, Tryz.ntmps17
  go_wp2_with fail
  refine (HO.out _).mono ?_
  rintro e w1 ⟨v1, rfl, hn1, hb1⟩
  have HN1 := Lib.hid hn1
  obtain ⟨C1, n1, d1, rfl, hq⟩ := hn1.form
  have HB1 := Lib.hid hb1
  clear hq hn1 hb1
  go_wp2_with fail
  refine (HR.out _ _ _ (by exact HN1.out.to (below_one w1 _)) (by exact one32 w1)).mono ?_
  rintro e w2 ⟨v2, rfl, hn2, hb2⟩
  obtain ⟨C2, n2, d2, C3, n3, d3, rfl, hq1, hq2⟩ := hn2.form
  clear hq1 hq2
  have hblk := ((HBK.out.to HB1.out).to (below_one w1 _)).to hb2
  have hc0 := hblk.cell 0
  have hc1 := hblk.cell 1
  have hc2 := hblk.cell 2
  have hf0 := hblk.frozen 0
  have hf1 := hblk.frozen 1
  have hf2 := hblk.frozen 2
  simp only [List.getElem?_toArray, List.getElem?_cons_zero, List.getElem?_cons_succ] at hc0 hc1 hc2
  have HN2 := Lib.hid hn2
  have HBL := Lib.hid hblk
  have HB2 : Hid (Below w.heap.size w w2) := (((below_one w _).trans (HB1.out.mono (below_one w _).size)).trans ((below_one w1 _).mono (Nat.le_trans (below_one w _).size HB1.out.size))).trans (hb2.mono (Nat.le_trans (Nat.le_trans (below_one w _).size HB1.out.size) (below_one w1 _).size))
  clear hn2 hblk hb2
  go_wp2_with fail
  refine bodyPost_ret (v := .agg #[.bool sg, .slice C2 n2 d2, .slice C3 n3 d3]) (by simp [results, Tryz.results17, go_sem, hc0, hc1, hc2]) rfl ⟨_, rfl, ?_, ?_⟩
  · exact NumV.put3 (w := w2) HN2.out HBL.out _ _ _
  · exact put3_below HB2.out (Nat.le_refl _) _ _ _
end Go.Proofs.YtdhgbnnopekfjaaGreatDoor

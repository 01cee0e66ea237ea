/- fetterlockref1.FromInt, at any int. The canonical number of an integer: plain facts. The canonical number of an integer: more plain facts. number.Sign; fetterlocklaw1.same. The frame of a law: arguments read again, the post where only new memory was made; a number that came in, opened. -/
import Derived.Test.YtdhgbnnopekfjaaDoorRows
import Derived.WalkKit
import Derived.ProofKit
import Derived.OpenShut
import Derived.Lib.SmallJoins
import Derived.Deep.DeepHandedRow
import Derived.Lay
import Derived.Test.YtdhgbnnopekfjaaDoorJo2
import Derived.Test.YtdhgbnnopekfjaaDoorJo19
import Derived.Test.YtdhgbnnopekfjaaDoorJo24
import Derived.Test.YtdhgbnnopekfjaaDoorJo28
import Derived.Test.YtdhgbnnopekfjaaDoorJo31
set_option linter.unusedVariables false
set_option linter.unusedSimpArgs false
namespace Go.Proofs.YtdhgbnnopekfjaaDoor
open Go.RowKit NumB
set_option linter.unusedVariables false
set_option linter.unusedSimpArgs false

theorem results_cell1 {fn : Func} {p : Tmp} {ty : TypeId} (h : fn.results = #[.cell p ty]) (tmps : Array Value) (P : Program) (w : World) :
    (results fn tmps).run P w = ((asAddr (tmps.getD p undef)).run P w).andThen fun a w₁ => (loadVar ty a).run P w₁ := by
  simp only [results, h]
  simp [Sem.run_bind, Result.andThen]
theorem small16 {k : Nat} (h : k < 18446744073709551616) : (digs W16 k).length ≤ 100000 := Nat.le_trans (digs_len_le (k := 4) W16_gt (by unfold W16; omega)) (by omega)
theorem fit_small {k : Nat} (h : k < 18446744073709551616) : fitB k 1 = true := decide_eq_true ⟨Nat.le_trans (digs_len_le (k := 2) W32_gt (by unfold W32; omega)) (by omega), by rw [digs_one32]; decide⟩

set_option maxRecDepth 100000 in
set_option maxHeartbeats 1600000 in
theorem rfromInt_pos (k : Nat) (w : World) (h : k < 9223372036854775808) : Calls Tryd.prog 18 #[.int .i64 (k : Int)] w (RawPost w (false && decide (0 < k)) k 1) := by
  have HO : Hid (∀ W : World, Calls Tryd.prog 51 #[.int .u64 (k : Int)] W (RPost W k)) := fun W => rofInt_any k W (by omega)
  have HW : Hid (∀ (W : World) (v : Value), Nat16 W v k → Calls Tryd.prog 43 #[.bool false, v] W (RVPost W (false && decide (0 < k)) k 1)) := fun W v h => rwhole_any false k v W h
  have HM : Hid (∀ (W : World) (v : Value) (s : Bool), RV W v s k 1 → Calls Tryd.prog 37 #[v] W fun e w' => ∃ v, e = .returned (.tuple #[v, .int .i64 0]) ∧ NumV w' v s k 1 ∧ Below W.heap.size W w') := fun W v s h => (rmade_any s k 1 v W h (small16 (by omega)) (by rw [digs_one16]; decide)).mono fun e w' hp => by
    rcases hp with ⟨_, v, h1, h2, h3⟩ | ⟨hf, _⟩
    · exact ⟨v, h1, h2, h3⟩
    · rw [fit_small (by omega)] at hf; cases hf
  have HBK := Lib.hid (nilBlk w)
  generalize (false && decide (0 < k)) = sg at *
  have hlt0 : decide ((k : Int) < 0) = false := decide_eq_false (by omega)
  have hwr : IntKind.u64.wrap (k : Int) = (k : Int) := by rw [IntKind.wrap_u64]; omega
  go_enter Tryd.func18, Tryd.ntmps18
  go_wp2_with fail
  refine (HO.out _).mono ?_
  rintro e w1 ⟨v1, rfl, hn1, hb1⟩
  have HN1 := Lib.hid hn1
  obtain ⟨C1, n1, d1, rfl, hq⟩ := hn1.form
  have HBL1 := Lib.hid (HBK.out.to hb1)
  have HB1 : Hid (Below w.heap.size w w1) := (below_one w _).trans (hb1.mono (below_one w _).size)
  clear hq hn1 hb1 HBK
  go_wp2_with fail
  refine (HW.out _ _ (by exact HN1.out)).mono ?_
  rintro e w2 ⟨v2, rfl, hn2, hb2⟩
  have HN2 := Lib.hid hn2
  have HBL2 := Lib.hid (HBL1.out.to hb2)
  have HB2 : Hid (Below w.heap.size w w2) := HB1.out.trans (hb2.mono HB1.out.size)
  clear hn2 hb2 HBL1 HB1
  go_wp2_with fail
  refine (HM.out _ _ _ (by exact HN2.out)).mono ?_
  rintro e w3 ⟨v3, rfl, hn3, hb3⟩
  have HN3 := Lib.hid hn3
  obtain ⟨C2, n2, d2, C3, n3, d3, rfl, hq1, hq2⟩ := hn3.form
  have HB3 : Hid (Below w.heap.size w w3) := HB2.out.trans (hb3.mono HB2.out.size)
  have hblk1 := HBL2.out.to hb3
  have hlt := hblk1.lt
  have hc0 := hblk1.cell 0
  have hc1 := hblk1.cell 1
  have hc2 := hblk1.cell 2
  have hf0 := hblk1.frozen 0
  have hf1 := hblk1.frozen 1
  have hf2 := hblk1.frozen 2
  simp only [List.getElem?_toArray, List.getElem?_cons_zero, List.getElem?_cons_succ] at hc0 hc1 hc2
  have HBL := Lib.hid hblk1
  clear hq1 hq2 hn3 hb3 hblk1 HBL2 HB2 HN1 HN2
  go_wp2_with fail
  refine bodyPost_ret (v := .agg #[.bool sg, .slice C2 n2 d2, .slice C3 n3 d3]) (by rw [results_cell1 rfl]; go_simp) rfl ⟨_, rfl, ?_, ?_⟩
  · exact (NumV.put3 (w := w3) HN3.out HBL.out _ _ _).to (below_one _ _)
  · exact (put3_below HB3.out (Nat.le_refl _) _ _ _).trans ((below_one _ _).mono (put3_below HB3.out (Nat.le_refl _) _ _ _).size)

set_option maxRecDepth 100000 in
set_option maxHeartbeats 1600000 in
theorem rfromInt_neg (k : Nat) (w : World) (h0 : 0 < k) (h : k ≤ 9223372036854775808) : Calls Tryd.prog 18 #[.int .i64 (-(k : Int))] w (RawPost w (true && decide (0 < k)) k 1) := by
  have HO : Hid (∀ W : World, Calls Tryd.prog 51 #[.int .u64 (k : Int)] W (RPost W k)) := fun W => rofInt_any k W (by omega)
  have HW : Hid (∀ (W : World) (v : Value), Nat16 W v k → Calls Tryd.prog 43 #[.bool true, v] W (RVPost W (true && decide (0 < k)) k 1)) := fun W v h => rwhole_any true k v W h
  have HM : Hid (∀ (W : World) (v : Value) (s : Bool), RV W v s k 1 → Calls Tryd.prog 37 #[v] W fun e w' => ∃ v, e = .returned (.tuple #[v, .int .i64 0]) ∧ NumV w' v s k 1 ∧ Below W.heap.size W w') := fun W v s h => (rmade_any s k 1 v W h (small16 (by omega)) (by rw [digs_one16]; decide)).mono fun e w' hp => by
    rcases hp with ⟨_, v, h1, h2, h3⟩ | ⟨hf, _⟩
    · exact ⟨v, h1, h2, h3⟩
    · rw [fit_small (by omega)] at hf; cases hf
  have HBK := Lib.hid (nilBlk w)
  generalize (true && decide (0 < k)) = sg at *
  obtain ⟨m, hm, hmb⟩ : ∃ m : Nat, IntKind.u64.wrap (-(k : Int)) = (m : Int) ∧ m + k = 18446744073709551616 := ⟨18446744073709551616 - k, by rw [IntKind.wrap_u64]; omega, by omega⟩
  have hm2 : IntKind.u64.wrap (-(m : Int)) = (k : Int) := by rw [IntKind.wrap_u64]; omega
  have hlt0 : decide (-(k : Int) < 0) = true := decide_eq_true (by omega)
  go_enter Tryd.func18, Tryd.ntmps18
  go_wp2_with fail
  refine (HO.out _).mono ?_
  rintro e w1 ⟨v1, rfl, hn1, hb1⟩
  have HN1 := Lib.hid hn1
  obtain ⟨C1, n1, d1, rfl, hq⟩ := hn1.form
  have HBL1 := Lib.hid (HBK.out.to hb1)
  have HB1 : Hid (Below w.heap.size w w1) := (below_one w _).trans (hb1.mono (below_one w _).size)
  clear hq hn1 hb1 HBK
  go_wp2_with fail
  refine (HW.out _ _ (by exact HN1.out)).mono ?_
  rintro e w2 ⟨v2, rfl, hn2, hb2⟩
  have HN2 := Lib.hid hn2
  have HBL2 := Lib.hid (HBL1.out.to hb2)
  have HB2 : Hid (Below w.heap.size w w2) := HB1.out.trans (hb2.mono HB1.out.size)
  clear hn2 hb2 HBL1 HB1
  go_wp2_with fail
  refine (HM.out _ _ _ (by exact HN2.out)).mono ?_
  rintro e w3 ⟨v3, rfl, hn3, hb3⟩
  have HN3 := Lib.hid hn3
  obtain ⟨C2, n2, d2, C3, n3, d3, rfl, hq1, hq2⟩ := hn3.form
  have HB3 : Hid (Below w.heap.size w w3) := HB2.out.trans (hb3.mono HB2.out.size)
  have hblk1 := HBL2.out.to hb3
  have hlt := hblk1.lt
  have hc0 := hblk1.cell 0
  have hc1 := hblk1.cell 1
  have hc2 := hblk1.cell 2
  have hf0 := hblk1.frozen 0
  have hf1 := hblk1.frozen 1
  have hf2 := hblk1.frozen 2
  simp only [List.getElem?_toArray, List.getElem?_cons_zero, List.getElem?_cons_succ] at hc0 hc1 hc2
  have HBL := Lib.hid hblk1
  clear hq1 hq2 hn3 hb3 hblk1 HBL2 HB2 HN1 HN2
  go_wp2_with fail
  refine bodyPost_ret (v := .agg #[.bool sg, .slice C2 n2 d2, .slice C3 n3 d3]) (by rw [results_cell1 rfl]; go_simp) rfl ⟨_, rfl, ?_, ?_⟩
  · exact (NumV.put3 (w := w3) HN3.out HBL.out _ _ _).to (below_one _ _)
  · exact (put3_below HB3.out (Nat.le_refl _) _ _ _).trans ((below_one _ _).mono (put3_below HB3.out (Nat.le_refl _) _ _ _).size)
end Go.Proofs.YtdhgbnnopekfjaaDoor
namespace Go.Proofs.YtdhgbnnopekfjaaDoor
open Go.RowKit NumB
set_option linter.unusedVariables false
set_option linter.unusedSimpArgs false

/-- The canonical number of an integer. -/
def intL (s : Bool) (k : Nat) : LN := ⟨s && decide (0 < k), digs W32 k, digs W32 1⟩
theorem fracS_int {s : Bool} {k : Nat} (h : fitB k 1 = true) : fracS 0 s k 1 = (intL s k, 0) := by
  unfold fracS opS
  rw [Nat.gcd_one_right, Nat.div_one, Nat.div_one, if_pos rfl, h, if_pos rfl]
  rfl
theorem fit_64 {k : Nat} (h : k < 18446744073709551616) : fitB k 1 = true := decide_eq_true ⟨Nat.le_trans (digs_len_le (k := 2) W32_gt (by unfold W32; omega)) (by omega), by rw [digs_one32]; decide⟩
theorem intL_fit {s : Bool} {k : Nat} (h : fitB k 1 = true) : (intL s k).ok ∧ (intL s k).err = 0 := by
  have h1 := fracS_ok (s := s) (n := k) (d := 1) (by omega) (by rw [fracS_int h])
  rw [fracS_int h] at h1
  exact ⟨h1.1, h1.2.1⟩
theorem intL_ok (s : Bool) {k : Nat} (h : k < 18446744073709551616) : (intL s k).ok ∧ (intL s k).err = 0 := intL_fit (fit_64 h)
theorem intL_x (s : Bool) (k : Nat) : (intL s k).x = k := val_digs W32_gt k
theorem intL_y (s : Bool) (k : Nat) : (intL s k).y = 1 := val_digs W32_gt 1
theorem intL_int {s : Bool} {k : Nat} (h : k < 18446744073709551616) : intErr (intL s k) = 0 := intErr_zero.2 ⟨(intL_ok s h).2, intL_y s k⟩
theorem toIntS_pos {k : Nat} (h : k ≤ 9223372036854775807) : toIntS (intL false k) = ((k : Int), 0) := by
  unfold toIntS
  rw [if_pos (intL_int (by omega)), intL_x, show (intL false k).neg = false from rfl]
  simp [h]
theorem toIntS_neg {k : Nat} (h0 : 0 < k) (h : k ≤ 9223372036854775808) : toIntS (intL true k) = (-(k : Int), 0) := by
  unfold toIntS
  rw [if_pos (intL_int (by omega)), intL_x, show (intL true k).neg = true from by simp [intL, h0]]
  simp [h]
end Go.Proofs.YtdhgbnnopekfjaaDoor
namespace Go.Proofs.YtdhgbnnopekfjaaDoor
open Go.RowKit NumB
set_option linter.unusedVariables false
set_option linter.unusedSimpArgs false

theorem intL_rat (s : Bool) (k : Nat) : (intL s k).q = ((RatB.sg s k : Int) : Rat) := by
  unfold LN.q RatB.q
  rw [intL_x, intL_y, Rat.mkRat_one]
  show ((RatB.sg (s && decide (0 < k)) k : Int) : Rat) = _
  rw [RatB.sg_and]
/-- A valid integer is the canonical number of it. -/
theorem LN.as_int {a : LN} (ho : a.ok) (he : a.err = 0) (hy : a.y = 1) : a = intL a.neg a.x ∧ fitB a.x 1 = true ∧ (a.x = 0 → a.neg = false) := by
  obtain ⟨h1, h2, h3, h4, h5⟩ := LN.good ho he
  refine ⟨?_, decide_eq_true ⟨by rw [h1]; exact h3, by rw [digs_one32]; decide⟩, h5.2.2⟩
  have hn : (a.neg && decide (0 < a.x)) = a.neg := by
    rcases Nat.eq_zero_or_pos a.x with h | h
    · rw [h5.2.2 h]; rfl
    · simp [h]
  unfold intL
  rw [hn, h1, ← hy, h2]
theorem fit_le {x y : Nat} (h : fitB x 1 = true) (hl : y ≤ x) : fitB y 1 = true := by
  have := of_decide_eq_true (show decide _ = true from h)
  exact decide_eq_true ⟨Nat.le_trans (digs_len_mono W32_gt hl) this.1, this.2⟩
theorem fit_len {x : Nat} : fitB x 1 = true ↔ (digs W32 x).length ≤ 128 := by
  constructor
  · intro h; exact (of_decide_eq_true (show decide _ = true from h)).1
  · intro h; exact decide_eq_true ⟨h, by rw [digs_one32]; decide⟩
theorem opS_int {s : Bool} {k : Nat} (h : fitB k 1 = true) : opS 0 (s && decide (0 < k)) k 1 = (intL s k, 0) := by
  unfold opS
  rw [if_pos rfl, h, if_pos rfl]; rfl
theorem intL_neg {s : Bool} {k : Nat} (h : k = 0 → s = false) : (intL s k).neg = s := by
  show (s && decide (0 < k)) = s
  rcases Nat.eq_zero_or_pos k with h0 | h0
  · rw [h h0]; rfl
  · simp [h0]
theorem intL_eq {s t : Bool} {k : Nat} (h : 0 < k → s = t) : intL s k = intL t k := by
  unfold intL
  rcases Nat.eq_zero_or_pos k with h0 | h0
  · subst h0; simp
  · rw [h h0]
theorem bx_zero {b : LN} (hb : b.ok) (he : b.err = 0) : b.num.length = 0 ↔ b.x = 0 := by
  obtain ⟨h1, _⟩ := LN.good hb he
  rw [← h1]
  have := len_pos32 (x := b.x) (n := (digs W32 b.x).length) rfl
  omega
end Go.Proofs.YtdhgbnnopekfjaaDoor
namespace Go.Proofs.YtdhgbnnopekfjaaDoor
open Go.RowKit NumB
set_option linter.unusedVariables false
set_option linter.unusedSimpArgs false

/-- The sign of a valid number. -/
def signS (a : LN) : Int := if a.num.length = 0 then 0 else if a.neg then -1 else 1

set_option maxRecDepth 100000 in
set_option maxHeartbeats 3200000 in
theorem sign_S (a : LN) (v : Value) (w : World) (h : GV w v a) : Calls Tryd.prog 14 #[v] w fun e w' => e = .returned (.tuple #[.int .i64 (if a.err = 0 then signS a else 0), .int .i64 a.err]) ∧ Below w.heap.size w w' := by
  obtain ⟨A, B, rfl, ha, hb, ox, oy⟩ := h
  have HC : Hid (∀ o : Obj, Calls Tryd.prog 46 #[.agg #[.bool a.neg, A, B]] (w.alloc o) fun e w' => e = .returned (.int .i64 a.err) ∧ Below (w.alloc o).heap.size (w.alloc o) w') := fun o => check_any a.neg a.num a.den A B _ (ha.to (below_one _ _)) (hb.to (below_one _ _)) ox oy
  obtain ⟨A', ca, rfl, _⟩ := ha
  obtain ⟨B', cb, rfl, _⟩ := hb
  have hbd : 0 ≤ a.err ∧ a.err ≤ 3 := checkL_bd _ _ _
  have HE : Hid ((if a.err = 0 then signS a else 0) = if a.err = 0 then (if a.num.length = 0 then 0 else if a.neg then -1 else 1) else 0) := rfl
  generalize (if a.err = 0 then signS a else 0) = rs at *
  generalize a.err = er at *
  generalize a.num.length = n at *
  generalize a.den.length = m at *
  generalize a.neg = neg at *
  have HBK := Lib.hid (Blk.new w 24 #[.bool neg, .slice A' n ca, .slice B' m cb])
  by_cases he : er = 0
  · subst he
    rw [if_pos rfl] at HE
    by_cases hn : n = 0
    · subst hn
      rw [if_pos rfl] at HE
      go_enter Tryd.func14, Tryd.ntmps14
      go_wp2_with fail
      refine (HC.out _).mono ?_
      rintro e w1 ⟨rfl, hb1⟩
      have hk := HBK.out.to hb1
      have c0 := hk.cell 0
      have c1 := hk.cell 1
      simp only [List.getElem?_toArray, List.getElem?_cons_zero, List.getElem?_cons_succ] at c0 c1
      clear hk
      go_wp2_with fail
      go_ret2
      rw [HE.out]
      exact ⟨rfl, (below_one w _).trans (hb1.mono (below_one w _).size)⟩
    · rw [if_neg hn] at HE
      have hn0 : ((n : Int) == 0) = false := beq_eq_false_iff_ne.2 (by omega)
      cases neg <;> simp only [if_true, if_false, Bool.false_eq_true] at HE
      all_goals
        go_enter Tryd.func14, Tryd.ntmps14
        go_wp2_with fail
        refine (HC.out _).mono ?_
        rintro e w1 ⟨rfl, hb1⟩
        have hk := HBK.out.to hb1
        have c0 := hk.cell 0
        have c1 := hk.cell 1
        simp only [List.getElem?_toArray, List.getElem?_cons_zero, List.getElem?_cons_succ] at c0 c1
        clear hk
        go_wp2_with fail
        go_ret2
        rw [HE.out]
        exact ⟨rfl, (below_one w _).trans (hb1.mono (below_one w _).size)⟩
  · have he1 : (er != 0) = true := by rw [bne_iff_ne]; exact he
    rw [if_neg he] at HE
    clear he
    go_enter Tryd.func14, Tryd.ntmps14
    go_wp2_with fail
    refine (HC.out _).mono ?_
    rintro e w1 ⟨rfl, hb1⟩
    go_wp2_with fail
    go_ret2
    rw [HE.out]
    exact ⟨rfl, (below_one w _).trans (hb1.mono (below_one w _).size)⟩

set_option maxRecDepth 100000 in
set_option maxHeartbeats 3200000 in
theorem same_S (a b : LN) (va vb : Value) (w : World) (ha : GV w va a) (hb : GV w vb b) : Calls Tryd.prog 10 #[va, vb] w fun e w' => e = .returned (.bool (sameB a b)) ∧ Below w.heap.size w w' := by
  obtain ⟨A1, A2, rfl, h1, h2, _, _⟩ := ha
  obtain ⟨A3, A4, rfl, h3, h4, _, _⟩ := hb
  have HB2 : Hid (∀ o1 o2 : Obj, Below w.heap.size w ((w.alloc o1).alloc o2)) := fun o1 o2 => (below_one w o1).alloc (by simp) o2
  have HS1 : Hid (∀ (W : World), Below w.heap.size w W → Calls Tryd.prog 39 #[A1, A3] W fun e w' => e = .returned (.bool (eqB a.num b.num)) ∧ ∃ m, w' = W.drewN m) := fun W hW => sameLimbs_any a.num b.num A1 A3 W (h1.to hW) (h3.to hW)
  have HS2 : Hid (∀ (W : World), Below w.heap.size w W → Calls Tryd.prog 39 #[A2, A4] W fun e w' => e = .returned (.bool (eqB a.den b.den)) ∧ ∃ m, w' = W.drewN m) := fun W hW => sameLimbs_any a.den b.den A2 A4 W (h2.to hW) (h4.to hW)
  obtain ⟨B1, c1, rfl, _⟩ := h1
  obtain ⟨B2, c2, rfl, _⟩ := h2
  obtain ⟨B3, c3, rfl, _⟩ := h3
  obtain ⟨B4, c4, rfl, _⟩ := h4
  have HE : Hid (sameB a b = ((a.neg == b.neg) && (eqB a.num b.num && eqB a.den b.den))) := rfl
  generalize sameB a b = r at *
  generalize eqB a.num b.num = p at *
  generalize eqB a.den b.den = q at *
  generalize a.num.length = n1 at *
  generalize a.den.length = n2 at *
  generalize b.num.length = n3 at *
  generalize b.den.length = n4 at *
  generalize a.neg = na at *
  generalize b.neg = nb at *
  by_cases hn : na = nb
  · have hn1 : (na == nb) = true := by simp [hn]
    rw [hn1] at HE
    subst hn
    cases p with
    | true =>
      go_enter Tryd.func10, Tryd.ntmps10
      go_wp2_with fail
      refine (HS1.out _ (by exact HB2.out _ _)).mono ?_
      rintro e w1 ⟨rfl, k1, rfl⟩
      go_wp2_with fail
      refine (HS2.out _ (by exact below_drewN (HB2.out _ _) _)).mono ?_
      rintro e w1 ⟨rfl, k2, rfl⟩
      go_wp2_with fail
      go_ret
      rw [HE.out]
      exact ⟨by cases q <;> rfl, below_drewN (HB2.out _ _) _⟩
    | false =>
      go_enter Tryd.func10, Tryd.ntmps10
      go_wp2_with fail
      refine (HS1.out _ (by exact HB2.out _ _)).mono ?_
      rintro e w1 ⟨rfl, k1, rfl⟩
      go_wp2_with fail
      go_ret
      rw [HE.out]
      exact ⟨rfl, below_drewN (HB2.out _ _) _⟩
  · have hn1 : (na == nb) = false := by simp [hn]
    rw [hn1] at HE
    clear hn
    go_enter Tryd.func10, Tryd.ntmps10
    go_wp2_with fail
    go_ret
    rw [HE.out]
    exact ⟨rfl, HB2.out _ _⟩
end Go.Proofs.YtdhgbnnopekfjaaDoor
namespace Go.Proofs.YtdhgbnnopekfjaaDoor
open Go.ChangeShapes Go.WideShapes Go.ChangeAt Go.RowKit Go.Joins NumB
set_option linter.unusedVariables false
set_option linter.unusedSimpArgs false

theorem own : ownKnob Tryd.prog.godebug = none := by kernel_rfl
theorem laidOut : laidOutB Tryd.prog = true := by kernel_rfl

/-- The arguments read again where nothing old has turned. -/
theorem below_trodAll {H : Type} {enc : TypeId × Value → H} {P : Program} (hl : laidOutB P = true) {W W' : World} (hb : Below W.heap.size W W') :
    ∀ {ts : List TypeId} {vs : List Value} {ds : List (DataW H)} {ps : List MemPlace}, (∀ t ∈ ts, P.readableRec t = true ∧ t < P.types.size) → DataW.TrodAll enc P W 0 (fun _ => true) true ts vs ds ps → (∀ x ∈ ps, x.block < W.heap.size) →
      DataW.TrodAll enc P W' 0 (fun b => decide (b < W.heap.size)) true ts vs ds ps
  | [], [], [], _, _, h, _ => h
  | t :: _, _ :: _, _ :: _, _, hT, ⟨p, q, h1, h2, e⟩, hs => ⟨p, q, Below.trod hl (hT t (by simp)).1 (hT t (by simp)).2 h1 hb (fun x hx => hs x (by rw [e]; exact List.mem_append_left _ hx)), below_trodAll hl hb (fun u hu => hT u (by simp [hu])) h2 (fun x hx => hs x (by rw [e]; exact List.mem_append_right _ hx)), e⟩

/-- The post of a law: it answered true, and only new memory was made. -/
theorem post_law {H : Type} {enc : TypeId × Value → H} {f : Func} {s : ChangeSpec} {W W' : World} {args : Array Value} {ds : List (DataW H)} {before : List MemPlace} (hvars : s.vars = [])
    (hW : DataW.Whole enc Tryd.prog f.params.toList s.vars false W args.toList ds [] before)
    (hA : DataW.TrodAll enc Tryd.prog W 0 (fun _ => true) true f.params.toList args.toList ds before)
    (hT : ∀ t ∈ f.params.toList, Tryd.prog.readableRec t = true ∧ t < Tryd.prog.types.size)
    (hres : f.resultTypes = #[4]) (hfn : s.fn H ds = { results := [.lit (.bool true)], args := ds })
    (hb : Below W.heap.size W W') : s.post enc Tryd.prog f false true false false W args (.bool true) W' := by
  have hlt : ∀ p ∈ before, p.block < W.heap.size := fun p hp => hW.lt p hp
  have e : s.fn H (ds ++ []) = { results := [.lit (.bool true)], args := ds } := by rw [List.append_nil]; exact hfn
  refine ⟨ds, [], before, [], before, [], hW, ?_, ?_, ?_, hb.frame _, fun h => by cases h⟩
  · rw [e, hres]; exact trodAll_mk1 (shut_bool Tryd.underlying4 _)
  · rw [e]; exact below_trodAll laidOut hb hT hA hlt
  · rw [e, hvars]; exact rfl

set_option maxRecDepth 100000 in
/-- A slice of limbs that came in. -/
theorem open_limbs {H : Type} {enc : TypeId × Value → H} {W : World} {n : Nat} {v : Value} {y : DataW H × List MemPlace}
    (h : DataW.trod enc Tryd.prog W 0 (fun _ => true) true n 22 [v] = some y) : ∃ xs : List Nat, Sl .u32 W v xs ∧ Ok W32 xs := by
  rcases open_ints Tryd.underlying22 Tryd.underlying53 (by kernel_rfl) h with ⟨hcs, hx⟩ | ⟨a, len, cap, zs, hcs, _, hl, hm, hz, hx, hcell, hwz⟩
  · simp only [List.cons.injEq, and_true] at hcs
    subst hcs
    exact ⟨[], (OwnV.nil_ (B := 0) (T := 0) W).sl, Ok.nil⟩
  · simp only [List.cons.injEq, and_true] at hcs
    subst hcs
    simp only [if_true] at hz
    have hwf : ∀ z ∈ zs, 0 ≤ z ∧ z < 4294967296 := fun z hzm => by
      have := bounds_u32 (hwz z hzm)
      omega
    have hget : ∀ i, i < zs.length → ((zs.map Int.toNat).getD i 0 : Int) = zs.getD i 0 := fun i hi => by
      rw [List.getD_eq_getElem?_getD, List.getD_eq_getElem?_getD, List.getElem?_map, List.getElem?_eq_getElem hi]
      have := hwf _ (List.getElem_mem hi)
      simp only [Option.map_some, Option.getD_some]
      omega
    refine ⟨(zs.map Int.toNat).take len, ?_, ?_⟩
    · refine Sl.of_rd (n := cap) (xs := zs.map Int.toNat) ?_ hl (Nat.le_refl _) hm rfl
      refine ⟨by simp [hz], fun hn => ?_⟩
      obtain ⟨b, off, rfl, hc⟩ := ints_at hcell (by omega)
      refine ⟨b, off, rfl, ?_, fun i hi => ?_⟩
      · have := hc 0 (by omega)
        rcases Nat.lt_or_ge b W.heap.size with h1 | h1
        · exact h1
        · simp [World.cell?, Array.getElem?_eq_none h1] at this
      · rw [hc i (by omega), hget i (by omega)]
    · intro x hx
      obtain ⟨z, hzm, rfl⟩ := List.mem_map.1 (List.mem_of_mem_take hx)
      have := hwf z hzm
      show z.toNat < 4294967296
      omega

set_option maxRecDepth 100000 in
/-- A number that came in: a sign and two lists of limbs. -/
theorem open_number {H : Type} {enc : TypeId × Value → H} {W : World} {base : Nat} {v : Value} {d : DataW H} {p : List MemPlace}
    (hv : Value.okWide Tryd.prog W .any base 24 v) (h : DataW.Trod enc Tryd.prog W 0 (fun _ => true) true 24 v d p) :
    ∃ (neg : Bool) (va vb : Value) (xs ys : List Nat), v = .agg #[.bool neg, va, vb] ∧ Sl .u32 W va xs ∧ Sl .u32 W vb ys ∧ Ok W32 xs ∧ Ok W32 ys := by
  obtain ⟨c0, c1, c2, y0, y1, y2, m, rfl, _, _, h0, h1, h2⟩ := open_agg3 Tryd.underlying24 (by kernel_rfl) (by kernel_rfl) hv h
  obtain ⟨b, e0, _⟩ := DataW.trod_bool Tryd.underlying4 h0
  simp only [List.cons.injEq, and_true] at e0
  subst e0
  obtain ⟨xs, hx, ox⟩ := open_limbs h1
  obtain ⟨ys, hy, oy⟩ := open_limbs h2
  exact ⟨b, c1, c2, xs, ys, rfl, hx, hy, ox, oy⟩

end Go.Proofs.YtdhgbnnopekfjaaDoor

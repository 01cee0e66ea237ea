/- fetterlockref1.FromInt, at any int. number.integers, at one number. number.ToInt, at any number. -/
import Derived.Test.YteopmkcogmnpnaaDoorJo15
import Derived.Test.YteopmkcogmnpnaaDoorJo17
import Derived.Test.YteopmkcogmnpnaaDoorJo24
import Derived.Test.YteopmkcogmnpnaaDoorJo25
set_option linter.unusedVariables false
set_option linter.unusedSimpArgs false
namespace Go.Proofs.YteopmkcogmnpnaaDoor
open Go.RowKit NumB
set_option linter.unusedVariables false
set_option linter.unusedSimpArgs false

theorem results_cell1 {fn : Func} {p : Tmp} {ty : TypeId} (h : fn.results = #[.cell p ty]) (tmps : Array Value) (P : Program) (w : World) :
    (results fn tmps).run P w = ((asAddr (tmps.getD p undef)).run P w).andThen fun a w₁ => (loadVar ty a).run P w₁ := by
  simp only [results, h]
  simp [Sem.run_bind, Result.andThen]
theorem small16 {k : Nat} (h : k < 18446744073709551616) : (digs W16 k).length ≤ 100000 := Nat.le_trans (digs_len_le (k := 4) W16_gt (by unfold W16; omega)) (by omega)
theorem fit_small {k : Nat} (h : k < 18446744073709551616) : fitB k 1 = true := decide_eq_true ⟨Nat.le_trans (digs_len_le (k := 2) W32_gt (by unfold W32; omega)) (by omega), by rw [digs_one32]; decide⟩

set_option maxRecDepth 100000 in
set_option maxHeartbeats 1600000 in
theorem rfromInt_pos (k : Nat) (w : World) (h : k < 9223372036854775808) : Calls Tryd.prog 18 #[.int .i64 (k : Int)] w (RawPost w (false && decide (0 < k)) k 1) := by
  have HO : Hid (∀ W : World, Calls Tryd.prog 56 #[.int .u64 (k : Int)] W (RPost W k)) := fun W => rofInt_any k W (by omega)
  have HW : Hid (∀ (W : World) (v : Value), Nat16 W v k → Calls Tryd.prog 45 #[.bool false, v] W (RVPost W (false && decide (0 < k)) k 1)) := fun W v h => rwhole_any false k v W h
  have HM : Hid (∀ (W : World) (v : Value) (s : Bool), RV W v s k 1 → Calls Tryd.prog 33 #[v] W fun e w' => ∃ v, e = .returned (.tuple #[v, .int .i64 0]) ∧ NumV w' v s k 1 ∧ Below W.heap.size W w') := fun W v s h => (rmade_any s k 1 v W h (small16 (by omega)) (by rw [digs_one16]; decide)).mono fun e w' hp => by
    rcases hp with ⟨_, v, h1, h2, h3⟩ | ⟨hf, _⟩
    · exact ⟨v, h1, h2, h3⟩
    · rw [fit_small (by omega)] at hf; cases hf
  have HBK := Lib.hid (nilBlk w)
  generalize (false && decide (0 < k)) = sg at *
  have hlt0 : decide ((k : Int) < 0) = false := decide_eq_false (by omega)
  have hwr : IntKind.u64.wrap (k : Int) = (k : Int) := by rw [IntKind.wrap_u64]; omega
  go_enter Tryd.func18, Tryd.ntmps18
  go_wp2_with fail
  refine (HO.out _).mono ?_
  rintro e w1 ⟨v1, rfl, hn1, hb1⟩
  have HN1 := Lib.hid hn1
  obtain ⟨C1, n1, d1, rfl, hq⟩ := hn1.form
  have HBL1 := Lib.hid (HBK.out.to hb1)
  have HB1 : Hid (Below w.heap.size w w1) := (below_one w _).trans (hb1.mono (below_one w _).size)
  clear hq hn1 hb1 HBK
  go_wp2_with fail
  refine (HW.out _ _ (by exact HN1.out)).mono ?_
  rintro e w2 ⟨v2, rfl, hn2, hb2⟩
  have HN2 := Lib.hid hn2
  have HBL2 := Lib.hid (HBL1.out.to hb2)
  have HB2 : Hid (Below w.heap.size w w2) := HB1.out.trans (hb2.mono HB1.out.size)
  clear hn2 hb2 HBL1 HB1
  go_wp2_with fail
  refine (HM.out _ _ _ (by exact HN2.out)).mono ?_
  rintro e w3 ⟨v3, rfl, hn3, hb3⟩
  have HN3 := Lib.hid hn3
  obtain ⟨C2, n2, d2, C3, n3, d3, rfl, hq1, hq2⟩ := hn3.form
  have HB3 : Hid (Below w.heap.size w w3) := HB2.out.trans (hb3.mono HB2.out.size)
  have hblk1 := HBL2.out.to hb3
  have hlt := hblk1.lt
  have hc0 := hblk1.cell 0
  have hc1 := hblk1.cell 1
  have hc2 := hblk1.cell 2
  have hf0 := hblk1.frozen 0
  have hf1 := hblk1.frozen 1
  have hf2 := hblk1.frozen 2
  simp only [List.getElem?_toArray, List.getElem?_cons_zero, List.getElem?_cons_succ] at hc0 hc1 hc2
  have HBL := Lib.hid hblk1
  clear hq1 hq2 hn3 hb3 hblk1 HBL2 HB2 HN1 HN2
  go_wp2_with fail
  refine bodyPost_ret (v := .agg #[.bool sg, .slice C2 n2 d2, .slice C3 n3 d3]) (by rw [results_cell1 rfl]; go_simp) rfl ⟨_, rfl, ?_, ?_⟩
  · exact (NumV.put3 (w := w3) HN3.out HBL.out _ _ _).to (below_one _ _)
  · exact (put3_below HB3.out (Nat.le_refl _) _ _ _).trans ((below_one _ _).mono (put3_below HB3.out (Nat.le_refl _) _ _ _).size)

set_option maxRecDepth 100000 in
set_option maxHeartbeats 1600000 in
theorem rfromInt_neg (k : Nat) (w : World) (h0 : 0 < k) (h : k ≤ 9223372036854775808) : Calls Tryd.prog 18 #[.int .i64 (-(k : Int))] w (RawPost w (true && decide (0 < k)) k 1) := by
  have HO : Hid (∀ W : World, Calls Tryd.prog 56 #[.int .u64 (k : Int)] W (RPost W k)) := fun W => rofInt_any k W (by omega)
  have HW : Hid (∀ (W : World) (v : Value), Nat16 W v k → Calls Tryd.prog 45 #[.bool true, v] W (RVPost W (true && decide (0 < k)) k 1)) := fun W v h => rwhole_any true k v W h
  have HM : Hid (∀ (W : World) (v : Value) (s : Bool), RV W v s k 1 → Calls Tryd.prog 33 #[v] W fun e w' => ∃ v, e = .returned (.tuple #[v, .int .i64 0]) ∧ NumV w' v s k 1 ∧ Below W.heap.size W w') := fun W v s h => (rmade_any s k 1 v W h (small16 (by omega)) (by rw [digs_one16]; decide)).mono fun e w' hp => by
    rcases hp with ⟨_, v, h1, h2, h3⟩ | ⟨hf, _⟩
    · exact ⟨v, h1, h2, h3⟩
    · rw [fit_small (by omega)] at hf; cases hf
  have HBK := Lib.hid (nilBlk w)
  generalize (true && decide (0 < k)) = sg at *
  obtain ⟨m, hm, hmb⟩ : ∃ m : Nat, IntKind.u64.wrap (-(k : Int)) = (m : Int) ∧ m + k = 18446744073709551616 := ⟨18446744073709551616 - k, by rw [IntKind.wrap_u64]; omega, by omega⟩
  have hm2 : IntKind.u64.wrap (-(m : Int)) = (k : Int) := by rw [IntKind.wrap_u64]; omega
  have hlt0 : decide (-(k : Int) < 0) = true := decide_eq_true (by omega)
  go_enter Tryd.func18, Tryd.ntmps18
  go_wp2_with fail
  refine (HO.out _).mono ?_
  rintro e w1 ⟨v1, rfl, hn1, hb1⟩
  have HN1 := Lib.hid hn1
  obtain ⟨C1, n1, d1, rfl, hq⟩ := hn1.form
  have HBL1 := Lib.hid (HBK.out.to hb1)
  have HB1 : Hid (Below w.heap.size w w1) := (below_one w _).trans (hb1.mono (below_one w _).size)
  clear hq hn1 hb1 HBK
  go_wp2_with fail
  refine (HW.out _ _ (by exact HN1.out)).mono ?_
  rintro e w2 ⟨v2, rfl, hn2, hb2⟩
  have HN2 := Lib.hid hn2
  have HBL2 := Lib.hid (HBL1.out.to hb2)
  have HB2 : Hid (Below w.heap.size w w2) := HB1.out.trans (hb2.mono HB1.out.size)
  clear hn2 hb2 HBL1 HB1
  go_wp2_with fail
  refine (HM.out _ _ _ (by exact HN2.out)).mono ?_
  rintro e w3 ⟨v3, rfl, hn3, hb3⟩
  have HN3 := Lib.hid hn3
  obtain ⟨C2, n2, d2, C3, n3, d3, rfl, hq1, hq2⟩ := hn3.form
  have HB3 : Hid (Below w.heap.size w w3) := HB2.out.trans (hb3.mono HB2.out.size)
  have hblk1 := HBL2.out.to hb3
  have hlt := hblk1.lt
  have hc0 := hblk1.cell 0
  have hc1 := hblk1.cell 1
  have hc2 := hblk1.cell 2
  have hf0 := hblk1.frozen 0
  have hf1 := hblk1.frozen 1
  have hf2 := hblk1.frozen 2
  simp only [List.getElem?_toArray, List.getElem?_cons_zero, List.getElem?_cons_succ] at hc0 hc1 hc2
  have HBL := Lib.hid hblk1
  clear hq1 hq2 hn3 hb3 hblk1 HBL2 HB2 HN1 HN2
  go_wp2_with fail
  refine bodyPost_ret (v := .agg #[.bool sg, .slice C2 n2 d2, .slice C3 n3 d3]) (by rw [results_cell1 rfl]; go_simp) rfl ⟨_, rfl, ?_, ?_⟩
  · exact (NumV.put3 (w := w3) HN3.out HBL.out _ _ _).to (below_one _ _)
  · exact (put3_below HB3.out (Nat.le_refl _) _ _ _).trans ((below_one _ _).mono (put3_below HB3.out (Nat.le_refl _) _ _ _).size)
end Go.Proofs.YteopmkcogmnpnaaDoor
namespace Go.Proofs.YteopmkcogmnpnaaDoor
open Go.RowKit NumB
set_option linter.unusedVariables false
set_option linter.unusedSimpArgs false

/-- What integers answers at one number. -/
def intErr (a : LN) : Int := if a.err = 0 then (if a.y = 1 then 0 else 7) else a.err

set_option maxRecDepth 100000 in
set_option maxHeartbeats 3200000 in
theorem integers_one (a : LN) (b cap : Nat) (A1 A2 : Value) (w : World) (t : TypeId) (hg : Blk w b t #[.bool a.neg, A1, A2]) (h : GV w (.agg #[.bool a.neg, A1, A2]) a) :
    Calls Tryd.prog 55 #[.slice (some ⟨b, 0, none⟩) 1 cap] w fun e w' => e = .returned (.int .i64 (intErr a)) ∧ Below w.heap.size w w' := by
  obtain ⟨_, g1, g2, gok⟩ := h.parts
  have HC : Hid (Calls Tryd.prog 37 #[.slice (some ⟨b, 0, none⟩) 1 cap] w fun e w' => e = .returned (.int .i64 a.err) ∧ Below w.heap.size w w') := checks_one b cap a.neg a.num a.den A1 A2 w t hg g1 g2 gok.1 gok.2
  have HBK := Lib.hid hg
  have hbd : 0 ≤ a.err ∧ a.err ≤ 3 := checkL_bd _ _ _
  obtain ⟨B1, n1, d1, B2, n2, d2, he, hq1, hq2⟩ := h.form
  clear hq1 hq2
  simp only [Value.agg.injEq, Array.mk.injEq, List.cons.injEq, and_true, true_and] at he
  obtain ⟨rfl, rfl⟩ := he
  by_cases e0 : a.err = 0
  · have HY : Hid (Nat32 w (.slice B2 n2 d2) a.y) := by
      have h2 := (LN.good gok e0).2.1
      unfold Hid Nat32
      rw [h2]; exact g2
    have HI : Hid (intErr a = if a.y = 1 then 0 else 7) := by unfold Hid intErr; rw [if_pos e0]
    rw [e0] at HC
    generalize intErr a = r at *
    generalize a.y = y at *
    generalize a.neg = ng at *
    clear h g1 g2 gok hg hbd e0
    go_enter Tryd.func55, Tryd.ntmps55
    go_wp2_with fail
    refine HC.out.mono ?_
    rintro e w1 ⟨rfl, hb1⟩
    have HB1 := Lib.hid hb1
    clear hb1
    go_wp2_with fail
    go_loopg [13, 5] 1 (fun gk s13 s5 wr => ∃ j : Nat, gk + j = 1 ∧ s13 = .int .i64 (j : Int) ∧ Hid (0 < j → y = 1) ∧ Hid (Below w.heap.size w wr))
    case atStart => exact ⟨0, by omega, rfl, by unfold Hid; omega, HB1.out⟩
    case round =>
      obtain ⟨j, hgj, rfl, HE, HB⟩ := hrel
      by_cases hj : j = 0
      · subst hj
        obtain rfl : gk = 1 := by omega
        have hk := HBK.out.to HB.out
        have c0 := hk.cell 0
        have c1 := hk.cell 1
        have c2 := hk.cell 2
        simp only [List.getElem?_toArray, List.getElem?_cons_zero, List.getElem?_cons_succ] at c0 c1 c2
        clear hk hgj
        by_cases hy : y = 1
        · have HO := Lib.hid (oneB_true hy)
          have HY1 := Lib.hid hy
          clear hy
          go_wp2_with fail
          refine (isOne_any y _ _ (by exact (HY.out.to HB.out).to (below_one _ _))).mono ?_
          rintro e w3 ⟨he, rfl⟩
          rw [HO.out] at he
          subst he
          go_wp2_with fail
          go_roundg 0
          case measure => omega
          case rel => exact ⟨1, by omega, by go_num, fun _ => HY1.out, HB.out.alloc HB.out.size _⟩
        · have HO := Lib.hid (oneB_false hy)
          have HY1 := Lib.hid hy
          clear hy
          go_wp2_with fail
          refine (isOne_any y _ _ (by exact (HY.out.to HB.out).to (below_one _ _))).mono ?_
          rintro e w3 ⟨he, rfl⟩
          rw [HO.out] at he
          subst he
          go_wp2_with fail
          go_ret
          rw [HI.out, if_neg HY1.out]
          exact ⟨rfl, HB.out.alloc HB.out.size _⟩
      · obtain rfl : j = 1 := by omega
        obtain rfl : gk = 0 := by omega
        have HY1 := Lib.hid (HE.out (by omega))
        clear hgj hj
        go_wp2_with fail
        go_ret
        rw [HI.out, if_pos HY1.out]
        exact ⟨rfl, HB.out⟩
  · have b0 : (a.err != 0) = true := by rw [bne_iff_ne]; exact e0
    have HI : Hid (intErr a = a.err) := by unfold Hid intErr; rw [if_neg e0]
    generalize intErr a = r at *
    generalize a.err = z at *
    clear h g1 g2 gok hg e0
    go_enter Tryd.func55, Tryd.ntmps55
    go_wp2_with fail
    refine HC.out.mono ?_
    rintro e w1 ⟨rfl, hb1⟩
    have HB1 := Lib.hid hb1
    clear hb1
    go_wp2_with fail
    go_ret
    rw [HI.out]
    exact ⟨rfl, HB1.out⟩
end Go.Proofs.YteopmkcogmnpnaaDoor
namespace Go.Proofs.YteopmkcogmnpnaaDoor
open Go.RowKit NumB
set_option linter.unusedVariables false
set_option linter.unusedSimpArgs false

/-- What ToInt answers. -/
def toIntS (a : LN) : Int × Int := if intErr a = 0 then (if a.neg then (if a.x ≤ 9223372036854775808 then (-(a.x : Int), 0) else (0, 3)) else (if a.x ≤ 9223372036854775807 then ((a.x : Int), 0) else (0, 3))) else (0, intErr a)
theorem intErr_zero {a : LN} : intErr a = 0 ↔ a.err = 0 ∧ a.y = 1 := by
  unfold intErr
  by_cases h : a.err = 0
  · by_cases h2 : a.y = 1
    · simp [h, h2]
    · simp [h, h2]
  · simp [h]
theorem intErr_bd (a : LN) : 0 ≤ intErr a ∧ intErr a ≤ 7 := by
  have h : 0 ≤ a.err ∧ a.err ≤ 3 := checkL_bd _ _ _
  unfold intErr
  split
  · split <;> omega
  · omega
theorem val_two {xs : List Nat} (h : xs.length ≤ 2) : val W32 xs = xs.getD 0 0 + 4294967296 * xs.getD 1 0 := by
  rcases xs with _ | ⟨a, _ | ⟨b, _ | ⟨c, l⟩⟩⟩
  · rfl
  · simp
  · simp [W32]
  · simp at h
theorem or_zero_u64 (p : Nat) (hp : p < 4294967296) : bits .or .u64 0 (p : Int) = (p : Int) := by
  have h := u64_or 0 (p : Int) (by omega) (by omega) (by omega) (by omega)
  rw [h]; simp

set_option maxRecDepth 100000 in
set_option maxHeartbeats 3200000 in
theorem toInt_S (a : LN) (v : Value) (w : World) (h : GV w v a) :
    Calls Tryd.prog 17 #[v] w fun e w' => e = .returned (.tuple #[.int .i64 (toIntS a).1, .int .i64 (toIntS a).2]) ∧ Below w.heap.size w w' := by
  have G := Lib.hid h
  obtain ⟨A, n, c, B, m, d, rfl, hq1, hq2⟩ := h.form
  obtain ⟨_, g1, g2, gok⟩ := h.parts
  have HI : Hid (∀ (W : World) (b cap : Nat) (t : TypeId), Blk W b t #[.bool a.neg, .slice A n c, .slice B m d] → GV W (.agg #[.bool a.neg, .slice A n c, .slice B m d]) a → Calls Tryd.prog 55 #[.slice (some ⟨b, 0, none⟩) 1 cap] W fun e w' => e = .returned (.int .i64 (intErr a)) ∧ Below W.heap.size W w') := fun W b cap t h1 h2 => integers_one a b cap _ _ W t h1 h2
  have HBK := Lib.hid (fun t u => blk2 w t u #[.bool a.neg, .slice A n c, .slice B m d] #[.bool a.neg, .slice A n c, .slice B m d])
  have hbd := intErr_bd a
  by_cases e0 : intErr a = 0
  · have HT : Hid (toIntS a = if a.neg then (if a.x ≤ 9223372036854775808 then (-(a.x : Int), 0) else (0, 3)) else (if a.x ≤ 9223372036854775807 then ((a.x : Int), 0) else (0, 3))) := by unfold Hid toIntS; rw [if_pos e0]
    obtain ⟨k1, k2, k3, k4, k5⟩ := LN.good gok (intErr_zero.1 e0).1
    have HNX : Hid (Sl .u32 w (.slice A n c) a.num) := g1
    have HD : Hid (digs W32 a.x = a.num) := k1
    have HOK : Hid (Ok W32 a.num) := gok.1
    have HN : Hid (n = a.num.length) := hq1
    have hnb : n ≤ 128 := by omega
    rw [e0] at HI
    generalize toIntS a = r at *
    have HX : Hid (a.x = val W32 a.num) := rfl
    generalize a.x = x at *
    generalize a.num = xs at *
    generalize a.neg = neg at *
    clear h g1 g2 gok k1 k2 k3 k4 k5 hbd e0 hq1 hq2
    go_enter Tryd.func17, Tryd.ntmps17
    go_wp2_with fail
    refine (HI.out _ _ _ _ (by exact (HBK.out _ _).2) (by exact G.out.to (below_two w _ _))).mono ?_
    rintro e w1 ⟨rfl, hb1⟩
    have HB1 : Hid (Below w.heap.size w w1) := (below_two w _ _).trans (hb1.mono (below_two w _ _).size)
    have hk := (HBK.out _ _).1.to hb1
    have c0 := hk.cell 0
    have c1 := hk.cell 1
    have c2 := hk.cell 2
    simp only [List.getElem?_toArray, List.getElem?_cons_zero, List.getElem?_cons_succ] at c0 c1 c2
    clear hk hb1 HI G HBK
    by_cases hn : n ≤ 2
    · have hnn : decide (2 < (n : Int)) = false := decide_eq_false (by omega)
      go_wp2_with fail
      go_loopg [21, 5, 6, 7] n (fun gk s21 s5 s6 s7 wr => ∃ j u : Nat, gk + j = n ∧ s21 = .int .i64 (j : Int) ∧ s5 = .int .u64 (u : Int) ∧ Hid (u = val W32 (xs.take j)) ∧ wr = w1)
      case atStart => exact ⟨0, 0, by omega, rfl, rfl, rfl, rfl⟩
      case round =>
        obtain ⟨j, u, hgj, rfl, rfl, HU, rfl⟩ := hrel
        by_cases hj : j < n
        · obtain ⟨b, o, p, rfl, hcell, hpb, HP⟩ : ∃ (b o p : Nat), A = some ⟨b, o, none⟩ ∧ wr.cell? ⟨b, o + j, none⟩ = some (.int .u32 (p : Int)) ∧ p < 4294967296 ∧ Hid (xs.getD j 0 = p) := by
            obtain ⟨A1, c1, he, _, _, hrd⟩ := HNX.out.to HB1.out
            simp only [Value.slice.injEq] at he
            obtain ⟨rfl, he2, rfl⟩ := he
            obtain ⟨b, o, p, rfl, _, hpe, hc⟩ := hrd.at_ (i := j) (by omega)
            exact ⟨b, o, p, rfl, hc, by rw [← hpe]; exact HOK.out.getD (by decide) _, hpe⟩
          have hj2 : j = 0 ∨ j = 1 := by omega
          rcases hj2 with rfl | rfl
          · obtain rfl : u = 0 := HU.out
            rw [Nat.add_zero] at hcell
            have hor := or_zero_u64 p hpb
            go_wp2
            go_roundg (gk - 1)
            case measure => omega
            case rel => exact ⟨1, p, by omega, by go_num, by go_num, by have := val_take_succ W32 xs 0; rw [HP.out] at this; unfold Hid; rw [this]; simp, rfl⟩
          · have hub : u < 4294967296 := by rw [HU.out]; have := val_take_lt' (B := W32) (by decide) HOK.out 1; unfold W32 at *; omega
            have hor := u64_or_shift' p u hpb hub
            have hw1 : IntKind.u64.wrap ((p : Int) * 4294967296) = (p : Int) * 4294967296 := by rw [IntKind.wrap_u64]; omega
            go_wp2
            go_roundg (gk - 1)
            case measure => omega
            case rel => exact ⟨2, p * 4294967296 + u, by omega, by go_num, by go_num, by have := val_take_succ W32 xs 1; rw [HP.out, ← HU.out] at this; unfold Hid; rw [this, Nat.pow_one]; unfold W32; omega, rfl⟩
        · obtain rfl : j = n := by omega
          have HUX : Hid (u = x) := by
            have := HU.out
            rw [List.take_of_length_le (by rw [← HN.out]; exact Nat.le_refl _)] at this
            unfold Hid; rw [this, HX.out]
          obtain rfl := HUX.out
          clear HUX
          have hxb : u < 18446744073709551616 := by
            have h1 := digs_lt (n := u) W32_gt
            rw [HD.out, ← HN.out] at h1
            have h2 : W32 ^ j ≤ W32 ^ 2 := Nat.pow_le_pow_right (by decide) hn
            exact Nat.lt_of_lt_of_le h1 h2
          cases neg with
          | false =>
            simp only [Bool.false_eq_true, if_false] at HT
            by_cases hx : u ≤ 9223372036854775807
            · rw [if_pos hx] at HT
              have hwr : IntKind.i64.wrap (u : Int) = (u : Int) := by rw [IntKind.wrap_i64]; omega
              go_wp2
              go_ret2
              rw [HT.out]
              exact ⟨rfl, HB1.out⟩
            · rw [if_neg hx] at HT
              go_wp2
              go_ret2
              rw [HT.out]
              exact ⟨rfl, HB1.out⟩
          | true =>
            simp only [if_true] at HT
            by_cases hx : u ≤ 9223372036854775808
            · rw [if_pos hx] at HT
              obtain ⟨m2, hm1, hm2⟩ : ∃ m2 : Nat, IntKind.u64.wrap (-(u : Int)) = (m2 : Int) ∧ IntKind.i64.wrap (m2 : Int) = -(u : Int) := ⟨(18446744073709551616 - u) % 18446744073709551616, by rw [IntKind.wrap_u64]; omega, by rw [IntKind.wrap_i64]; omega⟩
              go_wp2
              go_ret2
              rw [HT.out]
              exact ⟨rfl, HB1.out⟩
            · rw [if_neg hx] at HT
              go_wp2
              go_ret2
              rw [HT.out]
              exact ⟨rfl, HB1.out⟩
    · have hnn : decide (2 < (n : Int)) = true := decide_eq_true (by omega)
      have HXB : Hid (18446744073709551616 ≤ x) := by
        have h1 := (digs_len_gt (n := x) (k := 2) W32_gt).1 (by rw [HD.out, ← HN.out]; omega)
        exact h1
      have HR : Hid (r = (0, 3)) := by
        have := HXB.out
        unfold Hid
        rw [HT.out]
        split <;> rw [if_neg (by omega)]
      go_wp2
      go_ret2
      rw [HR.out]
      exact ⟨rfl, HB1.out⟩
  · have b0 : (intErr a != 0) = true := by rw [bne_iff_ne]; exact e0
    have HT : Hid (toIntS a = (0, intErr a)) := by unfold Hid toIntS; rw [if_neg e0]
    generalize toIntS a = r at *
    generalize intErr a = z at *
    clear h g1 g2 gok e0 hq1 hq2
    go_enter Tryd.func17, Tryd.ntmps17
    go_wp2_with fail
    refine (HI.out _ _ _ _ (by exact (HBK.out _ _).2) (by exact G.out.to (below_two w _ _))).mono ?_
    rintro e w1 ⟨rfl, hb1⟩
    have HB1 : Hid (Below w.heap.size w w1) := (below_two w _ _).trans (hb1.mono (below_two w _ _).size)
    clear hb1 HI G HBK
    go_wp2
    go_ret2
    rw [HT.out]
    exact ⟨rfl, HB1.out⟩
end Go.Proofs.YteopmkcogmnpnaaDoor

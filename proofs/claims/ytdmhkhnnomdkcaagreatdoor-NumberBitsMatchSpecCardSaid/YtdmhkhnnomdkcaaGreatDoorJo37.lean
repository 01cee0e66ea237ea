/-  -/
import Derived.Test.YtdmhkhnnomdkcaaGreatDoorJo28
import Derived.Test.YtdmhkhnnomdkcaaGreatDoorJo36
set_option linter.unusedVariables false
set_option linter.unusedSimpArgs false
/- number.integers, at two numbers; number.whole. -/
namespace Go.Proofs.YtdmhkhnnomdkcaaGreatDoor
open Go.RowKit NumB
set_option linter.unusedVariables false
set_option linter.unusedSimpArgs false

/-- What integers answers at two numbers. -/
def intErr2 (a b : LN) : Int := if err2 a.err b.err = 0 then (if a.y = 1 ∧ b.y = 1 then 0 else 7) else err2 a.err b.err
theorem intErr2_bd (a b : LN) : 0 ≤ intErr2 a b ∧ intErr2 a b ≤ 7 := by
  have h : 0 ≤ err2 a.err b.err ∧ err2 a.err b.err ≤ 3 := err2_bd (checkL_bd _ _ _) (checkL_bd _ _ _)
  unfold intErr2
  split
  · split <;> omega
  · omega

set_option maxRecDepth 100000 in
set_option maxHeartbeats 3200000 in
theorem integers_two (a a' : LN) (b cap : Nat) (A1 A2 A3 A4 : Value) (w : World) (t : TypeId) (hg : Blk w b t #[.bool a.neg, A1, A2, .bool a'.neg, A3, A4]) (h : GV w (.agg #[.bool a.neg, A1, A2]) a) (h' : GV w (.agg #[.bool a'.neg, A3, A4]) a') :
    Calls Tryz.prog 9 #[.slice (some ⟨b, 0, none⟩) 2 cap] w fun e w' => e = .returned (.int .i64 (intErr2 a a')) ∧ Below w.heap.size w w' := by
  obtain ⟨_, g1, g2, gok⟩ := h.parts
  obtain ⟨_, g3, g4, gok'⟩ := h'.parts
  have HC : Hid (Calls Tryz.prog 34 #[.slice (some ⟨b, 0, none⟩) 2 cap] w fun e w' => e = .returned (.int .i64 (err2 a.err a'.err)) ∧ Below w.heap.size w w') := checks_two b cap a.neg a'.neg a.num a.den a'.num a'.den A1 A2 A3 A4 w t hg g1 g2 g3 g4 gok.1 gok.2 gok'.1 gok'.2
  have HBK := Lib.hid hg
  have hbd : 0 ≤ err2 a.err a'.err ∧ err2 a.err a'.err ≤ 3 := err2_bd (checkL_bd _ _ _) (checkL_bd _ _ _)
  obtain ⟨B1, n1, d1, B2, n2, d2, he, hq1, hq2⟩ := h.form
  clear hq1 hq2
  simp only [Value.agg.injEq, Array.mk.injEq, List.cons.injEq, and_true, true_and] at he
  obtain ⟨rfl, rfl⟩ := he
  obtain ⟨B3, n3, d3, B4, n4, d4, he, hq1, hq2⟩ := h'.form
  clear hq1 hq2
  simp only [Value.agg.injEq, Array.mk.injEq, List.cons.injEq, and_true, true_and] at he
  obtain ⟨rfl, rfl⟩ := he
  by_cases e0 : err2 a.err a'.err = 0
  · have HY : Hid (Nat32 w (.slice B2 n2 d2) a.y ∧ Nat32 w (.slice B4 n4 d4) a'.y) := by
      have h2 := (LN.good gok (err2_zero.1 e0).1).2.1
      have h4 := (LN.good gok' (err2_zero.1 e0).2).2.1
      refine ⟨?_, ?_⟩
      · unfold Nat32; rw [h2]; exact g2
      · unfold Nat32; rw [h4]; exact g4
    have HI : Hid (intErr2 a a' = if a.y = 1 ∧ a'.y = 1 then 0 else 7) := by unfold Hid intErr2; rw [if_pos e0]
    rw [e0] at HC
    generalize intErr2 a a' = r at *
    generalize a.y = y at *
    generalize a'.y = y' at *
    generalize a.neg = ng at *
    generalize a'.neg = ng' at *
    clear h h' g1 g2 g3 g4 gok gok' hg hbd e0
    go_enter Tryz.func9, Tryz.ntmps9
    go_wp2_with fail
    refine HC.out.mono ?_
    rintro e w1 ⟨rfl, hb1⟩
    have HB1 := Lib.hid hb1
    clear hb1
    go_wp2_with fail
    go_loopg [13, 5] 2 (fun gk s13 s5 wr => ∃ j : Nat, gk + j = 2 ∧ s13 = .int .i64 (j : Int) ∧ Hid ((0 < j → y = 1) ∧ (1 < j → y' = 1)) ∧ Hid (Below w.heap.size w wr))
    case atStart => exact ⟨0, by omega, rfl, ⟨by omega, by omega⟩, HB1.out⟩
    case round =>
      obtain ⟨j, hgj, rfl, HE, HB⟩ := hrel
      have hk := HBK.out.to HB.out
      have c0 := hk.cell 0
      have c1 := hk.cell 1
      have c2 := hk.cell 2
      have c3 := hk.cell 3
      have c4 := hk.cell 4
      have c5 := hk.cell 5
      simp only [List.getElem?_toArray, List.getElem?_cons_zero, List.getElem?_cons_succ] at c0 c1 c2 c3 c4 c5
      clear hk
      by_cases hj : j = 0
      · subst hj
        obtain rfl : gk = 2 := by omega
        clear hgj c3 c4 c5
        by_cases hy : y = 1
        · have HO := Lib.hid (oneB_true hy)
          have HY1 := Lib.hid hy
          clear hy
          go_wp2_with fail
          refine (isOne_any y _ _ (by exact (HY.out.1.to HB.out).to (below_one _ _))).mono ?_
          rintro e w3 ⟨he, rfl⟩
          rw [HO.out] at he
          subst he
          go_wp2_with fail
          go_roundg 1
          case measure => omega
          case rel => exact ⟨1, by omega, by go_num, ⟨fun _ => HY1.out, fun h => absurd h (by omega)⟩, HB.out.alloc HB.out.size _⟩
        · have HO := Lib.hid (oneB_false hy)
          have HY1 := Lib.hid hy
          clear hy
          go_wp2_with fail
          refine (isOne_any y _ _ (by exact (HY.out.1.to HB.out).to (below_one _ _))).mono ?_
          rintro e w3 ⟨he, rfl⟩
          rw [HO.out] at he
          subst he
          go_wp2_with fail
          go_ret
          rw [HI.out, if_neg (fun h => HY1.out h.1)]
          exact ⟨rfl, HB.out.alloc HB.out.size _⟩
      · by_cases hj1 : j = 1
        · subst hj1
          obtain rfl : gk = 1 := by omega
          clear hgj c0 c1 c2 hj
          by_cases hy : y' = 1
          · have HO := Lib.hid (oneB_true hy)
            have HY1 := Lib.hid hy
            clear hy
            go_wp2_with fail
            refine (isOne_any y' _ _ (by exact (HY.out.2.to HB.out).to (below_one _ _))).mono ?_
            rintro e w3 ⟨he, rfl⟩
            rw [HO.out] at he
            subst he
            go_wp2_with fail
            go_roundg 0
            case measure => omega
            case rel => exact ⟨2, by omega, by go_num, ⟨fun _ => HE.out.1 (by omega), fun _ => HY1.out⟩, HB.out.alloc HB.out.size _⟩
          · have HO := Lib.hid (oneB_false hy)
            have HY1 := Lib.hid hy
            clear hy
            go_wp2_with fail
            refine (isOne_any y' _ _ (by exact (HY.out.2.to HB.out).to (below_one _ _))).mono ?_
            rintro e w3 ⟨he, rfl⟩
            rw [HO.out] at he
            subst he
            go_wp2_with fail
            go_ret
            rw [HI.out, if_neg (fun h => HY1.out h.2)]
            exact ⟨rfl, HB.out.alloc HB.out.size _⟩
        · obtain rfl : j = 2 := by omega
          obtain rfl : gk = 0 := by omega
          have HY1 : Hid (y = 1 ∧ y' = 1) := ⟨HE.out.1 (by omega), HE.out.2 (by omega)⟩
          clear hgj hj hj1 c0 c1 c2 c3 c4 c5
          go_wp2_with fail
          go_ret
          rw [HI.out, if_pos HY1.out]
          exact ⟨rfl, HB.out⟩
  · have b0 : (err2 a.err a'.err != 0) = true := by rw [bne_iff_ne]; exact e0
    have HI : Hid (intErr2 a a' = err2 a.err a'.err) := by unfold Hid intErr2; rw [if_neg e0]
    generalize intErr2 a a' = r at *
    generalize err2 a.err a'.err = z at *
    clear h h' g1 g2 g3 g4 gok gok' hg e0
    go_enter Tryz.func9, Tryz.ntmps9
    go_wp2_with fail
    refine HC.out.mono ?_
    rintro e w1 ⟨rfl, hb1⟩
    have HB1 := Lib.hid hb1
    clear hb1
    go_wp2_with fail
    go_ret
    rw [HI.out]
    exact ⟨rfl, HB1.out⟩

set_option maxRecDepth 100000 in
set_option maxHeartbeats 3200000 in
theorem whole_S (neg : Bool) (x : Nat) (va : Value) (w : World) (ha : Nat32 w va x) (hx : (digs W32 x).length ≤ 50000) :
    Calls Tryz.prog 11 #[.bool neg, va] w (SPost w (fracS 0 neg x 1)) := by
  have HN := Lib.hid ha
  have HBK := Lib.hid (nilBlk w)
  have HM : Hid (∀ (W : World) (va vb : Value), Nat32 W va x → Nat32 W vb 1 → Calls Tryz.prog 36 #[.bool neg, va, vb] W (SPost W (fracS 0 neg x 1))) := fun W va vb h1 h2 => (made_any neg x 1 va vb W h1 h2 (by omega) hx (by rw [digs_one32]; decide)).mono fun _ _ h => FitPost.toS h
  generalize fracS 0 neg x 1 = r at *
  clear ha hx
  go_enter Tryz.func11, Tryz.ntmps11
  go_wp2_with fail
  refine (HM.out _ _ _ (by exact HN.out.to (below_two w _ _)) (by exact one32' _ _ (by simp))).mono ?_
  rintro e w1 ⟨v, rfl, hg, hb⟩
  have KC := Lib.hid ((HBK.out.alloc (.cells #[.int .u32 1] 35)).to hb)
  have HBE : Hid (Below w.heap.size w w1) := (below_two w _ _).trans (hb.mono (below_two w _ _).size)
  have HG := Lib.hid hg
  obtain ⟨C1, q1, r1, C2, q2, r2, rfl, hq1, hq2⟩ := hg.form
  have cc0 := KC.out.cell 0
  have cc1 := KC.out.cell 1
  have cc2 := KC.out.cell 2
  simp only [List.getElem?_toArray, List.getElem?_cons_zero, List.getElem?_cons_succ] at cc0 cc1 cc2
  have fc0 := KC.out.frozen 0
  have fc1 := KC.out.frozen 1
  have fc2 := KC.out.frozen 2
  clear hb hg hq1 hq2
  go_wp2_with fail
  refine bodyPost_ret (v := .tuple #[.agg #[.bool r.1.neg, .slice C1 q1 r1, .slice C2 q2 r2], .int .i64 r.2]) (by rw [results_cell_tmp rfl]; go_simp) rfl ?_
  exact ⟨_, rfl, HG.out.put3 KC.out _ _ _, put3_below HBE.out (Nat.le_refl _) _ _ _⟩
end Go.Proofs.YtdmhkhnnomdkcaaGreatDoor
/- number.Gcd, at any two numbers. -/
namespace Go.Proofs.YtdmhkhnnomdkcaaGreatDoor
open Go.RowKit NumB
set_option linter.unusedVariables false
set_option linter.unusedSimpArgs false

/-- What Gcd answers. -/
def gcdS (a b : LN) : LN × Int := if intErr2 a b = 0 then fracS 0 false (Nat.gcd a.x b.x) 1 else (zeroL, intErr2 a b)
theorem intErr2_zero {a b : LN} : intErr2 a b = 0 ↔ (a.err = 0 ∧ b.err = 0) ∧ a.y = 1 ∧ b.y = 1 := by
  unfold intErr2
  by_cases h : err2 a.err b.err = 0
  · rw [if_pos h]
    have := err2_zero.1 h
    by_cases h2 : a.y = 1 ∧ b.y = 1
    · simp [h2, this]
    · rw [if_neg h2]; simp [h2]
  · rw [if_neg h]
    have : ¬ (a.err = 0 ∧ b.err = 0) := fun hh => h (err2_zero.2 hh)
    simp [h, this]
theorem blk_4 (w : World) (t : TypeId) (o1 o2 o3 : Obj) (c : Array Value) : Blk ((((w.alloc o1).alloc o2).alloc o3).alloc (.cells c t)) (w.heap.size + 1 + 1 + 1) t c := by
  have := Blk.new (((w.alloc o1).alloc o2).alloc o3) t c
  simpa using this
theorem below_4 (w : World) (o1 o2 o3 o4 : Obj) : Below w.heap.size w ((((w.alloc o1).alloc o2).alloc o3).alloc o4) := (below_3 w o1 o2 o3).alloc (by simp; omega) o4

end Go.Proofs.YtdmhkhnnomdkcaaGreatDoor

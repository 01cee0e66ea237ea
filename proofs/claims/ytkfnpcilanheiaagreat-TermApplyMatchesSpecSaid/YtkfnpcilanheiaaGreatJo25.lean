/-  -/
import Derived.Test.YtkfnpcilanheiaaGreatJo15
import Derived.Test.YtkfnpcilanheiaaGreatJo24
set_option linter.unusedVariables false
set_option linter.unusedSimpArgs false
/- The reference's search in bindings, and its bound. -/
namespace Go.Proofs.YtkfnpcilanheiaaGreat
open Go.RowKit NumB
set_option linter.unusedVariables false
set_option linter.unusedSimpArgs false

set_option maxRecDepth 100000 in
set_option maxHeartbeats 6400000 in
theorem rfind_any {w : World} {bs : List (Int × Tm)} {bv : Value} (h : BL w bv bs) (v : Int) (hv : i64ok v) (W : World) (hW : Below w.heap.size w W) :
    Calls Tryz.prog 80 #[bv, .int .i64 v] W fun e W' => ∃ cx, e = .returned (.tuple #[.agg cx.toArray, .bool (fnd bs v).isSome]) ∧ TCP (fun b => b < w.heap.size) W' ((fnd bs v).getD (.var v)) cx ∧ Below W.heap.size W W' := by
  have HVV : Hid (TC w (.var v) [.int .i64 1, .int .i64 v, .string ⟨#[]⟩, .bool false, .slice none 0 0, .slice none 0 0, .slice none 0 0]) := TC.var v hv w
  obtain ⟨Ar, cap, cs, rfl, hcap, hm, hrow, ha⟩ := h
  have HR := Lib.hid hrow
  have HA := Lib.hid ha
  have HWB := Lib.hid hW
  unfold maxLen at hm
  obtain ⟨n, hl⟩ : ∃ n, bs.length = n := ⟨_, rfl⟩
  rw [hl] at hcap ⊢
  have HL := Lib.hid hl
  clear hl hrow ha hW hv
  have HB0 : Hid (Below W.heap.size W (W.alloc (.cells #[.int .i64 0, .int .i64 0, .string ⟨#[]⟩, .bool false, .slice none 0 0, .slice none 0 0, .slice none 0 0] 27))) := below_one W _
  have HK0 : Hid (Blk (W.alloc (.cells #[.int .i64 0, .int .i64 0, .string ⟨#[]⟩, .bool false, .slice none 0 0, .slice none 0 0, .slice none 0 0] 27)) W.heap.size 27 #[.int .i64 0, .int .i64 0, .string ⟨#[]⟩, .bool false, .slice none 0 0, .slice none 0 0, .slice none 0 0]) := Blk.new W _ _
  go_enter Tryz.func80, Tryz.ntmps80
  go_wp2_with fail
  go_loopg [10] n (fun gk s10 wr => ∃ j : Nat, gk + j = n ∧ s10 = .int .i64 (j : Int) ∧ Hid (∀ q (hq : q < bs.length), q < j → (bs[q]).1 ≠ v) ∧ Hid (Below W.heap.size W wr) ∧ Hid (Blk wr W.heap.size 27 #[.int .i64 0, .int .i64 0, .string ⟨#[]⟩, .bool false, .slice none 0 0, .slice none 0 0, .slice none 0 0]))
  case atStart => exact ⟨0, by omega, rfl, fun q _ h => absurd h (by omega), HB0.out, HK0.out⟩
  case round =>
    clear HB0 HK0
    obtain ⟨j, hgj, rfl, HN, HB, HK⟩ := hrel
    have z0 := HK.out.frozen 0
    have z1 := HK.out.frozen 1
    have z2 := HK.out.frozen 2
    have z3 := HK.out.frozen 3
    have z4 := HK.out.frozen 4
    have z5 := HK.out.frozen 5
    have z6 := HK.out.frozen 6
    have r0 := HK.out.cell 0
    have r1 := HK.out.cell 1
    have r2 := HK.out.cell 2
    have r3 := HK.out.cell 3
    have r4 := HK.out.cell 4
    have r5 := HK.out.cell 5
    have r6 := HK.out.cell 6
    simp only [List.getElem?_toArray, List.getElem?_cons_zero, List.getElem?_cons_succ] at r0 r1 r2 r3 r4 r5 r6
    by_cases hj : j < n
    · have hja : j < bs.length := by rw [HL.out]; exact hj
      have HBW := HWB.out.trans (HB.out.mono HWB.out.size)
      obtain ⟨b, o, k, v0, s, ng, A1, n1, c1, B1, m1, d1, Xr, xl, xc, hAr, htc, hlt, y0, y1, y2, y3, y4, y5, y6, y7⟩ := bind_cells HR.out HA.out HBW hja
      subst hAr
      have HT := Lib.hid htc
      have HX1 : Hid ((bs[j]).1 = v → fnd bs v = some (bs[j]).2) := fun hx => by
        unfold fnd
        have h1 : bs.find? (fun p => p.1 == v) = some bs[j] := by
          rw [List.find?_eq_some_iff_getElem]
          refine ⟨by simpa using hx, j, hja, rfl, fun q hq => ?_⟩
          have := HN.out q (by omega) hq
          simpa using this
        rw [h1]
        rfl
      have HX2 : Hid ((bs[j]).1 ≠ v → ∀ q (hq : q < bs.length), q < j + 1 → (bs[q]).1 ≠ v) := fun hx q hq hl => by
        by_cases e : q = j
        · subst e; exact hx
        · exact HN.out q hq (by omega)
      generalize (bs[j]).1 = x at *
      clear htc HBW hlt
      have HK8 := Lib.hid (HK.out.to (below_one wr (.cells #[.int .i64 x, .int .i64 k, .int .i64 v0, .string s, .bool ng, .slice A1 n1 c1, .slice B1 m1 d1, .slice Xr xl xc] 51)))
      have HB8 : Hid (Below W.heap.size W (wr.alloc (.cells #[.int .i64 x, .int .i64 k, .int .i64 v0, .string s, .bool ng, .slice A1 n1 c1, .slice B1 m1 d1, .slice Xr xl xc] 51))) := HB.out.trans ((below_one wr _).mono HB.out.size)
      by_cases hx : x = v
      · subst hx
        have hc : (x == x) = true := by simp
        have HF := Lib.hid (HX1.out rfl)
        clear HX1 HX2 HN
        have z0 := HK8.out.frozen 0
        have z1 := HK8.out.frozen 1
        have z2 := HK8.out.frozen 2
        have z3 := HK8.out.frozen 3
        have z4 := HK8.out.frozen 4
        have z5 := HK8.out.frozen 5
        have z6 := HK8.out.frozen 6
        have r0 := HK8.out.cell 0
        have r1 := HK8.out.cell 1
        have r2 := HK8.out.cell 2
        have r3 := HK8.out.cell 3
        have r4 := HK8.out.cell 4
        have r5 := HK8.out.cell 5
        have r6 := HK8.out.cell 6
        simp only [List.getElem?_toArray, List.getElem?_cons_zero, List.getElem?_cons_succ] at r0 r1 r2 r3 r4 r5 r6
        go_wp2_with fail
        refine bodyPost_ret (v := .tuple #[.agg #[.int .i64 k, .int .i64 v0, .string s, .bool ng, .slice A1 n1 c1, .slice B1 m1 d1, .slice Xr xl xc], .bool true]) (by rw [results_cell_tmp rfl]; go_simp) rfl ?_
        refine ⟨[.int .i64 k, .int .i64 v0, .string s, .bool ng, .slice A1 n1 c1, .slice B1 m1 d1, .slice Xr xl xc], (by rw [HF.out]; rfl), ?_, (((((((HB8.out.setCell (Nat.le_refl _) _).setCell (Nat.le_refl _) _).setCell (Nat.le_refl _) _).setCell (Nat.le_refl _) _).setCell (Nat.le_refl _) _).setCell (Nat.le_refl _) _).setCell (Nat.le_refl _) _)⟩
        rw [HF.out]
        exact ((TCP.of_tc HT.out).onto (HWB.out.trans ((((((((HB8.out.setCell (Nat.le_refl _) _).setCell (Nat.le_refl _) _).setCell (Nat.le_refl _) _).setCell (Nat.le_refl _) _).setCell (Nat.le_refl _) _).setCell (Nat.le_refl _) _).setCell (Nat.le_refl _) _).mono HWB.out.size)))
      · have hc : (x == v) = false := beq_eq_false_iff_ne.2 hx
        have HN2 := Lib.hid (HX2.out (by first | exact hx | trivial))
        clear HX1 HX2 HN hx
        go_wp2_with fail
        go_roundg (gk - 1)
        case measure => omega
        case rel => exact ⟨j + 1, by omega, by go_num, HN2.out, HB8.out, HK8.out⟩
    · obtain rfl : n = j := by omega
      have HF : Hid (fnd bs v = none) := fnd_none fun q hq => HN.out q hq (by rw [← HL.out]; exact hq)
      clear HN
      go_wp2_with fail
      refine bodyPost_ret (v := .tuple #[.agg #[.int .i64 1, .int .i64 v, .string ⟨#[]⟩, .bool false, .slice none 0 0, .slice none 0 0, .slice none 0 0], .bool false]) (by rw [results_cell_tmp rfl]; go_simp) rfl ?_
      refine ⟨[.int .i64 1, .int .i64 v, .string ⟨#[]⟩, .bool false, .slice none 0 0, .slice none 0 0, .slice none 0 0], (by rw [HF.out]; rfl), ?_, (((((((HB.out.setCell (Nat.le_refl _) _).setCell (Nat.le_refl _) _).setCell (Nat.le_refl _) _).setCell (Nat.le_refl _) _).setCell (Nat.le_refl _) _).setCell (Nat.le_refl _) _).setCell (Nat.le_refl _) _)⟩
      rw [HF.out]
      exact ((TCP.of_tc HVV.out).onto (HWB.out.trans ((((((((HB.out.setCell (Nat.le_refl _) _).setCell (Nat.le_refl _) _).setCell (Nat.le_refl _) _).setCell (Nat.le_refl _) _).setCell (Nat.le_refl _) _).setCell (Nat.le_refl _) _).setCell (Nat.le_refl _) _).mono HWB.out.size)))

set_option maxRecDepth 100000 in
/-- The bound on a result: the term, or none. -/
theorem fitting_any {p : Nat → Prop} {w : World} {t : Tm} {cs : List Value} (h : TCP p w t cs) :
    Calls Tryz.prog 34 #[.agg cs.toArray] w fun e W' => ∃ cx tx er, e = .returned (.tuple #[.agg cx.toArray, .int .i64 er]) ∧ TCP p W' tx cx ∧ ((10000 < t.count ∧ tx = .zero ∧ er = 3) ∨ (t.count ≤ 10000 ∧ tx = t ∧ er = 0)) ∧ Below w.heap.size w W' := by
  have HS : Hid (∀ W', Below w.heap.size w W' → Calls Tryz.prog 74 #[.agg cs.toArray] W' fun e w' => e = .returned (.int .i64 ((min t.count 1000000 : Nat) : Int)) ∧ Below W'.heap.size W' w') := fun W' hb => rsize_any h.tc W' hb
  obtain ⟨k, v0, s, ng, A1, n1, c1, B1, m1, d1, Xr, xl, xc, hcs⟩ := h.form
  subst hcs
  have HT := Lib.hid h
  clear h
  have HB0 : Hid (Below w.heap.size w ((w.alloc (.cells #[.int .i64 k, .int .i64 v0, .string s, .bool ng, .slice A1 n1 c1, .slice B1 m1 d1, .slice Xr xl xc] 27)).alloc (.cells #[.int .i64 0, .int .i64 0, .string ⟨#[]⟩, .bool false, .slice none 0 0, .slice none 0 0, .slice none 0 0] 27))) := below_pair w _ _
  have HK0 : Hid (Blk ((w.alloc (.cells #[.int .i64 k, .int .i64 v0, .string s, .bool ng, .slice A1 n1 c1, .slice B1 m1 d1, .slice Xr xl xc] 27)).alloc (.cells #[.int .i64 0, .int .i64 0, .string ⟨#[]⟩, .bool false, .slice none 0 0, .slice none 0 0, .slice none 0 0] 27)) (w.heap.size + 1) 27 #[.int .i64 0, .int .i64 0, .string ⟨#[]⟩, .bool false, .slice none 0 0, .slice none 0 0, .slice none 0 0]) := blk_2nd w _ _
  have HO0 : Hid (Blk ((w.alloc (.cells #[.int .i64 k, .int .i64 v0, .string s, .bool ng, .slice A1 n1 c1, .slice B1 m1 d1, .slice Xr xl xc] 27)).alloc (.cells #[.int .i64 0, .int .i64 0, .string ⟨#[]⟩, .bool false, .slice none 0 0, .slice none 0 0, .slice none 0 0] 27)) w.heap.size 27 #[.int .i64 k, .int .i64 v0, .string s, .bool ng, .slice A1 n1 c1, .slice B1 m1 d1, .slice Xr xl xc]) := (Blk.new w _ _).alloc _
  obtain ⟨c, hc⟩ : ∃ c, t.count = c := ⟨_, rfl⟩
  rw [hc] at HS ⊢
  clear hc
  obtain ⟨m, hm⟩ : ∃ m, min c 1000000 = m := ⟨_, rfl⟩
  rw [hm] at HS
  go_enter Tryz.func34, Tryz.ntmps34
  go_wp2_with fail
  refine (HS.out _ (by exact HB0.out)).mono ?_
  rintro e w1 ⟨rfl, hb1⟩
  have HB : Hid (Below w.heap.size w w1) := HB0.out.trans (hb1.mono HB0.out.size)
  have HK := Lib.hid (HK0.out.to hb1)
  have HO := Lib.hid (HO0.out.to hb1)
  clear HB0 HK0 HO0 hb1 HS
  have y0 := HO.out.cell 0
  have y1 := HO.out.cell 1
  have y2 := HO.out.cell 2
  have y3 := HO.out.cell 3
  have y4 := HO.out.cell 4
  have y5 := HO.out.cell 5
  have y6 := HO.out.cell 6
  simp only [List.getElem?_toArray, List.getElem?_cons_zero, List.getElem?_cons_succ] at y0 y1 y2 y3 y4 y5 y6
  have z0 := HK.out.frozen 0
  have z1 := HK.out.frozen 1
  have z2 := HK.out.frozen 2
  have z3 := HK.out.frozen 3
  have z4 := HK.out.frozen 4
  have z5 := HK.out.frozen 5
  have z6 := HK.out.frozen 6
  have r0 := HK.out.cell 0
  have r1 := HK.out.cell 1
  have r2 := HK.out.cell 2
  have r3 := HK.out.cell 3
  have r4 := HK.out.cell 4
  have r5 := HK.out.cell 5
  have r6 := HK.out.cell 6
  simp only [List.getElem?_toArray, List.getElem?_cons_zero, List.getElem?_cons_succ] at r0 r1 r2 r3 r4 r5 r6
  by_cases hcc : 10000 < c
  · have hmm : (10000 : Int) < (m : Int) := by omega
    clear hm
    have HCC := Lib.hid hcc
    clear hcc
    go_wp2_with fail
    refine bodyPost_ret (v := .tuple #[.agg #[.int .i64 0, .int .i64 0, .string ⟨#[]⟩, .bool false, .slice none 0 0, .slice none 0 0, .slice none 0 0], .int .i64 3]) (by rw [results_cell_tmp rfl]; go_simp) rfl ?_
    refine ⟨[.int .i64 0, .int .i64 0, .string ⟨#[]⟩, .bool false, .slice none 0 0, .slice none 0 0, .slice none 0 0], .zero, 3, rfl, ?_, .inl ⟨HCC.out, rfl, rfl⟩, (((((((HB.out.setCell (Nat.le_succ _) _).setCell (Nat.le_succ _) _).setCell (Nat.le_succ _) _).setCell (Nat.le_succ _) _).setCell (Nat.le_succ _) _).setCell (Nat.le_succ _) _).setCell (Nat.le_succ _) _)⟩
    exact .mk 0 0 ⟨#[]⟩ ⟨false, [], []⟩ [] (.slice none 0 0) (.slice none 0 0) none 0 (fun _ => []) ⟨by decide, by decide⟩ ⟨by decide, by decide⟩ (by decide) (.nil_ p _) (.nil_ p _) ⟨Ok.nil, Ok.nil⟩ (Nat.le_refl _) (by decide) (fun h => by simp at h) (fun i h => by simp at h)
  · have hmm : ¬ (10000 : Int) < (m : Int) := by omega
    clear hm
    have HCC := Lib.hid hcc
    clear hcc
    go_wp2_with fail
    refine bodyPost_ret (v := .tuple #[.agg #[.int .i64 k, .int .i64 v0, .string s, .bool ng, .slice A1 n1 c1, .slice B1 m1 d1, .slice Xr xl xc], .int .i64 0]) (by rw [results_cell_tmp rfl]; go_simp) rfl ?_
    refine ⟨[.int .i64 k, .int .i64 v0, .string s, .bool ng, .slice A1 n1 c1, .slice B1 m1 d1, .slice Xr xl xc], t, 0, rfl, HT.out.onto ((((((((HB.out.setCell (Nat.le_succ _) _).setCell (Nat.le_succ _) _).setCell (Nat.le_succ _) _).setCell (Nat.le_succ _) _).setCell (Nat.le_succ _) _).setCell (Nat.le_succ _) _).setCell (Nat.le_succ _) _)), .inr ⟨Nat.le_of_not_lt HCC.out, rfl, rfl⟩, (((((((HB.out.setCell (Nat.le_succ _) _).setCell (Nat.le_succ _) _).setCell (Nat.le_succ _) _).setCell (Nat.le_succ _) _).setCell (Nat.le_succ _) _).setCell (Nat.le_succ _) _).setCell (Nat.le_succ _) _)⟩
end Go.Proofs.YtkfnpcilanheiaaGreat

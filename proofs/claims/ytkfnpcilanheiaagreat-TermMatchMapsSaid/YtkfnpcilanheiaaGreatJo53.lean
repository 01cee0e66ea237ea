/- TermMatchMaps: for all terms, Match returns the specified substitution, and Apply of it maps the pattern to the term. -/
import Derived.Deep.RegionHeld3
import Derived.Test.YtkfnpcilanheiaaGreatJo36
import Derived.Test.YtkfnpcilanheiaaGreatJo37
import Derived.Test.YtkfnpcilanheiaaGreatJo52
set_option linter.unusedVariables false
set_option linter.unusedSimpArgs false
set_option maxRecDepth 100000
namespace Go.Proofs.YtkfnpcilanheiaaGreat
open Go.RowKit NumB
theorem mat_found {p t : Tm} {bs : List (Int × Tm)} (hp : p.fine) (ht : t.fine) (h : matO p t = some bs) : p.check = 0 ∧ t.check = 0 ∧ p.mat t [] = some bs ∧ Small 10000 bs ∧ Incr bs ∧ p.repl (fnd bs) = t := by
  unfold matO matE at h
  by_cases h1 : p.check = 0
  · rw [if_pos h1] at h
    by_cases h2 : t.check = 0
    · rw [if_pos h2] at h
      have hl := p.mat_law t [] bs hp ht (fun v x h => by simp [fnd] at h) h
      exact ⟨h1, h2, h, p.mat_small 10000 t [] bs (check_err0 h1).2 (check_err0 h2).2 (check_err0 h2).1 (.nil _) h, hl.1 (fun i j hi => by simp at hi), hl.2.2.2 _ fun v x h => h⟩
    · rw [if_neg h2] at h; cases h
  · rw [if_neg h1, if_neg h1] at h; cases h
set_option maxHeartbeats 12800000 in
theorem law_tmMatch : LawTmMatch.Walk := by
  intro p cp t ct w hp ht
  have HBN : Hid (∀ W : World, Calls Tryz.prog 13 #[] W fun e w' => e = .returned (.bool true) ∧ Hid (Below W.heap.size W w')) := fun W => bound_any W
  have HM1 : Hid (∀ W, Below w.heap.size w W → Calls Tryz.prog 14 #[.agg cp.toArray, .agg ct.toArray] W fun e W' => ∃ lv, e = .returned (.tuple #[lv, .bool (matO p t).isSome, .int .i64 (matE p t)]) ∧ BL W' lv ((matO p t).getD []) ∧ Below W.heap.size W W') := fun W hb => tmatch_any hp ht W hb
  have HM2 : Hid (∀ W, Below w.heap.size w W → Calls Tryz.prog 15 #[.agg cp.toArray, .agg ct.toArray] W fun e W' => ∃ lv, e = .returned (.tuple #[lv, .bool (matO p t).isSome, .int .i64 (matE p t)]) ∧ BL W' lv ((matO p t).getD []) ∧ Below W.heap.size W W') := fun W hb => rmatch_any hp ht W hb
  have HAP : Hid (∀ bs, matO p t = some bs → bs.length ≤ 10000 → ∀ W1 lv, Below w.heap.size w W1 → BL W1 lv bs → ∀ W, Below W1.heap.size W1 W → Calls Tryz.prog 8 #[.agg cp.toArray, lv] W fun e W' => ∃ cx, e = .returned (.tuple #[.agg cx.toArray, .int .i64 0]) ∧ TC W' t cx ∧ Below W.heap.size W W') := fun bs hbs hl W1 lv hb1 hbl W hb => by
    have hpf : p.check = 0 := by
      unfold matO matE at hbs
      by_cases h1 : p.check = 0
      · exact h1
      · rw [if_neg h1, if_neg h1] at hbs; cases hbs
    have htf : t.check = 0 := by
      unfold matO matE at hbs
      rw [if_pos hpf] at hbs
      by_cases h1 : t.check = 0
      · exact h1
      · rw [if_neg h1] at hbs; cases hbs
    have hf := mat_found (hp.fine (check_err0 hpf).2) (ht.fine (check_err0 htf).2) hbs
    refine (apply_any (hp.to hb1) hbl (by omega) W hb).mono ?_
    rintro e W' ⟨cx, tx, er, rfl, h1, h2, h3⟩
    have hok : ApplyR p bs (p.repl (fnd bs)) 0 := .ok hpf (hf.2.2.2.1.good hf.2.2.2.2.1) (by rw [hf.2.2.2.2.2]; exact (check_err0 htf).1)
    obtain ⟨e1, e2⟩ := h2.one hok
    subst e2
    rw [e1, hf.2.2.2.2.2] at h1
    exact ⟨cx, rfl, h1.tc, h3⟩
  have HQ : Hid (∀ bs, matO p t = some bs → (∀ b ∈ bs, b.2.err0 = 0 ∧ b.2.count ≤ 10000) ∧ bs.length ≤ 10000 ∧ t.okz) := fun bs hbs => by
    have hpf : p.check = 0 := by
      unfold matO matE at hbs
      by_cases h1 : p.check = 0
      · exact h1
      · rw [if_neg h1, if_neg h1] at hbs; cases hbs
    have htf : t.check = 0 := by
      unfold matO matE at hbs
      rw [if_pos hpf] at hbs
      by_cases h1 : t.check = 0
      · exact h1
      · rw [if_neg h1] at hbs; cases hbs
    have hf := mat_found (hp.fine (check_err0 hpf).2) (ht.fine (check_err0 htf).2) hbs
    exact ⟨fun b hb => ⟨(hf.2.2.2.1 b hb).2.1, (hf.2.2.2.1 b hb).2.2⟩, by have := p.mat_len t [] bs hf.2.2.1; have := (check_err0 hpf).1; simp at *; omega, .inr ⟨(check_err0 htf).2, (check_err0 htf).1⟩⟩
  have HSB : Hid (∀ bs a b W1, (∀ b ∈ bs, b.2.err0 = 0 ∧ b.2.count ≤ 10000) → bs.length ≤ 10000 → BL W1 a bs → BL W1 b bs → ∀ W, Below W1.heap.size W1 W → Calls Tryz.prog 16 #[a, b] W fun e W' => e = .returned (.bool true) ∧ Below W.heap.size W W') := fun bs a b W1 h1 h2 h3 h4 W hb => sameB_any h3 h4 h1 (by omega) W hb
  have HTT := Lib.hid ht
  obtain ⟨s1, hs1⟩ : ∃ s : ByteArray, (⟨t.shp.toArray⟩ : ByteArray) = s := ⟨_, rfl⟩
  have HSH : Hid (t.okz → ∀ W1 cx, TC W1 t cx → ∀ W, Below W1.heap.size W1 W → Calls Tryz.prog 10 #[.agg cx.toArray] W fun e W' => e = .returned (.string s1) ∧ Below W.heap.size W W') := fun hk W1 cx h1 W hb => by rw [← hs1]; exact shape_fine h1 hk W hb
  obtain ⟨k1, v1, st1, ng1, A1, n1, c1, B1, b1, d1, X1, l1, e1, hf1⟩ := hp.form
  obtain ⟨k2, v2, st2, ng2, A2, n2, c2, B2, b2, d2, X2, l2, e2, hf2⟩ := ht.form
  subst hf1 hf2
  clear hs1 hp ht
  generalize hmo : matO p t = mo at *
  generalize matE p t = me at *
  clear hmo
  have HJ0 : Hid (Below w.heap.size w ((w.alloc (.cells #[.int .i64 k1, .int .i64 v1, .string st1, .bool ng1, .slice A1 n1 c1, .slice B1 b1 d1, .slice X1 l1 e1] 27)).alloc (.cells #[.int .i64 k2, .int .i64 v2, .string st2, .bool ng2, .slice A2 n2 c2, .slice B2 b2 d2, .slice X2 l2 e2] 27)) ∧ Blk ((w.alloc (.cells #[.int .i64 k1, .int .i64 v1, .string st1, .bool ng1, .slice A1 n1 c1, .slice B1 b1 d1, .slice X1 l1 e1] 27)).alloc (.cells #[.int .i64 k2, .int .i64 v2, .string st2, .bool ng2, .slice A2 n2 c2, .slice B2 b2 d2, .slice X2 l2 e2] 27)) w.heap.size 27 #[.int .i64 k1, .int .i64 v1, .string st1, .bool ng1, .slice A1 n1 c1, .slice B1 b1 d1, .slice X1 l1 e1] ∧ Blk ((w.alloc (.cells #[.int .i64 k1, .int .i64 v1, .string st1, .bool ng1, .slice A1 n1 c1, .slice B1 b1 d1, .slice X1 l1 e1] 27)).alloc (.cells #[.int .i64 k2, .int .i64 v2, .string st2, .bool ng2, .slice A2 n2 c2, .slice B2 b2 d2, .slice X2 l2 e2] 27)) (w.heap.size + 1) 27 #[.int .i64 k2, .int .i64 v2, .string st2, .bool ng2, .slice A2 n2 c2, .slice B2 b2 d2, .slice X2 l2 e2]) := ⟨below_pair w _ _, (Blk.new w _ _).alloc _, blk_2nd w _ _⟩
  go_enter Tryz.func4, Tryz.ntmps4
  go_wp2_with fail
  refine (HM1.out _ HJ0.out.1).mono ?_
  rintro e w1 ⟨l1v, rfl, hl1, hb1⟩
  have HJ1 : Hid (Below w.heap.size w w1 ∧ Blk w1 w.heap.size 27 #[.int .i64 k1, .int .i64 v1, .string st1, .bool ng1, .slice A1 n1 c1, .slice B1 b1 d1, .slice X1 l1 e1] ∧ Blk w1 (w.heap.size + 1) 27 #[.int .i64 k2, .int .i64 v2, .string st2, .bool ng2, .slice A2 n2 c2, .slice B2 b2 d2, .slice X2 l2 e2]) := ⟨HJ0.out.1.trans (hb1.mono HJ0.out.1.size), HJ0.out.2.1.to hb1, HJ0.out.2.2.to hb1⟩
  have HL1 := Lib.hid hl1
  have y0 := HJ1.out.2.1.cell 0
  have y1 := HJ1.out.2.1.cell 1
  have y2 := HJ1.out.2.1.cell 2
  have y3 := HJ1.out.2.1.cell 3
  have y4 := HJ1.out.2.1.cell 4
  have y5 := HJ1.out.2.1.cell 5
  have y6 := HJ1.out.2.1.cell 6
  simp only [List.getElem?_toArray, List.getElem?_cons_zero, List.getElem?_cons_succ] at y0 y1 y2 y3 y4 y5 y6
  have z0 := HJ1.out.2.2.cell 0
  have z1 := HJ1.out.2.2.cell 1
  have z2 := HJ1.out.2.2.cell 2
  have z3 := HJ1.out.2.2.cell 3
  have z4 := HJ1.out.2.2.cell 4
  have z5 := HJ1.out.2.2.cell 5
  have z6 := HJ1.out.2.2.cell 6
  simp only [List.getElem?_toArray, List.getElem?_cons_zero, List.getElem?_cons_succ] at z0 z1 z2 z3 z4 z5 z6
  clear hl1 hb1 HJ0 HM1
  go_wp2_with fail
  refine (HM2.out _ (by exact HJ1.out.1)).mono ?_
  rintro e w2 ⟨l2v, rfl, hl2, hb2⟩
  have HJ2 : Hid (Below w.heap.size w w2 ∧ Blk w2 w.heap.size 27 #[.int .i64 k1, .int .i64 v1, .string st1, .bool ng1, .slice A1 n1 c1, .slice B1 b1 d1, .slice X1 l1 e1] ∧ Blk w2 (w.heap.size + 1) 27 #[.int .i64 k2, .int .i64 v2, .string st2, .bool ng2, .slice A2 n2 c2, .slice B2 b2 d2, .slice X2 l2 e2]) := ⟨HJ1.out.1.trans (hb2.mono HJ1.out.1.size), HJ1.out.2.1.to hb2, HJ1.out.2.2.to hb2⟩
  have HL1 := Lib.hid (HL1.out.to hb2)
  have HL2 := Lib.hid hl2
  clear hl2 hb2 HJ1 HM2 y0 y1 y2 y3 y4 y5 y6 z0 z1 z2 z3 z4 z5 z6
  have hme : (me == me) = true := by simp
  have hmn : (me != me) = false := by simp
  cases mo with
  | none =>
    have HS0 := Lib.hid (HSB.out [] l1v l2v w2 (fun b hb => by cases hb) (by simp) HL1.out HL2.out)
    clear HAP HQ HSH HSB
    go_wp2_with fail
    refine (HS0.out _ (by exact Below.refl _ _)).mono ?_
    rintro e w3 ⟨rfl, hb3⟩
    have HB3 : Hid (Below w.heap.size w w3) := HJ2.out.1.trans (hb3.mono HJ2.out.1.size)
    clear hb3 HS0
    go_wp2_with fail
    refine (HBN.out _).mono ?_
    rintro e w4 ⟨rfl, hb4⟩
    have HB4 : Hid (Below w.heap.size w w4) := HB3.out.trans (hb4.out.mono HB3.out.size)
    go_wp2_with fail
    go_ret
    exact ⟨rfl, HB4.out⟩
  | some bs =>
    have hq := HQ.out bs rfl
    have HS0 := Lib.hid (HSB.out bs l1v l2v w2 hq.1 hq.2.1 HL1.out HL2.out)
    have HAB := Lib.hid (HAP.out bs rfl hq.2.1 w2 l1v HJ2.out.1 HL1.out)
    have HSX := Lib.hid (HSH.out hq.2.2)
    clear hq HAP HQ HSH HSB
    go_wp2_with fail
    refine (HS0.out _ (by exact Below.refl _ _)).mono ?_
    rintro e w3 ⟨rfl, hb3⟩
    have HJ3 : Hid (Below w.heap.size w w3 ∧ Blk w3 w.heap.size 27 #[.int .i64 k1, .int .i64 v1, .string st1, .bool ng1, .slice A1 n1 c1, .slice B1 b1 d1, .slice X1 l1 e1] ∧ Blk w3 (w.heap.size + 1) 27 #[.int .i64 k2, .int .i64 v2, .string st2, .bool ng2, .slice A2 n2 c2, .slice B2 b2 d2, .slice X2 l2 e2]) := ⟨HJ2.out.1.trans (hb3.mono HJ2.out.1.size), HJ2.out.2.1.to hb3, HJ2.out.2.2.to hb3⟩
    have HCA := Lib.hid (HAB.out w3 hb3)
    have y0 := HJ3.out.2.1.cell 0
    have y1 := HJ3.out.2.1.cell 1
    have y2 := HJ3.out.2.1.cell 2
    have y3 := HJ3.out.2.1.cell 3
    have y4 := HJ3.out.2.1.cell 4
    have y5 := HJ3.out.2.1.cell 5
    have y6 := HJ3.out.2.1.cell 6
    simp only [List.getElem?_toArray, List.getElem?_cons_zero, List.getElem?_cons_succ] at y0 y1 y2 y3 y4 y5 y6
    have z0 := HJ3.out.2.2.cell 0
    have z1 := HJ3.out.2.2.cell 1
    have z2 := HJ3.out.2.2.cell 2
    have z3 := HJ3.out.2.2.cell 3
    have z4 := HJ3.out.2.2.cell 4
    have z5 := HJ3.out.2.2.cell 5
    have z6 := HJ3.out.2.2.cell 6
    simp only [List.getElem?_toArray, List.getElem?_cons_zero, List.getElem?_cons_succ] at z0 z1 z2 z3 z4 z5 z6
    clear hb3 HS0 HAB HJ2 HL1 HL2
    go_wp2_with fail
    refine HCA.out.mono ?_
    rintro e w5 ⟨cx, rfl, hx, hb5⟩
    obtain ⟨k5, v5, st5, ng5, A5, n5, c5, B5, b5, d5, X5, l5, e5, hf5⟩ := hx.form
    subst hf5
    have HJ5 : Hid (Below w.heap.size w (w5.alloc (.cells #[.int .i64 k5, .int .i64 v5, .string st5, .bool ng5, .slice A5 n5 c5, .slice B5 b5 d5, .slice X5 l5 e5] 27)) ∧ Blk (w5.alloc (.cells #[.int .i64 k5, .int .i64 v5, .string st5, .bool ng5, .slice A5 n5 c5, .slice B5 b5 d5, .slice X5 l5 e5] 27)) w.heap.size 27 #[.int .i64 k1, .int .i64 v1, .string st1, .bool ng1, .slice A1 n1 c1, .slice B1 b1 d1, .slice X1 l1 e1] ∧ Blk (w5.alloc (.cells #[.int .i64 k5, .int .i64 v5, .string st5, .bool ng5, .slice A5 n5 c5, .slice B5 b5 d5, .slice X5 l5 e5] 27)) (w.heap.size + 1) 27 #[.int .i64 k2, .int .i64 v2, .string st2, .bool ng2, .slice A2 n2 c2, .slice B2 b2 d2, .slice X2 l2 e2]) := by
      have hb := hb5.trans ((below_one w5 (.cells #[.int .i64 k5, .int .i64 v5, .string st5, .bool ng5, .slice A5 n5 c5, .slice B5 b5 d5, .slice X5 l5 e5] 27)).mono hb5.size)
      exact ⟨HJ3.out.1.trans (hb.mono HJ3.out.1.size), HJ3.out.2.1.to hb, HJ3.out.2.2.to hb⟩
    have HX5 : Hid (Blk (w5.alloc (.cells #[.int .i64 k5, .int .i64 v5, .string st5, .bool ng5, .slice A5 n5 c5, .slice B5 b5 d5, .slice X5 l5 e5] 27)) w5.heap.size 27 #[.int .i64 k5, .int .i64 v5, .string st5, .bool ng5, .slice A5 n5 c5, .slice B5 b5 d5, .slice X5 l5 e5]) := Blk.new w5 _ _
    have HS1 := Lib.hid (HSX.out _ _ (hx.to (below_one w5 (.cells #[.int .i64 k5, .int .i64 v5, .string st5, .bool ng5, .slice A5 n5 c5, .slice B5 b5 d5, .slice X5 l5 e5] 27))))
    have HS2 := Lib.hid (HSX.out _ _ (HTT.out.to HJ5.out.1))
    clear hx hb5 HCA HJ3 HSX HTT y0 y1 y2 y3 y4 y5 y6 z0 z1 z2 z3 z4 z5 z6 hme hmn
    have HSS : Hid (∀ W', Below (w5.alloc (.cells #[.int .i64 k5, .int .i64 v5, .string st5, .bool ng5, .slice A5 n5 c5, .slice B5 b5 d5, .slice X5 l5 e5] 27)).heap.size (w5.alloc (.cells #[.int .i64 k5, .int .i64 v5, .string st5, .bool ng5, .slice A5 n5 c5, .slice B5 b5 d5, .slice X5 l5 e5] 27)) W' → W'.cell? ⟨w5.heap.size, 0, none⟩ = some (.int .i64 k5) ∧ W'.cell? ⟨w5.heap.size, 1, none⟩ = some (.int .i64 v5) ∧ W'.cell? ⟨w5.heap.size, 2, none⟩ = some (.string st5) ∧ W'.cell? ⟨w5.heap.size, 3, none⟩ = some (.bool ng5) ∧ W'.cell? ⟨w5.heap.size, 4, none⟩ = some (.slice A5 n5 c5) ∧ W'.cell? ⟨w5.heap.size, 5, none⟩ = some (.slice B5 b5 d5) ∧ W'.cell? ⟨w5.heap.size, 6, none⟩ = some (.slice X5 l5 e5) ∧ W'.cell? ⟨w.heap.size + 1, 0, none⟩ = some (.int .i64 k2) ∧ W'.cell? ⟨w.heap.size + 1, 1, none⟩ = some (.int .i64 v2) ∧ W'.cell? ⟨w.heap.size + 1, 2, none⟩ = some (.string st2) ∧ W'.cell? ⟨w.heap.size + 1, 3, none⟩ = some (.bool ng2) ∧ W'.cell? ⟨w.heap.size + 1, 4, none⟩ = some (.slice A2 n2 c2) ∧ W'.cell? ⟨w.heap.size + 1, 5, none⟩ = some (.slice B2 b2 d2) ∧ W'.cell? ⟨w.heap.size + 1, 6, none⟩ = some (.slice X2 l2 e2)) := fun W' hb => ⟨(HX5.out.to hb).cell 0, (HX5.out.to hb).cell 1, (HX5.out.to hb).cell 2, (HX5.out.to hb).cell 3, (HX5.out.to hb).cell 4, (HX5.out.to hb).cell 5, (HX5.out.to hb).cell 6, (HJ5.out.2.2.to hb).cell 0, (HJ5.out.2.2.to hb).cell 1, (HJ5.out.2.2.to hb).cell 2, (HJ5.out.2.2.to hb).cell 3, (HJ5.out.2.2.to hb).cell 4, (HJ5.out.2.2.to hb).cell 5, (HJ5.out.2.2.to hb).cell 6⟩
    have HQ1 : Hid (∀ y, Hid (Below (w5.alloc (.cells #[.int .i64 k5, .int .i64 v5, .string st5, .bool ng5, .slice A5 n5 c5, .slice B5 b5 d5, .slice X5 l5 e5] 27)).heap.size (w5.alloc (.cells #[.int .i64 k5, .int .i64 v5, .string st5, .bool ng5, .slice A5 n5 c5, .slice B5 b5 d5, .slice X5 l5 e5] 27)) y) → Calls Tryz.prog 10 #[.agg #[.int .i64 k5, .int .i64 v5, .string st5, .bool ng5, .slice A5 n5 c5, .slice B5 b5 d5, .slice X5 l5 e5]] y fun e w' => e = .returned (.string s1) ∧ Hid (Below (w5.alloc (.cells #[.int .i64 k5, .int .i64 v5, .string st5, .bool ng5, .slice A5 n5 c5, .slice B5 b5 d5, .slice X5 l5 e5] 27)).heap.size (w5.alloc (.cells #[.int .i64 k5, .int .i64 v5, .string st5, .bool ng5, .slice A5 n5 c5, .slice B5 b5 d5, .slice X5 l5 e5] 27)) w') ∧ (w'.cell? ⟨w5.heap.size, 0, none⟩ = some (.int .i64 k5) ∧ w'.cell? ⟨w5.heap.size, 1, none⟩ = some (.int .i64 v5) ∧ w'.cell? ⟨w5.heap.size, 2, none⟩ = some (.string st5) ∧ w'.cell? ⟨w5.heap.size, 3, none⟩ = some (.bool ng5) ∧ w'.cell? ⟨w5.heap.size, 4, none⟩ = some (.slice A5 n5 c5) ∧ w'.cell? ⟨w5.heap.size, 5, none⟩ = some (.slice B5 b5 d5) ∧ w'.cell? ⟨w5.heap.size, 6, none⟩ = some (.slice X5 l5 e5) ∧ w'.cell? ⟨w.heap.size + 1, 0, none⟩ = some (.int .i64 k2) ∧ w'.cell? ⟨w.heap.size + 1, 1, none⟩ = some (.int .i64 v2) ∧ w'.cell? ⟨w.heap.size + 1, 2, none⟩ = some (.string st2) ∧ w'.cell? ⟨w.heap.size + 1, 3, none⟩ = some (.bool ng2) ∧ w'.cell? ⟨w.heap.size + 1, 4, none⟩ = some (.slice A2 n2 c2) ∧ w'.cell? ⟨w.heap.size + 1, 5, none⟩ = some (.slice B2 b2 d2) ∧ w'.cell? ⟨w.heap.size + 1, 6, none⟩ = some (.slice X2 l2 e2))) := fun y hy => (HS1.out y hy.out).mono fun e w' q => by
      have hb' := hy.out.trans (q.2.mono hy.out.size)
      exact ⟨q.1, hb', HSS.out _ hb'⟩
    have HQ2 : Hid (∀ y, Hid (Below (w5.alloc (.cells #[.int .i64 k5, .int .i64 v5, .string st5, .bool ng5, .slice A5 n5 c5, .slice B5 b5 d5, .slice X5 l5 e5] 27)).heap.size (w5.alloc (.cells #[.int .i64 k5, .int .i64 v5, .string st5, .bool ng5, .slice A5 n5 c5, .slice B5 b5 d5, .slice X5 l5 e5] 27)) y) → Calls Tryz.prog 10 #[.agg #[.int .i64 k2, .int .i64 v2, .string st2, .bool ng2, .slice A2 n2 c2, .slice B2 b2 d2, .slice X2 l2 e2]] y fun e w' => e = .returned (.string s1) ∧ Hid (Below (w5.alloc (.cells #[.int .i64 k5, .int .i64 v5, .string st5, .bool ng5, .slice A5 n5 c5, .slice B5 b5 d5, .slice X5 l5 e5] 27)).heap.size (w5.alloc (.cells #[.int .i64 k5, .int .i64 v5, .string st5, .bool ng5, .slice A5 n5 c5, .slice B5 b5 d5, .slice X5 l5 e5] 27)) w') ∧ (w'.cell? ⟨w5.heap.size, 0, none⟩ = some (.int .i64 k5) ∧ w'.cell? ⟨w5.heap.size, 1, none⟩ = some (.int .i64 v5) ∧ w'.cell? ⟨w5.heap.size, 2, none⟩ = some (.string st5) ∧ w'.cell? ⟨w5.heap.size, 3, none⟩ = some (.bool ng5) ∧ w'.cell? ⟨w5.heap.size, 4, none⟩ = some (.slice A5 n5 c5) ∧ w'.cell? ⟨w5.heap.size, 5, none⟩ = some (.slice B5 b5 d5) ∧ w'.cell? ⟨w5.heap.size, 6, none⟩ = some (.slice X5 l5 e5) ∧ w'.cell? ⟨w.heap.size + 1, 0, none⟩ = some (.int .i64 k2) ∧ w'.cell? ⟨w.heap.size + 1, 1, none⟩ = some (.int .i64 v2) ∧ w'.cell? ⟨w.heap.size + 1, 2, none⟩ = some (.string st2) ∧ w'.cell? ⟨w.heap.size + 1, 3, none⟩ = some (.bool ng2) ∧ w'.cell? ⟨w.heap.size + 1, 4, none⟩ = some (.slice A2 n2 c2) ∧ w'.cell? ⟨w.heap.size + 1, 5, none⟩ = some (.slice B2 b2 d2) ∧ w'.cell? ⟨w.heap.size + 1, 6, none⟩ = some (.slice X2 l2 e2))) := fun y hy => (HS2.out y hy.out).mono fun e w' q => by
      have hb' := hy.out.trans (q.2.mono hy.out.size)
      exact ⟨q.1, hb', HSS.out _ hb'⟩
    have HQ3 : Hid (∀ y, Hid (Below (w5.alloc (.cells #[.int .i64 k5, .int .i64 v5, .string st5, .bool ng5, .slice A5 n5 c5, .slice B5 b5 d5, .slice X5 l5 e5] 27)).heap.size (w5.alloc (.cells #[.int .i64 k5, .int .i64 v5, .string st5, .bool ng5, .slice A5 n5 c5, .slice B5 b5 d5, .slice X5 l5 e5] 27)) y) → Calls Tryz.prog 13 #[] y fun e w' => e = .returned (.bool true) ∧ Hid (Below (w5.alloc (.cells #[.int .i64 k5, .int .i64 v5, .string st5, .bool ng5, .slice A5 n5 c5, .slice B5 b5 d5, .slice X5 l5 e5] 27)).heap.size (w5.alloc (.cells #[.int .i64 k5, .int .i64 v5, .string st5, .bool ng5, .slice A5 n5 c5, .slice B5 b5 d5, .slice X5 l5 e5] 27)) w') ∧ (w'.cell? ⟨w5.heap.size, 0, none⟩ = some (.int .i64 k5) ∧ w'.cell? ⟨w5.heap.size, 1, none⟩ = some (.int .i64 v5) ∧ w'.cell? ⟨w5.heap.size, 2, none⟩ = some (.string st5) ∧ w'.cell? ⟨w5.heap.size, 3, none⟩ = some (.bool ng5) ∧ w'.cell? ⟨w5.heap.size, 4, none⟩ = some (.slice A5 n5 c5) ∧ w'.cell? ⟨w5.heap.size, 5, none⟩ = some (.slice B5 b5 d5) ∧ w'.cell? ⟨w5.heap.size, 6, none⟩ = some (.slice X5 l5 e5) ∧ w'.cell? ⟨w.heap.size + 1, 0, none⟩ = some (.int .i64 k2) ∧ w'.cell? ⟨w.heap.size + 1, 1, none⟩ = some (.int .i64 v2) ∧ w'.cell? ⟨w.heap.size + 1, 2, none⟩ = some (.string st2) ∧ w'.cell? ⟨w.heap.size + 1, 3, none⟩ = some (.bool ng2) ∧ w'.cell? ⟨w.heap.size + 1, 4, none⟩ = some (.slice A2 n2 c2) ∧ w'.cell? ⟨w.heap.size + 1, 5, none⟩ = some (.slice B2 b2 d2) ∧ w'.cell? ⟨w.heap.size + 1, 6, none⟩ = some (.slice X2 l2 e2))) := fun y hy => (HBN.out y).mono fun e w' q => by
      have hb' := hy.out.trans (q.2.out.mono hy.out.size)
      exact ⟨q.1, hb', HSS.out _ hb'⟩
    have HB0 : Hid (Below (w5.alloc (.cells #[.int .i64 k5, .int .i64 v5, .string st5, .bool ng5, .slice A5 n5 c5, .slice B5 b5 d5, .slice X5 l5 e5] 27)).heap.size (w5.alloc (.cells #[.int .i64 k5, .int .i64 v5, .string st5, .bool ng5, .slice A5 n5 c5, .slice B5 b5 d5, .slice X5 l5 e5] 27)) (w5.alloc (.cells #[.int .i64 k5, .int .i64 v5, .string st5, .bool ng5, .slice A5 n5 c5, .slice B5 b5 d5, .slice X5 l5 e5] 27)).drew) := (Below.refl _ _).drew
    have hS0 := HSS.out _ HB0.out
    have hss : (s1.toList == s1.toList) = true := beq_self_eq_true _
    clear HS1 HS2 HSS HX5
    go_wp2_with fail
    go_region_held3 (fun w' => w'.cell? ⟨w5.heap.size, 0, none⟩ = some (.int .i64 k5) ∧ w'.cell? ⟨w5.heap.size, 1, none⟩ = some (.int .i64 v5) ∧ w'.cell? ⟨w5.heap.size, 2, none⟩ = some (.string st5) ∧ w'.cell? ⟨w5.heap.size, 3, none⟩ = some (.bool ng5) ∧ w'.cell? ⟨w5.heap.size, 4, none⟩ = some (.slice A5 n5 c5) ∧ w'.cell? ⟨w5.heap.size, 5, none⟩ = some (.slice B5 b5 d5) ∧ w'.cell? ⟨w5.heap.size, 6, none⟩ = some (.slice X5 l5 e5) ∧ w'.cell? ⟨w.heap.size + 1, 0, none⟩ = some (.int .i64 k2) ∧ w'.cell? ⟨w.heap.size + 1, 1, none⟩ = some (.int .i64 v2) ∧ w'.cell? ⟨w.heap.size + 1, 2, none⟩ = some (.string st2) ∧ w'.cell? ⟨w.heap.size + 1, 3, none⟩ = some (.bool ng2) ∧ w'.cell? ⟨w.heap.size + 1, 4, none⟩ = some (.slice A2 n2 c2) ∧ w'.cell? ⟨w.heap.size + 1, 5, none⟩ = some (.slice B2 b2 d2) ∧ w'.cell? ⟨w.heap.size + 1, 6, none⟩ = some (.slice X2 l2 e2))
      (with_reducible assumption)
      (first
        | (go_at_call 10; (with_reducible refine (HQ1.out _ HB0).mono ?_); rintro e y3 ⟨rfl, HB3, hS1⟩)
        | (go_at_call 10; (with_reducible refine (HQ2.out _ HB3).mono ?_); rintro e y4 ⟨rfl, HB4, hS2⟩)
        | (go_at_call 13; (with_reducible refine (HQ3.out _ HB4).mono ?_); rintro e y5 ⟨rfl, HB5, hS3⟩))
    have HB9 : Hid (Below w.heap.size w y5) := HJ5.out.1.trans (HB5.out.mono HJ5.out.1.size)
    clear hS0 hS1 hS2 hS3 HQ1 HQ2 HQ3
    go_wp2_with fail
    go_ret
    exact ⟨rfl, HB9.out⟩
theorem termMatch_holds : Rows.TermMatchMapsSaid := LawTmMatch.said law_tmMatch
end Go.Proofs.YtkfnpcilanheiaaGreat

/- term.Apply: variables replaced by the terms of bindings. And 1 more texts. -/
import Derived.Maps.RangeWalk
import Derived.Test.YtkfnpcilanheiaaGreatJo25
set_option linter.unusedVariables false
set_option linter.unusedSimpArgs false
set_option maxRecDepth 100000
namespace Go.Proofs.YtkfnpcilanheiaaGreat
open Go.RowKit NumB
theorem BL.to {w w' : World} {v : Value} {ts : List (Int × Tm)} (h : BL w v ts) (hb : Below w.heap.size w w') : BL w' v ts := by
  obtain ⟨Ar, cap, cs, e, h1, h2, h3, h4⟩ := h
  refine ⟨Ar, cap, cs, e, h1, h2, fun h0 => ?_, fun i hi => ?_⟩
  · obtain ⟨b, o, e, hlt, hc⟩ := h3 h0
    exact ⟨b, o, e, Nat.lt_of_lt_of_le hlt hb.size, fun i hi j hj => (hb.cell (p := ⟨b, o + i * 8 + j, none⟩) hlt).trans (hc i hi j hj)⟩
  · obtain ⟨ct, e, hi, ht⟩ := h4 i hi
    exact ⟨ct, e, hi, ht.to hb⟩
theorem TCP.zero (p : Nat → Prop) (w : World) : TCP p w .zero [.int .i64 0, .int .i64 0, .string ⟨#[]⟩, .bool false, .slice none 0 0, .slice none 0 0, .slice none 0 0] :=
  .mk 0 0 ⟨#[]⟩ ⟨false, [], []⟩ [] (.slice none 0 0) (.slice none 0 0) none 0 (fun _ => []) ⟨by decide, by decide⟩ ⟨by decide, by decide⟩ (by decide) (.nil_ p _) (.nil_ p _) ⟨Ok.nil, Ok.nil⟩ (Nat.le_refl _) (by decide) (fun h => by simp at h) (fun i h => by simp at h)
theorem fnd_sm {w : World} {bs : List (Int × Tm)} {bv : Value} (h : BL w bv bs) (hg : Good bs) {v : Int} {x : Tm} (hx : fnd bs v = some x) : x.sm := by
  obtain ⟨j, hj, rfl⟩ := fnd_mem hx
  obtain ⟨Ar, cap, cs, e, h1, h2, h3, h4⟩ := h
  obtain ⟨ct, e, hi, ht⟩ := h4 j hj
  exact ht.sm (check_err0 (hg j hj).2).2
set_option maxHeartbeats 12800000 in
theorem apply_any {w : World} {t : Tm} {cs : List Value} (h : TC w t cs) {bs : List (Int × Tm)} {bv : Value} (hb : BL w bv bs) (hn : bs.length * 120 ≤ 140737488351232) (W : World) (hW : Below w.heap.size w W) :
    Calls Tryz.prog 8 #[.agg cs.toArray, bv] W fun e W' => ∃ cx tx er, e = .returned (.tuple #[.agg cx.toArray, .int .i64 er]) ∧ TCP (fun b => b < w.heap.size ∨ W.heap.size ≤ b) W' tx cx ∧ ApplyR t bs tx er ∧ Below W.heap.size W W' := by
  have HBL := Lib.hid hb
  have HTC := Lib.hid h
  have HC : Hid (∀ W', Below w.heap.size w W' → Calls Tryz.prog 25 #[.agg cs.toArray] W' fun e w' => e = .returned (.int .i64 t.check) ∧ Below W'.heap.size W' w') := fun W' hb => tmCheck_any h W' hb
  have HS : t.check = 0 → Hid (∀ W', Below w.heap.size w W' → Calls Tryz.prog 30 #[.agg cs.toArray] W' fun e w' => e = .returned (.int .i64 (t.count : Int)) ∧ Below W'.heap.size W' w') := fun hc W' hb => sizeP_any h (by have := (check_err0 hc).1; omega) W' hb
  have HNN : Hid ((bs.length : Int) * 120 ≤ 140737488351232) := by show _ ≤ _; omega
  have HGR : t.check = 0 → Good bs → Hid (∀ (bc : Nat) (W1 : World), Below w.heap.size w W1 → W1.cell? ⟨bc, 0, none⟩ = some bv → bc < W1.heap.size → Calls Tryz.prog 31 #[.agg cs.toArray, .func (.func 26) #[] #[.pointer (some ⟨bc, 0, none⟩)]] W1 fun e W' => e = .returned (.int .i64 (t.grow (fnd bs) : Int)) ∧ Below W1.heap.size W1 W') := fun hc hg bc W1 hb1 hcell hlt =>
    grown_any (w := W1) 26 bc (enters_of Tryz.func26 (by kernel_rfl) rfl) (fnd bs) (fun v x hx => (hg.fnd hx).2) (fun v W2 hb2 => apply1_any (hb.to hb1) HNN.out hg.incr bc hcell hlt v W2 hb2) (h.to hb1) (check_err0 hc).1 W1 (Below.refl _ _)
  have HRP : t.check = 0 → Good bs → Hid (∀ (bc : Nat) (W1 : World), Below w.heap.size w W1 → W1.cell? ⟨bc, 0, none⟩ = some bv → bc < W1.heap.size → Calls Tryz.prog 32 #[.agg cs.toArray, .func (.func 26) #[] #[.pointer (some ⟨bc, 0, none⟩)]] W1 fun e W' => ∃ cs', e = .returned (.agg cs'.toArray) ∧ TCF (W1.heap.size + 1) W' (t.repl (fnd bs)) cs' ∧ Below W1.heap.size W1 W') := fun hc hg bc W1 hb1 hcell hlt =>
    replace_tm (w := W1) 26 bc (enters_of Tryz.func26 (by kernel_rfl) rfl) (fnd bs) (fun v x hx => fnd_sm hb hg hx) (fun v W2 hb2 => apply1_any (hb.to hb1) HNN.out hg.incr bc hcell hlt v W2 hb2) (h.to hb1) (h.sm (check_err0 hc).2) W1 (Below.refl _ _)
  have HCN : t.check = 0 → (t.repl (fnd bs)).count = t.count + t.grow (fnd bs) ∧ t.count ≤ 10000 := fun hc => ⟨t.count_repl _ (t.bare_of (check_err0 hc).2), (check_err0 hc).1⟩
  have HGB : t.check = 0 → Good bs → t.grow (fnd bs) ≤ 100000000 := fun hc hg => by
    have := t.grow_le (f := fnd bs) (fun v x hx => (hg.fnd hx).2)
    have := (check_err0 hc).1
    omega
  have HR0 : Hid (t.check ≠ 0 → ApplyR t bs .zero t.check) := fun h => .bad h
  have HR1 : Hid (t.check = 0 → ¬ Good bs → ApplyR t bs .zero 2) := fun h h2 => .form h h2
  have HR2 : Hid (t.check = 0 → Good bs → 10000 < (t.repl (fnd bs)).count → ApplyR t bs .zero 3) := fun h h2 h3 => .size h h2 h3
  have HR3 : Hid (t.check = 0 → Good bs → (t.repl (fnd bs)).count ≤ 10000 → ApplyR t bs (t.repl (fnd bs)) 0) := fun h h2 h3 => .ok h h2 h3
  obtain ⟨k, v0, s, ng, A1, n1, c1, B1, m1, d1, Xr, xl, xc, hcs⟩ := h.form
  subst hcs
  obtain ⟨Ab, cb, csb, rfl, hcap, hm, hrow, hba⟩ := hb
  have HR := Lib.hid hrow
  have HA := Lib.hid hba
  have HWB := Lib.hid hW
  unfold maxLen at hm
  obtain ⟨n, hl⟩ : ∃ n, bs.length = n := ⟨_, rfl⟩
  rw [hl] at hcap hn HGR HRP HBL ⊢
  have HL := Lib.hid hl
  clear hl hrow hba hW h
  generalize t.check = tk at *
  generalize t.repl (fnd bs) = tr at *
  generalize t.grow (fnd bs) = tg at *
  generalize t.count = tc at *
  have HB0 : Hid (Below W.heap.size W (((W.alloc (.cells #[.int .i64 k, .int .i64 v0, .string s, .bool ng, .slice A1 n1 c1, .slice B1 m1 d1, .slice Xr xl xc] 27)).alloc (.cells #[.slice Ab n cb] 28)).alloc (.cells #[.int .i64 0, .int .i64 0, .string ⟨#[]⟩, .bool false, .slice none 0 0, .slice none 0 0, .slice none 0 0] 27))) := (below_pair W _ _).alloc (by simp; omega) _
  have HKT : Hid (Blk (((W.alloc (.cells #[.int .i64 k, .int .i64 v0, .string s, .bool ng, .slice A1 n1 c1, .slice B1 m1 d1, .slice Xr xl xc] 27)).alloc (.cells #[.slice Ab n cb] 28)).alloc (.cells #[.int .i64 0, .int .i64 0, .string ⟨#[]⟩, .bool false, .slice none 0 0, .slice none 0 0, .slice none 0 0] 27)) W.heap.size 27 #[.int .i64 k, .int .i64 v0, .string s, .bool ng, .slice A1 n1 c1, .slice B1 m1 d1, .slice Xr xl xc]) := ((Blk.new W _ _).alloc _).alloc _
  have HKB : Hid (Blk (((W.alloc (.cells #[.int .i64 k, .int .i64 v0, .string s, .bool ng, .slice A1 n1 c1, .slice B1 m1 d1, .slice Xr xl xc] 27)).alloc (.cells #[.slice Ab n cb] 28)).alloc (.cells #[.int .i64 0, .int .i64 0, .string ⟨#[]⟩, .bool false, .slice none 0 0, .slice none 0 0, .slice none 0 0] 27)) (W.heap.size + 1) 28 #[.slice Ab n cb]) := (blk_2nd W _ _).alloc _
  have HK0 : Hid (Blk (((W.alloc (.cells #[.int .i64 k, .int .i64 v0, .string s, .bool ng, .slice A1 n1 c1, .slice B1 m1 d1, .slice Xr xl xc] 27)).alloc (.cells #[.slice Ab n cb] 28)).alloc (.cells #[.int .i64 0, .int .i64 0, .string ⟨#[]⟩, .bool false, .slice none 0 0, .slice none 0 0, .slice none 0 0] 27)) (W.heap.size + 2) 27 #[.int .i64 0, .int .i64 0, .string ⟨#[]⟩, .bool false, .slice none 0 0, .slice none 0 0, .slice none 0 0]) := by
    have h2 := blk_2nd (W.alloc (.cells #[.int .i64 k, .int .i64 v0, .string s, .bool ng, .slice A1 n1 c1, .slice B1 m1 d1, .slice Xr xl xc] 27)) (.cells #[.slice Ab n cb] 28) (T := 27) #[.int .i64 0, .int .i64 0, .string ⟨#[]⟩, .bool false, .slice none 0 0, .slice none 0 0, .slice none 0 0]
    rw [show (W.alloc (.cells #[.int .i64 k, .int .i64 v0, .string s, .bool ng, .slice A1 n1 c1, .slice B1 m1 d1, .slice Xr xl xc] 27)).heap.size + 1 = W.heap.size + 2 by simp] at h2
    exact h2
  go_enter Tryz.func8, Tryz.ntmps8
  go_wp2_with fail
  refine (HC.out _ (by exact HWB.out.trans (HB0.out.mono HWB.out.size))).mono ?_
  rintro e w1 ⟨rfl, hb1⟩
  have HJ1 : Hid (Blk w1 W.heap.size 27 #[.int .i64 k, .int .i64 v0, .string s, .bool ng, .slice A1 n1 c1, .slice B1 m1 d1, .slice Xr xl xc] ∧ Blk w1 (W.heap.size + 1) 28 #[.slice Ab n cb] ∧ Blk w1 (W.heap.size + 2) 27 #[.int .i64 0, .int .i64 0, .string ⟨#[]⟩, .bool false, .slice none 0 0, .slice none 0 0, .slice none 0 0] ∧ Below W.heap.size W w1) := ⟨HKT.out.to hb1, HKB.out.to hb1, HK0.out.to hb1, HB0.out.trans (hb1.mono HB0.out.size)⟩
  clear hb1 HB0 HKT HKB HK0 HC
  by_cases hk : tk = 0
  · subst hk
    have HSZ := HS rfl
    have HGRW := HGR rfl
    have HRPL := HRP rfl
    have HCNT := Lib.hid (HCN rfl)
    have HGBD := Lib.hid (HGB rfl)
    clear HS HGR HRP HCN HGB HR0
    have yb := HJ1.out.2.1.cell 0
    simp only [List.getElem?_toArray, List.getElem?_cons_zero] at yb
    go_wp2_with fail
    clear yb
    go_loopg [7, 20] n (fun gk s7 s20 wr => ∃ (j : Nat) (lw : Int), gk + j = n ∧ s20 = .int .i64 (j : Int) ∧ s7 = .int .i64 lw ∧ Hid (lw = lastOf bs j) ∧ Hid (∀ q (hq : q < bs.length), q < j → lastOf bs q < (bs[q]).1 ∧ (bs[q]).2.check = 0) ∧ Hid (Blk wr W.heap.size 27 #[.int .i64 k, .int .i64 v0, .string s, .bool ng, .slice A1 n1 c1, .slice B1 m1 d1, .slice Xr xl xc] ∧ Blk wr (W.heap.size + 1) 28 #[.slice Ab n cb] ∧ Blk wr (W.heap.size + 2) 27 #[.int .i64 0, .int .i64 0, .string ⟨#[]⟩, .bool false, .slice none 0 0, .slice none 0 0, .slice none 0 0] ∧ Below W.heap.size W wr))
    case atStart => exact ⟨0, _, by omega, rfl, rfl, rfl, fun q _ h => absurd h (by omega), HJ1.out⟩
    case round =>
      clear HJ1
      obtain ⟨j, lw, hgj, rfl, rfl, HLW, HN, HJ⟩ := hrel
      by_cases hj : j < n
      · clear HSZ HGRW HRPL HCNT HGBD HR2 HR3
        have hja : j < bs.length := by rw [HL.out]; exact hj
        have HBW := HWB.out.trans (HJ.out.2.2.2.mono HWB.out.size)
        obtain ⟨b, o, k5, v5, st5, ng5, A5, n5, c5, B5, m5, d5, X5, l5, e5, hAr, htc, hlt, y0, y1, y2, y3, y4, y5, y6, y7⟩ := bind_cells HR.out HA.out HBW hja
        subst hAr
        have HCB : Hid (∀ W', Below w.heap.size w W' → Calls Tryz.prog 25 #[.agg #[.int .i64 k5, .int .i64 v5, .string st5, .bool ng5, .slice A5 n5 c5, .slice B5 m5 d5, .slice X5 l5 e5]] W' fun e w' => e = .returned (.int .i64 (bs[j]).2.check) ∧ Below W'.heap.size W' w') := fun W' hb => tmCheck_any htc W' hb
        have HBAD1 : Hid ((bs[j]).1 ≤ lw → ¬ Good bs) := fun hle hg => by have := (hg j hja).1; have := HLW.out; omega
        have HBAD2 : Hid ((bs[j]).2.check ≠ 0 → ¬ Good bs) := fun hne hg => hne (hg j hja).2
        have HNX : Hid (¬ (bs[j]).1 ≤ lw → (bs[j]).2.check = 0 → (bs[j]).1 = lastOf bs (j + 1) ∧ ∀ q (hq : q < bs.length), q < j + 1 → lastOf bs q < (bs[q]).1 ∧ (bs[q]).2.check = 0) := fun h1 h2 => ⟨(lastOf_succ hja).symm, fun q hq hl => by
          by_cases e : q = j
          · subst e; exact ⟨by have := HLW.out; omega, h2⟩
          · exact HN.out q hq (by omega)⟩
        generalize (bs[j]).2.check = ck at *
        generalize (bs[j]).1 = x at *
        have HJ8 : Hid (Blk (wr.alloc (.cells #[.int .i64 x, .int .i64 k5, .int .i64 v5, .string st5, .bool ng5, .slice A5 n5 c5, .slice B5 m5 d5, .slice X5 l5 e5] 51)) W.heap.size 27 #[.int .i64 k, .int .i64 v0, .string s, .bool ng, .slice A1 n1 c1, .slice B1 m1 d1, .slice Xr xl xc] ∧ Blk (wr.alloc (.cells #[.int .i64 x, .int .i64 k5, .int .i64 v5, .string st5, .bool ng5, .slice A5 n5 c5, .slice B5 m5 d5, .slice X5 l5 e5] 51)) (W.heap.size + 1) 28 #[.slice (some ⟨b, o, none⟩) n cb] ∧ Blk (wr.alloc (.cells #[.int .i64 x, .int .i64 k5, .int .i64 v5, .string st5, .bool ng5, .slice A5 n5 c5, .slice B5 m5 d5, .slice X5 l5 e5] 51)) (W.heap.size + 2) 27 #[.int .i64 0, .int .i64 0, .string ⟨#[]⟩, .bool false, .slice none 0 0, .slice none 0 0, .slice none 0 0] ∧ Below W.heap.size W (wr.alloc (.cells #[.int .i64 x, .int .i64 k5, .int .i64 v5, .string st5, .bool ng5, .slice A5 n5 c5, .slice B5 m5 d5, .slice X5 l5 e5] 51))) := ⟨HJ.out.1.to (below_one wr _), HJ.out.2.1.to (below_one wr _), HJ.out.2.2.1.to (below_one wr _), HJ.out.2.2.2.trans ((below_one wr _).mono HJ.out.2.2.2.size)⟩
        have HK9 : Hid (Blk (wr.alloc (.cells #[.int .i64 x, .int .i64 k5, .int .i64 v5, .string st5, .bool ng5, .slice A5 n5 c5, .slice B5 m5 d5, .slice X5 l5 e5] 51)) wr.heap.size 51 #[.int .i64 x, .int .i64 k5, .int .i64 v5, .string st5, .bool ng5, .slice A5 n5 c5, .slice B5 m5 d5, .slice X5 l5 e5]) := Blk.new wr _ _
        clear htc hlt hja HLW HN HBW
        by_cases hx : x ≤ lw
        · have HBAD := Lib.hid (HR1.out (by trivial) (HBAD1.out hx))
          have HKZ : Hid (Blk (wr.alloc (.cells #[.int .i64 x, .int .i64 k5, .int .i64 v5, .string st5, .bool ng5, .slice A5 n5 c5, .slice B5 m5 d5, .slice X5 l5 e5] 51)) (W.heap.size + 2) 27 #[.int .i64 0, .int .i64 0, .string ⟨#[]⟩, .bool false, .slice none 0 0, .slice none 0 0, .slice none 0 0]) := HJ8.out.2.2.1
          have hxd : decide (x ≤ lw) = true := by simp [hx]
          clear HBAD1 HBAD2 HNX HCB HJ
          have r0 := HKZ.out.cell 0
          have r1 := HKZ.out.cell 1
          have r2 := HKZ.out.cell 2
          have r3 := HKZ.out.cell 3
          have r4 := HKZ.out.cell 4
          have r5 := HKZ.out.cell 5
          have r6 := HKZ.out.cell 6
          simp only [List.getElem?_toArray, List.getElem?_cons_zero, List.getElem?_cons_succ] at r0 r1 r2 r3 r4 r5 r6
          have z0 := HKZ.out.frozen 0
          have z1 := HKZ.out.frozen 1
          have z2 := HKZ.out.frozen 2
          have z3 := HKZ.out.frozen 3
          have z4 := HKZ.out.frozen 4
          have z5 := HKZ.out.frozen 5
          have z6 := HKZ.out.frozen 6
          go_wp2_with fail
          refine bodyPost_ret (v := .tuple #[.agg #[.int .i64 0, .int .i64 0, .string ⟨#[]⟩, .bool false, .slice none 0 0, .slice none 0 0, .slice none 0 0], .int .i64 2]) (by rw [results_cell_tmp rfl]; go_simp) rfl ?_
          exact ⟨[.int .i64 0, .int .i64 0, .string ⟨#[]⟩, .bool false, .slice none 0 0, .slice none 0 0, .slice none 0 0], .zero, 2, rfl, TCP.zero _ _, HBAD.out, (((((((HJ8.out.2.2.2.setCell (Nat.le_add_right _ 2) _).setCell (Nat.le_add_right _ 2) _).setCell (Nat.le_add_right _ 2) _).setCell (Nat.le_add_right _ 2) _).setCell (Nat.le_add_right _ 2) _).setCell (Nat.le_add_right _ 2) _).setCell (Nat.le_add_right _ 2) _)⟩
        · have hxd : decide (x ≤ lw) = false := by simp [hx]
          have HNX2 := Lib.hid (HNX.out hx)
          clear HBAD1 HNX HJ hx
          go_wp2_with fail
          refine (HCB.out _ (by exact HWB.out.trans (HJ8.out.2.2.2.mono HWB.out.size))).mono ?_
          rintro e w5 ⟨rfl, hb5⟩
          have HJ5 : Hid (Blk w5 W.heap.size 27 #[.int .i64 k, .int .i64 v0, .string s, .bool ng, .slice A1 n1 c1, .slice B1 m1 d1, .slice Xr xl xc] ∧ Blk w5 (W.heap.size + 1) 28 #[.slice (some ⟨b, o, none⟩) n cb] ∧ Blk w5 (W.heap.size + 2) 27 #[.int .i64 0, .int .i64 0, .string ⟨#[]⟩, .bool false, .slice none 0 0, .slice none 0 0, .slice none 0 0] ∧ Below W.heap.size W w5) := ⟨HJ8.out.1.to hb5, HJ8.out.2.1.to hb5, HJ8.out.2.2.1.to hb5, HJ8.out.2.2.2.trans (hb5.mono HJ8.out.2.2.2.size)⟩
          have HK5 := Lib.hid (HK9.out.to hb5)
          clear hb5 HJ8 HK9 HCB y0 y1 y2 y3 y4 y5 y6 y7
          by_cases hck : ck = 0
          · subst hck
            have HNX3 := Lib.hid (HNX2.out rfl)
            have x0 := HK5.out.cell 0
            simp only [List.getElem?_toArray, List.getElem?_cons_zero] at x0
            clear HNX2 HBAD2
            go_wp2_with fail
            go_roundg (gk - 1)
            case measure => omega
            case rel => exact ⟨j + 1, x, by omega, by go_num, rfl, HNX3.out.1, HNX3.out.2, HJ5.out⟩
          · have HBAD := Lib.hid (HR1.out (by trivial) (HBAD2.out hck))
            have hcb : (ck == 0) = false := beq_eq_false_iff_ne.2 hck
            have HKZ : Hid (Blk w5 (W.heap.size + 2) 27 #[.int .i64 0, .int .i64 0, .string ⟨#[]⟩, .bool false, .slice none 0 0, .slice none 0 0, .slice none 0 0]) := HJ5.out.2.2.1
            clear HBAD2 HNX2 hck
            have r0 := HKZ.out.cell 0
            have r1 := HKZ.out.cell 1
            have r2 := HKZ.out.cell 2
            have r3 := HKZ.out.cell 3
            have r4 := HKZ.out.cell 4
            have r5 := HKZ.out.cell 5
            have r6 := HKZ.out.cell 6
            simp only [List.getElem?_toArray, List.getElem?_cons_zero, List.getElem?_cons_succ] at r0 r1 r2 r3 r4 r5 r6
            have z0 := HKZ.out.frozen 0
            have z1 := HKZ.out.frozen 1
            have z2 := HKZ.out.frozen 2
            have z3 := HKZ.out.frozen 3
            have z4 := HKZ.out.frozen 4
            have z5 := HKZ.out.frozen 5
            have z6 := HKZ.out.frozen 6
            go_wp2_with fail
            refine bodyPost_ret (v := .tuple #[.agg #[.int .i64 0, .int .i64 0, .string ⟨#[]⟩, .bool false, .slice none 0 0, .slice none 0 0, .slice none 0 0], .int .i64 2]) (by rw [results_cell_tmp rfl]; go_simp) rfl ?_
            exact ⟨[.int .i64 0, .int .i64 0, .string ⟨#[]⟩, .bool false, .slice none 0 0, .slice none 0 0, .slice none 0 0], .zero, 2, rfl, TCP.zero _ _, HBAD.out, (((((((HJ5.out.2.2.2.setCell (Nat.le_add_right _ 2) _).setCell (Nat.le_add_right _ 2) _).setCell (Nat.le_add_right _ 2) _).setCell (Nat.le_add_right _ 2) _).setCell (Nat.le_add_right _ 2) _).setCell (Nat.le_add_right _ 2) _).setCell (Nat.le_add_right _ 2) _)⟩
      · obtain rfl : n = j := by omega
        have HG : Hid (Good bs) := fun q hq => HN.out q hq (by rw [← HL.out]; exact hq)
        have HGRW := HGRW HG.out
        have HRPL := HRPL HG.out
        have hgb := HGBD.out HG.out
        have hcnt := HCNT.out.2
        have hctr := HCNT.out.1
        have HR2 := Lib.hid (HR2.out (by trivial) HG.out)
        have HR3 := Lib.hid (HR3.out (by trivial) HG.out)
        rw [hctr] at HR2 HR3
        have HKT : Hid (Blk wr W.heap.size 27 #[.int .i64 k, .int .i64 v0, .string s, .bool ng, .slice A1 n1 c1, .slice B1 m1 d1, .slice Xr xl xc]) := HJ.out.1
        clear HN HLW HG HCNT HGBD HR1 hctr
        have y0 := HKT.out.cell 0
        have y1 := HKT.out.cell 1
        have y2 := HKT.out.cell 2
        have y3 := HKT.out.cell 3
        have y4 := HKT.out.cell 4
        have y5 := HKT.out.cell 5
        have y6 := HKT.out.cell 6
        simp only [List.getElem?_toArray, List.getElem?_cons_zero, List.getElem?_cons_succ] at y0 y1 y2 y3 y4 y5 y6
        go_wp2_with fail
        refine (HSZ.out _ (by exact HWB.out.trans (HJ.out.2.2.2.mono HWB.out.size))).mono ?_
        rintro e w5 ⟨rfl, hb5⟩
        have HJ5 : Hid (Blk w5 W.heap.size 27 #[.int .i64 k, .int .i64 v0, .string s, .bool ng, .slice A1 n1 c1, .slice B1 m1 d1, .slice Xr xl xc] ∧ Blk w5 (W.heap.size + 1) 28 #[.slice Ab n cb] ∧ Blk w5 (W.heap.size + 2) 27 #[.int .i64 0, .int .i64 0, .string ⟨#[]⟩, .bool false, .slice none 0 0, .slice none 0 0, .slice none 0 0] ∧ Below W.heap.size W w5) := ⟨HJ.out.1.to hb5, HJ.out.2.1.to hb5, HJ.out.2.2.1.to hb5, HJ.out.2.2.2.trans (hb5.mono HJ.out.2.2.2.size)⟩
        have HKT5 : Hid (Blk w5 W.heap.size 27 #[.int .i64 k, .int .i64 v0, .string s, .bool ng, .slice A1 n1 c1, .slice B1 m1 d1, .slice Xr xl xc]) := HJ5.out.1
        clear hb5 HJ HKT HSZ y0 y1 y2 y3 y4 y5 y6
        have y0 := HKT5.out.cell 0
        have y1 := HKT5.out.cell 1
        have y2 := HKT5.out.cell 2
        have y3 := HKT5.out.cell 3
        have y4 := HKT5.out.cell 4
        have y5 := HKT5.out.cell 5
        have y6 := HKT5.out.cell 6
        simp only [List.getElem?_toArray, List.getElem?_cons_zero, List.getElem?_cons_succ] at y0 y1 y2 y3 y4 y5 y6
        go_wp2_with fail
        have cb5 := HJ5.out.2.1.cell 0
        refine (HGRW.out _ w5 (by exact HWB.out.trans (HJ5.out.2.2.2.mono HWB.out.size)) (by exact cb5) (by exact HJ5.out.2.1.lt)).mono ?_
        rintro e w6 ⟨rfl, hb6⟩
        have HJ6 : Hid (Blk w6 W.heap.size 27 #[.int .i64 k, .int .i64 v0, .string s, .bool ng, .slice A1 n1 c1, .slice B1 m1 d1, .slice Xr xl xc] ∧ Blk w6 (W.heap.size + 1) 28 #[.slice Ab n cb] ∧ Blk w6 (W.heap.size + 2) 27 #[.int .i64 0, .int .i64 0, .string ⟨#[]⟩, .bool false, .slice none 0 0, .slice none 0 0, .slice none 0 0] ∧ Below W.heap.size W w6) := ⟨HJ5.out.1.to hb6, HJ5.out.2.1.to hb6, HJ5.out.2.2.1.to hb6, HJ5.out.2.2.2.trans (hb6.mono HJ5.out.2.2.2.size)⟩
        have HKT6 : Hid (Blk w6 W.heap.size 27 #[.int .i64 k, .int .i64 v0, .string s, .bool ng, .slice A1 n1 c1, .slice B1 m1 d1, .slice Xr xl xc]) := HJ6.out.1
        have HKZ : Hid (Blk w6 (W.heap.size + 2) 27 #[.int .i64 0, .int .i64 0, .string ⟨#[]⟩, .bool false, .slice none 0 0, .slice none 0 0, .slice none 0 0]) := HJ6.out.2.2.1
        clear hb6 HJ5 HKT5 HGRW y0 y1 y2 y3 y4 y5 y6 cb5
        have y0 := HKT6.out.cell 0
        have y1 := HKT6.out.cell 1
        have y2 := HKT6.out.cell 2
        have y3 := HKT6.out.cell 3
        have y4 := HKT6.out.cell 4
        have y5 := HKT6.out.cell 5
        have y6 := HKT6.out.cell 6
        simp only [List.getElem?_toArray, List.getElem?_cons_zero, List.getElem?_cons_succ] at y0 y1 y2 y3 y4 y5 y6
        by_cases hbig : 10000 < tc + tg
        · have hbi : (10000 : Int) < (tc : Int) + (tg : Int) := by omega
          have HR9 := Lib.hid (HR2.out hbig)
          clear hbig HR2 HR3 HRPL
          have r0 := HKZ.out.cell 0
          have r1 := HKZ.out.cell 1
          have r2 := HKZ.out.cell 2
          have r3 := HKZ.out.cell 3
          have r4 := HKZ.out.cell 4
          have r5 := HKZ.out.cell 5
          have r6 := HKZ.out.cell 6
          simp only [List.getElem?_toArray, List.getElem?_cons_zero, List.getElem?_cons_succ] at r0 r1 r2 r3 r4 r5 r6
          have z0 := HKZ.out.frozen 0
          have z1 := HKZ.out.frozen 1
          have z2 := HKZ.out.frozen 2
          have z3 := HKZ.out.frozen 3
          have z4 := HKZ.out.frozen 4
          have z5 := HKZ.out.frozen 5
          have z6 := HKZ.out.frozen 6
          go_wp2_with fail
          refine bodyPost_ret (v := .tuple #[.agg #[.int .i64 0, .int .i64 0, .string ⟨#[]⟩, .bool false, .slice none 0 0, .slice none 0 0, .slice none 0 0], .int .i64 3]) (by rw [results_cell_tmp rfl]; go_simp) rfl ?_
          exact ⟨[.int .i64 0, .int .i64 0, .string ⟨#[]⟩, .bool false, .slice none 0 0, .slice none 0 0, .slice none 0 0], .zero, 3, rfl, TCP.zero _ _, HR9.out, (((((((HJ6.out.2.2.2.setCell (Nat.le_add_right _ 2) _).setCell (Nat.le_add_right _ 2) _).setCell (Nat.le_add_right _ 2) _).setCell (Nat.le_add_right _ 2) _).setCell (Nat.le_add_right _ 2) _).setCell (Nat.le_add_right _ 2) _).setCell (Nat.le_add_right _ 2) _)⟩
        · have hbi : ¬ (10000 : Int) < (tc : Int) + (tg : Int) := by omega
          have HR9 := Lib.hid (HR3.out (Nat.le_of_not_lt hbig))
          clear hbig HR2 HR3
          go_wp2_with fail
          have cb6 := HJ6.out.2.1.cell 0
          refine (HRPL.out _ w6 (by exact HWB.out.trans (HJ6.out.2.2.2.mono HWB.out.size)) (by exact cb6) (by exact HJ6.out.2.1.lt)).mono ?_
          rintro e w8 ⟨cx8, rfl, ht8, hb8⟩
          obtain ⟨k8, v8, st8, ng8, A8, n8, c8, B8, m8, d8, X8, l8, e8, hf8⟩ := ht8.tc.form
          subst hf8
          have HB8 : Hid (Below W.heap.size W w8) := HJ6.out.2.2.2.trans (hb8.mono HJ6.out.2.2.2.size)
          have HK8 := Lib.hid (HKZ.out.to hb8)
          have HT8 := Lib.hid ht8
          have HLT := Lib.hid HKZ.out.lt
          clear hb8 ht8 HJ6 HKT6 HKZ HRPL cb6 y0 y1 y2 y3 y4 y5 y6
          have r0 := HK8.out.cell 0
          have r1 := HK8.out.cell 1
          have r2 := HK8.out.cell 2
          have r3 := HK8.out.cell 3
          have r4 := HK8.out.cell 4
          have r5 := HK8.out.cell 5
          have r6 := HK8.out.cell 6
          simp only [List.getElem?_toArray, List.getElem?_cons_zero, List.getElem?_cons_succ] at r0 r1 r2 r3 r4 r5 r6
          have z0 := HK8.out.frozen 0
          have z1 := HK8.out.frozen 1
          have z2 := HK8.out.frozen 2
          have z3 := HK8.out.frozen 3
          have z4 := HK8.out.frozen 4
          have z5 := HK8.out.frozen 5
          have z6 := HK8.out.frozen 6
          go_wp2_with fail
          refine bodyPost_ret (v := .tuple #[.agg #[.int .i64 k8, .int .i64 v8, .string st8, .bool ng8, .slice A8 n8 c8, .slice B8 m8 d8, .slice X8 l8 e8], .int .i64 0]) (by rw [results_cell_tmp rfl]; go_simp) rfl ?_
          refine ⟨[.int .i64 k8, .int .i64 v8, .string st8, .bool ng8, .slice A8 n8 c8, .slice B8 m8 d8, .slice X8 l8 e8], tr, 0, rfl, ((TCP.of_tcf HT8.out).to (by simp) fun b hb _ => ?_).mono fun b hb _ => Or.inr ?_, HR9.out, (((((((HB8.out.setCell (Nat.le_add_right _ 2) _).setCell (Nat.le_add_right _ 2) _).setCell (Nat.le_add_right _ 2) _).setCell (Nat.le_add_right _ 2) _).setCell (Nat.le_add_right _ 2) _).setCell (Nat.le_add_right _ 2) _).setCell (Nat.le_add_right _ 2) _)⟩
          · have hb : w6.heap.size + 1 ≤ b := hb
            have hbr : b ≠ W.heap.size + 2 := by have := HLT.out; omega
            repeat rw [Below.heap_setCell _ _ _ b hbr]
          · have hb : w6.heap.size + 1 ≤ b := hb
            have := HLT.out; omega
  · have HBAD := Lib.hid (HR0.out hk)
    have hkb : (tk == 0) = false := beq_eq_false_iff_ne.2 hk
    have HKZ : Hid (Blk w1 (W.heap.size + 2) 27 #[.int .i64 0, .int .i64 0, .string ⟨#[]⟩, .bool false, .slice none 0 0, .slice none 0 0, .slice none 0 0]) := HJ1.out.2.2.1
    clear HS HGR HRP HCN HGB HR0 HR1 HR2 HR3 hk
    have r0 := HKZ.out.cell 0
    have r1 := HKZ.out.cell 1
    have r2 := HKZ.out.cell 2
    have r3 := HKZ.out.cell 3
    have r4 := HKZ.out.cell 4
    have r5 := HKZ.out.cell 5
    have r6 := HKZ.out.cell 6
    simp only [List.getElem?_toArray, List.getElem?_cons_zero, List.getElem?_cons_succ] at r0 r1 r2 r3 r4 r5 r6
    have z0 := HKZ.out.frozen 0
    have z1 := HKZ.out.frozen 1
    have z2 := HKZ.out.frozen 2
    have z3 := HKZ.out.frozen 3
    have z4 := HKZ.out.frozen 4
    have z5 := HKZ.out.frozen 5
    have z6 := HKZ.out.frozen 6
    go_wp2_with fail
    refine bodyPost_ret (v := .tuple #[.agg #[.int .i64 0, .int .i64 0, .string ⟨#[]⟩, .bool false, .slice none 0 0, .slice none 0 0, .slice none 0 0], .int .i64 tk]) (by rw [results_cell_tmp rfl]; go_simp) rfl ?_
    exact ⟨[.int .i64 0, .int .i64 0, .string ⟨#[]⟩, .bool false, .slice none 0 0, .slice none 0 0, .slice none 0 0], .zero, tk, rfl, TCP.zero _ _, HBAD.out, (((((((HJ1.out.2.2.2.setCell (Nat.le_add_right _ 2) _).setCell (Nat.le_add_right _ 2) _).setCell (Nat.le_add_right _ 2) _).setCell (Nat.le_add_right _ 2) _).setCell (Nat.le_add_right _ 2) _).setCell (Nat.le_add_right _ 2) _).setCell (Nat.le_add_right _ 2) _)⟩
def RdV (v : Value) : Option (DataW Value × List MemPlace) := some (.held v, [])
def encZ (x : Int × List Value) : Lit × DataW Value := (.int .i64 x.1, .held (.agg x.2.toArray))
def insK {α : Type} (x : Int × α) : List (Int × α) → List (Int × α)
  | [] => [x]
  | y :: r => if x.1 < y.1 then x :: y :: r else y :: insK x r
theorem insK_len {α : Type} (x : Int × α) (l : List (Int × α)) : (insK x l).length = l.length + 1 := by
  induction l with
  | nil => rfl
  | cons y r ih => rw [insK]; split <;> simp [ih]
inductive Zip2 (w : World) : List (Int × List Value) → List (Int × Tm) → Prop
  | nil : Zip2 w [] []
  | cons {v : Int} {cx : List Value} {t : Tm} {zs : List (Int × List Value)} {bs : List (Int × Tm)} (hv : i64ok v) (h : TC w t cx) (hr : Zip2 w zs bs) : Zip2 w ((v, cx) :: zs) ((v, t) :: bs)
theorem Zip2.len {w : World} {zs : List (Int × List Value)} {bs : List (Int × Tm)} (h : Zip2 w zs bs) : zs.length = bs.length := by
  induction h with
  | nil => rfl
  | cons _ _ _ ih => simp [ih]
theorem Zip2.ins {w : World} {zs : List (Int × List Value)} {bs : List (Int × Tm)} (h : Zip2 w zs bs) {v : Int} {cx : List Value} {t : Tm} (hv : i64ok v) (ht : TC w t cx) : Zip2 w (insK (v, cx) zs) (insK (v, t) bs) := by
  induction h with
  | nil => exact .cons hv ht .nil
  | @cons v' cx' t' zs bs hv' h' hr ih =>
    rw [insK, insK]
    split
    · exact .cons hv ht (.cons hv' h' hr)
    · exact .cons hv' h' ih
theorem Zip2.at {w : World} {zs : List (Int × List Value)} {bs : List (Int × Tm)} (h : Zip2 w zs bs) (v : Int) : (fnd bs v = none ∧ ∀ z, (DataW.map (zs.map encZ)).atKey (.int .i64 v) z = z) ∨ ∃ x cx, fnd bs v = some x ∧ TC w x cx ∧ ∀ z, (DataW.map (zs.map encZ)).atKey (.int .i64 v) z = .held (.agg cx.toArray) := by
  induction h with
  | nil => exact .inl ⟨rfl, fun z => rfl⟩
  | @cons v' cx' t' zs bs hv' h' hr ih =>
    by_cases e : v' = v
    · subst e
      refine .inr ⟨t', cx', by simp [fnd], h', fun z => ?_⟩
      simp [DataW.atKey, encZ, Lit.sameKey]
    · rcases ih with ⟨h1, h2⟩ | ⟨x, cx, h1, h2, h3⟩
      · refine .inl ⟨by simpa [fnd, e] using h1, fun z => ?_⟩
        have := h2 z
        simpa [DataW.atKey, encZ, Lit.sameKey, e] using this
      · refine .inr ⟨x, cx, by simpa [fnd, e] using h1, h2, fun z => ?_⟩
        have := h3 z
        simpa [DataW.atKey, encZ, Lit.sameKey, e] using this
theorem filter_new {w : World} {zs : List (Int × List Value)} {bs : List (Int × Tm)} (h : Zip2 w zs bs) {v : Int} (hn : fnd bs v = none) : ((zs.map encZ).filter fun p => !p.1.sameKey (.int .i64 v)) = zs.map encZ := by
  induction h with
  | nil => rfl
  | @cons v' cx' t' zs bs hv' h' hr ih =>
    have e : ¬ v' = v := fun e => by subst e; simp [fnd] at hn
    have := ih (by simpa [fnd, e] using hn)
    simp [encZ, Lit.sameKey, e]
    simpa [encZ, Lit.sameKey] using this
theorem insert_enc (x : Int × List Value) (zs : List (Int × List Value)) : DataW.insert (encZ x) (zs.map encZ) = (insK x zs).map encZ := by
  induction zs with
  | nil => rfl
  | cons y r ih =>
    rw [List.map_cons, DataW.insert, insK, ih]
    by_cases h : x.1 < y.1
    · simp [encZ, Lit.before, h]
    · simp [encZ, Lit.before, h]
def MapT (w0 w : World) (b : Nat) (bs : List (Int × Tm)) : Prop :=
  ∃ zs, w.ownsMap Tryz.prog 3 RdV b bs.length (.map (zs.map encZ)) ∧ Zip2 w0 zs bs
theorem MapT.lt {w0 w : World} {b : Nat} {bs : List (Int × Tm)} (h : MapT w0 w b bs) : b < w.heap.size := by
  obtain ⟨zs, h, _⟩ := h
  exact h.lt
theorem MapT.kept {w0 w w' : World} {b : Nat} {bs : List (Int × Tm)} (h : MapT w0 w b bs) (hk : w'.heap[b]? = w.heap[b]?) : MapT w0 w' b bs := by
  obtain ⟨zs, ⟨es, c, h1, h2⟩, hz⟩ := h
  exact ⟨zs, ⟨es, c, hk.trans h1, h2⟩, hz⟩
theorem MapT.below {w0 w w' : World} {b : Nat} {bs : List (Int × Tm)} (h : MapT w0 w b bs) (hb : Below w.heap.size w w') : MapT w0 w' b bs := h.kept (hb.block b h.lt)
theorem MapT.drew {w0 w : World} {b : Nat} {bs : List (Int × Tm)} (h : MapT w0 w b bs) : MapT w0 w.drew b bs := h
theorem MapT.made (w0 w : World) : MapT w0 (w.alloc (.map #[] 0)) w.heap.size [] := ⟨[], World.ownsMap_made w _ _ _, .nil⟩
theorem keyOf_v {v : Int} (hv : i64ok v) : keyOf Tryz.prog 3 (.int .i64 v) = some (.int .i64 v) :=
  Maps.keyOf_int_mk Tryz.underlying3 (by
    have h := wrap64_wf v
    rw [show wrap64 v = v by unfold i64ok at hv; unfold wrap64; omega] at h
    exact h)
theorem MapT.look {w0 w : World} {b : Nat} {bs : List (Int × Tm)} (h : MapT w0 w b bs) {v : Int} (hv : i64ok v) :
    (fnd bs v = none ∧ (Instr.lookup 75 (.map (some b)) (.int .i64 v) true).run Tryz.prog w = .ok (.tuple #[.agg #[.int .i64 0, .int .i64 0, .string ⟨#[]⟩, .bool false, .slice none 0 0, .slice none 0 0, .slice none 0 0], .bool false]) w) ∨
    ∃ x cx, fnd bs v = some x ∧ TC w0 x cx ∧ (Instr.lookup 75 (.map (some b)) (.int .i64 v) true).run Tryz.prog w = .ok (.tuple #[.agg cx.toArray, .bool true]) w := by
  obtain ⟨zs, ⟨es, clock, hb, F, _, hD⟩, hz⟩ := h
  have hl := Maps.fit_look (R := RdV) true (Maps.int_keyed Tryz.underlying3) Tryz.underlying75 (Tryz.zeroValue27 w) hb F (keyOf_v hv)
  rw [← hD] at hl
  rcases hl with ⟨hrun, _, hat⟩ | ⟨e0, y, _, _, hrun, hR, hat, _⟩
  · rcases hz.at v with ⟨h1, _⟩ | ⟨x, cx, _, _, h3⟩
    · exact .inl ⟨h1, hrun⟩
    · have := (h3 .nil).symm.trans (hat .nil)
      cases this
  · have hy : y = (.held e0.val, []) := (Option.some.inj hR).symm
    subst hy
    rcases hz.at v with ⟨_, h2⟩ | ⟨x, cx, h1, h2, h3⟩
    · have := (h2 .nil).symm.trans (hat .nil)
      cases this
    · have := (h3 .nil).symm.trans (hat .nil)
      simp only [DataW.held.injEq] at this
      rw [← this] at hrun
      exact .inr ⟨x, cx, h1, h2, hrun⟩
theorem MapT.put {w0 w : World} {b : Nat} {bs : List (Int × Tm)} (h : MapT w0 w b bs) {v : Int} (hv : i64ok v) (hn : fnd bs v = none) (hl : bs.length < maxLen) {t : Tm} {cx : List Value} (ht : TC w0 t cx) :
    ∃ z, (Instr.mapUpdate 75 (.map (some b)) (.int .i64 v) (.agg cx.toArray)).run Tryz.prog w = .ok () z ∧ MapT w0 z b (insK (v, t) bs) ∧ w.grownBy z (some b) := by
  obtain ⟨zs, ho, hz⟩ := h
  obtain ⟨z, h1, h2, h3⟩ := ho.update (Maps.int_keyed Tryz.underlying3) Tryz.underlying75 hl (keyOf_v hv) (val := .agg cx.toArray) (d := .held (.agg cx.toArray)) (ps := []) rfl
  refine ⟨z, h1, ⟨insK (v, cx) zs, ?_, hz.ins hv ht⟩, h3⟩
  rw [insK_len]
  have e : (DataW.map (zs.map encZ)).put (.int .i64 v) (.held (.agg cx.toArray)) = .map ((insK (v, cx) zs).map encZ) := by
    rw [← insert_enc, DataW.put, filter_new hz hn]
    rfl
  rw [e] at h2
  exact h2
end Go.Proofs.YtkfnpcilanheiaaGreat

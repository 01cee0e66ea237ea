/-  -/
import Derived.Deep.RegionHeld3
import Derived.Test.YtkfnpcilanheiaaGreatJo26
import Derived.Test.YtkfnpcilanheiaaGreatJo27
set_option linter.unusedVariables false
set_option linter.unusedSimpArgs false
/- The reference's Apply: variables replaced by the terms of bindings. -/
namespace Go.Proofs.YtkfnpcilanheiaaGreat
open Go.RowKit NumB
set_option linter.unusedVariables false
set_option linter.unusedSimpArgs false

set_option maxRecDepth 100000 in
set_option maxHeartbeats 12800000 in
theorem rapply_any {w : World} {t : Tm} {cs : List Value} (h : TC w t cs) {bs : List (Int × Tm)} {bv : Value} (hb : BL w bv bs) (W : World) (hW : Below w.heap.size w W) :
    Calls Tryz.prog 9 #[.agg cs.toArray, bv] W fun e W' => ∃ cx tx er, e = .returned (.tuple #[.agg cx.toArray, .int .i64 er]) ∧ TCP (fun b => b < w.heap.size ∨ W.heap.size ≤ b) W' tx cx ∧ ApplyR t bs tx er ∧ Below W.heap.size W W' := by
  have HC : Hid (∀ W', Below w.heap.size w W' → Calls Tryz.prog 33 #[.agg cs.toArray] W' fun e w' => e = .returned (.int .i64 t.check) ∧ Below W'.heap.size W' w') := fun W' hb => tmFault_any h W' hb
  have HRP : t.check = 0 → Hid (∀ W', Below w.heap.size w W' → Calls Tryz.prog 35 #[.agg cs.toArray, bv] W' fun e w' => ∃ cx, e = .returned (.agg cx.toArray) ∧ TCP (fun b => b < w.heap.size ∨ W'.heap.size ≤ b) w' (t.repl (fnd bs)) cx ∧ Below W'.heap.size W' w') := fun hc W' hb' => (replaced_any hb h (check_err0 hc).2 (Tm.allV_mono (fun _ _ => trivial) _ (t.allV_free [])) W' hb').mono fun e w' q => by
    obtain ⟨cx, e1, q1, q2⟩ := q
    rw [t.repl_total (f := fnd bs) (g := fun v => (fnd bs v).getD (.var v)) (fun v => rfl) (check_err0 hc).2] at q1
    exact ⟨cx, e1, q1, q2⟩
  have HR0 : Hid (t.check ≠ 0 → ApplyR t bs .zero t.check) := fun h => .bad h
  have HR1 : Hid (t.check = 0 → ¬ Good bs → ApplyR t bs .zero 2) := fun h h2 => .form h h2
  have HR2 : Hid (t.check = 0 → Good bs → 10000 < (t.repl (fnd bs)).count → ApplyR t bs .zero 3) := fun h h2 h3 => .size h h2 h3
  have HR3 : Hid (t.check = 0 → Good bs → (t.repl (fnd bs)).count ≤ 10000 → ApplyR t bs (t.repl (fnd bs)) 0) := fun h h2 h3 => .ok h h2 h3
  obtain ⟨k, v0, s, ng, A1, n1, c1, B1, m1, d1, Xr, xl, xc, hcs⟩ := h.form
  subst hcs
  obtain ⟨Ab, cb, csb, rfl, hcap, hm, hrow, hba⟩ := hb
  have HR := Lib.hid hrow
  have HA := Lib.hid hba
  have HWB := Lib.hid hW
  unfold maxLen at hm
  obtain ⟨n, hl⟩ : ∃ n, bs.length = n := ⟨_, rfl⟩
  rw [hl] at hcap HRP ⊢
  have HL := Lib.hid hl
  clear hl hrow hba hW h
  generalize t.check = tk at *
  generalize t.repl (fnd bs) = tr at *
  have HB0 : Hid (Below W.heap.size W ((W.alloc (.cells #[.int .i64 k, .int .i64 v0, .string s, .bool ng, .slice A1 n1 c1, .slice B1 m1 d1, .slice Xr xl xc] 27)).alloc (.cells #[.int .i64 0, .int .i64 0, .string ⟨#[]⟩, .bool false, .slice none 0 0, .slice none 0 0, .slice none 0 0] 27))) := below_pair W _ _
  have HKT : Hid (Blk ((W.alloc (.cells #[.int .i64 k, .int .i64 v0, .string s, .bool ng, .slice A1 n1 c1, .slice B1 m1 d1, .slice Xr xl xc] 27)).alloc (.cells #[.int .i64 0, .int .i64 0, .string ⟨#[]⟩, .bool false, .slice none 0 0, .slice none 0 0, .slice none 0 0] 27)) W.heap.size 27 #[.int .i64 k, .int .i64 v0, .string s, .bool ng, .slice A1 n1 c1, .slice B1 m1 d1, .slice Xr xl xc]) := (Blk.new W _ _).alloc _
  have HK0 : Hid (Blk ((W.alloc (.cells #[.int .i64 k, .int .i64 v0, .string s, .bool ng, .slice A1 n1 c1, .slice B1 m1 d1, .slice Xr xl xc] 27)).alloc (.cells #[.int .i64 0, .int .i64 0, .string ⟨#[]⟩, .bool false, .slice none 0 0, .slice none 0 0, .slice none 0 0] 27)) (W.heap.size + 1) 27 #[.int .i64 0, .int .i64 0, .string ⟨#[]⟩, .bool false, .slice none 0 0, .slice none 0 0, .slice none 0 0]) := blk_2nd W _ _
  go_enter Tryz.func9, Tryz.ntmps9
  go_wp2_with fail
  refine (HC.out _ (by exact HWB.out.trans (HB0.out.mono HWB.out.size))).mono ?_
  rintro e w1 ⟨rfl, hb1⟩
  have HJ1 : Hid (Blk w1 W.heap.size 27 #[.int .i64 k, .int .i64 v0, .string s, .bool ng, .slice A1 n1 c1, .slice B1 m1 d1, .slice Xr xl xc] ∧ Blk w1 (W.heap.size + 1) 27 #[.int .i64 0, .int .i64 0, .string ⟨#[]⟩, .bool false, .slice none 0 0, .slice none 0 0, .slice none 0 0] ∧ Below W.heap.size W w1) := ⟨HKT.out.to hb1, HK0.out.to hb1, HB0.out.trans (hb1.mono HB0.out.size)⟩
  clear hb1 HB0 HKT HK0 HC
  by_cases hk : tk = 0
  · subst hk
    have HRPL := HRP rfl
    clear HRP HR0
    go_wp2_with fail
    go_loopg [17] n (fun gk s17 wr => ∃ (j : Nat), gk + j = n ∧ s17 = .int .i64 (j : Int) ∧ Hid (∀ q (hq : q < bs.length), q < j → lastOf bs q < (bs[q]).1 ∧ (bs[q]).2.check = 0) ∧ Hid (Blk wr W.heap.size 27 #[.int .i64 k, .int .i64 v0, .string s, .bool ng, .slice A1 n1 c1, .slice B1 m1 d1, .slice Xr xl xc] ∧ Blk wr (W.heap.size + 1) 27 #[.int .i64 0, .int .i64 0, .string ⟨#[]⟩, .bool false, .slice none 0 0, .slice none 0 0, .slice none 0 0] ∧ Below W.heap.size W wr))
    case atStart => exact ⟨0, by omega, rfl, fun q _ h => absurd h (by omega), HJ1.out⟩
    case round =>
      clear HJ1
      obtain ⟨j, hgj, rfl, HN, HJ⟩ := hrel
      by_cases hj : j < n
      · clear HRPL HR2 HR3
        have hja : j < bs.length := by rw [HL.out]; exact hj
        have HBW := HWB.out.trans (HJ.out.2.2.mono HWB.out.size)
        obtain ⟨b, o, k5, v5, st5, ng5, A5, n5, c5, B5, m5, d5, X5, l5, e5, hAr, htc, hlt, y0, y1, y2, y3, y4, y5, y6, y7⟩ := bind_cells HR.out HA.out HBW hja
        subst hAr
        have HCB : Hid (∀ W', Below w.heap.size w W' → Calls Tryz.prog 33 #[.agg #[.int .i64 k5, .int .i64 v5, .string st5, .bool ng5, .slice A5 n5 c5, .slice B5 m5 d5, .slice X5 l5 e5]] W' fun e w' => e = .returned (.int .i64 (bs[j]).2.check) ∧ Below W'.heap.size W' w') := fun W' hb => tmFault_any htc W' hb
        have HBAD1 : Hid (¬ lastOf bs j < (bs[j]).1 → ¬ Good bs) := fun hle hg => hle (hg j hja).1
        have HBAD2 : Hid ((bs[j]).2.check ≠ 0 → ¬ Good bs) := fun hne hg => hne (hg j hja).2
        have HNX : Hid (lastOf bs j < (bs[j]).1 → (bs[j]).2.check = 0 → ∀ q (hq : q < bs.length), q < j + 1 → lastOf bs q < (bs[q]).1 ∧ (bs[q]).2.check = 0) := fun h1 h2 q hq hl => by
          by_cases e : q = j
          · subst e; exact ⟨h1, h2⟩
          · exact HN.out q hq (by omega)
        have HLP : Hid ((j = 0 → lastOf bs j = -1) ∧ ∀ j', j = j' + 1 → ∃ px, lastOf bs j = px ∧ 0 ≤ px ∧ ∀ W', Below w.heap.size w W' → W'.cell? ⟨b, o + j' * 8, none⟩ = some (.int .i64 px)) := by
          refine ⟨fun e => by subst e; rfl, fun j' e => ?_⟩
          subst e
          have hj' : j' < bs.length := by omega
          refine ⟨_, lastOf_succ hj', ?_, fun W' hb => ?_⟩
          · have hp : ∀ q (hq : q < bs.length), q ≤ j' → 0 ≤ (bs[q]).1 := fun q => by
              induction q with
              | zero => intro hq _; have := (HN.out 0 hq (by omega)).1; simp only [lastOf] at this; omega
              | succ q ih => intro hq h; have h1 := (HN.out (q + 1) hq (by omega)).1; rw [lastOf_succ (by omega)] at h1; have := ih (by omega) (by omega); omega
            exact hp j' hj' (Nat.le_refl _)
          · obtain ⟨b2, o2, _, _, _, _, _, _, _, _, _, _, _, _, _, hb2, _, _, hc2, _⟩ := bind_cells HR.out HA.out hb hj'
            cases hb2
            exact hc2
        generalize (bs[j]).2.check = ck at *
        generalize (bs[j]).1 = x at *
        generalize lastOf bs j = lw at *
        have HJ8 : Hid (Blk (wr.alloc (.cells #[.int .i64 x, .int .i64 k5, .int .i64 v5, .string st5, .bool ng5, .slice A5 n5 c5, .slice B5 m5 d5, .slice X5 l5 e5] 51)) W.heap.size 27 #[.int .i64 k, .int .i64 v0, .string s, .bool ng, .slice A1 n1 c1, .slice B1 m1 d1, .slice Xr xl xc] ∧ Blk (wr.alloc (.cells #[.int .i64 x, .int .i64 k5, .int .i64 v5, .string st5, .bool ng5, .slice A5 n5 c5, .slice B5 m5 d5, .slice X5 l5 e5] 51)) (W.heap.size + 1) 27 #[.int .i64 0, .int .i64 0, .string ⟨#[]⟩, .bool false, .slice none 0 0, .slice none 0 0, .slice none 0 0] ∧ Below W.heap.size W (wr.alloc (.cells #[.int .i64 x, .int .i64 k5, .int .i64 v5, .string st5, .bool ng5, .slice A5 n5 c5, .slice B5 m5 d5, .slice X5 l5 e5] 51))) := ⟨HJ.out.1.to (below_one wr _), HJ.out.2.1.to (below_one wr _), HJ.out.2.2.trans ((below_one wr _).mono HJ.out.2.2.size)⟩
        have HK9 : Hid (Blk (wr.alloc (.cells #[.int .i64 x, .int .i64 k5, .int .i64 v5, .string st5, .bool ng5, .slice A5 n5 c5, .slice B5 m5 d5, .slice X5 l5 e5] 51)) wr.heap.size 51 #[.int .i64 x, .int .i64 k5, .int .i64 v5, .string st5, .bool ng5, .slice A5 n5 c5, .slice B5 m5 d5, .slice X5 l5 e5]) := Blk.new wr _ _
        have hblt : b < wr.heap.size := Nat.lt_of_lt_of_le hlt HBW.size
        clear htc hlt hja HN
        by_cases hx : x < 0
        · have hxd : decide (x < 0) = true := by simp [hx]
          have HBAD := Lib.hid (HR1.out (by trivial) (HBAD1.out (by
            rcases Nat.eq_zero_or_pos j with h | h
            · rw [HLP.out.1 h]; omega
            · obtain ⟨j', e⟩ := Nat.exists_eq_succ_of_ne_zero (Nat.ne_of_gt h)
              obtain ⟨px, e1, e2, _⟩ := HLP.out.2 j' e
              omega)))
          clear HBAD1 HBAD2 HNX HCB HJ HLP HBW hblt
          have HKZ : Hid (Blk (wr.alloc (.cells #[.int .i64 x, .int .i64 k5, .int .i64 v5, .string st5, .bool ng5, .slice A5 n5 c5, .slice B5 m5 d5, .slice X5 l5 e5] 51)).drew (W.heap.size + 1) 27 #[.int .i64 0, .int .i64 0, .string ⟨#[]⟩, .bool false, .slice none 0 0, .slice none 0 0, .slice none 0 0]) := HJ8.out.2.1.drew
          have HBD : Hid (Below W.heap.size W (wr.alloc (.cells #[.int .i64 x, .int .i64 k5, .int .i64 v5, .string st5, .bool ng5, .slice A5 n5 c5, .slice B5 m5 d5, .slice X5 l5 e5] 51)).drew) := HJ8.out.2.2.drew
          have hS0 : (wr.alloc (.cells #[.int .i64 x, .int .i64 k5, .int .i64 v5, .string st5, .bool ng5, .slice A5 n5 c5, .slice B5 m5 d5, .slice X5 l5 e5] 51)).drew.cell? ⟨wr.heap.size, 0, none⟩ = some (.int .i64 x) ∧ (wr.alloc (.cells #[.int .i64 x, .int .i64 k5, .int .i64 v5, .string st5, .bool ng5, .slice A5 n5 c5, .slice B5 m5 d5, .slice X5 l5 e5] 51)).drew.cell? ⟨wr.heap.size, 1, none⟩ = some (.int .i64 k5) ∧ (wr.alloc (.cells #[.int .i64 x, .int .i64 k5, .int .i64 v5, .string st5, .bool ng5, .slice A5 n5 c5, .slice B5 m5 d5, .slice X5 l5 e5] 51)).drew.cell? ⟨wr.heap.size, 2, none⟩ = some (.int .i64 v5) ∧ (wr.alloc (.cells #[.int .i64 x, .int .i64 k5, .int .i64 v5, .string st5, .bool ng5, .slice A5 n5 c5, .slice B5 m5 d5, .slice X5 l5 e5] 51)).drew.cell? ⟨wr.heap.size, 3, none⟩ = some (.string st5) ∧ (wr.alloc (.cells #[.int .i64 x, .int .i64 k5, .int .i64 v5, .string st5, .bool ng5, .slice A5 n5 c5, .slice B5 m5 d5, .slice X5 l5 e5] 51)).drew.cell? ⟨wr.heap.size, 4, none⟩ = some (.bool ng5) ∧ (wr.alloc (.cells #[.int .i64 x, .int .i64 k5, .int .i64 v5, .string st5, .bool ng5, .slice A5 n5 c5, .slice B5 m5 d5, .slice X5 l5 e5] 51)).drew.cell? ⟨wr.heap.size, 5, none⟩ = some (.slice A5 n5 c5) ∧ (wr.alloc (.cells #[.int .i64 x, .int .i64 k5, .int .i64 v5, .string st5, .bool ng5, .slice A5 n5 c5, .slice B5 m5 d5, .slice X5 l5 e5] 51)).drew.cell? ⟨wr.heap.size, 6, none⟩ = some (.slice B5 m5 d5) ∧ (wr.alloc (.cells #[.int .i64 x, .int .i64 k5, .int .i64 v5, .string st5, .bool ng5, .slice A5 n5 c5, .slice B5 m5 d5, .slice X5 l5 e5] 51)).drew.cell? ⟨wr.heap.size, 7, none⟩ = some (.slice X5 l5 e5) := ⟨HK9.out.drew.cell 0, HK9.out.drew.cell 1, HK9.out.drew.cell 2, HK9.out.drew.cell 3, HK9.out.drew.cell 4, HK9.out.drew.cell 5, HK9.out.drew.cell 6, HK9.out.drew.cell 7⟩
          go_wp2_with fail
          refine wp_region_held_drew (S := fun w' => w'.cell? ⟨wr.heap.size, 0, none⟩ = some (.int .i64 x) ∧ w'.cell? ⟨wr.heap.size, 1, none⟩ = some (.int .i64 k5) ∧ w'.cell? ⟨wr.heap.size, 2, none⟩ = some (.int .i64 v5) ∧ w'.cell? ⟨wr.heap.size, 3, none⟩ = some (.string st5) ∧ w'.cell? ⟨wr.heap.size, 4, none⟩ = some (.bool ng5) ∧ w'.cell? ⟨wr.heap.size, 5, none⟩ = some (.slice A5 n5 c5) ∧ w'.cell? ⟨wr.heap.size, 6, none⟩ = some (.slice B5 m5 d5) ∧ w'.cell? ⟨wr.heap.size, 7, none⟩ = some (.slice X5 l5 e5)) (by kernel_rfl) hS0 (fun hHeld => ?_)
          (refine wpAnyH_take (i := 0) (v := ?_) rfl (by kernel_rfl) (by kernel_rfl) (by kernel_rfl) (fun _ _ _ h => h) (Or.inl ⟨by kernel_rfl, ?_⟩) (by assumption) ?_; rotate_left; ((intro w hSw; (try dsimp only at hSw); go_simp) <;> (with_reducible rfl)); (try (simp only [Act.put, List.setIfInBounds_toArray, List.set_cons_succ, List.set_cons_zero, List.getElem_toArray, List.getElem_cons_succ, List.getElem_cons_zero])))
          (refine wpAnyH_take (i := 1) (v := ?_) rfl (by kernel_rfl) (by kernel_rfl) (by kernel_rfl) (fun _ _ _ h => h) (Or.inl ⟨by kernel_rfl, ?_⟩) (by assumption) ?_; rotate_left; ((intro w hSw; (try dsimp only at hSw); go_simp) <;> (with_reducible rfl)); (try (simp only [Act.put, List.setIfInBounds_toArray, List.set_cons_succ, List.set_cons_zero, List.getElem_toArray, List.getElem_cons_succ, List.getElem_cons_zero])))
          (refine wpAnyH_take (i := 2) (v := ?_) rfl (by kernel_rfl) (by kernel_rfl) (by kernel_rfl) (fun _ _ _ h => h) (Or.inl ⟨by kernel_rfl, ?_⟩) (by assumption) ?_; rotate_left; ((intro w hSw; (try dsimp only at hSw); go_simp) <;> (with_reducible rfl)); (try (simp only [Act.put, List.setIfInBounds_toArray, List.set_cons_succ, List.set_cons_zero, List.getElem_toArray, List.getElem_cons_succ, List.getElem_cons_zero])))
          (refine wpAnyH_take (i := 3) (v := ?_) rfl (by kernel_rfl) (by kernel_rfl) (by kernel_rfl) (fun _ _ _ h => h) (Or.inl ⟨by kernel_rfl, ?_⟩) (by assumption) ?_; rotate_left; ((intro w hSw; (try dsimp only at hSw); go_simp) <;> (with_reducible rfl)); (try (simp only [Act.put, List.setIfInBounds_toArray, List.set_cons_succ, List.set_cons_zero, List.getElem_toArray, List.getElem_cons_succ, List.getElem_cons_zero])))
          (refine wpAnyH_take (i := 4) (v := undef) rfl (by kernel_rfl) (by kernel_rfl) (by kernel_rfl) (fun _ _ _ h => h) (Or.inr ⟨by kernel_rfl, rfl⟩) (by assumption) ?_; (try (simp only [Act.put, List.setIfInBounds_toArray, List.set_cons_succ, List.set_cons_zero, List.getElem_toArray, List.getElem_cons_succ, List.getElem_cons_zero])))
          (refine wpAnyH_take (i := 5) (v := undef) rfl (by kernel_rfl) (by kernel_rfl) (by kernel_rfl) (fun _ _ _ h => h) (Or.inr ⟨by kernel_rfl, rfl⟩) (by assumption) ?_; (try (simp only [Act.put, List.setIfInBounds_toArray, List.set_cons_succ, List.set_cons_zero, List.getElem_toArray, List.getElem_cons_succ, List.getElem_cons_zero])))
          (refine wpAnyH_take (i := 6) (v := undef) rfl (by kernel_rfl) (by kernel_rfl) (by kernel_rfl) (fun _ _ _ h => h) (Or.inr ⟨by kernel_rfl, rfl⟩) (by assumption) ?_; (try (simp only [Act.put, List.setIfInBounds_toArray, List.set_cons_succ, List.set_cons_zero, List.getElem_toArray, List.getElem_cons_succ, List.getElem_cons_zero])))
          (refine wpAnyH_take (i := 7) (v := undef) rfl (by kernel_rfl) (by kernel_rfl) (by kernel_rfl) (fun _ _ _ h => h) (Or.inr ⟨by kernel_rfl, rfl⟩) (by assumption) ?_; (try (simp only [Act.put, List.setIfInBounds_toArray, List.set_cons_succ, List.set_cons_zero, List.getElem_toArray, List.getElem_cons_succ, List.getElem_cons_zero])))
          (refine wpAnyH_take (i := 8) (v := undef) rfl (by kernel_rfl) (by kernel_rfl) (by kernel_rfl) (fun _ _ _ h => h) (Or.inr ⟨by kernel_rfl, rfl⟩) (by assumption) ?_; (try (simp only [Act.put, List.setIfInBounds_toArray, List.set_cons_succ, List.set_cons_zero, List.getElem_toArray, List.getElem_cons_succ, List.getElem_cons_zero])))
          (refine wpAnyH_take (i := 9) (v := undef) rfl (by kernel_rfl) (by kernel_rfl) (by kernel_rfl) (fun _ _ _ h => h) (Or.inr ⟨by kernel_rfl, rfl⟩) (by assumption) ?_; (try (simp only [Act.put, List.setIfInBounds_toArray, List.set_cons_succ, List.set_cons_zero, List.getElem_toArray, List.getElem_cons_succ, List.getElem_cons_zero])))
          (refine wpAnyH_take (i := 10) (v := undef) rfl (by kernel_rfl) (by kernel_rfl) (by kernel_rfl) (fun _ _ _ h => h) (Or.inr ⟨by kernel_rfl, rfl⟩) (by assumption) ?_; (try (simp only [Act.put, List.setIfInBounds_toArray, List.set_cons_succ, List.set_cons_zero, List.getElem_toArray, List.getElem_cons_succ, List.getElem_cons_zero])))
          (refine wpAnyH_take (i := 11) (v := undef) rfl (by kernel_rfl) (by kernel_rfl) (by kernel_rfl) (fun _ _ _ h => h) (Or.inr ⟨by kernel_rfl, rfl⟩) (by assumption) ?_; (try (simp only [Act.put, List.setIfInBounds_toArray, List.set_cons_succ, List.set_cons_zero, List.getElem_toArray, List.getElem_cons_succ, List.getElem_cons_zero])))
          (refine wpAnyH_take (i := 12) (v := undef) rfl (by kernel_rfl) (by kernel_rfl) (by kernel_rfl) (fun _ _ _ h => h) (Or.inr ⟨by kernel_rfl, rfl⟩) (by assumption) ?_; (try (simp only [Act.put, List.setIfInBounds_toArray, List.set_cons_succ, List.set_cons_zero, List.getElem_toArray, List.getElem_cons_succ, List.getElem_cons_zero])))
          (refine wpAnyH_take (i := 13) (v := undef) rfl (by kernel_rfl) (by kernel_rfl) (by kernel_rfl) (fun _ _ _ h => h) (Or.inr ⟨by kernel_rfl, rfl⟩) (by assumption) ?_; (try (simp only [Act.put, List.setIfInBounds_toArray, List.set_cons_succ, List.set_cons_zero, List.getElem_toArray, List.getElem_cons_succ, List.getElem_cons_zero])))
          (refine wpAnyH_take (i := 14) (v := undef) rfl (by kernel_rfl) (by kernel_rfl) (by kernel_rfl) (fun _ _ _ h => h) (Or.inr ⟨by kernel_rfl, rfl⟩) (by assumption) ?_; (try (simp only [Act.put, List.setIfInBounds_toArray, List.set_cons_succ, List.set_cons_zero, List.getElem_toArray, List.getElem_cons_succ, List.getElem_cons_zero])))
          (refine wpAnyH_take (i := 15) (v := undef) rfl (by kernel_rfl) (by kernel_rfl) (by kernel_rfl) (fun _ _ _ h => h) (Or.inr ⟨by kernel_rfl, rfl⟩) (by assumption) ?_; (try (simp only [Act.put, List.setIfInBounds_toArray, List.set_cons_succ, List.set_cons_zero, List.getElem_toArray, List.getElem_cons_succ, List.getElem_cons_zero])))
          (refine wpAnyH_take (i := 16) (v := undef) rfl (by kernel_rfl) (by kernel_rfl) (by kernel_rfl) (fun _ _ _ h => h) (Or.inr ⟨by kernel_rfl, rfl⟩) (by assumption) ?_; (try (simp only [Act.put, List.setIfInBounds_toArray, List.set_cons_succ, List.set_cons_zero, List.getElem_toArray, List.getElem_cons_succ, List.getElem_cons_zero])))
          (refine wpAnyH_take (i := 17) (v := ?_) rfl (by kernel_rfl) (by kernel_rfl) (by kernel_rfl) (fun _ _ _ h => h) (Or.inl ⟨by kernel_rfl, ?_⟩) (by assumption) ?_; rotate_left; ((intro w hSw; (try dsimp only at hSw); go_simp) <;> (with_reducible rfl)); (try (simp only [Act.put, List.setIfInBounds_toArray, List.set_cons_succ, List.set_cons_zero, List.getElem_toArray, List.getElem_cons_succ, List.getElem_cons_zero])))
          (refine wpAnyH_take (i := 18) (v := ?_) rfl (by kernel_rfl) (by kernel_rfl) (by kernel_rfl) (fun _ _ _ h => h) (Or.inl ⟨by kernel_rfl, ?_⟩) (by assumption) ?_; rotate_left; ((intro w hSw; (try dsimp only at hSw); go_simp) <;> (with_reducible rfl)); (try (simp only [Act.put, List.setIfInBounds_toArray, List.set_cons_succ, List.set_cons_zero, List.getElem_toArray, List.getElem_cons_succ, List.getElem_cons_zero])))
          (refine wpAnyH_take (i := 19) (v := undef) rfl (by kernel_rfl) (by kernel_rfl) (by kernel_rfl) (fun _ _ _ h => h) (Or.inr ⟨by kernel_rfl, rfl⟩) (by assumption) ?_; (try (simp only [Act.put, List.setIfInBounds_toArray, List.set_cons_succ, List.set_cons_zero, List.getElem_toArray, List.getElem_cons_succ, List.getElem_cons_zero])))
          (refine wpAnyH_take (i := 20) (v := undef) rfl (by kernel_rfl) (by kernel_rfl) (by kernel_rfl) (fun _ _ _ h => h) (Or.inr ⟨by kernel_rfl, rfl⟩) (by assumption) ?_; (try (simp only [Act.put, List.setIfInBounds_toArray, List.set_cons_succ, List.set_cons_zero, List.getElem_toArray, List.getElem_cons_succ, List.getElem_cons_zero])))
          (refine wpAnyH_take (i := 21) (v := undef) rfl (by kernel_rfl) (by kernel_rfl) (by kernel_rfl) (fun _ _ _ h => h) (Or.inr ⟨by kernel_rfl, rfl⟩) (by assumption) ?_; (try (simp only [Act.put, List.setIfInBounds_toArray, List.set_cons_succ, List.set_cons_zero, List.getElem_toArray, List.getElem_cons_succ, List.getElem_cons_zero])))
          (refine wpAnyH_take (i := 22) (v := undef) rfl (by kernel_rfl) (by kernel_rfl) (by kernel_rfl) (fun _ _ _ h => h) (Or.inr ⟨by kernel_rfl, rfl⟩) (by assumption) ?_; (try (simp only [Act.put, List.setIfInBounds_toArray, List.set_cons_succ, List.set_cons_zero, List.getElem_toArray, List.getElem_cons_succ, List.getElem_cons_zero])))
          (refine wpAnyH_take (i := 23) (v := ?_) rfl (by kernel_rfl) (by kernel_rfl) (by kernel_rfl) (fun _ _ _ h => h) (Or.inl ⟨by kernel_rfl, ?_⟩) (by assumption) ?_; rotate_left; ((intro w hSw; (try dsimp only at hSw); go_simp) <;> (with_reducible rfl)); (try (simp only [Act.put, List.setIfInBounds_toArray, List.set_cons_succ, List.set_cons_zero, List.getElem_toArray, List.getElem_cons_succ, List.getElem_cons_zero])))
          (refine wpAnyH_done (by kernel_rfl) ?_ _)
          clear hS0 hHeld HJ8 HK9
          generalize (wr.alloc (.cells #[.int .i64 x, .int .i64 k5, .int .i64 v5, .string st5, .bool ng5, .slice A5 n5 c5, .slice B5 m5 d5, .slice X5 l5 e5] 51)).drew = w9 at *
          have r0 := HKZ.out.cell 0
          have r1 := HKZ.out.cell 1
          have r2 := HKZ.out.cell 2
          have r3 := HKZ.out.cell 3
          have r4 := HKZ.out.cell 4
          have r5 := HKZ.out.cell 5
          have r6 := HKZ.out.cell 6
          simp only [List.getElem?_toArray, List.getElem?_cons_zero, List.getElem?_cons_succ] at r0 r1 r2 r3 r4 r5 r6
          have z0 := HKZ.out.frozen 0
          have z1 := HKZ.out.frozen 1
          have z2 := HKZ.out.frozen 2
          have z3 := HKZ.out.frozen 3
          have z4 := HKZ.out.frozen 4
          have z5 := HKZ.out.frozen 5
          have z6 := HKZ.out.frozen 6
          go_wp2_with fail
          refine bodyPost_ret (v := .tuple #[.agg #[.int .i64 0, .int .i64 0, .string ⟨#[]⟩, .bool false, .slice none 0 0, .slice none 0 0, .slice none 0 0], .int .i64 2]) (by rw [results_cell_tmp rfl]; go_simp) rfl ?_
          exact ⟨[.int .i64 0, .int .i64 0, .string ⟨#[]⟩, .bool false, .slice none 0 0, .slice none 0 0, .slice none 0 0], .zero, 2, rfl, TCP.zero _ _, HBAD.out, (((((((HBD.out.setCell (Nat.le_succ _) _).setCell (Nat.le_succ _) _).setCell (Nat.le_succ _) _).setCell (Nat.le_succ _) _).setCell (Nat.le_succ _) _).setCell (Nat.le_succ _) _).setCell (Nat.le_succ _) _)⟩
        · have hxd : decide (x < 0) = false := by simp [hx]
          rcases Nat.eq_zero_or_pos j with h0 | h0
          · have HNX2 := Lib.hid (HNX.out (by rw [HLP.out.1 h0]; omega))
            have hj0 : decide ((0 : Int) < (j : Int)) = false := by simp [h0]
            have hj0n : decide (0 < j) = false := by simp [h0]
            have hj0p : (0 < j) = False := by simp [h0]
            clear HBAD1 HNX HJ HLP HBW hblt h0
            have HS : Hid (∀ w', Below (wr.alloc (.cells #[.int .i64 x, .int .i64 k5, .int .i64 v5, .string st5, .bool ng5, .slice A5 n5 c5, .slice B5 m5 d5, .slice X5 l5 e5] 51)).heap.size (wr.alloc (.cells #[.int .i64 x, .int .i64 k5, .int .i64 v5, .string st5, .bool ng5, .slice A5 n5 c5, .slice B5 m5 d5, .slice X5 l5 e5] 51)) w' → w'.cell? ⟨wr.heap.size, 0, none⟩ = some (.int .i64 x) ∧ w'.cell? ⟨wr.heap.size, 1, none⟩ = some (.int .i64 k5) ∧ w'.cell? ⟨wr.heap.size, 2, none⟩ = some (.int .i64 v5) ∧ w'.cell? ⟨wr.heap.size, 3, none⟩ = some (.string st5) ∧ w'.cell? ⟨wr.heap.size, 4, none⟩ = some (.bool ng5) ∧ w'.cell? ⟨wr.heap.size, 5, none⟩ = some (.slice A5 n5 c5) ∧ w'.cell? ⟨wr.heap.size, 6, none⟩ = some (.slice B5 m5 d5) ∧ w'.cell? ⟨wr.heap.size, 7, none⟩ = some (.slice X5 l5 e5)) := fun w' hb => ⟨(HK9.out.to hb).cell 0, (HK9.out.to hb).cell 1, (HK9.out.to hb).cell 2, (HK9.out.to hb).cell 3, (HK9.out.to hb).cell 4, (HK9.out.to hb).cell 5, (HK9.out.to hb).cell 6, (HK9.out.to hb).cell 7⟩
            have hS0 := HS.out _ ((Below.refl _ _).drew)
            have HQ : Hid (∀ w', Below (wr.alloc (.cells #[.int .i64 x, .int .i64 k5, .int .i64 v5, .string st5, .bool ng5, .slice A5 n5 c5, .slice B5 m5 d5, .slice X5 l5 e5] 51)).heap.size (wr.alloc (.cells #[.int .i64 x, .int .i64 k5, .int .i64 v5, .string st5, .bool ng5, .slice A5 n5 c5, .slice B5 m5 d5, .slice X5 l5 e5] 51)) w' → Calls Tryz.prog 33 #[.agg #[.int .i64 k5, .int .i64 v5, .string st5, .bool ng5, .slice A5 n5 c5, .slice B5 m5 d5, .slice X5 l5 e5]] w' fun e w2 => e = .returned (.int .i64 ck) ∧ Hid (Below (wr.alloc (.cells #[.int .i64 x, .int .i64 k5, .int .i64 v5, .string st5, .bool ng5, .slice A5 n5 c5, .slice B5 m5 d5, .slice X5 l5 e5] 51)).heap.size (wr.alloc (.cells #[.int .i64 x, .int .i64 k5, .int .i64 v5, .string st5, .bool ng5, .slice A5 n5 c5, .slice B5 m5 d5, .slice X5 l5 e5] 51)) w2) ∧ (w2.cell? ⟨wr.heap.size, 0, none⟩ = some (.int .i64 x) ∧ w2.cell? ⟨wr.heap.size, 1, none⟩ = some (.int .i64 k5) ∧ w2.cell? ⟨wr.heap.size, 2, none⟩ = some (.int .i64 v5) ∧ w2.cell? ⟨wr.heap.size, 3, none⟩ = some (.string st5) ∧ w2.cell? ⟨wr.heap.size, 4, none⟩ = some (.bool ng5) ∧ w2.cell? ⟨wr.heap.size, 5, none⟩ = some (.slice A5 n5 c5) ∧ w2.cell? ⟨wr.heap.size, 6, none⟩ = some (.slice B5 m5 d5) ∧ w2.cell? ⟨wr.heap.size, 7, none⟩ = some (.slice X5 l5 e5))) := fun w' hb => (HCB.out w' (HWB.out.trans ((HJ8.out.2.2.trans (hb.mono HJ8.out.2.2.size)).mono HWB.out.size))).mono fun e w2 q => by
              have hb2 := hb.trans (q.2.mono hb.size)
              exact ⟨q.1, hb2, HS.out _ hb2⟩
            go_wp2_with fail
            refine wp_region_held_drew (S := fun w' => w'.cell? ⟨wr.heap.size, 0, none⟩ = some (.int .i64 x) ∧ w'.cell? ⟨wr.heap.size, 1, none⟩ = some (.int .i64 k5) ∧ w'.cell? ⟨wr.heap.size, 2, none⟩ = some (.int .i64 v5) ∧ w'.cell? ⟨wr.heap.size, 3, none⟩ = some (.string st5) ∧ w'.cell? ⟨wr.heap.size, 4, none⟩ = some (.bool ng5) ∧ w'.cell? ⟨wr.heap.size, 5, none⟩ = some (.slice A5 n5 c5) ∧ w'.cell? ⟨wr.heap.size, 6, none⟩ = some (.slice B5 m5 d5) ∧ w'.cell? ⟨wr.heap.size, 7, none⟩ = some (.slice X5 l5 e5)) (by kernel_rfl) hS0 (fun hHeld => ?_)
            (refine wpAnyH_take (i := 0) (v := ?_) rfl (by kernel_rfl) (by kernel_rfl) (by kernel_rfl) (fun _ _ _ h => h) (Or.inl ⟨by kernel_rfl, ?_⟩) (by assumption) ?_; rotate_left; ((intro w hSw; (try dsimp only at hSw); go_simp) <;> (with_reducible rfl)); (try (simp only [Act.put, List.setIfInBounds_toArray, List.set_cons_succ, List.set_cons_zero, List.getElem_toArray, List.getElem_cons_succ, List.getElem_cons_zero])))
            (refine wpAnyH_take (i := 1) (v := ?_) rfl (by kernel_rfl) (by kernel_rfl) (by kernel_rfl) (fun _ _ _ h => h) (Or.inl ⟨by kernel_rfl, ?_⟩) (by assumption) ?_; rotate_left; ((intro w hSw; (try dsimp only at hSw); go_simp) <;> (with_reducible rfl)); (try (simp only [Act.put, List.setIfInBounds_toArray, List.set_cons_succ, List.set_cons_zero, List.getElem_toArray, List.getElem_cons_succ, List.getElem_cons_zero])))
            (refine wpAnyH_take (i := 2) (v := ?_) rfl (by kernel_rfl) (by kernel_rfl) (by kernel_rfl) (fun _ _ _ h => h) (Or.inl ⟨by kernel_rfl, ?_⟩) (by assumption) ?_; rotate_left; ((intro w hSw; (try dsimp only at hSw); go_simp) <;> (with_reducible rfl)); (try (simp only [Act.put, List.setIfInBounds_toArray, List.set_cons_succ, List.set_cons_zero, List.getElem_toArray, List.getElem_cons_succ, List.getElem_cons_zero])))
            (refine wpAnyH_take (i := 3) (v := ?_) rfl (by kernel_rfl) (by kernel_rfl) (by kernel_rfl) (fun _ _ _ h => h) (Or.inl ⟨by kernel_rfl, ?_⟩) (by assumption) ?_; rotate_left; ((intro w hSw; (try dsimp only at hSw); go_simp) <;> (with_reducible rfl)); (try (simp only [Act.put, List.setIfInBounds_toArray, List.set_cons_succ, List.set_cons_zero, List.getElem_toArray, List.getElem_cons_succ, List.getElem_cons_zero])))
            (refine wpAnyH_take (i := 4) (v := ?_) rfl (by kernel_rfl) (by kernel_rfl) (by kernel_rfl) (fun _ _ _ h => h) (Or.inl ⟨by kernel_rfl, ?_⟩) (by assumption) ?_; rotate_left; ((intro w hSw; (try dsimp only at hSw); go_simp) <;> (with_reducible rfl)); (try (simp only [Act.put, List.setIfInBounds_toArray, List.set_cons_succ, List.set_cons_zero, List.getElem_toArray, List.getElem_cons_succ, List.getElem_cons_zero])))
            (refine wpAnyH_take (i := 5) (v := ?_) rfl (by kernel_rfl) (by kernel_rfl) (by kernel_rfl) (fun _ _ _ h => h) (Or.inl ⟨by kernel_rfl, ?_⟩) (by assumption) ?_; rotate_left; ((intro w hSw; (try dsimp only at hSw); go_simp) <;> (with_reducible rfl)); (try (simp only [Act.put, List.setIfInBounds_toArray, List.set_cons_succ, List.set_cons_zero, List.getElem_toArray, List.getElem_cons_succ, List.getElem_cons_zero])))
            (refine wpAnyH_take (i := 6) (v := ?_) rfl (by kernel_rfl) (by kernel_rfl) (by kernel_rfl) (fun _ _ _ h => h) (Or.inl ⟨by kernel_rfl, ?_⟩) (by assumption) ?_; rotate_left; ((intro w hSw; (try dsimp only at hSw); go_simp) <;> (with_reducible rfl)); (try (simp only [Act.put, List.setIfInBounds_toArray, List.set_cons_succ, List.set_cons_zero, List.getElem_toArray, List.getElem_cons_succ, List.getElem_cons_zero])))
            (refine wpAnyH_take (i := 7) (v := undef) rfl (by kernel_rfl) (by kernel_rfl) (by kernel_rfl) (fun _ _ _ h => h) (Or.inr ⟨by kernel_rfl, rfl⟩) (by assumption) ?_; (try (simp only [Act.put, List.setIfInBounds_toArray, List.set_cons_succ, List.set_cons_zero, List.getElem_toArray, List.getElem_cons_succ, List.getElem_cons_zero])))
            (refine wpAnyH_take (i := 8) (v := undef) rfl (by kernel_rfl) (by kernel_rfl) (by kernel_rfl) (fun _ _ _ h => h) (Or.inr ⟨by kernel_rfl, rfl⟩) (by assumption) ?_; (try (simp only [Act.put, List.setIfInBounds_toArray, List.set_cons_succ, List.set_cons_zero, List.getElem_toArray, List.getElem_cons_succ, List.getElem_cons_zero])))
            (refine wpAnyH_take (i := 9) (v := undef) rfl (by kernel_rfl) (by kernel_rfl) (by kernel_rfl) (fun _ _ _ h => h) (Or.inr ⟨by kernel_rfl, rfl⟩) (by assumption) ?_; (try (simp only [Act.put, List.setIfInBounds_toArray, List.set_cons_succ, List.set_cons_zero, List.getElem_toArray, List.getElem_cons_succ, List.getElem_cons_zero])))
            (refine wpAnyH_take (i := 10) (v := undef) rfl (by kernel_rfl) (by kernel_rfl) (by kernel_rfl) (fun _ _ _ h => h) (Or.inr ⟨by kernel_rfl, rfl⟩) (by assumption) ?_; (try (simp only [Act.put, List.setIfInBounds_toArray, List.set_cons_succ, List.set_cons_zero, List.getElem_toArray, List.getElem_cons_succ, List.getElem_cons_zero])))
            (refine wpAnyH_take (i := 11) (v := undef) rfl (by kernel_rfl) (by kernel_rfl) (by kernel_rfl) (fun _ _ _ h => h) (Or.inr ⟨by kernel_rfl, rfl⟩) (by assumption) ?_; (try (simp only [Act.put, List.setIfInBounds_toArray, List.set_cons_succ, List.set_cons_zero, List.getElem_toArray, List.getElem_cons_succ, List.getElem_cons_zero])))
            (refine wpAnyH_take (i := 12) (v := undef) rfl (by kernel_rfl) (by kernel_rfl) (by kernel_rfl) (fun _ _ _ h => h) (Or.inr ⟨by kernel_rfl, rfl⟩) (by assumption) ?_; (try (simp only [Act.put, List.setIfInBounds_toArray, List.set_cons_succ, List.set_cons_zero, List.getElem_toArray, List.getElem_cons_succ, List.getElem_cons_zero])))
            (refine wpAnyH_take (i := 13) (v := undef) rfl (by kernel_rfl) (by kernel_rfl) (by kernel_rfl) (fun _ _ _ h => h) (Or.inr ⟨by kernel_rfl, rfl⟩) (by assumption) ?_; (try (simp only [Act.put, List.setIfInBounds_toArray, List.set_cons_succ, List.set_cons_zero, List.getElem_toArray, List.getElem_cons_succ, List.getElem_cons_zero])))
            (refine wpAnyH_take (i := 14) (v := undef) rfl (by kernel_rfl) (by kernel_rfl) (by kernel_rfl) (fun _ _ _ h => h) (Or.inr ⟨by kernel_rfl, rfl⟩) (by assumption) ?_; (try (simp only [Act.put, List.setIfInBounds_toArray, List.set_cons_succ, List.set_cons_zero, List.getElem_toArray, List.getElem_cons_succ, List.getElem_cons_zero])))
            (refine wpAnyH_take (i := 15) (v := undef) rfl (by kernel_rfl) (by kernel_rfl) (by kernel_rfl) (fun _ _ _ h => h) (Or.inr ⟨by kernel_rfl, rfl⟩) (by assumption) ?_; (try (simp only [Act.put, List.setIfInBounds_toArray, List.set_cons_succ, List.set_cons_zero, List.getElem_toArray, List.getElem_cons_succ, List.getElem_cons_zero])))
            (refine wpAnyH_take (i := 16) (v := ?_) rfl (by kernel_rfl) (by kernel_rfl) (by kernel_rfl) (fun _ _ _ h => h) (Or.inl ⟨by kernel_rfl, ?_⟩) (by assumption) ?_; rotate_left; ((intro w hSw; (try dsimp only at hSw); go_simp) <;> (with_reducible rfl)); (try (simp only [Act.put, List.setIfInBounds_toArray, List.set_cons_succ, List.set_cons_zero, List.getElem_toArray, List.getElem_cons_succ, List.getElem_cons_zero])))
            (refine wpAnyH_take (i := 17) (v := ?_) rfl (by kernel_rfl) (by kernel_rfl) (by kernel_rfl) (fun _ _ _ h => h) (Or.inl ⟨by kernel_rfl, ?_⟩) (by assumption) ?_; rotate_left; ((intro w hSw; (try dsimp only at hSw); go_simp) <;> (with_reducible rfl)); (try (simp only [Act.put, List.setIfInBounds_toArray, List.set_cons_succ, List.set_cons_zero, List.getElem_toArray, List.getElem_cons_succ, List.getElem_cons_zero])))
            (refine wpAnyH_take (i := 18) (v := ?_) rfl (by kernel_rfl) (by kernel_rfl) (by kernel_rfl) (fun _ _ _ h => h) (Or.inl ⟨by kernel_rfl, ?_⟩) (by assumption) ?_; rotate_left; ((intro w hSw; (try dsimp only at hSw); go_simp) <;> (with_reducible rfl)); (try (simp only [Act.put, List.setIfInBounds_toArray, List.set_cons_succ, List.set_cons_zero, List.getElem_toArray, List.getElem_cons_succ, List.getElem_cons_zero])))
            (refine wpAnyH_take (i := 19) (v := ?_) rfl (by kernel_rfl) (by kernel_rfl) (by kernel_rfl) (fun _ _ _ h => h) (Or.inl ⟨by kernel_rfl, ?_⟩) (by assumption) ?_; rotate_left; ((intro w hSw; (try dsimp only at hSw); go_simp) <;> (with_reducible rfl)); (try (simp only [Act.put, List.setIfInBounds_toArray, List.set_cons_succ, List.set_cons_zero, List.getElem_toArray, List.getElem_cons_succ, List.getElem_cons_zero])))
            (refine wpAnyH_take (i := 20) (v := ?_) rfl (by kernel_rfl) (by kernel_rfl) (by kernel_rfl) (fun _ _ _ h => h) (Or.inl ⟨by kernel_rfl, ?_⟩) (by assumption) ?_; rotate_left; ((intro w hSw; (try dsimp only at hSw); go_simp) <;> (with_reducible rfl)); (try (simp only [Act.put, List.setIfInBounds_toArray, List.set_cons_succ, List.set_cons_zero, List.getElem_toArray, List.getElem_cons_succ, List.getElem_cons_zero])))
            (refine wpAnyH_ready (rs := [21]) (by kernel_rfl) (by simp) ?_; refine AllReadyH.cons rfl (fun K hK => ?_) AllReadyH.nil)
            go_simp
            refine (HQ.out _ ((Below.refl _ _).drew)).mono ?_
            rintro e w5 ⟨rfl, HB5, hS5⟩
            have HJ5 : Hid (Blk w5 W.heap.size 27 #[.int .i64 k, .int .i64 v0, .string s, .bool ng, .slice A1 n1 c1, .slice B1 m1 d1, .slice Xr xl xc] ∧ Blk w5 (W.heap.size + 1) 27 #[.int .i64 0, .int .i64 0, .string ⟨#[]⟩, .bool false, .slice none 0 0, .slice none 0 0, .slice none 0 0] ∧ Below W.heap.size W w5) := ⟨HJ8.out.1.to HB5.out, HJ8.out.2.1.to HB5.out, HJ8.out.2.2.trans (HB5.out.mono HJ8.out.2.2.size)⟩
            refine hK.out _ _ hS5 (fun hHeld => ?_)
            clear hK K
            (try (simp only [Act.put, List.setIfInBounds_toArray, List.set_cons_succ, List.set_cons_zero, List.getElem_toArray, List.getElem_cons_succ, List.getElem_cons_zero]))
            clear hS0 HQ HS HB5 HJ8 HK9 HCB
            by_cases hck : ck = 0
            · subst hck
              have HNX3 := Lib.hid (HNX2.out (by trivial))
              clear HNX2 HBAD2
              (refine wpAnyH_take (i := 22) (v := ?_) rfl (by kernel_rfl) (by kernel_rfl) (by kernel_rfl) (fun _ _ _ h => h) (Or.inl ⟨by kernel_rfl, ?_⟩) (by assumption) ?_; rotate_left; ((intro w hSw; (try dsimp only at hSw); go_simp) <;> (with_reducible rfl)); (try (simp only [Act.put, List.setIfInBounds_toArray, List.set_cons_succ, List.set_cons_zero, List.getElem_toArray, List.getElem_cons_succ, List.getElem_cons_zero])))
              (refine wpAnyH_take (i := 23) (v := ?_) rfl (by kernel_rfl) (by kernel_rfl) (by kernel_rfl) (fun _ _ _ h => h) (Or.inl ⟨by kernel_rfl, ?_⟩) (by assumption) ?_; rotate_left; ((intro w hSw; (try dsimp only at hSw); go_simp) <;> (with_reducible rfl)); (try (simp only [Act.put, List.setIfInBounds_toArray, List.set_cons_succ, List.set_cons_zero, List.getElem_toArray, List.getElem_cons_succ, List.getElem_cons_zero])))
              (refine wpAnyH_done (by kernel_rfl) ?_ _)
              go_wp2_with fail
              go_roundg (gk - 1)
              case measure => omega
              case rel => exact ⟨j + 1, by omega, by go_num, HNX3.out, HJ5.out⟩
            · have HBAD := Lib.hid (HR1.out (by trivial) (HBAD2.out hck))
              have hcb : (ck == 0) = false := beq_eq_false_iff_ne.2 hck
              have HKZ : Hid (Blk w5 (W.heap.size + 1) 27 #[.int .i64 0, .int .i64 0, .string ⟨#[]⟩, .bool false, .slice none 0 0, .slice none 0 0, .slice none 0 0]) := HJ5.out.2.1
              clear HBAD2 HNX2 hck
              (refine wpAnyH_take (i := 22) (v := ?_) rfl (by kernel_rfl) (by kernel_rfl) (by kernel_rfl) (fun _ _ _ h => h) (Or.inl ⟨by kernel_rfl, ?_⟩) (by assumption) ?_; rotate_left; ((intro w hSw; (try dsimp only at hSw); go_simp) <;> (with_reducible rfl)); (try (simp only [Act.put, List.setIfInBounds_toArray, List.set_cons_succ, List.set_cons_zero, List.getElem_toArray, List.getElem_cons_succ, List.getElem_cons_zero])))
              (refine wpAnyH_take (i := 23) (v := ?_) rfl (by kernel_rfl) (by kernel_rfl) (by kernel_rfl) (fun _ _ _ h => h) (Or.inl ⟨by kernel_rfl, ?_⟩) (by assumption) ?_; rotate_left; ((intro w hSw; (try dsimp only at hSw); go_simp) <;> (with_reducible rfl)); (try (simp only [Act.put, List.setIfInBounds_toArray, List.set_cons_succ, List.set_cons_zero, List.getElem_toArray, List.getElem_cons_succ, List.getElem_cons_zero])))
              (refine wpAnyH_done (by kernel_rfl) ?_ _)
              clear hHeld hS5
              have r0 := HKZ.out.cell 0
              have r1 := HKZ.out.cell 1
              have r2 := HKZ.out.cell 2
              have r3 := HKZ.out.cell 3
              have r4 := HKZ.out.cell 4
              have r5 := HKZ.out.cell 5
              have r6 := HKZ.out.cell 6
              simp only [List.getElem?_toArray, List.getElem?_cons_zero, List.getElem?_cons_succ] at r0 r1 r2 r3 r4 r5 r6
              have z0 := HKZ.out.frozen 0
              have z1 := HKZ.out.frozen 1
              have z2 := HKZ.out.frozen 2
              have z3 := HKZ.out.frozen 3
              have z4 := HKZ.out.frozen 4
              have z5 := HKZ.out.frozen 5
              have z6 := HKZ.out.frozen 6
              go_wp2_with fail
              refine bodyPost_ret (v := .tuple #[.agg #[.int .i64 0, .int .i64 0, .string ⟨#[]⟩, .bool false, .slice none 0 0, .slice none 0 0, .slice none 0 0], .int .i64 2]) (by rw [results_cell_tmp rfl]; go_simp) rfl ?_
              exact ⟨[.int .i64 0, .int .i64 0, .string ⟨#[]⟩, .bool false, .slice none 0 0, .slice none 0 0, .slice none 0 0], .zero, 2, rfl, TCP.zero _ _, HBAD.out, (((((((HJ5.out.2.2.setCell (Nat.le_succ _) _).setCell (Nat.le_succ _) _).setCell (Nat.le_succ _) _).setCell (Nat.le_succ _) _).setCell (Nat.le_succ _) _).setCell (Nat.le_succ _) _).setCell (Nat.le_succ _) _)⟩
          · obtain ⟨j', e⟩ := Nat.exists_eq_succ_of_ne_zero (Nat.ne_of_gt h0)
            have e : j = j' + 1 := e
            subst e
            obtain ⟨px, e1, e2, hpx⟩ := HLP.out.2 j' rfl
            subst e1
            have HPC : Hid ((wr.alloc (.cells #[.int .i64 x, .int .i64 k5, .int .i64 v5, .string st5, .bool ng5, .slice A5 n5 c5, .slice B5 m5 d5, .slice X5 l5 e5] 51)).cell? ⟨b, o + j' * 8, none⟩ = some (.int .i64 lw)) := hpx _ (HBW.trans ((below_one wr _).mono HBW.size))
            have hj0 : decide ((0 : Int) < (j' : Int) + 1) = true := decide_eq_true (by omega)
            have hjn' : (j' : Int) < (n : Int) := by omega
            have hw1 : IntKind.i64.wrap (j' : Int) = (j' : Int) := by rw [IntKind.wrap_i64]; omega
            have HGJ := Lib.hid hgj
            clear hgj
            clear hpx HLP HBW h0
            by_cases hxl : x ≤ lw
            · have hxld : decide (x ≤ lw) = true := by simp [hxl]
              have HBAD := Lib.hid (HR1.out (by trivial) (HBAD1.out (by omega)))
              clear HBAD1 HBAD2 HNX HCB HJ hblt
              have HKZ : Hid (Blk (wr.alloc (.cells #[.int .i64 x, .int .i64 k5, .int .i64 v5, .string st5, .bool ng5, .slice A5 n5 c5, .slice B5 m5 d5, .slice X5 l5 e5] 51)).drew (W.heap.size + 1) 27 #[.int .i64 0, .int .i64 0, .string ⟨#[]⟩, .bool false, .slice none 0 0, .slice none 0 0, .slice none 0 0]) := HJ8.out.2.1.drew
              have HBD : Hid (Below W.heap.size W (wr.alloc (.cells #[.int .i64 x, .int .i64 k5, .int .i64 v5, .string st5, .bool ng5, .slice A5 n5 c5, .slice B5 m5 d5, .slice X5 l5 e5] 51)).drew) := HJ8.out.2.2.drew
              have hS0 : (wr.alloc (.cells #[.int .i64 x, .int .i64 k5, .int .i64 v5, .string st5, .bool ng5, .slice A5 n5 c5, .slice B5 m5 d5, .slice X5 l5 e5] 51)).drew.cell? ⟨wr.heap.size, 0, none⟩ = some (.int .i64 x) ∧ (wr.alloc (.cells #[.int .i64 x, .int .i64 k5, .int .i64 v5, .string st5, .bool ng5, .slice A5 n5 c5, .slice B5 m5 d5, .slice X5 l5 e5] 51)).drew.cell? ⟨wr.heap.size, 1, none⟩ = some (.int .i64 k5) ∧ (wr.alloc (.cells #[.int .i64 x, .int .i64 k5, .int .i64 v5, .string st5, .bool ng5, .slice A5 n5 c5, .slice B5 m5 d5, .slice X5 l5 e5] 51)).drew.cell? ⟨wr.heap.size, 2, none⟩ = some (.int .i64 v5) ∧ (wr.alloc (.cells #[.int .i64 x, .int .i64 k5, .int .i64 v5, .string st5, .bool ng5, .slice A5 n5 c5, .slice B5 m5 d5, .slice X5 l5 e5] 51)).drew.cell? ⟨wr.heap.size, 3, none⟩ = some (.string st5) ∧ (wr.alloc (.cells #[.int .i64 x, .int .i64 k5, .int .i64 v5, .string st5, .bool ng5, .slice A5 n5 c5, .slice B5 m5 d5, .slice X5 l5 e5] 51)).drew.cell? ⟨wr.heap.size, 4, none⟩ = some (.bool ng5) ∧ (wr.alloc (.cells #[.int .i64 x, .int .i64 k5, .int .i64 v5, .string st5, .bool ng5, .slice A5 n5 c5, .slice B5 m5 d5, .slice X5 l5 e5] 51)).drew.cell? ⟨wr.heap.size, 5, none⟩ = some (.slice A5 n5 c5) ∧ (wr.alloc (.cells #[.int .i64 x, .int .i64 k5, .int .i64 v5, .string st5, .bool ng5, .slice A5 n5 c5, .slice B5 m5 d5, .slice X5 l5 e5] 51)).drew.cell? ⟨wr.heap.size, 6, none⟩ = some (.slice B5 m5 d5) ∧ (wr.alloc (.cells #[.int .i64 x, .int .i64 k5, .int .i64 v5, .string st5, .bool ng5, .slice A5 n5 c5, .slice B5 m5 d5, .slice X5 l5 e5] 51)).drew.cell? ⟨wr.heap.size, 7, none⟩ = some (.slice X5 l5 e5) ∧ (wr.alloc (.cells #[.int .i64 x, .int .i64 k5, .int .i64 v5, .string st5, .bool ng5, .slice A5 n5 c5, .slice B5 m5 d5, .slice X5 l5 e5] 51)).drew.cell? ⟨b, o + j' * 8, none⟩ = some (.int .i64 lw) := ⟨HK9.out.drew.cell 0, HK9.out.drew.cell 1, HK9.out.drew.cell 2, HK9.out.drew.cell 3, HK9.out.drew.cell 4, HK9.out.drew.cell 5, HK9.out.drew.cell 6, HK9.out.drew.cell 7, HPC.out⟩
              go_wp2_with fail
              refine wp_region_held_drew (S := fun w' => w'.cell? ⟨wr.heap.size, 0, none⟩ = some (.int .i64 x) ∧ w'.cell? ⟨wr.heap.size, 1, none⟩ = some (.int .i64 k5) ∧ w'.cell? ⟨wr.heap.size, 2, none⟩ = some (.int .i64 v5) ∧ w'.cell? ⟨wr.heap.size, 3, none⟩ = some (.string st5) ∧ w'.cell? ⟨wr.heap.size, 4, none⟩ = some (.bool ng5) ∧ w'.cell? ⟨wr.heap.size, 5, none⟩ = some (.slice A5 n5 c5) ∧ w'.cell? ⟨wr.heap.size, 6, none⟩ = some (.slice B5 m5 d5) ∧ w'.cell? ⟨wr.heap.size, 7, none⟩ = some (.slice X5 l5 e5) ∧ w'.cell? ⟨b, o + j' * 8, none⟩ = some (.int .i64 lw)) (by kernel_rfl) hS0 (fun hHeld => ?_)
              (refine wpAnyH_take (i := 0) (v := ?_) rfl (by kernel_rfl) (by kernel_rfl) (by kernel_rfl) (fun _ _ _ h => h) (Or.inl ⟨by kernel_rfl, ?_⟩) (by assumption) ?_; rotate_left; ((intro w hSw; (try dsimp only at hSw); go_simp) <;> (with_reducible rfl)); (try (simp only [Act.put, List.setIfInBounds_toArray, List.set_cons_succ, List.set_cons_zero, List.getElem_toArray, List.getElem_cons_succ, List.getElem_cons_zero])))
              (refine wpAnyH_take (i := 1) (v := ?_) rfl (by kernel_rfl) (by kernel_rfl) (by kernel_rfl) (fun _ _ _ h => h) (Or.inl ⟨by kernel_rfl, ?_⟩) (by assumption) ?_; rotate_left; ((intro w hSw; (try dsimp only at hSw); go_simp) <;> (with_reducible rfl)); (try (simp only [Act.put, List.setIfInBounds_toArray, List.set_cons_succ, List.set_cons_zero, List.getElem_toArray, List.getElem_cons_succ, List.getElem_cons_zero])))
              (refine wpAnyH_take (i := 2) (v := ?_) rfl (by kernel_rfl) (by kernel_rfl) (by kernel_rfl) (fun _ _ _ h => h) (Or.inl ⟨by kernel_rfl, ?_⟩) (by assumption) ?_; rotate_left; ((intro w hSw; (try dsimp only at hSw); go_simp) <;> (with_reducible rfl)); (try (simp only [Act.put, List.setIfInBounds_toArray, List.set_cons_succ, List.set_cons_zero, List.getElem_toArray, List.getElem_cons_succ, List.getElem_cons_zero])))
              (refine wpAnyH_take (i := 3) (v := ?_) rfl (by kernel_rfl) (by kernel_rfl) (by kernel_rfl) (fun _ _ _ h => h) (Or.inl ⟨by kernel_rfl, ?_⟩) (by assumption) ?_; rotate_left; ((intro w hSw; (try dsimp only at hSw); go_simp) <;> (with_reducible rfl)); (try (simp only [Act.put, List.setIfInBounds_toArray, List.set_cons_succ, List.set_cons_zero, List.getElem_toArray, List.getElem_cons_succ, List.getElem_cons_zero])))
              (refine wpAnyH_take (i := 4) (v := ?_) rfl (by kernel_rfl) (by kernel_rfl) (by kernel_rfl) (fun _ _ _ h => h) (Or.inl ⟨by kernel_rfl, ?_⟩) (by assumption) ?_; rotate_left; ((intro w hSw; (try dsimp only at hSw); go_simp) <;> (with_reducible rfl)); (try (simp only [Act.put, List.setIfInBounds_toArray, List.set_cons_succ, List.set_cons_zero, List.getElem_toArray, List.getElem_cons_succ, List.getElem_cons_zero])))
              (refine wpAnyH_take (i := 5) (v := ?_) rfl (by kernel_rfl) (by kernel_rfl) (by kernel_rfl) (fun _ _ _ h => h) (Or.inl ⟨by kernel_rfl, ?_⟩) (by assumption) ?_; rotate_left; ((intro w hSw; (try dsimp only at hSw); go_simp) <;> (with_reducible rfl)); (try (simp only [Act.put, List.setIfInBounds_toArray, List.set_cons_succ, List.set_cons_zero, List.getElem_toArray, List.getElem_cons_succ, List.getElem_cons_zero])))
              (refine wpAnyH_take (i := 6) (v := ?_) rfl (by kernel_rfl) (by kernel_rfl) (by kernel_rfl) (fun _ _ _ h => h) (Or.inl ⟨by kernel_rfl, ?_⟩) (by assumption) ?_; rotate_left; ((intro w hSw; (try dsimp only at hSw); go_simp) <;> (with_reducible rfl)); (try (simp only [Act.put, List.setIfInBounds_toArray, List.set_cons_succ, List.set_cons_zero, List.getElem_toArray, List.getElem_cons_succ, List.getElem_cons_zero])))
              (refine wpAnyH_take (i := 7) (v := ?_) rfl (by kernel_rfl) (by kernel_rfl) (by kernel_rfl) (fun _ _ _ h => h) (Or.inl ⟨by kernel_rfl, ?_⟩) (by assumption) ?_; rotate_left; ((intro w hSw; (try dsimp only at hSw); go_simp) <;> (with_reducible rfl)); (try (simp only [Act.put, List.setIfInBounds_toArray, List.set_cons_succ, List.set_cons_zero, List.getElem_toArray, List.getElem_cons_succ, List.getElem_cons_zero])))
              (refine wpAnyH_take (i := 8) (v := ?_) rfl (by kernel_rfl) (by kernel_rfl) (by kernel_rfl) (fun _ _ _ h => h) (Or.inl ⟨by kernel_rfl, ?_⟩) (by assumption) ?_; rotate_left; ((intro w hSw; (try dsimp only at hSw); go_simp) <;> (with_reducible rfl)); (try (simp only [Act.put, List.setIfInBounds_toArray, List.set_cons_succ, List.set_cons_zero, List.getElem_toArray, List.getElem_cons_succ, List.getElem_cons_zero])))
              (refine wpAnyH_take (i := 9) (v := ?_) rfl (by kernel_rfl) (by kernel_rfl) (by kernel_rfl) (fun _ _ _ h => h) (Or.inl ⟨by kernel_rfl, ?_⟩) (by assumption) ?_; rotate_left; ((intro w hSw; (try dsimp only at hSw); go_simp) <;> (with_reducible rfl)); (try (simp only [Act.put, List.setIfInBounds_toArray, List.set_cons_succ, List.set_cons_zero, List.getElem_toArray, List.getElem_cons_succ, List.getElem_cons_zero])))
              (refine wpAnyH_take (i := 10) (v := ?_) rfl (by kernel_rfl) (by kernel_rfl) (by kernel_rfl) (fun _ _ _ h => h) (Or.inl ⟨by kernel_rfl, ?_⟩) (by assumption) ?_; rotate_left; ((intro w hSw; (try dsimp only at hSw); go_simp) <;> (with_reducible rfl)); (try (simp only [Act.put, List.setIfInBounds_toArray, List.set_cons_succ, List.set_cons_zero, List.getElem_toArray, List.getElem_cons_succ, List.getElem_cons_zero])))
              (refine wpAnyH_take (i := 11) (v := ?_) rfl (by kernel_rfl) (by kernel_rfl) (by kernel_rfl) (fun _ _ _ h => h) (Or.inl ⟨by kernel_rfl, ?_⟩) (by assumption) ?_; rotate_left; ((intro w hSw; (try dsimp only at hSw); go_simp) <;> (with_reducible rfl)); (try (simp only [Act.put, List.setIfInBounds_toArray, List.set_cons_succ, List.set_cons_zero, List.getElem_toArray, List.getElem_cons_succ, List.getElem_cons_zero])))
              (refine wpAnyH_take (i := 12) (v := ?_) rfl (by kernel_rfl) (by kernel_rfl) (by kernel_rfl) (fun _ _ _ h => h) (Or.inl ⟨by kernel_rfl, ?_⟩) (by assumption) ?_; rotate_left; ((intro w hSw; (try dsimp only at hSw); go_simp) <;> (with_reducible rfl)); (try (simp only [Act.put, List.setIfInBounds_toArray, List.set_cons_succ, List.set_cons_zero, List.getElem_toArray, List.getElem_cons_succ, List.getElem_cons_zero])))
              (refine wpAnyH_take (i := 13) (v := ?_) rfl (by kernel_rfl) (by kernel_rfl) (by kernel_rfl) (fun _ _ _ h => h) (Or.inl ⟨by kernel_rfl, ?_⟩) (by assumption) ?_; rotate_left; ((intro w hSw; (try dsimp only at hSw); go_simp) <;> (with_reducible rfl)); (try (simp only [Act.put, List.setIfInBounds_toArray, List.set_cons_succ, List.set_cons_zero, List.getElem_toArray, List.getElem_cons_succ, List.getElem_cons_zero])))
              (refine wpAnyH_take (i := 14) (v := ?_) rfl (by kernel_rfl) (by kernel_rfl) (by kernel_rfl) (fun _ _ _ h => h) (Or.inl ⟨by kernel_rfl, ?_⟩) (by assumption) ?_; rotate_left; ((intro w hSw; (try dsimp only at hSw); go_simp) <;> (with_reducible rfl)); (try (simp only [Act.put, List.setIfInBounds_toArray, List.set_cons_succ, List.set_cons_zero, List.getElem_toArray, List.getElem_cons_succ, List.getElem_cons_zero])))
              (refine wpAnyH_take (i := 15) (v := ?_) rfl (by kernel_rfl) (by kernel_rfl) (by kernel_rfl) (fun _ _ _ h => h) (Or.inl ⟨by kernel_rfl, ?_⟩) (by assumption) ?_; rotate_left; ((intro w hSw; (try dsimp only at hSw); go_simp) <;> (with_reducible rfl)); (try (simp only [Act.put, List.setIfInBounds_toArray, List.set_cons_succ, List.set_cons_zero, List.getElem_toArray, List.getElem_cons_succ, List.getElem_cons_zero])))
              (refine wpAnyH_take (i := 16) (v := ?_) rfl (by kernel_rfl) (by kernel_rfl) (by kernel_rfl) (fun _ _ _ h => h) (Or.inl ⟨by kernel_rfl, ?_⟩) (by assumption) ?_; rotate_left; ((intro w hSw; (try dsimp only at hSw); go_simp) <;> (with_reducible rfl)); (try (simp only [Act.put, List.setIfInBounds_toArray, List.set_cons_succ, List.set_cons_zero, List.getElem_toArray, List.getElem_cons_succ, List.getElem_cons_zero])))
              (refine wpAnyH_take (i := 17) (v := ?_) rfl (by kernel_rfl) (by kernel_rfl) (by kernel_rfl) (fun _ _ _ h => h) (Or.inl ⟨by kernel_rfl, ?_⟩) (by assumption) ?_; rotate_left; ((intro w hSw; (try dsimp only at hSw); go_simp) <;> (with_reducible rfl)); (try (simp only [Act.put, List.setIfInBounds_toArray, List.set_cons_succ, List.set_cons_zero, List.getElem_toArray, List.getElem_cons_succ, List.getElem_cons_zero])))
              (refine wpAnyH_take (i := 18) (v := ?_) rfl (by kernel_rfl) (by kernel_rfl) (by kernel_rfl) (fun _ _ _ h => h) (Or.inl ⟨by kernel_rfl, ?_⟩) (by assumption) ?_; rotate_left; ((intro w hSw; (try dsimp only at hSw); go_simp) <;> (with_reducible rfl)); (try (simp only [Act.put, List.setIfInBounds_toArray, List.set_cons_succ, List.set_cons_zero, List.getElem_toArray, List.getElem_cons_succ, List.getElem_cons_zero])))
              (refine wpAnyH_take (i := 19) (v := undef) rfl (by kernel_rfl) (by kernel_rfl) (by kernel_rfl) (fun _ _ _ h => h) (Or.inr ⟨by kernel_rfl, rfl⟩) (by assumption) ?_; (try (simp only [Act.put, List.setIfInBounds_toArray, List.set_cons_succ, List.set_cons_zero, List.getElem_toArray, List.getElem_cons_succ, List.getElem_cons_zero])))
              (refine wpAnyH_take (i := 20) (v := undef) rfl (by kernel_rfl) (by kernel_rfl) (by kernel_rfl) (fun _ _ _ h => h) (Or.inr ⟨by kernel_rfl, rfl⟩) (by assumption) ?_; (try (simp only [Act.put, List.setIfInBounds_toArray, List.set_cons_succ, List.set_cons_zero, List.getElem_toArray, List.getElem_cons_succ, List.getElem_cons_zero])))
              (refine wpAnyH_take (i := 21) (v := undef) rfl (by kernel_rfl) (by kernel_rfl) (by kernel_rfl) (fun _ _ _ h => h) (Or.inr ⟨by kernel_rfl, rfl⟩) (by assumption) ?_; (try (simp only [Act.put, List.setIfInBounds_toArray, List.set_cons_succ, List.set_cons_zero, List.getElem_toArray, List.getElem_cons_succ, List.getElem_cons_zero])))
              (refine wpAnyH_take (i := 22) (v := undef) rfl (by kernel_rfl) (by kernel_rfl) (by kernel_rfl) (fun _ _ _ h => h) (Or.inr ⟨by kernel_rfl, rfl⟩) (by assumption) ?_; (try (simp only [Act.put, List.setIfInBounds_toArray, List.set_cons_succ, List.set_cons_zero, List.getElem_toArray, List.getElem_cons_succ, List.getElem_cons_zero])))
              (refine wpAnyH_take (i := 23) (v := ?_) rfl (by kernel_rfl) (by kernel_rfl) (by kernel_rfl) (fun _ _ _ h => h) (Or.inl ⟨by kernel_rfl, ?_⟩) (by assumption) ?_; rotate_left; ((intro w hSw; (try dsimp only at hSw); go_simp) <;> (with_reducible rfl)); (try (simp only [Act.put, List.setIfInBounds_toArray, List.set_cons_succ, List.set_cons_zero, List.getElem_toArray, List.getElem_cons_succ, List.getElem_cons_zero])))
              (refine wpAnyH_done (by kernel_rfl) ?_ _)
              clear hS0 hHeld HJ8 HK9
              generalize (wr.alloc (.cells #[.int .i64 x, .int .i64 k5, .int .i64 v5, .string st5, .bool ng5, .slice A5 n5 c5, .slice B5 m5 d5, .slice X5 l5 e5] 51)).drew = w9 at *
              have r0 := HKZ.out.cell 0
              have r1 := HKZ.out.cell 1
              have r2 := HKZ.out.cell 2
              have r3 := HKZ.out.cell 3
              have r4 := HKZ.out.cell 4
              have r5 := HKZ.out.cell 5
              have r6 := HKZ.out.cell 6
              simp only [List.getElem?_toArray, List.getElem?_cons_zero, List.getElem?_cons_succ] at r0 r1 r2 r3 r4 r5 r6
              have z0 := HKZ.out.frozen 0
              have z1 := HKZ.out.frozen 1
              have z2 := HKZ.out.frozen 2
              have z3 := HKZ.out.frozen 3
              have z4 := HKZ.out.frozen 4
              have z5 := HKZ.out.frozen 5
              have z6 := HKZ.out.frozen 6
              go_wp2_with fail
              refine bodyPost_ret (v := .tuple #[.agg #[.int .i64 0, .int .i64 0, .string ⟨#[]⟩, .bool false, .slice none 0 0, .slice none 0 0, .slice none 0 0], .int .i64 2]) (by rw [results_cell_tmp rfl]; go_simp) rfl ?_
              exact ⟨[.int .i64 0, .int .i64 0, .string ⟨#[]⟩, .bool false, .slice none 0 0, .slice none 0 0, .slice none 0 0], .zero, 2, rfl, TCP.zero _ _, HBAD.out, (((((((HBD.out.setCell (Nat.le_succ _) _).setCell (Nat.le_succ _) _).setCell (Nat.le_succ _) _).setCell (Nat.le_succ _) _).setCell (Nat.le_succ _) _).setCell (Nat.le_succ _) _).setCell (Nat.le_succ _) _)⟩
            · have hxld : decide (x ≤ lw) = false := by simp [hxl]
              have HNX2 := Lib.hid (HNX.out (by omega))
              clear HBAD1 HNX HJ
              have HS : Hid (∀ w', Below (wr.alloc (.cells #[.int .i64 x, .int .i64 k5, .int .i64 v5, .string st5, .bool ng5, .slice A5 n5 c5, .slice B5 m5 d5, .slice X5 l5 e5] 51)).heap.size (wr.alloc (.cells #[.int .i64 x, .int .i64 k5, .int .i64 v5, .string st5, .bool ng5, .slice A5 n5 c5, .slice B5 m5 d5, .slice X5 l5 e5] 51)) w' → w'.cell? ⟨wr.heap.size, 0, none⟩ = some (.int .i64 x) ∧ w'.cell? ⟨wr.heap.size, 1, none⟩ = some (.int .i64 k5) ∧ w'.cell? ⟨wr.heap.size, 2, none⟩ = some (.int .i64 v5) ∧ w'.cell? ⟨wr.heap.size, 3, none⟩ = some (.string st5) ∧ w'.cell? ⟨wr.heap.size, 4, none⟩ = some (.bool ng5) ∧ w'.cell? ⟨wr.heap.size, 5, none⟩ = some (.slice A5 n5 c5) ∧ w'.cell? ⟨wr.heap.size, 6, none⟩ = some (.slice B5 m5 d5) ∧ w'.cell? ⟨wr.heap.size, 7, none⟩ = some (.slice X5 l5 e5) ∧ w'.cell? ⟨b, o + j' * 8, none⟩ = some (.int .i64 lw)) := fun w' hb => ⟨(HK9.out.to hb).cell 0, (HK9.out.to hb).cell 1, (HK9.out.to hb).cell 2, (HK9.out.to hb).cell 3, (HK9.out.to hb).cell 4, (HK9.out.to hb).cell 5, (HK9.out.to hb).cell 6, (HK9.out.to hb).cell 7, (hb.cell (p := ⟨b, o + j' * 8, none⟩) (Nat.lt_of_lt_of_le hblt (by simp))).trans HPC.out⟩
              have hS0 := HS.out _ ((Below.refl _ _).drew)
              have HQ : Hid (∀ w', Below (wr.alloc (.cells #[.int .i64 x, .int .i64 k5, .int .i64 v5, .string st5, .bool ng5, .slice A5 n5 c5, .slice B5 m5 d5, .slice X5 l5 e5] 51)).heap.size (wr.alloc (.cells #[.int .i64 x, .int .i64 k5, .int .i64 v5, .string st5, .bool ng5, .slice A5 n5 c5, .slice B5 m5 d5, .slice X5 l5 e5] 51)) w' → Calls Tryz.prog 33 #[.agg #[.int .i64 k5, .int .i64 v5, .string st5, .bool ng5, .slice A5 n5 c5, .slice B5 m5 d5, .slice X5 l5 e5]] w' fun e w2 => e = .returned (.int .i64 ck) ∧ Hid (Below (wr.alloc (.cells #[.int .i64 x, .int .i64 k5, .int .i64 v5, .string st5, .bool ng5, .slice A5 n5 c5, .slice B5 m5 d5, .slice X5 l5 e5] 51)).heap.size (wr.alloc (.cells #[.int .i64 x, .int .i64 k5, .int .i64 v5, .string st5, .bool ng5, .slice A5 n5 c5, .slice B5 m5 d5, .slice X5 l5 e5] 51)) w2) ∧ (w2.cell? ⟨wr.heap.size, 0, none⟩ = some (.int .i64 x) ∧ w2.cell? ⟨wr.heap.size, 1, none⟩ = some (.int .i64 k5) ∧ w2.cell? ⟨wr.heap.size, 2, none⟩ = some (.int .i64 v5) ∧ w2.cell? ⟨wr.heap.size, 3, none⟩ = some (.string st5) ∧ w2.cell? ⟨wr.heap.size, 4, none⟩ = some (.bool ng5) ∧ w2.cell? ⟨wr.heap.size, 5, none⟩ = some (.slice A5 n5 c5) ∧ w2.cell? ⟨wr.heap.size, 6, none⟩ = some (.slice B5 m5 d5) ∧ w2.cell? ⟨wr.heap.size, 7, none⟩ = some (.slice X5 l5 e5) ∧ w2.cell? ⟨b, o + j' * 8, none⟩ = some (.int .i64 lw))) := fun w' hb => (HCB.out w' (HWB.out.trans ((HJ8.out.2.2.trans (hb.mono HJ8.out.2.2.size)).mono HWB.out.size))).mono fun e w2 q => by
                have hb2 := hb.trans (q.2.mono hb.size)
                exact ⟨q.1, hb2, HS.out _ hb2⟩
              clear HPC hblt
              go_wp2_with fail
              refine wp_region_held_drew (S := fun w' => w'.cell? ⟨wr.heap.size, 0, none⟩ = some (.int .i64 x) ∧ w'.cell? ⟨wr.heap.size, 1, none⟩ = some (.int .i64 k5) ∧ w'.cell? ⟨wr.heap.size, 2, none⟩ = some (.int .i64 v5) ∧ w'.cell? ⟨wr.heap.size, 3, none⟩ = some (.string st5) ∧ w'.cell? ⟨wr.heap.size, 4, none⟩ = some (.bool ng5) ∧ w'.cell? ⟨wr.heap.size, 5, none⟩ = some (.slice A5 n5 c5) ∧ w'.cell? ⟨wr.heap.size, 6, none⟩ = some (.slice B5 m5 d5) ∧ w'.cell? ⟨wr.heap.size, 7, none⟩ = some (.slice X5 l5 e5) ∧ w'.cell? ⟨b, o + j' * 8, none⟩ = some (.int .i64 lw)) (by kernel_rfl) hS0 (fun hHeld => ?_)
              (refine wpAnyH_take (i := 0) (v := ?_) rfl (by kernel_rfl) (by kernel_rfl) (by kernel_rfl) (fun _ _ _ h => h) (Or.inl ⟨by kernel_rfl, ?_⟩) (by assumption) ?_; rotate_left; ((intro w hSw; (try dsimp only at hSw); go_simp) <;> (with_reducible rfl)); (try (simp only [Act.put, List.setIfInBounds_toArray, List.set_cons_succ, List.set_cons_zero, List.getElem_toArray, List.getElem_cons_succ, List.getElem_cons_zero])))
              (refine wpAnyH_take (i := 1) (v := ?_) rfl (by kernel_rfl) (by kernel_rfl) (by kernel_rfl) (fun _ _ _ h => h) (Or.inl ⟨by kernel_rfl, ?_⟩) (by assumption) ?_; rotate_left; ((intro w hSw; (try dsimp only at hSw); go_simp) <;> (with_reducible rfl)); (try (simp only [Act.put, List.setIfInBounds_toArray, List.set_cons_succ, List.set_cons_zero, List.getElem_toArray, List.getElem_cons_succ, List.getElem_cons_zero])))
              (refine wpAnyH_take (i := 2) (v := ?_) rfl (by kernel_rfl) (by kernel_rfl) (by kernel_rfl) (fun _ _ _ h => h) (Or.inl ⟨by kernel_rfl, ?_⟩) (by assumption) ?_; rotate_left; ((intro w hSw; (try dsimp only at hSw); go_simp) <;> (with_reducible rfl)); (try (simp only [Act.put, List.setIfInBounds_toArray, List.set_cons_succ, List.set_cons_zero, List.getElem_toArray, List.getElem_cons_succ, List.getElem_cons_zero])))
              (refine wpAnyH_take (i := 3) (v := ?_) rfl (by kernel_rfl) (by kernel_rfl) (by kernel_rfl) (fun _ _ _ h => h) (Or.inl ⟨by kernel_rfl, ?_⟩) (by assumption) ?_; rotate_left; ((intro w hSw; (try dsimp only at hSw); go_simp) <;> (with_reducible rfl)); (try (simp only [Act.put, List.setIfInBounds_toArray, List.set_cons_succ, List.set_cons_zero, List.getElem_toArray, List.getElem_cons_succ, List.getElem_cons_zero])))
              (refine wpAnyH_take (i := 4) (v := ?_) rfl (by kernel_rfl) (by kernel_rfl) (by kernel_rfl) (fun _ _ _ h => h) (Or.inl ⟨by kernel_rfl, ?_⟩) (by assumption) ?_; rotate_left; ((intro w hSw; (try dsimp only at hSw); go_simp) <;> (with_reducible rfl)); (try (simp only [Act.put, List.setIfInBounds_toArray, List.set_cons_succ, List.set_cons_zero, List.getElem_toArray, List.getElem_cons_succ, List.getElem_cons_zero])))
              (refine wpAnyH_take (i := 5) (v := ?_) rfl (by kernel_rfl) (by kernel_rfl) (by kernel_rfl) (fun _ _ _ h => h) (Or.inl ⟨by kernel_rfl, ?_⟩) (by assumption) ?_; rotate_left; ((intro w hSw; (try dsimp only at hSw); go_simp) <;> (with_reducible rfl)); (try (simp only [Act.put, List.setIfInBounds_toArray, List.set_cons_succ, List.set_cons_zero, List.getElem_toArray, List.getElem_cons_succ, List.getElem_cons_zero])))
              (refine wpAnyH_take (i := 6) (v := ?_) rfl (by kernel_rfl) (by kernel_rfl) (by kernel_rfl) (fun _ _ _ h => h) (Or.inl ⟨by kernel_rfl, ?_⟩) (by assumption) ?_; rotate_left; ((intro w hSw; (try dsimp only at hSw); go_simp) <;> (with_reducible rfl)); (try (simp only [Act.put, List.setIfInBounds_toArray, List.set_cons_succ, List.set_cons_zero, List.getElem_toArray, List.getElem_cons_succ, List.getElem_cons_zero])))
              (refine wpAnyH_take (i := 7) (v := ?_) rfl (by kernel_rfl) (by kernel_rfl) (by kernel_rfl) (fun _ _ _ h => h) (Or.inl ⟨by kernel_rfl, ?_⟩) (by assumption) ?_; rotate_left; ((intro w hSw; (try dsimp only at hSw); go_simp) <;> (with_reducible rfl)); (try (simp only [Act.put, List.setIfInBounds_toArray, List.set_cons_succ, List.set_cons_zero, List.getElem_toArray, List.getElem_cons_succ, List.getElem_cons_zero])))
              (refine wpAnyH_take (i := 8) (v := ?_) rfl (by kernel_rfl) (by kernel_rfl) (by kernel_rfl) (fun _ _ _ h => h) (Or.inl ⟨by kernel_rfl, ?_⟩) (by assumption) ?_; rotate_left; ((intro w hSw; (try dsimp only at hSw); go_simp) <;> (with_reducible rfl)); (try (simp only [Act.put, List.setIfInBounds_toArray, List.set_cons_succ, List.set_cons_zero, List.getElem_toArray, List.getElem_cons_succ, List.getElem_cons_zero])))
              (refine wpAnyH_take (i := 9) (v := ?_) rfl (by kernel_rfl) (by kernel_rfl) (by kernel_rfl) (fun _ _ _ h => h) (Or.inl ⟨by kernel_rfl, ?_⟩) (by assumption) ?_; rotate_left; ((intro w hSw; (try dsimp only at hSw); go_simp) <;> (with_reducible rfl)); (try (simp only [Act.put, List.setIfInBounds_toArray, List.set_cons_succ, List.set_cons_zero, List.getElem_toArray, List.getElem_cons_succ, List.getElem_cons_zero])))
              (refine wpAnyH_take (i := 10) (v := ?_) rfl (by kernel_rfl) (by kernel_rfl) (by kernel_rfl) (fun _ _ _ h => h) (Or.inl ⟨by kernel_rfl, ?_⟩) (by assumption) ?_; rotate_left; ((intro w hSw; (try dsimp only at hSw); go_simp) <;> (with_reducible rfl)); (try (simp only [Act.put, List.setIfInBounds_toArray, List.set_cons_succ, List.set_cons_zero, List.getElem_toArray, List.getElem_cons_succ, List.getElem_cons_zero])))
              (refine wpAnyH_take (i := 11) (v := ?_) rfl (by kernel_rfl) (by kernel_rfl) (by kernel_rfl) (fun _ _ _ h => h) (Or.inl ⟨by kernel_rfl, ?_⟩) (by assumption) ?_; rotate_left; ((intro w hSw; (try dsimp only at hSw); go_simp) <;> (with_reducible rfl)); (try (simp only [Act.put, List.setIfInBounds_toArray, List.set_cons_succ, List.set_cons_zero, List.getElem_toArray, List.getElem_cons_succ, List.getElem_cons_zero])))
              (refine wpAnyH_take (i := 12) (v := ?_) rfl (by kernel_rfl) (by kernel_rfl) (by kernel_rfl) (fun _ _ _ h => h) (Or.inl ⟨by kernel_rfl, ?_⟩) (by assumption) ?_; rotate_left; ((intro w hSw; (try dsimp only at hSw); go_simp) <;> (with_reducible rfl)); (try (simp only [Act.put, List.setIfInBounds_toArray, List.set_cons_succ, List.set_cons_zero, List.getElem_toArray, List.getElem_cons_succ, List.getElem_cons_zero])))
              (refine wpAnyH_take (i := 13) (v := ?_) rfl (by kernel_rfl) (by kernel_rfl) (by kernel_rfl) (fun _ _ _ h => h) (Or.inl ⟨by kernel_rfl, ?_⟩) (by assumption) ?_; rotate_left; ((intro w hSw; (try dsimp only at hSw); go_simp) <;> (with_reducible rfl)); (try (simp only [Act.put, List.setIfInBounds_toArray, List.set_cons_succ, List.set_cons_zero, List.getElem_toArray, List.getElem_cons_succ, List.getElem_cons_zero])))
              (refine wpAnyH_take (i := 14) (v := ?_) rfl (by kernel_rfl) (by kernel_rfl) (by kernel_rfl) (fun _ _ _ h => h) (Or.inl ⟨by kernel_rfl, ?_⟩) (by assumption) ?_; rotate_left; ((intro w hSw; (try dsimp only at hSw); go_simp) <;> (with_reducible rfl)); (try (simp only [Act.put, List.setIfInBounds_toArray, List.set_cons_succ, List.set_cons_zero, List.getElem_toArray, List.getElem_cons_succ, List.getElem_cons_zero])))
              (refine wpAnyH_take (i := 15) (v := ?_) rfl (by kernel_rfl) (by kernel_rfl) (by kernel_rfl) (fun _ _ _ h => h) (Or.inl ⟨by kernel_rfl, ?_⟩) (by assumption) ?_; rotate_left; ((intro w hSw; (try dsimp only at hSw); go_simp) <;> (with_reducible rfl)); (try (simp only [Act.put, List.setIfInBounds_toArray, List.set_cons_succ, List.set_cons_zero, List.getElem_toArray, List.getElem_cons_succ, List.getElem_cons_zero])))
              (refine wpAnyH_take (i := 16) (v := ?_) rfl (by kernel_rfl) (by kernel_rfl) (by kernel_rfl) (fun _ _ _ h => h) (Or.inl ⟨by kernel_rfl, ?_⟩) (by assumption) ?_; rotate_left; ((intro w hSw; (try dsimp only at hSw); go_simp) <;> (with_reducible rfl)); (try (simp only [Act.put, List.setIfInBounds_toArray, List.set_cons_succ, List.set_cons_zero, List.getElem_toArray, List.getElem_cons_succ, List.getElem_cons_zero])))
              (refine wpAnyH_take (i := 17) (v := ?_) rfl (by kernel_rfl) (by kernel_rfl) (by kernel_rfl) (fun _ _ _ h => h) (Or.inl ⟨by kernel_rfl, ?_⟩) (by assumption) ?_; rotate_left; ((intro w hSw; (try dsimp only at hSw); go_simp) <;> (with_reducible rfl)); (try (simp only [Act.put, List.setIfInBounds_toArray, List.set_cons_succ, List.set_cons_zero, List.getElem_toArray, List.getElem_cons_succ, List.getElem_cons_zero])))
              (refine wpAnyH_take (i := 18) (v := ?_) rfl (by kernel_rfl) (by kernel_rfl) (by kernel_rfl) (fun _ _ _ h => h) (Or.inl ⟨by kernel_rfl, ?_⟩) (by assumption) ?_; rotate_left; ((intro w hSw; (try dsimp only at hSw); go_simp) <;> (with_reducible rfl)); (try (simp only [Act.put, List.setIfInBounds_toArray, List.set_cons_succ, List.set_cons_zero, List.getElem_toArray, List.getElem_cons_succ, List.getElem_cons_zero])))
              (refine wpAnyH_take (i := 19) (v := ?_) rfl (by kernel_rfl) (by kernel_rfl) (by kernel_rfl) (fun _ _ _ h => h) (Or.inl ⟨by kernel_rfl, ?_⟩) (by assumption) ?_; rotate_left; ((intro w hSw; (try dsimp only at hSw); go_simp) <;> (with_reducible rfl)); (try (simp only [Act.put, List.setIfInBounds_toArray, List.set_cons_succ, List.set_cons_zero, List.getElem_toArray, List.getElem_cons_succ, List.getElem_cons_zero])))
              (refine wpAnyH_take (i := 20) (v := ?_) rfl (by kernel_rfl) (by kernel_rfl) (by kernel_rfl) (fun _ _ _ h => h) (Or.inl ⟨by kernel_rfl, ?_⟩) (by assumption) ?_; rotate_left; ((intro w hSw; (try dsimp only at hSw); go_simp) <;> (with_reducible rfl)); (try (simp only [Act.put, List.setIfInBounds_toArray, List.set_cons_succ, List.set_cons_zero, List.getElem_toArray, List.getElem_cons_succ, List.getElem_cons_zero])))
              (refine wpAnyH_ready (rs := [21]) (by kernel_rfl) (by simp) ?_; refine AllReadyH.cons rfl (fun K hK => ?_) AllReadyH.nil)
              go_simp
              refine (HQ.out _ ((Below.refl _ _).drew)).mono ?_
              rintro e w5 ⟨rfl, HB5, hS5⟩
              have HJ5 : Hid (Blk w5 W.heap.size 27 #[.int .i64 k, .int .i64 v0, .string s, .bool ng, .slice A1 n1 c1, .slice B1 m1 d1, .slice Xr xl xc] ∧ Blk w5 (W.heap.size + 1) 27 #[.int .i64 0, .int .i64 0, .string ⟨#[]⟩, .bool false, .slice none 0 0, .slice none 0 0, .slice none 0 0] ∧ Below W.heap.size W w5) := ⟨HJ8.out.1.to HB5.out, HJ8.out.2.1.to HB5.out, HJ8.out.2.2.trans (HB5.out.mono HJ8.out.2.2.size)⟩
              refine hK.out _ _ hS5 (fun hHeld => ?_)
              clear hK K
              (try (simp only [Act.put, List.setIfInBounds_toArray, List.set_cons_succ, List.set_cons_zero, List.getElem_toArray, List.getElem_cons_succ, List.getElem_cons_zero]))
              clear hS0 HQ HS HB5 HJ8 HK9 HCB
              by_cases hck : ck = 0
              · subst hck
                have HNX3 := Lib.hid (HNX2.out (by trivial))
                clear HNX2 HBAD2
                (refine wpAnyH_take (i := 22) (v := ?_) rfl (by kernel_rfl) (by kernel_rfl) (by kernel_rfl) (fun _ _ _ h => h) (Or.inl ⟨by kernel_rfl, ?_⟩) (by assumption) ?_; rotate_left; ((intro w hSw; (try dsimp only at hSw); go_simp) <;> (with_reducible rfl)); (try (simp only [Act.put, List.setIfInBounds_toArray, List.set_cons_succ, List.set_cons_zero, List.getElem_toArray, List.getElem_cons_succ, List.getElem_cons_zero])))
                (refine wpAnyH_take (i := 23) (v := ?_) rfl (by kernel_rfl) (by kernel_rfl) (by kernel_rfl) (fun _ _ _ h => h) (Or.inl ⟨by kernel_rfl, ?_⟩) (by assumption) ?_; rotate_left; ((intro w hSw; (try dsimp only at hSw); go_simp) <;> (with_reducible rfl)); (try (simp only [Act.put, List.setIfInBounds_toArray, List.set_cons_succ, List.set_cons_zero, List.getElem_toArray, List.getElem_cons_succ, List.getElem_cons_zero])))
                (refine wpAnyH_done (by kernel_rfl) ?_ _)
                go_wp2_with fail
                go_roundg (gk - 1)
                case measure => have := HGJ.out; omega
                case rel => have hgj := HGJ.out; exact ⟨j' + 1 + 1, by omega, by go_num, HNX3.out, HJ5.out⟩
              · have HBAD := Lib.hid (HR1.out (by trivial) (HBAD2.out hck))
                have hcb : (ck == 0) = false := beq_eq_false_iff_ne.2 hck
                have HKZ : Hid (Blk w5 (W.heap.size + 1) 27 #[.int .i64 0, .int .i64 0, .string ⟨#[]⟩, .bool false, .slice none 0 0, .slice none 0 0, .slice none 0 0]) := HJ5.out.2.1
                clear HBAD2 HNX2 hck
                (refine wpAnyH_take (i := 22) (v := ?_) rfl (by kernel_rfl) (by kernel_rfl) (by kernel_rfl) (fun _ _ _ h => h) (Or.inl ⟨by kernel_rfl, ?_⟩) (by assumption) ?_; rotate_left; ((intro w hSw; (try dsimp only at hSw); go_simp) <;> (with_reducible rfl)); (try (simp only [Act.put, List.setIfInBounds_toArray, List.set_cons_succ, List.set_cons_zero, List.getElem_toArray, List.getElem_cons_succ, List.getElem_cons_zero])))
                (refine wpAnyH_take (i := 23) (v := ?_) rfl (by kernel_rfl) (by kernel_rfl) (by kernel_rfl) (fun _ _ _ h => h) (Or.inl ⟨by kernel_rfl, ?_⟩) (by assumption) ?_; rotate_left; ((intro w hSw; (try dsimp only at hSw); go_simp) <;> (with_reducible rfl)); (try (simp only [Act.put, List.setIfInBounds_toArray, List.set_cons_succ, List.set_cons_zero, List.getElem_toArray, List.getElem_cons_succ, List.getElem_cons_zero])))
                (refine wpAnyH_done (by kernel_rfl) ?_ _)
                clear hHeld hS5
                have r0 := HKZ.out.cell 0
                have r1 := HKZ.out.cell 1
                have r2 := HKZ.out.cell 2
                have r3 := HKZ.out.cell 3
                have r4 := HKZ.out.cell 4
                have r5 := HKZ.out.cell 5
                have r6 := HKZ.out.cell 6
                simp only [List.getElem?_toArray, List.getElem?_cons_zero, List.getElem?_cons_succ] at r0 r1 r2 r3 r4 r5 r6
                have z0 := HKZ.out.frozen 0
                have z1 := HKZ.out.frozen 1
                have z2 := HKZ.out.frozen 2
                have z3 := HKZ.out.frozen 3
                have z4 := HKZ.out.frozen 4
                have z5 := HKZ.out.frozen 5
                have z6 := HKZ.out.frozen 6
                go_wp2_with fail
                refine bodyPost_ret (v := .tuple #[.agg #[.int .i64 0, .int .i64 0, .string ⟨#[]⟩, .bool false, .slice none 0 0, .slice none 0 0, .slice none 0 0], .int .i64 2]) (by rw [results_cell_tmp rfl]; go_simp) rfl ?_
                exact ⟨[.int .i64 0, .int .i64 0, .string ⟨#[]⟩, .bool false, .slice none 0 0, .slice none 0 0, .slice none 0 0], .zero, 2, rfl, TCP.zero _ _, HBAD.out, (((((((HJ5.out.2.2.setCell (Nat.le_succ _) _).setCell (Nat.le_succ _) _).setCell (Nat.le_succ _) _).setCell (Nat.le_succ _) _).setCell (Nat.le_succ _) _).setCell (Nat.le_succ _) _).setCell (Nat.le_succ _) _)⟩
      · obtain rfl : n = j := by omega
        have HG : Hid (Good bs) := fun q hq => HN.out q hq (by rw [← HL.out]; exact hq)
        have HR2 := Lib.hid (HR2.out (by trivial) HG.out)
        have HR3 := Lib.hid (HR3.out (by trivial) HG.out)
        have HKT : Hid (Blk wr W.heap.size 27 #[.int .i64 k, .int .i64 v0, .string s, .bool ng, .slice A1 n1 c1, .slice B1 m1 d1, .slice Xr xl xc]) := HJ.out.1
        have HLW : Hid (W.heap.size + 1 < wr.heap.size) := HJ.out.2.1.lt
        clear HN HG HR1
        have y0 := HKT.out.cell 0
        have y1 := HKT.out.cell 1
        have y2 := HKT.out.cell 2
        have y3 := HKT.out.cell 3
        have y4 := HKT.out.cell 4
        have y5 := HKT.out.cell 5
        have y6 := HKT.out.cell 6
        simp only [List.getElem?_toArray, List.getElem?_cons_zero, List.getElem?_cons_succ] at y0 y1 y2 y3 y4 y5 y6
        go_wp2_with fail
        refine (HRPL.out _ (by exact HWB.out.trans (HJ.out.2.2.mono HWB.out.size))).mono ?_
        rintro e w5 ⟨cx5, rfl, ht5, hb5⟩
        have HJ5 : Hid (Blk w5 W.heap.size 27 #[.int .i64 k, .int .i64 v0, .string s, .bool ng, .slice A1 n1 c1, .slice B1 m1 d1, .slice Xr xl xc] ∧ Blk w5 (W.heap.size + 1) 27 #[.int .i64 0, .int .i64 0, .string ⟨#[]⟩, .bool false, .slice none 0 0, .slice none 0 0, .slice none 0 0] ∧ Below W.heap.size W w5) := ⟨HJ.out.1.to hb5, HJ.out.2.1.to hb5, HJ.out.2.2.trans (hb5.mono HJ.out.2.2.size)⟩
        clear hb5 HJ HKT HRPL y0 y1 y2 y3 y4 y5 y6
        have HFT := Lib.hid (fitting_any (ht5.mono (q := fun b => b < w.heap.size ∨ W.heap.size + 2 ≤ b) fun b hb _ => by have := HLW.out; exact hb.elim .inl fun hb => .inr (by omega)))
        clear ht5 HLW
        go_wp2_with fail
        refine HFT.out.mono ?_
        rintro e w6 ⟨cx8, tx, er, rfl, ht8, hcase, hb8⟩
        obtain ⟨k8, v8, st8, ng8, A8, n8, c8, B8, m8, d8, X8, l8, e8, hf8⟩ := ht8.form
        subst hf8
        have HB8 : Hid (Below W.heap.size W w6) := HJ5.out.2.2.trans (hb8.mono HJ5.out.2.2.size)
        have HK8 := Lib.hid (HJ5.out.2.1.to hb8)
        have HT8 := Lib.hid ht8
        have HRES : Hid (ApplyR t bs tx er) := by
          rcases hcase with ⟨h1, rfl, rfl⟩ | ⟨h1, rfl, rfl⟩
          · exact HR2.out h1
          · exact HR3.out h1
        clear hb8 ht8 HJ5 HFT hcase HR2 HR3
        have r0 := HK8.out.cell 0
        have r1 := HK8.out.cell 1
        have r2 := HK8.out.cell 2
        have r3 := HK8.out.cell 3
        have r4 := HK8.out.cell 4
        have r5 := HK8.out.cell 5
        have r6 := HK8.out.cell 6
        simp only [List.getElem?_toArray, List.getElem?_cons_zero, List.getElem?_cons_succ] at r0 r1 r2 r3 r4 r5 r6
        have z0 := HK8.out.frozen 0
        have z1 := HK8.out.frozen 1
        have z2 := HK8.out.frozen 2
        have z3 := HK8.out.frozen 3
        have z4 := HK8.out.frozen 4
        have z5 := HK8.out.frozen 5
        have z6 := HK8.out.frozen 6
        go_wp2_with fail
        refine bodyPost_ret (v := .tuple #[.agg #[.int .i64 k8, .int .i64 v8, .string st8, .bool ng8, .slice A8 n8 c8, .slice B8 m8 d8, .slice X8 l8 e8], .int .i64 er]) (by rw [results_cell_tmp rfl]; go_simp) rfl ?_
        exact ⟨[.int .i64 k8, .int .i64 v8, .string st8, .bool ng8, .slice A8 n8 c8, .slice B8 m8 d8, .slice X8 l8 e8], tx, er, rfl, (HT8.out.to (by simp) fun b hb _ => by
          have hbr : b ≠ W.heap.size + 1 := by have := HWB.out.size; rcases hb with hb | hb <;> omega
          repeat rw [Below.heap_setCell _ _ _ b hbr]).mono fun b hb _ => by exact hb.elim .inl fun hb => .inr (by omega), HRES.out, (((((((HB8.out.setCell (Nat.le_succ _) _).setCell (Nat.le_succ _) _).setCell (Nat.le_succ _) _).setCell (Nat.le_succ _) _).setCell (Nat.le_succ _) _).setCell (Nat.le_succ _) _).setCell (Nat.le_succ _) _)⟩
  · have HBAD := Lib.hid (HR0.out hk)
    have hkb : (tk == 0) = false := beq_eq_false_iff_ne.2 hk
    have HKZ : Hid (Blk w1 (W.heap.size + 1) 27 #[.int .i64 0, .int .i64 0, .string ⟨#[]⟩, .bool false, .slice none 0 0, .slice none 0 0, .slice none 0 0]) := HJ1.out.2.1
    clear HRP HR0 HR1 HR2 HR3 hk
    have r0 := HKZ.out.cell 0
    have r1 := HKZ.out.cell 1
    have r2 := HKZ.out.cell 2
    have r3 := HKZ.out.cell 3
    have r4 := HKZ.out.cell 4
    have r5 := HKZ.out.cell 5
    have r6 := HKZ.out.cell 6
    simp only [List.getElem?_toArray, List.getElem?_cons_zero, List.getElem?_cons_succ] at r0 r1 r2 r3 r4 r5 r6
    have z0 := HKZ.out.frozen 0
    have z1 := HKZ.out.frozen 1
    have z2 := HKZ.out.frozen 2
    have z3 := HKZ.out.frozen 3
    have z4 := HKZ.out.frozen 4
    have z5 := HKZ.out.frozen 5
    have z6 := HKZ.out.frozen 6
    go_wp2_with fail
    refine bodyPost_ret (v := .tuple #[.agg #[.int .i64 0, .int .i64 0, .string ⟨#[]⟩, .bool false, .slice none 0 0, .slice none 0 0, .slice none 0 0], .int .i64 tk]) (by rw [results_cell_tmp rfl]; go_simp) rfl ?_
    exact ⟨[.int .i64 0, .int .i64 0, .string ⟨#[]⟩, .bool false, .slice none 0 0, .slice none 0 0, .slice none 0 0], .zero, tk, rfl, TCP.zero _ _, HBAD.out, (((((((HJ1.out.2.2.setCell (Nat.le_succ _) _).setCell (Nat.le_succ _) _).setCell (Nat.le_succ _) _).setCell (Nat.le_succ _) _).setCell (Nat.le_succ _) _).setCell (Nat.le_succ _) _).setCell (Nat.le_succ _) _)⟩
end Go.Proofs.YtkfnpcilanheiaaGreat

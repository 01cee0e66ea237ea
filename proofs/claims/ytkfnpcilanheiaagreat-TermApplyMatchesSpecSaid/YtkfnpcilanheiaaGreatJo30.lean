/-  -/
import Derived.Test.YtkfnpcilanheiaaGreatJo26
import Derived.Test.YtkfnpcilanheiaaGreatJo27
import Derived.Test.YtkfnpcilanheiaaGreatJo29
set_option linter.unusedVariables false
set_option linter.unusedSimpArgs false
/- term.Rename and the reference's Rename. -/
namespace Go.Proofs.YtkfnpcilanheiaaGreat
open Go.RowKit NumB
set_option linter.unusedVariables false
set_option linter.unusedSimpArgs false

theorem free_bd {t : Tm} (h : t.err0 = 0) : ∀ v, v ∈ t.free [] → 0 ≤ v ∧ v ≤ 1073741824 := by
  have key : ∀ t : Tm, t.allV (fun v => 0 ≤ v ∧ v ≤ 1073741824) → ∀ l, (∀ v, v ∈ l → 0 ≤ v ∧ v ≤ 1073741824) → ∀ v, v ∈ t.free l → 0 ≤ v ∧ v ≤ 1073741824 := by
    intro t
    induction t using Tm.rec (motive_2 := fun ts => allVL (fun v => 0 ≤ v ∧ v ≤ 1073741824) ts → ∀ l, (∀ v, v ∈ l → 0 ≤ v ∧ v ≤ 1073741824) → ∀ v, v ∈ freeL ts l → 0 ≤ v ∧ v ≤ 1073741824) with
    | mk k v s n args ih =>
      intro ha l hl
      rw [Tm.allV] at ha
      rw [Tm.free]
      refine ih ha.2 _ fun u hu => ?_
      split at hu
      · next hc =>
        rcases List.mem_append.1 hu with h | h
        · exact hl u h
        · rw [List.mem_singleton] at h; subst h; exact ha.1 hc.1
      · exact hl u hu
    | nil =>
      rename_i ha l hl v hv
      rw [freeL] at hv
      exact hl v hv
    | cons t ts h1 h2 =>
      rename_i ha l hl v hv
      rw [allVL] at ha
      rw [freeL] at hv
      exact h2 ha.2 _ (h1 ha.1 l hl) v hv
  exact key t (free_valid h) [] fun v hv => by cases hv
theorem far_allV {t : Tm} {by_ : Int} (hc : t.check = 0) (hf : ¬ Far t by_) : t.allV (fun v => 0 ≤ v + by_ ∧ v + by_ ≤ 1073741824) := by
  refine Tm.allV_mono (fun v hv => ?_) t (t.allV_and (t.allV_free []) (free_valid (check_err0 hc).2))
  unfold Far at hf
  have h0 : ¬ by_ < 0 := fun h => hf (.inl h)
  have h1 : ¬ 1073741824 - by_ < v := fun h => hf (.inr ⟨v, hv.1, h⟩)
  have := hv.2.1
  exact ⟨by omega, by omega⟩
open Classical in
/-- What the function that Rename makes tells: any int is answered, as the wrapped sum. -/
noncomputable def renF (t : Tm) (by_ : Int) : Int → Option Tm := fun v => some (.var (IntKind.i64.wrap (v + by_)))
theorem renF_sm {t : Tm} {by_ v : Int} {x : Tm} (h : renF t by_ v = some x) : x.sm := by
  unfold renF at h
  cases h
  simp [Tm.var, Tm.sm, smL]
theorem renF_repl {t : Tm} {by_ : Int} (hc : t.check = 0) (hf : ¬ Far t by_) : t.repl (renF t by_) = t.repl fun v => some (.var (v + by_)) := by
  have key : ∀ u : Tm, u.allV (fun v => 0 ≤ v + by_ ∧ v + by_ ≤ 1073741824) → u.repl (renF t by_) = u.repl fun v => some (.var (v + by_)) := by
    intro u
    induction u using Tm.rec (motive_2 := fun ts => allVL (fun v => 0 ≤ v + by_ ∧ v + by_ ≤ 1073741824) ts → replL (renF t by_) ts = replL (fun v => some (.var (v + by_))) ts) with
    | mk k v s n args ih =>
      intro ha
      rw [Tm.allV] at ha
      rw [Tm.repl, Tm.repl, ih ha.2]
      by_cases hk : k = 1
      · have := ha.1 hk
        rw [if_pos hk, if_pos hk]
        unfold renF
        simp only
        rw [show IntKind.i64.wrap (v + by_) = v + by_ by rw [IntKind.wrap_i64]; omega]
      · rw [if_neg hk, if_neg hk]
    | nil => rw [replL, replL]
    | cons t ts h1 h2 =>
      rename_i ha
      rw [allVL] at ha
      rw [replL, replL, h1 ha.1, h2 ha.2]
  exact key t (far_allV hc hf)

set_option maxRecDepth 100000 in
/-- The function that Rename makes. -/
theorem rename1_any {w : World} (t : Tm) (by_ : Int) (bc : Nat) (hc : w.cell? ⟨bc, 0, none⟩ = some (.int .i64 by_)) (hlt : bc < w.heap.size) (v : Int) (W : World) (hW : Below w.heap.size w W) :
    Calls Tryz.prog 38 #[.int .i64 v, .pointer (some ⟨bc, 0, none⟩)] W fun e W' => ∃ cx tx, e = .returned (.tuple #[.agg cx.toArray, .bool (renF t by_ v).isSome]) ∧ TC W' tx cx ∧ (∀ x, renF t by_ v = some x → tx = x) ∧ Below W.heap.size W W' := by
  have HV : Hid (∀ W (n : Int), Calls Tryz.prog 39 #[.int .i64 n] W fun e w' => e = .returned (.agg #[.int .i64 1, .int .i64 n, .string ⟨#[]⟩, .bool false, .slice none 0 0, .slice none 0 0, .slice none 0 0]) ∧ Below W.heap.size W w') := fun W n => heapVar_any n W
  have HB0 : Hid (Below W.heap.size W (W.alloc (.cells #[.int .i64 0, .int .i64 0, .string ⟨#[]⟩, .bool false, .slice none 0 0, .slice none 0 0, .slice none 0 0] 27))) := below_one W _
  have HK0 : Hid (Blk (W.alloc (.cells #[.int .i64 0, .int .i64 0, .string ⟨#[]⟩, .bool false, .slice none 0 0, .slice none 0 0, .slice none 0 0] 27)) W.heap.size 27 #[.int .i64 0, .int .i64 0, .string ⟨#[]⟩, .bool false, .slice none 0 0, .slice none 0 0, .slice none 0 0]) := Blk.new W _ _
  have HWB := Lib.hid hW
  have y0 := ((HWB.out.trans (HB0.out.mono HWB.out.size)).cell (p := ⟨bc, 0, none⟩) hlt).trans hc
  clear hW hc hlt
  go_enter Tryz.func38, Tryz.ntmps38
  go_wp2_with fail
  refine (HV.out _ _).mono ?_
  rintro e w1 ⟨rfl, hb1⟩
  have HB1 : Hid (Below W.heap.size W w1) := HB0.out.trans (hb1.mono HB0.out.size)
  have HK1 := Lib.hid (HK0.out.to hb1)
  clear hb1 HB0 HK0 HV y0
  have r0 := HK1.out.cell 0
  have r1 := HK1.out.cell 1
  have r2 := HK1.out.cell 2
  have r3 := HK1.out.cell 3
  have r4 := HK1.out.cell 4
  have r5 := HK1.out.cell 5
  have r6 := HK1.out.cell 6
  simp only [List.getElem?_toArray, List.getElem?_cons_zero, List.getElem?_cons_succ] at r0 r1 r2 r3 r4 r5 r6
  have z0 := HK1.out.frozen 0
  have z1 := HK1.out.frozen 1
  have z2 := HK1.out.frozen 2
  have z3 := HK1.out.frozen 3
  have z4 := HK1.out.frozen 4
  have z5 := HK1.out.frozen 5
  have z6 := HK1.out.frozen 6
  go_wp2_with fail
  refine bodyPost_ret (v := .tuple #[.agg #[.int .i64 1, .int .i64 (IntKind.i64.wrap (v + by_)), .string ⟨#[]⟩, .bool false, .slice none 0 0, .slice none 0 0, .slice none 0 0], .bool true]) (by rw [results_cell_tmp rfl]; go_simp; first | done | exact (IntWalk.i64_left _).symm | exact (IntKind.wrap_i64 _).symm) rfl ?_
  refine ⟨[.int .i64 1, .int .i64 (IntKind.i64.wrap (v + by_)), .string ⟨#[]⟩, .bool false, .slice none 0 0, .slice none 0 0, .slice none 0 0], .var (IntKind.i64.wrap (v + by_)), rfl, ?_, fun x hx => (by unfold renF at hx; cases hx; rfl), (((((((HB1.out.setCell (Nat.le_refl _) _).setCell (Nat.le_refl _) _).setCell (Nat.le_refl _) _).setCell (Nat.le_refl _) _).setCell (Nat.le_refl _) _).setCell (Nat.le_refl _) _).setCell (Nat.le_refl _) _)⟩
  exact TC.var _ (by rw [IntKind.wrap_i64]; exact ⟨by omega, by omega⟩) _

set_option maxRecDepth 100000 in
set_option maxHeartbeats 12800000 in
theorem rename_any {w : World} {t : Tm} {cs : List Value} (h : TC w t cs) (by_ : Int) (hby : i64ok by_) (W : World) (hW : Below w.heap.size w W) :
    Calls Tryz.prog 11 #[.agg cs.toArray, .int .i64 by_] W fun e W' => ∃ cx tx er, e = .returned (.tuple #[.agg cx.toArray, .int .i64 er]) ∧ TCP (fun b => b < w.heap.size ∨ W.heap.size ≤ b) W' tx cx ∧ RenameR t by_ tx er ∧ Below W.heap.size W W' := by
  have HC : Hid (∀ W', Below w.heap.size w W' → Calls Tryz.prog 25 #[.agg cs.toArray] W' fun e w' => e = .returned (.int .i64 t.check) ∧ Below W'.heap.size W' w') := fun W' hb => tmCheck_any h W' hb
  have HF : t.check = 0 → Hid (∀ W', Below w.heap.size w W' → Calls Tryz.prog 37 #[.agg cs.toArray] W' fun e w' => ∃ ov, e = .returned ov ∧ SlI w' ov (t.free []) ∧ Below W'.heap.size W' w') := fun hc W' hb => (free_any h (by have := (check_err0 hc).1; omega) W' hb).mono fun e w' q => by
    obtain ⟨ov, e1, q1, q2⟩ := q
    exact ⟨ov, e1, SlI.of q1, q2⟩
  have HRP : t.check = 0 → ¬ Far t by_ → Hid (∀ (bc : Nat) (W1 : World), Below w.heap.size w W1 → W1.cell? ⟨bc, 0, none⟩ = some (.int .i64 by_) → bc < W1.heap.size → Calls Tryz.prog 32 #[.agg cs.toArray, .func (.func 38) #[] #[.pointer (some ⟨bc, 0, none⟩)]] W1 fun e W' => ∃ cs', e = .returned (.agg cs'.toArray) ∧ TCF (W1.heap.size + 1) W' (t.repl fun v => some (.var (v + by_))) cs' ∧ Below W1.heap.size W1 W') := fun hc hf bc W1 hb1 hcell hlt => by
    have hr := replace_tm (w := W1) 38 bc (enters_of Tryz.func38 (by kernel_rfl) rfl) (renF t by_) (fun v x hx => renF_sm hx) (fun v W2 hb2 => rename1_any t by_ bc hcell hlt v W2 hb2) (h.to hb1) (h.sm (check_err0 hc).2) W1 (Below.refl _ _)
    rw [renF_repl hc hf] at hr
    exact hr
  have HLN : t.check = 0 → (t.free []).length ≤ 1000000 ∧ ∀ v, v ∈ t.free [] → 0 ≤ v ∧ v ≤ 1073741824 := fun hc => ⟨by have := free_len t []; have := (check_err0 hc).1; simp at *; omega, free_bd (check_err0 hc).2⟩
  have HR0 : Hid (t.check ≠ 0 → RenameR t by_ .zero t.check) := fun h => .bad h
  have HR1 : Hid (t.check = 0 → Far t by_ → RenameR t by_ .zero 1) := fun h h2 => .arg h h2
  have HR2 : Hid (t.check = 0 → ¬ Far t by_ → RenameR t by_ (t.repl fun v => some (.var (v + by_))) 0) := fun h h2 => .ok h h2
  have HFAR : Hid (Far t by_ ↔ by_ < 0 ∨ ∃ v, v ∈ t.free [] ∧ 1073741824 - by_ < v) := Iff.rfl
  obtain ⟨k, v0, s, ng, A1, n1, c1, B1, m1, d1, Xr, xl, xc, hcs⟩ := h.form
  subst hcs
  have HWB := Lib.hid hW
  have HBY : Hid (-9223372036854775808 ≤ by_ ∧ by_ ≤ 9223372036854775807) := hby
  generalize t.free [] = fs at *
  generalize t.check = tk at *
  generalize (t.repl fun v => some (.var (v + by_))) = tr at *
  generalize RenameR t by_ = RR at *
  generalize Far t by_ = FA at *
  clear h hW hby
  have HB0 : Hid (Below W.heap.size W (((W.alloc (.cells #[.int .i64 k, .int .i64 v0, .string s, .bool ng, .slice A1 n1 c1, .slice B1 m1 d1, .slice Xr xl xc] 27)).alloc (.cells #[.int .i64 by_] 3)).alloc (.cells #[.int .i64 0, .int .i64 0, .string ⟨#[]⟩, .bool false, .slice none 0 0, .slice none 0 0, .slice none 0 0] 27))) := (below_pair W _ _).alloc (by simp; omega) _
  have HKT : Hid (Blk (((W.alloc (.cells #[.int .i64 k, .int .i64 v0, .string s, .bool ng, .slice A1 n1 c1, .slice B1 m1 d1, .slice Xr xl xc] 27)).alloc (.cells #[.int .i64 by_] 3)).alloc (.cells #[.int .i64 0, .int .i64 0, .string ⟨#[]⟩, .bool false, .slice none 0 0, .slice none 0 0, .slice none 0 0] 27)) W.heap.size 27 #[.int .i64 k, .int .i64 v0, .string s, .bool ng, .slice A1 n1 c1, .slice B1 m1 d1, .slice Xr xl xc]) := ((Blk.new W _ _).alloc _).alloc _
  have HKB : Hid (Blk (((W.alloc (.cells #[.int .i64 k, .int .i64 v0, .string s, .bool ng, .slice A1 n1 c1, .slice B1 m1 d1, .slice Xr xl xc] 27)).alloc (.cells #[.int .i64 by_] 3)).alloc (.cells #[.int .i64 0, .int .i64 0, .string ⟨#[]⟩, .bool false, .slice none 0 0, .slice none 0 0, .slice none 0 0] 27)) (W.heap.size + 1) 3 #[.int .i64 by_]) := (blk_2nd W _ _).alloc _
  have HK0 : Hid (Blk (((W.alloc (.cells #[.int .i64 k, .int .i64 v0, .string s, .bool ng, .slice A1 n1 c1, .slice B1 m1 d1, .slice Xr xl xc] 27)).alloc (.cells #[.int .i64 by_] 3)).alloc (.cells #[.int .i64 0, .int .i64 0, .string ⟨#[]⟩, .bool false, .slice none 0 0, .slice none 0 0, .slice none 0 0] 27)) (W.heap.size + 2) 27 #[.int .i64 0, .int .i64 0, .string ⟨#[]⟩, .bool false, .slice none 0 0, .slice none 0 0, .slice none 0 0]) := by
    have h2 := blk_2nd (W.alloc (.cells #[.int .i64 k, .int .i64 v0, .string s, .bool ng, .slice A1 n1 c1, .slice B1 m1 d1, .slice Xr xl xc] 27)) (.cells #[.int .i64 by_] 3) (T := 27) #[.int .i64 0, .int .i64 0, .string ⟨#[]⟩, .bool false, .slice none 0 0, .slice none 0 0, .slice none 0 0]
    rw [show (W.alloc (.cells #[.int .i64 k, .int .i64 v0, .string s, .bool ng, .slice A1 n1 c1, .slice B1 m1 d1, .slice Xr xl xc] 27)).heap.size + 1 = W.heap.size + 2 by simp] at h2
    exact h2
  go_enter Tryz.func11, Tryz.ntmps11
  go_wp2_with fail
  refine (HC.out _ (by exact HWB.out.trans (HB0.out.mono HWB.out.size))).mono ?_
  rintro e w1 ⟨rfl, hb1⟩
  have HJ1 : Hid (Blk w1 W.heap.size 27 #[.int .i64 k, .int .i64 v0, .string s, .bool ng, .slice A1 n1 c1, .slice B1 m1 d1, .slice Xr xl xc] ∧ Blk w1 (W.heap.size + 1) 3 #[.int .i64 by_] ∧ Blk w1 (W.heap.size + 2) 27 #[.int .i64 0, .int .i64 0, .string ⟨#[]⟩, .bool false, .slice none 0 0, .slice none 0 0, .slice none 0 0] ∧ Below W.heap.size W w1) := ⟨HKT.out.to hb1, HKB.out.to hb1, HK0.out.to hb1, HB0.out.trans (hb1.mono HB0.out.size)⟩
  clear hb1 HB0 HKT HKB HK0 HC
  by_cases hk : tk = 0
  · subst hk
    have HFR := HF rfl
    have HLQ := Lib.hid (HLN rfl)
    clear HF HR0 HLN
    have HKB : Hid (Blk w1 (W.heap.size + 1) 3 #[.int .i64 by_]) := HJ1.out.2.1
    have yb := HKB.out.cell 0
    simp only [List.getElem?_toArray, List.getElem?_cons_zero] at yb
    by_cases hb0 : by_ < 0
    · have hbd : decide (by_ < 0) = true := by simp [hb0]
      have HARG := Lib.hid (HR1.out (by trivial) (HFAR.out.2 (.inl hb0)))
      clear HRP HR1 HR2 HFAR HKB
      have HKZ : Hid (Blk w1 (W.heap.size + 2) 27 #[.int .i64 0, .int .i64 0, .string ⟨#[]⟩, .bool false, .slice none 0 0, .slice none 0 0, .slice none 0 0]) := HJ1.out.2.2.1
      have r0 := HKZ.out.cell 0
      have r1 := HKZ.out.cell 1
      have r2 := HKZ.out.cell 2
      have r3 := HKZ.out.cell 3
      have r4 := HKZ.out.cell 4
      have r5 := HKZ.out.cell 5
      have r6 := HKZ.out.cell 6
      simp only [List.getElem?_toArray, List.getElem?_cons_zero, List.getElem?_cons_succ] at r0 r1 r2 r3 r4 r5 r6
      have z0 := HKZ.out.frozen 0
      have z1 := HKZ.out.frozen 1
      have z2 := HKZ.out.frozen 2
      have z3 := HKZ.out.frozen 3
      have z4 := HKZ.out.frozen 4
      have z5 := HKZ.out.frozen 5
      have z6 := HKZ.out.frozen 6
      go_wp2_with fail
      refine bodyPost_ret (v := .tuple #[.agg #[.int .i64 0, .int .i64 0, .string ⟨#[]⟩, .bool false, .slice none 0 0, .slice none 0 0, .slice none 0 0], .int .i64 1]) (by rw [results_cell_tmp rfl]; go_simp) rfl ?_
      exact ⟨[.int .i64 0, .int .i64 0, .string ⟨#[]⟩, .bool false, .slice none 0 0, .slice none 0 0, .slice none 0 0], .zero, 1, rfl, TCP.zero _ _, HARG.out, (((((((HJ1.out.2.2.2.setCell (Nat.le_add_right _ 2) _).setCell (Nat.le_add_right _ 2) _).setCell (Nat.le_add_right _ 2) _).setCell (Nat.le_add_right _ 2) _).setCell (Nat.le_add_right _ 2) _).setCell (Nat.le_add_right _ 2) _).setCell (Nat.le_add_right _ 2) _)⟩
    · have hbd : decide (by_ < 0) = false := by simp [hb0]
      have hby2 := HBY.out.2
      have HKT : Hid (Blk w1 W.heap.size 27 #[.int .i64 k, .int .i64 v0, .string s, .bool ng, .slice A1 n1 c1, .slice B1 m1 d1, .slice Xr xl xc]) := HJ1.out.1
      have y0 := HKT.out.cell 0
      have y1 := HKT.out.cell 1
      have y2 := HKT.out.cell 2
      have y3 := HKT.out.cell 3
      have y4 := HKT.out.cell 4
      have y5 := HKT.out.cell 5
      have y6 := HKT.out.cell 6
      simp only [List.getElem?_toArray, List.getElem?_cons_zero, List.getElem?_cons_succ] at y0 y1 y2 y3 y4 y5 y6
      go_wp2_with fail
      refine (HFR.out _ (by exact HWB.out.trans (HJ1.out.2.2.2.mono HWB.out.size))).mono ?_
      rintro e w5 ⟨ov, rfl, hsi, hb5⟩
      have HJ5 : Hid (Blk w5 W.heap.size 27 #[.int .i64 k, .int .i64 v0, .string s, .bool ng, .slice A1 n1 c1, .slice B1 m1 d1, .slice Xr xl xc] ∧ Blk w5 (W.heap.size + 1) 3 #[.int .i64 by_] ∧ Blk w5 (W.heap.size + 2) 27 #[.int .i64 0, .int .i64 0, .string ⟨#[]⟩, .bool false, .slice none 0 0, .slice none 0 0, .slice none 0 0] ∧ Below W.heap.size W w5) := ⟨HJ1.out.1.to hb5, HJ1.out.2.1.to hb5, HJ1.out.2.2.1.to hb5, HJ1.out.2.2.2.trans (hb5.mono HJ1.out.2.2.2.size)⟩
      obtain ⟨n, hl⟩ : ∃ n, fs.length = n := ⟨_, rfl⟩
      obtain ⟨Af, cf, hov, hsc⟩ := hsi
      rw [hl] at hov
      subst hov
      have HL := Lib.hid hl
      have HSC := Lib.hid hsc
      have hnb : n ≤ 1000000 := by rw [← hl]; exact HLQ.out.1
      clear hl hsc hb5 HKT HFR HJ1 y0 y1 y2 y3 y4 y5 y6
      clear yb HKB
      go_wp2_with fail
      go_loopg [21] n (fun gk s21 wr => ∃ (j : Nat), gk + j = n ∧ s21 = .int .i64 (j : Int) ∧ Hid (∀ q (hq : q < fs.length), q < j → ¬ 1073741824 - by_ < fs[q]) ∧ w5 = wr)
      case atStart => exact ⟨0, by omega, rfl, fun q _ h => absurd h (by omega), rfl⟩
      case round =>
        obtain ⟨j, hgj, rfl, HN, rfl⟩ := hrel
        by_cases hj : j < n
        · have hjf : j < fs.length := by rw [HL.out]; exact hj
          obtain ⟨ba, rfl, hca0⟩ := HSC.out (by omega)
          have hca := hca0 j hjf
          have hvb := HLQ.out.2 _ (List.getElem_mem hjf)
          have HKB : Hid (Blk w5 (W.heap.size + 1) 3 #[.int .i64 by_]) := HJ5.out.2.1
          have yb := HKB.out.cell 0
          simp only [List.getElem?_toArray, List.getElem?_cons_zero] at yb
          have HST : Hid (1073741824 - by_ < fs[j] → FA) := fun h => HFAR.out.2 (.inr ⟨_, List.getElem_mem hjf, h⟩)
          have HNX : Hid (¬ 1073741824 - by_ < fs[j] → ∀ q (hq : q < fs.length), q < j + 1 → ¬ 1073741824 - by_ < fs[q]) := fun h q hq hl => by
            by_cases e : q = j
            · subst e; exact h
            · exact HN.out q hq (by omega)
          clear hca0
          generalize fs[j] = fv at *
          clear HN hjf HKB
          by_cases hf : 1073741824 - by_ < fv
          · have hfd : decide (1073741824 - fv < by_) = true := by simp; omega
            have HARG := Lib.hid (HR1.out (by trivial) (HST.out hf))
            clear HRP HR1 HR2 HFAR HST HNX hf
            have HKZ : Hid (Blk w5 (W.heap.size + 2) 27 #[.int .i64 0, .int .i64 0, .string ⟨#[]⟩, .bool false, .slice none 0 0, .slice none 0 0, .slice none 0 0]) := HJ5.out.2.2.1
            have r0 := HKZ.out.cell 0
            have r1 := HKZ.out.cell 1
            have r2 := HKZ.out.cell 2
            have r3 := HKZ.out.cell 3
            have r4 := HKZ.out.cell 4
            have r5 := HKZ.out.cell 5
            have r6 := HKZ.out.cell 6
            simp only [List.getElem?_toArray, List.getElem?_cons_zero, List.getElem?_cons_succ] at r0 r1 r2 r3 r4 r5 r6
            have z0 := HKZ.out.frozen 0
            have z1 := HKZ.out.frozen 1
            have z2 := HKZ.out.frozen 2
            have z3 := HKZ.out.frozen 3
            have z4 := HKZ.out.frozen 4
            have z5 := HKZ.out.frozen 5
            have z6 := HKZ.out.frozen 6
            go_wp2_with fail
            refine bodyPost_ret (v := .tuple #[.agg #[.int .i64 0, .int .i64 0, .string ⟨#[]⟩, .bool false, .slice none 0 0, .slice none 0 0, .slice none 0 0], .int .i64 1]) (by rw [results_cell_tmp rfl]; go_simp) rfl ?_
            exact ⟨[.int .i64 0, .int .i64 0, .string ⟨#[]⟩, .bool false, .slice none 0 0, .slice none 0 0, .slice none 0 0], .zero, 1, rfl, TCP.zero _ _, HARG.out, (((((((HJ5.out.2.2.2.setCell (Nat.le_add_right _ 2) _).setCell (Nat.le_add_right _ 2) _).setCell (Nat.le_add_right _ 2) _).setCell (Nat.le_add_right _ 2) _).setCell (Nat.le_add_right _ 2) _).setCell (Nat.le_add_right _ 2) _).setCell (Nat.le_add_right _ 2) _)⟩
          · have hfd : decide (1073741824 - fv < by_) = false := by simp; omega
            have HNX2 := Lib.hid (HNX.out hf)
            clear HST HNX hf
            go_wp2_with fail
            go_roundg (gk - 1)
            case measure => omega
            case rel => exact ⟨j + 1, by omega, by go_num, HNX2.out, rfl⟩
        · obtain rfl : n = j := by omega
          have HNF : Hid (¬ FA) := fun h => by
            rcases HFAR.out.1 h with h | ⟨v, hv, h⟩
            · omega
            · obtain ⟨q, hq, rfl⟩ := List.getElem_of_mem hv
              exact HN.out q hq (by rw [← HL.out]; exact hq) h
          clear HN HFAR
          have HRPL := HRP (by trivial) HNF.out
          have HRS := Lib.hid (HR2.out (by trivial) HNF.out)
          have HKT : Hid (Blk w5 W.heap.size 27 #[.int .i64 k, .int .i64 v0, .string s, .bool ng, .slice A1 n1 c1, .slice B1 m1 d1, .slice Xr xl xc]) := HJ5.out.1
          clear HRP HR1 HR2 HNF
          have y0 := HKT.out.cell 0
          have y1 := HKT.out.cell 1
          have y2 := HKT.out.cell 2
          have y3 := HKT.out.cell 3
          have y4 := HKT.out.cell 4
          have y5 := HKT.out.cell 5
          have y6 := HKT.out.cell 6
          simp only [List.getElem?_toArray, List.getElem?_cons_zero, List.getElem?_cons_succ] at y0 y1 y2 y3 y4 y5 y6
          go_wp2_with fail
          have cb6 := HJ5.out.2.1.cell 0
          refine (HRPL.out _ w5 (by exact HWB.out.trans (HJ5.out.2.2.2.mono HWB.out.size)) (by exact cb6) (by exact HJ5.out.2.1.lt)).mono ?_
          rintro e w8 ⟨cx8, rfl, ht8, hb8⟩
          obtain ⟨k8, v8, st8, ng8, A8, n8, c8, B8, m8, d8, X8, l8, e8, hf8⟩ := ht8.tc.form
          subst hf8
          have HB8 : Hid (Below W.heap.size W w8) := HJ5.out.2.2.2.trans (hb8.mono HJ5.out.2.2.2.size)
          have HK8 := Lib.hid (HJ5.out.2.2.1.to hb8)
          have HT8 := Lib.hid ht8
          have HLT := Lib.hid HJ5.out.2.2.1.lt
          clear hb8 ht8 HJ5 HKT HRPL cb6 y0 y1 y2 y3 y4 y5 y6
          have r0 := HK8.out.cell 0
          have r1 := HK8.out.cell 1
          have r2 := HK8.out.cell 2
          have r3 := HK8.out.cell 3
          have r4 := HK8.out.cell 4
          have r5 := HK8.out.cell 5
          have r6 := HK8.out.cell 6
          simp only [List.getElem?_toArray, List.getElem?_cons_zero, List.getElem?_cons_succ] at r0 r1 r2 r3 r4 r5 r6
          have z0 := HK8.out.frozen 0
          have z1 := HK8.out.frozen 1
          have z2 := HK8.out.frozen 2
          have z3 := HK8.out.frozen 3
          have z4 := HK8.out.frozen 4
          have z5 := HK8.out.frozen 5
          have z6 := HK8.out.frozen 6
          go_wp2_with fail
          refine bodyPost_ret (v := .tuple #[.agg #[.int .i64 k8, .int .i64 v8, .string st8, .bool ng8, .slice A8 n8 c8, .slice B8 m8 d8, .slice X8 l8 e8], .int .i64 0]) (by rw [results_cell_tmp rfl]; go_simp) rfl ?_
          refine ⟨[.int .i64 k8, .int .i64 v8, .string st8, .bool ng8, .slice A8 n8 c8, .slice B8 m8 d8, .slice X8 l8 e8], tr, 0, rfl, ((TCP.of_tcf HT8.out).to (by simp) fun b hb _ => ?_).mono fun b hb _ => Or.inr ?_, HRS.out, (((((((HB8.out.setCell (Nat.le_add_right _ 2) _).setCell (Nat.le_add_right _ 2) _).setCell (Nat.le_add_right _ 2) _).setCell (Nat.le_add_right _ 2) _).setCell (Nat.le_add_right _ 2) _).setCell (Nat.le_add_right _ 2) _).setCell (Nat.le_add_right _ 2) _)⟩
          · have hb : w5.heap.size + 1 ≤ b := hb
            have hbr : b ≠ W.heap.size + 2 := by have := HLT.out; omega
            repeat rw [Below.heap_setCell _ _ _ b hbr]
          · have hb : w5.heap.size + 1 ≤ b := hb
            have := HLT.out; omega
  · have HBAD := Lib.hid (HR0.out hk)
    have hkb : (tk == 0) = false := beq_eq_false_iff_ne.2 hk
    clear HF HRP HR0 HR1 HR2 HLN hk
    have HKZ : Hid (Blk w1 (W.heap.size + 2) 27 #[.int .i64 0, .int .i64 0, .string ⟨#[]⟩, .bool false, .slice none 0 0, .slice none 0 0, .slice none 0 0]) := HJ1.out.2.2.1
    have r0 := HKZ.out.cell 0
    have r1 := HKZ.out.cell 1
    have r2 := HKZ.out.cell 2
    have r3 := HKZ.out.cell 3
    have r4 := HKZ.out.cell 4
    have r5 := HKZ.out.cell 5
    have r6 := HKZ.out.cell 6
    simp only [List.getElem?_toArray, List.getElem?_cons_zero, List.getElem?_cons_succ] at r0 r1 r2 r3 r4 r5 r6
    have z0 := HKZ.out.frozen 0
    have z1 := HKZ.out.frozen 1
    have z2 := HKZ.out.frozen 2
    have z3 := HKZ.out.frozen 3
    have z4 := HKZ.out.frozen 4
    have z5 := HKZ.out.frozen 5
    have z6 := HKZ.out.frozen 6
    go_wp2_with fail
    refine bodyPost_ret (v := .tuple #[.agg #[.int .i64 0, .int .i64 0, .string ⟨#[]⟩, .bool false, .slice none 0 0, .slice none 0 0, .slice none 0 0], .int .i64 tk]) (by rw [results_cell_tmp rfl]; go_simp) rfl ?_
    exact ⟨[.int .i64 0, .int .i64 0, .string ⟨#[]⟩, .bool false, .slice none 0 0, .slice none 0 0, .slice none 0 0], .zero, tk, rfl, TCP.zero _ _, HBAD.out, (((((((HJ1.out.2.2.2.setCell (Nat.le_add_right _ 2) _).setCell (Nat.le_add_right _ 2) _).setCell (Nat.le_add_right _ 2) _).setCell (Nat.le_add_right _ 2) _).setCell (Nat.le_add_right _ 2) _).setCell (Nat.le_add_right _ 2) _).setCell (Nat.le_add_right _ 2) _)⟩

set_option maxRecDepth 100000 in
set_option maxHeartbeats 12800000 in
theorem rrename_any {w : World} {t : Tm} {cs : List Value} (h : TC w t cs) (by_ : Int) (hby : i64ok by_) (W : World) (hW : Below w.heap.size w W) :
    Calls Tryz.prog 12 #[.agg cs.toArray, .int .i64 by_] W fun e W' => ∃ cx tx er, e = .returned (.tuple #[.agg cx.toArray, .int .i64 er]) ∧ TCP (fun b => b < w.heap.size ∨ W.heap.size ≤ b) W' tx cx ∧ RenameR t by_ tx er ∧ Below W.heap.size W W' := by
  have HC : Hid (∀ W', Below w.heap.size w W' → Calls Tryz.prog 33 #[.agg cs.toArray] W' fun e w' => e = .returned (.int .i64 t.check) ∧ Below W'.heap.size W' w') := fun W' hb => tmFault_any h W' hb
  have HF : t.check = 0 → Hid (∀ W', Below w.heap.size w W' → Calls Tryz.prog 40 #[.agg cs.toArray] W' fun e w' => ∃ ov, e = .returned ov ∧ SlI w' ov (t.free []) ∧ Below W'.heap.size W' w') := fun hc W' hb => (rfree_any h (by have := (check_err0 hc).1; omega) W' hb).mono fun e w' q => by
    obtain ⟨ov, e1, q1, q2⟩ := q
    exact ⟨ov, e1, SlI.of q1, q2⟩
  have HRP : t.check = 0 → ¬ Far t by_ → Hid (∀ W', Below w.heap.size w W' → Calls Tryz.prog 41 #[.agg cs.toArray, .int .i64 by_] W' fun e w' => ∃ cx, e = .returned (.agg cx.toArray) ∧ TCP (fun b => b < w.heap.size ∨ W'.heap.size ≤ b) w' (t.repl fun v => some (.var (v + by_))) cx ∧ Below W'.heap.size W' w') := fun hc hf W' hb' => shifted_any by_ h (check_err0 hc).2 (far_allV hc hf) W' hb'
  have HLN : t.check = 0 → (t.free []).length ≤ 1000000 ∧ ∀ v, v ∈ t.free [] → 0 ≤ v ∧ v ≤ 1073741824 := fun hc => ⟨by have := free_len t []; have := (check_err0 hc).1; simp at *; omega, free_bd (check_err0 hc).2⟩
  have HR0 : Hid (t.check ≠ 0 → RenameR t by_ .zero t.check) := fun h => .bad h
  have HR1 : Hid (t.check = 0 → Far t by_ → RenameR t by_ .zero 1) := fun h h2 => .arg h h2
  have HR2 : Hid (t.check = 0 → ¬ Far t by_ → RenameR t by_ (t.repl fun v => some (.var (v + by_))) 0) := fun h h2 => .ok h h2
  have HFAR : Hid (Far t by_ ↔ by_ < 0 ∨ ∃ v, v ∈ t.free [] ∧ 1073741824 - by_ < v) := Iff.rfl
  obtain ⟨k, v0, s, ng, A1, n1, c1, B1, m1, d1, Xr, xl, xc, hcs⟩ := h.form
  subst hcs
  have HWB := Lib.hid hW
  have HBY : Hid (-9223372036854775808 ≤ by_ ∧ by_ ≤ 9223372036854775807) := hby
  generalize t.free [] = fs at *
  generalize t.check = tk at *
  generalize (t.repl fun v => some (.var (v + by_))) = tr at *
  generalize RenameR t by_ = RR at *
  generalize Far t by_ = FA at *
  clear h hW hby
  have HB0 : Hid (Below W.heap.size W ((W.alloc (.cells #[.int .i64 k, .int .i64 v0, .string s, .bool ng, .slice A1 n1 c1, .slice B1 m1 d1, .slice Xr xl xc] 27)).alloc (.cells #[.int .i64 0, .int .i64 0, .string ⟨#[]⟩, .bool false, .slice none 0 0, .slice none 0 0, .slice none 0 0] 27))) := below_pair W _ _
  have HKT : Hid (Blk ((W.alloc (.cells #[.int .i64 k, .int .i64 v0, .string s, .bool ng, .slice A1 n1 c1, .slice B1 m1 d1, .slice Xr xl xc] 27)).alloc (.cells #[.int .i64 0, .int .i64 0, .string ⟨#[]⟩, .bool false, .slice none 0 0, .slice none 0 0, .slice none 0 0] 27)) W.heap.size 27 #[.int .i64 k, .int .i64 v0, .string s, .bool ng, .slice A1 n1 c1, .slice B1 m1 d1, .slice Xr xl xc]) := (Blk.new W _ _).alloc _
  have HK0 : Hid (Blk ((W.alloc (.cells #[.int .i64 k, .int .i64 v0, .string s, .bool ng, .slice A1 n1 c1, .slice B1 m1 d1, .slice Xr xl xc] 27)).alloc (.cells #[.int .i64 0, .int .i64 0, .string ⟨#[]⟩, .bool false, .slice none 0 0, .slice none 0 0, .slice none 0 0] 27)) (W.heap.size + 1) 27 #[.int .i64 0, .int .i64 0, .string ⟨#[]⟩, .bool false, .slice none 0 0, .slice none 0 0, .slice none 0 0]) := blk_2nd W _ _
  go_enter Tryz.func12, Tryz.ntmps12
  go_wp2_with fail
  refine (HC.out _ (by exact HWB.out.trans (HB0.out.mono HWB.out.size))).mono ?_
  rintro e w1 ⟨rfl, hb1⟩
  have HJ1 : Hid (Blk w1 W.heap.size 27 #[.int .i64 k, .int .i64 v0, .string s, .bool ng, .slice A1 n1 c1, .slice B1 m1 d1, .slice Xr xl xc] ∧ Blk w1 (W.heap.size + 1) 27 #[.int .i64 0, .int .i64 0, .string ⟨#[]⟩, .bool false, .slice none 0 0, .slice none 0 0, .slice none 0 0] ∧ Below W.heap.size W w1) := ⟨HKT.out.to hb1, HK0.out.to hb1, HB0.out.trans (hb1.mono HB0.out.size)⟩
  clear hb1 HB0 HKT HK0 HC
  by_cases hk : tk = 0
  · subst hk
    have HFR := HF rfl
    have HLQ := Lib.hid (HLN rfl)
    clear HF HR0 HLN
    have HKT : Hid (Blk w1 W.heap.size 27 #[.int .i64 k, .int .i64 v0, .string s, .bool ng, .slice A1 n1 c1, .slice B1 m1 d1, .slice Xr xl xc]) := HJ1.out.1
    obtain ⟨neg, hneg⟩ : ∃ b, decide (by_ < 0) = b := ⟨_, rfl⟩
    have y0 := HKT.out.cell 0
    have y1 := HKT.out.cell 1
    have y2 := HKT.out.cell 2
    have y3 := HKT.out.cell 3
    have y4 := HKT.out.cell 4
    have y5 := HKT.out.cell 5
    have y6 := HKT.out.cell 6
    simp only [List.getElem?_toArray, List.getElem?_cons_zero, List.getElem?_cons_succ] at y0 y1 y2 y3 y4 y5 y6
    go_wp2_with fail
    refine (HFR.out _ (by exact HWB.out.trans (HJ1.out.2.2.mono HWB.out.size))).mono ?_
    rintro e w5 ⟨ov, rfl, hsi, hb5⟩
    have HJ5 : Hid (Blk w5 W.heap.size 27 #[.int .i64 k, .int .i64 v0, .string s, .bool ng, .slice A1 n1 c1, .slice B1 m1 d1, .slice Xr xl xc] ∧ Blk w5 (W.heap.size + 1) 27 #[.int .i64 0, .int .i64 0, .string ⟨#[]⟩, .bool false, .slice none 0 0, .slice none 0 0, .slice none 0 0] ∧ Below W.heap.size W w5) := ⟨HJ1.out.1.to hb5, HJ1.out.2.1.to hb5, HJ1.out.2.2.trans (hb5.mono HJ1.out.2.2.size)⟩
    obtain ⟨n, hl⟩ : ∃ n, fs.length = n := ⟨_, rfl⟩
    obtain ⟨Af, cf, hov, hsc⟩ := hsi
    rw [hl] at hov
    subst hov
    have HL := Lib.hid hl
    have HSC := Lib.hid hsc
    have hnb : n ≤ 1000000 := by rw [← hl]; exact HLQ.out.1
    clear hl hsc hb5 HKT HFR HJ1 y0 y1 y2 y3 y4 y5 y6
    go_wp2_with fail
    go_loopg [7, 21] n (fun gk s7 s21 wr => ∃ (j : Nat) (bd : Bool), gk + j = n ∧ s21 = .int .i64 (j : Int) ∧ s7 = .bool bd ∧ Hid (bd = true ↔ (by_ < 0 ∨ ∃ q, ∃ hq : q < fs.length, q < j ∧ 1073741824 - by_ < fs[q])) ∧ w5 = wr)
    case atStart => exact ⟨0, neg, by omega, rfl, rfl, ⟨fun h => .inl (by rw [h] at hneg; exact of_decide_eq_true hneg), fun h => h.elim (fun h => by rw [← hneg]; exact decide_eq_true h) fun ⟨q, _, h, _⟩ => absurd h (by omega)⟩, rfl⟩
    case round =>
      clear hneg
      obtain ⟨j, bd, hgj, rfl, rfl, HBD, rfl⟩ := hrel
      by_cases hj : j < n
      · have hjf : j < fs.length := by rw [HL.out]; exact hj
        obtain ⟨ba, rfl, hca0⟩ := HSC.out (by omega)
        have hca := hca0 j hjf
        have hvb := HLQ.out.2 _ (List.getElem_mem hjf)
        have HNX : Hid ((bd = true ∨ 1073741824 - by_ < fs[j]) ↔ (by_ < 0 ∨ ∃ q, ∃ hq : q < fs.length, q < j + 1 ∧ 1073741824 - by_ < fs[q])) := by
          constructor
          · rintro (h | h)
            · rcases HBD.out.1 h with h | ⟨q, hq, h1, h2⟩
              · exact .inl h
              · exact .inr ⟨q, hq, by omega, h2⟩
            · exact .inr ⟨j, hjf, by omega, h⟩
          · rintro (h | ⟨q, hq, h1, h2⟩)
            · exact .inl (HBD.out.2 (.inl h))
            · by_cases e : q = j
              · subst e; exact .inr h2
              · exact .inl (HBD.out.2 (.inr ⟨q, hq, by omega, h2⟩))
        have HBP : Hid (bd = false → 0 ≤ by_) := fun h => by
          by_cases h0 : by_ < 0
          · have := HBD.out.2 (.inl h0); rw [h] at this; cases this
          · omega
        clear hca0
        generalize fs[j] = fv at *
        clear HBD hjf
        cases bd with
        | true =>
          have HN2 : Hid (true = true ↔ (by_ < 0 ∨ ∃ q, ∃ hq : q < fs.length, q < j + 1 ∧ 1073741824 - by_ < fs[q])) := ⟨fun _ => HNX.out.1 (.inl rfl), fun _ => rfl⟩
          clear HNX HBP
          go_wp2_with fail
          go_roundg (gk - 1)
          case measure => omega
          case rel => exact ⟨j + 1, true, by omega, by go_num, rfl, (by have h := HN2.out; first | exact h | exact ⟨fun _ => h.1 trivial, fun _ => rfl⟩), rfl⟩
        | false =>
          have hb0 := HBP.out rfl
          have hby2 := HBY.out.2
          have HN2 : Hid (decide (1073741824 - by_ < fv) = true ↔ (by_ < 0 ∨ ∃ q, ∃ hq : q < fs.length, q < j + 1 ∧ 1073741824 - by_ < fs[q])) := ⟨fun h => HNX.out.1 (.inr (of_decide_eq_true h)), fun h => by
            rcases HNX.out.2 h with h | h
            · cases h
            · exact decide_eq_true h⟩
          clear HNX HBP
          go_wp2_with fail
          go_roundg (gk - 1)
          case measure => omega
          case rel => exact ⟨j + 1, decide (1073741824 - by_ < fv), by omega, by go_num, rfl, HN2.out, rfl⟩
      · obtain rfl : n = j := by omega
        cases bd with
        | true =>
          have HARG := Lib.hid (HR1.out (by trivial) (HFAR.out.2 (by
            rcases HBD.out.1 rfl with h | ⟨q, hq, _, h⟩
            · exact .inl h
            · exact .inr ⟨_, List.getElem_mem hq, h⟩)))
          clear HRP HR1 HR2 HFAR HBD
          have HKZ : Hid (Blk w5 (W.heap.size + 1) 27 #[.int .i64 0, .int .i64 0, .string ⟨#[]⟩, .bool false, .slice none 0 0, .slice none 0 0, .slice none 0 0]) := HJ5.out.2.1
          have r0 := HKZ.out.cell 0
          have r1 := HKZ.out.cell 1
          have r2 := HKZ.out.cell 2
          have r3 := HKZ.out.cell 3
          have r4 := HKZ.out.cell 4
          have r5 := HKZ.out.cell 5
          have r6 := HKZ.out.cell 6
          simp only [List.getElem?_toArray, List.getElem?_cons_zero, List.getElem?_cons_succ] at r0 r1 r2 r3 r4 r5 r6
          have z0 := HKZ.out.frozen 0
          have z1 := HKZ.out.frozen 1
          have z2 := HKZ.out.frozen 2
          have z3 := HKZ.out.frozen 3
          have z4 := HKZ.out.frozen 4
          have z5 := HKZ.out.frozen 5
          have z6 := HKZ.out.frozen 6
          go_wp2_with fail
          refine bodyPost_ret (v := .tuple #[.agg #[.int .i64 0, .int .i64 0, .string ⟨#[]⟩, .bool false, .slice none 0 0, .slice none 0 0, .slice none 0 0], .int .i64 1]) (by rw [results_cell_tmp rfl]; go_simp) rfl ?_
          exact ⟨[.int .i64 0, .int .i64 0, .string ⟨#[]⟩, .bool false, .slice none 0 0, .slice none 0 0, .slice none 0 0], .zero, 1, rfl, TCP.zero _ _, HARG.out, (((((((HJ5.out.2.2.setCell (Nat.le_succ _) _).setCell (Nat.le_succ _) _).setCell (Nat.le_succ _) _).setCell (Nat.le_succ _) _).setCell (Nat.le_succ _) _).setCell (Nat.le_succ _) _).setCell (Nat.le_succ _) _)⟩
        | false =>
          have HNF : Hid (¬ FA) := fun h => by
            have : (false = true) := HBD.out.2 (by
              rcases HFAR.out.1 h with h | ⟨v, hv, h⟩
              · exact .inl h
              · obtain ⟨q, hq, rfl⟩ := List.getElem_of_mem hv
                exact .inr ⟨q, hq, by rw [← HL.out]; exact hq, h⟩)
            cases this
          clear HBD HFAR
          have HRPL := HRP (by trivial) HNF.out
          have HRS := Lib.hid (HR2.out (by trivial) HNF.out)
          have HKT : Hid (Blk w5 W.heap.size 27 #[.int .i64 k, .int .i64 v0, .string s, .bool ng, .slice A1 n1 c1, .slice B1 m1 d1, .slice Xr xl xc]) := HJ5.out.1
          clear HRP HR1 HR2 HNF
          have y0 := HKT.out.cell 0
          have y1 := HKT.out.cell 1
          have y2 := HKT.out.cell 2
          have y3 := HKT.out.cell 3
          have y4 := HKT.out.cell 4
          have y5 := HKT.out.cell 5
          have y6 := HKT.out.cell 6
          simp only [List.getElem?_toArray, List.getElem?_cons_zero, List.getElem?_cons_succ] at y0 y1 y2 y3 y4 y5 y6
          go_wp2_with fail
          refine (HRPL.out w5 (by exact HWB.out.trans (HJ5.out.2.2.mono HWB.out.size))).mono ?_
          rintro e w8 ⟨cx8, rfl, ht8, hb8⟩
          obtain ⟨k8, v8, st8, ng8, A8, n8, c8, B8, m8, d8, X8, l8, e8, hf8⟩ := ht8.form
          subst hf8
          have HB8 : Hid (Below W.heap.size W w8) := HJ5.out.2.2.trans (hb8.mono HJ5.out.2.2.size)
          have HK8 := Lib.hid (HJ5.out.2.1.to hb8)
          have HT8 := Lib.hid ht8
          have HLT := Lib.hid HJ5.out.2.1.lt
          clear hb8 ht8 HJ5 HKT HRPL y0 y1 y2 y3 y4 y5 y6
          have r0 := HK8.out.cell 0
          have r1 := HK8.out.cell 1
          have r2 := HK8.out.cell 2
          have r3 := HK8.out.cell 3
          have r4 := HK8.out.cell 4
          have r5 := HK8.out.cell 5
          have r6 := HK8.out.cell 6
          simp only [List.getElem?_toArray, List.getElem?_cons_zero, List.getElem?_cons_succ] at r0 r1 r2 r3 r4 r5 r6
          have z0 := HK8.out.frozen 0
          have z1 := HK8.out.frozen 1
          have z2 := HK8.out.frozen 2
          have z3 := HK8.out.frozen 3
          have z4 := HK8.out.frozen 4
          have z5 := HK8.out.frozen 5
          have z6 := HK8.out.frozen 6
          go_wp2_with fail
          refine bodyPost_ret (v := .tuple #[.agg #[.int .i64 k8, .int .i64 v8, .string st8, .bool ng8, .slice A8 n8 c8, .slice B8 m8 d8, .slice X8 l8 e8], .int .i64 0]) (by rw [results_cell_tmp rfl]; go_simp) rfl ?_
          refine ⟨[.int .i64 k8, .int .i64 v8, .string st8, .bool ng8, .slice A8 n8 c8, .slice B8 m8 d8, .slice X8 l8 e8], tr, 0, rfl, (HT8.out.to (by simp) fun b hb _ => ?_).mono fun b hb _ => ?_, HRS.out, (((((((HB8.out.setCell (Nat.le_succ _) _).setCell (Nat.le_succ _) _).setCell (Nat.le_succ _) _).setCell (Nat.le_succ _) _).setCell (Nat.le_succ _) _).setCell (Nat.le_succ _) _).setCell (Nat.le_succ _) _)⟩
          · have hbr : b ≠ W.heap.size + 1 := by have := HLT.out; have := HWB.out.size; rcases hb with hb | hb <;> omega
            repeat rw [Below.heap_setCell _ _ _ b hbr]
          · have := HLT.out
            rcases hb with hb | hb
            · exact .inl hb
            · exact .inr (by omega)
  · have HBAD := Lib.hid (HR0.out hk)
    have hkb : (tk == 0) = false := beq_eq_false_iff_ne.2 hk
    clear HF HRP HR0 HR1 HR2 HLN hk
    have HKZ : Hid (Blk w1 (W.heap.size + 1) 27 #[.int .i64 0, .int .i64 0, .string ⟨#[]⟩, .bool false, .slice none 0 0, .slice none 0 0, .slice none 0 0]) := HJ1.out.2.1
    have r0 := HKZ.out.cell 0
    have r1 := HKZ.out.cell 1
    have r2 := HKZ.out.cell 2
    have r3 := HKZ.out.cell 3
    have r4 := HKZ.out.cell 4
    have r5 := HKZ.out.cell 5
    have r6 := HKZ.out.cell 6
    simp only [List.getElem?_toArray, List.getElem?_cons_zero, List.getElem?_cons_succ] at r0 r1 r2 r3 r4 r5 r6
    have z0 := HKZ.out.frozen 0
    have z1 := HKZ.out.frozen 1
    have z2 := HKZ.out.frozen 2
    have z3 := HKZ.out.frozen 3
    have z4 := HKZ.out.frozen 4
    have z5 := HKZ.out.frozen 5
    have z6 := HKZ.out.frozen 6
    go_wp2_with fail
    refine bodyPost_ret (v := .tuple #[.agg #[.int .i64 0, .int .i64 0, .string ⟨#[]⟩, .bool false, .slice none 0 0, .slice none 0 0, .slice none 0 0], .int .i64 tk]) (by rw [results_cell_tmp rfl]; go_simp) rfl ?_
    exact ⟨[.int .i64 0, .int .i64 0, .string ⟨#[]⟩, .bool false, .slice none 0 0, .slice none 0 0, .slice none 0 0], .zero, tk, rfl, TCP.zero _ _, HBAD.out, (((((((HJ1.out.2.2.setCell (Nat.le_succ _) _).setCell (Nat.le_succ _) _).setCell (Nat.le_succ _) _).setCell (Nat.le_succ _) _).setCell (Nat.le_succ _) _).setCell (Nat.le_succ _) _).setCell (Nat.le_succ _) _)⟩
end Go.Proofs.YtkfnpcilanheiaaGreat

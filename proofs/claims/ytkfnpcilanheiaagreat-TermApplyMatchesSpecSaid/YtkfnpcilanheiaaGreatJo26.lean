/-  -/
import Derived.Test.YtkfnpcilanheiaaGreatJo25
set_option linter.unusedVariables false
set_option linter.unusedSimpArgs false
/- The reference's Replaced and Shifted: variables replaced, the rest shared. -/
namespace Go.Proofs.YtkfnpcilanheiaaGreat
open Go.RowKit NumB
set_option linter.unusedVariables false
set_option linter.unusedSimpArgs false

theorem allVL_get {P : Int → Prop} {l : List Tm} (h : allVL P l) {j : Nat} (hj : j < l.length) : (l[j]).allV P := by
  induction l generalizing j with
  | nil => cases hj
  | cons t l ih =>
    rw [allVL] at h
    cases j with
    | zero => exact h.1
    | succ j => exact ih h.2 (by simpa using hj)
theorem grow_tcp2 {R : Nat → Prop} {g : Nat} {u : Value} {w w' : World} {t : Tm} {cs : List Value} (h : TCP (fun b => R b ∧ some b ≠ u.ownBlock) w t cs) (hg : w.grownBy w' u.ownBlock) (hat : u.ownBlock = some g ∨ g = w.heap.size) : TCP (fun b => R b ∧ some b ≠ some g) w' t cs := by
  have h1 : TCP (fun b => (R b ∧ some b ≠ u.ownBlock) ∧ some b ≠ some g) w t cs := h.mono fun b hb hlt => ⟨hb, by
    rcases hat with e | e
    · rw [← e]; exact hb.2
    · intro e2; simp at e2; omega⟩
  exact (h1.to hg.size fun b hb hlt => hg.block b hlt hb.1.2).mono fun b hb _ => ⟨hb.1.1, hb.2⟩
/-- A row of elements, opened. -/
theorem rows_done {P : Nat → Prop} {w : World} {B n : Nat} {ov : Value} {xs : List Value} {ts : List Tm} {vals : Nat → List Value} (hr : w.ownsRow B 27 7 ov n xs) (hl : ts.length = n) (hx : ∀ i, i < n → ∀ q, q < 7 → xs[i * 7 + q]? = (vals i)[q]?) (ht : ∀ i (h : i < ts.length), TCP P w ts[i] (vals i)) :
    ∃ (Ar : Option Addr) (cap : Nat) (vals : Nat → List Value), ov = .slice Ar ts.length cap ∧ ts.length ≤ cap ∧ cap ≤ maxLen ∧ (0 < ts.length → ∃ g, Ar = some ⟨g, 0, none⟩ ∧ B ≤ g ∧ g < w.heap.size ∧ ∀ i, i < ts.length → ∀ j, j < 7 → w.cell? ⟨g, i * 7 + j, none⟩ = (vals i)[j]?) ∧ ∀ i (h : i < ts.length), TCP P w ts[i] (vals i) := by
  obtain ⟨h1, h2 | ⟨g, cap, cur, e, h3, h4, h5⟩⟩ := hr
  · obtain ⟨rfl, e⟩ := h2
    subst e
    obtain rfl : ts = [] := by cases ts with
      | nil => rfl
      | cons x l => simp at hl
    exact ⟨none, 0, fun _ => [], rfl, Nat.le_refl _, by unfold maxLen; omega, fun h => absurd h (by simp), fun i h => absurd h (by simp)⟩
  · subst e
    have hr : w.ownsRow B 27 7 (.slice (some ⟨g, 0, none⟩) n cap) n xs := ⟨h1, .inr ⟨g, cap, cur, rfl, h3, h4, h5⟩⟩
    have hlt := Go.World.ownsRow.lt hr g rfl
    refine ⟨some ⟨g, 0, none⟩, cap, vals, by rw [hl], ?_, ?_, fun h0 => ⟨g, rfl, hlt.1, hlt.2, fun i hi j hj => ?_⟩, ht⟩
    · rw [hl]; exact h5.1
    · exact h5.2.1
    · rw [← hx i (by omega) j hj]
      exact hr.cellAt (i * 7 + j) (by omega)

set_option maxRecDepth 100000 in
set_option maxHeartbeats 12800000 in
theorem replaced_any {w : World} {bs : List (Int × Tm)} {bv : Value} (hb0 : BL w bv bs) {t : Tm} {cs : List Value} (h : TC w t cs) : t.err0 = 0 → t.allV (fun _ => True) → ∀ (W : World), Below w.heap.size w W →
    Calls Tryz.prog 35 #[.agg cs.toArray, bv] W fun e W' => ∃ cx, e = .returned (.agg cx.toArray) ∧ TCP (fun b => b < w.heap.size ∨ W.heap.size ≤ b) W' (t.repl (fun v => some ((fnd bs v).getD (.var v)))) cx ∧ Below W.heap.size W W' := by
  induction h with
  | mk k v s n args A B Ar cap cs hk hv hs hA hB hn hcap hm hr ha ih =>
    intro he hall W hW
    rw [Tm.allV] at hall
    obtain ⟨hnd, hea⟩ := err0_node he
    have hlb : args.length ≤ 32 := by
      rcases node_parts hnd with ⟨_, _, _, _, h5⟩ | ⟨_, _, _, _, h6⟩
      · omega
      · rcases h6 with h6 | h6 | h6 | h6 <;> omega
    have HALL := Lib.hid hall.1
    obtain ⟨rs, hrs⟩ : ∃ rs, replL (fun v => some ((fnd bs v).getD (.var v))) args = rs := ⟨_, rfl⟩
    have hrl : rs.length = args.length := by rw [← hrs]; exact replL_len (fun v => some ((fnd bs v).getD (.var v))) args
    have hrg : ∀ i (h : i < args.length) (h' : i < rs.length), rs[i] = (args[i]).repl (fun v => some ((fnd bs v).getD (.var v))) := fun i h h' => by subst hrs; exact replL_get (fun v => some ((fnd bs v).getD (.var v))) h h'
    have HMK : Hid (∀ (p : Nat → Prop) (W' : World) (Ar' : Option Addr) (cap' : Nat) (cs' : Nat → List Value), (∀ b, b < w.heap.size → p b) → Below w.heap.size w W' → rs.length ≤ cap' → cap' ≤ maxLen → (0 < rs.length → ∃ b o, Ar' = some ⟨b, o, none⟩ ∧ p b ∧ b < W'.heap.size ∧ ∀ i, i < rs.length → ∀ j, j < 7 → W'.cell? ⟨b, o + i * 7 + j, none⟩ = (cs' i)[j]?) → (∀ i (h : i < rs.length), TCP p W' rs[i] (cs' i)) → TCP p W' (.mk k v s n rs) [.int .i64 k, .int .i64 v, .string s, .bool n.neg, A, B, .slice Ar' rs.length cap']) := fun p W' Ar' cap' cs' hp hb h3 h4 h5 h6 => .mk k v s n rs A B Ar' cap' cs' hk hv hs (((SlP.of_sl hA).to hb.size fun b _ hlt => hb.block b hlt).mono fun b hb _ => hp b hb) (((SlP.of_sl hB).to hb.size fun b _ hlt => hb.block b hlt).mono fun b hb _ => hp b hb) hn h3 h4 h5 h6
    have IH : Hid (∀ i (h : i < args.length) (h' : i < rs.length) (W : World), Below w.heap.size w W → Calls Tryz.prog 35 #[.agg (cs i).toArray, bv] W fun e W' => ∃ cs', e = .returned (.agg cs'.toArray) ∧ TCP (fun b => b < w.heap.size ∨ W.heap.size ≤ b) W' rs[i] cs' ∧ Below W.heap.size W W') := fun i h h' W hb => by
      rw [hrg i h h']
      exact ih i h (errL_get hea h) (allVL_get hall.2 h) W hb
    have HRP : Hid ((k = 1 → (Tm.mk k v s n args).repl (fun v => some ((fnd bs v).getD (.var v))) = (fnd bs v).getD (.var v)) ∧ (k ≠ 1 → (Tm.mk k v s n args).repl (fun v => some ((fnd bs v).getD (.var v))) = .mk k v s n rs)) := by
      refine ⟨fun h => ?_, fun h => ?_⟩
      · rw [Tm.repl, if_pos h]
      · rw [Tm.repl, if_neg h, hrs]
    generalize (Tm.mk k v s n args).repl (fun v => some ((fnd bs v).getD (.var v))) = rt at *
    have HR := Lib.hid hr
    have HA := Lib.hid ha
    have HWB := Lib.hid hW
    have HV := Lib.hid hv
    obtain ⟨A1, q1, rfl, _⟩ := hA
    obtain ⟨B1, q2, rfl, _⟩ := hB
    unfold maxLen at hm
    clear ih hr ha hW hk hv hs hrg hrs hall hnd hea he
    generalize n.neg = ng at *
    generalize n.num.length = m1 at *
    generalize n.den.length = m2 at *
    clear hn
    obtain ⟨l, hl⟩ : ∃ l, args.length = l := ⟨_, rfl⟩
    rw [hl] at hcap hlb hrl ⊢
    have HL := Lib.hid hl
    have HLR := Lib.hid hrl
    clear hl hrl
    obtain ⟨i0, hi0, hz0, hz1, hz2⟩ := info_parts info_term
    have HI0 := Lib.hid hi0
    have HZ0 := Lib.hid hz0
    have HZ1 := Lib.hid hz1
    have HZ2 := Lib.hid hz2
    clear hi0 hz0 hz1 hz2
    have HB0 : Hid (Below W.heap.size W ((W.alloc (.cells #[.int .i64 k, .int .i64 v, .string s, .bool ng, .slice A1 m1 q1, .slice B1 m2 q2, .slice Ar l cap] 27)).alloc (.cells #[.int .i64 0, .int .i64 0, .string ⟨#[]⟩, .bool false, .slice none 0 0, .slice none 0 0, .slice none 0 0] 27))) := below_pair W _ _
    have HK0 : Hid (Blk ((W.alloc (.cells #[.int .i64 k, .int .i64 v, .string s, .bool ng, .slice A1 m1 q1, .slice B1 m2 q2, .slice Ar l cap] 27)).alloc (.cells #[.int .i64 0, .int .i64 0, .string ⟨#[]⟩, .bool false, .slice none 0 0, .slice none 0 0, .slice none 0 0] 27)) (W.heap.size + 1) 27 #[.int .i64 0, .int .i64 0, .string ⟨#[]⟩, .bool false, .slice none 0 0, .slice none 0 0, .slice none 0 0]) := blk_2nd W _ _
    have HT0 : Hid (Blk ((W.alloc (.cells #[.int .i64 k, .int .i64 v, .string s, .bool ng, .slice A1 m1 q1, .slice B1 m2 q2, .slice Ar l cap] 27)).alloc (.cells #[.int .i64 0, .int .i64 0, .string ⟨#[]⟩, .bool false, .slice none 0 0, .slice none 0 0, .slice none 0 0] 27)) W.heap.size 27 #[.int .i64 k, .int .i64 v, .string s, .bool ng, .slice A1 m1 q1, .slice B1 m2 q2, .slice Ar l cap]) := (Blk.new W _ _).alloc _
    go_enter Tryz.func35, Tryz.ntmps35
    by_cases hk1 : k = 1
    · subst hk1
      have HRT := Lib.hid (HRP.out.1 rfl)
      clear HRP HMK IH
      have HF : Hid (∀ W', Below w.heap.size w W' → Calls Tryz.prog 80 #[bv, .int .i64 v] W' fun e W2 => ∃ cx, e = .returned (.tuple #[.agg cx.toArray, .bool (fnd bs v).isSome]) ∧ TCP (fun b => b < w.heap.size) W2 ((fnd bs v).getD (.var v)) cx ∧ Below W'.heap.size W' W2) := fun W' hb => rfind_any hb0 v HV.out W' hb
      go_wp2_with fail
      refine (HF.out _ (by exact HWB.out.trans (HB0.out.mono HWB.out.size))).mono ?_
      rintro e w1 ⟨cx8, rfl, ht8, hb8⟩
      obtain ⟨k8, v8, st8, ng8, A8, n8, c8, B8, m8, d8, X8, l8, e8, hf8⟩ := ht8.form
      subst hf8
      have HB1 : Hid (Below W.heap.size W (w1.alloc (.cells #[.int .i64 k8, .int .i64 v8, .string st8, .bool ng8, .slice A8 n8 c8, .slice B8 m8 d8, .slice X8 l8 e8] 27))) := HB0.out.trans ((hb8.trans ((below_one w1 _).mono hb8.size)).mono HB0.out.size)
      have HK1 := Lib.hid ((HK0.out.to hb8).to (below_one w1 (.cells #[.int .i64 k8, .int .i64 v8, .string st8, .bool ng8, .slice A8 n8 c8, .slice B8 m8 d8, .slice X8 l8 e8] 27)))
      have HT8 := Lib.hid (ht8.onto (below_one w1 (.cells #[.int .i64 k8, .int .i64 v8, .string st8, .bool ng8, .slice A8 n8 c8, .slice B8 m8 d8, .slice X8 l8 e8] 27)))
      clear hb8 ht8 HK0 HB0 HT0 HF
      have r0 := HK1.out.cell 0
      have r1 := HK1.out.cell 1
      have r2 := HK1.out.cell 2
      have r3 := HK1.out.cell 3
      have r4 := HK1.out.cell 4
      have r5 := HK1.out.cell 5
      have r6 := HK1.out.cell 6
      simp only [List.getElem?_toArray, List.getElem?_cons_zero, List.getElem?_cons_succ] at r0 r1 r2 r3 r4 r5 r6
      have z0 := HK1.out.frozen 0
      have z1 := HK1.out.frozen 1
      have z2 := HK1.out.frozen 2
      have z3 := HK1.out.frozen 3
      have z4 := HK1.out.frozen 4
      have z5 := HK1.out.frozen 5
      have z6 := HK1.out.frozen 6
      go_wp2_with fail
      refine bodyPost_ret (v := .agg #[.int .i64 k8, .int .i64 v8, .string st8, .bool ng8, .slice A8 n8 c8, .slice B8 m8 d8, .slice X8 l8 e8]) (by rw [results_cellT rfl]; go_simp) rfl ?_
      refine ⟨[.int .i64 k8, .int .i64 v8, .string st8, .bool ng8, .slice A8 n8 c8, .slice B8 m8 d8, .slice X8 l8 e8], rfl, ?_, (((((((HB1.out.setCell (Nat.le_succ _) _).setCell (Nat.le_succ _) _).setCell (Nat.le_succ _) _).setCell (Nat.le_succ _) _).setCell (Nat.le_succ _) _).setCell (Nat.le_succ _) _).setCell (Nat.le_succ _) _)⟩
      rw [HRT.out]
      refine (HT8.out.to (by simp) fun b hb _ => ?_).mono fun b hb _ => .inl hb
      have hbr : b ≠ W.heap.size + 1 := by have := HWB.out.size; omega
      repeat rw [Below.heap_setCell _ _ _ b hbr]
    · have hkb : (k == 1) = false := beq_eq_false_iff_ne.2 hk1
      obtain rfl := HRP.out.2 hk1
      clear HRP hk1
      go_wp2_with fail
      go_loopg [7, 24] l (fun gk s7 s24 wr => ∃ (j : Nat) (ov : Value) (xs : List Value) (vals : Nat → List Value), gk + j = l ∧ s24 = .int .i64 (j : Int) ∧ s7 = ov ∧ Hid (Blk wr W.heap.size 27 #[.int .i64 k, .int .i64 v, .string s, .bool ng, .slice A1 m1 q1, .slice B1 m2 q2, .slice Ar l cap]) ∧ Hid (Below W.heap.size W wr) ∧ Hid (Blk wr (W.heap.size + 1) 27 #[.int .i64 0, .int .i64 0, .string ⟨#[]⟩, .bool false, .slice none 0 0, .slice none 0 0, .slice none 0 0]) ∧ Hid (wr.ownsRow (W.heap.size + 2) 27 7 ov j xs) ∧ Hid (∀ i, i < j → ∀ q, q < 7 → xs[i * 7 + q]? = (vals i)[q]?) ∧ Hid (∀ i (h : i < rs.length), i < j → TCP (fun b => (b < w.heap.size ∨ W.heap.size + 2 ≤ b) ∧ some b ≠ ov.ownBlock) wr rs[i] (vals i)))
      case atStart =>
        exact ⟨0, _, [], fun _ => [], by omega, rfl, rfl, HT0.out, HB0.out, HK0.out, World.ownsRow_nil _ _ _ _, fun i hi => absurd hi (by omega), fun i _ hi => absurd hi (by omega)⟩
      case round =>
        clear HB0 HK0 HT0
        obtain ⟨j, ov, xs, vals, hgj, rfl, rfl, HT, HB, HRS, HOWN, HXS, HVS⟩ := hrel
        by_cases hj : j < l
        · have hja : j < args.length := by rw [HL.out]; exact hj
          have hjr : j < rs.length := by rw [HLR.out]; exact hj
          have HBW := HWB.out.trans (HB.out.mono HWB.out.size)
          obtain ⟨b, o, k', v', s', ng', A2, n2, c2, B2, m3, d2, Xr, xl, xc, hAr, hcs, hlt, e0, e1, e2, e3, e4, e5, e6⟩ := arg_cells HR.out HA.out HBW hja
          subst hAr
          have HCALL := IH.out j hja hjr (wr.alloc (.cells #[.int .i64 k', .int .i64 v', .string s', .bool ng', .slice A2 n2 c2, .slice B2 m3 d2, .slice Xr xl xc] 27)) (HBW.trans ((below_one wr (.cells #[.int .i64 k', .int .i64 v', .string s', .bool ng', .slice A2 n2 c2, .slice B2 m3 d2, .slice Xr xl xc] 27)).mono HBW.size))
          rw [hcs] at HCALL
          have HCALL := Lib.hid HCALL
          go_wp2_with fail
          refine HCALL.out.mono ?_
          rintro e w3 ⟨cs8, rfl, ht8, hb8⟩
          obtain ⟨k8, v8, st8, ng8, A8, n8, c8, B8, m8, d8, X8, l8, e8, hf8⟩ := ht8.form
          subst hf8
          have HB8 := Lib.hid (((below_one wr (.cells #[.int .i64 k', .int .i64 v', .string s', .bool ng', .slice A2 n2 c2, .slice B2 m3 d2, .slice Xr xl xc] 27)).trans (hb8.mono (below_one wr (.cells #[.int .i64 k', .int .i64 v', .string s', .bool ng', .slice A2 n2 c2, .slice B2 m3 d2, .slice Xr xl xc] 27)).size)).trans ((below_one w3 (.cells #[.int .i64 k8, .int .i64 v8, .string st8, .bool ng8, .slice A8 n8 c8, .slice B8 m8 d8, .slice X8 l8 e8] 27)).mono ((below_one wr (.cells #[.int .i64 k', .int .i64 v', .string s', .bool ng', .slice A2 n2 c2, .slice B2 m3 d2, .slice Xr xl xc] 27)).trans (hb8.mono (below_one wr (.cells #[.int .i64 k', .int .i64 v', .string s', .bool ng', .slice A2 n2 c2, .slice B2 m3 d2, .slice Xr xl xc] 27)).size)).size))
          have HRW := Lib.hid (row_to HOWN.out HB8.out)
          have HNEWS := Lib.hid (World.news_of_block (Blk.new w3 27 #[.int .i64 k8, .int .i64 v8, .string st8, .bool ng8, .slice A8 n8 c8, .slice B8 m8 d8, .slice X8 l8 e8]))
          have HONE : Hid (∀ u ∈ [(Value.int .i64 k8), (Value.int .i64 v8), (Value.string st8), (Value.bool ng8), (Value.slice A8 n8 c8), (Value.slice B8 m8 d8), (Value.slice X8 l8 e8)], u.oneCell' = true) := fun u hu => by
            simp only [List.mem_cons, List.not_mem_nil, or_false] at hu
            rcases hu with rfl | rfl | rfl | rfl | rfl | rfl | rfl <;> rfl
          have HOLT : Hid (∀ k, u7.ownBlock = some k → W.heap.size + 2 ≤ k ∧ k < wr.heap.size) := Go.World.ownsRow.lt HOWN.out
          have HTA : Hid (∀ i (h : i < rs.length), i < j + 1 → TCP (fun b => (b < w.heap.size ∨ W.heap.size + 2 ≤ b) ∧ some b ≠ u7.ownBlock) (w3.alloc (.cells #[.int .i64 k8, .int .i64 v8, .string st8, .bool ng8, .slice A8 n8 c8, .slice B8 m8 d8, .slice X8 l8 e8] 27)) rs[i] (if i = j then [.int .i64 k8, .int .i64 v8, .string st8, .bool ng8, .slice A8 n8 c8, .slice B8 m8 d8, .slice X8 l8 e8] else vals i)) := fun i h hi => by
            by_cases hij : i = j
            · subst hij
              rw [if_pos rfl]
              exact (ht8.mono (q := (fun b => (b < w.heap.size ∨ W.heap.size + 2 ≤ b) ∧ some b ≠ u7.ownBlock)) fun b hb _ => ⟨(by
                have := HRS.out.lt
                have := HB.out.size
                rcases hb with hb | hb
                · exact .inl hb
                · simp at hb; exact .inr (by omega)), fun e => (by
                have h1 := HOLT.out b e.symm
                have := HWB.out.size
                rcases hb with hb | hb
                · omega
                · simp at hb; omega)⟩).onto (below_one w3 _)
            · rw [if_neg hij]
              exact (HVS.out i h (by omega)).onto HB8.out
          have HBA : Hid (Below W.heap.size W (w3.alloc (.cells #[.int .i64 k8, .int .i64 v8, .string st8, .bool ng8, .slice A8 n8 c8, .slice B8 m8 d8, .slice X8 l8 e8] 27))) := HB.out.trans (HB8.out.mono HB.out.size)
          have HKEEP : Hid (∀ w4, (w3.alloc (.cells #[.int .i64 k8, .int .i64 v8, .string st8, .bool ng8, .slice A8 n8 c8, .slice B8 m8 d8, .slice X8 l8 e8] 27)).grownBy w4 u7.ownBlock → (Blk w4 W.heap.size 27 #[.int .i64 k, .int .i64 v, .string s, .bool ng, .slice A1 m1 q1, .slice B1 m2 q2, .slice (some ⟨b, o, none⟩) l cap] ∧ Blk w4 (W.heap.size + 1) 27 #[.int .i64 0, .int .i64 0, .string ⟨#[]⟩, .bool false, .slice none 0 0, .slice none 0 0, .slice none 0 0]) ∧ Below W.heap.size W w4) := fun w4 hg => by
            have hk : ∀ k, k < W.heap.size + 2 → some k ≠ u7.ownBlock := fun k hk e => by have := (HOLT.out k e.symm).1; omega
            have hb4 := HBA.out.grown hg HBA.out.size (fun k hk => by have := (HOLT.out k hk).1; omega)
            exact ⟨⟨(hg.block _ (HT.out.to HB8.out).lt (hk _ (by omega))).trans (HT.out.to HB8.out), (hg.block _ (HRS.out.to HB8.out).lt (hk _ (by omega))).trans (HRS.out.to HB8.out)⟩, hb4⟩
          clear ht8 hb8 HCALL hcs e0 e1 e2 e3 e4 e5 e6 HBW
          go_wp2_with (at_builtin; go_must (refine wpList_append_lies _ rfl _ _ 25 rfl (W.heap.size + 2) 27 i0 (.agg zt.toArray) 7 112 Tryz.underlying25 HI0.out HZ0.out HZ1.out HZ2.out rfl (by decide) u7 j xs rfl HRW.out ⟨w3.heap.size, 0, none⟩ 1 1 [.int .i64 k8, .int .i64 v8, .string st8, .bool ng8, .slice A8 n8 c8, .slice B8 m8 d8, .slice X8 l8 e8] rfl rfl HNEWS.out HONE.out (by decide) (by unfold maxLen; omega) (by omega) (by have := HB8.out.size; have := HRS.out.lt; omega) _ rfl ?_); intro g cap4 w4 hown hgrow hat hlt4; have HOW4 := Lib.hid hown; have HGR := Lib.hid hgrow; have HAT := Lib.hid hat; have HK4 := Lib.hid (HKEEP.out w4 hgrow); clear hown hgrow hat hlt4)
          go_roundg (gk - 1)
          case measure => omega
          case rel =>
            refine ⟨j + 1, .slice (some ⟨g, 0, none⟩) (j + 1) cap4, xs ++ [(Value.int .i64 k8), (Value.int .i64 v8), (Value.string st8), (Value.bool ng8), (Value.slice A8 n8 c8), (Value.slice B8 m8 d8), (Value.slice X8 l8 e8)], fun i => if i = j then [.int .i64 k8, .int .i64 v8, .string st8, .bool ng8, .slice A8 n8 c8, .slice B8 m8 d8, .slice X8 l8 e8] else vals i, by omega, by go_num, rfl, HK4.out.1.1, HK4.out.2, HK4.out.1.2, HOW4.out, fun i hi q hq => ?_, fun i h hi => ?_⟩
            · have hxl : xs.length = j * 7 := HRW.out.1
              by_cases hij : i = j
              · subst hij
                dsimp only
                rw [if_pos rfl, List.getElem?_append_right (by omega)]
                congr 1
                omega
              · dsimp only
                rw [if_neg hij, List.getElem?_append_left (by omega)]
                exact HXS.out i (by omega) q hq
            · exact grow_tcp2 (HTA.out i h hi) HGR.out HAT.out
        · obtain rfl : l = j := by omega
          have HMK2 : Hid (∀ (W' : World), (∀ b, b ≠ W.heap.size → b ≠ W.heap.size + 1 → W'.heap[b]? = wr.heap[b]?) → W'.heap.size = wr.heap.size → Below W.heap.size W W' → ∃ X8 e8, u7 = .slice X8 l e8 ∧ TCP (fun b => b < w.heap.size ∨ W.heap.size ≤ b) W' (.mk k v s n rs) [.int .i64 k, .int .i64 v, .string s, .bool ng, .slice A1 m1 q1, .slice B1 m2 q2, .slice X8 l e8]) := fun W' hblk hsz hb => by
            obtain ⟨Ar', cap', vals', e1, e2, e3, e4, e5⟩ := rows_done HOWN.out HLR.out HXS.out (fun i h => HVS.out i h (by rw [← HLR.out]; exact h))
            refine ⟨Ar', cap', by rw [e1, HLR.out], ?_⟩
            have hq := HMK.out (fun b => b < w.heap.size ∨ W.heap.size ≤ b) W' Ar' cap' vals' (fun b hb => .inl hb) (HWB.out.trans (hb.mono HWB.out.size)) e2 e3 (fun h0 => ?_) (fun i h => ?_)
            · rw [HLR.out] at hq
              exact hq
            · obtain ⟨g, q1, q2, q3, q4⟩ := e4 h0
              exact ⟨g, 0, q1, .inr (by omega), by rw [hsz]; exact q3, fun i hi j hj => by
                rw [Nat.zero_add, ← q4 i hi j hj]
                exact World.cell?_of_block (a := ⟨g, i * 7 + j, none⟩) (hblk g (by omega) (by omega))⟩
            · refine ((e5 i h).to (Nat.le_of_eq hsz.symm) fun b hb hlt => hblk b ?_ ?_).mono fun b hb _ => ?_
              · have := HWB.out.size; rcases hb.1 with h | h <;> omega
              · have := HWB.out.size; rcases hb.1 with h | h <;> omega
              · rcases hb.1 with h | h
                · exact .inl h
                · exact .inr (by omega)
          obtain ⟨X8, e8, rfl, _⟩ := HMK2.out wr (fun _ _ _ => rfl) rfl HB.out
          have y0 := HT.out.cell 0
          have y1 := HT.out.cell 1
          have y2 := HT.out.cell 2
          have y3 := HT.out.cell 3
          have y4 := HT.out.cell 4
          have y5 := HT.out.cell 5
          have y6 := HT.out.cell 6
          simp only [List.getElem?_toArray, List.getElem?_cons_zero, List.getElem?_cons_succ] at y0 y1 y2 y3 y4 y5 y6
          have f0 := HT.out.frozen 0
          have f1 := HT.out.frozen 1
          have f2 := HT.out.frozen 2
          have f3 := HT.out.frozen 3
          have f4 := HT.out.frozen 4
          have f5 := HT.out.frozen 5
          have f6 := HT.out.frozen 6
          have r0 := HRS.out.cell 0
          have r1 := HRS.out.cell 1
          have r2 := HRS.out.cell 2
          have r3 := HRS.out.cell 3
          have r4 := HRS.out.cell 4
          have r5 := HRS.out.cell 5
          have r6 := HRS.out.cell 6
          simp only [List.getElem?_toArray, List.getElem?_cons_zero, List.getElem?_cons_succ] at r0 r1 r2 r3 r4 r5 r6
          have z0 := HRS.out.frozen 0
          have z1 := HRS.out.frozen 1
          have z2 := HRS.out.frozen 2
          have z3 := HRS.out.frozen 3
          have z4 := HRS.out.frozen 4
          have z5 := HRS.out.frozen 5
          have z6 := HRS.out.frozen 6
          go_wp2_with fail
          refine bodyPost_ret (v := .agg #[.int .i64 k, .int .i64 v, .string s, .bool ng, .slice A1 m1 q1, .slice B1 m2 q2, .slice X8 l e8]) (by rw [results_cellT rfl]; go_simp) rfl ?_
          have hne : W.heap.size ≠ W.heap.size + 1 := by omega
          have HBF : Below W.heap.size W ((((((((wr.setCell ⟨W.heap.size, 6, none⟩ (.slice X8 l e8)).setCell ⟨W.heap.size + 1, 0, none⟩ (.int .i64 k)).setCell ⟨W.heap.size + 1, 1, none⟩ (.int .i64 v)).setCell ⟨W.heap.size + 1, 2, none⟩ (.string s)).setCell ⟨W.heap.size + 1, 3, none⟩ (.bool ng)).setCell ⟨W.heap.size + 1, 4, none⟩ (.slice A1 m1 q1)).setCell ⟨W.heap.size + 1, 5, none⟩ (.slice B1 m2 q2)).setCell ⟨W.heap.size + 1, 6, none⟩ (.slice X8 l e8)) := ((((((((HB.out.setCell (Nat.le_refl _) _).setCell (Nat.le_succ _) _).setCell (Nat.le_succ _) _).setCell (Nat.le_succ _) _).setCell (Nat.le_succ _) _).setCell (Nat.le_succ _) _).setCell (Nat.le_succ _) _).setCell (Nat.le_succ _) _)
          obtain ⟨X9, e9, hx9, ht9⟩ := HMK2.out ((((((((wr.setCell ⟨W.heap.size, 6, none⟩ (.slice X8 l e8)).setCell ⟨W.heap.size + 1, 0, none⟩ (.int .i64 k)).setCell ⟨W.heap.size + 1, 1, none⟩ (.int .i64 v)).setCell ⟨W.heap.size + 1, 2, none⟩ (.string s)).setCell ⟨W.heap.size + 1, 3, none⟩ (.bool ng)).setCell ⟨W.heap.size + 1, 4, none⟩ (.slice A1 m1 q1)).setCell ⟨W.heap.size + 1, 5, none⟩ (.slice B1 m2 q2)).setCell ⟨W.heap.size + 1, 6, none⟩ (.slice X8 l e8)) (fun b hb1 hb2 => by repeat first | rw [Below.heap_setCell _ _ _ b hb2] | rw [Below.heap_setCell _ _ _ b hb1]) (by simp) HBF
          cases hx9
          exact ⟨[.int .i64 k, .int .i64 v, .string s, .bool ng, .slice A1 m1 q1, .slice B1 m2 q2, .slice X8 l e8], rfl, ht9, HBF⟩

set_option maxRecDepth 100000 in
set_option maxHeartbeats 12800000 in
theorem shifted_any {w : World} (by_ : Int) {t : Tm} {cs : List Value} (h : TC w t cs) : t.err0 = 0 → t.allV (fun v => 0 ≤ v + by_ ∧ v + by_ ≤ 1073741824) → ∀ (W : World), Below w.heap.size w W →
    Calls Tryz.prog 41 #[.agg cs.toArray, .int .i64 by_] W fun e W' => ∃ cx, e = .returned (.agg cx.toArray) ∧ TCP (fun b => b < w.heap.size ∨ W.heap.size ≤ b) W' (t.repl (fun v => some (.var (v + by_)))) cx ∧ Below W.heap.size W W' := by
  induction h with
  | mk k v s n args A B Ar cap cs hk hv hs hA hB hn hcap hm hr ha ih =>
    intro he hall W hW
    rw [Tm.allV] at hall
    obtain ⟨hnd, hea⟩ := err0_node he
    have hlb : args.length ≤ 32 := by
      rcases node_parts hnd with ⟨_, _, _, _, h5⟩ | ⟨_, _, _, _, h6⟩
      · omega
      · rcases h6 with h6 | h6 | h6 | h6 <;> omega
    have HALL := Lib.hid hall.1
    obtain ⟨rs, hrs⟩ : ∃ rs, replL (fun v => some (.var (v + by_))) args = rs := ⟨_, rfl⟩
    have hrl : rs.length = args.length := by rw [← hrs]; exact replL_len (fun v => some (.var (v + by_))) args
    have hrg : ∀ i (h : i < args.length) (h' : i < rs.length), rs[i] = (args[i]).repl (fun v => some (.var (v + by_))) := fun i h h' => by subst hrs; exact replL_get (fun v => some (.var (v + by_))) h h'
    have HMK : Hid (∀ (p : Nat → Prop) (W' : World) (Ar' : Option Addr) (cap' : Nat) (cs' : Nat → List Value), (∀ b, b < w.heap.size → p b) → Below w.heap.size w W' → rs.length ≤ cap' → cap' ≤ maxLen → (0 < rs.length → ∃ b o, Ar' = some ⟨b, o, none⟩ ∧ p b ∧ b < W'.heap.size ∧ ∀ i, i < rs.length → ∀ j, j < 7 → W'.cell? ⟨b, o + i * 7 + j, none⟩ = (cs' i)[j]?) → (∀ i (h : i < rs.length), TCP p W' rs[i] (cs' i)) → TCP p W' (.mk k v s n rs) [.int .i64 k, .int .i64 v, .string s, .bool n.neg, A, B, .slice Ar' rs.length cap']) := fun p W' Ar' cap' cs' hp hb h3 h4 h5 h6 => .mk k v s n rs A B Ar' cap' cs' hk hv hs (((SlP.of_sl hA).to hb.size fun b _ hlt => hb.block b hlt).mono fun b hb _ => hp b hb) (((SlP.of_sl hB).to hb.size fun b _ hlt => hb.block b hlt).mono fun b hb _ => hp b hb) hn h3 h4 h5 h6
    have IH : Hid (∀ i (h : i < args.length) (h' : i < rs.length) (W : World), Below w.heap.size w W → Calls Tryz.prog 41 #[.agg (cs i).toArray, .int .i64 by_] W fun e W' => ∃ cs', e = .returned (.agg cs'.toArray) ∧ TCP (fun b => b < w.heap.size ∨ W.heap.size ≤ b) W' rs[i] cs' ∧ Below W.heap.size W W') := fun i h h' W hb => by
      rw [hrg i h h']
      exact ih i h (errL_get hea h) (allVL_get hall.2 h) W hb
    have HRP : Hid ((k = 1 → (Tm.mk k v s n args).repl (fun v => some (.var (v + by_))) = .var (v + by_)) ∧ (k ≠ 1 → (Tm.mk k v s n args).repl (fun v => some (.var (v + by_))) = .mk k v s n rs)) := by
      refine ⟨fun h => ?_, fun h => ?_⟩
      · rw [Tm.repl, if_pos h]
      · rw [Tm.repl, if_neg h, hrs]
    generalize (Tm.mk k v s n args).repl (fun v => some (.var (v + by_))) = rt at *
    have HR := Lib.hid hr
    have HA := Lib.hid ha
    have HWB := Lib.hid hW
    have HV := Lib.hid hv
    obtain ⟨A1, q1, rfl, _⟩ := hA
    obtain ⟨B1, q2, rfl, _⟩ := hB
    unfold maxLen at hm
    clear ih hr ha hW hk hv hs hrg hrs hall hnd hea he
    generalize n.neg = ng at *
    generalize n.num.length = m1 at *
    generalize n.den.length = m2 at *
    clear hn
    obtain ⟨l, hl⟩ : ∃ l, args.length = l := ⟨_, rfl⟩
    rw [hl] at hcap hlb hrl ⊢
    have HL := Lib.hid hl
    have HLR := Lib.hid hrl
    clear hl hrl
    obtain ⟨i0, hi0, hz0, hz1, hz2⟩ := info_parts info_term
    have HI0 := Lib.hid hi0
    have HZ0 := Lib.hid hz0
    have HZ1 := Lib.hid hz1
    have HZ2 := Lib.hid hz2
    clear hi0 hz0 hz1 hz2
    have HB0 : Hid (Below W.heap.size W ((W.alloc (.cells #[.int .i64 k, .int .i64 v, .string s, .bool ng, .slice A1 m1 q1, .slice B1 m2 q2, .slice Ar l cap] 27)).alloc (.cells #[.int .i64 0, .int .i64 0, .string ⟨#[]⟩, .bool false, .slice none 0 0, .slice none 0 0, .slice none 0 0] 27))) := below_pair W _ _
    have HK0 : Hid (Blk ((W.alloc (.cells #[.int .i64 k, .int .i64 v, .string s, .bool ng, .slice A1 m1 q1, .slice B1 m2 q2, .slice Ar l cap] 27)).alloc (.cells #[.int .i64 0, .int .i64 0, .string ⟨#[]⟩, .bool false, .slice none 0 0, .slice none 0 0, .slice none 0 0] 27)) (W.heap.size + 1) 27 #[.int .i64 0, .int .i64 0, .string ⟨#[]⟩, .bool false, .slice none 0 0, .slice none 0 0, .slice none 0 0]) := blk_2nd W _ _
    have HT0 : Hid (Blk ((W.alloc (.cells #[.int .i64 k, .int .i64 v, .string s, .bool ng, .slice A1 m1 q1, .slice B1 m2 q2, .slice Ar l cap] 27)).alloc (.cells #[.int .i64 0, .int .i64 0, .string ⟨#[]⟩, .bool false, .slice none 0 0, .slice none 0 0, .slice none 0 0] 27)) W.heap.size 27 #[.int .i64 k, .int .i64 v, .string s, .bool ng, .slice A1 m1 q1, .slice B1 m2 q2, .slice Ar l cap]) := (Blk.new W _ _).alloc _
    go_enter Tryz.func41, Tryz.ntmps41
    by_cases hk1 : k = 1
    · subst hk1
      have HRT := Lib.hid (HRP.out.1 rfl)
      clear HRP HMK IH
      have hv1 : 0 ≤ v + by_ := (HALL.out rfl).1
      have hv2 : v + by_ ≤ 1073741824 := (HALL.out rfl).2
      have r0 := HK0.out.cell 0
      have r1 := HK0.out.cell 1
      have r2 := HK0.out.cell 2
      have r3 := HK0.out.cell 3
      have r4 := HK0.out.cell 4
      have r5 := HK0.out.cell 5
      have r6 := HK0.out.cell 6
      simp only [List.getElem?_toArray, List.getElem?_cons_zero, List.getElem?_cons_succ] at r0 r1 r2 r3 r4 r5 r6
      have z0 := HK0.out.frozen 0
      have z1 := HK0.out.frozen 1
      have z2 := HK0.out.frozen 2
      have z3 := HK0.out.frozen 3
      have z4 := HK0.out.frozen 4
      have z5 := HK0.out.frozen 5
      have z6 := HK0.out.frozen 6
      go_wp2_with fail
      refine bodyPost_ret (v := .agg #[.int .i64 1, .int .i64 (v + by_), .string ⟨#[]⟩, .bool false, .slice none 0 0, .slice none 0 0, .slice none 0 0]) (by rw [results_cellT rfl]; go_simp) rfl ?_
      refine ⟨[.int .i64 1, .int .i64 (v + by_), .string ⟨#[]⟩, .bool false, .slice none 0 0, .slice none 0 0, .slice none 0 0], rfl, ?_, ?_⟩
      rotate_left
      · exact below_pair W _ _
      rw [HRT.out]
      exact .mk 1 (v + by_) ⟨#[]⟩ ⟨false, [], []⟩ [] (.slice none 0 0) (.slice none 0 0) none 0 (fun _ => []) ⟨by decide, by decide⟩ ⟨by omega, by omega⟩ (by decide) (.nil_ _ _) (.nil_ _ _) ⟨Ok.nil, Ok.nil⟩ (Nat.le_refl _) (by decide) (fun h => by simp at h) (fun i h => by simp at h)
    · have hkb : (k == 1) = false := beq_eq_false_iff_ne.2 hk1
      obtain rfl := HRP.out.2 hk1
      clear HRP hk1
      go_wp2_with fail
      go_loopg [5, 19] l (fun gk s5 s19 wr => ∃ (j : Nat) (ov : Value) (xs : List Value) (vals : Nat → List Value), gk + j = l ∧ s19 = .int .i64 (j : Int) ∧ s5 = ov ∧ Hid (Blk wr W.heap.size 27 #[.int .i64 k, .int .i64 v, .string s, .bool ng, .slice A1 m1 q1, .slice B1 m2 q2, .slice Ar l cap]) ∧ Hid (Below W.heap.size W wr) ∧ Hid (Blk wr (W.heap.size + 1) 27 #[.int .i64 0, .int .i64 0, .string ⟨#[]⟩, .bool false, .slice none 0 0, .slice none 0 0, .slice none 0 0]) ∧ Hid (wr.ownsRow (W.heap.size + 2) 27 7 ov j xs) ∧ Hid (∀ i, i < j → ∀ q, q < 7 → xs[i * 7 + q]? = (vals i)[q]?) ∧ Hid (∀ i (h : i < rs.length), i < j → TCP (fun b => (b < w.heap.size ∨ W.heap.size + 2 ≤ b) ∧ some b ≠ ov.ownBlock) wr rs[i] (vals i)))
      case atStart =>
        exact ⟨0, _, [], fun _ => [], by omega, rfl, rfl, HT0.out, HB0.out, HK0.out, World.ownsRow_nil _ _ _ _, fun i hi => absurd hi (by omega), fun i _ hi => absurd hi (by omega)⟩
      case round =>
        clear HB0 HK0 HT0
        obtain ⟨j, ov, xs, vals, hgj, rfl, rfl, HT, HB, HRS, HOWN, HXS, HVS⟩ := hrel
        by_cases hj : j < l
        · have hja : j < args.length := by rw [HL.out]; exact hj
          have hjr : j < rs.length := by rw [HLR.out]; exact hj
          have HBW := HWB.out.trans (HB.out.mono HWB.out.size)
          obtain ⟨b, o, k', v', s', ng', A2, n2, c2, B2, m3, d2, Xr, xl, xc, hAr, hcs, hlt, e0, e1, e2, e3, e4, e5, e6⟩ := arg_cells HR.out HA.out HBW hja
          subst hAr
          have HCALL := IH.out j hja hjr (wr.alloc (.cells #[.int .i64 k', .int .i64 v', .string s', .bool ng', .slice A2 n2 c2, .slice B2 m3 d2, .slice Xr xl xc] 27)) (HBW.trans ((below_one wr (.cells #[.int .i64 k', .int .i64 v', .string s', .bool ng', .slice A2 n2 c2, .slice B2 m3 d2, .slice Xr xl xc] 27)).mono HBW.size))
          rw [hcs] at HCALL
          have HCALL := Lib.hid HCALL
          go_wp2_with fail
          refine HCALL.out.mono ?_
          rintro e w3 ⟨cs8, rfl, ht8, hb8⟩
          obtain ⟨k8, v8, st8, ng8, A8, n8, c8, B8, m8, d8, X8, l8, e8, hf8⟩ := ht8.form
          subst hf8
          have HB8 := Lib.hid (((below_one wr (.cells #[.int .i64 k', .int .i64 v', .string s', .bool ng', .slice A2 n2 c2, .slice B2 m3 d2, .slice Xr xl xc] 27)).trans (hb8.mono (below_one wr (.cells #[.int .i64 k', .int .i64 v', .string s', .bool ng', .slice A2 n2 c2, .slice B2 m3 d2, .slice Xr xl xc] 27)).size)).trans ((below_one w3 (.cells #[.int .i64 k8, .int .i64 v8, .string st8, .bool ng8, .slice A8 n8 c8, .slice B8 m8 d8, .slice X8 l8 e8] 27)).mono ((below_one wr (.cells #[.int .i64 k', .int .i64 v', .string s', .bool ng', .slice A2 n2 c2, .slice B2 m3 d2, .slice Xr xl xc] 27)).trans (hb8.mono (below_one wr (.cells #[.int .i64 k', .int .i64 v', .string s', .bool ng', .slice A2 n2 c2, .slice B2 m3 d2, .slice Xr xl xc] 27)).size)).size))
          have HRW := Lib.hid (row_to HOWN.out HB8.out)
          have HNEWS := Lib.hid (World.news_of_block (Blk.new w3 27 #[.int .i64 k8, .int .i64 v8, .string st8, .bool ng8, .slice A8 n8 c8, .slice B8 m8 d8, .slice X8 l8 e8]))
          have HONE : Hid (∀ u ∈ [(Value.int .i64 k8), (Value.int .i64 v8), (Value.string st8), (Value.bool ng8), (Value.slice A8 n8 c8), (Value.slice B8 m8 d8), (Value.slice X8 l8 e8)], u.oneCell' = true) := fun u hu => by
            simp only [List.mem_cons, List.not_mem_nil, or_false] at hu
            rcases hu with rfl | rfl | rfl | rfl | rfl | rfl | rfl <;> rfl
          have HOLT : Hid (∀ k, u5.ownBlock = some k → W.heap.size + 2 ≤ k ∧ k < wr.heap.size) := Go.World.ownsRow.lt HOWN.out
          have HTA : Hid (∀ i (h : i < rs.length), i < j + 1 → TCP (fun b => (b < w.heap.size ∨ W.heap.size + 2 ≤ b) ∧ some b ≠ u5.ownBlock) (w3.alloc (.cells #[.int .i64 k8, .int .i64 v8, .string st8, .bool ng8, .slice A8 n8 c8, .slice B8 m8 d8, .slice X8 l8 e8] 27)) rs[i] (if i = j then [.int .i64 k8, .int .i64 v8, .string st8, .bool ng8, .slice A8 n8 c8, .slice B8 m8 d8, .slice X8 l8 e8] else vals i)) := fun i h hi => by
            by_cases hij : i = j
            · subst hij
              rw [if_pos rfl]
              exact (ht8.mono (q := (fun b => (b < w.heap.size ∨ W.heap.size + 2 ≤ b) ∧ some b ≠ u5.ownBlock)) fun b hb _ => ⟨(by
                have := HRS.out.lt
                have := HB.out.size
                rcases hb with hb | hb
                · exact .inl hb
                · simp at hb; exact .inr (by omega)), fun e => (by
                have h1 := HOLT.out b e.symm
                have := HWB.out.size
                rcases hb with hb | hb
                · omega
                · simp at hb; omega)⟩).onto (below_one w3 _)
            · rw [if_neg hij]
              exact (HVS.out i h (by omega)).onto HB8.out
          have HBA : Hid (Below W.heap.size W (w3.alloc (.cells #[.int .i64 k8, .int .i64 v8, .string st8, .bool ng8, .slice A8 n8 c8, .slice B8 m8 d8, .slice X8 l8 e8] 27))) := HB.out.trans (HB8.out.mono HB.out.size)
          have HKEEP : Hid (∀ w4, (w3.alloc (.cells #[.int .i64 k8, .int .i64 v8, .string st8, .bool ng8, .slice A8 n8 c8, .slice B8 m8 d8, .slice X8 l8 e8] 27)).grownBy w4 u5.ownBlock → (Blk w4 W.heap.size 27 #[.int .i64 k, .int .i64 v, .string s, .bool ng, .slice A1 m1 q1, .slice B1 m2 q2, .slice (some ⟨b, o, none⟩) l cap] ∧ Blk w4 (W.heap.size + 1) 27 #[.int .i64 0, .int .i64 0, .string ⟨#[]⟩, .bool false, .slice none 0 0, .slice none 0 0, .slice none 0 0]) ∧ Below W.heap.size W w4) := fun w4 hg => by
            have hk : ∀ k, k < W.heap.size + 2 → some k ≠ u5.ownBlock := fun k hk e => by have := (HOLT.out k e.symm).1; omega
            have hb4 := HBA.out.grown hg HBA.out.size (fun k hk => by have := (HOLT.out k hk).1; omega)
            exact ⟨⟨(hg.block _ (HT.out.to HB8.out).lt (hk _ (by omega))).trans (HT.out.to HB8.out), (hg.block _ (HRS.out.to HB8.out).lt (hk _ (by omega))).trans (HRS.out.to HB8.out)⟩, hb4⟩
          clear ht8 hb8 HCALL hcs e0 e1 e2 e3 e4 e5 e6 HBW
          go_wp2_with (at_builtin; go_must (refine wpList_append_lies _ rfl _ _ 25 rfl (W.heap.size + 2) 27 i0 (.agg zt.toArray) 7 112 Tryz.underlying25 HI0.out HZ0.out HZ1.out HZ2.out rfl (by decide) u5 j xs rfl HRW.out ⟨w3.heap.size, 0, none⟩ 1 1 [.int .i64 k8, .int .i64 v8, .string st8, .bool ng8, .slice A8 n8 c8, .slice B8 m8 d8, .slice X8 l8 e8] rfl rfl HNEWS.out HONE.out (by decide) (by unfold maxLen; omega) (by omega) (by have := HB8.out.size; have := HRS.out.lt; omega) _ rfl ?_); intro g cap4 w4 hown hgrow hat hlt4; have HOW4 := Lib.hid hown; have HGR := Lib.hid hgrow; have HAT := Lib.hid hat; have HK4 := Lib.hid (HKEEP.out w4 hgrow); clear hown hgrow hat hlt4)
          go_roundg (gk - 1)
          case measure => omega
          case rel =>
            refine ⟨j + 1, .slice (some ⟨g, 0, none⟩) (j + 1) cap4, xs ++ [(Value.int .i64 k8), (Value.int .i64 v8), (Value.string st8), (Value.bool ng8), (Value.slice A8 n8 c8), (Value.slice B8 m8 d8), (Value.slice X8 l8 e8)], fun i => if i = j then [.int .i64 k8, .int .i64 v8, .string st8, .bool ng8, .slice A8 n8 c8, .slice B8 m8 d8, .slice X8 l8 e8] else vals i, by omega, by go_num, rfl, HK4.out.1.1, HK4.out.2, HK4.out.1.2, HOW4.out, fun i hi q hq => ?_, fun i h hi => ?_⟩
            · have hxl : xs.length = j * 7 := HRW.out.1
              by_cases hij : i = j
              · subst hij
                dsimp only
                rw [if_pos rfl, List.getElem?_append_right (by omega)]
                congr 1
                omega
              · dsimp only
                rw [if_neg hij, List.getElem?_append_left (by omega)]
                exact HXS.out i (by omega) q hq
            · exact grow_tcp2 (HTA.out i h hi) HGR.out HAT.out
        · obtain rfl : l = j := by omega
          have HMK2 : Hid (∀ (W' : World), (∀ b, b ≠ W.heap.size → b ≠ W.heap.size + 1 → W'.heap[b]? = wr.heap[b]?) → W'.heap.size = wr.heap.size → Below W.heap.size W W' → ∃ X8 e8, u5 = .slice X8 l e8 ∧ TCP (fun b => b < w.heap.size ∨ W.heap.size ≤ b) W' (.mk k v s n rs) [.int .i64 k, .int .i64 v, .string s, .bool ng, .slice A1 m1 q1, .slice B1 m2 q2, .slice X8 l e8]) := fun W' hblk hsz hb => by
            obtain ⟨Ar', cap', vals', e1, e2, e3, e4, e5⟩ := rows_done HOWN.out HLR.out HXS.out (fun i h => HVS.out i h (by rw [← HLR.out]; exact h))
            refine ⟨Ar', cap', by rw [e1, HLR.out], ?_⟩
            have hq := HMK.out (fun b => b < w.heap.size ∨ W.heap.size ≤ b) W' Ar' cap' vals' (fun b hb => .inl hb) (HWB.out.trans (hb.mono HWB.out.size)) e2 e3 (fun h0 => ?_) (fun i h => ?_)
            · rw [HLR.out] at hq
              exact hq
            · obtain ⟨g, q1, q2, q3, q4⟩ := e4 h0
              exact ⟨g, 0, q1, .inr (by omega), by rw [hsz]; exact q3, fun i hi j hj => by
                rw [Nat.zero_add, ← q4 i hi j hj]
                exact World.cell?_of_block (a := ⟨g, i * 7 + j, none⟩) (hblk g (by omega) (by omega))⟩
            · refine ((e5 i h).to (Nat.le_of_eq hsz.symm) fun b hb hlt => hblk b ?_ ?_).mono fun b hb _ => ?_
              · have := HWB.out.size; rcases hb.1 with h | h <;> omega
              · have := HWB.out.size; rcases hb.1 with h | h <;> omega
              · rcases hb.1 with h | h
                · exact .inl h
                · exact .inr (by omega)
          obtain ⟨X8, e8, rfl, _⟩ := HMK2.out wr (fun _ _ _ => rfl) rfl HB.out
          have y0 := HT.out.cell 0
          have y1 := HT.out.cell 1
          have y2 := HT.out.cell 2
          have y3 := HT.out.cell 3
          have y4 := HT.out.cell 4
          have y5 := HT.out.cell 5
          have y6 := HT.out.cell 6
          simp only [List.getElem?_toArray, List.getElem?_cons_zero, List.getElem?_cons_succ] at y0 y1 y2 y3 y4 y5 y6
          have f0 := HT.out.frozen 0
          have f1 := HT.out.frozen 1
          have f2 := HT.out.frozen 2
          have f3 := HT.out.frozen 3
          have f4 := HT.out.frozen 4
          have f5 := HT.out.frozen 5
          have f6 := HT.out.frozen 6
          have r0 := HRS.out.cell 0
          have r1 := HRS.out.cell 1
          have r2 := HRS.out.cell 2
          have r3 := HRS.out.cell 3
          have r4 := HRS.out.cell 4
          have r5 := HRS.out.cell 5
          have r6 := HRS.out.cell 6
          simp only [List.getElem?_toArray, List.getElem?_cons_zero, List.getElem?_cons_succ] at r0 r1 r2 r3 r4 r5 r6
          have z0 := HRS.out.frozen 0
          have z1 := HRS.out.frozen 1
          have z2 := HRS.out.frozen 2
          have z3 := HRS.out.frozen 3
          have z4 := HRS.out.frozen 4
          have z5 := HRS.out.frozen 5
          have z6 := HRS.out.frozen 6
          go_wp2_with fail
          refine bodyPost_ret (v := .agg #[.int .i64 k, .int .i64 v, .string s, .bool ng, .slice A1 m1 q1, .slice B1 m2 q2, .slice X8 l e8]) (by rw [results_cellT rfl]; go_simp) rfl ?_
          have hne : W.heap.size ≠ W.heap.size + 1 := by omega
          have HBF : Below W.heap.size W ((((((((wr.setCell ⟨W.heap.size, 6, none⟩ (.slice X8 l e8)).setCell ⟨W.heap.size + 1, 0, none⟩ (.int .i64 k)).setCell ⟨W.heap.size + 1, 1, none⟩ (.int .i64 v)).setCell ⟨W.heap.size + 1, 2, none⟩ (.string s)).setCell ⟨W.heap.size + 1, 3, none⟩ (.bool ng)).setCell ⟨W.heap.size + 1, 4, none⟩ (.slice A1 m1 q1)).setCell ⟨W.heap.size + 1, 5, none⟩ (.slice B1 m2 q2)).setCell ⟨W.heap.size + 1, 6, none⟩ (.slice X8 l e8)) := ((((((((HB.out.setCell (Nat.le_refl _) _).setCell (Nat.le_succ _) _).setCell (Nat.le_succ _) _).setCell (Nat.le_succ _) _).setCell (Nat.le_succ _) _).setCell (Nat.le_succ _) _).setCell (Nat.le_succ _) _).setCell (Nat.le_succ _) _)
          obtain ⟨X9, e9, hx9, ht9⟩ := HMK2.out ((((((((wr.setCell ⟨W.heap.size, 6, none⟩ (.slice X8 l e8)).setCell ⟨W.heap.size + 1, 0, none⟩ (.int .i64 k)).setCell ⟨W.heap.size + 1, 1, none⟩ (.int .i64 v)).setCell ⟨W.heap.size + 1, 2, none⟩ (.string s)).setCell ⟨W.heap.size + 1, 3, none⟩ (.bool ng)).setCell ⟨W.heap.size + 1, 4, none⟩ (.slice A1 m1 q1)).setCell ⟨W.heap.size + 1, 5, none⟩ (.slice B1 m2 q2)).setCell ⟨W.heap.size + 1, 6, none⟩ (.slice X8 l e8)) (fun b hb1 hb2 => by repeat first | rw [Below.heap_setCell _ _ _ b hb2] | rw [Below.heap_setCell _ _ _ b hb1]) (by simp) HBF
          cases hx9
          exact ⟨[.int .i64 k, .int .i64 v, .string s, .bool ng, .slice A1 m1 q1, .slice B1 m2 q2, .slice X8 l e8], rfl, ht9, HBF⟩
end Go.Proofs.YtkfnpcilanheiaaGreat

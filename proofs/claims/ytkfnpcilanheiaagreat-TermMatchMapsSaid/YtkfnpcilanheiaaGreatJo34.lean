/- The reference's put: a binding put into a list in order. -/
import Derived.Test.YtkfnpcilanheiaaGreatJo31
set_option linter.unusedVariables false
set_option linter.unusedSimpArgs false
set_option maxRecDepth 100000
namespace Go.Proofs.YtkfnpcilanheiaaGreat
open Go.RowKit NumB
def RowB (W w : World) (B : Nat) (ov : Value) (gs : List (Int × Tm)) : Prop :=
  ∃ (xs : List Value) (vals : Nat → List Value), w.ownsRow B 51 8 ov gs.length xs ∧ (∀ i, i < gs.length → ∀ q, q < 8 → xs[i * 8 + q]? = (vals i)[q]?) ∧ ∀ i (h : i < gs.length), BC W gs[i] (vals i)
theorem RowB.nil (W w : World) (B : Nat) : RowB W w B (.slice none 0 0) [] := ⟨[], fun _ => [], World.ownsRow_nil _ _ _ _, fun i h => absurd h (by simp), fun i h => absurd h (by simp)⟩
theorem RowB.add {W w : World} {B : Nat} {ov : Value} {gs : List (Int × Tm)} {xs cs : List Value} {vals : Nat → List Value} {p : Int × Tm} (h : w.ownsRow B 51 8 ov (gs.length + 1) (xs ++ cs)) (hx : ∀ i, i < gs.length → ∀ q, q < 8 → xs[i * 8 + q]? = (vals i)[q]?) (hb : ∀ i (h : i < gs.length), BC W gs[i] (vals i)) (hl : xs.length = gs.length * 8) (hc : BC W p cs) : RowB W w B ov (gs ++ [p]) := by
  refine ⟨xs ++ cs, fun i => if i = gs.length then cs else vals i, by rw [List.length_append]; exact h, fun i hi q hq => ?_, fun i hi => ?_⟩
  · rw [List.length_append, List.length_singleton] at hi
    by_cases hij : i = gs.length
    · subst hij
      dsimp only
      rw [if_pos rfl, List.getElem?_append_right (by omega)]
      congr 1
      omega
    · dsimp only
      rw [if_neg hij, List.getElem?_append_left (by omega)]
      exact hx i (by omega) q hq
  · rw [List.length_append, List.length_singleton] at hi
    by_cases hij : i = gs.length
    · subst hij
      dsimp only
      rw [if_pos rfl, List.getElem_append_right (Nat.le_refl _)]
      simpa using hc
    · dsimp only
      rw [if_neg hij, List.getElem_append_left (by omega)]
      exact hb i (by omega)
theorem RowB.to {W w w' : World} {B : Nat} {ov : Value} {gs : List (Int × Tm)} (h : RowB W w B ov gs) (hb : Below w.heap.size w w') : RowB W w' B ov gs := by
  obtain ⟨xs, vals, h1, h2, h3⟩ := h
  exact ⟨xs, vals, row_to h1 hb, h2, h3⟩
theorem RowB.form {W w : World} {B : Nat} {ov : Value} {gs : List (Int × Tm)} (h : RowB W w B ov gs) : ∃ A c, ov = .slice A gs.length c := by
  obtain ⟨xs, vals, ⟨_, ⟨h1, h2⟩ | ⟨g, cap, cur, h1, _⟩⟩, _⟩ := h
  · exact ⟨none, 0, by rw [h1, h2]⟩
  · exact ⟨_, _, h1⟩
theorem RowB.done {W w : World} {B : Nat} {ov : Value} {gs : List (Int × Tm)} (h : RowB W w B ov gs) (hb : Below W.heap.size W w) : BL w ov gs := by
  obtain ⟨xs, vals, hr, h2, h3⟩ := h
  have h3' : ∀ i (h : i < gs.length), BC w gs[i] (vals i) := fun i hi => by obtain ⟨ct, e, q1, q2⟩ := h3 i hi; exact ⟨ct, e, q1, q2.to hb⟩
  have hr0 := hr
  obtain ⟨h1, ⟨e1, e2⟩ | ⟨g, cap, cur, e, h4, h5, h6, h7, _⟩⟩ := hr
  · subst e1
    exact ⟨none, 0, vals, by rw [e2], by rw [e2]; exact Nat.le_refl _, by unfold maxLen; omega, fun h => by omega, h3'⟩
  · subst e
    have hlt := (Go.World.ownsRow.lt hr0 g rfl).2
    exact ⟨some ⟨g, 0, none⟩, cap, vals, rfl, h6, h7, fun h0 => ⟨g, 0, rfl, hlt, fun i hi j hj => by rw [Nat.zero_add, ← h2 i hi j hj]; exact hr0.cellAt _ (by omega)⟩, h3'⟩
set_option maxHeartbeats 12800000 in
theorem rput_any {bs : List (Int × Tm)} {lv : Value} {x : Int} {t : Tm} {ct : List Value} (W : World) (hbl : BL W lv bs) (hx : i64ok x) (ht : TC W t ct) (hlen : bs.length ≤ 1000000) :
    Calls Tryz.prog 92 #[lv, .agg (Value.int .i64 x :: ct).toArray] W fun e W' => ∃ ov, e = .returned ov ∧ BL W' ov (insK (x, t) bs) ∧ Below W.heap.size W W' := by
  obtain ⟨k1, v1, st1, ng1, A1, n1, c1, B1, m1, d1, X1, l1, e1, hf1⟩ := ht.form
  subst hf1
  have HBC1 : Hid (BC W (x, t) [(Value.int .i64 x), (Value.int .i64 k1), (Value.int .i64 v1), (Value.string st1), (Value.bool ng1), (Value.slice A1 n1 c1), (Value.slice B1 m1 d1), (Value.slice X1 l1 e1)]) := ⟨_, rfl, hx, ht⟩
  obtain ⟨Ab, cb, csb, rfl, hcap, hm, hrow, hba⟩ := hbl
  have HR := Lib.hid hrow
  have HA := Lib.hid hba
  unfold maxLen at hm
  obtain ⟨n, hl⟩ : ∃ n, bs.length = n := ⟨_, rfl⟩
  rw [hl] at hcap hlen ⊢
  have HL := Lib.hid hl
  obtain ⟨i0, hi0, hz0, hz1, hz2⟩ := info_parts info_bind
  have HI0 := Lib.hid hi0
  have HZ0 := Lib.hid hz0
  have HZ1 := Lib.hid hz1
  have HZ2 := Lib.hid hz2
  clear hi0 hz0 hz1 hz2 hl hrow hba ht hx
  have HJ0 : Hid (Blk (W.alloc (.cells #[.int .i64 x, .int .i64 k1, .int .i64 v1, .string st1, .bool ng1, .slice A1 n1 c1, .slice B1 m1 d1, .slice X1 l1 e1] 51)) W.heap.size 51 #[.int .i64 x, .int .i64 k1, .int .i64 v1, .string st1, .bool ng1, .slice A1 n1 c1, .slice B1 m1 d1, .slice X1 l1 e1] ∧ Below W.heap.size W (W.alloc (.cells #[.int .i64 x, .int .i64 k1, .int .i64 v1, .string st1, .bool ng1, .slice A1 n1 c1, .slice B1 m1 d1, .slice X1 l1 e1] 51))) := ⟨Blk.new W _ _, below_one W _⟩
  go_enter Tryz.func92, Tryz.ntmps92
  go_wp2_with fail
  go_loopg [5, 6, 11] n (fun gk s5 s6 s11 wr => ∃ (j : Nat) (ov : Value) (dn : Bool) (gs : List (Int × Tm)), gk + j = n ∧ s11 = .int .i64 (j : Int) ∧ s6 = .bool dn ∧ s5 = ov ∧ Hid (RowB W wr (W.heap.size + 1) ov gs) ∧ Hid (insK (x, t) bs = gs ++ (if dn = true then bs.drop j else insK (x, t) (bs.drop j))) ∧ gs.length ≤ j + dn.toNat ∧ Hid (Blk wr W.heap.size 51 #[.int .i64 x, .int .i64 k1, .int .i64 v1, .string st1, .bool ng1, .slice A1 n1 c1, .slice B1 m1 d1, .slice X1 l1 e1] ∧ Below W.heap.size W wr))
  case atStart => exact ⟨0, _, false, [], by omega, rfl, rfl, rfl, RowB.nil _ _ _, by rw [List.drop_zero]; rfl, by simp, HJ0.out⟩
  case round =>
    clear HJ0
    obtain ⟨j, ov, dn, gs, hgj, rfl, rfl, rfl, HROW, HINS, hgl, HJ⟩ := hrel
    by_cases hj : j < n
    · have hja : j < bs.length := by rw [HL.out]; exact hj
      obtain ⟨b, o, k5, v5, st5, ng5, A5, n5, c5, B5, m5, d5, X5, l5, e5, hAr, htc, hlt, z0, z1, z2, z3, z4, z5, z6, z7⟩ := bind_cells HR.out HA.out HJ.out.2 hja
      subst hAr
      have HDR := Lib.hid (List.drop_eq_getElem_cons hja)
      have HBC5 : Hid (BC W bs[j] [(Value.int .i64 (bs[j]).1), (Value.int .i64 k5), (Value.int .i64 v5), (Value.string st5), (Value.bool ng5), (Value.slice A5 n5 c5), (Value.slice B5 m5 d5), (Value.slice X5 l5 e5)]) := by
        obtain ⟨ct, e, q1, q2⟩ := HA.out j hja
        exact ⟨_, rfl, q1, htc⟩
      have HE : Hid (∃ y, (bs[j]).1 = y) := ⟨_, rfl⟩
      generalize hbj : bs[j] = bj at *
      obtain ⟨y, tj⟩ := bj
      dsimp only at HBC5 z0 HE ⊢
      clear hbj HE htc hlt
      have HJ8 : Hid (Blk (wr.alloc (.cells #[.int .i64 y, .int .i64 k5, .int .i64 v5, .string st5, .bool ng5, .slice A5 n5 c5, .slice B5 m5 d5, .slice X5 l5 e5] 51)) W.heap.size 51 #[.int .i64 x, .int .i64 k1, .int .i64 v1, .string st1, .bool ng1, .slice A1 n1 c1, .slice B1 m1 d1, .slice X1 l1 e1] ∧ Below W.heap.size W (wr.alloc (.cells #[.int .i64 y, .int .i64 k5, .int .i64 v5, .string st5, .bool ng5, .slice A5 n5 c5, .slice B5 m5 d5, .slice X5 l5 e5] 51))) := ⟨HJ.out.1.to (below_one _ _), HJ.out.2.trans ((below_one _ _).mono HJ.out.2.size)⟩
      have HK9 : Hid (Blk (wr.alloc (.cells #[.int .i64 y, .int .i64 k5, .int .i64 v5, .string st5, .bool ng5, .slice A5 n5 c5, .slice B5 m5 d5, .slice X5 l5 e5] 51)) wr.heap.size 51 #[.int .i64 y, .int .i64 k5, .int .i64 v5, .string st5, .bool ng5, .slice A5 n5 c5, .slice B5 m5 d5, .slice X5 l5 e5]) := Blk.new wr _ _
      have HR8 := Lib.hid (HROW.out.to (below_one wr (.cells #[.int .i64 y, .int .i64 k5, .int .i64 v5, .string st5, .bool ng5, .slice A5 n5 c5, .slice B5 m5 d5, .slice X5 l5 e5] 51)))
      generalize hw9 : (wr.alloc (.cells #[.int .i64 y, .int .i64 k5, .int .i64 v5, .string st5, .bool ng5, .slice A5 n5 c5, .slice B5 m5 d5, .slice X5 l5 e5] 51)) = w9 at *
      have hlt9 : wr.heap.size < w9.heap.size := HK9.out.lt
      generalize hbk : wr.heap.size = bk at *
      cases dn with
      | true =>
        simp only [Bool.toNat_true] at hgl
        have HI2 : Hid (insK (x, t) bs = (gs ++ [(y, tj)]) ++ (if true = true then bs.drop (j + 1) else insK (x, t) (bs.drop (j + 1)))) := by have := HINS.out; rw [HDR.out] at this; show _ = _; simpa using this
        clear HINS HDR HROW HJ HR HA
        have kk0 := HK9.out.cell 0
        have kk1 := HK9.out.cell 1
        have kk2 := HK9.out.cell 2
        have kk3 := HK9.out.cell 3
        have kk4 := HK9.out.cell 4
        have kk5 := HK9.out.cell 5
        have kk6 := HK9.out.cell 6
        have kk7 := HK9.out.cell 7
        simp only [List.getElem?_toArray, List.getElem?_cons_zero, List.getElem?_cons_succ] at kk0 kk1 kk2 kk3 kk4 kk5 kk6 kk7
        obtain ⟨xs1, vals1, hr1, hx1, hb1⟩ := HR8.out
        have HR1 := Lib.hid (row_to hr1 (below_one w9 (.cells #[.int .i64 y, .int .i64 k5, .int .i64 v5, .string st5, .bool ng5, .slice A5 n5 c5, .slice B5 m5 d5, .slice X5 l5 e5] 51)))
        have HX1 := Lib.hid hx1
        have HY1 := Lib.hid hb1
        have HN1 := Lib.hid (World.news_of_block (Blk.new w9 51 #[.int .i64 y, .int .i64 k5, .int .i64 v5, .string st5, .bool ng5, .slice A5 n5 c5, .slice B5 m5 d5, .slice X5 l5 e5]))
        have HO1 : Hid (∀ u ∈ [(Value.int .i64 y), (Value.int .i64 k5), (Value.int .i64 v5), (Value.string st5), (Value.bool ng5), (Value.slice A5 n5 c5), (Value.slice B5 m5 d5), (Value.slice X5 l5 e5)], u.oneCell' = true) := fun u hu => by
          simp only [List.mem_cons, List.not_mem_nil, or_false] at hu
          rcases hu with rfl | rfl | rfl | rfl | rfl | rfl | rfl | rfl <;> rfl
        have HS1 : Hid (W.heap.size + 1 ≤ (w9.alloc (.cells #[.int .i64 y, .int .i64 k5, .int .i64 v5, .string st5, .bool ng5, .slice A5 n5 c5, .slice B5 m5 d5, .slice X5 l5 e5] 51)).heap.size) := Nat.le_trans (Nat.succ_le_of_lt HJ8.out.1.lt) (below_one _ _).size
        have HK1 : Hid (∀ w4, (w9.alloc (.cells #[.int .i64 y, .int .i64 k5, .int .i64 v5, .string st5, .bool ng5, .slice A5 n5 c5, .slice B5 m5 d5, .slice X5 l5 e5] 51)).grownBy w4 u5.ownBlock → (Blk w4 W.heap.size 51 #[.int .i64 x, .int .i64 k1, .int .i64 v1, .string st1, .bool ng1, .slice A1 n1 c1, .slice B1 m1 d1, .slice X1 l1 e1] ∧ Below W.heap.size W w4) ∧ True) := fun w4 hg => by
          have hlt := Go.World.ownsRow.lt HR1.out
          exact ⟨⟨(hg.block _ (HJ8.out.1.to (below_one _ _)).lt (fun e => by have := (hlt _ e.symm).1; omega)).trans (HJ8.out.1.to (below_one _ _)), (HJ8.out.2.trans ((below_one _ _).mono HJ8.out.2.size)).grown hg (Nat.le_trans HJ8.out.2.size (below_one _ _).size) (fun k hk => by have := (hlt k hk).1; omega)⟩, trivial⟩
        clear hr1 hx1 hb1
        go_wp2_with (at_builtin; go_must (refine wpList_append_lies _ rfl _ _ 28 rfl (W.heap.size + 1) 51 i0 (.agg (Value.int .i64 0 :: zt).toArray) 8 120 Tryz.underlying28 HI0.out HZ0.out HZ1.out HZ2.out rfl (by decide) u5 gs.length xs1 rfl HR1.out ⟨w9.heap.size, 0, none⟩ 1 1 [(Value.int .i64 y), (Value.int .i64 k5), (Value.int .i64 v5), (Value.string st5), (Value.bool ng5), (Value.slice A5 n5 c5), (Value.slice B5 m5 d5), (Value.slice X5 l5 e5)] rfl rfl HN1.out HO1.out (by decide) (by unfold maxLen; omega) (by omega) (by exact HS1.out) _ rfl ?_); intro g1 cap1 y1 hown hgrow hat hlt4; have HJ1 := Lib.hid (HK1.out y1 hgrow); have HRB1 : Hid (RowB W y1 (W.heap.size + 1) (.slice (some ⟨g1, 0, none⟩) (gs.length + 1) cap1) (gs ++ [(y, tj)])) := RowB.add hown HX1.out HY1.out HR1.out.1 HBC5.out; have HAT1 := Lib.hid hat; clear hown hgrow hat hlt4)
        go_roundg (gk - 1)
        case measure => omega
        case rel => exact ⟨j + 1, _, true, gs ++ [(y, tj)], by omega, by go_num, rfl, rfl, HRB1.out, HI2.out, by simp; omega, HJ1.out.1⟩
      | false =>
        simp only [Bool.toNat_false] at hgl
        have hh0 := HJ8.out.1.cell 0
        have hh1 := HJ8.out.1.cell 1
        have hh2 := HJ8.out.1.cell 2
        have hh3 := HJ8.out.1.cell 3
        have hh4 := HJ8.out.1.cell 4
        have hh5 := HJ8.out.1.cell 5
        have hh6 := HJ8.out.1.cell 6
        have hh7 := HJ8.out.1.cell 7
        simp only [List.getElem?_toArray, List.getElem?_cons_zero, List.getElem?_cons_succ] at hh0 hh1 hh2 hh3 hh4 hh5 hh6 hh7
        have kk0 := HK9.out.cell 0
        have kk1 := HK9.out.cell 1
        have kk2 := HK9.out.cell 2
        have kk3 := HK9.out.cell 3
        have kk4 := HK9.out.cell 4
        have kk5 := HK9.out.cell 5
        have kk6 := HK9.out.cell 6
        have kk7 := HK9.out.cell 7
        simp only [List.getElem?_toArray, List.getElem?_cons_zero, List.getElem?_cons_succ] at kk0 kk1 kk2 kk3 kk4 kk5 kk6 kk7
        by_cases hxy : x < y
        · have hxd : decide (x < y) = true := by simp [hxy]
          have HI2 : Hid (insK (x, t) bs = ((gs ++ [(x, t)]) ++ [(y, tj)]) ++ (if true = true then bs.drop (j + 1) else insK (x, t) (bs.drop (j + 1)))) := by have := HINS.out; rw [HDR.out, insK, if_pos hxy] at this; show _ = _; simpa using this
          have HNB : Hid (∀ g, u5.ownBlock = some g → g < bk) := fun g hg => by
            obtain ⟨_, _, hr, _⟩ := HROW.out
            have := (Go.World.ownsRow.lt hr g hg).2
            omega
          clear HINS HDR HROW HJ HR HA hxy
          obtain ⟨xs1, vals1, hr1, hx1, hb1⟩ := HR8.out
          have HR1 := Lib.hid (row_to hr1 (below_one w9 (.cells #[.int .i64 x, .int .i64 k1, .int .i64 v1, .string st1, .bool ng1, .slice A1 n1 c1, .slice B1 m1 d1, .slice X1 l1 e1] 51)))
          have HX1 := Lib.hid hx1
          have HY1 := Lib.hid hb1
          have HN1 := Lib.hid (World.news_of_block (Blk.new w9 51 #[.int .i64 x, .int .i64 k1, .int .i64 v1, .string st1, .bool ng1, .slice A1 n1 c1, .slice B1 m1 d1, .slice X1 l1 e1]))
          have HO1 : Hid (∀ u ∈ [(Value.int .i64 x), (Value.int .i64 k1), (Value.int .i64 v1), (Value.string st1), (Value.bool ng1), (Value.slice A1 n1 c1), (Value.slice B1 m1 d1), (Value.slice X1 l1 e1)], u.oneCell' = true) := fun u hu => by
            simp only [List.mem_cons, List.not_mem_nil, or_false] at hu
            rcases hu with rfl | rfl | rfl | rfl | rfl | rfl | rfl | rfl <;> rfl
          have HS1 : Hid (W.heap.size + 1 ≤ (w9.alloc (.cells #[.int .i64 x, .int .i64 k1, .int .i64 v1, .string st1, .bool ng1, .slice A1 n1 c1, .slice B1 m1 d1, .slice X1 l1 e1] 51)).heap.size) := Nat.le_trans (Nat.succ_le_of_lt HJ8.out.1.lt) (below_one _ _).size
          have HK1 : Hid (∀ w4, (w9.alloc (.cells #[.int .i64 x, .int .i64 k1, .int .i64 v1, .string st1, .bool ng1, .slice A1 n1 c1, .slice B1 m1 d1, .slice X1 l1 e1] 51)).grownBy w4 u5.ownBlock → (Blk w4 W.heap.size 51 #[.int .i64 x, .int .i64 k1, .int .i64 v1, .string st1, .bool ng1, .slice A1 n1 c1, .slice B1 m1 d1, .slice X1 l1 e1] ∧ Below W.heap.size W w4) ∧ Blk w4 bk 51 #[.int .i64 y, .int .i64 k5, .int .i64 v5, .string st5, .bool ng5, .slice A5 n5 c5, .slice B5 m5 d5, .slice X5 l5 e5]) := fun w4 hg => by
            have hlt := Go.World.ownsRow.lt HR1.out
            exact ⟨⟨(hg.block _ (HJ8.out.1.to (below_one _ _)).lt (fun e => by have := (hlt _ e.symm).1; omega)).trans (HJ8.out.1.to (below_one _ _)), (HJ8.out.2.trans ((below_one _ _).mono HJ8.out.2.size)).grown hg (Nat.le_trans HJ8.out.2.size (below_one _ _).size) (fun k hk => by have := (hlt k hk).1; omega)⟩, (hg.block _ (HK9.out.to (below_one _ _)).lt (fun e => by have := HNB.out _ e.symm; omega)).trans (HK9.out.to (below_one _ _))⟩
          clear hr1 hx1 hb1
          go_wp2_with (first
            | (at_builtin
               (refine wpList_append_lies _ rfl _ _ 28 rfl (W.heap.size + 1) 51 i0 (.agg (Value.int .i64 0 :: zt).toArray) 8 120 Tryz.underlying28 HI0.out HZ0.out HZ1.out HZ2.out rfl (by decide) u5 gs.length xs1 rfl HR1.out ⟨w9.heap.size, 0, none⟩ 1 1 [(Value.int .i64 x), (Value.int .i64 k1), (Value.int .i64 v1), (Value.string st1), (Value.bool ng1), (Value.slice A1 n1 c1), (Value.slice B1 m1 d1), (Value.slice X1 l1 e1)] rfl rfl HN1.out HO1.out (by decide) (by unfold maxLen; omega) (by omega) (by exact HS1.out) _ rfl ?_)
               intro g1 cap1 y1 hown hgrow hat hlt4
               have HJ1 := Lib.hid (HK1.out y1 hgrow)
               have HRB1 : Hid (RowB W y1 (W.heap.size + 1) (.slice (some ⟨g1, 0, none⟩) (gs.length + 1) cap1) (gs ++ [(x, t)])) := RowB.add hown HX1.out HY1.out HR1.out.1 HBC1.out
               have HAT1 := Lib.hid hat
               clear hown hgrow hat hlt4
               clear hh0 hh1 hh2 hh3 hh4 hh5 hh6 hh7 kk0 kk1 kk2 kk3 kk4 kk5 kk6 kk7
               have kk0 := HJ1.out.2.cell 0
               have kk1 := HJ1.out.2.cell 1
               have kk2 := HJ1.out.2.cell 2
               have kk3 := HJ1.out.2.cell 3
               have kk4 := HJ1.out.2.cell 4
               have kk5 := HJ1.out.2.cell 5
               have kk6 := HJ1.out.2.cell 6
               have kk7 := HJ1.out.2.cell 7
               simp only [List.getElem?_toArray, List.getElem?_cons_zero, List.getElem?_cons_succ] at kk0 kk1 kk2 kk3 kk4 kk5 kk6 kk7
               have hgl2 : (gs ++ [(x, t)]).length = gs.length + 1 := by simp
               obtain ⟨xs2, vals2, hr2, hx2, hb2⟩ := HRB1.out
               have HR2 := Lib.hid (row_to hr2 (below_one y1 (.cells #[.int .i64 y, .int .i64 k5, .int .i64 v5, .string st5, .bool ng5, .slice A5 n5 c5, .slice B5 m5 d5, .slice X5 l5 e5] 51)))
               have HX2 := Lib.hid hx2
               have HY2 := Lib.hid hb2
               have HN2 := Lib.hid (World.news_of_block (Blk.new y1 51 #[.int .i64 y, .int .i64 k5, .int .i64 v5, .string st5, .bool ng5, .slice A5 n5 c5, .slice B5 m5 d5, .slice X5 l5 e5]))
               have HO2 : Hid (∀ u ∈ [(Value.int .i64 y), (Value.int .i64 k5), (Value.int .i64 v5), (Value.string st5), (Value.bool ng5), (Value.slice A5 n5 c5), (Value.slice B5 m5 d5), (Value.slice X5 l5 e5)], u.oneCell' = true) := fun u hu => by
                 simp only [List.mem_cons, List.not_mem_nil, or_false] at hu
                 rcases hu with rfl | rfl | rfl | rfl | rfl | rfl | rfl | rfl <;> rfl
               have HS2 : Hid (W.heap.size + 1 ≤ (y1.alloc (.cells #[.int .i64 y, .int .i64 k5, .int .i64 v5, .string st5, .bool ng5, .slice A5 n5 c5, .slice B5 m5 d5, .slice X5 l5 e5] 51)).heap.size) := Nat.le_trans (Nat.succ_le_of_lt HJ1.out.1.1.lt) (below_one _ _).size
               have HK2 : Hid (∀ w4, (y1.alloc (.cells #[.int .i64 y, .int .i64 k5, .int .i64 v5, .string st5, .bool ng5, .slice A5 n5 c5, .slice B5 m5 d5, .slice X5 l5 e5] 51)).grownBy w4 (Value.slice (some ⟨g1, 0, none⟩) (gs.length + 1) cap1).ownBlock → (Blk w4 W.heap.size 51 #[.int .i64 x, .int .i64 k1, .int .i64 v1, .string st1, .bool ng1, .slice A1 n1 c1, .slice B1 m1 d1, .slice X1 l1 e1] ∧ Below W.heap.size W w4) ∧ True) := fun w4 hg => by
                 have hlt := Go.World.ownsRow.lt HR2.out
                 exact ⟨⟨(hg.block _ (HJ1.out.1.1.to (below_one _ _)).lt (fun e => by have := (hlt _ e.symm).1; omega)).trans (HJ1.out.1.1.to (below_one _ _)), (HJ1.out.1.2.trans ((below_one _ _).mono HJ1.out.1.2.size)).grown hg (Nat.le_trans HJ1.out.1.2.size (below_one _ _).size) (fun k hk => by have := (hlt k hk).1; omega)⟩, trivial⟩
               clear hr2 hx2 hb2)
            | (at_builtin
               (refine wpList_append_lies _ rfl _ _ 28 rfl (W.heap.size + 1) 51 i0 (.agg (Value.int .i64 0 :: zt).toArray) 8 120 Tryz.underlying28 HI0.out HZ0.out HZ1.out HZ2.out rfl (by decide) (Value.slice (some ⟨g1, 0, none⟩) (gs.length + 1) cap1) (gs ++ [(x, t)]).length xs2 rfl HR2.out ⟨y1.heap.size, 0, none⟩ 1 1 [(Value.int .i64 y), (Value.int .i64 k5), (Value.int .i64 v5), (Value.string st5), (Value.bool ng5), (Value.slice A5 n5 c5), (Value.slice B5 m5 d5), (Value.slice X5 l5 e5)] rfl rfl HN2.out HO2.out (by decide) (by unfold maxLen; omega) (by omega) (by exact HS2.out) _ rfl ?_)
               intro g2 cap2 y2 hown hgrow hat hlt4
               have HJ2 := Lib.hid (HK2.out y2 hgrow)
               have HRB2 : Hid (RowB W y2 (W.heap.size + 1) (.slice (some ⟨g2, 0, none⟩) ((gs ++ [(x, t)]).length + 1) cap2) ((gs ++ [(x, t)]) ++ [(y, tj)])) := RowB.add hown HX2.out HY2.out HR2.out.1 HBC5.out
               have HAT2 := Lib.hid hat
               clear hown hgrow hat hlt4))
          go_roundg (gk - 1)
          case measure => omega
          case rel => exact ⟨j + 1, _, true, (gs ++ [(x, t)]) ++ [(y, tj)], by omega, by go_num, rfl, rfl, (by have h := HRB2.out; simp only [List.length_append, List.length_cons, List.length_nil, Nat.zero_add] at h; exact h), HI2.out, by simp; omega, HJ2.out.1⟩
        · have hxd : decide (x < y) = false := by simp [hxy]
          have HI2 : Hid (insK (x, t) bs = (gs ++ [(y, tj)]) ++ (if false = true then bs.drop (j + 1) else insK (x, t) (bs.drop (j + 1)))) := by have := HINS.out; rw [HDR.out, insK, if_neg hxy] at this; show _ = _; simpa using this
          clear HINS HDR HROW HJ HR HA hxy
          obtain ⟨xs1, vals1, hr1, hx1, hb1⟩ := HR8.out
          have HR1 := Lib.hid (row_to hr1 (below_one w9 (.cells #[.int .i64 y, .int .i64 k5, .int .i64 v5, .string st5, .bool ng5, .slice A5 n5 c5, .slice B5 m5 d5, .slice X5 l5 e5] 51)))
          have HX1 := Lib.hid hx1
          have HY1 := Lib.hid hb1
          have HN1 := Lib.hid (World.news_of_block (Blk.new w9 51 #[.int .i64 y, .int .i64 k5, .int .i64 v5, .string st5, .bool ng5, .slice A5 n5 c5, .slice B5 m5 d5, .slice X5 l5 e5]))
          have HO1 : Hid (∀ u ∈ [(Value.int .i64 y), (Value.int .i64 k5), (Value.int .i64 v5), (Value.string st5), (Value.bool ng5), (Value.slice A5 n5 c5), (Value.slice B5 m5 d5), (Value.slice X5 l5 e5)], u.oneCell' = true) := fun u hu => by
            simp only [List.mem_cons, List.not_mem_nil, or_false] at hu
            rcases hu with rfl | rfl | rfl | rfl | rfl | rfl | rfl | rfl <;> rfl
          have HS1 : Hid (W.heap.size + 1 ≤ (w9.alloc (.cells #[.int .i64 y, .int .i64 k5, .int .i64 v5, .string st5, .bool ng5, .slice A5 n5 c5, .slice B5 m5 d5, .slice X5 l5 e5] 51)).heap.size) := Nat.le_trans (Nat.succ_le_of_lt HJ8.out.1.lt) (below_one _ _).size
          have HK1 : Hid (∀ w4, (w9.alloc (.cells #[.int .i64 y, .int .i64 k5, .int .i64 v5, .string st5, .bool ng5, .slice A5 n5 c5, .slice B5 m5 d5, .slice X5 l5 e5] 51)).grownBy w4 u5.ownBlock → (Blk w4 W.heap.size 51 #[.int .i64 x, .int .i64 k1, .int .i64 v1, .string st1, .bool ng1, .slice A1 n1 c1, .slice B1 m1 d1, .slice X1 l1 e1] ∧ Below W.heap.size W w4) ∧ True) := fun w4 hg => by
            have hlt := Go.World.ownsRow.lt HR1.out
            exact ⟨⟨(hg.block _ (HJ8.out.1.to (below_one _ _)).lt (fun e => by have := (hlt _ e.symm).1; omega)).trans (HJ8.out.1.to (below_one _ _)), (HJ8.out.2.trans ((below_one _ _).mono HJ8.out.2.size)).grown hg (Nat.le_trans HJ8.out.2.size (below_one _ _).size) (fun k hk => by have := (hlt k hk).1; omega)⟩, trivial⟩
          clear hr1 hx1 hb1
          go_wp2_with (at_builtin; go_must (refine wpList_append_lies _ rfl _ _ 28 rfl (W.heap.size + 1) 51 i0 (.agg (Value.int .i64 0 :: zt).toArray) 8 120 Tryz.underlying28 HI0.out HZ0.out HZ1.out HZ2.out rfl (by decide) u5 gs.length xs1 rfl HR1.out ⟨w9.heap.size, 0, none⟩ 1 1 [(Value.int .i64 y), (Value.int .i64 k5), (Value.int .i64 v5), (Value.string st5), (Value.bool ng5), (Value.slice A5 n5 c5), (Value.slice B5 m5 d5), (Value.slice X5 l5 e5)] rfl rfl HN1.out HO1.out (by decide) (by unfold maxLen; omega) (by omega) (by exact HS1.out) _ rfl ?_); intro g1 cap1 y1 hown hgrow hat hlt4; have HJ1 := Lib.hid (HK1.out y1 hgrow); have HRB1 : Hid (RowB W y1 (W.heap.size + 1) (.slice (some ⟨g1, 0, none⟩) (gs.length + 1) cap1) (gs ++ [(y, tj)])) := RowB.add hown HX1.out HY1.out HR1.out.1 HBC5.out; have HAT1 := Lib.hid hat; clear hown hgrow hat hlt4)
          go_roundg (gk - 1)
          case measure => omega
          case rel => exact ⟨j + 1, _, false, gs ++ [(y, tj)], by omega, by go_num, rfl, rfl, HRB1.out, HI2.out, by simp; omega, HJ1.out.1⟩
    · obtain rfl : n = j := by omega
      have HDR : Hid (bs.drop n = []) := List.drop_eq_nil_of_le (by rw [HL.out]; exact Nat.le_refl _)
      cases dn with
      | true =>
        simp only [Bool.toNat_true] at hgl
        have HINS2 : Hid (insK (x, t) bs = gs) := by have := HINS.out; rw [HDR.out] at this; show _ = _; simpa using this
        clear HINS HDR
        go_wp2_with fail
        go_ret
        rw [HINS2.out]
        exact ⟨_, rfl, HROW.out.done HJ.out.2, HJ.out.2⟩
      | false =>
        simp only [Bool.toNat_false] at hgl
        have HINS2 : Hid (insK (x, t) bs = gs ++ [(x, t)]) := by have := HINS.out; rw [HDR.out] at this; show _ = _; simpa [insK] using this
        clear HINS HDR
        have hh0 := HJ.out.1.cell 0
        have hh1 := HJ.out.1.cell 1
        have hh2 := HJ.out.1.cell 2
        have hh3 := HJ.out.1.cell 3
        have hh4 := HJ.out.1.cell 4
        have hh5 := HJ.out.1.cell 5
        have hh6 := HJ.out.1.cell 6
        have hh7 := HJ.out.1.cell 7
        simp only [List.getElem?_toArray, List.getElem?_cons_zero, List.getElem?_cons_succ] at hh0 hh1 hh2 hh3 hh4 hh5 hh6 hh7
        obtain ⟨xs1, vals1, hr1, hx1, hb1⟩ := HROW.out
        have HR1 := Lib.hid (row_to hr1 (below_one wr (.cells #[.int .i64 x, .int .i64 k1, .int .i64 v1, .string st1, .bool ng1, .slice A1 n1 c1, .slice B1 m1 d1, .slice X1 l1 e1] 51)))
        have HX1 := Lib.hid hx1
        have HY1 := Lib.hid hb1
        have HN1 := Lib.hid (World.news_of_block (Blk.new wr 51 #[.int .i64 x, .int .i64 k1, .int .i64 v1, .string st1, .bool ng1, .slice A1 n1 c1, .slice B1 m1 d1, .slice X1 l1 e1]))
        have HO1 : Hid (∀ u ∈ [(Value.int .i64 x), (Value.int .i64 k1), (Value.int .i64 v1), (Value.string st1), (Value.bool ng1), (Value.slice A1 n1 c1), (Value.slice B1 m1 d1), (Value.slice X1 l1 e1)], u.oneCell' = true) := fun u hu => by
          simp only [List.mem_cons, List.not_mem_nil, or_false] at hu
          rcases hu with rfl | rfl | rfl | rfl | rfl | rfl | rfl | rfl <;> rfl
        have HS1 : Hid (W.heap.size + 1 ≤ (wr.alloc (.cells #[.int .i64 x, .int .i64 k1, .int .i64 v1, .string st1, .bool ng1, .slice A1 n1 c1, .slice B1 m1 d1, .slice X1 l1 e1] 51)).heap.size) := Nat.le_trans (Nat.succ_le_of_lt HJ.out.1.lt) (below_one _ _).size
        have HK1 : Hid (∀ w4, (wr.alloc (.cells #[.int .i64 x, .int .i64 k1, .int .i64 v1, .string st1, .bool ng1, .slice A1 n1 c1, .slice B1 m1 d1, .slice X1 l1 e1] 51)).grownBy w4 u5.ownBlock → (Blk w4 W.heap.size 51 #[.int .i64 x, .int .i64 k1, .int .i64 v1, .string st1, .bool ng1, .slice A1 n1 c1, .slice B1 m1 d1, .slice X1 l1 e1] ∧ Below W.heap.size W w4) ∧ True) := fun w4 hg => by
          have hlt := Go.World.ownsRow.lt HR1.out
          exact ⟨⟨(hg.block _ (HJ.out.1.to (below_one _ _)).lt (fun e => by have := (hlt _ e.symm).1; omega)).trans (HJ.out.1.to (below_one _ _)), (HJ.out.2.trans ((below_one _ _).mono HJ.out.2.size)).grown hg (Nat.le_trans HJ.out.2.size (below_one _ _).size) (fun k hk => by have := (hlt k hk).1; omega)⟩, trivial⟩
        clear hr1 hx1 hb1
        go_wp2_with (at_builtin; go_must (refine wpList_append_lies _ rfl _ _ 28 rfl (W.heap.size + 1) 51 i0 (.agg (Value.int .i64 0 :: zt).toArray) 8 120 Tryz.underlying28 HI0.out HZ0.out HZ1.out HZ2.out rfl (by decide) u5 gs.length xs1 rfl HR1.out ⟨wr.heap.size, 0, none⟩ 1 1 [(Value.int .i64 x), (Value.int .i64 k1), (Value.int .i64 v1), (Value.string st1), (Value.bool ng1), (Value.slice A1 n1 c1), (Value.slice B1 m1 d1), (Value.slice X1 l1 e1)] rfl rfl HN1.out HO1.out (by decide) (by unfold maxLen; omega) (by omega) (by exact HS1.out) _ rfl ?_); intro g1 cap1 y1 hown hgrow hat hlt4; have HJ1 := Lib.hid (HK1.out y1 hgrow); have HRB1 : Hid (RowB W y1 (W.heap.size + 1) (.slice (some ⟨g1, 0, none⟩) (gs.length + 1) cap1) (gs ++ [(x, t)])) := RowB.add hown HX1.out HY1.out HR1.out.1 HBC1.out; have HAT1 := Lib.hid hat; clear hown hgrow hat hlt4)
        go_wp2_with fail
        go_ret
        rw [HINS2.out]
        exact ⟨_, rfl, HRB1.out.done HJ1.out.1.2, HJ1.out.1.2⟩
end Go.Proofs.YtkfnpcilanheiaaGreat

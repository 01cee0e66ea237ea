/- number.made. Conditions: at most 50000 limbs. -/
import Derived.Test.YtfiedhopgmgnoaaDoorRaw
namespace Go.Proofs.YtfiedhopgmgnoaaDoor
open Go.RowKit NumB
set_option linter.unusedVariables false
set_option linter.unusedSimpArgs false

theorem NumV.form {w : World} {v : Value} {neg : Bool} {x y : Nat} (h : NumV w v neg x y) : ∃ A n c A' m d, v = .agg #[.bool neg, .slice A n c, .slice A' m d] ∧ n = (digs W32 x).length ∧ m = (digs W32 y).length := by
  obtain ⟨va, vb, rfl, h1, h2⟩ := h
  obtain ⟨A, n, c, rfl, e1⟩ := h1.form
  obtain ⟨A', m, d, rfl, e2⟩ := h2.form
  exact ⟨A, n, c, A', m, d, rfl, e1, e2⟩
theorem NumV.parts {w : World} {va vb : Value} {s neg : Bool} {x y : Nat} (h : NumV w (.agg #[.bool s, va, vb]) neg x y) : s = neg ∧ Nat32 w va x ∧ Nat32 w vb y := by
  obtain ⟨va', vb', e, h1, h2⟩ := h
  simp only [Value.agg.injEq, Array.mk.injEq, List.cons.injEq, Value.bool.injEq, and_true] at e
  obtain ⟨rfl, rfl, rfl⟩ := e
  exact ⟨rfl, h1, h2⟩
theorem NumV.put3 {w : World} {v : Value} {neg s : Bool} {x y g : Nat} {t : TypeId} {A A' : Option Addr} {n m ca cb : Nat} (h : NumV w v neg x y) (hg : Blk w g t #[.bool s, .slice A n ca, .slice A' m cb]) (a b c : Value) : NumV (put3 w g a b c) v neg x y := by
  obtain ⟨va, vb, rfl, h1, h2⟩ := h
  exact ⟨va, vb, rfl, h1.put3 hg a b c, h2.put3 hg a b c⟩

set_option maxRecDepth 100000 in
set_option maxHeartbeats 3200000 in
theorem made_any (neg : Bool) (x y : Nat) (va vb : Value) (w : World) (ha : Nat32 w va x) (hb : Nat32 w vb y) (hy0 : 0 < y) (hx : (digs W32 x).length ≤ 50000) (hy : (digs W32 y).length ≤ 50000) :
    Calls Tryd.prog 36 #[.bool neg, va, vb] w (FitPost w (neg && decide (0 < x)) (x / Nat.gcd x y) (y / Nat.gcd x y)) := by
  have HNX : ∀ o : Obj, Hid (Nat32 (w.alloc o) va x) := fun o => ha.to (below_one w o)
  have HNY : ∀ o : Obj, Hid (Nat32 (w.alloc o) vb y) := fun o => hb.to (below_one w o)
  have HBK := Lib.hid (nilBlk w)
  have HX := Lib.hid (And.intro hy0 (And.intro hx hy))
  clear ha hb hy0 hx hy
  have HR := fun (W : World) (h1 : Nat32 W va x) (h2 : Nat32 W vb y) => Lib.hid (raw_any neg x y va vb W h1 h2 HX.out.1 HX.out.2.1 HX.out.2.2)
  generalize (neg && decide (0 < x)) = sg at *
  generalize x / Nat.gcd x y = x' at *
  generalize y / Nat.gcd x y = y' at *
  have HR := Lib.hid HR
  go_enter Tryd.func36, Tryd.ntmps36
  go_wp2_with fail
  refine ((HR.out _ (by exact (HNX _).out) (by exact (HNY _).out)).out).mono ?_
  rintro e w1 ⟨v1, rfl, hn1, hb1⟩
  have HN1 := Lib.hid hn1
  have HB1 := Lib.hid hb1
  clear hn1 hb1
  go_wp2_with fail
  refine (fits_any sg x' y' _ _ (by exact HN1.out)).mono ?_
  rintro e w2 (⟨hf, v2, rfl, hn2, hb2⟩ | ⟨hf, rfl, hb2⟩)
  · have hblk := (HBK.out.to HB1.out).to hb2
    have HBE : Hid (Below w.heap.size w w2) := ((below_one w _).trans (HB1.out.mono (below_one w _).size)).trans (hb2.mono (Nat.le_trans (below_one w _).size HB1.out.size))
    have HN2 := Lib.hid hn2
    have HF := Lib.hid hf
    have hc0 := hblk.cell 0
    have hc1 := hblk.cell 1
    have hc2 := hblk.cell 2
    have hf0 := hblk.frozen 0
    have hf1 := hblk.frozen 1
    have hf2 := hblk.frozen 2
    have HBLK := Lib.hid hblk
    clear hblk hn2 hb2 hf HB1
    simp only [List.getElem?_toArray, List.getElem?_cons_zero, List.getElem?_cons_succ] at hc0 hc1 hc2
    obtain ⟨A, n, c, A', m, d, rfl, hl1, hl2⟩ := HN2.out.form
    clear hl1 hl2
    go_wp2
    refine bodyPost_ret (v := .tuple #[.agg #[.bool sg, .slice A n c, .slice A' m d], .int .i64 0]) (by rw [results_cell_tmp rfl]; go_simp) rfl (.inl ⟨HF.out, _, rfl, ?_, ?_⟩)
    · exact HN2.out.put3 HBLK.out _ _ _
    · exact put3_below HBE.out (Nat.le_refl _) _ _ _
  · have hblk := (HBK.out.to HB1.out).to hb2
    have HBE : Hid (Below w.heap.size w w2) := ((below_one w _).trans (HB1.out.mono (below_one w _).size)).trans (hb2.mono (Nat.le_trans (below_one w _).size HB1.out.size))
    have HF := Lib.hid hf
    have hc0 := hblk.cell 0
    have hc1 := hblk.cell 1
    have hc2 := hblk.cell 2
    have hf0 := hblk.frozen 0
    have hf1 := hblk.frozen 1
    have hf2 := hblk.frozen 2
    clear hblk hb2 hf HB1
    simp only [List.getElem?_toArray, List.getElem?_cons_zero, List.getElem?_cons_succ] at hc0 hc1 hc2
    unfold zeroNum
    go_wp2
    refine bodyPost_ret (v := .tuple #[zeroNum, .int .i64 3]) (by rw [results_cell_tmp rfl]; go_simp; rfl) rfl (.inr ⟨HF.out, rfl, ?_⟩)
    exact put3_below HBE.out (Nat.le_refl _) _ _ _
end Go.Proofs.YtfiedhopgmgnoaaDoor

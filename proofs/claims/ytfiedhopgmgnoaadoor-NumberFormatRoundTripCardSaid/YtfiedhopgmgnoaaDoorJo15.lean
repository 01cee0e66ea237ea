/- number.made. Conditions: at most 50000 limbs. number.check: the first error of a list of numbers. -/
import Derived.Test.YtfiedhopgmgnoaaDoorJo12
import Derived.Test.YtfiedhopgmgnoaaDoorJo14
set_option linter.unusedVariables false
set_option linter.unusedSimpArgs false
namespace Go.Proofs.YtfiedhopgmgnoaaDoor
open Go.RowKit NumB
set_option linter.unusedVariables false
set_option linter.unusedSimpArgs false

theorem NumV.form {w : World} {v : Value} {neg : Bool} {x y : Nat} (h : NumV w v neg x y) : ∃ A n c A' m d, v = .agg #[.bool neg, .slice A n c, .slice A' m d] ∧ n = (digs W32 x).length ∧ m = (digs W32 y).length := by
  obtain ⟨va, vb, rfl, h1, h2⟩ := h
  obtain ⟨A, n, c, rfl, e1⟩ := h1.form
  obtain ⟨A', m, d, rfl, e2⟩ := h2.form
  exact ⟨A, n, c, A', m, d, rfl, e1, e2⟩
theorem NumV.parts {w : World} {va vb : Value} {s neg : Bool} {x y : Nat} (h : NumV w (.agg #[.bool s, va, vb]) neg x y) : s = neg ∧ Nat32 w va x ∧ Nat32 w vb y := by
  obtain ⟨va', vb', e, h1, h2⟩ := h
  simp only [Value.agg.injEq, Array.mk.injEq, List.cons.injEq, Value.bool.injEq, and_true] at e
  obtain ⟨rfl, rfl, rfl⟩ := e
  exact ⟨rfl, h1, h2⟩
theorem NumV.put3 {w : World} {v : Value} {neg s : Bool} {x y g : Nat} {t : TypeId} {A A' : Option Addr} {n m ca cb : Nat} (h : NumV w v neg x y) (hg : Blk w g t #[.bool s, .slice A n ca, .slice A' m cb]) (a b c : Value) : NumV (put3 w g a b c) v neg x y := by
  obtain ⟨va, vb, rfl, h1, h2⟩ := h
  exact ⟨va, vb, rfl, h1.put3 hg a b c, h2.put3 hg a b c⟩

set_option maxRecDepth 100000 in
set_option maxHeartbeats 3200000 in
theorem made_any (neg : Bool) (x y : Nat) (va vb : Value) (w : World) (ha : Nat32 w va x) (hb : Nat32 w vb y) (hy0 : 0 < y) (hx : (digs W32 x).length ≤ 50000) (hy : (digs W32 y).length ≤ 50000) :
    Calls Tryd.prog 36 #[.bool neg, va, vb] w (FitPost w (neg && decide (0 < x)) (x / Nat.gcd x y) (y / Nat.gcd x y)) := by
  have HNX : ∀ o : Obj, Hid (Nat32 (w.alloc o) va x) := fun o => ha.to (below_one w o)
  have HNY : ∀ o : Obj, Hid (Nat32 (w.alloc o) vb y) := fun o => hb.to (below_one w o)
  have HBK := Lib.hid (nilBlk w)
  have HX := Lib.hid (And.intro hy0 (And.intro hx hy))
  clear ha hb hy0 hx hy
  have HR := fun (W : World) (h1 : Nat32 W va x) (h2 : Nat32 W vb y) => Lib.hid (raw_any neg x y va vb W h1 h2 HX.out.1 HX.out.2.1 HX.out.2.2)
  generalize (neg && decide (0 < x)) = sg at *
  generalize x / Nat.gcd x y = x' at *
  generalize y / Nat.gcd x y = y' at *
  have HR := Lib.hid HR
  go_enter Tryd.func36, Tryd.ntmps36
  go_wp2_with fail
  refine ((HR.out _ (by exact (HNX _).out) (by exact (HNY _).out)).out).mono ?_
  rintro e w1 ⟨v1, rfl, hn1, hb1⟩
  have HN1 := Lib.hid hn1
  have HB1 := Lib.hid hb1
  clear hn1 hb1
  go_wp2_with fail
  refine (fits_any sg x' y' _ _ (by exact HN1.out)).mono ?_
  rintro e w2 (⟨hf, v2, rfl, hn2, hb2⟩ | ⟨hf, rfl, hb2⟩)
  · have hblk := (HBK.out.to HB1.out).to hb2
    have HBE : Hid (Below w.heap.size w w2) := ((below_one w _).trans (HB1.out.mono (below_one w _).size)).trans (hb2.mono (Nat.le_trans (below_one w _).size HB1.out.size))
    have HN2 := Lib.hid hn2
    have HF := Lib.hid hf
    have hc0 := hblk.cell 0
    have hc1 := hblk.cell 1
    have hc2 := hblk.cell 2
    have hf0 := hblk.frozen 0
    have hf1 := hblk.frozen 1
    have hf2 := hblk.frozen 2
    have HBLK := Lib.hid hblk
    clear hblk hn2 hb2 hf HB1
    simp only [List.getElem?_toArray, List.getElem?_cons_zero, List.getElem?_cons_succ] at hc0 hc1 hc2
    obtain ⟨A, n, c, A', m, d, rfl, hl1, hl2⟩ := HN2.out.form
    clear hl1 hl2
    go_wp2
    refine bodyPost_ret (v := .tuple #[.agg #[.bool sg, .slice A n c, .slice A' m d], .int .i64 0]) (by rw [results_cell_tmp rfl]; go_simp) rfl (.inl ⟨HF.out, _, rfl, ?_, ?_⟩)
    · exact HN2.out.put3 HBLK.out _ _ _
    · exact put3_below HBE.out (Nat.le_refl _) _ _ _
  · have hblk := (HBK.out.to HB1.out).to hb2
    have HBE : Hid (Below w.heap.size w w2) := ((below_one w _).trans (HB1.out.mono (below_one w _).size)).trans (hb2.mono (Nat.le_trans (below_one w _).size HB1.out.size))
    have HF := Lib.hid hf
    have hc0 := hblk.cell 0
    have hc1 := hblk.cell 1
    have hc2 := hblk.cell 2
    have hf0 := hblk.frozen 0
    have hf1 := hblk.frozen 1
    have hf2 := hblk.frozen 2
    clear hblk hb2 hf HB1
    simp only [List.getElem?_toArray, List.getElem?_cons_zero, List.getElem?_cons_succ] at hc0 hc1 hc2
    unfold zeroNum
    go_wp2
    refine bodyPost_ret (v := .tuple #[zeroNum, .int .i64 3]) (by rw [results_cell_tmp rfl]; go_simp; rfl) rfl (.inr ⟨HF.out, rfl, ?_⟩)
    exact put3_below HBE.out (Nat.le_refl _) _ _ _
end Go.Proofs.YtfiedhopgmgnoaaDoor
namespace Go.Proofs.YtfiedhopgmgnoaaDoor
open Go.RowKit NumB
set_option linter.unusedVariables false
set_option linter.unusedSimpArgs false

/-- The first of n answers from j on that is not 0. -/
def errsFrom (c : Nat → Int) : Nat → Nat → Int
  | _, 0 => 0
  | j, n + 1 => if c j = 0 then errsFrom c (j + 1) n else c j

/-- A row of k numbers in the block b from o on. -/
def Nums (w : World) (b o k : Nat) (ng : Nat → Bool) (xs ys : Nat → List Nat) : Prop :=
  b < w.heap.size ∧ ∀ i, i < k → ∃ va vb, w.cell? ⟨b, o + i * 3, none⟩ = some (.bool (ng i)) ∧ w.cell? ⟨b, o + i * 3 + 1, none⟩ = some va ∧ w.cell? ⟨b, o + i * 3 + 2, none⟩ = some vb ∧ Sl .u32 w va (xs i) ∧ Sl .u32 w vb (ys i) ∧ Ok W32 (xs i) ∧ Ok W32 (ys i)

set_option maxRecDepth 100000 in
set_option maxHeartbeats 3200000 in
theorem checks_any (b o k cap : Nat) (ng : Nat → Bool) (xs ys : Nat → List Nat) (w : World) (hk : k ≤ 1000) (hN : Nums w b o k ng xs ys) :
    Calls Tryd.prog 46 #[.slice (some ⟨b, o, none⟩) k cap] w fun e w' => e = .returned (.int .i64 (errsFrom (fun i => checkL (ng i) (xs i) (ys i)) 0 k)) ∧ Below w.heap.size w w' := by
  have HN := Lib.hid hN
  clear hN
  have HC : Hid (∀ (i : Nat) (va vb : Value) (W : World), Sl .u32 W va (xs i) → Sl .u32 W vb (ys i) → Ok W32 (xs i) → Ok W32 (ys i) → Calls Tryd.prog 28 #[.agg #[.bool (ng i), va, vb]] W fun e w' => e = .returned (.int .i64 (checkL (ng i) (xs i) (ys i))) ∧ Below W.heap.size W w') :=
    fun i va vb W h1 h2 h3 h4 => check_any (ng i) (xs i) (ys i) va vb W h1 h2 h3 h4
  generalize hc : (fun i => checkL (ng i) (xs i) (ys i)) = c
  have HC2 : Hid (∀ i, checkL (ng i) (xs i) (ys i) = c i) := fun i => by rw [← hc]
  clear hc
  have HD : Hid (∀ (i : Nat) (va vb : Value) (W : World), Sl .u32 W va (xs i) → Sl .u32 W vb (ys i) → Ok W32 (xs i) → Ok W32 (ys i) → Calls Tryd.prog 28 #[.agg #[.bool (ng i), va, vb]] W fun e w' => e = .returned (.int .i64 (c i)) ∧ Below W.heap.size W w') :=
    fun i va vb W h1 h2 h3 h4 => by rw [← HC2.out i]; exact HC.out i va vb W h1 h2 h3 h4
  clear HC HC2
  go_enter Tryd.func46, Tryd.ntmps46
  go_wp2
  go_loopg [8, 4, 5] k (fun gk si s4 s5 wr => ∃ j : Nat, gk + j = k ∧ si = .int .i64 (j : Int) ∧ Hid (errsFrom c j gk = errsFrom c 0 k) ∧ Hid (Below w.heap.size w wr))
  case atStart => exact ⟨0, by omega, rfl, rfl, Below.refl _ _⟩
  case round =>
    obtain ⟨j, hgj, rfl, HE, HB⟩ := hrel
    by_cases hj : j < k
    · obtain ⟨n, rfl⟩ : ∃ n, gk = n + 1 := ⟨gk - 1, by omega⟩
      obtain ⟨va, vb, h0, h1, h2, h3, h4, h5, h6⟩ := HN.out.2 j hj
      have hbl := HN.out.1
      have hc0 : wr.cell? ⟨b, o + j * 3, none⟩ = some (.bool (ng j)) := (HB.out.cell (p := ⟨b, _, none⟩) hbl).trans h0
      have hc1 : wr.cell? ⟨b, o + j * 3 + 1, none⟩ = some va := (HB.out.cell (p := ⟨b, _, none⟩) hbl).trans h1
      have hc2 : wr.cell? ⟨b, o + j * 3 + 2, none⟩ = some vb := (HB.out.cell (p := ⟨b, _, none⟩) hbl).trans h2
      obtain ⟨A, ca, hva, r1⟩ := id h3
      obtain ⟨A', cb, hvb, r2⟩ := id h4
      have HS1 := Lib.hid (h3.to HB.out)
      have HS2 := Lib.hid (h4.to HB.out)
      have HOK := Lib.hid (And.intro h5 h6)
      subst hva hvb
      clear h0 h1 h2 h3 h4 h5 h6 r1 r2
      generalize (xs j).length = n1 at *
      generalize (ys j).length = n2 at *
      by_cases hz : c j = 0
      · have hz1 : (c j != 0) = false := by rw [hz]; rfl
        have HZ := Lib.hid hz
        clear hz
        go_wp2_with (go_at_call 28; go_must (refine (HD.out j _ _ _ (by exact HS1.out.to (below_one _ _)) (by exact HS2.out.to (below_one _ _)) HOK.out.1 HOK.out.2).mono ?_); rintro e w1 ⟨rfl, hb1⟩)
        go_roundg n
        case measure => omega
        case rel => exact ⟨j + 1, by omega, by go_num, by unfold Hid; rw [← HE.out, errsFrom, if_pos HZ.out], (HB.out.alloc HB.out.size _).trans (hb1.mono (Nat.le_trans HB.out.size (below_one _ _).size))⟩
      · have hz1 : (c j != 0) = true := by rw [bne_iff_ne]; exact hz
        have HZ := Lib.hid hz
        clear hz
        go_wp2_with (go_at_call 28; go_must (refine (HD.out j _ _ _ (by exact HS1.out.to (below_one _ _)) (by exact HS2.out.to (below_one _ _)) HOK.out.1 HOK.out.2).mono ?_); rintro e w1 ⟨rfl, hb1⟩)
        go_ret
        exact ⟨by rw [← HE.out, errsFrom, if_neg HZ.out]; rfl, (HB.out.alloc HB.out.size _).trans (hb1.mono (Nat.le_trans HB.out.size (below_one _ _).size))⟩
    · obtain rfl : j = k := by omega
      obtain rfl : gk = 0 := by omega
      clear hgj hj
      go_wp2
      go_ret
      exact ⟨by rw [← HE.out]; rfl, HB.out⟩

/-- Two numbers, one after the other. -/
theorem checks_two (b cap : Nat) (na nb : Bool) (xa ya xb yb : List Nat) (A1 A2 A3 A4 : Value) (w : World) (t : TypeId) (hg : Blk w b t #[.bool na, A1, A2, .bool nb, A3, A4])
    (h1 : Sl .u32 w A1 xa) (h2 : Sl .u32 w A2 ya) (h3 : Sl .u32 w A3 xb) (h4 : Sl .u32 w A4 yb) (o1 : Ok W32 xa) (o2 : Ok W32 ya) (o3 : Ok W32 xb) (o4 : Ok W32 yb) :
    Calls Tryd.prog 46 #[.slice (some ⟨b, 0, none⟩) 2 cap] w fun e w' => e = .returned (.int .i64 (if checkL na xa ya = 0 then checkL nb xb yb else checkL na xa ya)) ∧ Below w.heap.size w w' := by
  have hN : Nums w b 0 2 (fun i => if i = 0 then na else nb) (fun i => if i = 0 then xa else xb) (fun i => if i = 0 then ya else yb) := by
    refine ⟨hg.lt, fun i hi => ?_⟩
    rcases i with _ | _ | i
    · exact ⟨A1, A2, hg.cell 0, hg.cell 1, hg.cell 2, h1, h2, o1, o2⟩
    · exact ⟨A3, A4, hg.cell 3, hg.cell 4, hg.cell 5, h3, h4, o3, o4⟩
    · omega
  refine (checks_any b 0 2 cap _ _ _ w (by omega) hN).mono fun e w' ⟨he, hb⟩ => ⟨he.trans ?_, hb⟩
  have e : errsFrom (fun i => checkL (if i = 0 then na else nb) (if i = 0 then xa else xb) (if i = 0 then ya else yb)) 0 2 = if checkL na xa ya = 0 then checkL nb xb yb else checkL na xa ya := by
    show (if checkL na xa ya = 0 then (if checkL nb xb yb = 0 then 0 else checkL nb xb yb) else checkL na xa ya) = _
    split
    · split <;> simp_all
    · rfl
  rw [e]
/-- One number. -/
theorem checks_one (b cap : Nat) (na : Bool) (xa ya : List Nat) (A1 A2 : Value) (w : World) (t : TypeId) (hg : Blk w b t #[.bool na, A1, A2])
    (h1 : Sl .u32 w A1 xa) (h2 : Sl .u32 w A2 ya) (o1 : Ok W32 xa) (o2 : Ok W32 ya) :
    Calls Tryd.prog 46 #[.slice (some ⟨b, 0, none⟩) 1 cap] w fun e w' => e = .returned (.int .i64 (checkL na xa ya)) ∧ Below w.heap.size w w' := by
  have hN : Nums w b 0 1 (fun i => na) (fun i => xa) (fun i => ya) := by
    refine ⟨hg.lt, fun i hi => ?_⟩
    obtain rfl : i = 0 := by omega
    exact ⟨A1, A2, hg.cell 0, hg.cell 1, hg.cell 2, h1, h2, o1, o2⟩
  refine (checks_any b 0 1 cap _ _ _ w (by omega) hN).mono fun e w' ⟨he, hb⟩ => ⟨he.trans ?_, hb⟩
  have e : errsFrom (fun i => checkL na xa ya) 0 1 = checkL na xa ya := by
    show (if checkL na xa ya = 0 then 0 else checkL na xa ya) = _
    split <;> simp_all
  rw [e]
end Go.Proofs.YtfiedhopgmgnoaaDoor

/- number.raw, made: a number in lowest terms. Conditions: at most 50000 limbs. number.made. Conditions: at most 50000 limbs. -/
import Derived.Test.YtdhgbnnopekfjaaGreatDoorJo9
set_option linter.unusedVariables false
set_option linter.unusedSimpArgs false
namespace Go.Proofs.YtdhgbnnopekfjaaGreatDoor
open Go.RowKit NumB
set_option linter.unusedVariables false
set_option linter.unusedSimpArgs false

theorem digs_one32 : digs W32 1 = [1] := digs_eq W32_gt (Ok.cons (by decide) Ok.nil) (by simp [Top]) (by simp)
theorem one32 (w : World) : Nat32 (w.alloc (.cells #[.int .u32 1] 73)) (.slice (some ⟨w.heap.size, 0, none⟩) 1 1) 1 := by
  unfold Nat32
  rw [digs_one32]
  refine ⟨_, 1, rfl, by decide, by decide, rfl, fun _ => ⟨w.heap.size, 0, rfl, by simp, fun i hi => ?_⟩⟩
  obtain rfl : i = 0 := by simpa using hi
  rw [cell_of_row _ w.heap.size _ #[.int .u32 1] 73 (0, 0) (heap_alloc_new w _)]
  rfl
theorem one32' (w : World) (g : Nat) (hg : w.heap.size = g) : Nat32 (w.alloc (.cells #[.int .u32 1] 73)) (.slice (some ⟨g, 0, none⟩) 1 1) 1 := by subst hg; exact one32 w

theorem Nat32.form {w : World} {v : Value} {x : Nat} (h : Nat32 w v x) : ∃ A n c, v = .slice A n c ∧ n = (digs W32 x).length := by
  obtain ⟨A, c, e, _⟩ := h
  exact ⟨A, _, c, e, rfl⟩
theorem Nat32.len {w : World} {A : Option Addr} {n c x : Nat} (h : Nat32 w (.slice A n c) x) : n = (digs W32 x).length := by
  obtain ⟨A', c', e, _⟩ := h
  injection e
theorem len_pos32 {x n : Nat} (h : n = (digs W32 x).length) : 0 < n ↔ 0 < x := by
  subst h
  constructor
  · intro h
    rcases Nat.eq_zero_or_pos x with h4 | h4
    · subst h4; rw [digs_zero] at h; exact absurd h (by simp)
    · exact h4
  · intro h
    exact List.length_pos_iff.2 fun h4 => by have := (digs_nil W32_gt).1 h4; omega

/-- The post of raw. -/
def RawPost (w : World) (neg : Bool) (x y : Nat) (e : Ending) (w' : World) : Prop := ∃ v, e = .returned v ∧ NumV w' v neg x y ∧ Below w.heap.size w w'

theorem nilBlk (w : World) : Blk (w.alloc (.cells #[.bool false, .slice none 0 0, .slice none 0 0] 24)) w.heap.size 24 #[.bool false, .slice none 0 0, .slice none 0 0] := Blk.new _ _ _

set_option maxRecDepth 100000 in
set_option maxHeartbeats 1600000 in
theorem raw_zero (neg : Bool) (y : Nat) (va vb : Value) (w : World) (ha : Nat32 w va 0) (hb : Nat32 w vb y) :
    Calls Tryz.prog 53 #[.bool neg, va, vb] w (RawPost w false 0 1) := by
  obtain ⟨A, n, c, rfl, hn⟩ := ha.form
  obtain ⟨A', m, d, rfl, hm⟩ := hb.form
  rw [digs_zero] at hn
  obtain rfl : n = 0 := hn
  have HB1 := Lib.hid (nilBlk w)
  clear ha hb hm
  go_enter Tryz.func53, Tryz.ntmps53
  go_wp2
  refine bodyPost_ret (v := .agg #[.bool false, .slice none 0 0, .slice (some ⟨w.heap.size + 1, 0, none⟩) 1 1]) (by simp [results, Tryz.results53, go_sem]) rfl ⟨_, rfl, ?_, ?_⟩
  · exact ⟨_, _, rfl, nat32_zero _, one32' _ _ (by simp)⟩
  · exact ((Below.refl _ _).alloc (Nat.le_refl _) _).alloc (by simp) _

theorem below_one (w : World) (o : Obj) : Below w.heap.size w (w.alloc o) := (Below.refl _ _).alloc (Nat.le_refl _) _

set_option maxRecDepth 100000 in
set_option maxHeartbeats 3200000 in
theorem raw_one (neg : Bool) (x : Nat) (va vb : Value) (w : World) (ha : Nat32 w va x) (hb : Nat32 w vb 1) (hx0 : 0 < x) (hx : (digs W32 x).length ≤ 50000) :
    Calls Tryz.prog 53 #[.bool neg, va, vb] w (RawPost w neg x 1) := by
  have HA := Lib.hid ha
  have HB := Lib.hid hb
  obtain ⟨A, n, c, rfl, hn⟩ := ha.form
  obtain ⟨A', m, d, rfl, hm⟩ := hb.form
  have hn0 : ((n : Int) == 0) = false := beq_eq_false_iff_ne.2 (by have := (len_pos32 hn).2 hx0; omega)
  have HO := Lib.hid (oneB_true (rfl : (1 : Nat) = 1))
  have HL : Hid ((digs W32 x).length ≤ 1000000 ∧ (digs W32 1).length ≤ 1000000) := ⟨by omega, by rw [digs_one32]; decide⟩
  have HNX : ∀ o : Obj, Hid (Nat32 (w.alloc o) (.slice A n c) x) := fun o => HA.out.to (below_one w o)
  have HNY : ∀ o : Obj, Hid (Nat32 (w.alloc o) (.slice A' m d) 1) := fun o => HB.out.to (below_one w o)
  have HBK := Lib.hid (nilBlk w)
  clear ha hb hm hn hx hx0
  go_enter Tryz.func53, Tryz.ntmps53
  go_wp2_with fail
  refine (isOne_any 1 _ _ (by exact (HNY _).out)).mono ?_
  rintro e w1 ⟨rfl, rfl⟩
  rw [HO.out]
  go_wp2_with fail
  refine (clone_any _ _ _ (by exact (HNX _).out) (by exact HL.out.1)).mono ?_
  rintro e wc ⟨vc, rfl, hnc, hbc⟩
  have HC1 : Hid (Nat32 wc vc _) := hnc.sl
  have HBC := Lib.hid hbc
  clear hnc hbc
  go_wp2_with fail
  refine (clone_any _ _ _ (by exact Sl.to (HNY _).out HBC.out) (by exact HL.out.2)).mono ?_
  rintro e wd ⟨vd, rfl, hnd, hbd⟩
  have HD1 : Hid (Nat32 wd vd _) := hnd.sl
  have HBD := Lib.hid hbd
  clear hnd hbd
  have HC2 := Lib.hid (HC1.out.to HBD.out)
  have hblk := (HBK.out.to HBC.out).to HBD.out
  have HBE : Hid (Below w.heap.size w wd) := ((below_one w _).trans (HBC.out.mono (below_one w _).size)).trans (HBD.out.mono (Nat.le_trans (below_one w _).size HBC.out.size))
  have hc0 := hblk.cell 0
  have hc1 := hblk.cell 1
  have hc2 := hblk.cell 2
  have hf0 := hblk.frozen 0
  have hf1 := hblk.frozen 1
  have hf2 := hblk.frozen 2
  have HBLK := Lib.hid hblk
  clear hblk HC1
  simp only [List.getElem?_toArray, List.getElem?_cons_zero, List.getElem?_cons_succ] at hc0 hc1 hc2
  obtain ⟨Ac, nc, cc, rfl, hlc⟩ := HC2.out.form
  obtain ⟨Ad, nd, cd, rfl, hld⟩ := HD1.out.form
  clear hlc hld
  go_wp2
  refine bodyPost_ret (v := .agg #[.bool neg, .slice Ac nc cc, .slice Ad nd cd]) (by simp [results, Tryz.results53, go_sem, hc0, hc1, hc2]) rfl ⟨_, rfl, ?_, ?_⟩
  · exact ⟨_, _, rfl, HC2.out.put3 HBLK.out _ _ _, HD1.out.put3 HBLK.out _ _ _⟩
  · exact put3_below HBE.out (Nat.le_refl _) _ _ _

set_option maxRecDepth 100000 in
set_option maxHeartbeats 6400000 in
theorem raw_gen (neg : Bool) (x y : Nat) (va vb : Value) (w : World) (ha : Nat32 w va x) (hb : Nat32 w vb y) (hx0 : 0 < x) (hy0 : 0 < y) (hy1 : y ≠ 1) (hx : (digs W32 x).length ≤ 50000) (hy : (digs W32 y).length ≤ 50000) :
    Calls Tryz.prog 53 #[.bool neg, va, vb] w (RawPost w neg (x / Nat.gcd x y) (y / Nat.gcd x y)) := by
  have HA := Lib.hid ha
  have HB := Lib.hid hb
  obtain ⟨A, n, c, rfl, hn⟩ := ha.form
  obtain ⟨A', m, d, rfl, hm⟩ := hb.form
  have hn0 : ((n : Int) == 0) = false := beq_eq_false_iff_ne.2 (by have := (len_pos32 hn).2 hx0; omega)
  have HO := Lib.hid (oneB_false hy1)
  have HLX := Lib.hid (And.intro hx hy)
  have HG0 : Hid (0 < Nat.gcd x y) := Nat.gcd_pos_of_pos_left _ hx0
  have HL : Hid ((digs W32 (x / Nat.gcd x y)).length ≤ 1000000 ∧ (digs W32 (y / Nat.gcd x y)).length ≤ 1000000) := ⟨Nat.le_trans (digs_len_mono W32_gt (Nat.div_le_self _ _)) (by omega), Nat.le_trans (digs_len_mono W32_gt (Nat.div_le_self _ _)) (by omega)⟩
  have HNX : ∀ o : Obj, Hid (Nat32 (w.alloc o) (.slice A n c) x) := fun o => HA.out.to (below_one w o)
  have HNY : ∀ o : Obj, Hid (Nat32 (w.alloc o) (.slice A' m d) y) := fun o => HB.out.to (below_one w o)
  have HBK := Lib.hid (nilBlk w)
  clear ha hb hm hn hx hx0 hy hy0 hy1
  generalize hg : Nat.gcd x y = g at *
  have HG := Lib.hid hg
  clear hg
  by_cases hg1 : g = 1
  · subst hg1
    rw [Nat.div_one, Nat.div_one] at HL ⊢
    have HO2 := Lib.hid (oneB_true (rfl : (1 : Nat) = 1))
    go_enter Tryz.func53, Tryz.ntmps53
    go_wp2_with fail
    refine (isOne_any y _ _ (by exact (HNY _).out)).mono ?_
    rintro e w1 ⟨rfl, rfl⟩
    rw [HO.out]
    go_wp2_with fail
    refine (gcd_any x y _ _ _ (by exact (HNX _).out) (by exact (HNY _).out) HLX.out.1 HLX.out.2).mono ?_
    rintro e w1 ⟨v1, rfl, hn1, hb1⟩
    have HN1 := Lib.hid hn1
    have HB1 := Lib.hid hb1
    have HBL := Lib.hid ((below_one w _).trans (hb1.mono (below_one w _).size))
    rw [HG.out] at HN1
    clear hn1 hb1
    go_wp2_with fail
    refine (isOne_any 1 _ _ (by exact HN1.out)).mono ?_
    rintro e w2 ⟨rfl, rfl⟩
    rw [HO2.out]
    go_wp2_with fail
    refine (clone_any _ _ _ (by exact (HNX _).out.to HB1.out) (by exact HL.out.1)).mono ?_
    rintro e wc ⟨vc, rfl, hnc, hbc⟩
    have HC1 : Hid (Nat32 wc vc _) := hnc.sl
    have HBC := Lib.hid hbc
    clear hnc hbc
    go_wp2_with fail
    refine (clone_any _ _ _ (by exact Sl.to ((HNY _).out.to HB1.out) HBC.out) (by exact HL.out.2)).mono ?_
    rintro e wd ⟨vd, rfl, hnd, hbd⟩
    have HD1 : Hid (Nat32 wd vd _) := hnd.sl
    have HBD := Lib.hid hbd
    clear hnd hbd
    have HC2 := Lib.hid (HC1.out.to HBD.out)
    have hblk := ((HBK.out.to HB1.out).to HBC.out).to HBD.out
    have HBE : Hid (Below w.heap.size w wd) := ((HBL.out).trans (HBC.out.mono (HBL.out).size)).trans (HBD.out.mono (Nat.le_trans (HBL.out).size HBC.out.size))
    have hc0 := hblk.cell 0
    have hc1 := hblk.cell 1
    have hc2 := hblk.cell 2
    have hf0 := hblk.frozen 0
    have hf1 := hblk.frozen 1
    have hf2 := hblk.frozen 2
    have HBLK := Lib.hid hblk
    clear hblk HC1
    simp only [List.getElem?_toArray, List.getElem?_cons_zero, List.getElem?_cons_succ] at hc0 hc1 hc2
    obtain ⟨Ac, nc, cc, rfl, hlc⟩ := HC2.out.form
    obtain ⟨Ad, nd, cd, rfl, hld⟩ := HD1.out.form
    clear hlc hld
    go_wp2
    refine bodyPost_ret (v := .agg #[.bool neg, .slice Ac nc cc, .slice Ad nd cd]) (by simp [results, Tryz.results53, go_sem, hc0, hc1, hc2]) rfl ⟨_, rfl, ?_, ?_⟩
    · exact ⟨_, _, rfl, HC2.out.put3 HBLK.out _ _ _, HD1.out.put3 HBLK.out _ _ _⟩
    · exact put3_below HBE.out (Nat.le_refl _) _ _ _
  · have HO2 := Lib.hid (oneB_false hg1)
    clear hg1
    go_enter Tryz.func53, Tryz.ntmps53
    go_wp2_with fail
    refine (isOne_any y _ _ (by exact (HNY _).out)).mono ?_
    rintro e w1 ⟨rfl, rfl⟩
    rw [HO.out]
    go_wp2_with fail
    refine (gcd_any x y _ _ _ (by exact (HNX _).out) (by exact (HNY _).out) HLX.out.1 HLX.out.2).mono ?_
    rintro e w1 ⟨v1, rfl, hn1, hb1⟩
    have HN1 := Lib.hid hn1
    have HB1 := Lib.hid hb1
    have HBL := Lib.hid ((below_one w _).trans (hb1.mono (below_one w _).size))
    rw [HG.out] at HN1
    clear hn1 hb1
    go_wp2_with fail
    refine (isOne_any g _ _ (by exact HN1.out)).mono ?_
    rintro e w2 ⟨rfl, rfl⟩
    rw [HO2.out]
    go_wp2_with fail
    refine (divMod_any x g _ _ _ (by exact (HNX _).out.to HB1.out) (by exact HN1.out) HLX.out.1 HG0.out).mono ?_
    rintro e w2 ⟨v2, u2, rfl, hn2, _, hb2⟩
    have HN2 := Lib.hid hn2
    have HB2 := Lib.hid hb2
    have HBL2 := Lib.hid (HBL.out.trans (hb2.mono HBL.out.size))
    clear hn2 hb2
    go_wp2_with fail
    refine (divMod_any y g _ _ _ (by exact ((HNY _).out.to HB1.out).to HB2.out) (by exact HN1.out.to HB2.out) HLX.out.2 HG0.out).mono ?_
    rintro e w3 ⟨v3, u3, rfl, hn3, _, hb3⟩
    have HN3 := Lib.hid hn3
    have HB3 := Lib.hid hb3
    have HBL3 := Lib.hid (HBL2.out.trans (hb3.mono HBL2.out.size))
    clear hn3 hb3
    go_wp2_with fail
    refine (clone_any _ _ _ (by exact HN2.out.to HB3.out) (by exact HL.out.1)).mono ?_
    rintro e wc ⟨vc, rfl, hnc, hbc⟩
    have HC1 : Hid (Nat32 wc vc _) := hnc.sl
    have HBC := Lib.hid hbc
    clear hnc hbc
    go_wp2_with fail
    refine (clone_any _ _ _ (by exact Sl.to HN3.out HBC.out) (by exact HL.out.2)).mono ?_
    rintro e wd ⟨vd, rfl, hnd, hbd⟩
    have HD1 : Hid (Nat32 wd vd _) := hnd.sl
    have HBD := Lib.hid hbd
    clear hnd hbd
    have HC2 := Lib.hid (HC1.out.to HBD.out)
    have hblk := ((((HBK.out.to HB1.out).to HB2.out).to HB3.out).to HBC.out).to HBD.out
    have HBE : Hid (Below w.heap.size w wd) := ((HBL3.out).trans (HBC.out.mono (HBL3.out).size)).trans (HBD.out.mono (Nat.le_trans (HBL3.out).size HBC.out.size))
    have hc0 := hblk.cell 0
    have hc1 := hblk.cell 1
    have hc2 := hblk.cell 2
    have hf0 := hblk.frozen 0
    have hf1 := hblk.frozen 1
    have hf2 := hblk.frozen 2
    have HBLK := Lib.hid hblk
    clear hblk HC1
    simp only [List.getElem?_toArray, List.getElem?_cons_zero, List.getElem?_cons_succ] at hc0 hc1 hc2
    obtain ⟨Ac, nc, cc, rfl, hlc⟩ := HC2.out.form
    obtain ⟨Ad, nd, cd, rfl, hld⟩ := HD1.out.form
    clear hlc hld
    go_wp2
    refine bodyPost_ret (v := .agg #[.bool neg, .slice Ac nc cc, .slice Ad nd cd]) (by simp [results, Tryz.results53, go_sem, hc0, hc1, hc2]) rfl ⟨_, rfl, ?_, ?_⟩
    · exact ⟨_, _, rfl, HC2.out.put3 HBLK.out _ _ _, HD1.out.put3 HBLK.out _ _ _⟩
    · exact put3_below HBE.out (Nat.le_refl _) _ _ _

/-- What raw makes of a sign and two naturals. -/
theorem raw_any (neg : Bool) (x y : Nat) (va vb : Value) (w : World) (ha : Nat32 w va x) (hb : Nat32 w vb y) (hy0 : 0 < y) (hx : (digs W32 x).length ≤ 50000) (hy : (digs W32 y).length ≤ 50000) :
    Calls Tryz.prog 53 #[.bool neg, va, vb] w (RawPost w (neg && decide (0 < x)) (x / Nat.gcd x y) (y / Nat.gcd x y)) := by
  rcases Nat.eq_zero_or_pos x with rfl | hx0
  · rw [Nat.gcd_zero_left, Nat.zero_div, Nat.div_self hy0, show (neg && decide (0 < 0)) = false by simp]
    exact raw_zero neg y va vb w ha hb
  · rw [show (neg && decide (0 < x)) = neg by simp [hx0]]
    by_cases hy1 : y = 1
    · subst hy1
      rw [Nat.gcd_one_right, Nat.div_one, Nat.div_one]
      exact raw_one neg x va vb w ha hb hx0 hx
    · exact raw_gen neg x y va vb w ha hb hx0 hy0 hy1 hx hy
end Go.Proofs.YtdhgbnnopekfjaaGreatDoor
namespace Go.Proofs.YtdhgbnnopekfjaaGreatDoor
open Go.RowKit NumB
set_option linter.unusedVariables false
set_option linter.unusedSimpArgs false

theorem NumV.form {w : World} {v : Value} {neg : Bool} {x y : Nat} (h : NumV w v neg x y) : ∃ A n c A' m d, v = .agg #[.bool neg, .slice A n c, .slice A' m d] ∧ n = (digs W32 x).length ∧ m = (digs W32 y).length := by
  obtain ⟨va, vb, rfl, h1, h2⟩ := h
  obtain ⟨A, n, c, rfl, e1⟩ := h1.form
  obtain ⟨A', m, d, rfl, e2⟩ := h2.form
  exact ⟨A, n, c, A', m, d, rfl, e1, e2⟩
theorem NumV.parts {w : World} {va vb : Value} {s neg : Bool} {x y : Nat} (h : NumV w (.agg #[.bool s, va, vb]) neg x y) : s = neg ∧ Nat32 w va x ∧ Nat32 w vb y := by
  obtain ⟨va', vb', e, h1, h2⟩ := h
  simp only [Value.agg.injEq, Array.mk.injEq, List.cons.injEq, Value.bool.injEq, and_true] at e
  obtain ⟨rfl, rfl, rfl⟩ := e
  exact ⟨rfl, h1, h2⟩
theorem NumV.put3 {w : World} {v : Value} {neg s : Bool} {x y g : Nat} {t : TypeId} {A A' : Option Addr} {n m ca cb : Nat} (h : NumV w v neg x y) (hg : Blk w g t #[.bool s, .slice A n ca, .slice A' m cb]) (a b c : Value) : NumV (put3 w g a b c) v neg x y := by
  obtain ⟨va, vb, rfl, h1, h2⟩ := h
  exact ⟨va, vb, rfl, h1.put3 hg a b c, h2.put3 hg a b c⟩

set_option maxRecDepth 100000 in
set_option maxHeartbeats 3200000 in
theorem made_any (neg : Bool) (x y : Nat) (va vb : Value) (w : World) (ha : Nat32 w va x) (hb : Nat32 w vb y) (hy0 : 0 < y) (hx : (digs W32 x).length ≤ 50000) (hy : (digs W32 y).length ≤ 50000) :
    Calls Tryz.prog 49 #[.bool neg, va, vb] w (FitPost w (neg && decide (0 < x)) (x / Nat.gcd x y) (y / Nat.gcd x y)) := by
  have HNX : ∀ o : Obj, Hid (Nat32 (w.alloc o) va x) := fun o => ha.to (below_one w o)
  have HNY : ∀ o : Obj, Hid (Nat32 (w.alloc o) vb y) := fun o => hb.to (below_one w o)
  have HBK := Lib.hid (nilBlk w)
  have HX := Lib.hid (And.intro hy0 (And.intro hx hy))
  clear ha hb hy0 hx hy
  have HR := fun (W : World) (h1 : Nat32 W va x) (h2 : Nat32 W vb y) => Lib.hid (raw_any neg x y va vb W h1 h2 HX.out.1 HX.out.2.1 HX.out.2.2)
  generalize (neg && decide (0 < x)) = sg at *
  generalize x / Nat.gcd x y = x' at *
  generalize y / Nat.gcd x y = y' at *
  have HR := Lib.hid HR
  go_enter Tryz.func49, Tryz.ntmps49
  go_wp2_with fail
  refine ((HR.out _ (by exact (HNX _).out) (by exact (HNY _).out)).out).mono ?_
  rintro e w1 ⟨v1, rfl, hn1, hb1⟩
  have HN1 := Lib.hid hn1
  have HB1 := Lib.hid hb1
  clear hn1 hb1
  go_wp2_with fail
  refine (fits_any sg x' y' _ _ (by exact HN1.out)).mono ?_
  rintro e w2 (⟨hf, v2, rfl, hn2, hb2⟩ | ⟨hf, rfl, hb2⟩)
  · have hblk := (HBK.out.to HB1.out).to hb2
    have HBE : Hid (Below w.heap.size w w2) := ((below_one w _).trans (HB1.out.mono (below_one w _).size)).trans (hb2.mono (Nat.le_trans (below_one w _).size HB1.out.size))
    have HN2 := Lib.hid hn2
    have HF := Lib.hid hf
    have hc0 := hblk.cell 0
    have hc1 := hblk.cell 1
    have hc2 := hblk.cell 2
    have hf0 := hblk.frozen 0
    have hf1 := hblk.frozen 1
    have hf2 := hblk.frozen 2
    have HBLK := Lib.hid hblk
    clear hblk hn2 hb2 hf HB1
    simp only [List.getElem?_toArray, List.getElem?_cons_zero, List.getElem?_cons_succ] at hc0 hc1 hc2
    obtain ⟨A, n, c, A', m, d, rfl, hl1, hl2⟩ := HN2.out.form
    clear hl1 hl2
    go_wp2
    refine bodyPost_ret (v := .tuple #[.agg #[.bool sg, .slice A n c, .slice A' m d], .int .i64 0]) (by rw [results_cell_tmp rfl]; go_simp) rfl (.inl ⟨HF.out, _, rfl, ?_, ?_⟩)
    · exact HN2.out.put3 HBLK.out _ _ _
    · exact put3_below HBE.out (Nat.le_refl _) _ _ _
  · have hblk := (HBK.out.to HB1.out).to hb2
    have HBE : Hid (Below w.heap.size w w2) := ((below_one w _).trans (HB1.out.mono (below_one w _).size)).trans (hb2.mono (Nat.le_trans (below_one w _).size HB1.out.size))
    have HF := Lib.hid hf
    have hc0 := hblk.cell 0
    have hc1 := hblk.cell 1
    have hc2 := hblk.cell 2
    have hf0 := hblk.frozen 0
    have hf1 := hblk.frozen 1
    have hf2 := hblk.frozen 2
    clear hblk hb2 hf HB1
    simp only [List.getElem?_toArray, List.getElem?_cons_zero, List.getElem?_cons_succ] at hc0 hc1 hc2
    unfold zeroNum
    go_wp2
    refine bodyPost_ret (v := .tuple #[zeroNum, .int .i64 3]) (by rw [results_cell_tmp rfl]; go_simp; rfl) rfl (.inr ⟨HF.out, rfl, ?_⟩)
    exact put3_below HBE.out (Nat.le_refl _) _ _ _
end Go.Proofs.YtdhgbnnopekfjaaGreatDoor

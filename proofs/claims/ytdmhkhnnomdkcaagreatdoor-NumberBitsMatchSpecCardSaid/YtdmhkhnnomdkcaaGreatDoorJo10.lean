/-  -/
import Derived.Laws.ResultCell
import Derived.Test.YtdmhkhnnomdkcaaGreatDoorJo9
set_option linter.unusedVariables false
set_option linter.unusedSimpArgs false
/- Blocks that hold a struct of the call's own; number.fits. -/
namespace Go.Proofs.YtdmhkhnnomdkcaaGreatDoor
open Go.RowKit NumB
set_option linter.unusedVariables false
set_option linter.unusedSimpArgs false

/-- Block g is just the cells cs of type t, none frozen. -/
def Blk (w : World) (g : Nat) (t : TypeId) (cs : Array Value) : Prop := w.heap[g]? = some (.cells cs t (0, 0))
section
variable {w w' : World} {g : Nat} {t : TypeId} {cs : Array Value}
theorem Blk.lt (h : Blk w g t cs) : g < w.heap.size := by
  rcases Nat.lt_or_ge g w.heap.size with hlt | hge
  · exact hlt
  · unfold Blk at h; rw [Array.getElem?_eq_none hge] at h; cases h
theorem Blk.cell (h : Blk w g t cs) (i : Nat) : w.cell? ⟨g, i, none⟩ = cs[i]? := cell_of_row w g i cs t (0, 0) h
theorem Blk.frozen (h : Blk w g t cs) (i : Nat) : w.frozen? ⟨g, i, none⟩ = false := by
  unfold Blk at h
  simp [World.frozen?, h]
theorem Blk.new (w : World) (t : TypeId) (cs : Array Value) : Blk (w.alloc (.cells cs t)) w.heap.size t cs := heap_alloc_new w _
theorem Blk.alloc (h : Blk w g t cs) (o : Obj) : Blk (w.alloc o) g t cs := (Below.heap_alloc w o g h.lt).trans h
theorem Blk.set_ (h : Blk w g t cs) (i : Nat) (u : Value) : Blk (w.setCell ⟨g, i, none⟩ u) g t (cs.setIfInBounds i u) := by
  unfold Blk at h ⊢
  simp [World.setCell, Array.getElem?_modify, h]
theorem Blk.far (h : Blk w g t cs) {p : Addr} (hp : g ≠ p.block) (u : Value) : Blk (w.setCell p u) g t cs := (Below.heap_setCell w p u g hp).trans h
theorem Blk.to (h : Blk w g t cs) (hb : Below w.heap.size w w') : Blk w' g t cs := (hb.block g h.lt).trans h
theorem Blk.drew (h : Blk w g t cs) : Blk w.drew g t cs := h
end

/-- No cell of a block of a struct without integers is an integer: so no slice of integers lies there. -/
def NoInts (cs : Array Value) : Prop := ∀ (i : Nat) (k : IntKind) (n : Int), cs[i]? ≠ some (Value.int k n)

theorem Sl.boxed {k : IntKind} {w w' : World} {v : Value} {xs : List Nat} {g : Nat} {t : TypeId} {cs : Array Value} (h : Sl k w v xs) (hg : Blk w g t cs) (hno : NoInts cs) (hsz : w.heap.size ≤ w'.heap.size) (hk : ∀ p : Addr, p.block ≠ g → w'.cell? p = w.cell? p) : Sl k w' v xs := by
  obtain ⟨A, c, e, h1, h2, h3, h4⟩ := h
  refine ⟨A, c, e, h1, h2, h3, fun hn => ?_⟩
  obtain ⟨b, o, e2, hb, hc⟩ := h4 hn
  have hne : b ≠ g := by
    rintro rfl
    have := hc 0 hn
    rw [hg.cell] at this
    exact hno _ _ _ this
  exact ⟨b, o, e2, Nat.lt_of_lt_of_le hb hsz, fun i hi => (hk _ hne).trans (hc i hi)⟩

/-- A block that holds a number. -/
def numCells (neg : Bool) (va vb : Value) : Array Value := #[.bool neg, va, vb]
theorem noInts_num {neg : Bool} {A A' : Option Addr} {n m c d : Nat} : NoInts #[.bool neg, .slice A n c, .slice A' m d] := by
  intro i k z h
  rcases i with _ | _ | _ | i <;> simp at h

/-- Three stores into the block g. -/
def put3 (w : World) (g : Nat) (a b c : Value) : World := ((w.setCell ⟨g, 0, none⟩ a).setCell ⟨g, 1, none⟩ b).setCell ⟨g, 2, none⟩ c
theorem put3_size (w : World) (g : Nat) (a b c : Value) : (put3 w g a b c).heap.size = w.heap.size := by simp [put3, World.setCell]
theorem put3_far (w : World) (g : Nat) (a b c : Value) (p : Addr) (h : p.block ≠ g) : (put3 w g a b c).cell? p = w.cell? p := by
  unfold put3
  rw [World.cell?_setCell_other _ _ _ _ (by intro e; subst e; exact h rfl), World.cell?_setCell_other _ _ _ _ (by intro e; subst e; exact h rfl), World.cell?_setCell_other _ _ _ _ (by intro e; subst e; exact h rfl)]
theorem put3_below {w0 w : World} {B g : Nat} (h : Below B w0 w) (hg : B ≤ g) (a b c : Value) : Below B w0 (put3 w g a b c) := ((h.setCell (p := ⟨g, 0, none⟩) hg a).setCell (p := ⟨g, 1, none⟩) hg b).setCell (p := ⟨g, 2, none⟩) hg c

theorem Nat32.put3 {w : World} {v : Value} {x g : Nat} {t : TypeId} {neg : Bool} {A A' : Option Addr} {n m ca cb : Nat} (h : Nat32 w v x) (hg : Blk w g t #[.bool neg, .slice A n ca, .slice A' m cb]) (a b c : Value) : Nat32 (put3 w g a b c) v x :=
  Sl.boxed h hg noInts_num (Nat.le_of_eq (put3_size w g a b c).symm) (put3_far w g a b c)

/-- The zero number. -/
def zeroNum : Value := .agg #[.bool false, .slice none 0 0, .slice none 0 0]
/-- A number that reads as a sign, a numerator and a denominator. -/
def NumV (w : World) (v : Value) (neg : Bool) (x y : Nat) : Prop := ∃ va vb, v = .agg #[.bool neg, va, vb] ∧ Nat32 w va x ∧ Nat32 w vb y
theorem NumV.to {w w' : World} {v : Value} {neg : Bool} {x y : Nat} (h : NumV w v neg x y) (hb : Below w.heap.size w w') : NumV w' v neg x y := by
  obtain ⟨va, vb, e, h1, h2⟩ := h
  exact ⟨va, vb, e, h1.to hb, h2.to hb⟩
/-- Both parts have at most 128 limbs. -/
def fitB (x y : Nat) : Bool := decide ((digs W32 x).length ≤ 128 ∧ (digs W32 y).length ≤ 128)

set_option maxRecDepth 100000 in
set_option maxHeartbeats 1600000 in
theorem fits_no (neg : Bool) (A A' : Option Addr) (n m ca cb : Nat) (w : World) (hx : 128 < n ∨ 128 < m) :
    Calls Tryz.prog 60 #[.agg #[.bool neg, .slice A n ca, .slice A' m cb]] w fun e w' => e = .returned (.tuple #[zeroNum, .int .i64 3]) ∧ Below w.heap.size w w' := by
  by_cases h : 128 < n
  · clear hx
    go_enter Tryz.func60, Tryz.ntmps60
    go_wp2
    refine bodyPost_ret (v := .tuple #[zeroNum, .int .i64 3]) (by rw [results_cell_tmp rfl]; go_simp; rfl) rfl ⟨rfl, ?_⟩
    exact ((Below.refl _ _).alloc (Nat.le_refl _) _).alloc (by simp) _
  · have hm2 : 128 < m := by omega
    have hn2 : n ≤ 128 := by omega
    clear hx h
    go_enter Tryz.func60, Tryz.ntmps60
    go_wp2
    refine bodyPost_ret (v := .tuple #[zeroNum, .int .i64 3]) (by rw [results_cell_tmp rfl]; go_simp; rfl) rfl ⟨rfl, ?_⟩
    exact ((Below.refl _ _).alloc (Nat.le_refl _) _).alloc (by simp) _
set_option maxRecDepth 100000 in
set_option maxHeartbeats 1600000 in
theorem fits_yes (neg : Bool) (A A' : Option Addr) (n m ca cb : Nat) (w : World) (hx : n ≤ 128) (hy : m ≤ 128) :
    Calls Tryz.prog 60 #[.agg #[.bool neg, .slice A n ca, .slice A' m cb]] w fun e w' => e = .returned (.tuple #[.agg #[.bool neg, .slice A n ca, .slice A' m cb], .int .i64 0]) ∧ Below w.heap.size w w' := by
  go_enter Tryz.func60, Tryz.ntmps60
  go_wp2
  refine bodyPost_ret (v := .tuple #[.agg #[.bool neg, .slice A n ca, .slice A' m cb], .int .i64 0]) (by rw [results_cell_tmp rfl]; go_simp) rfl ⟨rfl, ?_⟩
  exact ((Below.refl _ _).alloc (Nat.le_refl _) _).alloc (by simp) _

/-- A number, or the zero number and the error that it is too long. -/
def FitPost (w : World) (neg : Bool) (x y : Nat) (e : Ending) (w' : World) : Prop :=
  (fitB x y = true ∧ ∃ v, e = .returned (.tuple #[v, .int .i64 0]) ∧ NumV w' v neg x y ∧ Below w.heap.size w w') ∨
  (fitB x y = false ∧ e = .returned (.tuple #[zeroNum, .int .i64 3]) ∧ Below w.heap.size w w')

theorem fits_any (neg : Bool) (x y : Nat) (v : Value) (w : World) (h : NumV w v neg x y) : Calls Tryz.prog 60 #[v] w (FitPost w neg x y) := by
  obtain ⟨va, vb, rfl, ha, hb⟩ := h
  have hA := ha
  have hB := hb
  obtain ⟨A, ca, rfl, _⟩ := ha
  obtain ⟨A', cb, rfl, _⟩ := hb
  by_cases hf : (digs W32 x).length ≤ 128 ∧ (digs W32 y).length ≤ 128
  · refine (fits_yes neg A A' _ _ ca cb w hf.1 hf.2).mono fun e w' ⟨he, hb⟩ => .inl ⟨decide_eq_true hf, _, he, ⟨_, _, rfl, hA.to hb, hB.to hb⟩, hb⟩
  · exact (fits_no neg A A' _ _ ca cb w (by omega)).mono fun e w' ⟨he, hb⟩ => .inr ⟨decide_eq_false hf, he, hb⟩
end Go.Proofs.YtdmhkhnnomdkcaaGreatDoor
/- number.raw, made: a number in lowest terms. Conditions: at most 50000 limbs. -/
namespace Go.Proofs.YtdmhkhnnomdkcaaGreatDoor
open Go.RowKit NumB
set_option linter.unusedVariables false
set_option linter.unusedSimpArgs false

theorem digs_one32 : digs W32 1 = [1] := digs_eq W32_gt (Ok.cons (by decide) Ok.nil) (by simp [Top]) (by simp)
theorem one32 (w : World) : Nat32 (w.alloc (.cells #[.int .u32 1] 35)) (.slice (some ⟨w.heap.size, 0, none⟩) 1 1) 1 := by
  unfold Nat32
  rw [digs_one32]
  refine ⟨_, 1, rfl, by decide, by decide, rfl, fun _ => ⟨w.heap.size, 0, rfl, by simp, fun i hi => ?_⟩⟩
  obtain rfl : i = 0 := by simpa using hi
  rw [cell_of_row _ w.heap.size _ #[.int .u32 1] 35 (0, 0) (heap_alloc_new w _)]
  rfl
theorem one32' (w : World) (g : Nat) (hg : w.heap.size = g) : Nat32 (w.alloc (.cells #[.int .u32 1] 35)) (.slice (some ⟨g, 0, none⟩) 1 1) 1 := by subst hg; exact one32 w

theorem Nat32.form {w : World} {v : Value} {x : Nat} (h : Nat32 w v x) : ∃ A n c, v = .slice A n c ∧ n = (digs W32 x).length := by
  obtain ⟨A, c, e, _⟩ := h
  exact ⟨A, _, c, e, rfl⟩
theorem Nat32.len {w : World} {A : Option Addr} {n c x : Nat} (h : Nat32 w (.slice A n c) x) : n = (digs W32 x).length := by
  obtain ⟨A', c', e, _⟩ := h
  injection e
theorem len_pos32 {x n : Nat} (h : n = (digs W32 x).length) : 0 < n ↔ 0 < x := by
  subst h
  constructor
  · intro h
    rcases Nat.eq_zero_or_pos x with h4 | h4
    · subst h4; rw [digs_zero] at h; exact absurd h (by simp)
    · exact h4
  · intro h
    exact List.length_pos_iff.2 fun h4 => by have := (digs_nil W32_gt).1 h4; omega

/-- The post of raw. -/
def RawPost (w : World) (neg : Bool) (x y : Nat) (e : Ending) (w' : World) : Prop := ∃ v, e = .returned v ∧ NumV w' v neg x y ∧ Below w.heap.size w w'

theorem nilBlk (w : World) : Blk (w.alloc (.cells #[.bool false, .slice none 0 0, .slice none 0 0] 24)) w.heap.size 24 #[.bool false, .slice none 0 0, .slice none 0 0] := Blk.new _ _ _

set_option maxRecDepth 100000 in
set_option maxHeartbeats 1600000 in
theorem raw_zero (neg : Bool) (y : Nat) (va vb : Value) (w : World) (ha : Nat32 w va 0) (hb : Nat32 w vb y) :
    Calls Tryz.prog 61 #[.bool neg, va, vb] w (RawPost w false 0 1) := by
  obtain ⟨A, n, c, rfl, hn⟩ := ha.form
  obtain ⟨A', m, d, rfl, hm⟩ := hb.form
  rw [digs_zero] at hn
  obtain rfl : n = 0 := hn
  have HB1 := Lib.hid (nilBlk w)
  clear ha hb hm
  go_enter Tryz.func61, Tryz.ntmps61
  go_wp2
  refine bodyPost_ret (v := .agg #[.bool false, .slice none 0 0, .slice (some ⟨w.heap.size + 1, 0, none⟩) 1 1]) (by simp [results, Tryz.results61, go_sem]) rfl ⟨_, rfl, ?_, ?_⟩
  · exact ⟨_, _, rfl, nat32_zero _, one32' _ _ (by simp)⟩
  · exact ((Below.refl _ _).alloc (Nat.le_refl _) _).alloc (by simp) _

theorem below_one (w : World) (o : Obj) : Below w.heap.size w (w.alloc o) := (Below.refl _ _).alloc (Nat.le_refl _) _

set_option maxRecDepth 100000 in
set_option maxHeartbeats 3200000 in
theorem raw_one (neg : Bool) (x : Nat) (va vb : Value) (w : World) (ha : Nat32 w va x) (hb : Nat32 w vb 1) (hx0 : 0 < x) (hx : (digs W32 x).length ≤ 50000) :
    Calls Tryz.prog 61 #[.bool neg, va, vb] w (RawPost w neg x 1) := by
  have HA := Lib.hid ha
  have HB := Lib.hid hb
  obtain ⟨A, n, c, rfl, hn⟩ := ha.form
  obtain ⟨A', m, d, rfl, hm⟩ := hb.form
  have hn0 : ((n : Int) == 0) = false := beq_eq_false_iff_ne.2 (by have := (len_pos32 hn).2 hx0; omega)
  have HO := Lib.hid (oneB_true (rfl : (1 : Nat) = 1))
  have HL : Hid ((digs W32 x).length ≤ 1000000 ∧ (digs W32 1).length ≤ 1000000) := ⟨by omega, by rw [digs_one32]; decide⟩
  have HNX : ∀ o : Obj, Hid (Nat32 (w.alloc o) (.slice A n c) x) := fun o => HA.out.to (below_one w o)
  have HNY : ∀ o : Obj, Hid (Nat32 (w.alloc o) (.slice A' m d) 1) := fun o => HB.out.to (below_one w o)
  have HBK := Lib.hid (nilBlk w)
  clear ha hb hm hn hx hx0
  go_enter Tryz.func61, Tryz.ntmps61
  go_wp2_with fail
  refine (isOne_any 1 _ _ (by exact (HNY _).out)).mono ?_
  rintro e w1 ⟨rfl, rfl⟩
  rw [HO.out]
  go_wp2_with fail
  refine (clone_any _ _ _ (by exact (HNX _).out) (by exact HL.out.1)).mono ?_
  rintro e wc ⟨vc, rfl, hnc, hbc⟩
  have HC1 : Hid (Nat32 wc vc _) := hnc.sl
  have HBC := Lib.hid hbc
  clear hnc hbc
  go_wp2_with fail
  refine (clone_any _ _ _ (by exact Sl.to (HNY _).out HBC.out) (by exact HL.out.2)).mono ?_
  rintro e wd ⟨vd, rfl, hnd, hbd⟩
  have HD1 : Hid (Nat32 wd vd _) := hnd.sl
  have HBD := Lib.hid hbd
  clear hnd hbd
  have HC2 := Lib.hid (HC1.out.to HBD.out)
  have hblk := (HBK.out.to HBC.out).to HBD.out
  have HBE : Hid (Below w.heap.size w wd) := ((below_one w _).trans (HBC.out.mono (below_one w _).size)).trans (HBD.out.mono (Nat.le_trans (below_one w _).size HBC.out.size))
  have hc0 := hblk.cell 0
  have hc1 := hblk.cell 1
  have hc2 := hblk.cell 2
  have hf0 := hblk.frozen 0
  have hf1 := hblk.frozen 1
  have hf2 := hblk.frozen 2
  have HBLK := Lib.hid hblk
  clear hblk HC1
  simp only [List.getElem?_toArray, List.getElem?_cons_zero, List.getElem?_cons_succ] at hc0 hc1 hc2
  obtain ⟨Ac, nc, cc, rfl, hlc⟩ := HC2.out.form
  obtain ⟨Ad, nd, cd, rfl, hld⟩ := HD1.out.form
  clear hlc hld
  go_wp2
  refine bodyPost_ret (v := .agg #[.bool neg, .slice Ac nc cc, .slice Ad nd cd]) (by simp [results, Tryz.results61, go_sem, hc0, hc1, hc2]) rfl ⟨_, rfl, ?_, ?_⟩
  · exact ⟨_, _, rfl, HC2.out.put3 HBLK.out _ _ _, HD1.out.put3 HBLK.out _ _ _⟩
  · exact put3_below HBE.out (Nat.le_refl _) _ _ _

set_option maxRecDepth 100000 in
set_option maxHeartbeats 6400000 in
theorem raw_gen (neg : Bool) (x y : Nat) (va vb : Value) (w : World) (ha : Nat32 w va x) (hb : Nat32 w vb y) (hx0 : 0 < x) (hy0 : 0 < y) (hy1 : y ≠ 1) (hx : (digs W32 x).length ≤ 50000) (hy : (digs W32 y).length ≤ 50000) :
    Calls Tryz.prog 61 #[.bool neg, va, vb] w (RawPost w neg (x / Nat.gcd x y) (y / Nat.gcd x y)) := by
  have HA := Lib.hid ha
  have HB := Lib.hid hb
  obtain ⟨A, n, c, rfl, hn⟩ := ha.form
  obtain ⟨A', m, d, rfl, hm⟩ := hb.form
  have hn0 : ((n : Int) == 0) = false := beq_eq_false_iff_ne.2 (by have := (len_pos32 hn).2 hx0; omega)
  have HO := Lib.hid (oneB_false hy1)
  have HLX := Lib.hid (And.intro hx hy)
  have HG0 : Hid (0 < Nat.gcd x y) := Nat.gcd_pos_of_pos_left _ hx0
  have HL : Hid ((digs W32 (x / Nat.gcd x y)).length ≤ 1000000 ∧ (digs W32 (y / Nat.gcd x y)).length ≤ 1000000) := ⟨Nat.le_trans (digs_len_mono W32_gt (Nat.div_le_self _ _)) (by omega), Nat.le_trans (digs_len_mono W32_gt (Nat.div_le_self _ _)) (by omega)⟩
  have HNX : ∀ o : Obj, Hid (Nat32 (w.alloc o) (.slice A n c) x) := fun o => HA.out.to (below_one w o)
  have HNY : ∀ o : Obj, Hid (Nat32 (w.alloc o) (.slice A' m d) y) := fun o => HB.out.to (below_one w o)
  have HBK := Lib.hid (nilBlk w)
  clear ha hb hm hn hx hx0 hy hy0 hy1
  generalize hg : Nat.gcd x y = g at *
  have HG := Lib.hid hg
  clear hg
  by_cases hg1 : g = 1
  · subst hg1
    rw [Nat.div_one, Nat.div_one] at HL ⊢
    have HO2 := Lib.hid (oneB_true (rfl : (1 : Nat) = 1))
    go_enter Tryz.func61, Tryz.ntmps61
    go_wp2_with fail
    refine (isOne_any y _ _ (by exact (HNY _).out)).mono ?_
    rintro e w1 ⟨rfl, rfl⟩
    rw [HO.out]
    go_wp2_with fail
    refine (gcd_any x y _ _ _ (by exact (HNX _).out) (by exact (HNY _).out) HLX.out.1 HLX.out.2).mono ?_
    rintro e w1 ⟨v1, rfl, hn1, hb1⟩
    have HN1 := Lib.hid hn1
    have HB1 := Lib.hid hb1
    have HBL := Lib.hid ((below_one w _).trans (hb1.mono (below_one w _).size))
    rw [HG.out] at HN1
    clear hn1 hb1
    go_wp2_with fail
    refine (isOne_any 1 _ _ (by exact HN1.out)).mono ?_
    rintro e w2 ⟨rfl, rfl⟩
    rw [HO2.out]
    go_wp2_with fail
    refine (clone_any _ _ _ (by exact (HNX _).out.to HB1.out) (by exact HL.out.1)).mono ?_
    rintro e wc ⟨vc, rfl, hnc, hbc⟩
    have HC1 : Hid (Nat32 wc vc _) := hnc.sl
    have HBC := Lib.hid hbc
    clear hnc hbc
    go_wp2_with fail
    refine (clone_any _ _ _ (by exact Sl.to ((HNY _).out.to HB1.out) HBC.out) (by exact HL.out.2)).mono ?_
    rintro e wd ⟨vd, rfl, hnd, hbd⟩
    have HD1 : Hid (Nat32 wd vd _) := hnd.sl
    have HBD := Lib.hid hbd
    clear hnd hbd
    have HC2 := Lib.hid (HC1.out.to HBD.out)
    have hblk := ((HBK.out.to HB1.out).to HBC.out).to HBD.out
    have HBE : Hid (Below w.heap.size w wd) := ((HBL.out).trans (HBC.out.mono (HBL.out).size)).trans (HBD.out.mono (Nat.le_trans (HBL.out).size HBC.out.size))
    have hc0 := hblk.cell 0
    have hc1 := hblk.cell 1
    have hc2 := hblk.cell 2
    have hf0 := hblk.frozen 0
    have hf1 := hblk.frozen 1
    have hf2 := hblk.frozen 2
    have HBLK := Lib.hid hblk
    clear hblk HC1
    simp only [List.getElem?_toArray, List.getElem?_cons_zero, List.getElem?_cons_succ] at hc0 hc1 hc2
    obtain ⟨Ac, nc, cc, rfl, hlc⟩ := HC2.out.form
    obtain ⟨Ad, nd, cd, rfl, hld⟩ := HD1.out.form
    clear hlc hld
    go_wp2
    refine bodyPost_ret (v := .agg #[.bool neg, .slice Ac nc cc, .slice Ad nd cd]) (by simp [results, Tryz.results61, go_sem, hc0, hc1, hc2]) rfl ⟨_, rfl, ?_, ?_⟩
    · exact ⟨_, _, rfl, HC2.out.put3 HBLK.out _ _ _, HD1.out.put3 HBLK.out _ _ _⟩
    · exact put3_below HBE.out (Nat.le_refl _) _ _ _
  · have HO2 := Lib.hid (oneB_false hg1)
    clear hg1
    go_enter Tryz.func61, Tryz.ntmps61
    go_wp2_with fail
    refine (isOne_any y _ _ (by exact (HNY _).out)).mono ?_
    rintro e w1 ⟨rfl, rfl⟩
    rw [HO.out]
    go_wp2_with fail
    refine (gcd_any x y _ _ _ (by exact (HNX _).out) (by exact (HNY _).out) HLX.out.1 HLX.out.2).mono ?_
    rintro e w1 ⟨v1, rfl, hn1, hb1⟩
    have HN1 := Lib.hid hn1
    have HB1 := Lib.hid hb1
    have HBL := Lib.hid ((below_one w _).trans (hb1.mono (below_one w _).size))
    rw [HG.out] at HN1
    clear hn1 hb1
    go_wp2_with fail
    refine (isOne_any g _ _ (by exact HN1.out)).mono ?_
    rintro e w2 ⟨rfl, rfl⟩
    rw [HO2.out]
    go_wp2_with fail
    refine (divMod_any x g _ _ _ (by exact (HNX _).out.to HB1.out) (by exact HN1.out) HLX.out.1 HG0.out).mono ?_
    rintro e w2 ⟨v2, u2, rfl, hn2, _, hb2⟩
    have HN2 := Lib.hid hn2
    have HB2 := Lib.hid hb2
    have HBL2 := Lib.hid (HBL.out.trans (hb2.mono HBL.out.size))
    clear hn2 hb2
    go_wp2_with fail
    refine (divMod_any y g _ _ _ (by exact ((HNY _).out.to HB1.out).to HB2.out) (by exact HN1.out.to HB2.out) HLX.out.2 HG0.out).mono ?_
    rintro e w3 ⟨v3, u3, rfl, hn3, _, hb3⟩
    have HN3 := Lib.hid hn3
    have HB3 := Lib.hid hb3
    have HBL3 := Lib.hid (HBL2.out.trans (hb3.mono HBL2.out.size))
    clear hn3 hb3
    go_wp2_with fail
    refine (clone_any _ _ _ (by exact HN2.out.to HB3.out) (by exact HL.out.1)).mono ?_
    rintro e wc ⟨vc, rfl, hnc, hbc⟩
    have HC1 : Hid (Nat32 wc vc _) := hnc.sl
    have HBC := Lib.hid hbc
    clear hnc hbc
    go_wp2_with fail
    refine (clone_any _ _ _ (by exact Sl.to HN3.out HBC.out) (by exact HL.out.2)).mono ?_
    rintro e wd ⟨vd, rfl, hnd, hbd⟩
    have HD1 : Hid (Nat32 wd vd _) := hnd.sl
    have HBD := Lib.hid hbd
    clear hnd hbd
    have HC2 := Lib.hid (HC1.out.to HBD.out)
    have hblk := ((((HBK.out.to HB1.out).to HB2.out).to HB3.out).to HBC.out).to HBD.out
    have HBE : Hid (Below w.heap.size w wd) := ((HBL3.out).trans (HBC.out.mono (HBL3.out).size)).trans (HBD.out.mono (Nat.le_trans (HBL3.out).size HBC.out.size))
    have hc0 := hblk.cell 0
    have hc1 := hblk.cell 1
    have hc2 := hblk.cell 2
    have hf0 := hblk.frozen 0
    have hf1 := hblk.frozen 1
    have hf2 := hblk.frozen 2
    have HBLK := Lib.hid hblk
    clear hblk HC1
    simp only [List.getElem?_toArray, List.getElem?_cons_zero, List.getElem?_cons_succ] at hc0 hc1 hc2
    obtain ⟨Ac, nc, cc, rfl, hlc⟩ := HC2.out.form
    obtain ⟨Ad, nd, cd, rfl, hld⟩ := HD1.out.form
    clear hlc hld
    go_wp2
    refine bodyPost_ret (v := .agg #[.bool neg, .slice Ac nc cc, .slice Ad nd cd]) (by simp [results, Tryz.results61, go_sem, hc0, hc1, hc2]) rfl ⟨_, rfl, ?_, ?_⟩
    · exact ⟨_, _, rfl, HC2.out.put3 HBLK.out _ _ _, HD1.out.put3 HBLK.out _ _ _⟩
    · exact put3_below HBE.out (Nat.le_refl _) _ _ _

/-- What raw makes of a sign and two naturals. -/
theorem raw_any (neg : Bool) (x y : Nat) (va vb : Value) (w : World) (ha : Nat32 w va x) (hb : Nat32 w vb y) (hy0 : 0 < y) (hx : (digs W32 x).length ≤ 50000) (hy : (digs W32 y).length ≤ 50000) :
    Calls Tryz.prog 61 #[.bool neg, va, vb] w (RawPost w (neg && decide (0 < x)) (x / Nat.gcd x y) (y / Nat.gcd x y)) := by
  rcases Nat.eq_zero_or_pos x with rfl | hx0
  · rw [Nat.gcd_zero_left, Nat.zero_div, Nat.div_self hy0, show (neg && decide (0 < 0)) = false by simp]
    exact raw_zero neg y va vb w ha hb
  · rw [show (neg && decide (0 < x)) = neg by simp [hx0]]
    by_cases hy1 : y = 1
    · subst hy1
      rw [Nat.gcd_one_right, Nat.div_one, Nat.div_one]
      exact raw_one neg x va vb w ha hb hx0 hx
    · exact raw_gen neg x y va vb w ha hb hx0 hy0 hy1 hx hy
end Go.Proofs.YtdmhkhnnomdkcaaGreatDoor

/-  -/
import Derived.Laws.ResultCell
import Derived.Test.YtkamkaehlofgpaaJo9
set_option linter.unusedVariables false
set_option linter.unusedSimpArgs false
/- number.Check at lists without a last zero. -/
namespace Go.Proofs.Ytkamkaehlofgpaa
open Go.RowKit NumB
set_option linter.unusedVariables false
set_option linter.unusedSimpArgs false

set_option maxRecDepth 100000 in
set_option maxHeartbeats 3200000 in
theorem check_zero (neg : Bool) (x y : Nat) (va vb : Value) (w : World) (ha : Nat32 w va x) (hb : Nat32 w vb y) (hx : (digs W32 x).length ≤ 128) (hy : (digs W32 y).length ≤ 128) (hy0 : 0 < (digs W32 y).length) (h0 : 0 < (digs W32 x).length ↔ 0 < x) (hx0 : x = 0) (hl1 : lastB (digs W32 x) = false) (hl2 : lastB (digs W32 y) = false) :
    Calls Try.prog 81 #[.agg #[.bool neg, va, vb]] w fun e w' => e = .returned (.int .i64 (checkN neg x y)) ∧ Below w.heap.size w w' := by
  have HA := Lib.hid ha
  have HB := Lib.hid hb
  obtain ⟨A, ca, rfl, hca, hma, hra⟩ := ha
  obtain ⟨A', cb, rfl, hcb, hmb, hrb⟩ := hb
  have HL := Lib.hid hl1
  have HL2 := Lib.hid hl2
  have HX := Lib.hid (And.intro hx hy)
  clear hra hrb hl1 hl2
  unfold maxLen at hma hmb
  generalize hn : (digs W32 x).length = n at *
  generalize hm : (digs W32 y).length = m at *
  have HN := Lib.hid (And.intro hn hm)
  have hm1 : ((m : Int) == 0) = false := beq_eq_false_iff_ne.2 (by omega)
  clear hn hm
  have HSA : ∀ o : Obj, Hid (Nat32 (w.alloc o) (.slice A n ca) x) := fun o => HA.out.to ((Below.refl _ _).alloc (Nat.le_refl _) o)
  have HSB : ∀ o : Obj, Hid (Nat32 (w.alloc o) (.slice A' m cb) y) := fun o => HB.out.to ((Below.refl _ _).alloc (Nat.le_refl _) o)
  clear HA HB
  · obtain rfl : n = 0 := by omega
    cases neg with
    | true =>
      have E : Hid (checkN true x y = 2) := by unfold Hid checkN; rw [if_pos hx0, if_neg (by simp)]
      clear h0 hx0
      go_enter Try.func81, Try.ntmps81
      go_wp2_with fail
      refine (last_any (digs W32 x) _ _ (by exact (HSA _).out)).mono ?_
      rintro e w1 ⟨rfl, rfl⟩
      rw [HL.out]
      go_wp2_with fail
      refine (last_any (digs W32 y) _ _ (by exact (HSB _).out)).mono ?_
      rintro e w1 ⟨rfl, rfl⟩
      rw [HL2.out]
      go_wp2
      go_ret
      rw [E.out]
      exact ⟨rfl, (Below.refl _ _).alloc (Nat.le_refl _) _⟩
    | false =>
      have E : Hid (checkN false x y = if y = 1 then 0 else 2) := by unfold Hid checkN; rw [if_pos hx0]; simp
      clear h0 hx0
      by_cases hy1 : y = 1
      · have HO := Lib.hid (oneB_true hy1)
        rw [if_pos hy1] at E
        clear hy1
        go_enter Try.func81, Try.ntmps81
        go_wp2_with fail
        refine (last_any (digs W32 x) _ _ (by exact (HSA _).out)).mono ?_
        rintro e w1 ⟨rfl, rfl⟩
        rw [HL.out]
        go_wp2_with fail
        refine (last_any (digs W32 y) _ _ (by exact (HSB _).out)).mono ?_
        rintro e w1 ⟨rfl, rfl⟩
        rw [HL2.out]
        go_wp2_with fail
        refine (isOne_any y _ _ (by exact (HSB _).out)).mono ?_
        rintro e w1 ⟨rfl, rfl⟩
        rw [HO.out]
        go_wp2_with fail
        refine (isOne_any y _ _ (by exact (HSB _).out)).mono ?_
        rintro e w1 ⟨rfl, rfl⟩
        rw [HO.out]
        go_wp2
        go_ret
        rw [E.out]
        exact ⟨rfl, (Below.refl _ _).alloc (Nat.le_refl _) _⟩
      · have HO := Lib.hid (oneB_false hy1)
        rw [if_neg hy1] at E
        clear hy1
        go_enter Try.func81, Try.ntmps81
        go_wp2_with fail
        refine (last_any (digs W32 x) _ _ (by exact (HSA _).out)).mono ?_
        rintro e w1 ⟨rfl, rfl⟩
        rw [HL.out]
        go_wp2_with fail
        refine (last_any (digs W32 y) _ _ (by exact (HSB _).out)).mono ?_
        rintro e w1 ⟨rfl, rfl⟩
        rw [HL2.out]
        go_wp2_with fail
        refine (isOne_any y _ _ (by exact (HSB _).out)).mono ?_
        rintro e w1 ⟨rfl, rfl⟩
        rw [HO.out]
        go_wp2
        go_ret
        rw [E.out]
        exact ⟨rfl, (Below.refl _ _).alloc (Nat.le_refl _) _⟩
end Go.Proofs.Ytkamkaehlofgpaa
/- number.Check at a positive numerator. -/
namespace Go.Proofs.Ytkamkaehlofgpaa
open Go.RowKit NumB
set_option linter.unusedVariables false
set_option linter.unusedSimpArgs false

set_option maxRecDepth 100000 in
set_option maxHeartbeats 3200000 in
theorem check_pos (neg : Bool) (x y : Nat) (va vb : Value) (w : World) (ha : Nat32 w va x) (hb : Nat32 w vb y) (hx : (digs W32 x).length ≤ 128) (hy : (digs W32 y).length ≤ 128) (hy0 : 0 < (digs W32 y).length) (h0 : 0 < (digs W32 x).length ↔ 0 < x) (hx0 : 0 < x) (hl1 : lastB (digs W32 x) = false) (hl2 : lastB (digs W32 y) = false) :
    Calls Try.prog 81 #[.agg #[.bool neg, va, vb]] w fun e w' => e = .returned (.int .i64 (checkN neg x y)) ∧ Below w.heap.size w w' := by
  have HA := Lib.hid ha
  have HB := Lib.hid hb
  obtain ⟨A, ca, rfl, hca, hma, hra⟩ := ha
  obtain ⟨A', cb, rfl, hcb, hmb, hrb⟩ := hb
  have HL := Lib.hid hl1
  have HL2 := Lib.hid hl2
  have HX := Lib.hid (And.intro hx hy)
  clear hra hrb hl1 hl2
  unfold maxLen at hma hmb
  generalize hn : (digs W32 x).length = n at *
  generalize hm : (digs W32 y).length = m at *
  have HN := Lib.hid (And.intro hn hm)
  have hm1 : ((m : Int) == 0) = false := beq_eq_false_iff_ne.2 (by omega)
  clear hn hm
  have HSA : ∀ o : Obj, Hid (Nat32 (w.alloc o) (.slice A n ca) x) := fun o => HA.out.to ((Below.refl _ _).alloc (Nat.le_refl _) o)
  have HSB : ∀ o : Obj, Hid (Nat32 (w.alloc o) (.slice A' m cb) y) := fun o => HB.out.to ((Below.refl _ _).alloc (Nat.le_refl _) o)
  clear HA HB
  have hn1 : ((n : Int) == 0) = false := beq_eq_false_iff_ne.2 (by omega)
  have HX0 : Hid (x ≠ 0) := by unfold Hid; omega
  clear h0 hx0
  by_cases hy1 : y = 1
  · have HO := Lib.hid (oneB_true hy1)
    have E : Hid (checkN neg x y = 0) := by unfold Hid checkN; rw [if_neg HX0.out, if_pos (.inl hy1)]
    clear hy1
    go_enter Try.func81, Try.ntmps81
    go_wp2_with fail
    refine (last_any (digs W32 x) _ _ (by exact (HSA _).out)).mono ?_
    rintro e w1 ⟨rfl, rfl⟩
    rw [HL.out]
    go_wp2_with fail
    refine (last_any (digs W32 y) _ _ (by exact (HSB _).out)).mono ?_
    rintro e w1 ⟨rfl, rfl⟩
    rw [HL2.out]
    go_wp2_with fail
    refine (isOne_any y _ _ (by exact (HSB _).out)).mono ?_
    rintro e w1 ⟨rfl, rfl⟩
    rw [HO.out]
    go_wp2
    go_ret
    rw [E.out]
    exact ⟨rfl, (Below.refl _ _).alloc (Nat.le_refl _) _⟩
  · have HO := Lib.hid (oneB_false hy1)
    by_cases hx1 : x = 1
    · have HOX := Lib.hid (oneB_true hx1)
      have E : Hid (checkN neg x y = 0) := by unfold Hid checkN; rw [if_neg HX0.out, if_pos (.inr (.inl hx1))]
      clear hy1 hx1
      go_enter Try.func81, Try.ntmps81
      go_wp2_with fail
      refine (last_any (digs W32 x) _ _ (by exact (HSA _).out)).mono ?_
      rintro e w1 ⟨rfl, rfl⟩
      rw [HL.out]
      go_wp2_with fail
      refine (last_any (digs W32 y) _ _ (by exact (HSB _).out)).mono ?_
      rintro e w1 ⟨rfl, rfl⟩
      rw [HL2.out]
      go_wp2_with fail
      refine (isOne_any y _ _ (by exact (HSB _).out)).mono ?_
      rintro e w1 ⟨rfl, rfl⟩
      rw [HO.out]
      go_wp2_with fail
      refine (isOne_any x _ _ (by exact (HSA _).out)).mono ?_
      rintro e w1 ⟨rfl, rfl⟩
      rw [HOX.out]
      go_wp2
      go_ret
      rw [E.out]
      exact ⟨rfl, (Below.refl _ _).alloc (Nat.le_refl _) _⟩
    · have HOX := Lib.hid (oneB_false hx1)
      by_cases hg : Nat.gcd x y = 1
      · have HG := Lib.hid (oneB_true hg)
        have E : Hid (checkN neg x y = 0) := by unfold Hid checkN; rw [if_neg HX0.out, if_pos (.inr (.inr hg))]
        clear hy1 hx1 hg
        go_enter Try.func81, Try.ntmps81
        go_wp2_with fail
        refine (last_any (digs W32 x) _ _ (by exact (HSA _).out)).mono ?_
        rintro e w1 ⟨rfl, rfl⟩
        rw [HL.out]
        go_wp2_with fail
        refine (last_any (digs W32 y) _ _ (by exact (HSB _).out)).mono ?_
        rintro e w1 ⟨rfl, rfl⟩
        rw [HL2.out]
        go_wp2_with fail
        refine (isOne_any y _ _ (by exact (HSB _).out)).mono ?_
        rintro e w1 ⟨rfl, rfl⟩
        rw [HO.out]
        go_wp2_with fail
        refine (isOne_any x _ _ (by exact (HSA _).out)).mono ?_
        rintro e w1 ⟨rfl, rfl⟩
        rw [HOX.out]
        go_wp2_with fail
        refine (gcd_any x y _ _ _ (by exact (HSA _).out) (by exact (HSB _).out) (by rw [HN.out.1]; exact Nat.le_trans HX.out.1 (by omega)) (by rw [HN.out.2]; exact Nat.le_trans HX.out.2 (by omega))).mono ?_
        rintro e w2 ⟨v2, rfl, hn2, hb2⟩
        have H2 := Lib.hid (And.intro hn2 hb2)
        clear hn2 hb2
        go_wp2_with fail
        refine (isOne_any (Nat.gcd x y) _ _ H2.out.1).mono ?_
        rintro e w1 ⟨rfl, rfl⟩
        rw [HG.out]
        go_wp2
        go_ret
        rw [E.out]
        exact ⟨rfl, ((Below.refl _ _).alloc (Nat.le_refl _) _).trans (H2.out.2.mono (by simp))⟩
      · have HG := Lib.hid (oneB_false hg)
        have E : Hid (checkN neg x y = 2) := by unfold Hid checkN; rw [if_neg HX0.out, if_neg (by rintro (h | h | h); exact hy1 h; exact hx1 h; exact hg h)]
        clear hy1 hx1 hg
        go_enter Try.func81, Try.ntmps81
        go_wp2_with fail
        refine (last_any (digs W32 x) _ _ (by exact (HSA _).out)).mono ?_
        rintro e w1 ⟨rfl, rfl⟩
        rw [HL.out]
        go_wp2_with fail
        refine (last_any (digs W32 y) _ _ (by exact (HSB _).out)).mono ?_
        rintro e w1 ⟨rfl, rfl⟩
        rw [HL2.out]
        go_wp2_with fail
        refine (isOne_any y _ _ (by exact (HSB _).out)).mono ?_
        rintro e w1 ⟨rfl, rfl⟩
        rw [HO.out]
        go_wp2_with fail
        refine (isOne_any x _ _ (by exact (HSA _).out)).mono ?_
        rintro e w1 ⟨rfl, rfl⟩
        rw [HOX.out]
        go_wp2_with fail
        refine (gcd_any x y _ _ _ (by exact (HSA _).out) (by exact (HSB _).out) (by rw [HN.out.1]; exact Nat.le_trans HX.out.1 (by omega)) (by rw [HN.out.2]; exact Nat.le_trans HX.out.2 (by omega))).mono ?_
        rintro e w2 ⟨v2, rfl, hn2, hb2⟩
        have H2 := Lib.hid (And.intro hn2 hb2)
        clear hn2 hb2
        go_wp2_with fail
        refine (isOne_any (Nat.gcd x y) _ _ H2.out.1).mono ?_
        rintro e w1 ⟨rfl, rfl⟩
        rw [HG.out]
        go_wp2
        go_ret
        rw [E.out]
        exact ⟨rfl, ((Below.refl _ _).alloc (Nat.le_refl _) _).trans (H2.out.2.mono (by simp))⟩
end Go.Proofs.Ytkamkaehlofgpaa
/- number.Check, whole. -/
namespace Go.Proofs.Ytkamkaehlofgpaa
open Go.RowKit NumB
set_option linter.unusedVariables false
set_option linter.unusedSimpArgs false

/-- What Check answers at a sign and two lists of limbs. -/
def checkL (neg : Bool) (xs ys : List Nat) : Int :=
  if 128 < xs.length ∨ 128 < ys.length then 3 else if lastB xs = true ∨ lastB ys = true ∨ ys.length = 0 then 2 else checkN neg (val W32 xs) (val W32 ys)

theorem top_of_last {xs : List Nat} (h : lastB xs = false) : Top xs := by
  intro hl
  have h1 : ¬ (0 < xs.length ∧ xs.getD (xs.length - 1) 0 = 0) := of_decide_eq_false h
  apply h1
  rw [List.getLast?_eq_getElem?] at hl
  constructor
  · rcases Nat.eq_zero_or_pos xs.length with h0 | h0
    · rw [List.getElem?_eq_none (by omega)] at hl; exact absurd hl (by simp)
    · exact h0
  · rw [List.getD_eq_getElem?_getD, hl]; rfl

theorem check_any (neg : Bool) (xs ys : List Nat) (va vb : Value) (w : World) (ha : Sl .u32 w va xs) (hb : Sl .u32 w vb ys) (hox : Ok W32 xs) (hoy : Ok W32 ys) :
    Calls Try.prog 81 #[.agg #[.bool neg, va, vb]] w fun e w' => e = .returned (.int .i64 (checkL neg xs ys)) ∧ Below w.heap.size w w' := by
  unfold checkL
  by_cases h1 : 128 < xs.length ∨ 128 < ys.length
  · rw [if_pos h1]; exact check_big neg xs ys va vb w ha hb h1
  rw [if_neg h1]
  by_cases h2 : lastB xs = true ∨ lastB ys = true ∨ ys.length = 0
  · rw [if_pos h2]; exact check_last neg xs ys va vb w ha hb (by omega) (by omega) h2
  rw [if_neg h2]
  have hlx : lastB xs = false := by cases h : lastB xs with | false => rfl | true => exact absurd (.inl h) h2
  have hly : lastB ys = false := by cases h : lastB ys with | false => rfl | true => exact absurd (.inr (.inl h)) h2
  have hl0 : 0 < ys.length := Nat.pos_of_ne_zero fun h => h2 (.inr (.inr h))
  have ex := digs_eq W32_gt hox (top_of_last hlx) rfl
  have ey := digs_eq W32_gt hoy (top_of_last hly) rfl
  have h0 : 0 < (digs W32 (val W32 xs)).length ↔ 0 < val W32 xs := by
    have h3 := digs_nil (B := W32) (n := val W32 xs) W32_gt
    constructor
    · intro h
      rcases Nat.eq_zero_or_pos (val W32 xs) with h4 | h4
      · rw [h3.2 h4] at h; exact absurd h (by simp)
      · exact h4
    · intro h
      exact List.length_pos_iff.2 fun h4 => by have := h3.1 h4; omega
  have hA : Nat32 w va (val W32 xs) := by unfold Nat32; rw [ex]; exact ha
  have hB : Nat32 w vb (val W32 ys) := by unfold Nat32; rw [ey]; exact hb
  rcases Nat.eq_zero_or_pos (val W32 xs) with hz | hz
  · exact check_zero neg _ _ va vb w hA hB (by rw [ex]; omega) (by rw [ey]; omega) (by rw [ey]; exact hl0) h0 hz (by rw [ex]; exact hlx) (by rw [ey]; exact hly)
  · exact check_pos neg _ _ va vb w hA hB (by rw [ex]; omega) (by rw [ey]; omega) (by rw [ey]; exact hl0) h0 hz (by rw [ex]; exact hlx) (by rw [ey]; exact hly)
end Go.Proofs.Ytkamkaehlofgpaa
/- Blocks that hold a struct of the call's own; number.fits. -/
namespace Go.Proofs.Ytkamkaehlofgpaa
open Go.RowKit NumB
set_option linter.unusedVariables false
set_option linter.unusedSimpArgs false

/-- Block g is just the cells cs of type t, none frozen. -/
def Blk (w : World) (g : Nat) (t : TypeId) (cs : Array Value) : Prop := w.heap[g]? = some (.cells cs t (0, 0))
section
variable {w w' : World} {g : Nat} {t : TypeId} {cs : Array Value}
theorem Blk.lt (h : Blk w g t cs) : g < w.heap.size := by
  rcases Nat.lt_or_ge g w.heap.size with hlt | hge
  · exact hlt
  · unfold Blk at h; rw [Array.getElem?_eq_none hge] at h; cases h
theorem Blk.cell (h : Blk w g t cs) (i : Nat) : w.cell? ⟨g, i, none⟩ = cs[i]? := cell_of_row w g i cs t (0, 0) h
theorem Blk.frozen (h : Blk w g t cs) (i : Nat) : w.frozen? ⟨g, i, none⟩ = false := by
  unfold Blk at h
  simp [World.frozen?, h]
theorem Blk.new (w : World) (t : TypeId) (cs : Array Value) : Blk (w.alloc (.cells cs t)) w.heap.size t cs := heap_alloc_new w _
theorem Blk.alloc (h : Blk w g t cs) (o : Obj) : Blk (w.alloc o) g t cs := (Below.heap_alloc w o g h.lt).trans h
theorem Blk.set_ (h : Blk w g t cs) (i : Nat) (u : Value) : Blk (w.setCell ⟨g, i, none⟩ u) g t (cs.setIfInBounds i u) := by
  unfold Blk at h ⊢
  simp [World.setCell, Array.getElem?_modify, h]
theorem Blk.far (h : Blk w g t cs) {p : Addr} (hp : g ≠ p.block) (u : Value) : Blk (w.setCell p u) g t cs := (Below.heap_setCell w p u g hp).trans h
theorem Blk.to (h : Blk w g t cs) (hb : Below w.heap.size w w') : Blk w' g t cs := (hb.block g h.lt).trans h
theorem Blk.drew (h : Blk w g t cs) : Blk w.drew g t cs := h
end

/-- No cell of a block of a struct without integers is an integer: so no slice of integers lies there. -/
def NoInts (cs : Array Value) : Prop := ∀ (i : Nat) (k : IntKind) (n : Int), cs[i]? ≠ some (Value.int k n)

theorem Sl.boxed {k : IntKind} {w w' : World} {v : Value} {xs : List Nat} {g : Nat} {t : TypeId} {cs : Array Value} (h : Sl k w v xs) (hg : Blk w g t cs) (hno : NoInts cs) (hsz : w.heap.size ≤ w'.heap.size) (hk : ∀ p : Addr, p.block ≠ g → w'.cell? p = w.cell? p) : Sl k w' v xs := by
  obtain ⟨A, c, e, h1, h2, h3, h4⟩ := h
  refine ⟨A, c, e, h1, h2, h3, fun hn => ?_⟩
  obtain ⟨b, o, e2, hb, hc⟩ := h4 hn
  have hne : b ≠ g := by
    rintro rfl
    have := hc 0 hn
    rw [hg.cell] at this
    exact hno _ _ _ this
  exact ⟨b, o, e2, Nat.lt_of_lt_of_le hb hsz, fun i hi => (hk _ hne).trans (hc i hi)⟩

/-- A block that holds a number. -/
def numCells (neg : Bool) (va vb : Value) : Array Value := #[.bool neg, va, vb]
theorem noInts_num {neg : Bool} {A A' : Option Addr} {n m c d : Nat} : NoInts #[.bool neg, .slice A n c, .slice A' m d] := by
  intro i k z h
  rcases i with _ | _ | _ | i <;> simp at h

/-- Three stores into the block g. -/
def put3 (w : World) (g : Nat) (a b c : Value) : World := ((w.setCell ⟨g, 0, none⟩ a).setCell ⟨g, 1, none⟩ b).setCell ⟨g, 2, none⟩ c
theorem put3_size (w : World) (g : Nat) (a b c : Value) : (put3 w g a b c).heap.size = w.heap.size := by simp [put3, World.setCell]
theorem put3_far (w : World) (g : Nat) (a b c : Value) (p : Addr) (h : p.block ≠ g) : (put3 w g a b c).cell? p = w.cell? p := by
  unfold put3
  rw [World.cell?_setCell_other _ _ _ _ (by intro e; subst e; exact h rfl), World.cell?_setCell_other _ _ _ _ (by intro e; subst e; exact h rfl), World.cell?_setCell_other _ _ _ _ (by intro e; subst e; exact h rfl)]
theorem put3_below {w0 w : World} {B g : Nat} (h : Below B w0 w) (hg : B ≤ g) (a b c : Value) : Below B w0 (put3 w g a b c) := ((h.setCell (p := ⟨g, 0, none⟩) hg a).setCell (p := ⟨g, 1, none⟩) hg b).setCell (p := ⟨g, 2, none⟩) hg c

theorem Nat32.put3 {w : World} {v : Value} {x g : Nat} {t : TypeId} {neg : Bool} {A A' : Option Addr} {n m ca cb : Nat} (h : Nat32 w v x) (hg : Blk w g t #[.bool neg, .slice A n ca, .slice A' m cb]) (a b c : Value) : Nat32 (put3 w g a b c) v x :=
  Sl.boxed h hg noInts_num (Nat.le_of_eq (put3_size w g a b c).symm) (put3_far w g a b c)

/-- The zero number. -/
def zeroNum : Value := .agg #[.bool false, .slice none 0 0, .slice none 0 0]
/-- A number that reads as a sign, a numerator and a denominator. -/
def NumV (w : World) (v : Value) (neg : Bool) (x y : Nat) : Prop := ∃ va vb, v = .agg #[.bool neg, va, vb] ∧ Nat32 w va x ∧ Nat32 w vb y
theorem NumV.to {w w' : World} {v : Value} {neg : Bool} {x y : Nat} (h : NumV w v neg x y) (hb : Below w.heap.size w w') : NumV w' v neg x y := by
  obtain ⟨va, vb, e, h1, h2⟩ := h
  exact ⟨va, vb, e, h1.to hb, h2.to hb⟩
/-- Both parts have at most 128 limbs. -/
def fitB (x y : Nat) : Bool := decide ((digs W32 x).length ≤ 128 ∧ (digs W32 y).length ≤ 128)

/-- A number, or the zero number and the error that it is too long. -/
def FitPost (w : World) (neg : Bool) (x y : Nat) (e : Ending) (w' : World) : Prop :=
  (fitB x y = true ∧ ∃ v, e = .returned (.tuple #[v, .int .i64 0]) ∧ NumV w' v neg x y ∧ Below w.heap.size w w') ∨
  (fitB x y = false ∧ e = .returned (.tuple #[zeroNum, .int .i64 3]) ∧ Below w.heap.size w w')

end Go.Proofs.Ytkamkaehlofgpaa
/- number.raw, made: a number in lowest terms. Conditions: at most 50000 limbs. -/
namespace Go.Proofs.Ytkamkaehlofgpaa
open Go.RowKit NumB
set_option linter.unusedVariables false
set_option linter.unusedSimpArgs false

theorem digs_one32 : digs W32 1 = [1] := digs_eq W32_gt (Ok.cons (by decide) Ok.nil) (by simp [Top]) (by simp)
theorem one32 (w : World) : Nat32 (w.alloc (.cells #[.int .u32 1] 61)) (.slice (some ⟨w.heap.size, 0, none⟩) 1 1) 1 := by
  unfold Nat32
  rw [digs_one32]
  refine ⟨_, 1, rfl, by decide, by decide, rfl, fun _ => ⟨w.heap.size, 0, rfl, by simp, fun i hi => ?_⟩⟩
  obtain rfl : i = 0 := by simpa using hi
  rw [cell_of_row _ w.heap.size _ #[.int .u32 1] 61 (0, 0) (heap_alloc_new w _)]
  rfl
theorem one32' (w : World) (g : Nat) (hg : w.heap.size = g) : Nat32 (w.alloc (.cells #[.int .u32 1] 61)) (.slice (some ⟨g, 0, none⟩) 1 1) 1 := by subst hg; exact one32 w

theorem Nat32.form {w : World} {v : Value} {x : Nat} (h : Nat32 w v x) : ∃ A n c, v = .slice A n c ∧ n = (digs W32 x).length := by
  obtain ⟨A, c, e, _⟩ := h
  exact ⟨A, _, c, e, rfl⟩
theorem Nat32.len {w : World} {A : Option Addr} {n c x : Nat} (h : Nat32 w (.slice A n c) x) : n = (digs W32 x).length := by
  obtain ⟨A', c', e, _⟩ := h
  injection e
theorem len_pos32 {x n : Nat} (h : n = (digs W32 x).length) : 0 < n ↔ 0 < x := by
  subst h
  constructor
  · intro h
    rcases Nat.eq_zero_or_pos x with h4 | h4
    · subst h4; rw [digs_zero] at h; exact absurd h (by simp)
    · exact h4
  · intro h
    exact List.length_pos_iff.2 fun h4 => by have := (digs_nil W32_gt).1 h4; omega

/-- The post of raw. -/
def RawPost (w : World) (neg : Bool) (x y : Nat) (e : Ending) (w' : World) : Prop := ∃ v, e = .returned v ∧ NumV w' v neg x y ∧ Below w.heap.size w w'

theorem nilBlk (w : World) : Blk (w.alloc (.cells #[.bool false, .slice none 0 0, .slice none 0 0] 25)) w.heap.size 25 #[.bool false, .slice none 0 0, .slice none 0 0] := Blk.new _ _ _

theorem below_one (w : World) (o : Obj) : Below w.heap.size w (w.alloc o) := (Below.refl _ _).alloc (Nat.le_refl _) _

end Go.Proofs.Ytkamkaehlofgpaa
/- number.made. Conditions: at most 50000 limbs. -/
namespace Go.Proofs.Ytkamkaehlofgpaa
open Go.RowKit NumB
set_option linter.unusedVariables false
set_option linter.unusedSimpArgs false

theorem NumV.form {w : World} {v : Value} {neg : Bool} {x y : Nat} (h : NumV w v neg x y) : ∃ A n c A' m d, v = .agg #[.bool neg, .slice A n c, .slice A' m d] ∧ n = (digs W32 x).length ∧ m = (digs W32 y).length := by
  obtain ⟨va, vb, rfl, h1, h2⟩ := h
  obtain ⟨A, n, c, rfl, e1⟩ := h1.form
  obtain ⟨A', m, d, rfl, e2⟩ := h2.form
  exact ⟨A, n, c, A', m, d, rfl, e1, e2⟩
theorem NumV.parts {w : World} {va vb : Value} {s neg : Bool} {x y : Nat} (h : NumV w (.agg #[.bool s, va, vb]) neg x y) : s = neg ∧ Nat32 w va x ∧ Nat32 w vb y := by
  obtain ⟨va', vb', e, h1, h2⟩ := h
  simp only [Value.agg.injEq, Array.mk.injEq, List.cons.injEq, Value.bool.injEq, and_true] at e
  obtain ⟨rfl, rfl, rfl⟩ := e
  exact ⟨rfl, h1, h2⟩
theorem NumV.put3 {w : World} {v : Value} {neg s : Bool} {x y g : Nat} {t : TypeId} {A A' : Option Addr} {n m ca cb : Nat} (h : NumV w v neg x y) (hg : Blk w g t #[.bool s, .slice A n ca, .slice A' m cb]) (a b c : Value) : NumV (put3 w g a b c) v neg x y := by
  obtain ⟨va, vb, rfl, h1, h2⟩ := h
  exact ⟨va, vb, rfl, h1.put3 hg a b c, h2.put3 hg a b c⟩

end Go.Proofs.Ytkamkaehlofgpaa
/- number.check: the first error of a list of numbers. -/
namespace Go.Proofs.Ytkamkaehlofgpaa
open Go.RowKit NumB
set_option linter.unusedVariables false
set_option linter.unusedSimpArgs false

/-- The first of n answers from j on that is not 0. -/
def errsFrom (c : Nat → Int) : Nat → Nat → Int
  | _, 0 => 0
  | j, n + 1 => if c j = 0 then errsFrom c (j + 1) n else c j

/-- A row of k numbers in the block b from o on. -/
def Nums (w : World) (b o k : Nat) (ng : Nat → Bool) (xs ys : Nat → List Nat) : Prop :=
  b < w.heap.size ∧ ∀ i, i < k → ∃ va vb, w.cell? ⟨b, o + i * 3, none⟩ = some (.bool (ng i)) ∧ w.cell? ⟨b, o + i * 3 + 1, none⟩ = some va ∧ w.cell? ⟨b, o + i * 3 + 2, none⟩ = some vb ∧ Sl .u32 w va (xs i) ∧ Sl .u32 w vb (ys i) ∧ Ok W32 (xs i) ∧ Ok W32 (ys i)

end Go.Proofs.Ytkamkaehlofgpaa
/- nat.plus: the sum of two numbers. Conditions: at most 100000 limbs. -/
namespace Go.Proofs.Ytkamkaehlofgpaa
open Go.RowKit NumB
set_option linter.unusedVariables false
set_option linter.unusedSimpArgs false

theorem plus_cell (ca p q : Nat) : ((ca : Int) + (p : Int) + (q : Int)) % 4294967296 = (((ca + p + q) % 4294967296 : Nat) : Int) ∧ ((ca : Int) + (p : Int) + (q : Int)) / 4294967296 = (((ca + p + q) / 4294967296 : Nat) : Int) := by omega
theorem plus_cell1 (ca p : Nat) : ((ca : Int) + (p : Int)) % 4294967296 = (((ca + p + 0) % 4294967296 : Nat) : Int) ∧ ((ca : Int) + (p : Int)) / 4294967296 = (((ca + p + 0) / 4294967296 : Nat) : Int) := by omega

theorem plus_list {xs ys out : List Nat} {j ca p q : Nat} (hj : j < out.length) (hp : xs.getD j 0 = p) (hq : ys.getD j 0 = q)
    (he : val W32 (out.take j) + W32 ^ j * ca = val W32 (xs.take j) + val W32 (ys.take j)) :
    val W32 ((out.set j ((ca + p + q) % 4294967296)).take (j + 1)) + W32 ^ (j + 1) * ((ca + p + q) / 4294967296) = val W32 (xs.take (j + 1)) + val W32 (ys.take (j + 1)) := by
  rw [val_take_succ, val_take_succ, val_take_succ, take_set_lt _ _ _ _ (Nat.le_refl _), getD_set_self _ _ _ hj, hp, hq, Nat.pow_succ]
  exact add_step he

theorem plus_end {xs ys out : List Nat} {n ca x y : Nat} (hx : val W32 xs = x) (hy : val W32 ys = y) (ox : Ok W32 xs) (oy : Ok W32 ys) (hl : xs.length = n) (hm : ys.length ≤ n) (ho : out.length = n + 1)
    (he : val W32 (out.take (n + 1)) + W32 ^ (n + 1) * ca = val W32 (xs.take (n + 1)) + val W32 (ys.take (n + 1))) : val W32 out = x + y := by
  rw [val_take_all W32 out (by omega), val_take_all W32 xs (by omega), val_take_all W32 ys (by omega), hx, hy] at he
  have h1 := val_lt ox
  have h2 := val_lt oy
  rw [hx, hl] at h1
  rw [hy] at h2
  have h3 : W32 ^ ys.length ≤ W32 ^ n := Nat.pow_le_pow_right (by decide) hm
  rcases Nat.eq_zero_or_pos ca with h0 | h0
  · rw [h0, Nat.mul_zero, Nat.add_zero] at he
    exact he
  · exfalso
    have h4 : W32 ^ (n + 1) * 1 ≤ W32 ^ (n + 1) * ca := Nat.mul_le_mul_left _ h0
    have h5 : W32 ^ (n + 1) = W32 ^ n * W32 := Nat.pow_succ _ _
    have h6 : W32 ^ n * 2 ≤ W32 ^ n * W32 := Nat.mul_le_mul_left _ (by decide)
    omega

/-- The summands, the longer one first. -/
def PlusIn (w : World) (s0 s1 : Value) (t : Nat) : Prop := ∃ (A0 B0 : Option Addr) (n m c d x y : Nat) (xs ys : List Nat), s0 = .slice A0 n c ∧ s1 = .slice B0 m d ∧ m ≤ n ∧ n ≤ 100000 ∧ n ≤ c ∧ m ≤ d ∧ c ≤ maxLen ∧ d ≤ maxLen ∧ Rd .u32 w w.heap.size A0 n xs ∧ Rd .u32 w w.heap.size B0 m ys ∧ val W32 xs = x ∧ val W32 ys = y ∧ Ok W32 xs ∧ Ok W32 ys ∧ x + y = t

theorem size_u32' : (Try.prog.info? 61).map (·.size) = some 1 := by kernel_rfl

end Go.Proofs.Ytkamkaehlofgpaa

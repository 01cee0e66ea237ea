/- Blocks that hold a struct of the call's own; number.fits. -/
import Derived.Laws.ResultCell
import Derived.Test.YtfiedhopgmgnoaaDoorJo11
set_option linter.unusedVariables false
set_option linter.unusedSimpArgs false
namespace Go.Proofs.YtfiedhopgmgnoaaDoor
open Go.RowKit NumB
set_option linter.unusedVariables false
set_option linter.unusedSimpArgs false

/-- Block g is just the cells cs of type t, none frozen. -/
def Blk (w : World) (g : Nat) (t : TypeId) (cs : Array Value) : Prop := w.heap[g]? = some (.cells cs t (0, 0))
section
variable {w w' : World} {g : Nat} {t : TypeId} {cs : Array Value}
theorem Blk.lt (h : Blk w g t cs) : g < w.heap.size := by
  rcases Nat.lt_or_ge g w.heap.size with hlt | hge
  · exact hlt
  · unfold Blk at h; rw [Array.getElem?_eq_none hge] at h; cases h
theorem Blk.cell (h : Blk w g t cs) (i : Nat) : w.cell? ⟨g, i, none⟩ = cs[i]? := cell_of_row w g i cs t (0, 0) h
theorem Blk.frozen (h : Blk w g t cs) (i : Nat) : w.frozen? ⟨g, i, none⟩ = false := by
  unfold Blk at h
  simp [World.frozen?, h]
theorem Blk.new (w : World) (t : TypeId) (cs : Array Value) : Blk (w.alloc (.cells cs t)) w.heap.size t cs := heap_alloc_new w _
theorem Blk.alloc (h : Blk w g t cs) (o : Obj) : Blk (w.alloc o) g t cs := (Below.heap_alloc w o g h.lt).trans h
theorem Blk.set_ (h : Blk w g t cs) (i : Nat) (u : Value) : Blk (w.setCell ⟨g, i, none⟩ u) g t (cs.setIfInBounds i u) := by
  unfold Blk at h ⊢
  simp [World.setCell, Array.getElem?_modify, h]
theorem Blk.far (h : Blk w g t cs) {p : Addr} (hp : g ≠ p.block) (u : Value) : Blk (w.setCell p u) g t cs := (Below.heap_setCell w p u g hp).trans h
theorem Blk.to (h : Blk w g t cs) (hb : Below w.heap.size w w') : Blk w' g t cs := (hb.block g h.lt).trans h
theorem Blk.drew (h : Blk w g t cs) : Blk w.drew g t cs := h
end

/-- No cell of a block of a struct without integers is an integer: so no slice of integers lies there. -/
def NoInts (cs : Array Value) : Prop := ∀ (i : Nat) (k : IntKind) (n : Int), cs[i]? ≠ some (Value.int k n)

theorem Sl.boxed {k : IntKind} {w w' : World} {v : Value} {xs : List Nat} {g : Nat} {t : TypeId} {cs : Array Value} (h : Sl k w v xs) (hg : Blk w g t cs) (hno : NoInts cs) (hsz : w.heap.size ≤ w'.heap.size) (hk : ∀ p : Addr, p.block ≠ g → w'.cell? p = w.cell? p) : Sl k w' v xs := by
  obtain ⟨A, c, e, h1, h2, h3, h4⟩ := h
  refine ⟨A, c, e, h1, h2, h3, fun hn => ?_⟩
  obtain ⟨b, o, e2, hb, hc⟩ := h4 hn
  have hne : b ≠ g := by
    rintro rfl
    have := hc 0 hn
    rw [hg.cell] at this
    exact hno _ _ _ this
  exact ⟨b, o, e2, Nat.lt_of_lt_of_le hb hsz, fun i hi => (hk _ hne).trans (hc i hi)⟩

/-- A block that holds a number. -/
def numCells (neg : Bool) (va vb : Value) : Array Value := #[.bool neg, va, vb]
theorem noInts_num {neg : Bool} {A A' : Option Addr} {n m c d : Nat} : NoInts #[.bool neg, .slice A n c, .slice A' m d] := by
  intro i k z h
  rcases i with _ | _ | _ | i <;> simp at h

/-- Three stores into the block g. -/
def put3 (w : World) (g : Nat) (a b c : Value) : World := ((w.setCell ⟨g, 0, none⟩ a).setCell ⟨g, 1, none⟩ b).setCell ⟨g, 2, none⟩ c
theorem put3_size (w : World) (g : Nat) (a b c : Value) : (put3 w g a b c).heap.size = w.heap.size := by simp [put3, World.setCell]
theorem put3_far (w : World) (g : Nat) (a b c : Value) (p : Addr) (h : p.block ≠ g) : (put3 w g a b c).cell? p = w.cell? p := by
  unfold put3
  rw [World.cell?_setCell_other _ _ _ _ (by intro e; subst e; exact h rfl), World.cell?_setCell_other _ _ _ _ (by intro e; subst e; exact h rfl), World.cell?_setCell_other _ _ _ _ (by intro e; subst e; exact h rfl)]
theorem put3_below {w0 w : World} {B g : Nat} (h : Below B w0 w) (hg : B ≤ g) (a b c : Value) : Below B w0 (put3 w g a b c) := ((h.setCell (p := ⟨g, 0, none⟩) hg a).setCell (p := ⟨g, 1, none⟩) hg b).setCell (p := ⟨g, 2, none⟩) hg c

theorem Nat32.put3 {w : World} {v : Value} {x g : Nat} {t : TypeId} {neg : Bool} {A A' : Option Addr} {n m ca cb : Nat} (h : Nat32 w v x) (hg : Blk w g t #[.bool neg, .slice A n ca, .slice A' m cb]) (a b c : Value) : Nat32 (put3 w g a b c) v x :=
  Sl.boxed h hg noInts_num (Nat.le_of_eq (put3_size w g a b c).symm) (put3_far w g a b c)

/-- The zero number. -/
def zeroNum : Value := .agg #[.bool false, .slice none 0 0, .slice none 0 0]
/-- A number that reads as a sign, a numerator and a denominator. -/
def NumV (w : World) (v : Value) (neg : Bool) (x y : Nat) : Prop := ∃ va vb, v = .agg #[.bool neg, va, vb] ∧ Nat32 w va x ∧ Nat32 w vb y
theorem NumV.to {w w' : World} {v : Value} {neg : Bool} {x y : Nat} (h : NumV w v neg x y) (hb : Below w.heap.size w w') : NumV w' v neg x y := by
  obtain ⟨va, vb, e, h1, h2⟩ := h
  exact ⟨va, vb, e, h1.to hb, h2.to hb⟩
/-- Both parts have at most 128 limbs. -/
def fitB (x y : Nat) : Bool := decide ((digs W32 x).length ≤ 128 ∧ (digs W32 y).length ≤ 128)

set_option maxRecDepth 100000 in
set_option maxHeartbeats 1600000 in
theorem fits_no (neg : Bool) (A A' : Option Addr) (n m ca cb : Nat) (w : World) (hx : 128 < n ∨ 128 < m) :
    Calls Tryd.prog 75 #[.agg #[.bool neg, .slice A n ca, .slice A' m cb]] w fun e w' => e = .returned (.tuple #[zeroNum, .int .i64 3]) ∧ Below w.heap.size w w' := by
  by_cases h : 128 < n
  · clear hx
    go_enter Tryd.func75, Tryd.ntmps75
    go_wp2
    refine bodyPost_ret (v := .tuple #[zeroNum, .int .i64 3]) (by rw [results_cell_tmp rfl]; go_simp; rfl) rfl ⟨rfl, ?_⟩
    exact ((Below.refl _ _).alloc (Nat.le_refl _) _).alloc (by simp) _
  · have hm2 : 128 < m := by omega
    have hn2 : n ≤ 128 := by omega
    clear hx h
    go_enter Tryd.func75, Tryd.ntmps75
    go_wp2
    refine bodyPost_ret (v := .tuple #[zeroNum, .int .i64 3]) (by rw [results_cell_tmp rfl]; go_simp; rfl) rfl ⟨rfl, ?_⟩
    exact ((Below.refl _ _).alloc (Nat.le_refl _) _).alloc (by simp) _
set_option maxRecDepth 100000 in
set_option maxHeartbeats 1600000 in
theorem fits_yes (neg : Bool) (A A' : Option Addr) (n m ca cb : Nat) (w : World) (hx : n ≤ 128) (hy : m ≤ 128) :
    Calls Tryd.prog 75 #[.agg #[.bool neg, .slice A n ca, .slice A' m cb]] w fun e w' => e = .returned (.tuple #[.agg #[.bool neg, .slice A n ca, .slice A' m cb], .int .i64 0]) ∧ Below w.heap.size w w' := by
  go_enter Tryd.func75, Tryd.ntmps75
  go_wp2
  refine bodyPost_ret (v := .tuple #[.agg #[.bool neg, .slice A n ca, .slice A' m cb], .int .i64 0]) (by rw [results_cell_tmp rfl]; go_simp) rfl ⟨rfl, ?_⟩
  exact ((Below.refl _ _).alloc (Nat.le_refl _) _).alloc (by simp) _

/-- A number, or the zero number and the error that it is too long. -/
def FitPost (w : World) (neg : Bool) (x y : Nat) (e : Ending) (w' : World) : Prop :=
  (fitB x y = true ∧ ∃ v, e = .returned (.tuple #[v, .int .i64 0]) ∧ NumV w' v neg x y ∧ Below w.heap.size w w') ∨
  (fitB x y = false ∧ e = .returned (.tuple #[zeroNum, .int .i64 3]) ∧ Below w.heap.size w w')

theorem fits_any (neg : Bool) (x y : Nat) (v : Value) (w : World) (h : NumV w v neg x y) : Calls Tryd.prog 75 #[v] w (FitPost w neg x y) := by
  obtain ⟨va, vb, rfl, ha, hb⟩ := h
  have hA := ha
  have hB := hb
  obtain ⟨A, ca, rfl, _⟩ := ha
  obtain ⟨A', cb, rfl, _⟩ := hb
  by_cases hf : (digs W32 x).length ≤ 128 ∧ (digs W32 y).length ≤ 128
  · refine (fits_yes neg A A' _ _ ca cb w hf.1 hf.2).mono fun e w' ⟨he, hb⟩ => .inl ⟨decide_eq_true hf, _, he, ⟨_, _, rfl, hA.to hb, hB.to hb⟩, hb⟩
  · exact (fits_no neg A A' _ _ ca cb w (by omega)).mono fun e w' ⟨he, hb⟩ => .inr ⟨decide_eq_false hf, he, hb⟩
end Go.Proofs.YtfiedhopgmgnoaaDoor

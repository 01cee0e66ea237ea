/- fetterlockref1.Of: a number as a fraction of naturals in base 2^16. Conditions: at most 100000 limbs. -/
import Derived.Deep.RegionHeld3
import Derived.Test.YtfiedhopgmgnoaaDoorJo28
import Derived.Test.YtfiedhopgmgnoaaDoorJo32
import Derived.Test.YtfiedhopgmgnoaaDoorJo34
set_option linter.unusedVariables false
set_option linter.unusedSimpArgs false
namespace Go.Proofs.YtfiedhopgmgnoaaDoor
open Go.RowKit NumB
set_option linter.unusedVariables false
set_option linter.unusedSimpArgs false

/-- A fraction of the reference's. -/
def RV (w : World) (v : Value) (neg : Bool) (x y : Nat) : Prop := ∃ A B, v = .agg #[.bool neg, A, B] ∧ Nat16 w A x ∧ Nat16 w B y
theorem RV.to {w w' : World} {v : Value} {neg : Bool} {x y : Nat} (h : RV w v neg x y) (hb : Below w.heap.size w w') : RV w' v neg x y := by
  obtain ⟨A, B, e, h1, h2⟩ := h
  exact ⟨A, B, e, h1.to hb, h2.to hb⟩
theorem Nat16.form {w : World} {v : Value} {x : Nat} (h : Nat16 w v x) : ∃ A n c, v = .slice A n c ∧ n = (digs W16 x).length := by
  obtain ⟨A, c, e, _⟩ := h
  exact ⟨A, _, c, e, rfl⟩
theorem RV.form {w : World} {v : Value} {neg : Bool} {x y : Nat} (h : RV w v neg x y) : ∃ A n c B m d, v = .agg #[.bool neg, .slice A n c, .slice B m d] ∧ n = (digs W16 x).length ∧ m = (digs W16 y).length := by
  obtain ⟨A, B, rfl, h1, h2⟩ := h
  obtain ⟨A1, n, c, rfl, e1⟩ := h1.form
  obtain ⟨B1, m, d, rfl, e2⟩ := h2.form
  exact ⟨_, _, _, _, _, _, rfl, e1, e2⟩
theorem RV.parts {w : World} {s neg : Bool} {A B : Value} {x y : Nat} (h : RV w (.agg #[.bool s, A, B]) neg x y) : s = neg ∧ Nat16 w A x ∧ Nat16 w B y := by
  obtain ⟨A', B', e, h1, h2⟩ := h
  simp only [Value.agg.injEq, Array.mk.injEq, List.cons.injEq, Value.bool.injEq, and_true] at e
  obtain ⟨rfl, rfl, rfl⟩ := e
  exact ⟨rfl, h1, h2⟩
theorem Nat16.put3 {w : World} {v : Value} {x g : Nat} {t : TypeId} {neg : Bool} {A A' : Option Addr} {n m ca cb : Nat} (h : Nat16 w v x) (hg : Blk w g t #[.bool neg, .slice A n ca, .slice A' m cb]) (a b c : Value) : Nat16 (put3 w g a b c) v x :=
  Sl.boxed h hg noInts_num (Nat.le_of_eq (put3_size w g a b c).symm) (put3_far w g a b c)
theorem RV.put3 {w : World} {v : Value} {neg s : Bool} {x y g : Nat} {t : TypeId} {A A' : Option Addr} {n m ca cb : Nat} (h : RV w v neg x y) (hg : Blk w g t #[.bool s, .slice A n ca, .slice A' m cb]) (a b c : Value) : RV (put3 w g a b c) v neg x y := by
  obtain ⟨va, vb, rfl, h1, h2⟩ := h
  exact ⟨va, vb, rfl, h1.put3 hg a b c, h2.put3 hg a b c⟩
def RVPost (w : World) (neg : Bool) (x y : Nat) (e : Ending) (w' : World) : Prop := ∃ v, e = .returned v ∧ RV w' v neg x y ∧ Below w.heap.size w w'

theorem blk2 (w : World) (t u : TypeId) (a b : Array Value) : Blk ((w.alloc (.cells a t)).alloc (.cells b u)) w.heap.size t a ∧ Blk ((w.alloc (.cells a t)).alloc (.cells b u)) (w.heap.size + 1) u b := by
  refine ⟨(Blk.new w t a).alloc _, ?_⟩
  have := Blk.new (w.alloc (.cells a t)) u b
  simpa using this
theorem below_two (w : World) (o1 o2 : Obj) : Below w.heap.size w ((w.alloc o1).alloc o2) := (below_one w o1).alloc (by simp) o2

set_option maxRecDepth 100000 in
set_option maxHeartbeats 6400000 in
theorem rof_any (a : LN) (v : Value) (w : World) (h : GV w v a) (hl1 : a.num.length ≤ 100000) (hl2 : a.den.length ≤ 100000) : Calls Tryd.prog 18 #[v] w (RVPost w a.neg a.x a.y) := by
  obtain ⟨A, B, rfl, ha, hb, ox, oy⟩ := h
  have HN1 : Hid (∀ (o1 o2 : Obj), Calls Tryd.prog 43 #[A] ((w.alloc o1).alloc o2).drew (RPost ((w.alloc o1).alloc o2).drew a.x)) := fun o1 o2 => natOf_sl a.num A _ (ha.to (below_two w o1 o2).drew) ox hl1
  have HN2 : Hid (∀ (o1 o2 : Obj) (W : World), Below ((w.alloc o1).alloc o2).drew.heap.size ((w.alloc o1).alloc o2).drew W → Calls Tryd.prog 43 #[B] W (RPost W a.y)) := fun o1 o2 W hW => natOf_sl a.den B _ ((hb.to (below_two w o1 o2).drew).to hW) oy hl2
  have HB0 : Hid (∀ o1 o2 : Obj, Below w.heap.size w ((w.alloc o1).alloc o2).drew) := fun o1 o2 => (below_two w o1 o2).drew
  obtain ⟨A, ca, rfl, _⟩ := ha
  obtain ⟨A', cb, rfl, _⟩ := hb
  generalize a.num.length = n at *
  generalize a.den.length = m at *
  generalize a.neg = neg at *
  generalize a.x = x at *
  generalize a.y = y at *
  clear ox oy hl1 hl2
  have HBK := Lib.hid (blk2 w 24 41 #[.bool neg, .slice A n ca, .slice A' m cb] #[.bool false, .slice none 0 0, .slice none 0 0])
  have hk : ∀ W1 W' : World, Below W1.heap.size W1 W' → (W1.cell? ⟨w.heap.size, 0, none⟩ = some (.bool neg) ∧ W1.cell? ⟨w.heap.size, 1, none⟩ = some (.slice A n ca) ∧ W1.cell? ⟨w.heap.size, 2, none⟩ = some (.slice A' m cb) ∧ w.heap.size + 1 < W1.heap.size) → (W'.cell? ⟨w.heap.size, 0, none⟩ = some (.bool neg) ∧ W'.cell? ⟨w.heap.size, 1, none⟩ = some (.slice A n ca) ∧ W'.cell? ⟨w.heap.size, 2, none⟩ = some (.slice A' m cb) ∧ w.heap.size + 1 < W'.heap.size) :=
    fun W1 W' h1 ⟨h3, h4, h5, h2⟩ => ⟨(h1.cell (p := ⟨w.heap.size, 0, none⟩) (by show w.heap.size < _; omega)).trans h3, (h1.cell (p := ⟨w.heap.size, 1, none⟩) (by show w.heap.size < _; omega)).trans h4, (h1.cell (p := ⟨w.heap.size, 2, none⟩) (by show w.heap.size < _; omega)).trans h5, Nat.lt_of_lt_of_le h2 h1.size⟩
  have HK := Lib.hid hk
  clear hk
  go_enter Tryd.func18, Tryd.ntmps18
  go_wp2_with fail
  go_region_held3 (fun w' => w'.cell? ⟨w.heap.size, 0, none⟩ = some (.bool neg) ∧ w'.cell? ⟨w.heap.size, 1, none⟩ = some (.slice A n ca) ∧ w'.cell? ⟨w.heap.size, 2, none⟩ = some (.slice A' m cb) ∧ w.heap.size + 1 < w'.heap.size)
    (first | go_keep | (refine HK.out _ _ (by assumption) ?_; go_keep))
    (first
      | (go_at_call 43; ((with_reducible refine (HN1.out _ _).mono ?_)); rintro e w1 ⟨v1, rfl, hn1, hb1⟩)
      | (go_at_call 43; ((with_reducible refine (HN2.out _ _ _ (by exact hb1)).mono ?_)); rintro e w2 ⟨v2, rfl, hn2, hb2⟩; obtain ⟨C1, _, d1, rfl, rfl⟩ := hn1.form; obtain ⟨C2, _, d2, rfl, rfl⟩ := hn2.form; have hblk := (HBK.out.2.drew.to hb1).to hb2; have hc0 := hblk.cell 0; have hc1 := hblk.cell 1; have hc2 := hblk.cell 2; have hf0 := hblk.frozen 0; have hf1 := hblk.frozen 1; have hf2 := hblk.frozen 2; simp only [List.getElem?_toArray, List.getElem?_cons_zero, List.getElem?_cons_succ] at hc0 hc1 hc2))
  all_goals
    go_wp2_with fail
    refine bodyPost_ret (v := .agg #[.bool neg, .slice C1 (digs W16 x).length d1, .slice C2 (digs W16 y).length d2]) (by simp [results, Tryd.results18, go_sem, hc0, hc1, hc2]) rfl ⟨_, rfl, ?_, ?_⟩
    · exact RV.put3 (w := w2) ⟨_, _, rfl, hn1.to hb2, hn2⟩ hblk _ _ _
    · exact put3_below (((HB0.out _ _).trans (hb1.mono (HB0.out _ _).size)).trans (hb2.mono (Nat.le_trans (HB0.out _ _).size hb1.size))) (by omega) _ _ _
end Go.Proofs.YtfiedhopgmgnoaaDoor

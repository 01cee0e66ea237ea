/- fetterlockref1.Two: what holds within its region that draws its order. -/
import Derived.Test.YtdfcpkjphdepcaaGreatDoorShelf
import Derived.Test.YtdfcpkjphdepcaaGreatDoorJo29
import Derived.Test.YtdfcpkjphdepcaaGreatDoorJo30
import Derived.Test.YtdfcpkjphdepcaaGreatDoorJo31
set_option linter.unusedVariables false
set_option linter.unusedSimpArgs false
namespace Go.Proofs.YtdfcpkjphdepcaaGreatDoor
open Go.RowKit NumB
set_option linter.unusedVariables false
set_option linter.unusedSimpArgs false

theorem GV.putN {w : World} {v : Value} {a : LN} {g : Nat} {t : TypeId} {s : Bool} {A A' : Option Addr} {n m ca cb : Nat} (h : GV w v a) (hg : Blk w g t #[.bool s, .slice A n ca, .slice A' m cb]) (x y z : Value) : GV (Go.Proofs.YtdfcpkjphdepcaaGreatDoor.put3 w g x y z) v a := by
  obtain ⟨p, q, e, h1, h2, h3⟩ := h
  exact ⟨p, q, e, Sl.boxed h1 hg noInts_num (Nat.le_of_eq (put3_size w g x y z).symm) (put3_far w g x y z), Sl.boxed h2 hg noInts_num (Nat.le_of_eq (put3_size w g x y z).symm) (put3_far w g x y z), h3⟩
theorem rmade_S (s : Bool) (x y : Nat) (v : Value) (w : World) (h : RV w v s x y) (hl1 : (digs W16 x).length ≤ 100000) (hl2 : (digs W16 y).length ≤ 100000) : Calls Tryz.prog 24 #[v] w (SPost w (opS 0 s x y)) := (rmade_any s x y v w h hl1 hl2).mono fun _ _ h => FitPost.toS h
theorem Steps.gen {P : Program} {ops : Array Oper} {md : Region.Mode} {Q : Exit → Act → World → Prop} {Inv : (Nat → Bool) → Act → World → Prop} {rs : List Nat} (h : ∀ Q, Steps P md ops Q Inv rs) : Steps P md ops Q Inv rs := h Q
/-- The cells of a struct value. -/
def cellsOf : Value → Array Value
  | .agg xs => xs
  | _ => #[]
/-- What holds within the region: which operations have come up, and what they left. -/
def TwoInv (w : World) (ca cb : Array Value) (a b : LN) (L : Nat → Bool) (s28 s30 s10 s11 : Value) (W : World) : Prop :=
  Below w.heap.size w W ∧ Blk W w.heap.size 24 ca ∧ Blk W (w.heap.size + 1) 24 cb ∧ Blk W (w.heap.size + 1 + 1) 24 numZ ∧
  (L 1 = true → RV W s28 a.neg a.x a.y) ∧ (L 3 = true → RV W s30 b.neg b.x b.y) ∧
  (L 4 = true → ∃ g, s10 = .pointer (some ⟨g, 0, none⟩) ∧ w.heap.size + 1 + 1 < g ∧ (L 6 = false → Blk W g 37 numZ) ∧ (L 6 = true → Blk W g 37 (cellsOf s28))) ∧
  (L 5 = true → ∃ g, s11 = .pointer (some ⟨g, 0, none⟩) ∧ w.heap.size + 1 + 1 < g ∧ (L 7 = false → Blk W g 37 numZ) ∧ (L 7 = true → Blk W g 37 (cellsOf s30))) ∧
  (L 4 = true → L 5 = true → s10 ≠ s11) ∧ (L 6 = true → L 1 = true ∧ L 4 = true) ∧ (L 7 = true → L 3 = true ∧ L 5 = true)
section
variable {w W : World} {ca cb : Array Value} {a b : LN} {L : Nat → Bool} {s28 s30 s10 s11 : Value}
theorem TwoInv.ptr_lt {s : Value} {l : Bool} {c : Array Value} (h : ∃ g, s = .pointer (some ⟨g, 0, none⟩) ∧ w.heap.size + 1 + 1 < g ∧ (l = false → Blk W g 37 numZ) ∧ (l = true → Blk W g 37 c)) : ∃ g, s = .pointer (some ⟨g, 0, none⟩) ∧ g < W.heap.size := by
  obtain ⟨g, e, _, h1, h2⟩ := h
  cases l with
  | false => exact ⟨g, e, (h1 rfl).lt⟩
  | true => exact ⟨g, e, (h2 rfl).lt⟩
/-- The first call has answered. -/
theorem TwoInv.call1 (h : TwoInv w ca cb a b L s28 s30 s10 s11 W) (hL : L 1 = false) {W' : World} (hb : Below W.heap.size W W') {v : Value} (hv : RV W' v a.neg a.x a.y) : TwoInv w ca cb a b (fun j => j == 1 || L j) v s30 s10 s11 W' := by
  obtain ⟨h1, h2, h3, h4, h5, h6, h7, h8, h9, h10, h11⟩ := h
  have no6 : L 6 = true → False := fun h => by have := (h10 h).1; rw [hL] at this; cases this
  refine ⟨h1.trans (hb.mono h1.size), h2.to hb, h3.to hb, h4.to hb, fun _ => hv, fun h => (h6 h).to hb, fun h => ?_, fun h => ?_, h9, fun h => (no6 h).elim, h11⟩
  · obtain ⟨g, e1, e2, e3, e4⟩ := h7 h
    exact ⟨g, e1, e2, fun h => (e3 h).to hb, fun h => (no6 h).elim⟩
  · obtain ⟨g, e1, e2, e3, e4⟩ := h8 h
    exact ⟨g, e1, e2, fun h => (e3 h).to hb, fun h => (e4 h).to hb⟩
/-- The second call has answered. -/
theorem TwoInv.call3 (h : TwoInv w ca cb a b L s28 s30 s10 s11 W) (hL : L 3 = false) {W' : World} (hb : Below W.heap.size W W') {v : Value} (hv : RV W' v b.neg b.x b.y) : TwoInv w ca cb a b (fun j => j == 3 || L j) s28 v s10 s11 W' := by
  obtain ⟨h1, h2, h3, h4, h5, h6, h7, h8, h9, h10, h11⟩ := h
  have no7 : L 7 = true → False := fun h => by have := (h11 h).1; rw [hL] at this; cases this
  refine ⟨h1.trans (hb.mono h1.size), h2.to hb, h3.to hb, h4.to hb, fun h => (h5 h).to hb, fun _ => hv, fun h => ?_, fun h => ?_, h9, h10, fun h => (no7 h).elim⟩
  · obtain ⟨g, e1, e2, e3, e4⟩ := h7 h
    exact ⟨g, e1, e2, fun h => (e3 h).to hb, fun h => (e4 h).to hb⟩
  · obtain ⟨g, e1, e2, e3, e4⟩ := h8 h
    exact ⟨g, e1, e2, fun h => (e3 h).to hb, fun h => (no7 h).elim⟩
theorem TwoInv.alloc4 (h : TwoInv w ca cb a b L s28 s30 s10 s11 W) (hL : L 4 = false) : TwoInv w ca cb a b (fun j => j == 4 || L j) s28 s30 (.pointer (some ⟨W.heap.size, 0, none⟩)) s11 (W.alloc (.cells numZ 37)) := by
  obtain ⟨h1, h2, h3, h4, h5, h6, h7, h8, h9, h10, h11⟩ := h
  have hb := below_one W (.cells numZ 37)
  have no6 : L 6 = true → False := fun h => by have := (h10 h).2; rw [hL] at this; cases this
  refine ⟨h1.trans (hb.mono h1.size), h2.to hb, h3.to hb, h4.to hb, fun h => (h5 h).to hb, fun h => (h6 h).to hb, fun h => ⟨_, rfl, h4.lt, fun _ => Blk.new _ _ _, fun h => (no6 h).elim⟩, fun h => ?_, fun _ h => ?_, fun h => (no6 h).elim, h11⟩
  · obtain ⟨g, e1, e2, e3, e4⟩ := h8 h
    exact ⟨g, e1, e2, fun h => (e3 h).to hb, fun h => (e4 h).to hb⟩
  · obtain ⟨g, e1, e2⟩ := TwoInv.ptr_lt (h8 h)
    rw [e1]
    intro e
    simp only [Value.pointer.injEq, Option.some.injEq, Addr.mk.injEq, and_true] at e
    omega
theorem TwoInv.alloc5 (h : TwoInv w ca cb a b L s28 s30 s10 s11 W) (hL : L 5 = false) : TwoInv w ca cb a b (fun j => j == 5 || L j) s28 s30 s10 (.pointer (some ⟨W.heap.size, 0, none⟩)) (W.alloc (.cells numZ 37)) := by
  obtain ⟨h1, h2, h3, h4, h5, h6, h7, h8, h9, h10, h11⟩ := h
  have hb := below_one W (.cells numZ 37)
  have no7 : L 7 = true → False := fun h => by have := (h11 h).2; rw [hL] at this; cases this
  refine ⟨h1.trans (hb.mono h1.size), h2.to hb, h3.to hb, h4.to hb, fun h => (h5 h).to hb, fun h => (h6 h).to hb, fun h => ?_, fun h => ⟨_, rfl, h4.lt, fun _ => Blk.new _ _ _, fun h => (no7 h).elim⟩, fun h _ => ?_, h10, fun h => (no7 h).elim⟩
  · obtain ⟨g, e1, e2, e3, e4⟩ := h7 h
    exact ⟨g, e1, e2, fun h => (e3 h).to hb, fun h => (e4 h).to hb⟩
  · obtain ⟨g, e1, e2⟩ := TwoInv.ptr_lt (h7 h)
    rw [e1]
    intro e
    simp only [Value.pointer.injEq, Option.some.injEq, Addr.mk.injEq, and_true] at e
    omega
theorem TwoInv.store6 {g : Nat} {x y z : Value} (h : TwoInv w ca cb a b L (.agg #[x, y, z]) s30 (.pointer (some ⟨g, 0, none⟩)) s11 W) (hL : L 6 = false) (h1' : L 1 = true) (h4' : L 4 = true) : TwoInv w ca cb a b (fun j => j == 6 || L j) (.agg #[x, y, z]) s30 (.pointer (some ⟨g, 0, none⟩)) s11 (put3 W g x y z) := by
  obtain ⟨h1, h2, h3, h4, h5, h6, h7, h8, h9, h10, h11⟩ := h
  obtain ⟨g0, e1, e2, e3, e4⟩ := h7 h4'
  simp only [Value.pointer.injEq, Option.some.injEq, Addr.mk.injEq, and_true] at e1
  subst e1
  have hk : Blk W g 37 numZ := e3 hL
  unfold numZ at hk
  refine ⟨put3_below h1 (by omega) _ _ _, h2.put3_far (by omega) _ _ _, h3.put3_far (by omega) _ _ _, h4.put3_far (by omega) _ _ _, fun h => (h5 h).put3 hk _ _ _, fun h => (h6 h).put3 hk _ _ _, fun h => ⟨g, rfl, e2, fun h => absurd h (by simp), fun _ => hk.put3_at _ _ _⟩, fun h => ?_, h9, fun _ => ⟨h1', h4'⟩, h11⟩
  obtain ⟨g', f1, f2, f3, f4⟩ := h8 h
  have hne : g' ≠ g := fun e => h9 h4' h (by rw [f1, e])
  exact ⟨g', f1, f2, fun h => (f3 h).put3_far hne _ _ _, fun h => (f4 h).put3_far hne _ _ _⟩
theorem TwoInv.store7 {g : Nat} {x y z : Value} (h : TwoInv w ca cb a b L s28 (.agg #[x, y, z]) s10 (.pointer (some ⟨g, 0, none⟩)) W) (hL : L 7 = false) (h3' : L 3 = true) (h5' : L 5 = true) : TwoInv w ca cb a b (fun j => j == 7 || L j) s28 (.agg #[x, y, z]) s10 (.pointer (some ⟨g, 0, none⟩)) (put3 W g x y z) := by
  obtain ⟨h1, h2, h3, h4, h5, h6, h7, h8, h9, h10, h11⟩ := h
  obtain ⟨g0, e1, e2, e3, e4⟩ := h8 h5'
  simp only [Value.pointer.injEq, Option.some.injEq, Addr.mk.injEq, and_true] at e1
  subst e1
  have hk : Blk W g 37 numZ := e3 hL
  unfold numZ at hk
  refine ⟨put3_below h1 (by omega) _ _ _, h2.put3_far (by omega) _ _ _, h3.put3_far (by omega) _ _ _, h4.put3_far (by omega) _ _ _, fun h => (h5 h).put3 hk _ _ _, fun h => (h6 h).put3 hk _ _ _, fun h => ?_, fun h => ⟨g, rfl, e2, fun h => absurd h (by simp), fun _ => hk.put3_at _ _ _⟩, h9, h10, fun _ => ⟨h3', h5'⟩⟩
  obtain ⟨g', f1, f2, f3, f4⟩ := h7 h
  have hne : g' ≠ g := fun e => h9 h h5' (by rw [f1, e])
  exact ⟨g', f1, f2, fun h => (f3 h).put3_far hne _ _ _, fun h => (f4 h).put3_far hne _ _ _⟩
end
end Go.Proofs.YtdfcpkjphdepcaaGreatDoor

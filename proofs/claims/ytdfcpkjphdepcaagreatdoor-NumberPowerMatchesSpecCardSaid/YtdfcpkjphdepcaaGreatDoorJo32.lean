/- fetterlockref1.Two: what holds within its region that draws its order. fetterlockref1.power: what holds within the region of its loop that draws its order. Powers by halves: plain facts. No program. -/
import Derived.Test.YtdfcpkjphdepcaaGreatDoorShelf
import Derived.Test.YtdfcpkjphdepcaaGreatDoorJo29
import Derived.Test.YtdfcpkjphdepcaaGreatDoorJo30
import Derived.Test.YtdfcpkjphdepcaaGreatDoorJo31
set_option linter.unusedVariables false
set_option linter.unusedSimpArgs false
namespace Go.Proofs.YtdfcpkjphdepcaaGreatDoor
open Go.RowKit NumB
set_option linter.unusedVariables false
set_option linter.unusedSimpArgs false

theorem GV.putN {w : World} {v : Value} {a : LN} {g : Nat} {t : TypeId} {s : Bool} {A A' : Option Addr} {n m ca cb : Nat} (h : GV w v a) (hg : Blk w g t #[.bool s, .slice A n ca, .slice A' m cb]) (x y z : Value) : GV (Go.Proofs.YtdfcpkjphdepcaaGreatDoor.put3 w g x y z) v a := by
  obtain ⟨p, q, e, h1, h2, h3⟩ := h
  exact ⟨p, q, e, Sl.boxed h1 hg noInts_num (Nat.le_of_eq (put3_size w g x y z).symm) (put3_far w g x y z), Sl.boxed h2 hg noInts_num (Nat.le_of_eq (put3_size w g x y z).symm) (put3_far w g x y z), h3⟩
theorem rmade_S (s : Bool) (x y : Nat) (v : Value) (w : World) (h : RV w v s x y) (hl1 : (digs W16 x).length ≤ 100000) (hl2 : (digs W16 y).length ≤ 100000) : Calls Tryz.prog 24 #[v] w (SPost w (opS 0 s x y)) := (rmade_any s x y v w h hl1 hl2).mono fun _ _ h => FitPost.toS h
theorem Steps.gen {P : Program} {ops : Array Oper} {md : Region.Mode} {Q : Exit → Act → World → Prop} {Inv : (Nat → Bool) → Act → World → Prop} {rs : List Nat} (h : ∀ Q, Steps P md ops Q Inv rs) : Steps P md ops Q Inv rs := h Q
/-- The cells of a struct value. -/
def cellsOf : Value → Array Value
  | .agg xs => xs
  | _ => #[]
/-- What holds within the region: which operations have come up, and what they left. -/
def TwoInv (w : World) (ca cb : Array Value) (a b : LN) (L : Nat → Bool) (s28 s30 s10 s11 : Value) (W : World) : Prop :=
  Below w.heap.size w W ∧ Blk W w.heap.size 24 ca ∧ Blk W (w.heap.size + 1) 24 cb ∧ Blk W (w.heap.size + 1 + 1) 24 numZ ∧
  (L 1 = true → RV W s28 a.neg a.x a.y) ∧ (L 3 = true → RV W s30 b.neg b.x b.y) ∧
  (L 4 = true → ∃ g, s10 = .pointer (some ⟨g, 0, none⟩) ∧ w.heap.size + 1 + 1 < g ∧ (L 6 = false → Blk W g 37 numZ) ∧ (L 6 = true → Blk W g 37 (cellsOf s28))) ∧
  (L 5 = true → ∃ g, s11 = .pointer (some ⟨g, 0, none⟩) ∧ w.heap.size + 1 + 1 < g ∧ (L 7 = false → Blk W g 37 numZ) ∧ (L 7 = true → Blk W g 37 (cellsOf s30))) ∧
  (L 4 = true → L 5 = true → s10 ≠ s11) ∧ (L 6 = true → L 1 = true ∧ L 4 = true) ∧ (L 7 = true → L 3 = true ∧ L 5 = true)
section
variable {w W : World} {ca cb : Array Value} {a b : LN} {L : Nat → Bool} {s28 s30 s10 s11 : Value}
theorem TwoInv.ptr_lt {s : Value} {l : Bool} {c : Array Value} (h : ∃ g, s = .pointer (some ⟨g, 0, none⟩) ∧ w.heap.size + 1 + 1 < g ∧ (l = false → Blk W g 37 numZ) ∧ (l = true → Blk W g 37 c)) : ∃ g, s = .pointer (some ⟨g, 0, none⟩) ∧ g < W.heap.size := by
  obtain ⟨g, e, _, h1, h2⟩ := h
  cases l with
  | false => exact ⟨g, e, (h1 rfl).lt⟩
  | true => exact ⟨g, e, (h2 rfl).lt⟩
/-- The first call has answered. -/
theorem TwoInv.call1 (h : TwoInv w ca cb a b L s28 s30 s10 s11 W) (hL : L 1 = false) {W' : World} (hb : Below W.heap.size W W') {v : Value} (hv : RV W' v a.neg a.x a.y) : TwoInv w ca cb a b (fun j => j == 1 || L j) v s30 s10 s11 W' := by
  obtain ⟨h1, h2, h3, h4, h5, h6, h7, h8, h9, h10, h11⟩ := h
  have no6 : L 6 = true → False := fun h => by have := (h10 h).1; rw [hL] at this; cases this
  refine ⟨h1.trans (hb.mono h1.size), h2.to hb, h3.to hb, h4.to hb, fun _ => hv, fun h => (h6 h).to hb, fun h => ?_, fun h => ?_, h9, fun h => (no6 h).elim, h11⟩
  · obtain ⟨g, e1, e2, e3, e4⟩ := h7 h
    exact ⟨g, e1, e2, fun h => (e3 h).to hb, fun h => (no6 h).elim⟩
  · obtain ⟨g, e1, e2, e3, e4⟩ := h8 h
    exact ⟨g, e1, e2, fun h => (e3 h).to hb, fun h => (e4 h).to hb⟩
/-- The second call has answered. -/
theorem TwoInv.call3 (h : TwoInv w ca cb a b L s28 s30 s10 s11 W) (hL : L 3 = false) {W' : World} (hb : Below W.heap.size W W') {v : Value} (hv : RV W' v b.neg b.x b.y) : TwoInv w ca cb a b (fun j => j == 3 || L j) s28 v s10 s11 W' := by
  obtain ⟨h1, h2, h3, h4, h5, h6, h7, h8, h9, h10, h11⟩ := h
  have no7 : L 7 = true → False := fun h => by have := (h11 h).1; rw [hL] at this; cases this
  refine ⟨h1.trans (hb.mono h1.size), h2.to hb, h3.to hb, h4.to hb, fun h => (h5 h).to hb, fun _ => hv, fun h => ?_, fun h => ?_, h9, h10, fun h => (no7 h).elim⟩
  · obtain ⟨g, e1, e2, e3, e4⟩ := h7 h
    exact ⟨g, e1, e2, fun h => (e3 h).to hb, fun h => (e4 h).to hb⟩
  · obtain ⟨g, e1, e2, e3, e4⟩ := h8 h
    exact ⟨g, e1, e2, fun h => (e3 h).to hb, fun h => (no7 h).elim⟩
theorem TwoInv.alloc4 (h : TwoInv w ca cb a b L s28 s30 s10 s11 W) (hL : L 4 = false) : TwoInv w ca cb a b (fun j => j == 4 || L j) s28 s30 (.pointer (some ⟨W.heap.size, 0, none⟩)) s11 (W.alloc (.cells numZ 37)) := by
  obtain ⟨h1, h2, h3, h4, h5, h6, h7, h8, h9, h10, h11⟩ := h
  have hb := below_one W (.cells numZ 37)
  have no6 : L 6 = true → False := fun h => by have := (h10 h).2; rw [hL] at this; cases this
  refine ⟨h1.trans (hb.mono h1.size), h2.to hb, h3.to hb, h4.to hb, fun h => (h5 h).to hb, fun h => (h6 h).to hb, fun h => ⟨_, rfl, h4.lt, fun _ => Blk.new _ _ _, fun h => (no6 h).elim⟩, fun h => ?_, fun _ h => ?_, fun h => (no6 h).elim, h11⟩
  · obtain ⟨g, e1, e2, e3, e4⟩ := h8 h
    exact ⟨g, e1, e2, fun h => (e3 h).to hb, fun h => (e4 h).to hb⟩
  · obtain ⟨g, e1, e2⟩ := TwoInv.ptr_lt (h8 h)
    rw [e1]
    intro e
    simp only [Value.pointer.injEq, Option.some.injEq, Addr.mk.injEq, and_true] at e
    omega
theorem TwoInv.alloc5 (h : TwoInv w ca cb a b L s28 s30 s10 s11 W) (hL : L 5 = false) : TwoInv w ca cb a b (fun j => j == 5 || L j) s28 s30 s10 (.pointer (some ⟨W.heap.size, 0, none⟩)) (W.alloc (.cells numZ 37)) := by
  obtain ⟨h1, h2, h3, h4, h5, h6, h7, h8, h9, h10, h11⟩ := h
  have hb := below_one W (.cells numZ 37)
  have no7 : L 7 = true → False := fun h => by have := (h11 h).2; rw [hL] at this; cases this
  refine ⟨h1.trans (hb.mono h1.size), h2.to hb, h3.to hb, h4.to hb, fun h => (h5 h).to hb, fun h => (h6 h).to hb, fun h => ?_, fun h => ⟨_, rfl, h4.lt, fun _ => Blk.new _ _ _, fun h => (no7 h).elim⟩, fun h _ => ?_, h10, fun h => (no7 h).elim⟩
  · obtain ⟨g, e1, e2, e3, e4⟩ := h7 h
    exact ⟨g, e1, e2, fun h => (e3 h).to hb, fun h => (e4 h).to hb⟩
  · obtain ⟨g, e1, e2⟩ := TwoInv.ptr_lt (h7 h)
    rw [e1]
    intro e
    simp only [Value.pointer.injEq, Option.some.injEq, Addr.mk.injEq, and_true] at e
    omega
theorem TwoInv.store6 {g : Nat} {x y z : Value} (h : TwoInv w ca cb a b L (.agg #[x, y, z]) s30 (.pointer (some ⟨g, 0, none⟩)) s11 W) (hL : L 6 = false) (h1' : L 1 = true) (h4' : L 4 = true) : TwoInv w ca cb a b (fun j => j == 6 || L j) (.agg #[x, y, z]) s30 (.pointer (some ⟨g, 0, none⟩)) s11 (put3 W g x y z) := by
  obtain ⟨h1, h2, h3, h4, h5, h6, h7, h8, h9, h10, h11⟩ := h
  obtain ⟨g0, e1, e2, e3, e4⟩ := h7 h4'
  simp only [Value.pointer.injEq, Option.some.injEq, Addr.mk.injEq, and_true] at e1
  subst e1
  have hk : Blk W g 37 numZ := e3 hL
  unfold numZ at hk
  refine ⟨put3_below h1 (by omega) _ _ _, h2.put3_far (by omega) _ _ _, h3.put3_far (by omega) _ _ _, h4.put3_far (by omega) _ _ _, fun h => (h5 h).put3 hk _ _ _, fun h => (h6 h).put3 hk _ _ _, fun h => ⟨g, rfl, e2, fun h => absurd h (by simp), fun _ => hk.put3_at _ _ _⟩, fun h => ?_, h9, fun _ => ⟨h1', h4'⟩, h11⟩
  obtain ⟨g', f1, f2, f3, f4⟩ := h8 h
  have hne : g' ≠ g := fun e => h9 h4' h (by rw [f1, e])
  exact ⟨g', f1, f2, fun h => (f3 h).put3_far hne _ _ _, fun h => (f4 h).put3_far hne _ _ _⟩
theorem TwoInv.store7 {g : Nat} {x y z : Value} (h : TwoInv w ca cb a b L s28 (.agg #[x, y, z]) s10 (.pointer (some ⟨g, 0, none⟩)) W) (hL : L 7 = false) (h3' : L 3 = true) (h5' : L 5 = true) : TwoInv w ca cb a b (fun j => j == 7 || L j) s28 (.agg #[x, y, z]) s10 (.pointer (some ⟨g, 0, none⟩)) (put3 W g x y z) := by
  obtain ⟨h1, h2, h3, h4, h5, h6, h7, h8, h9, h10, h11⟩ := h
  obtain ⟨g0, e1, e2, e3, e4⟩ := h8 h5'
  simp only [Value.pointer.injEq, Option.some.injEq, Addr.mk.injEq, and_true] at e1
  subst e1
  have hk : Blk W g 37 numZ := e3 hL
  unfold numZ at hk
  refine ⟨put3_below h1 (by omega) _ _ _, h2.put3_far (by omega) _ _ _, h3.put3_far (by omega) _ _ _, h4.put3_far (by omega) _ _ _, fun h => (h5 h).put3 hk _ _ _, fun h => (h6 h).put3 hk _ _ _, fun h => ?_, fun h => ⟨g, rfl, e2, fun h => absurd h (by simp), fun _ => hk.put3_at _ _ _⟩, h9, h10, fun _ => ⟨h3', h5'⟩⟩
  obtain ⟨g', f1, f2, f3, f4⟩ := h7 h
  have hne : g' ≠ g := fun e => h9 h h5' (by rw [f1, e])
  exact ⟨g', f1, f2, fun h => (f3 h).put3_far hne _ _ _, fun h => (f4 h).put3_far hne _ _ _⟩
end
end Go.Proofs.YtdfcpkjphdepcaaGreatDoor
namespace Go.Proofs.YtdfcpkjphdepcaaGreatDoor
open Go.RowKit NumB
set_option linter.unusedVariables false
set_option linter.unusedSimpArgs false

def PwInv (w : World) (gA gQ gC : Nat) (ca : Array Value) (so sn na : Bool) (A5 : Option Addr) (n5 c5 : Nat) (A6 : Option Addr) (n6 c6 : Nat) (P Q p0 q0 X Y : Nat) (L : Nat → Bool) (s74 s75 s77 s80 s82 s85 s86 : Value) (W : World) : Prop :=
  (Below w.heap.size w W ∧ Blk W gA 37 ca ∧ Blk W gC 24 numZ ∧ RV W (.agg ca) na P Q ∧ Nat16 W (.slice A5 n5 c5) p0 ∧ Nat16 W (.slice A6 n6 c6) q0) ∧
  (L 3 = true → s74 = .bool so) ∧ (L 4 = true → s75 = .bool sn) ∧ (L 6 = true → s77 = .slice A5 n5 c5) ∧ (L 11 = true → s82 = .slice A6 n6 c6) ∧
  (L 9 = true → Nat16 W s80 X) ∧ (L 14 = true → Nat16 W s85 Y) ∧ (L 15 = true → s86 = .agg #[.bool sn, s80, s85] ∧ L 4 = true ∧ L 9 = true ∧ L 14 = true) ∧
  (L 16 = false → Blk W gQ 37 #[.bool so, .slice A5 n5 c5, .slice A6 n6 c6]) ∧ (L 16 = true → (L 3 = true ∧ L 6 = true ∧ L 11 = true ∧ L 15 = true) ∧ (L 4 = true ∧ L 9 = true ∧ L 14 = true) ∧ Blk W gQ 37 #[.bool sn, s80, s85])
section
variable {w W W' : World} {gA gQ gC : Nat} {ca : Array Value} {so sn na : Bool} {A5 : Option Addr} {n5 c5 : Nat} {A6 : Option Addr} {n6 c6 : Nat} {P Q p0 q0 X Y : Nat} {L : Nat → Bool} {s74 s75 s77 s80 s82 s85 s86 v : Value}
theorem PwInv.get86 (h : PwInv w gA gQ gC ca so sn na A5 n5 c5 A6 n6 c6 P Q p0 q0 X Y L s74 s75 s77 s80 s82 s85 s86 W) (h15 : L 15 = true) : s86 = .agg #[.bool sn, s80, s85] := by
  obtain ⟨_, _, _, _, _, _, _, h8, _, _⟩ := h
  exact (h8 h15).1
theorem PwInv.forms (h : PwInv w gA gQ gC ca so sn na A5 n5 c5 A6 n6 c6 P Q p0 q0 X Y L s74 s75 s77 s80 s82 s85 s86 W) (h9 : L 9 = true) (h14 : L 14 = true) : ∃ D1 e1 f1 D2 e2 f2, s80 = .slice D1 e1 f1 ∧ s85 = .slice D2 e2 f2 := by
  obtain ⟨_, _, _, _, _, g6, g7, _, _, _⟩ := h
  obtain ⟨D1, e1, f1, q1, _⟩ := (g6 h9).form
  obtain ⟨D2, e2, f2, q2, _⟩ := (g7 h14).form
  exact ⟨_, _, _, _, _, _, q1, q2⟩
theorem PwInv.withForms {G : Prop} (h : PwInv w gA gQ gC ca so sn na A5 n5 c5 A6 n6 c6 P Q p0 q0 X Y L s74 s75 s77 s80 s82 s85 s86 W) (h9 : L 9 = true) (h14 : L 14 = true) (k : ∀ D1 e1 f1 D2 e2 f2, s80 = .slice D1 e1 f1 → s85 = .slice D2 e2 f2 → G) : G := by
  obtain ⟨D1, e1, f1, D2, e2, f2, q1, q2⟩ := h.forms h9 h14
  exact k _ _ _ _ _ _ q1 q2
theorem PwInv.no (h : PwInv w gA gQ gC ca so sn na A5 n5 c5 A6 n6 c6 P Q p0 q0 X Y L s74 s75 s77 s80 s82 s85 s86 W) {i : Nat} (hL : L i = false) (hi : i = 3 ∨ i = 4 ∨ i = 6 ∨ i = 9 ∨ i = 11 ∨ i = 14 ∨ i = 15) : L 16 = false := by
  obtain ⟨_, _, _, _, _, _, _, _, _, h10⟩ := h
  cases h16 : L 16 with
  | false => rfl
  | true =>
    obtain ⟨⟨a1, a2, a3, a4⟩, ⟨a5, a6, a7⟩, _⟩ := h10 h16
    rcases hi with rfl | rfl | rfl | rfl | rfl | rfl | rfl <;> simp_all
theorem PwInv.no15 (h : PwInv w gA gQ gC ca so sn na A5 n5 c5 A6 n6 c6 P Q p0 q0 X Y L s74 s75 s77 s80 s82 s85 s86 W) {i : Nat} (hL : L i = false) (hi : i = 4 ∨ i = 9 ∨ i = 14) : L 15 = false := by
  obtain ⟨_, _, _, _, _, _, _, h8, _, _⟩ := h
  cases h15 : L 15 with
  | false => rfl
  | true =>
    obtain ⟨_, a1, a2, a3⟩ := h8 h15
    rcases hi with rfl | rfl | rfl <;> simp_all
theorem PwInv.op3 (h : PwInv w gA gQ gC ca so sn na A5 n5 c5 A6 n6 c6 P Q p0 q0 X Y L s74 s75 s77 s80 s82 s85 s86 W) (hL : L 3 = false) : PwInv w gA gQ gC ca so sn na A5 n5 c5 A6 n6 c6 P Q p0 q0 X Y (fun j => j == 3 || L j) (.bool so) s75 s77 s80 s82 s85 s86 W := by
  have h16 := h.no hL (by omega)
  obtain ⟨h1, h2, h3, h4, h5, h6, h7, h8, h9, h10⟩ := h
  exact ⟨h1, fun _ => rfl, h3, h4, h5, h6, h7, fun h' => ⟨(h8 h').1, (h8 h').2.1, (h8 h').2.2.1, (h8 h').2.2.2⟩, h9, fun h' => absurd (show L 16 = true from h') (by rw [h16]; decide)⟩
theorem PwInv.op4 (h : PwInv w gA gQ gC ca so sn na A5 n5 c5 A6 n6 c6 P Q p0 q0 X Y L s74 s75 s77 s80 s82 s85 s86 W) (hL : L 4 = false) : PwInv w gA gQ gC ca so sn na A5 n5 c5 A6 n6 c6 P Q p0 q0 X Y (fun j => j == 4 || L j) s74 (.bool sn) s77 s80 s82 s85 s86 W := by
  have h16 := h.no hL (by omega)
  obtain ⟨h1, h2, h3, h4, h5, h6, h7, h8, h9, h10⟩ := h
  exact ⟨h1, h2, fun _ => rfl, h4, h5, h6, h7, fun h' => ⟨(h8 h').1, rfl, (h8 h').2.2.1, (h8 h').2.2.2⟩, h9, fun h' => absurd (show L 16 = true from h') (by rw [h16]; decide)⟩
theorem PwInv.op6 (h : PwInv w gA gQ gC ca so sn na A5 n5 c5 A6 n6 c6 P Q p0 q0 X Y L s74 s75 s77 s80 s82 s85 s86 W) (hL : L 6 = false) : PwInv w gA gQ gC ca so sn na A5 n5 c5 A6 n6 c6 P Q p0 q0 X Y (fun j => j == 6 || L j) s74 s75 (.slice A5 n5 c5) s80 s82 s85 s86 W := by
  have h16 := h.no hL (by omega)
  obtain ⟨h1, h2, h3, h4, h5, h6, h7, h8, h9, h10⟩ := h
  exact ⟨h1, h2, h3, fun _ => rfl, h5, h6, h7, fun h' => ⟨(h8 h').1, (h8 h').2.1, (h8 h').2.2.1, (h8 h').2.2.2⟩, h9, fun h' => absurd (show L 16 = true from h') (by rw [h16]; decide)⟩
theorem PwInv.op11 (h : PwInv w gA gQ gC ca so sn na A5 n5 c5 A6 n6 c6 P Q p0 q0 X Y L s74 s75 s77 s80 s82 s85 s86 W) (hL : L 11 = false) : PwInv w gA gQ gC ca so sn na A5 n5 c5 A6 n6 c6 P Q p0 q0 X Y (fun j => j == 11 || L j) s74 s75 s77 s80 (.slice A6 n6 c6) s85 s86 W := by
  have h16 := h.no hL (by omega)
  obtain ⟨h1, h2, h3, h4, h5, h6, h7, h8, h9, h10⟩ := h
  exact ⟨h1, h2, h3, h4, fun _ => rfl, h6, h7, fun h' => ⟨(h8 h').1, (h8 h').2.1, (h8 h').2.2.1, (h8 h').2.2.2⟩, h9, fun h' => absurd (show L 16 = true from h') (by rw [h16]; decide)⟩
theorem PwInv.op9 (h : PwInv w gA gQ gC ca so sn na A5 n5 c5 A6 n6 c6 P Q p0 q0 X Y L s74 s75 s77 s80 s82 s85 s86 W) (hL : L 9 = false) (hb : Below W.heap.size W W') (hv : Nat16 W' v X) : PwInv w gA gQ gC ca so sn na A5 n5 c5 A6 n6 c6 P Q p0 q0 X Y (fun j => j == 9 || L j) s74 s75 s77 v s82 s85 s86 W' := by
  have h16 := h.no hL (by omega)
  have h15 := h.no15 hL (by omega)
  obtain ⟨⟨b1, b2, b3, b4, b5, b6⟩, h2, h3, h4, h5, h6, h7, h8, h9, h10⟩ := h
  exact ⟨⟨b1.trans (hb.mono b1.size), b2.to hb, b3.to hb, b4.to hb, b5.to hb, b6.to hb⟩, h2, h3, h4, h5, fun _ => hv, fun h' => (h7 h').to hb, fun h' => absurd (show L 15 = true from h') (by rw [h15]; decide), fun h' => (h9 h').to hb, fun h' => absurd (show L 16 = true from h') (by rw [h16]; decide)⟩
theorem PwInv.op14 (h : PwInv w gA gQ gC ca so sn na A5 n5 c5 A6 n6 c6 P Q p0 q0 X Y L s74 s75 s77 s80 s82 s85 s86 W) (hL : L 14 = false) (hb : Below W.heap.size W W') (hv : Nat16 W' v Y) : PwInv w gA gQ gC ca so sn na A5 n5 c5 A6 n6 c6 P Q p0 q0 X Y (fun j => j == 14 || L j) s74 s75 s77 s80 s82 v s86 W' := by
  have h16 := h.no hL (by omega)
  have h15 := h.no15 hL (by omega)
  obtain ⟨⟨b1, b2, b3, b4, b5, b6⟩, h2, h3, h4, h5, h6, h7, h8, h9, h10⟩ := h
  exact ⟨⟨b1.trans (hb.mono b1.size), b2.to hb, b3.to hb, b4.to hb, b5.to hb, b6.to hb⟩, h2, h3, h4, h5, fun h' => (h6 h').to hb, fun _ => hv, fun h' => absurd (show L 15 = true from h') (by rw [h15]; decide), fun h' => (h9 h').to hb, fun h' => absurd (show L 16 = true from h') (by rw [h16]; decide)⟩
theorem PwInv.op15 (h : PwInv w gA gQ gC ca so sn na A5 n5 c5 A6 n6 c6 P Q p0 q0 X Y L s74 s75 s77 s80 s82 s85 s86 W) (hL : L 15 = false) (hd : L 4 = true ∧ L 9 = true ∧ L 14 = true) : PwInv w gA gQ gC ca so sn na A5 n5 c5 A6 n6 c6 P Q p0 q0 X Y (fun j => j == 15 || L j) s74 s75 s77 s80 s82 s85 (.agg #[.bool sn, s80, s85]) W := by
  have h16 := h.no hL (by omega)
  obtain ⟨h1, h2, h3, h4, h5, h6, h7, h8, h9, h10⟩ := h
  exact ⟨h1, h2, h3, h4, h5, h6, h7, fun _ => ⟨rfl, hd⟩, h9, fun h' => absurd (show L 16 = true from h') (by rw [h16]; decide)⟩
theorem PwInv.op16 (h : PwInv w gA gQ gC ca so sn na A5 n5 c5 A6 n6 c6 P Q p0 q0 X Y L s74 s75 s77 s80 s82 s85 s86 W) (hL : L 16 = false) (hd : (L 3 = true ∧ L 6 = true ∧ L 11 = true ∧ L 15 = true) ∧ (L 4 = true ∧ L 9 = true ∧ L 14 = true)) (hg : w.heap.size ≤ gQ) (hA : gA ≠ gQ) (hC : gC ≠ gQ) : PwInv w gA gQ gC ca so sn na A5 n5 c5 A6 n6 c6 P Q p0 q0 X Y (fun j => j == 16 || L j) s74 s75 s77 s80 s82 s85 s86 (put3 W gQ (.bool sn) s80 s85) := by
  obtain ⟨⟨b1, b2, b3, b4, b5, b6⟩, h2, h3, h4, h5, h6, h7, h8, h9, h10⟩ := h
  have hk := h9 hL
  exact ⟨⟨put3_below b1 hg _ _ _, b2.put3_far hA _ _ _, b3.put3_far hC _ _ _, b4.put3 hk _ _ _, b5.put3 hk _ _ _, b6.put3 hk _ _ _⟩, h2, h3, h4, h5, fun h' => (h6 h').put3 hk _ _ _, fun h' => (h7 h').put3 hk _ _ _, h8, fun h' => absurd h' (by simp), fun _ => ⟨hd.1, hd.2, hk.put3_at _ _ _⟩⟩
end
end Go.Proofs.YtdfcpkjphdepcaaGreatDoor
namespace Go.Proofs.YtdfcpkjphdepcaaGreatDoor
set_option linter.unusedVariables false
set_option linter.unusedSimpArgs false

theorem pow_half (x n j : Nat) : x ^ (n / 2 ^ j) = x ^ (n / 2 ^ (j + 1)) * x ^ (n / 2 ^ (j + 1)) * (if n / 2 ^ j % 2 = 1 then x else 1) := by
  have e : n / 2 ^ (j + 1) = n / 2 ^ j / 2 := by rw [Nat.pow_succ, Nat.div_div_eq_div_mul]
  rw [e]
  generalize n / 2 ^ j = m
  have h : m = m / 2 + m / 2 + m % 2 := by omega
  rcases Nat.mod_two_eq_zero_or_one m with h1 | h1
  · rw [if_neg (by omega)]
    rw [h1] at h
    rw [Nat.mul_one, ← Nat.pow_add]
    exact congrArg (x ^ ·) (by omega)
  · rw [if_pos h1]
    rw [h1] at h
    rw [← Nat.pow_add, ← Nat.pow_succ]
    exact congrArg (x ^ ·) (by omega)
theorem pow_part {x n j : Nat} (hx : 0 < x) : x ^ (n / 2 ^ j) ≤ x ^ n := Nat.pow_le_pow_right hx (Nat.div_le_self _ _)
theorem pow_gcd {x y : Nat} (h : Nat.gcd x y = 1) (n m : Nat) : Nat.gcd (x ^ n) (y ^ m) = 1 := Nat.Coprime.pow n m h
end Go.Proofs.YtdfcpkjphdepcaaGreatDoor

/-  -/
import Derived.Lib.OwnKind
import Derived.Test.YtkamkaehlofgpaaGreatJo25
import Derived.Test.YtkamkaehlofgpaaGreatJo27
set_option linter.unusedVariables false
set_option linter.unusedSimpArgs false
/- Frames by the types of the blocks; a heap of two variables. -/
namespace Go.Proofs.YtkamkaehlofgpaaGreat
open Go.RowKit NumB
set_option linter.unusedVariables false
set_option linter.unusedSimpArgs false

/-- An object that is no row of cells of the types ts (and no map, where none is among them). -/
def NotT (ts : List (Option TypeId)) (o : Obj) : Prop := (∀ c T f, o = Obj.cells c T f → some T ∉ ts) ∧ (none ∈ ts → ∀ es c, o ≠ Obj.map es c)
/-- All objects of other types are as they were. -/
def FrT (ts : List (Option TypeId)) (w w' : World) : Prop := ∀ (k : Nat) (o : Obj), w.heap[k]? = some o → NotT ts o → w'.heap[k]? = some o
theorem FrT.refl (ts : List (Option TypeId)) (w : World) : FrT ts w w := fun _ _ h _ => h
theorem FrT.trans {ts : List (Option TypeId)} {a b c : World} (h : FrT ts a b) (k : FrT ts b c) : FrT ts a c := fun i o hi ho => k i o (h i o hi ho) ho
theorem FrT.mono {ts ts' : List (Option TypeId)} {a b : World} (h : FrT ts a b) (hs : ∀ t ∈ ts, t ∈ ts') : FrT ts' a b := fun i o hi ho => h i o hi ⟨fun c T f e hm => ho.1 c T f e (hs _ hm), fun hm => ho.2 (hs _ hm)⟩
theorem FrT.of_below {ts : List (Option TypeId)} {a b : World} (h : Below a.heap.size a b) : FrT ts a b := fun k o hk _ => (h.block k (heap_lt hk)).trans hk
theorem FrT.drew {ts : List (Option TypeId)} {a b : World} (h : FrT ts a b) : FrT ts a b.drew := h
theorem FrT.setCell {ts : List (Option TypeId)} {a b : World} (h : FrT ts a b) {p : Addr} {cs : Array Value} {T : TypeId} {f : Nat × Nat} (hp : b.heap[p.block]? = some (Obj.cells cs T f)) (hT : some T ∈ ts) (u : Value) : FrT ts a (b.setCell p u) := fun k o hk ho => by
  have h1 := h k o hk ho
  have hne : k ≠ p.block := fun e => by subst e; rw [hp] at h1; exact ho.1 cs T f (Option.some.inj h1).symm hT
  exact (Below.heap_setCell b p u k hne).trans h1
theorem FrT.grown {ts : List (Option TypeId)} {a b c : World} (h : FrT ts a b) {row : Option Nat} (hg : b.grownBy c row) (hr : ∀ g, row = some g → ∃ cs T f, b.heap[g]? = some (Obj.cells cs T f) ∧ some T ∈ ts) : FrT ts a c := fun k o hk ho => by
  have h1 := h k o hk ho
  refine (hg.block k (heap_lt h1) fun e => ?_).trans h1
  obtain ⟨cs, T, f, hc, hT⟩ := hr k e.symm
  rw [h1] at hc
  exact ho.1 cs T f (Option.some.inj hc) hT
theorem FrT.kept {ts : List (Option TypeId)} {a b c : World} {p : Nat → Prop} (h : FrT ts a b) (hk : Kept p b c) (hp : ∀ k, p k → ∀ o, b.heap[k]? = some o → ¬ NotT ts o) : FrT ts a c := fun k o hk' ho => by
  have h1 := h k o hk' ho
  exact (hk.block k (heap_lt h1) fun e => hp k e o h1 ho).trans h1
theorem NotT.cells {ts : List (Option TypeId)} {cs : Array Value} {T : TypeId} {f : Nat × Nat} (h : some T ∉ ts) : NotT ts (Obj.cells cs T f) := ⟨fun c T' f' e => by cases e; exact h, fun _ es c e => Obj.noConfusion e⟩
theorem NotT.map {ts : List (Option TypeId)} {es : Array MapEntry} {c : Nat} (h : none ∉ ts) : NotT ts (Obj.map es c) := ⟨fun c T' f' e => Obj.noConfusion e, fun hm => absurd hm h⟩
theorem Blk.frT {ts : List (Option TypeId)} {w w' : World} {g : Nat} {T : TypeId} {cs : Array Value} (hk : Blk w g T cs) (h : FrT ts w w') (hT : some T ∉ ts) : Blk w' g T cs := h g _ hk (NotT.cells hT)
theorem row_frT {ts : List (Option TypeId)} {w w' : World} {B n size : Nat} {e : TypeId} {v : Value} {xs : List Value} (hr : w.ownsRow B e size v n xs) (h : FrT ts w w') (hT : some e ∉ ts) : w'.ownsRow B e size v n xs := by
  obtain ⟨h1, h2 | ⟨g, cap, cur, rfl, h3, h4, h5⟩⟩ := hr
  · exact ⟨h1, .inl h2⟩
  · exact ⟨h1, .inr ⟨g, cap, cur, rfl, h3, h g _ h4 (NotT.cells hT), h5⟩⟩
theorem NameS.frT {ts : List (Option TypeId)} {w w' : World} {p m1 m2 n : Nat} (hn : NameS w p m1 m2 n) (h : FrT ts w w') (h0 : none ∉ ts) (h1 : some 186 ∉ ts) (h2 : some 27 ∉ ts) : NameS w' p m1 m2 n := by
  obtain ⟨a0, a1, ⟨n1, e1, a2⟩, ⟨n2, e2, a3⟩⟩ := hn
  refine ⟨a0, a1.frT h h1, ⟨n1, e1, a2.same (fun o ho => ?_) ?_⟩, ⟨n2, e2, a3.same (fun o ho => ?_) (fun v h => h)⟩⟩
  · obtain ⟨_, _, e⟩ := a2.is
    rw [e] at ho; cases ho
    exact h _ _ e (NotT.map h0)
  · rintro v ⟨b, o, cs, e, hb⟩
    exact ⟨b, o, cs, e, h _ _ hb (NotT.cells h2)⟩
  · obtain ⟨_, _, e⟩ := a3.is
    rw [e] at ho; cases ho
    exact h _ _ e (NotT.map h0)
theorem NameS.frame {ts : List (Option TypeId)} {w w' : World} {p m1 m2 n : Nat} (hn : NameS w p m1 m2 n) (hk : Kept (KN m1 m2) w w') (h0 : none ∈ ts) : FrT ts w w' := (FrT.refl ts w).kept hk fun k e o ho hno => by
  obtain ⟨_, _, ⟨_, _, a2⟩, ⟨_, _, a3⟩⟩ := hn
  rcases e with rfl | rfl
  · obtain ⟨_, _, e⟩ := a2.is
    rw [e] at ho
    exact hno.2 h0 _ _ (Option.some.inj ho).symm
  · obtain ⟨_, _, e⟩ := a3.is
    rw [e] at ho
    exact hno.2 h0 _ _ (Option.some.inj ho).symm

/-- A heap of two variables whose cells are xs, with a trail, without marks. -/
structure HS (w : World) (B h G c : Nat) (tv : Value) (xs : List Value) (m : Nat) (ys : List Value) : Prop where
  blk : Blk w h 117 #[.slice (some ⟨G, 0, none⟩) 2 c, tv, .slice none 0 0]
  le : B ≤ h
  row : w.ownsRow B 120 9 (.slice (some ⟨G, 0, none⟩) 2 c) 2 xs
  trail : w.ownsRow B 148 10 tv m ys
theorem HS.frT {ts : List (Option TypeId)} {w w' : World} {B h G c m : Nat} {tv : Value} {xs ys : List Value} (hh : HS w B h G c tv xs m ys) (hf : FrT ts w w') (h1 : some 117 ∉ ts) (h2 : some 120 ∉ ts) (h3 : some 148 ∉ ts) : HS w' B h G c tv xs m ys :=
  ⟨hh.blk.frT hf h1, hh.le, row_frT hh.row hf h2, row_frT hh.trail hf h3⟩
theorem HS.below {w w' : World} {B h G c m : Nat} {tv : Value} {xs ys : List Value} (hh : HS w B h G c tv xs m ys) (hb : Below w.heap.size w w') : HS w' B h G c tv xs m ys := hh.frT (ts := []) (FrT.of_below hb) (by simp) (by simp) (by simp)
theorem HS.drew {w : World} {B h G c m : Nat} {tv : Value} {xs ys : List Value} (hh : HS w B h G c tv xs m ys) : HS w.drew B h G c tv xs m ys := hh.frT (ts := []) (fun _ _ h _ => h) (by simp) (by simp) (by simp)
theorem HS.cell {w : World} {B h G c m : Nat} {tv : Value} {xs ys : List Value} (hh : HS w B h G c tv xs m ys) {q : Nat} {u : Value} (hq : xs[q]? = some u) : w.cell? ⟨G, q, none⟩ = some u := by
  have hl := hh.row.1
  have : q < xs.length := (List.getElem?_eq_some_iff.1 hq).1
  exact (hh.row.cellAt q (by omega)).trans hq
theorem HS.froz {w : World} {B h G c m : Nat} {tv : Value} {xs ys : List Value} (hh : HS w B h G c tv xs m ys) (q : Nat) : w.frozen? ⟨G, q, none⟩ = false := hh.row.frozenAt q
end Go.Proofs.YtkamkaehlofgpaaGreat

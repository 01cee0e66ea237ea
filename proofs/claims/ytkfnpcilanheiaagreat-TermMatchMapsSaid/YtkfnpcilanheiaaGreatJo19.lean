/- The interner's memory: what is kept, two maps whose content does not matter. And 2 more texts. -/
import Derived.Lib.OwnKind
import Derived.Laws.IdiomStrings
import Derived.Test.YtkfnpcilanheiaaGreatJo9
import Derived.Test.YtkfnpcilanheiaaGreatJo18
set_option linter.unusedVariables false
set_option linter.unusedSimpArgs false
set_option maxRecDepth 100000
namespace Go.Proofs.YtkfnpcilanheiaaGreat
open Go.RowKit NumB
theorem Keys.sub {kt : TypeId} {KP KP' : Value → Prop} {w : World} (K : Keys kt KP w) (h : ∀ v, KP' v → KP v) : Keys kt KP' w :=
  ⟨fun e a ha => K.check e a (h a ha), fun a b ha hb => K.equal a b (h a ha) (h b hb), K.und⟩
def I64K (v : Value) : Prop := ∃ i : Int, v = .int .i64 i ∧ i64ok i
def PtrT (w : World) (v : Value) : Prop := ∃ b o cs, v = .pointer (some ⟨b, o, none⟩) ∧ w.heap[b]? = some (.cells cs 27 (0, 0))
theorem PtrT.ptr {w : World} {v : Value} (h : PtrT w v) : PtrK w v := by
  obtain ⟨b, o, cs, e, h⟩ := h
  exact ⟨b, o, cs, _, e, h⟩
theorem keys_ptrT (w : World) : Keys 155 (PtrT w) w := (keys_ptr w).sub fun _ h => h.ptr
theorem heap_lt {w : World} {k : Nat} {o : Obj} (h : w.heap[k]? = some o) : k < w.heap.size := by
  rcases Nat.lt_or_ge k w.heap.size with h' | h'
  · exact h'
  · rw [Array.getElem?_eq_none h'] at h; cases h
theorem MapK.same {KP KP' VP : Value → Prop} {w w' : World} {b n : Nat} (h : MapK KP VP w b n) (hs : ∀ o, w.heap[b]? = some o → w'.heap[b]? = some o) (hv : ∀ v, KP v → KP' v) : MapK KP' VP w' b n := by
  obtain ⟨es, clock, h1, h2, h3⟩ := h
  exact ⟨es, clock, hs _ h1, h2, fun x hx => ⟨hv _ (h3 x hx).1, (h3 x hx).2⟩⟩
theorem MapK.vals {KP VP VP' : Value → Prop} {w : World} {b n : Nat} (h : MapK KP VP w b n) (hv : ∀ v, VP v → VP' v) : MapK KP VP' w b n := by
  obtain ⟨es, clock, h1, h2, h3⟩ := h
  exact ⟨es, clock, h1, h2, fun x hx => ⟨(h3 x hx).1, hv _ (h3 x hx).2⟩⟩
def NameS (w : World) (p m1 m2 n : Nat) : Prop := (m1 ≠ m2) ∧ Blk w p 273 #[.map (some m1), .map (some m2)] ∧ (∃ n1, n1 ≤ n ∧ MapK (PtrT w) I64K w m1 n1) ∧ (∃ n2, n2 ≤ n ∧ MapK StrK I64K w m2 n2)
def KN (m1 m2 : Nat) (k : Nat) : Prop := k = m1 ∨ k = m2
theorem MapK.is {KP VP : Value → Prop} {w : World} {b n : Nat} (h : MapK KP VP w b n) : ∃ es c, w.heap[b]? = some (.map es c) := by
  obtain ⟨es, clock, h1, _⟩ := h
  exact ⟨es, clock, h1⟩
theorem NameS.cells {w : World} {p m1 m2 n : Nat} (h : NameS w p m1 m2 n) {k : Nat} {cs : Array Value} {T : TypeId} {f : Nat × Nat} (hk : w.heap[k]? = some (Obj.cells cs T f)) : ¬ KN m1 m2 k := by
  obtain ⟨_, _, ⟨_, _, h1⟩, ⟨_, _, h2⟩⟩ := h
  obtain ⟨_, _, e1⟩ := h1.is
  obtain ⟨_, _, e2⟩ := h2.is
  rintro (rfl | rfl)
  · rw [e1] at hk; cases hk
  · rw [e2] at hk; cases hk
def NoB (o : Obj) : Prop := (∀ c f, o ≠ Obj.cells c 5 f) ∧ (∀ c f, o ≠ Obj.cells c 276 f)
theorem NoB.of_cells {c : Array Value} {T : TypeId} {f : Nat × Nat} (h1 : T ≠ 5) (h2 : T ≠ 276) : NoB (Obj.cells c T f) := ⟨fun c' f' e => h1 (Obj.cells.inj e).2.1, fun c' f' e => h2 (Obj.cells.inj e).2.1⟩
theorem NoB.of_map {es : Array MapEntry} {c : Nat} : NoB (Obj.map es c) := ⟨fun c' f' e => Obj.noConfusion e, fun c' f' e => Obj.noConfusion e⟩
def SameB (w w' : World) : Prop := ∀ (k : Nat) (o : Obj), w.heap[k]? = some o → NoB o → w'.heap[k]? = some o
theorem NameS.same {w w' : World} {p m1 m2 n : Nat} (h : NameS w p m1 m2 n) (hs : SameB w w') : NameS w' p m1 m2 n := by
  obtain ⟨h0, h1, ⟨n1, e1, h2⟩, ⟨n2, e2, h3⟩⟩ := h
  refine ⟨h0, hs p _ h1 (NoB.of_cells (by decide) (by decide)), ⟨n1, e1, h2.same (fun o ho => ?_) ?_⟩, ⟨n2, e2, h3.same (fun o ho => ?_) (fun v h => h)⟩⟩
  · obtain ⟨_, _, e⟩ := h2.is
    rw [e] at ho; cases ho
    exact hs _ _ e NoB.of_map
  · rintro v ⟨b, o, cs, e, hb⟩
    exact ⟨b, o, cs, e, hs _ _ hb (NoB.of_cells (by decide) (by decide))⟩
  · obtain ⟨_, _, e⟩ := h3.is
    rw [e] at ho; cases ho
    exact hs _ _ e NoB.of_map
theorem others_same {w w' : World} {b : Nat} (h : Lib.OthersKept 5 (some b) w w') (hb : ∃ c f, w.heap[b]? = some (Obj.cells c 276 f)) : SameB w w' := fun k o hk h1 =>
  h k o hk (fun e => by
    obtain ⟨c, f, hc⟩ := hb
    have e' : k = b := Option.some.inj e
    subst e'
    rw [hk] at hc; exact h1.2 c f (Option.some.inj hc)) h1.1
theorem below_same {w w' : World} (h : Below w.heap.size w w') : SameB w w' := fun k o hk _ => (h.block k (heap_lt hk)).trans hk
theorem BD.is {w : World} {B b n : Nat} (h : BD w B b n) : ∃ c f, w.heap[b]? = some (Obj.cells c 276 f) := by
  obtain ⟨l, _, h | h⟩ := h
  · obtain ⟨_, v, h, _⟩ := h; exact ⟨_, _, h⟩
  · obtain ⟨_, v, h, _⟩ := h; exact ⟨_, _, h⟩
theorem NameS.others {w w' : World} {p m1 m2 n B b k : Nat} (h : NameS w p m1 m2 n) (ho : Lib.OthersKept 5 (some b) w w') (hd : BD w B b k) : NameS w' p m1 m2 n := h.same (others_same ho hd.is)
theorem NameS.below {w w' : World} {p m1 m2 n : Nat} (h : NameS w p m1 m2 n) (hb : Below w.heap.size w w') : NameS w' p m1 m2 n := h.same (below_same hb)
theorem NameS.drew {w : World} {p m1 m2 n : Nat} (h : NameS w p m1 m2 n) : NameS w.drew p m1 m2 n := h.same fun _ _ h _ => h
theorem Blk.others {w w' : World} {g B b k : Nat} {T : TypeId} {cs : Array Value} (h : Blk w g T cs) (h1 : T ≠ 5) (h2 : T ≠ 276) (ho : Lib.OthersKept 5 (some b) w w') (hd : BD w B b k) : Blk w' g T cs :=
  others_same ho hd.is g _ h (NoB.of_cells h1 h2)
theorem NameS.mono {w : World} {p m1 m2 n n' : Nat} (h : NameS w p m1 m2 n) (hn : n ≤ n') : NameS w p m1 m2 n' := by
  obtain ⟨h0, h1, ⟨n1, e1, h2⟩, ⟨n2, e2, h3⟩⟩ := h
  exact ⟨h0, h1, ⟨n1, by omega, h2⟩, ⟨n2, by omega, h3⟩⟩
theorem NameS.form {w : World} {p m1 m2 n : Nat} (h : NameS w p m1 m2 n) (s : ByteArray) : ∃ (i : Int) (ok : Bool), i64ok i ∧ (Instr.lookup 158 (.map (some m2)) (.string s) true).run Tryz.prog w = .ok (.tuple #[.int .i64 i, .bool ok]) w := by
  obtain ⟨_, _, _, ⟨n2, _, h⟩⟩ := h
  obtain ⟨v, ok, ⟨i, rfl, hi⟩, h1, _⟩ := mapLook_any (keys_str w) (mt := 158) (by kernel_rfl) (z := .int .i64 0) (Tryz.zeroValue3 w) ⟨0, rfl, by unfold i64ok; omega⟩ (k := .string s) ⟨s, rfl⟩ h
  exact ⟨i, ok, hi, h1⟩
theorem NameS.node {w : World} {p m1 m2 n : Nat} (h : NameS w p m1 m2 n) {k : Value} (hk : PtrT w k) : ∃ (i : Int) (ok : Bool), i64ok i ∧ (Instr.lookup 154 (.map (some m1)) k true).run Tryz.prog w = .ok (.tuple #[.int .i64 i, .bool ok]) w := by
  obtain ⟨_, _, ⟨n1, _, h⟩, _⟩ := h
  obtain ⟨v, ok, ⟨i, rfl, hi⟩, h1, _⟩ := mapLook_any (keys_ptrT w) (mt := 154) (by kernel_rfl) (z := .int .i64 0) (Tryz.zeroValue3 w) ⟨0, rfl, by unfold i64ok; omega⟩ (k := k) hk h
  exact ⟨i, ok, hi, h1⟩
theorem NameS.putForm {w : World} {p m1 m2 n : Nat} (h : NameS w p m1 m2 n) (s : ByteArray) {i : Int} (hi : i64ok i) : ∃ w', (Instr.mapUpdate 158 (.map (some m2)) (.string s) (.int .i64 i)).run Tryz.prog w = .ok () w' ∧ NameS w' p m1 m2 (n + 1) ∧ Kept (fun k => k = m2) w w' := by
  have hc := @NameS.cells _ _ _ _ _ h
  obtain ⟨h0, h1, ⟨n1, e1, h2⟩, ⟨n2, e2, h3⟩⟩ := h
  obtain ⟨w', n', hr, hM, hn', hk⟩ := mapPut_any (et := 3) (keys_str w) (mt := 158) (by kernel_rfl) (k := .string s) (v := .int .i64 i) ⟨s, rfl⟩ ⟨i, rfl, hi⟩ h3
  have kp : ∀ k o, w.heap[k]? = some o → k ≠ m2 → w'.heap[k]? = some o := fun k o h h' => (hk.block k (heap_lt h) h').trans h
  refine ⟨w', hr, ⟨h0, hk.blk h1 (fun e => hc h1 (.inr e)), ⟨n1, by omega, h2.same (fun o ho => kp _ _ ho h0) ?_⟩, ⟨n', by omega, hM⟩⟩, hk⟩
  rintro v ⟨b, o, cs, e, hb⟩
  exact ⟨b, o, cs, e, kp _ _ hb (fun e => hc hb (.inr e))⟩
theorem NameS.putNode {w : World} {p m1 m2 n : Nat} (h : NameS w p m1 m2 n) {k : Value} (hkey : PtrT w k) {i : Int} (hi : i64ok i) : ∃ w', (Instr.mapUpdate 154 (.map (some m1)) k (.int .i64 i)).run Tryz.prog w = .ok () w' ∧ NameS w' p m1 m2 (n + 1) ∧ Kept (fun k => k = m1) w w' := by
  have hc := @NameS.cells _ _ _ _ _ h
  obtain ⟨h0, h1, ⟨n1, e1, h2⟩, ⟨n2, e2, h3⟩⟩ := h
  obtain ⟨w', n', hr, hM, hn', hk⟩ := mapPut_any (et := 3) (keys_ptrT w) (mt := 154) (by kernel_rfl) (k := k) (v := .int .i64 i) hkey ⟨i, rfl, hi⟩ h2
  have kp : ∀ k o, w.heap[k]? = some o → k ≠ m1 → w'.heap[k]? = some o := fun k o h h' => (hk.block k (heap_lt h) h').trans h
  refine ⟨w', hr, ⟨h0, hk.blk h1 (fun e => hc h1 (.inl e)), ⟨n', by omega, hM.same (fun o h => h) ?_⟩, ⟨n2, by omega, h3.same (fun o ho => kp _ _ ho (fun e => h0 e.symm)) (fun v h => h)⟩⟩, hk⟩
  rintro v ⟨b, o, cs, e, hb⟩
  exact ⟨b, o, cs, e, kp _ _ hb (fun e => hc hb (.inl e))⟩
theorem NameS.len {w : World} {p m1 m2 n : Nat} (h : NameS w p m1 m2 n) : ∃ es c, w.heap[m2]? = some (.map es c) ∧ es.size ≤ n := by
  obtain ⟨_, _, _, ⟨n2, e2, ⟨es, c, h1, h2, _⟩⟩⟩ := h
  exact ⟨es, c, h1, by omega⟩
theorem BD.drew {w : World} {B b n : Nat} (h : BD w B b n) : BD w.drew B b n := h
theorem BD.le {w : World} {B b n m : Nat} (h : BD w B b n) (hn : n ≤ m) : BD w B b m := by
  obtain ⟨l, h1, h2⟩ := h
  exact ⟨l, by omega, h2⟩
theorem BD.new (w : World) : BD (w.alloc (.cells #[.pointer none, .slice none 0 0] 276)) w.heap.size w.heap.size 0 :=
  ⟨[], Nat.le_refl _, .inl ⟨Nat.le_refl _, .slice none 0 0, Blk.new w _ _, World.ownsRowF_of (World.ownsRow_nil _ _ _ _), by simp [Value.ownBlock]⟩⟩
theorem Kept.thenB {p : Nat → Prop} {w y y' : World} {B : Nat} (h : Kept p w y) (hb : Below B y y') (hB : w.heap.size ≤ B) : Kept p w y' :=
  ⟨hb.os.trans h.os, hb.tape.trans h.tape, hb.output.trans h.output, Nat.le_trans h.size hb.size, fun k hk hp => (hb.block k (by omega)).trans (h.block k hk hp)⟩
theorem NameS.nsc {w : World} {p m1 m2 n : Nat} (h : NameS w p m1 m2 n) : w.cell? ⟨p, 0, none⟩ = some (.map (some m1)) ∧ w.cell? ⟨p, 1, none⟩ = some (.map (some m2)) := ⟨h.2.1.cell 0, h.2.1.cell 1⟩
theorem str_form {w y : World} {B b m p m1 m2 n T : Nat} {cs : Array Value} (hd : BD y B b m) (hn : NameS y p m1 m2 n) (ht : Blk y T 27 cs) (hB : B ≤ y.heap.size) (hk : Kept (KN m1 m2) w y) (hw : w.heap.size ≤ B) :
    Calls Tryz.prog 286 #[.pointer (some ⟨b, 0, none⟩)] y fun e y' => ∃ (s : ByteArray) (i : Int) (ok : Bool), e = .returned (.string s) ∧ Hid (i64ok i) ∧ (Instr.lookup 158 (.map (some m2)) (.string s) true).run Tryz.prog y' = .ok (.tuple #[.int .i64 i, .bool ok]) y' ∧ Hid (BD y' B b m) ∧ Hid (NameS y' p m1 m2 n) ∧ Hid (Blk y' T 27 cs) ∧ Hid (B ≤ y'.heap.size ∧ Kept (KN m1 m2) w y') ∧ (y'.cell? ⟨p, 0, none⟩ = some (.map (some m1)) ∧ y'.cell? ⟨p, 1, none⟩ = some (.map (some m2))) := by
  refine (bString_any B b m y hd hB).mono ?_
  rintro e y' ⟨s, rfl, h1, h2, h3⟩
  have hn' := hn.others h3 hd
  obtain ⟨i, ok, hi, hl⟩ := hn'.form s
  exact ⟨s, i, ok, rfl, hi, hl, h1, hn', ht.others (by decide) (by decide) h3 hd, ⟨Nat.le_trans hB h2.size, hk.thenB h2 hw⟩, hn'.nsc⟩
theorem str_put {w y : World} {B b m p m1 m2 n T : Nat} {cs : Array Value} (hd : BD y B b m) (hn : NameS y p m1 m2 n) (ht : Blk y T 27 cs) (hB : B ≤ y.heap.size) (hk : Kept (KN m1 m2) w y) (hw : w.heap.size ≤ B) {i : Int} (hi : i64ok i) :
    Calls Tryz.prog 286 #[.pointer (some ⟨b, 0, none⟩)] y fun e y' => ∃ (s : ByteArray) (z : World), e = .returned (.string s) ∧ (Instr.mapUpdate 158 (.map (some m2)) (.string s) (.int .i64 i)).run Tryz.prog y' = .ok () z ∧ Hid (BD z B b m) ∧ Hid (NameS z p m1 m2 (n + 1)) ∧ Hid (Blk z T 27 cs) ∧ Hid (B ≤ z.heap.size ∧ Kept (KN m1 m2) w z) ∧ (y'.cell? ⟨p, 0, none⟩ = some (.map (some m1)) ∧ y'.cell? ⟨p, 1, none⟩ = some (.map (some m2))) ∧ (z.cell? ⟨p, 0, none⟩ = some (.map (some m1)) ∧ z.cell? ⟨p, 1, none⟩ = some (.map (some m2))) := by
  refine (bString_any B b m y hd hB).mono ?_
  rintro e y' ⟨s, rfl, h1, h2, h3⟩
  have hn' := hn.others h3 hd
  have ht' := ht.others (by decide) (by decide) h3 hd
  obtain ⟨z, hr, hz, hkz⟩ := hn'.putForm s hi
  have hp : ∀ k cs T f, y'.heap[k]? = some (Obj.cells cs T f) → ¬ k = m2 := fun k cs T f hc e => hn'.cells hc (.inr e)
  exact ⟨s, z, rfl, hr, h1.kept hkz hp, hz, hkz.blk ht' (hp _ _ _ _ ht'), ⟨Nat.le_trans (Nat.le_trans hB h2.size) hkz.size, (hk.thenB h2 hw).trans (hkz.mono fun k e => .inr e)⟩, hn'.nsc, hz.nsc⟩
def NotT (ts : List (Option TypeId)) (o : Obj) : Prop := (∀ c T f, o = Obj.cells c T f → some T ∉ ts) ∧ (none ∈ ts → ∀ es c, o ≠ Obj.map es c)
def FrT (ts : List (Option TypeId)) (w w' : World) : Prop := ∀ (k : Nat) (o : Obj), w.heap[k]? = some o → NotT ts o → w'.heap[k]? = some o
theorem FrT.refl (ts : List (Option TypeId)) (w : World) : FrT ts w w := fun _ _ h _ => h
theorem FrT.trans {ts : List (Option TypeId)} {a b c : World} (h : FrT ts a b) (k : FrT ts b c) : FrT ts a c := fun i o hi ho => k i o (h i o hi ho) ho
theorem FrT.mono {ts ts' : List (Option TypeId)} {a b : World} (h : FrT ts a b) (hs : ∀ t ∈ ts, t ∈ ts') : FrT ts' a b := fun i o hi ho => h i o hi ⟨fun c T f e hm => ho.1 c T f e (hs _ hm), fun hm => ho.2 (hs _ hm)⟩
theorem FrT.of_below {ts : List (Option TypeId)} {a b : World} (h : Below a.heap.size a b) : FrT ts a b := fun k o hk _ => (h.block k (heap_lt hk)).trans hk
theorem FrT.drew {ts : List (Option TypeId)} {a b : World} (h : FrT ts a b) : FrT ts a b.drew := h
theorem FrT.setCell {ts : List (Option TypeId)} {a b : World} (h : FrT ts a b) {p : Addr} {cs : Array Value} {T : TypeId} {f : Nat × Nat} (hp : b.heap[p.block]? = some (Obj.cells cs T f)) (hT : some T ∈ ts) (u : Value) : FrT ts a (b.setCell p u) := fun k o hk ho => by
  have h1 := h k o hk ho
  have hne : k ≠ p.block := fun e => by subst e; rw [hp] at h1; exact ho.1 cs T f (Option.some.inj h1).symm hT
  exact (Below.heap_setCell b p u k hne).trans h1
theorem FrT.grown {ts : List (Option TypeId)} {a b c : World} (h : FrT ts a b) {row : Option Nat} (hg : b.grownBy c row) (hr : ∀ g, row = some g → ∃ cs T f, b.heap[g]? = some (Obj.cells cs T f) ∧ some T ∈ ts) : FrT ts a c := fun k o hk ho => by
  have h1 := h k o hk ho
  refine (hg.block k (heap_lt h1) fun e => ?_).trans h1
  obtain ⟨cs, T, f, hc, hT⟩ := hr k e.symm
  rw [h1] at hc
  exact ho.1 cs T f (Option.some.inj hc) hT
theorem FrT.kept {ts : List (Option TypeId)} {a b c : World} {p : Nat → Prop} (h : FrT ts a b) (hk : Kept p b c) (hp : ∀ k, p k → ∀ o, b.heap[k]? = some o → ¬ NotT ts o) : FrT ts a c := fun k o hk' ho => by
  have h1 := h k o hk' ho
  exact (hk.block k (heap_lt h1) fun e => hp k e o h1 ho).trans h1
theorem NotT.cells {ts : List (Option TypeId)} {cs : Array Value} {T : TypeId} {f : Nat × Nat} (h : some T ∉ ts) : NotT ts (Obj.cells cs T f) := ⟨fun c T' f' e => by cases e; exact h, fun _ es c e => Obj.noConfusion e⟩
theorem NotT.map {ts : List (Option TypeId)} {es : Array MapEntry} {c : Nat} (h : none ∉ ts) : NotT ts (Obj.map es c) := ⟨fun c T' f' e => Obj.noConfusion e, fun hm => absurd hm h⟩
theorem Blk.frT {ts : List (Option TypeId)} {w w' : World} {g : Nat} {T : TypeId} {cs : Array Value} (hk : Blk w g T cs) (h : FrT ts w w') (hT : some T ∉ ts) : Blk w' g T cs := h g _ hk (NotT.cells hT)
theorem row_frT {ts : List (Option TypeId)} {w w' : World} {B n size : Nat} {e : TypeId} {v : Value} {xs : List Value} (hr : w.ownsRow B e size v n xs) (h : FrT ts w w') (hT : some e ∉ ts) : w'.ownsRow B e size v n xs := by
  obtain ⟨h1, h2 | ⟨g, cap, cur, rfl, h3, h4, h5⟩⟩ := hr
  · exact ⟨h1, .inl h2⟩
  · exact ⟨h1, .inr ⟨g, cap, cur, rfl, h3, h g _ h4 (NotT.cells hT), h5⟩⟩
theorem NameS.frT {ts : List (Option TypeId)} {w w' : World} {p m1 m2 n : Nat} (hn : NameS w p m1 m2 n) (h : FrT ts w w') (h0 : none ∉ ts) (h1 : some 273 ∉ ts) (h2 : some 27 ∉ ts) : NameS w' p m1 m2 n := by
  obtain ⟨a0, a1, ⟨n1, e1, a2⟩, ⟨n2, e2, a3⟩⟩ := hn
  refine ⟨a0, a1.frT h h1, ⟨n1, e1, a2.same (fun o ho => ?_) ?_⟩, ⟨n2, e2, a3.same (fun o ho => ?_) (fun v h => h)⟩⟩
  · obtain ⟨_, _, e⟩ := a2.is
    rw [e] at ho; cases ho
    exact h _ _ e (NotT.map h0)
  · rintro v ⟨b, o, cs, e, hb⟩
    exact ⟨b, o, cs, e, h _ _ hb (NotT.cells h2)⟩
  · obtain ⟨_, _, e⟩ := a3.is
    rw [e] at ho; cases ho
    exact h _ _ e (NotT.map h0)
theorem NameS.frame {ts : List (Option TypeId)} {w w' : World} {p m1 m2 n : Nat} (hn : NameS w p m1 m2 n) (hk : Kept (KN m1 m2) w w') (h0 : none ∈ ts) : FrT ts w w' := (FrT.refl ts w).kept hk fun k e o ho hno => by
  obtain ⟨_, _, ⟨_, _, a2⟩, ⟨_, _, a3⟩⟩ := hn
  rcases e with rfl | rfl
  · obtain ⟨_, _, e⟩ := a2.is
    rw [e] at ho
    exact hno.2 h0 _ _ (Option.some.inj ho).symm
  · obtain ⟨_, _, e⟩ := a3.is
    rw [e] at ho
    exact hno.2 h0 _ _ (Option.some.inj ho).symm
structure HS (w : World) (B h G c : Nat) (tv : Value) (xs : List Value) (m : Nat) (ys : List Value) : Prop where
  blk : Blk w h 141 #[.slice (some ⟨G, 0, none⟩) 2 c, tv, .slice none 0 0]
  le : B ≤ h
  row : w.ownsRow B 144 9 (.slice (some ⟨G, 0, none⟩) 2 c) 2 xs
  trail : w.ownsRow B 196 10 tv m ys
theorem HS.frT {ts : List (Option TypeId)} {w w' : World} {B h G c m : Nat} {tv : Value} {xs ys : List Value} (hh : HS w B h G c tv xs m ys) (hf : FrT ts w w') (h1 : some 141 ∉ ts) (h2 : some 144 ∉ ts) (h3 : some 196 ∉ ts) : HS w' B h G c tv xs m ys :=
  ⟨hh.blk.frT hf h1, hh.le, row_frT hh.row hf h2, row_frT hh.trail hf h3⟩
theorem HS.below {w w' : World} {B h G c m : Nat} {tv : Value} {xs ys : List Value} (hh : HS w B h G c tv xs m ys) (hb : Below w.heap.size w w') : HS w' B h G c tv xs m ys := hh.frT (ts := []) (FrT.of_below hb) (by simp) (by simp) (by simp)
theorem HS.drew {w : World} {B h G c m : Nat} {tv : Value} {xs ys : List Value} (hh : HS w B h G c tv xs m ys) : HS w.drew B h G c tv xs m ys := hh.frT (ts := []) (fun _ _ h _ => h) (by simp) (by simp) (by simp)
theorem HS.cell {w : World} {B h G c m : Nat} {tv : Value} {xs ys : List Value} (hh : HS w B h G c tv xs m ys) {q : Nat} {u : Value} (hq : xs[q]? = some u) : w.cell? ⟨G, q, none⟩ = some u := by
  have hl := hh.row.1
  have : q < xs.length := (List.getElem?_eq_some_iff.1 hq).1
  exact (hh.row.cellAt q (by omega)).trans hq
def RB (w : World) (B : Nat) (v : Value) (l : List UInt8) : Prop := w.ownsRow B 5 1 v l.length (Lib.byteCells l)
theorem RB.nil (w : World) (B : Nat) : RB w B (.slice none 0 0) [] := World.ownsRow_nil _ _ _ _
theorem RB.below {w w' : World} {B : Nat} {v : Value} {l : List UInt8} (h : RB w B v l) (hb : Below w.heap.size w w') : RB w' B v l := row_frT (ts := []) h (FrT.of_below hb) (by simp)
theorem RB.form {w : World} {B : Nat} {v : Value} {l : List UInt8} (h : RB w B v l) : ∃ A c, v = .slice A l.length c := row_slice h
theorem RB.mono {w : World} {B B' : Nat} {v : Value} {l : List UInt8} (h : RB w B v l) (hb : B' ≤ B) : RB w B' v l := Joins.ownsRow_le h hb
def AB (B : Nat) (w w' : World) : Prop := Below B w w' ∧ FrT [some 5] w w'
theorem AB.refl (B : Nat) (w : World) : AB B w w := ⟨Below.refl _ _, FrT.refl _ _⟩
theorem AB.trans {B : Nat} {a b c : World} (h : AB B a b) (k : AB B b c) : AB B a c := ⟨h.1.trans k.1, h.2.trans k.2⟩
theorem AB.of_below {B : Nat} {a b : World} (h : Below a.heap.size a b) (hB : B ≤ a.heap.size) : AB B a b := ⟨h.mono hB, FrT.of_below h⟩
theorem AB.size {B : Nat} {a b : World} (h : AB B a b) : a.heap.size ≤ b.heap.size := h.1.size
theorem Blk.ab {B : Nat} {w w' : World} {g : Nat} {T : TypeId} {cs : Array Value} (hk : Blk w g T cs) (h : AB B w w') (hT : T ≠ 5) : Blk w' g T cs := hk.frT h.2 (by simpa using hT)
theorem wpB_str {ops : Array Oper} {rest : List Oper} {o : Oper} {a : Act} {Q : Exit → Act → World → Prop} (w : World) (hgd : o.guard = none) (sl x : Operand)
    (ho : o.op = .call { callee := .builtin .append, args := #[sl, x], argTypes := #[109, 9] })
    (B : Nat) (v : Value) (ls : List UInt8) (s : ByteArray) (hs : a.eval sl = v) (hx : a.eval x = .string s) (hR : RB w B v ls) (hsz : ls.length + s.size ≤ 100000000000) (hB : B ≤ w.heap.size)
    (h : ∀ A' n' c' w', RB w' B (.slice A' n' c') (ls ++ s.data.toList) → AB B w w' → wpList Tryz.prog ops Q rest (a.put o.dst (.slice A' n' c')) w') : wpList Tryz.prog ops Q (o :: rest) a w := by
  obtain ⟨i0, hi0, hz0, hz1, hz2⟩ := info_parts info_byteT
  refine Lib.wpList_append_own_string w hgd sl x 109 9 ho B 5 i0 Tryz.underlying109 Tryz.underlying9 hi0 hz0 hz1 hz2 v ls.length _ hs hR s hx (by unfold maxLen; omega) (by omega) hB ?_
  intro v' w' hr hg _
  obtain ⟨A', c', rfl⟩ := row_slice hr
  refine h A' _ c' w' ?_ ⟨(Below.refl B w).grown hg hB fun k hk => (World.ownsRow.lt hR k hk).1, (FrT.refl _ w).grown hg fun k hk => by obtain ⟨cs, f, hc⟩ := Lib.ownsRow_kind hR k hk; exact ⟨cs, _, f, hc, by simp⟩⟩
  unfold RB
  rw [List.length_append, Lib.byteCells_append]
  exact hr
theorem wpB_byte {ops : Array Oper} {rest : List Oper} {o : Oper} {a : Act} {Q : Exit → Act → World → Prop} (w : World) (c : UInt8) (z : Int) (hgd : o.guard = none) (sl x : Operand)
    (ho : o.op = .call { callee := .builtin .append, args := #[sl, x], argTypes := #[109, 109] })
    (B : Nat) (v : Value) (ls : List UInt8) (hs : a.eval sl = v) (hx : a.eval x = .slice (some ⟨w.heap.size, 0, none⟩) 1 1) (hR : RB w B v ls) (hsz : ls.length + 1 ≤ 100000000000) (hB : B ≤ w.heap.size)
    (hz : z = (c.toNat : Int))
    (h : ∀ A' n' c' w', RB w' B (.slice A' n' c') (ls ++ [c]) → AB B w w' → wpList Tryz.prog ops Q rest (a.put o.dst (.slice A' n' c')) w') : wpList Tryz.prog ops Q (o :: rest) a (w.alloc (.cells #[.int .u8 z] 5)) := by
  subst hz
  obtain ⟨i0, hi0, hz0, hz1, hz2⟩ := info_parts info_byteT
  refine wpList_append_own_at _ hgd sl x 109 ho B 5 i0 (.int .u8 0) 1 1 Tryz.underlying109 hi0 hz0 hz1 hz2 rfl (by decide) v ls.length _ hs (World.ownsRow.alloc hR _) ⟨w.heap.size, 0, none⟩ 1 1 [.int .u8 c.toNat] hx rfl (cell_one_new _ _ _) (by intro u hu; simp at hu; subst hu; rfl) (by unfold maxLen; omega) (by omega) (by simp; omega) ?_
  intro v' w' hr hg _ _
  obtain ⟨A', c', rfl⟩ := row_slice hr
  refine h A' _ c' w' ?_ ⟨((Below.refl B w).alloc hB _).grown hg (by simp; omega) fun k hk => (World.ownsRow.lt hR k hk).1, (FrT.of_below (below_one w _)).grown hg fun k hk => by obtain ⟨cs, f, hc⟩ := Lib.ownsRow_kind (World.ownsRow.alloc hR _) k hk; exact ⟨cs, _, f, hc, by simp⟩⟩
  unfold RB
  rw [List.length_append, Lib.byteCells_append]
  exact hr
theorem RB.text {w : World} {B : Nat} {v : Value} {l : List UInt8} (h : RB w B v l) (h0 : 0 < l.length) : (convert 109 9 v).run Tryz.prog w = .ok (.string ⟨l.toArray⟩) w := by
  rcases h.2 with ⟨_, h1⟩ | ⟨g, cap, cur, rfl, _⟩
  · omega
  · refine run_convert_bytes_back w 109 9 5 ⟨g, 0, none⟩ cap l Tryz.underlying109 Tryz.underlying5 Tryz.underlying9 fun j hj => ?_
    refine World.ownsRow.cells h (g := g) rfl j _ ?_
    unfold Lib.byteCells
    rw [List.getElem?_map, List.getElem?_eq_getElem hj]; rfl
end Go.Proofs.YtkfnpcilanheiaaGreat

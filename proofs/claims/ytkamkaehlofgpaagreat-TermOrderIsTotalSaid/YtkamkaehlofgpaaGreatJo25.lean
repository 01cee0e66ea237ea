/-  -/
import Derived.Deep.RegionHeld3
import Derived.WideLaws
import Derived.Test.YtkamkaehlofgpaaGreatJo23
import Derived.Test.YtkamkaehlofgpaaGreatJo24
set_option linter.unusedVariables false
set_option linter.unusedSimpArgs false
/- The interner's memory: what is kept, two maps whose content does not matter. -/
namespace Go.Proofs.YtkamkaehlofgpaaGreat
open Go.RowKit NumB
set_option linter.unusedVariables false
set_option linter.unusedSimpArgs false

theorem Keys.sub {kt : TypeId} {KP KP' : Value → Prop} {w : World} (K : Keys kt KP w) (h : ∀ v, KP' v → KP v) : Keys kt KP' w :=
  ⟨fun e a ha => K.check e a (h a ha), fun a b ha hb => K.equal a b (h a ha) (h b hb), K.und⟩
def I64K (v : Value) : Prop := ∃ i : Int, v = .int .i64 i ∧ i64ok i
/-- A pointer into a row of terms. -/
def PtrT (w : World) (v : Value) : Prop := ∃ b o cs, v = .pointer (some ⟨b, o, none⟩) ∧ w.heap[b]? = some (.cells cs 27 (0, 0))
theorem PtrT.ptr {w : World} {v : Value} (h : PtrT w v) : PtrK w v := by
  obtain ⟨b, o, cs, e, h⟩ := h
  exact ⟨b, o, cs, _, e, h⟩
theorem keys_ptrT (w : World) : Keys 145 (PtrT w) w := (keys_ptr w).sub fun _ h => h.ptr
theorem i64_keys (w : World) : Keys 3 IntK w := keys_int w
theorem heap_lt {w : World} {k : Nat} {o : Obj} (h : w.heap[k]? = some o) : k < w.heap.size := by
  rcases Nat.lt_or_ge k w.heap.size with h' | h'
  · exact h'
  · rw [Array.getElem?_eq_none h'] at h; cases h
theorem MapK.same {KP KP' VP : Value → Prop} {w w' : World} {b n : Nat} (h : MapK KP VP w b n) (hs : ∀ o, w.heap[b]? = some o → w'.heap[b]? = some o) (hv : ∀ v, KP v → KP' v) : MapK KP' VP w' b n := by
  obtain ⟨es, clock, h1, h2, h3⟩ := h
  exact ⟨es, clock, hs _ h1, h2, fun x hx => ⟨hv _ (h3 x hx).1, (h3 x hx).2⟩⟩
theorem MapK.vals {KP VP VP' : Value → Prop} {w : World} {b n : Nat} (h : MapK KP VP w b n) (hv : ∀ v, VP v → VP' v) : MapK KP VP' w b n := by
  obtain ⟨es, clock, h1, h2, h3⟩ := h
  exact ⟨es, clock, h1, h2, fun x hx => ⟨(h3 x hx).1, hv _ (h3 x hx).2⟩⟩

/-- An interner at p, with maps of at most n keys. -/
def NameS (w : World) (p m1 m2 n : Nat) : Prop := (m1 ≠ m2) ∧ Blk w p 186 #[.map (some m1), .map (some m2)] ∧ (∃ n1, n1 ≤ n ∧ MapK (PtrT w) I64K w m1 n1) ∧ (∃ n2, n2 ≤ n ∧ MapK StrK I64K w m2 n2)
def KN (m1 m2 : Nat) (k : Nat) : Prop := k = m1 ∨ k = m2
theorem MapK.is {KP VP : Value → Prop} {w : World} {b n : Nat} (h : MapK KP VP w b n) : ∃ es c, w.heap[b]? = some (.map es c) := by
  obtain ⟨es, clock, h1, _⟩ := h
  exact ⟨es, clock, h1⟩
theorem NameS.cells {w : World} {p m1 m2 n : Nat} (h : NameS w p m1 m2 n) {k : Nat} {cs : Array Value} {T : TypeId} {f : Nat × Nat} (hk : w.heap[k]? = some (Obj.cells cs T f)) : ¬ KN m1 m2 k := by
  obtain ⟨_, _, ⟨_, _, h1⟩, ⟨_, _, h2⟩⟩ := h
  obtain ⟨_, _, e1⟩ := h1.is
  obtain ⟨_, _, e2⟩ := h2.is
  rintro (rfl | rfl)
  · rw [e1] at hk; cases hk
  · rw [e2] at hk; cases hk
/-- No row of bytes, no builder. -/
def NoB (o : Obj) : Prop := (∀ c f, o ≠ Obj.cells c 5 f) ∧ (∀ c f, o ≠ Obj.cells c 189 f)
theorem NoB.of_cells {c : Array Value} {T : TypeId} {f : Nat × Nat} (h1 : T ≠ 5) (h2 : T ≠ 189) : NoB (Obj.cells c T f) := ⟨fun c' f' e => h1 (Obj.cells.inj e).2.1, fun c' f' e => h2 (Obj.cells.inj e).2.1⟩
theorem NoB.of_map {es : Array MapEntry} {c : Nat} : NoB (Obj.map es c) := ⟨fun c' f' e => Obj.noConfusion e, fun c' f' e => Obj.noConfusion e⟩
/-- All objects but bytes' rows and builders are as they were. -/
def SameB (w w' : World) : Prop := ∀ (k : Nat) (o : Obj), w.heap[k]? = some o → NoB o → w'.heap[k]? = some o
theorem NameS.same {w w' : World} {p m1 m2 n : Nat} (h : NameS w p m1 m2 n) (hs : SameB w w') : NameS w' p m1 m2 n := by
  obtain ⟨h0, h1, ⟨n1, e1, h2⟩, ⟨n2, e2, h3⟩⟩ := h
  refine ⟨h0, hs p _ h1 (NoB.of_cells (by decide) (by decide)), ⟨n1, e1, h2.same (fun o ho => ?_) ?_⟩, ⟨n2, e2, h3.same (fun o ho => ?_) (fun v h => h)⟩⟩
  · obtain ⟨_, _, e⟩ := h2.is
    rw [e] at ho; cases ho
    exact hs _ _ e NoB.of_map
  · rintro v ⟨b, o, cs, e, hb⟩
    exact ⟨b, o, cs, e, hs _ _ hb (NoB.of_cells (by decide) (by decide))⟩
  · obtain ⟨_, _, e⟩ := h3.is
    rw [e] at ho; cases ho
    exact hs _ _ e NoB.of_map
theorem others_same {w w' : World} {b : Nat} (h : Lib.OthersKept 5 (some b) w w') (hb : ∃ c f, w.heap[b]? = some (Obj.cells c 189 f)) : SameB w w' := fun k o hk h1 =>
  h k o hk (fun e => by
    obtain ⟨c, f, hc⟩ := hb
    have e' : k = b := Option.some.inj e
    subst e'
    rw [hk] at hc; exact h1.2 c f (Option.some.inj hc)) h1.1
theorem below_same {w w' : World} (h : Below w.heap.size w w') : SameB w w' := fun k o hk _ => (h.block k (heap_lt hk)).trans hk
theorem BD.is {w : World} {B b n : Nat} (h : BD w B b n) : ∃ c f, w.heap[b]? = some (Obj.cells c 189 f) := by
  obtain ⟨l, _, h | h⟩ := h
  · obtain ⟨_, v, h, _⟩ := h; exact ⟨_, _, h⟩
  · obtain ⟨_, v, h, _⟩ := h; exact ⟨_, _, h⟩
theorem NameS.others {w w' : World} {p m1 m2 n B b k : Nat} (h : NameS w p m1 m2 n) (ho : Lib.OthersKept 5 (some b) w w') (hd : BD w B b k) : NameS w' p m1 m2 n := h.same (others_same ho hd.is)
theorem NameS.below {w w' : World} {p m1 m2 n : Nat} (h : NameS w p m1 m2 n) (hb : Below w.heap.size w w') : NameS w' p m1 m2 n := h.same (below_same hb)
theorem NameS.drew {w : World} {p m1 m2 n : Nat} (h : NameS w p m1 m2 n) : NameS w.drew p m1 m2 n := h.same fun _ _ h _ => h
theorem Blk.others {w w' : World} {g B b k : Nat} {T : TypeId} {cs : Array Value} (h : Blk w g T cs) (h1 : T ≠ 5) (h2 : T ≠ 189) (ho : Lib.OthersKept 5 (some b) w w') (hd : BD w B b k) : Blk w' g T cs :=
  others_same ho hd.is g _ h (NoB.of_cells h1 h2)
theorem NameS.mono {w : World} {p m1 m2 n n' : Nat} (h : NameS w p m1 m2 n) (hn : n ≤ n') : NameS w p m1 m2 n' := by
  obtain ⟨h0, h1, ⟨n1, e1, h2⟩, ⟨n2, e2, h3⟩⟩ := h
  exact ⟨h0, h1, ⟨n1, by omega, h2⟩, ⟨n2, by omega, h3⟩⟩

/-- The key is looked up in the map of forms. -/
theorem NameS.form {w : World} {p m1 m2 n : Nat} (h : NameS w p m1 m2 n) (s : ByteArray) : ∃ (i : Int) (ok : Bool), i64ok i ∧ (Instr.lookup 184 (.map (some m2)) (.string s) true).run Tryz.prog w = .ok (.tuple #[.int .i64 i, .bool ok]) w := by
  obtain ⟨_, _, _, ⟨n2, _, h⟩⟩ := h
  obtain ⟨v, ok, ⟨i, rfl, hi⟩, h1, _⟩ := mapLook_any (keys_str w) (mt := 184) (by kernel_rfl) (z := .int .i64 0) (Tryz.zeroValue3 w) ⟨0, rfl, by unfold i64ok; omega⟩ (k := .string s) ⟨s, rfl⟩ h
  exact ⟨i, ok, hi, h1⟩
theorem NameS.node {w : World} {p m1 m2 n : Nat} (h : NameS w p m1 m2 n) {k : Value} (hk : PtrT w k) : ∃ (i : Int) (ok : Bool), i64ok i ∧ (Instr.lookup 152 (.map (some m1)) k true).run Tryz.prog w = .ok (.tuple #[.int .i64 i, .bool ok]) w := by
  obtain ⟨_, _, ⟨n1, _, h⟩, _⟩ := h
  obtain ⟨v, ok, ⟨i, rfl, hi⟩, h1, _⟩ := mapLook_any (keys_ptrT w) (mt := 152) (by kernel_rfl) (z := .int .i64 0) (Tryz.zeroValue3 w) ⟨0, rfl, by unfold i64ok; omega⟩ (k := k) hk h
  exact ⟨i, ok, hi, h1⟩
theorem NameS.putForm {w : World} {p m1 m2 n : Nat} (h : NameS w p m1 m2 n) (s : ByteArray) {i : Int} (hi : i64ok i) : ∃ w', (Instr.mapUpdate 184 (.map (some m2)) (.string s) (.int .i64 i)).run Tryz.prog w = .ok () w' ∧ NameS w' p m1 m2 (n + 1) ∧ Kept (fun k => k = m2) w w' := by
  have hc := @NameS.cells _ _ _ _ _ h
  obtain ⟨h0, h1, ⟨n1, e1, h2⟩, ⟨n2, e2, h3⟩⟩ := h
  obtain ⟨w', n', hr, hM, hn', hk⟩ := mapPut_any (et := 3) (keys_str w) (mt := 184) (by kernel_rfl) (k := .string s) (v := .int .i64 i) ⟨s, rfl⟩ ⟨i, rfl, hi⟩ h3
  have kp : ∀ k o, w.heap[k]? = some o → k ≠ m2 → w'.heap[k]? = some o := fun k o h h' => (hk.block k (heap_lt h) h').trans h
  refine ⟨w', hr, ⟨h0, hk.blk h1 (fun e => hc h1 (.inr e)), ⟨n1, by omega, h2.same (fun o ho => kp _ _ ho h0) ?_⟩, ⟨n', by omega, hM⟩⟩, hk⟩
  rintro v ⟨b, o, cs, e, hb⟩
  exact ⟨b, o, cs, e, kp _ _ hb (fun e => hc hb (.inr e))⟩
theorem NameS.putNode {w : World} {p m1 m2 n : Nat} (h : NameS w p m1 m2 n) {k : Value} (hkey : PtrT w k) {i : Int} (hi : i64ok i) : ∃ w', (Instr.mapUpdate 152 (.map (some m1)) k (.int .i64 i)).run Tryz.prog w = .ok () w' ∧ NameS w' p m1 m2 (n + 1) ∧ Kept (fun k => k = m1) w w' := by
  have hc := @NameS.cells _ _ _ _ _ h
  obtain ⟨h0, h1, ⟨n1, e1, h2⟩, ⟨n2, e2, h3⟩⟩ := h
  obtain ⟨w', n', hr, hM, hn', hk⟩ := mapPut_any (et := 3) (keys_ptrT w) (mt := 152) (by kernel_rfl) (k := k) (v := .int .i64 i) hkey ⟨i, rfl, hi⟩ h2
  have kp : ∀ k o, w.heap[k]? = some o → k ≠ m1 → w'.heap[k]? = some o := fun k o h h' => (hk.block k (heap_lt h) h').trans h
  refine ⟨w', hr, ⟨h0, hk.blk h1 (fun e => hc h1 (.inl e)), ⟨n', by omega, hM.same (fun o h => h) ?_⟩, ⟨n2, by omega, h3.same (fun o ho => kp _ _ ho (fun e => h0 e.symm)) (fun v h => h)⟩⟩, hk⟩
  rintro v ⟨b, o, cs, e, hb⟩
  exact ⟨b, o, cs, e, kp _ _ hb (fun e => hc hb (.inl e))⟩
/-- How many forms there are. -/
theorem NameS.len {w : World} {p m1 m2 n : Nat} (h : NameS w p m1 m2 n) : ∃ es c, w.heap[m2]? = some (.map es c) ∧ es.size ≤ n := by
  obtain ⟨_, _, _, ⟨n2, e2, ⟨es, c, h1, h2, _⟩⟩⟩ := h
  exact ⟨es, c, h1, by omega⟩
theorem BD.drew {w : World} {B b n : Nat} (h : BD w B b n) : BD w.drew B b n := h
theorem BD.le {w : World} {B b n m : Nat} (h : BD w B b n) (hn : n ≤ m) : BD w B b m := by
  obtain ⟨l, h1, h2⟩ := h
  exact ⟨l, by omega, h2⟩
theorem BD.new (w : World) : BD (w.alloc (.cells #[.pointer none, .slice none 0 0] 189)) w.heap.size w.heap.size 0 :=
  ⟨[], Nat.le_refl _, .inl ⟨Nat.le_refl _, .slice none 0 0, Blk.new w _ _, World.ownsRowF_of (World.ownsRow_nil _ _ _ _), by simp [Value.ownBlock]⟩⟩
theorem Kept.thenB {p : Nat → Prop} {w y y' : World} {B : Nat} (h : Kept p w y) (hb : Below B y y') (hB : w.heap.size ≤ B) : Kept p w y' :=
  ⟨hb.os.trans h.os, hb.tape.trans h.tape, hb.output.trans h.output, Nat.le_trans h.size hb.size, fun k hk hp => (hb.block k (by omega)).trans (h.block k hk hp)⟩
/-- The cells of the interner's own block. -/
def NSC (w : World) (p m1 m2 : Nat) : Prop := w.cell? ⟨p, 0, none⟩ = some (.map (some m1)) ∧ w.cell? ⟨p, 1, none⟩ = some (.map (some m2))
theorem NameS.nsc {w : World} {p m1 m2 n : Nat} (h : NameS w p m1 m2 n) : w.cell? ⟨p, 0, none⟩ = some (.map (some m1)) ∧ w.cell? ⟨p, 1, none⟩ = some (.map (some m2)) := ⟨h.2.1.cell 0, h.2.1.cell 1⟩
/-- String, and the key's look-up behind it. -/
theorem str_form {w y : World} {B b m p m1 m2 n T : Nat} {cs : Array Value} (hd : BD y B b m) (hn : NameS y p m1 m2 n) (ht : Blk y T 27 cs) (hB : B ≤ y.heap.size) (hk : Kept (KN m1 m2) w y) (hw : w.heap.size ≤ B) :
    Calls Tryz.prog 152 #[.pointer (some ⟨b, 0, none⟩)] y fun e y' => ∃ (s : ByteArray) (i : Int) (ok : Bool), e = .returned (.string s) ∧ Hid (i64ok i) ∧ (Instr.lookup 184 (.map (some m2)) (.string s) true).run Tryz.prog y' = .ok (.tuple #[.int .i64 i, .bool ok]) y' ∧ Hid (BD y' B b m) ∧ Hid (NameS y' p m1 m2 n) ∧ Hid (Blk y' T 27 cs) ∧ Hid (B ≤ y'.heap.size ∧ Kept (KN m1 m2) w y') ∧ (y'.cell? ⟨p, 0, none⟩ = some (.map (some m1)) ∧ y'.cell? ⟨p, 1, none⟩ = some (.map (some m2))) := by
  refine (bString_any B b m y hd hB).mono ?_
  rintro e y' ⟨s, rfl, h1, h2, h3⟩
  have hn' := hn.others h3 hd
  obtain ⟨i, ok, hi, hl⟩ := hn'.form s
  exact ⟨s, i, ok, rfl, hi, hl, h1, hn', ht.others (by decide) (by decide) h3 hd, ⟨Nat.le_trans hB h2.size, hk.thenB h2 hw⟩, hn'.nsc⟩
/-- String, and the key's entry behind it. -/
theorem str_put {w y : World} {B b m p m1 m2 n T : Nat} {cs : Array Value} (hd : BD y B b m) (hn : NameS y p m1 m2 n) (ht : Blk y T 27 cs) (hB : B ≤ y.heap.size) (hk : Kept (KN m1 m2) w y) (hw : w.heap.size ≤ B) {i : Int} (hi : i64ok i) :
    Calls Tryz.prog 152 #[.pointer (some ⟨b, 0, none⟩)] y fun e y' => ∃ (s : ByteArray) (z : World), e = .returned (.string s) ∧ (Instr.mapUpdate 184 (.map (some m2)) (.string s) (.int .i64 i)).run Tryz.prog y' = .ok () z ∧ Hid (BD z B b m) ∧ Hid (NameS z p m1 m2 (n + 1)) ∧ Hid (Blk z T 27 cs) ∧ Hid (B ≤ z.heap.size ∧ Kept (KN m1 m2) w z) ∧ (y'.cell? ⟨p, 0, none⟩ = some (.map (some m1)) ∧ y'.cell? ⟨p, 1, none⟩ = some (.map (some m2))) ∧ (z.cell? ⟨p, 0, none⟩ = some (.map (some m1)) ∧ z.cell? ⟨p, 1, none⟩ = some (.map (some m2))) := by
  refine (bString_any B b m y hd hB).mono ?_
  rintro e y' ⟨s, rfl, h1, h2, h3⟩
  have hn' := hn.others h3 hd
  have ht' := ht.others (by decide) (by decide) h3 hd
  obtain ⟨z, hr, hz, hkz⟩ := hn'.putForm s hi
  have hp : ∀ k cs T f, y'.heap[k]? = some (Obj.cells cs T f) → ¬ k = m2 := fun k cs T f hc e => hn'.cells hc (.inr e)
  exact ⟨s, z, rfl, hr, h1.kept hkz hp, hz, hkz.blk ht' (hp _ _ _ _ ht'), ⟨Nat.le_trans (Nat.le_trans hB h2.size) hkz.size, (hk.thenB h2 hw).trans (hkz.mono fun k e => .inr e)⟩, hn'.nsc, hz.nsc⟩
end Go.Proofs.YtkamkaehlofgpaaGreat
/- (*heap.interner).name of a variable or an atom: some int; the interner stays one. -/
namespace Go.Proofs.YtkamkaehlofgpaaGreat
open Go.RowKit NumB
set_option linter.unusedVariables false
set_option linter.unusedSimpArgs false

set_option maxHeartbeats 3200000 in
set_option maxRecDepth 100000 in
theorem name_leaf (p m1 m2 n : Nat) (k v : Int) (s : ByteArray) (ng : Bool) (A1 : Option Addr) (n1 c1 : Nat) (B1 : Option Addr) (q1 d1 : Nat) (X : Option Addr) (xl xc : Nat) (hk : k = 1 ∨ k = 3) (hv : i64ok v) (hs : s.size ≤ 1000) (w : World) (h : NameS w p m1 m2 n) (hn : n ≤ 1000) :
    Calls Tryz.prog 140 #[.pointer (some ⟨p, 0, none⟩), .agg #[.int .i64 k, .int .i64 v, .string s, .bool ng, .slice A1 n1 c1, .slice B1 q1 d1, .slice X xl xc]] w fun e w' => ∃ i, e = .returned (.int .i64 i) ∧ i64ok i ∧ NameS w' p m1 m2 (n + 1) ∧ Kept (KN m1 m2) w w' := by
  have HN := Lib.hid h
  have HV := Lib.hid hv
  have HK := Lib.hid hk
  have HBT := Lib.hid (Blk.new w 27 #[.int .i64 k, .int .i64 v, .string s, .bool ng, .slice A1 n1 c1, .slice B1 q1 d1, .slice X xl xc])
  have HB0 := Lib.hid (BD.new (w.alloc (.cells #[.int .i64 k, .int .i64 v, .string s, .bool ng, .slice A1 n1 c1, .slice B1 q1 d1, .slice X xl xc] 27)))
  rw [show (w.alloc (.cells #[.int .i64 k, .int .i64 v, .string s, .bool ng, .slice A1 n1 c1, .slice B1 q1 d1, .slice X xl xc] 27)).heap.size = w.heap.size + 1 by simp] at HB0
  have HW0 : Hid (Below w.heap.size w ((w.alloc (.cells #[.int .i64 k, .int .i64 v, .string s, .bool ng, .slice A1 n1 c1, .slice B1 q1 d1, .slice X xl xc] 27)).alloc (.cells #[.pointer none, .slice none 0 0] 189))) := below_pair w _ _
  have k5 : (k == 5) = false := beq_eq_false_iff_ne.2 (by omega)
  have k2 : (k == 2) = false := beq_eq_false_iff_ne.2 (by omega)
  have HK8 : Hid (0 ≤ k % 256 ∧ k % 256 ≤ 255) := ⟨by omega, by omega⟩
  clear h hv hk
  go_enter Tryz.func140, Tryz.ntmps140
  go_wp2_with fail
  have HT0 := Lib.hid (HBT.out.alloc (.cells #[.pointer none, .slice none 0 0] 189))
  refine (writeByte_any (w.heap.size + 1) (w.heap.size + 1) 0 _ _ HB0.out HK8.out.1 HK8.out.2 (by omega) (by simp)).mono ?_
  rintro e y1 ⟨rfl, hd, hb, ho⟩
  have HD1 := Lib.hid hd
  have HN1 := Lib.hid ((HN.out.below HW0.out).others ho HB0.out)
  have HT1 := Lib.hid (HT0.out.others (by decide) (by decide) ho HB0.out)
  have HW1 : Hid (w.heap.size + 1 ≤ y1.heap.size ∧ Kept (KN m1 m2) w y1) := ⟨Nat.le_trans (by simp) hb.size, (Kept.of_below HW0.out).thenB hb (by omega)⟩
  clear hd hb ho
  have t0 := HT1.out.cell 0
  have t1 := HT1.out.cell 1
  have t2 := HT1.out.cell 2
  simp only [List.getElem?_toArray, List.getElem?_cons_zero, List.getElem?_cons_succ] at t0 t1 t2
  rcases HK.out with rfl | rfl
  · go_wp2_with fail
    refine (put_any (w.heap.size + 1) (w.heap.size + 1) 1 v HV.out y1 HD1.out (by omega) HW1.out.1).mono ?_
    rintro e y2 ⟨rfl, hd, hb, ho⟩
    have HD2 := Lib.hid (hd.le (by omega : _ ≤ 2000))
    have HN2 := Lib.hid (HN1.out.others ho HD1.out)
    have HT2 := Lib.hid (HT1.out.others (by decide) (by decide) ho HD1.out)
    have HW2 : Hid (w.heap.size + 1 ≤ y2.heap.size ∧ Kept (KN m1 m2) w y2) := ⟨Nat.le_trans HW1.out.1 hb.size, HW1.out.2.thenB hb (by omega)⟩
    clear hd hb ho t0 t1 t2
    go_wp2_with fail
    have hS2 : y2.drew.cell? ⟨p, 0, none⟩ = some (.map (some m1)) ∧ y2.drew.cell? ⟨p, 1, none⟩ = some (.map (some m2)) := HN2.out.drew.nsc
    have HSTR := Lib.hid (str_form (w := w) HD2.out.drew HN2.out.drew HT2.out.drew HW2.out.1 HW2.out.2.drew (by omega))
    go_region_held3 (fun w' => w'.cell? ⟨p, 0, none⟩ = some (.map (some m1)) ∧ w'.cell? ⟨p, 1, none⟩ = some (.map (some m2)))
      (first | assumption | (go_keep; done))
      (first
        | (go_at_call 152; (with_reducible refine HSTR.out.mono ?_); rintro e y3 ⟨s3, i3, ok3, rfl, hi3, hl3, HD3, HN3, HT3, HW3, hS3⟩))
    clear hS2 HSTR hl3 hS3
    have t0 := HT3.out.cell 0
    simp only [List.getElem?_toArray, List.getElem?_cons_zero, List.getElem?_cons_succ] at t0
    cases ok3 with
    | true =>
      go_wp2_with fail
      go_ret
      exact ⟨i3, rfl, hi3.out, HN3.out.mono (by omega), HW3.out.2⟩
    | false =>
      obtain ⟨es, cl, hm, hms⟩ := HN3.out.len
      obtain ⟨e0, e1⟩ := HN3.out.nsc
      have hlen : (Builtin.len_ #[184] 3 #[.map (some m2)]).run Tryz.prog y3 = .ok (.int .i64 (es.size : Int)) y3 := run_len_map y3 _ _ m2 es cl (by kernel_rfl) hm
      go_wp2_with fail
      have HI4 : Hid (i64ok (es.size : Int)) := ⟨by omega, by omega⟩
      have hS4 : y3.drew.cell? ⟨p, 0, none⟩ = some (.map (some m1)) ∧ y3.drew.cell? ⟨p, 1, none⟩ = some (.map (some m2)) := HN3.out.drew.nsc
      have HSTR := Lib.hid (str_put (w := w) HD3.out.drew HN3.out.drew HT3.out.drew HW3.out.1 HW3.out.2.drew (by omega) HI4.out)
      clear hm hms e0 e1 t0 hlen
      go_region_held3 (fun w' => w'.cell? ⟨p, 0, none⟩ = some (.map (some m1)) ∧ w'.cell? ⟨p, 1, none⟩ = some (.map (some m2)))
        (first | assumption | (go_keep; done))
        (first
          | (go_at_call 152; (with_reducible refine HSTR.out.mono ?_); rintro e y5 ⟨s5, y4, rfl, hl5, HD4, HN4, HT4, HW4, hS5, hS6⟩))
      clear hS4 HSTR hl5 hS5 hS6
      have t0 := HT4.out.cell 0
      simp only [List.getElem?_toArray, List.getElem?_cons_zero, List.getElem?_cons_succ] at t0
      go_wp2_with fail
      go_ret
      exact ⟨_, rfl, HI4.out, HN4.out.mono (by omega), HW4.out.2⟩
  · go_wp2_with fail
    refine (writeString_any (w.heap.size + 1) (w.heap.size + 1) 1 s y1 HD1.out (by omega) (by omega) HW1.out.1).mono ?_
    rintro e y2 ⟨rfl, hd, hb, ho⟩
    have HD2 := Lib.hid (hd.le (by omega : _ ≤ 2000))
    have HN2 := Lib.hid (HN1.out.others ho HD1.out)
    have HT2 := Lib.hid (HT1.out.others (by decide) (by decide) ho HD1.out)
    have HW2 : Hid (w.heap.size + 1 ≤ y2.heap.size ∧ Kept (KN m1 m2) w y2) := ⟨Nat.le_trans HW1.out.1 hb.size, HW1.out.2.thenB hb (by omega)⟩
    clear hd hb ho t0 t1 t2
    go_wp2_with fail
    have hS2 : y2.drew.cell? ⟨p, 0, none⟩ = some (.map (some m1)) ∧ y2.drew.cell? ⟨p, 1, none⟩ = some (.map (some m2)) := HN2.out.drew.nsc
    have HSTR := Lib.hid (str_form (w := w) HD2.out.drew HN2.out.drew HT2.out.drew HW2.out.1 HW2.out.2.drew (by omega))
    go_region_held3 (fun w' => w'.cell? ⟨p, 0, none⟩ = some (.map (some m1)) ∧ w'.cell? ⟨p, 1, none⟩ = some (.map (some m2)))
      (first | assumption | (go_keep; done))
      (first
        | (go_at_call 152; (with_reducible refine HSTR.out.mono ?_); rintro e y3 ⟨s3, i3, ok3, rfl, hi3, hl3, HD3, HN3, HT3, HW3, hS3⟩))
    clear hS2 HSTR hl3 hS3
    have t0 := HT3.out.cell 0
    simp only [List.getElem?_toArray, List.getElem?_cons_zero, List.getElem?_cons_succ] at t0
    cases ok3 with
    | true =>
      go_wp2_with fail
      go_ret
      exact ⟨i3, rfl, hi3.out, HN3.out.mono (by omega), HW3.out.2⟩
    | false =>
      obtain ⟨es, cl, hm, hms⟩ := HN3.out.len
      obtain ⟨e0, e1⟩ := HN3.out.nsc
      have hlen : (Builtin.len_ #[184] 3 #[.map (some m2)]).run Tryz.prog y3 = .ok (.int .i64 (es.size : Int)) y3 := run_len_map y3 _ _ m2 es cl (by kernel_rfl) hm
      go_wp2_with fail
      have HI4 : Hid (i64ok (es.size : Int)) := ⟨by omega, by omega⟩
      have hS4 : y3.drew.cell? ⟨p, 0, none⟩ = some (.map (some m1)) ∧ y3.drew.cell? ⟨p, 1, none⟩ = some (.map (some m2)) := HN3.out.drew.nsc
      have HSTR := Lib.hid (str_put (w := w) HD3.out.drew HN3.out.drew HT3.out.drew HW3.out.1 HW3.out.2.drew (by omega) HI4.out)
      clear hm hms e0 e1 t0 hlen
      go_region_held3 (fun w' => w'.cell? ⟨p, 0, none⟩ = some (.map (some m1)) ∧ w'.cell? ⟨p, 1, none⟩ = some (.map (some m2)))
        (first | assumption | (go_keep; done))
        (first
          | (go_at_call 152; (with_reducible refine HSTR.out.mono ?_); rintro e y5 ⟨s5, y4, rfl, hl5, HD4, HN4, HT4, HW4, hS5, hS6⟩))
      clear hS4 HSTR hl5 hS5 hS6
      have t0 := HT4.out.cell 0
      simp only [List.getElem?_toArray, List.getElem?_cons_zero, List.getElem?_cons_succ] at t0
      go_wp2_with fail
      go_ret
      exact ⟨_, rfl, HI4.out, HN4.out.mono (by omega), HW4.out.2⟩
end Go.Proofs.YtkamkaehlofgpaaGreat

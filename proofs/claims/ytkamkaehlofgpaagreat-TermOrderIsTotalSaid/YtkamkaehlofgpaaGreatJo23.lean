/-  -/
import Derived.WideKeyElems
import Derived.LaidEqlPtr
import Derived.DeepKeys3
import Derived.Carry
import Derived.Test.YtkamkaehlofgpaaGreatJo21
import Derived.Test.YtkamkaehlofgpaaGreatJo22
set_option linter.unusedVariables false
set_option linter.unusedSimpArgs false
/- Maps whose content does not matter: Lookup and MapUpdate answer. -/
namespace Go.Proofs.YtkamkaehlofgpaaGreat
open Go.RowKit NumB
set_option linter.unusedVariables false
set_option linter.unusedSimpArgs false

/-- Keys of a kind: hashing and comparing them always answers. -/
structure Keys (kt : TypeId) (KP : Value → Prop) (w : World) : Prop where
  check : ∀ (e : Bool) a, KP a → (Instr.checkKey e 10000 kt a).run Tryz.prog w = .ok () w
  equal : ∀ a b, KP a → KP b → ∃ r : Bool, (Op.equal kt a b).run Tryz.prog w = .ok r w ∧ (r = true → Instr.sameBits 10000 b a = true)
  und : ∃ d, Tryz.prog.underlying kt = some d

/-- A map at b whose n keys and values are of given kinds. -/
def MapK (KP VP : Value → Prop) (w : World) (b n : Nat) : Prop :=
  ∃ es clock, w.heap[b]? = some (.map es clock) ∧ es.size = n ∧ ∀ x ∈ es.toList, KP x.key ∧ VP x.val

theorem findNow_at {d : TypeDesc} {k : Value} : ∀ (es : List MapEntry) (i : Nat) (j : Nat) (v : Value), Instr.findNow d k es i = some (some (j, v)) → ∃ e, e ∈ es ∧ es[j - i]? = some e ∧ i ≤ j ∧ e.val = v ∧ Instr.sameNow d k e.key = some true := by
  intro es
  induction es with
  | nil => intro i j v h; simp [Instr.findNow] at h
  | cons e es ih =>
    intro i j v h
    unfold Instr.findNow at h
    split at h
    · next hs =>
      simp only [Option.some.injEq, Prod.mk.injEq] at h
      exact ⟨e, by simp, by simp [← h.1], by omega, h.2, hs⟩
    · obtain ⟨e', h1, h2, h3, h4, h5⟩ := ih _ _ _ h
      refine ⟨e', by simp [h1], ?_, by omega, h4, h5⟩
      rw [show j - i = (j - (i + 1)) + 1 by omega]
      simpa using h2
    · cases h

theorem bytes_eq {a b : ByteArray} (h : (a == b) = true) : a = b := by
  cases a with
  | mk a =>
    cases b with
    | mk b =>
      have h : (a == b) = true := h
      have e : a = b := by simpa using h
      rw [e]

theorem sameNow_bits {d : TypeDesc} {a b : Value} (h : Instr.sameNow d a b = some true) : Instr.sameBits 10000 b a = true := by
  unfold Instr.sameNow at h
  split at h
  · split at h
    · next hk => simp at h; subst hk h; simp [Instr.sameBits]
    · cases h
  · rename_i a b
    have h : (a == b) = true := Option.some.inj h
    have e : a = b := bytes_eq h
    subst e
    show (a == a) = true
    exact h
  · rename_i a b
    have h : (a == b) = true := Option.some.inj h
    have e : a = b := by simpa using h
    subst e
    show (a == a) = true
    exact h
  · cases h

theorem findAsking_any {kt : TypeId} {KP VP : Value → Prop} {w : World} (K : Keys kt KP w) {k : Value} (hk : KP k) : ∀ (es : List MapEntry), (∀ x ∈ es, KP x.key ∧ VP x.val) → ∀ i, ∃ r, (Instr.findAsking kt k es i).run Tryz.prog w = .ok r w ∧
    ∀ j v, r = some (j, v) → ∃ e, e ∈ es ∧ es[j - i]? = some e ∧ i ≤ j ∧ e.val = v ∧ Instr.sameBits 10000 e.key k = true := by
  intro es
  induction es with
  | nil => intro _ i; exact ⟨none, by simp [Instr.findAsking, Sem.run_pure], by simp⟩
  | cons e es ih =>
    intro hes i
    obtain ⟨r, hr, hr2⟩ := K.equal k e.key hk (hes e (by simp)).1
    cases r with
    | true => exact ⟨some (i, e.val), by simp [Instr.findAsking, Sem.run_bind, hr, Result.andThen_ok, Sem.run_pure], fun j v h => by
        simp only [Option.some.injEq, Prod.mk.injEq] at h
        exact ⟨e, by simp, by simp [← h.1], by omega, h.2, hr2 rfl⟩⟩
    | false =>
      obtain ⟨q, hq, hq2⟩ := ih (fun x hx => hes x (by simp [hx])) (i + 1)
      refine ⟨q, by simp [Instr.findAsking, Sem.run_bind, hr, Result.andThen_ok, hq], fun j v h => ?_⟩
      obtain ⟨e', h1, h2, h3, h4, h5⟩ := hq2 j v h
      refine ⟨e', by simp [h1], ?_, by omega, h4, h5⟩
      rw [show j - i = (j - (i + 1)) + 1 by omega]
      simpa using h2

theorem findKey_any {kt : TypeId} {KP VP : Value → Prop} {w : World} (K : Keys kt KP w) {k : Value} (hk : KP k) (es : List MapEntry) (hes : ∀ x ∈ es, KP x.key ∧ VP x.val) : ∃ r, (Instr.findKey kt k es).run Tryz.prog w = .ok r w ∧
    ∀ j v, r = some (j, v) → ∃ e, e ∈ es ∧ es[j]? = some e ∧ e.val = v ∧ Instr.sameBits 10000 e.key k = true := by
  obtain ⟨d, hd⟩ := K.und
  cases hf : Instr.findNow d k es 0 with
  | some r =>
    refine ⟨r, by simp [Instr.findKey, Sem.run_bind, run_underlying hd, Result.andThen_ok, hf, Sem.run_pure], fun j v h => ?_⟩
    subst h
    obtain ⟨e, h1, h2, _, h4, h5⟩ := findNow_at es 0 j v hf
    exact ⟨e, h1, by simpa using h2, h4, sameNow_bits h5⟩
  | none =>
    obtain ⟨r, hr, h2⟩ := findAsking_any K hk es hes 0
    refine ⟨r, by simp [Instr.findKey, Sem.run_bind, run_underlying hd, Result.andThen_ok, hf, hr], fun j v h => ?_⟩
    obtain ⟨e, h1, h2, _, h4, h5⟩ := h2 j v h
    exact ⟨e, h1, by simpa using h2, h4, h5⟩

theorem mapLook_any {kt et mt : TypeId} {KP VP : Value → Prop} {w : World} (K : Keys kt KP w) (hm : Tryz.prog.underlying mt = some (.map kt et)) {z : Value} (hz : (zeroValue et).run Tryz.prog w = .ok z w) (hzv : VP z) {k : Value} (hk : KP k) {b n : Nat} (hM : MapK KP VP w b n) :
    ∃ v ok, VP v ∧ (Instr.lookup mt (.map (some b)) k true).run Tryz.prog w = .ok (.tuple #[v, .bool ok]) w ∧ (Instr.lookup mt (.map (some b)) k false).run Tryz.prog w = .ok v w := by
  obtain ⟨es, clock, hb, hn, hes⟩ := hM
  obtain ⟨r, hr, hr2⟩ := findKey_any K hk es.toList hes
  cases r with
  | none => exact ⟨z, false, hzv, by simp [Instr.lookup, Sem.run_bind, run_underlying hm, Result.andThen_ok, getObj, Sem.run, hb, K.check _ k hk, hr, hz], by simp [Instr.lookup, Sem.run_bind, run_underlying hm, Result.andThen_ok, getObj, Sem.run, hb, K.check _ k hk, hr, hz]⟩
  | some p =>
    obtain ⟨j, v⟩ := p
    obtain ⟨e, h1, _, h4, _⟩ := hr2 j v rfl
    exact ⟨v, true, h4 ▸ (hes e h1).2, by simp [Instr.lookup, Sem.run_bind, run_underlying hm, Result.andThen_ok, getObj, Sem.run, hb, K.check _ k hk, hr], by simp [Instr.lookup, Sem.run_bind, run_underlying hm, Result.andThen_ok, getObj, Sem.run, hb, K.check _ k hk, hr]⟩

/-- The world with another object at b. -/
def WideElemsSet (w : World) (b : Nat) (o : Obj) : World := { w with heap := w.heap.setIfInBounds b o }

theorem mapPut_any {kt et mt : TypeId} {KP VP : Value → Prop} {w : World} (K : Keys kt KP w) (hm : Tryz.prog.underlying mt = some (.map kt et)) {k v : Value} (hk : KP k) (hv : VP v) {b n : Nat} (hM : MapK KP VP w b n) :
    ∃ w' n', (Instr.mapUpdate mt (.map (some b)) k v).run Tryz.prog w = .ok () w' ∧ MapK KP VP w' b n' ∧ n' ≤ n + 1 ∧ Kept (fun i => i = b) w w' := by
  obtain ⟨es, clock, hb, hn, hes⟩ := hM
  have hbl : b < w.heap.size := (Array.getElem?_eq_some_iff.1 hb).1
  have hkept : ∀ o : Obj, Kept (fun i => i = b) w (WideElemsSet w b o) := fun o =>
    ⟨rfl, rfl, rfl, by simp [WideElemsSet], fun i hi hp => by
      have hp : ¬ b = i := fun e => hp e.symm
      simp [WideElemsSet, Array.getElem?_setIfInBounds_ne hp]⟩
  have hat : ∀ o : Obj, (WideElemsSet w b o).heap[b]? = some o := fun o => by simp [WideElemsSet, hbl]
  obtain ⟨r, hr, hr2⟩ := findKey_any K hk es.toList hes
  cases r with
  | none =>
    refine ⟨WideElemsSet w b (.map (es.push ⟨k, v, clock⟩) (clock + 1)), n + 1, ?_, ⟨_, _, hat _, by simp [hn], ?_⟩, Nat.le_refl _, hkept _⟩
    · simp [Instr.mapUpdate, run_underlying hm, MapKept.run_getObj_map hb, K.check false k hk, hr, MapKept.run_setObj_map _ hb, Result.andThen, WideElemsSet]
    · intro x hx
      simp only [Array.toList_push, List.mem_append, List.mem_singleton] at hx
      rcases hx with hx | rfl
      · exact hes x hx
      · exact ⟨hk, hv⟩
  | some p =>
    obtain ⟨j, v0⟩ := p
    obtain ⟨e, h1, h2, h4, h5⟩ := hr2 j v0 rfl
    have hj : es[j]? = some e := by simpa using h2
    refine ⟨WideElemsSet w b (.map (es.modify j fun e' => { e' with key := k, val := v }) clock), n, ?_, ⟨_, _, hat _, by simp [hn], ?_⟩, by omega, hkept _⟩
    · simp [Instr.mapUpdate, run_underlying hm, MapKept.run_getObj_map hb, K.check false k hk, hr, hj, Instr.keyThatStays, h5, MapKept.run_setObj_map _ hb, Result.andThen, WideElemsSet]
    · intro x hx
      rcases MapFrom.mem_modify hx with hx | ⟨e', _, rfl⟩
      · exact hes x hx
      · exact ⟨hk, hv⟩

def IntK (v : Value) : Prop := ∃ i : Int, v = .int .i64 i
def StrK (v : Value) : Prop := ∃ s : ByteArray, v = .string s
/-- A pointer into a row of cells that no string shares. -/
def PtrK (w : World) (v : Value) : Prop := ∃ b o cs t, v = .pointer (some ⟨b, o, none⟩) ∧ w.heap[b]? = some (.cells cs t (0, 0))

theorem keys_str (w : World) : Keys 9 StrK w where
  check := fun e a ⟨s, h⟩ => by
    subst h
    exact MapKept.run_checkKey (d := .string) (by kernel_rfl) (show MapKept.IsKey .string (.string s) from trivial) e 9999
  equal := fun a b ⟨s, h⟩ ⟨r, k⟩ => by
    subst h k
    refine ⟨s == r, ?_, fun q => ?_⟩
    · have hu : Tryz.prog.underlying 9 = some .string := by kernel_rfl
      have h : ∀ d : Nat, (Op.equalIn (d + 1) 9 (.string s) (.string r)).run Tryz.prog w = .ok (s == r) w := fun d => by simp [Op.equalIn, run_underlying hu]
      exact h 9999
    · have e := bytes_eq q; subst e; exact q
  und := ⟨.string, by kernel_rfl⟩

theorem keys_int (w : World) : Keys 3 IntK w where
  check := fun e a ⟨s, h⟩ => by
    subst h
    exact MapKept.run_checkKey (d := .int .i64) (by kernel_rfl) (show MapKept.IsKey (.int .i64) (.int .i64 s) from rfl) e 9999
  equal := fun a b ⟨s, h⟩ ⟨r, k⟩ => by
    subst h k
    refine ⟨s == r, ?_, fun q => ?_⟩
    · have hu : Tryz.prog.underlying 3 = some (.int .i64) := by kernel_rfl
      have h : ∀ d : Nat, (Op.equalIn (d + 1) 3 (.int .i64 s) (.int .i64 r)).run Tryz.prog w = .ok (s == r) w := fun d => by simp [Op.equalIn, run_underlying hu]
      exact h 9999
    · have e : s = r := by simpa using q
      subst e; simp [Instr.sameBits]
  und := ⟨.int .i64, by kernel_rfl⟩

theorem keys_ptr (w : World) : Keys 145 (PtrK w) w where
  check := fun e a ⟨b, o, cs, t, h, _⟩ => by
    subst h
    have hu : Tryz.prog.underlying 145 = some (.pointer 27) := by kernel_rfl
    have h : ∀ d : Nat, (Instr.checkKey e (d + 1) 145 (.pointer (some ⟨b, o, none⟩))).run Tryz.prog w = .ok () w := fun d => by simp [Instr.checkKey, run_underlying hu, Sem.run_pure]
    exact h 9999
  equal := fun a b ⟨b1, o1, c1, t1, h1, k1⟩ ⟨b2, o2, c2, t2, h2, k2⟩ => by
    subst h1 h2
    have hu : Tryz.prog.underlying 145 = some (.pointer 27) := by kernel_rfl
    have hj : (Tryz.prog.info? 27).map (fun i => i.size) = some 7 := by kernel_rfl
    rcases hi : Tryz.prog.info? 27 with _ | j
    · rw [hi] at hj; cases hj
    · rw [hi] at hj
      have hsz : j.size ≠ 0 := by
        have : j.size = 7 := Option.some.inj hj
        omega
      by_cases hne : (⟨b1, o1, none⟩ : Addr) = ⟨b2, o2, none⟩
      · rw [← hne]
        have h : ∀ d : Nat, (Op.equalIn (d + 1) 145 (.pointer (some ⟨b1, o1, none⟩)) (.pointer (some ⟨b1, o1, none⟩))).run Tryz.prog w = .ok true w := fun d => by
          simp [Op.equalIn, run_underlying hu, sizeOf, typeInfo, hi, run_sameAddr_same]
        exact ⟨true, h 9999, fun _ => by simp [Instr.sameBits]⟩
      · have h : ∀ d : Nat, (Op.equalIn (d + 1) 145 (.pointer (some ⟨b1, o1, none⟩)) (.pointer (some ⟨b2, o2, none⟩))).run Tryz.prog w = .ok false w := fun d => by
          simp [Op.equalIn, run_underlying hu, sizeOf, typeInfo, hi, hsz, run_sameAddr_other w hne k1 k2]
        exact ⟨false, h 9999, fun q => by cases q⟩
  und := ⟨.pointer 27, by kernel_rfl⟩

def TwoK (v : Value) : Prop := (∃ i j : Int, v = .agg #[.int .i64 i, .int .i64 j]) ∧ ∃ l, keyOf Tryz.prog 170 v = some l
theorem two_law : WideMaps.KeyLaw Tryz.prog 170 :=
  Go.deep_law (m := 2) (by omega) (by kernel_rfl) (by kernel_rfl) (by kernel_rfl)
theorem keys_two (w : World) : Keys 170 TwoK w where
  check := fun e a h => two_law.check w e h.2.choose_spec
  equal := fun a b h k => by
    obtain ⟨⟨i, j, hx⟩, la, hla⟩ := h
    obtain ⟨_, lb, hlb⟩ := k
    obtain ⟨r, hr, hiff⟩ := Go.run_equal_deep w (m := 2) (by omega) (k := 170) (by kernel_rfl) (by kernel_rfl) hla hlb
    refine ⟨r, hr, fun q => ?_⟩
    have e : la = lb := hiff.1 q
    have e2 : a = b := two_law.inj hla (e ▸ hlb)
    subst e2 hx
    simp [Instr.sameBits]
  und := ⟨.array 2 3, by kernel_rfl⟩
end Go.Proofs.YtkamkaehlofgpaaGreat
/- heap.newInterner, heap.newFinder. -/
namespace Go.Proofs.YtkamkaehlofgpaaGreat
open Go.RowKit NumB
set_option linter.unusedVariables false
set_option linter.unusedSimpArgs false
set_option maxRecDepth 100000 in
theorem newInterner_any (w : World) : Calls Tryz.prog 139 #[] w fun e w' => e = .returned (.pointer (some ⟨w.heap.size + 2, 0, none⟩)) ∧ w' = ((w.alloc (.map #[] 0)).alloc (.map #[] 0)).alloc (.cells #[.map (some w.heap.size), .map (some (w.heap.size + 1))] 186) := by
  have hmm := @run_makeMap Tryz.prog
  go_enter Tryz.func139, Tryz.ntmps139
  go_wp2_with fail
  go_ret
  exact ⟨rfl, rfl⟩
set_option maxRecDepth 100000 in
theorem newFinder_any (h : Nat) (w : World) : Calls Tryz.prog 112 #[.pointer (some ⟨h, 0, none⟩)] w fun e w' => e = .returned (.pointer (some ⟨w.heap.size + 2, 0, none⟩)) ∧ w' = ((w.alloc (.map #[] 0)).alloc (.map #[] 0)).alloc (.cells #[.pointer (some ⟨h, 0, none⟩), .map (some w.heap.size), .map (some (w.heap.size + 1))] 173) := by
  have hmm := @run_makeMap Tryz.prog
  go_enter Tryz.func112, Tryz.ntmps112
  go_wp2_with fail
  go_ret
  exact ⟨rfl, rfl⟩
end Go.Proofs.YtkamkaehlofgpaaGreat

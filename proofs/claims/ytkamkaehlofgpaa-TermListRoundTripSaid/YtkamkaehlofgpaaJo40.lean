/-  -/
import Derived.Test.YtkamkaehlofgpaaJo26
set_option linter.unusedVariables false
set_option linter.unusedSimpArgs false
/- Maps by int, with what they hold. -/
namespace Go.Proofs.Ytkamkaehlofgpaa
open Go.RowKit NumB
set_option linter.unusedVariables false
set_option linter.unusedSimpArgs false

def keyI (v : Value) : Int := match v with | .int _ i => i | _ => 0
/-- What a list of entries holds at a key. -/
def atI (es : List MapEntry) (i : Int) : Option Value := (es.find? fun x => keyI x.key == i).map (·.val)
/-- A map at b of at most n keys that holds f. -/
def MapI (w : World) (b n : Nat) (f : Int → Option Value) : Prop :=
  ∃ es clock, w.heap[b]? = some (.map es clock) ∧ es.size ≤ n ∧ (∀ x ∈ es.toList, ∃ i : Int, x.key = .int .i64 i) ∧ ∀ i, atI es.toList i = f i
theorem MapI.empty {w : World} {b : Nat} {c : Nat} (h : w.heap[b]? = some (.map #[] c)) : MapI w b 0 (fun _ => none) :=
  ⟨#[], c, h, Nat.le_refl _, fun x hx => by simp at hx, fun i => rfl⟩
theorem MapI.is {w : World} {b n : Nat} {f : Int → Option Value} (h : MapI w b n f) : ∃ es c, w.heap[b]? = some (.map es c) := by
  obtain ⟨es, c, h, _⟩ := h
  exact ⟨es, c, h⟩
theorem MapI.keep {w w' : World} {b n : Nat} {f : Int → Option Value} (h : MapI w b n f) (hs : w'.heap[b]? = w.heap[b]?) : MapI w' b n f := by
  obtain ⟨es, c, h, r⟩ := h
  exact ⟨es, c, hs.trans h, r⟩
theorem MapI.mono {w : World} {b n n' : Nat} {f : Int → Option Value} (h : MapI w b n f) (hn : n ≤ n') : MapI w b n' f := by
  obtain ⟨es, c, h, h2, r⟩ := h
  exact ⟨es, c, h, Nat.le_trans h2 hn, r⟩

theorem atI_cons (e : MapEntry) (es : List MapEntry) (i : Int) : atI (e :: es) i = if keyI e.key = i then some e.val else atI es i := by
  unfold atI
  rw [List.find?_cons]
  by_cases h : keyI e.key = i
  · simp [h]
  · have h1 : (keyI e.key == i) = false := by simpa using h
    simp [h, h1]
theorem keyI_int (i : Int) : keyI (.int .i64 i) = i := rfl
theorem findNow_int (i : Int) : ∀ (es : List MapEntry), (∀ x ∈ es, ∃ j : Int, x.key = .int .i64 j) → ∀ k, ∃ r, Instr.findNow (.int .i64) (.int .i64 i) es k = some r ∧ (r = none → atI es i = none) ∧
    ∀ j v, r = some (j, v) → k ≤ j ∧ atI es i = some v ∧ (∃ e, es[j - k]? = some e ∧ e.key = .int .i64 i) ∧
      ∀ v' i', atI (es.modify (j - k) fun e => { e with key := .int .i64 i, val := v' }) i' = if i' = i then some v' else atI es i' := by
  intro es
  induction es with
  | nil => intro _ k; exact ⟨none, rfl, fun _ => rfl, fun j v h => by cases h⟩
  | cons e es ih =>
    intro hes k
    obtain ⟨j0, hj0⟩ := hes e (by simp)
    have hs : Instr.sameNow (.int .i64) (.int .i64 i) e.key = some (i == j0) := by rw [hj0]; simp [Instr.sameNow]
    have hk : keyI e.key = j0 := by rw [hj0]; rfl
    by_cases h : i = j0
    · subst h
      refine ⟨some (k, e.val), by unfold Instr.findNow; rw [hs]; simp, (fun h => by cases h), fun j v h => ?_⟩
      simp only [Option.some.injEq, Prod.mk.injEq] at h
      obtain ⟨rfl, rfl⟩ := h
      refine ⟨Nat.le_refl _, by rw [atI_cons, if_pos hk], ⟨e, by simp, hj0⟩, fun v' i' => ?_⟩
      rw [Nat.sub_self, List.modify_zero_cons, atI_cons, atI_cons, hk]
      show (if i = i' then some v' else atI es i') = _
      by_cases h' : i' = i
      · rw [if_pos h'.symm, if_pos h']
      · rw [if_neg (fun q : i = i' => h' q.symm), if_neg h', if_neg (fun q : i = i' => h' q.symm)]
    · have h1 : (i == j0) = false := by simpa using h
      have h2 : ¬ j0 = i := fun q => h q.symm
      obtain ⟨r, hr, hr1, hr2⟩ := ih (fun x hx => hes x (by simp [hx])) (k + 1)
      refine ⟨r, by unfold Instr.findNow; rw [hs, h1]; exact hr, fun hn => by rw [atI_cons, hk, if_neg h2]; exact hr1 hn, fun j v hj => ?_⟩
      obtain ⟨a1, a2, ⟨e', a3, a4⟩, a5⟩ := hr2 j v hj
      have e1 : j - k = (j - (k + 1)) + 1 := by omega
      refine ⟨by omega, by rw [atI_cons, hk, if_neg h2]; exact a2, ⟨e', by rw [e1]; simpa using a3, a4⟩, fun v' i' => ?_⟩
      rw [e1, List.modify_succ_cons, atI_cons, atI_cons, hk, a5 v' i']
      by_cases h3 : j0 = i'
      · subst h3
        rw [if_pos rfl, if_neg h2, if_pos rfl]
      · rw [if_neg h3, if_neg h3]

theorem findKey_int (i : Int) {w : World} {es : List MapEntry} (hes : ∀ x ∈ es, ∃ j : Int, x.key = .int .i64 j) : ∃ r, (Instr.findKey 3 (.int .i64 i) es).run Try.prog w = .ok r w ∧ (r = none → atI es i = none) ∧
    ∀ j v, r = some (j, v) → atI es i = some v ∧ (∃ e, es[j]? = some e ∧ e.key = .int .i64 i) ∧
      ∀ v' i', atI (es.modify j fun e => { e with key := .int .i64 i, val := v' }) i' = if i' = i then some v' else atI es i' := by
  obtain ⟨r, hr, h1, h2⟩ := findNow_int i es hes 0
  have hu : Try.prog.underlying 3 = some (.int .i64) := by kernel_rfl
  exact ⟨r, by simp [Instr.findKey, Sem.run_bind, run_underlying hu, Result.andThen_ok, hr, Sem.run_pure], h1, fun j v h => (h2 j v h).2⟩

theorem mapI_look {et mt : TypeId} {w : World} (hm : Try.prog.underlying mt = some (.map 3 et)) {z : Value} (hz : (zeroValue et).run Try.prog w = .ok z w) {b n : Nat} {f : Int → Option Value} (hM : MapI w b n f) (i : Int) :
    (Instr.lookup mt (.map (some b)) (.int .i64 i) true).run Try.prog w = .ok (.tuple #[(f i).getD z, .bool (f i).isSome]) w ∧ (Instr.lookup mt (.map (some b)) (.int .i64 i) false).run Try.prog w = .ok ((f i).getD z) w := by
  obtain ⟨es, clock, hb, hn, hes, hf⟩ := hM
  have hc := fun e => (keys_int w).check e (.int .i64 i) ⟨i, rfl⟩
  obtain ⟨r, hr, hr1, hr2⟩ := findKey_int (w := w) i hes
  rw [← hf i]
  cases r with
  | none =>
    rw [hr1 rfl]
    exact ⟨by simp [Instr.lookup, Sem.run_bind, run_underlying hm, Result.andThen_ok, getObj, Sem.run, hb, hc, hr, hz], by simp [Instr.lookup, Sem.run_bind, run_underlying hm, Result.andThen_ok, getObj, Sem.run, hb, hc, hr, hz]⟩
  | some p =>
    obtain ⟨j, v⟩ := p
    rw [(hr2 j v rfl).1]
    exact ⟨by simp [Instr.lookup, Sem.run_bind, run_underlying hm, Result.andThen_ok, getObj, Sem.run, hb, hc, hr], by simp [Instr.lookup, Sem.run_bind, run_underlying hm, Result.andThen_ok, getObj, Sem.run, hb, hc, hr]⟩

theorem atI_push (es : List MapEntry) (x : MapEntry) (i' : Int) : atI (es ++ [x]) i' = (atI es i').or (if keyI x.key = i' then some x.val else none) := by
  induction es with
  | nil => rw [List.nil_append, atI_cons]; rfl
  | cons e es ih =>
    rw [List.cons_append, atI_cons, atI_cons, ih]
    by_cases h : keyI e.key = i'
    · rw [if_pos h, if_pos h]; rfl
    · rw [if_neg h, if_neg h]

theorem mapI_put {et mt : TypeId} {w : World} (hm : Try.prog.underlying mt = some (.map 3 et)) {b n : Nat} {f : Int → Option Value} (hM : MapI w b n f) (i : Int) (v : Value) :
    ∃ w', (Instr.mapUpdate mt (.map (some b)) (.int .i64 i) v).run Try.prog w = .ok () w' ∧ MapI w' b (n + 1) (fun j => if j = i then some v else f j) ∧ Kept (fun k => k = b) w w' := by
  obtain ⟨es, clock, hb, hn, hes, hf⟩ := hM
  have hc := fun e => (keys_int w).check e (.int .i64 i) ⟨i, rfl⟩
  have hbl : b < w.heap.size := (Array.getElem?_eq_some_iff.1 hb).1
  have hkept : ∀ o : Obj, Kept (fun i => i = b) w (WideElemsSet w b o) := fun o =>
    ⟨rfl, rfl, rfl, by simp [WideElemsSet], fun i hi hp => by
      have hp : ¬ b = i := fun e => hp e.symm
      simp [WideElemsSet, Array.getElem?_setIfInBounds_ne hp]⟩
  have hat : ∀ o : Obj, (WideElemsSet w b o).heap[b]? = some o := fun o => by simp [WideElemsSet, hbl]
  obtain ⟨r, hr, hr1, hr2⟩ := findKey_int (w := w) i hes
  cases r with
  | none =>
    refine ⟨WideElemsSet w b (.map (es.push ⟨.int .i64 i, v, clock⟩) (clock + 1)), ?_, ⟨_, _, hat _, by simp; omega, ?_, fun i' => ?_⟩, hkept _⟩
    · simp [Instr.mapUpdate, run_underlying hm, MapKept.run_getObj_map hb, hc, hr, MapKept.run_setObj_map _ hb, Result.andThen, WideElemsSet]
    · intro x hx
      simp only [Array.toList_push, List.mem_append, List.mem_singleton] at hx
      rcases hx with hx | rfl
      · exact hes x hx
      · exact ⟨i, rfl⟩
    · rw [Array.toList_push, atI_push, hf i']
      have h0 := hr1 rfl
      rw [hf i] at h0
      show (f i').or (if i = i' then some v else none) = _
      by_cases h : i' = i
      · subst h; simp [h0]
      · have h' : ¬ i = i' := fun q => h q.symm
        simp [h, h']
  | some p =>
    obtain ⟨j, v0⟩ := p
    obtain ⟨h1, ⟨e, h2, h3⟩, h4⟩ := hr2 j v0 rfl
    have hj : es[j]? = some e := by simpa using h2
    refine ⟨WideElemsSet w b (.map (es.modify j fun e' => { e' with key := .int .i64 i, val := v }) clock), ?_, ⟨_, _, hat _, by simp; omega, ?_, fun i' => ?_⟩, hkept _⟩
    · simp [Instr.mapUpdate, run_underlying hm, MapKept.run_getObj_map hb, hc, hr, hj, Instr.keyThatStays, h3, Instr.sameBits, MapKept.run_setObj_map _ hb, Result.andThen, WideElemsSet]
    · intro x hx
      rcases MapFrom.mem_modify hx with hx | ⟨e', _, rfl⟩
      · exact hes x hx
      · exact ⟨i, rfl⟩
    · rw [Array.toList_modify, h4 v i', hf i']
end Go.Proofs.Ytkamkaehlofgpaa

/-  -/
import Derived.Deep.Upon
import Derived.Test.YtkamkaehlofgpaaJo51
set_option linter.unusedVariables false
set_option linter.unusedSimpArgs false
/- append of a slice of terms to a row of the call's own. -/
namespace Go.Proofs.Ytkamkaehlofgpaa
open Go.RowKit NumB
set_option linter.unusedVariables false
set_option linter.unusedSimpArgs false

/-- The cells of some terms in a row. -/
def rowsOf (cs : Nat → List Value) : Nat → List Value
  | 0 => []
  | l + 1 => rowsOf cs l ++ cs l
theorem rowsOf_len {cs : Nat → List Value} : ∀ {l : Nat}, (∀ i, i < l → (cs i).length = 7) → (rowsOf cs l).length = l * 7
  | 0, _ => by rw [rowsOf]; rfl
  | l + 1, h => by
    rw [rowsOf, List.length_append, rowsOf_len fun i hi => h i (by omega), h l (by omega)]
    omega
theorem rowsOf_get {cs : Nat → List Value} : ∀ {l : Nat}, (∀ i, i < l → (cs i).length = 7) → ∀ {i q : Nat}, i < l → q < 7 → (rowsOf cs l)[i * 7 + q]? = (cs i)[q]?
  | 0, _, i, q, hi, _ => by omega
  | l + 1, h, i, q, hi, hq => by
    have hl := rowsOf_len (l := l) fun i hi => h i (by omega)
    rw [rowsOf]
    by_cases e : i = l
    · subst e
      rw [List.getElem?_append_right (by omega)]
      congr 1
      omega
    · rw [List.getElem?_append_left (by omega)]
      exact rowsOf_get (fun i hi => h i (by omega)) (by omega) hq
theorem rowsOf_mem {cs : Nat → List Value} : ∀ {l : Nat} {u : Value}, u ∈ rowsOf cs l → ∃ i, i < l ∧ u ∈ cs i
  | 0, u, h => by rw [rowsOf] at h; cases h
  | l + 1, u, h => by
    rw [rowsOf, List.mem_append] at h
    rcases h with h | h
    · obtain ⟨i, hi, hu⟩ := rowsOf_mem h
      exact ⟨i, by omega, hu⟩
    · exact ⟨l, by omega, h⟩
theorem TC.one {w : World} {t : Tm} {cs : List Value} (h : TC w t cs) : ∀ u ∈ cs, u.oneCell' = true := fun u hu => by
  obtain ⟨k, v, s, ng, A1, n1, c1, B1, m1, d1, Xr, l, cap, rfl⟩ := h.form
  simp only [List.mem_cons, List.not_mem_nil, or_false] at hu
  rcases hu with rfl | rfl | rfl | rfl | rfl | rfl | rfl <;> rfl
theorem grown_refl (w : World) (r : Option Nat) : w.grownBy w r := ⟨rfl, rfl, rfl, Nat.le_refl _, fun _ _ _ => rfl⟩

set_option maxRecDepth 100000 in
theorem wpList_append_terms (w : World) {ops : Array Oper} {rest : List Oper} {o : Oper} {a : Act} {Q : Exit → Act → World → Prop} (hgd : o.guard = none) (s x : Operand)
    (ho : o.op = .call { callee := .builtin .append, args := #[s, x], argTypes := #[22, 22] })
    (B : Nat) (g0 cap0 n : Nat) (xs : List Value) (hs : a.eval s = .slice (some ⟨g0, 0, none⟩) n cap0) (hnc : n ≤ cap0) (hown : w.ownsRow B 27 7 (.slice (some ⟨g0, 0, none⟩) n cap0) n xs)
    (A : Option Addr) (l c : Nat) (ts : List Tm) (cs : Nat → List Value) (hl : ts.length = l) (hx : a.eval x = .slice A l c) (hrow : 0 < ts.length → ∃ b o, A = some ⟨b, o, none⟩ ∧ b < w.heap.size ∧ ∀ i, i < ts.length → ∀ j, j < 7 → w.cell? ⟨b, o + i * 7 + j, none⟩ = (cs i)[j]?) (ht : ∀ i (h : i < ts.length), TC w ts[i] (cs i))
    (h63 : n + l ≤ maxLen) (hbytes : (n + l) * 112 ≤ 140737488355328) (hbase : B ≤ w.heap.size)
    (h : ∀ gv w', w'.ownsRow B 27 7 gv (n + l) (xs ++ rowsOf cs l) → w.grownBy w' (some g0) → wpList Try.prog ops Q rest (a.put o.dst gv) w') : wpList Try.prog ops Q (o :: rest) a w := by
  subst hl
  obtain ⟨i0, hi0, hz0, hz1, hz2⟩ := info_parts info_term
  by_cases h0 : ts.length = 0
  · refine wpList_plain hgd fun K hK => ?_
    have hsrc : Src Try.prog i0.size 22 (.slice A 0 c) 0 [] w := by
      cases A with
      | none => exact Src.ofNil w Try.underlying22 c
      | some ad => exact Src.ofSlice w Try.underlying22 ad 0 c [] (by simp) (fun j u hj => by simp at hj) (by simp)
    have hr := run_append_nothing (P := Try.prog) w 22 22 o.type 27 i0 Try.underlying22 hi0 (some ⟨g0, 0, none⟩) n cap0 hnc (.slice A 0 c) hsrc
    have hx' : a.eval x = .slice A 0 c := by rw [hx, h0]
    have hq := h (.slice (some ⟨g0, 0, none⟩) n cap0) w (by rw [h0, rowsOf, List.append_nil]; exact hown) (grown_refl _ _)
    unfold Oper.wp execOp
    simp only [ho, resolve, invoke, builtin, Sem.run_bind, Sem.run_pure, Result.andThen_ok, List.map_toArray, List.map_cons, List.map_nil, hs, hx', hr]
    exact hK _ _ hq
  · obtain ⟨b, of, rfl, hlt, hc⟩ := hrow (by omega)
    have h7 : ∀ i, i < ts.length → (cs i).length = 7 := fun i hi => (ht i hi).len
    refine wpList_append_lies w hgd s x 22 ho B 27 i0 (.agg zt.toArray) 7 112 Try.underlying22 hi0 hz0 hz1 hz2 rfl (by decide) _ n xs hs hown ⟨b, of, none⟩ ts.length c (rowsOf cs ts.length) hx (rowsOf_len h7) (fun j u hj => ?_) (fun u hu => ?_) (by omega) h63 hbytes hbase _ rfl fun g cap w' h1 h2 _ _ => h _ w' h1 h2
    · have hj7 : j < ts.length * 7 := by
        have := (List.getElem?_eq_some_iff.1 hj).1
        rwa [rowsOf_len h7] at this
      have hdm : j / 7 * 7 + j % 7 = j := by omega
      have h1 := hc (j / 7) (by omega) (j % 7) (by omega)
      rw [← rowsOf_get h7 (by omega) (by omega), hdm, hj] at h1
      rw [Go.WideShapes.add_plain, ← h1]
      congr 2
      omega
    · obtain ⟨i, hi, hu⟩ := rowsOf_mem hu
      exact (ht i hi).one u hu
end Go.Proofs.Ytkamkaehlofgpaa

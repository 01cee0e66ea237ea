/- The built-in copy into a whole row of the call's own, as a law for the walk. Conditions: the source is not longer than the row. -/
import Derived.Test.YtfiedhopgmgnoaaDoorClone
import Derived.Laws.CopyOwn
namespace Go.Proofs.YtfiedhopgmgnoaaDoor
open Go.RowKit NumB
set_option linter.unusedVariables false
set_option linter.unusedSimpArgs false

theorem Own.heap {k : IntKind} {T : TypeId} {w : World} {B g n : Nat} {xs : List Nat} (h : Own k T w B g n n xs) : w.heap[g]? = some (.cells (cellsN k xs).toArray T (0, 0)) := by
  rcases h.2.2 with ⟨h', _⟩ | ⟨g', cap', cur, h', hb, hh, h1, h2, h3, h4⟩
  · simp at h'
  · simp only [Value.slice.injEq, Option.some.injEq, Addr.mk.injEq, and_true, true_and] at h'
    obtain ⟨rfl, rfl⟩ := h'
    rw [hh]
    congr 2
    rw [List.take_of_length_le (by rw [Array.length_toList]; omega)] at h4
    rw [← h4]

theorem Own.of_heap {k : IntKind} {T : TypeId} {w : World} {B g n : Nat} {xs : List Nat} (h : w.heap[g]? = some (.cells (cellsN k xs).toArray T (0, 0))) (hl : xs.length = n) (hB : B ≤ g) (hm : n ≤ maxLen) : Own k T w B g n n xs := by
  refine ⟨hl, by rw [cellsN_len, hl, Nat.mul_one], .inr ⟨g, n, _, rfl, hB, h, Nat.le_refl _, hm, ?_, ?_⟩⟩
  · rw [List.size_toArray, cellsN_len, hl, Nat.mul_one]
  · rw [List.take_of_length_le (by rw [cellsN_len, hl, Nat.mul_one]; exact Nat.le_refl _)]

theorem splice_cells {k : IntKind} {xs ys : List Nat} : splice (cellsN k xs) 0 (cellsN k ys) = cellsN k (ys ++ xs.drop ys.length) := by
  unfold splice
  rw [List.take_zero, List.nil_append, Nat.zero_add, cellsN_len, ← cellsN_append]
  congr 1
  unfold cellsN
  rw [List.map_drop]

theorem wpList_copy_Own {P : Program} {w : World} {ops : Array Oper} {rest : List Oper} {o : Oper} {a : Act} {Q : Exit → Act → World → Prop} (hgd : o.guard = none) (d s : Operand) (dT sT : TypeId)
    (ho : o.op = .call { callee := .builtin .copy, args := #[d, s], argTypes := #[dT, sT] }) (elem : TypeId) (hu : P.underlying dT = some (.slice elem)) (hsz : (P.info? elem).map (·.size) = some 1)
    (k : IntKind) (T : TypeId) (B g n : Nat) (xs ys : List Nat) (A : Option Addr) (m c : Nat) (hd : a.eval d = .slice (some ⟨g, 0, none⟩) n n) (hs : a.eval s = .slice A m c)
    (hown : Own k T w B g n n xs) (hr : Rd k w w.heap.size A m ys) (hmn : m ≤ n)
    (h : ∀ w', Own k T w' B g n n (ys ++ xs.drop m) → Below g w w' → wpList P ops Q rest (a.put o.dst (goInt m)) w') : wpList P ops Q (o :: rest) a w := by
  have hl := hr.1
  refine wpList_copy_splice hgd d s dT sT ho elem hu hsz _ _ _ _ _ _ hd hs g 0 (cellsN k xs) T hown.heap (cellsN k ys) (by rw [cellsN_len, hl]; exact (Nat.min_eq_left hmn).symm) ?_ (by rw [cellsN_len, cellsN_len, hl, hown.1]; omega) cellsN_one g w (Below.refl _ _) (Nat.le_refl _) ?_
  · intro h0
    rw [cellsN_len, hl] at h0
    obtain ⟨b, o', e, _⟩ := hr.2 h0
    subst e
    exact ⟨rfl, _, rfl, rd_news hr⟩
  · intro w' hw' hb
    have e : (goInt (cellsN k ys).length) = goInt m := by rw [cellsN_len, hl]
    rw [e]
    refine h w' (Own.of_heap ?_ ?_ hown.lt.1 hown.cap.2) hb
    · have h1 := hw'.out
      rw [splice_cells, hl] at h1
      exact h1
    · rw [List.length_append, List.length_drop, hl, hown.1]; omega

end Go.Proofs.YtfiedhopgmgnoaaDoor

/- append of some numbers to a slice of the call's own, as a law for the walk. Conditions: at most a million numbers. -/
import Derived.Test.YtfiedhopgmgnoaaDoorClone
namespace Go.Proofs.YtfiedhopgmgnoaaDoor
open Go.RowKit NumB
set_option linter.unusedVariables false
set_option linter.unusedSimpArgs false

theorem news_block {w : World} {k : IntKind} {T : TypeId} {ys : List Nat} : ∀ j u, (cellsN k ys)[j]? = some u → (w.alloc (.cells (cellsN k ys).toArray T)).cell? ((⟨w.heap.size, 0, none⟩ : Addr).add j) = some u := by
  intro j u hu
  have : (⟨w.heap.size, 0, none⟩ : Addr).add j = ⟨w.heap.size, j, none⟩ := by unfold Addr.add; split <;> simp_all
  rw [this, cell_of_row _ w.heap.size j (cellsN k ys).toArray T (0, 0) (heap_alloc_new w _)]
  simpa using hu

theorem wpList_push {P : Program} {ops : Array Oper} {rest : List Oper} {o : Oper} {a : Act} {Q : Exit → Act → World → Prop} (w : World) (hgd : o.guard = none) (s x : Operand) (t : TypeId)
    (ho : o.op = .call { callee := .builtin .append, args := #[s, x], argTypes := #[t, t] })
    (k : IntKind) (T : TypeId) (bytes : Nat) (ht : P.underlying t = some (.slice T)) (hinfo : (P.info? T).map (fun i => (i.zero, i.size, i.bytes)) = some (some (.int k 0), 1, bytes)) (hb8 : bytes ≤ 8)
    (B : Nat) (v : Value) (xs ys : List Nat) (hs : a.eval s = v) (hx : a.eval x = .slice (some ⟨w.heap.size, 0, none⟩) ys.length ys.length) (hown : OwnV k T w B v xs) (hn : xs.length + ys.length ≤ 1000000) (hB : B ≤ w.heap.size) (C : Array Value) (hC : C = (cellsN k ys).toArray)
    (h : ∀ v' w', OwnV k T w' B v' (xs ++ ys) → Below B w w' → wpList P ops Q rest (a.put o.dst v') w') : wpList P ops Q (o :: rest) a (w.alloc (.cells C T)) := by
  subst hC
  obtain ⟨i0, hi0, hz0, hz1, hz2⟩ := info_parts hinfo
  refine wpList_append_own_at _ hgd s x t ho B T i0 (.int k 0) 1 bytes ht hi0 hz0 hz1 hz2 rfl (by decide) v xs.length (cellsN k xs) hs (hown.alloc _) ⟨w.heap.size, 0, none⟩ ys.length ys.length (cellsN k ys) hx (by rw [cellsN_len]; omega) news_block cellsN_one (by unfold maxLen; omega) ?_ (by simp; omega) ?_
  · have : (xs.length + ys.length) * bytes ≤ 1000000 * 8 := Nat.mul_le_mul hn hb8
    omega
  · intro v' w' h1 h2 _ _
    refine h v' w' ?_ (((Below.refl B w).alloc hB _).grown h2 (by simp; omega) (fun g hg => hown.blk g hg))
    unfold OwnV
    rw [List.length_append, ← cellsN_append]
    exact h1

end Go.Proofs.YtfiedhopgmgnoaaDoor

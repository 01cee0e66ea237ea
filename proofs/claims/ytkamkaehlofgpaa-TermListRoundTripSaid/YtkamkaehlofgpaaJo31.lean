/-  -/
import Derived.Test.YtkamkaehlofgpaaJo27
set_option linter.unusedVariables false
set_option linter.unusedSimpArgs false
/- Pairs of ints as keys; a look-up in an empty map. -/
namespace Go.Proofs.Ytkamkaehlofgpaa
open Go.RowKit NumB
set_option linter.unusedVariables false
set_option linter.unusedSimpArgs false

theorem wf_of_i64ok {i : Int} (h : i64ok i) : (Lit.int .i64 i).wf = true := by
  unfold i64ok at h
  exact WalkArith.wf_i64 (by omega)
theorem under_two : Try.prog.underlying 117 = some (.array 2 3) := by kernel_rfl
theorem cells_two : Try.prog.cellsOf 117 = 2 := by kernel_rfl
theorem cells_one : Try.prog.cellsOf 3 = 1 := by kernel_rfl
theorem lits_one (d : Nat) {i : Int} (h : i64ok i) : Try.prog.keyLits (d + 1) 3 [.int .i64 i] = some [.int .i64 i] := by
  unfold Program.keyLits
  rw [Try.underlying3]
  simp [wf_of_i64ok h]
theorem lits_two (d : Nat) {i j : Int} (hi : i64ok i) (hj : i64ok j) : Try.prog.keyLits (d + 2) 117 [.int .i64 i, .int .i64 j] = some [.int .i64 i, .int .i64 j] := by
  rw [show d + 2 = (d + 1) + 1 from rfl]
  unfold Program.keyLits
  rw [under_two]
  simp only [cells_two, cells_one]
  simp [List.range_succ, lits_one d hi, lits_one d hj]
theorem key_two {i j : Int} (hi : i64ok i) (hj : i64ok j) : TwoK (.agg #[.int .i64 i, .int .i64 j]) := by
  refine ⟨⟨i, j, rfl⟩, ?_⟩
  have ht : Try.prog.types.size = (Try.prog.types.size - 1) + 1 := by
    have : decide (0 < Try.prog.types.size) = true := by kernel_rfl
    have := of_decide_eq_true this
    omega
  have hk : Try.prog.keyType 117 = true := by kernel_rfl
  have hf : (Value.agg #[.int .i64 i, .int .i64 j]).formed Try.prog 117 = true := by
    unfold Value.formed
    simp [under_two, cells_two]
  have hl := lits_two (Try.prog.types.size - 1) hi hj
  rw [show Try.prog.types.size - 1 + 2 = Try.prog.types.size + 1 by omega] at hl
  unfold keyOf
  rw [under_two]
  simp only [hk, hf, Bool.and_self, if_true]
  exact ⟨_, by rw [show (Value.agg #[.int .i64 i, .int .i64 j]).cells.toList = [.int .i64 i, .int .i64 j] from rfl, hl]; rfl⟩
theorem look_empty {w : World} {b c : Nat} (hb : w.heap[b]? = some (.map #[] c)) {k : Value} (hk : TwoK k) : (Instr.lookup 82 (.map (some b)) k false).run Try.prog w = .ok (.bool false) w := by
  have hm : Try.prog.underlying 82 = some (.map 117 4) := by kernel_rfl
  obtain ⟨d, hd⟩ := (keys_two w).und
  simp [Instr.lookup, Sem.run_bind, run_underlying hm, Result.andThen_ok, getObj, Sem.run, hb, (keys_two w).check _ k hk, Instr.findKey, run_underlying hd, Instr.findNow, Instr.findAsking, Sem.run_pure, Try.zeroValue4]
theorem newInterner_ns (w : World) : Calls Try.prog 72 #[] w fun e w' => ∃ p m1 m2, e = .returned (.pointer (some ⟨p, 0, none⟩)) ∧ NameS w' p m1 m2 0 ∧ Below w.heap.size w w' ∧ (w.heap.size ≤ m1 ∧ m1 < w'.heap.size ∧ w.heap.size ≤ m2 ∧ m2 < w'.heap.size) := by
  refine (newInterner_any w).mono ?_
  rintro e w' ⟨rfl, rfl⟩
  refine ⟨_, w.heap.size, w.heap.size + 1, rfl, ⟨by omega, ?_, ⟨0, Nat.le_refl _, #[], 0, ?_, rfl, by simp⟩, ⟨0, Nat.le_refl _, #[], 0, ?_, rfl, by simp⟩⟩, ?_, ?_⟩
  · have := Blk.new ((w.alloc (.map #[] 0)).alloc (.map #[] 0)) 126 #[.map (some w.heap.size), .map (some (w.heap.size + 1))]
    rw [show ((w.alloc (.map #[] 0)).alloc (.map #[] 0)).heap.size = w.heap.size + 2 by simp] at this
    exact this
  · rw [Lib.alloc_old _ _ _ (by simp; omega), Lib.alloc_old _ _ _ (by simp)]
    exact heap_alloc_new w _
  · rw [Lib.alloc_old _ _ _ (by simp)]
    have := heap_alloc_new (w.alloc (.map #[] 0)) (.map #[] 0)
    rw [show (w.alloc (.map #[] 0)).heap.size = w.heap.size + 1 by simp] at this
    exact this
  · exact ((below_one w _).alloc (by simp) _).alloc (by simp; omega) _
  · simp
    omega
end Go.Proofs.Ytkamkaehlofgpaa

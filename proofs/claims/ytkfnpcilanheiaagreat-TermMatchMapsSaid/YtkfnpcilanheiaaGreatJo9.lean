/- term.Clone: what holds within its region that draws, loads and stores the same cells. -/
import Derived.Deep.RegionHeld3
import Derived.Test.YtkfnpcilanheiaaGreatJo2
import Derived.Test.YtkfnpcilanheiaaGreatJo8
set_option linter.unusedVariables false
set_option linter.unusedSimpArgs false
set_option maxRecDepth 100000
namespace Go.Proofs.YtkfnpcilanheiaaGreat
open Go.RowKit NumB
theorem row_to {w w' : World} {B n size : Nat} {e : TypeId} {v : Value} {xs : List Value} (hr : w.ownsRow B e size v n xs) (hb : Below w.heap.size w w') : w'.ownsRow B e size v n xs := by
  obtain ⟨h1, h2 | ⟨g, cap, cur, rfl, h3, h4, h5⟩⟩ := hr
  · exact ⟨h1, .inl h2⟩
  · refine ⟨h1, .inr ⟨g, cap, cur, rfl, h3, ?_, h5⟩⟩
    have hg : g < w.heap.size := by
      rcases Nat.lt_or_ge g w.heap.size with h | h
      · exact h
      · rw [Array.getElem?_eq_none h] at h4; cases h4
    exact (hb.block g hg).trans h4
theorem row_set {w : World} {B n size T i : Nat} {e : TypeId} {v u : Value} {xs : List Value} (hr : w.ownsRow B e size v n xs) (hT : T < B) : (w.setCell ⟨T, i, none⟩ u).ownsRow B e size v n xs := by
  obtain ⟨h1, h2 | ⟨g, cap, cur, rfl, h3, h4, h5⟩⟩ := hr
  · exact ⟨h1, .inl h2⟩
  · exact ⟨h1, .inr ⟨g, cap, cur, rfl, h3, (Below.heap_setCell w ⟨T, i, none⟩ u g (by show g ≠ T; omega)).trans h4, h5⟩⟩
theorem row_slice {w : World} {B n size : Nat} {e : TypeId} {v : Value} {xs : List Value} (hr : w.ownsRow B e size v n xs) : ∃ A c, v = .slice A n c := by
  rcases hr.2 with ⟨h, h0⟩ | ⟨g, cap, cur, h, _⟩
  · subst h0; exact ⟨none, 0, h⟩
  · exact ⟨_, cap, h⟩
def CloInv (W : World) (T : Nat) (c0 c1 c2 c3 a b c6 : Value) (xs ys : List Nat) (L : Nat → Bool) (s8 s9 s12 s13 s14 s15 s16 s17 : Value) (W' : World) : Prop :=
  (Kept (fun k => k = T) W W' ∧ T < W.heap.size) ∧ Blk W' T 27 #[c0, c1, c2, c3, if L 10 then s9 else a, if L 13 then s13 else b, c6] ∧
  (L 2 = true → s8 = a) ∧ (L 6 = true → s12 = b) ∧ (L 3 = true → OwnV .u32 89 W' W.heap.size s9 xs) ∧ (L 7 = true → OwnV .u32 89 W' W.heap.size s13 ys) ∧
  (L 8 = true → s14 = .pointer (some ⟨T, 3, none⟩)) ∧ (L 9 = true → s15 = .pointer (some ⟨T, 4, none⟩)) ∧ (L 11 = true → s16 = .pointer (some ⟨T, 3, none⟩)) ∧ (L 12 = true → s17 = .pointer (some ⟨T, 5, none⟩)) ∧
  (L 10 = true → L 2 = true ∧ L 3 = true) ∧ (L 13 = true → L 6 = true ∧ L 7 = true)
section
variable {W W' W2 : World} {T : Nat} {c0 c1 c2 c3 a b c6 : Value} {xs ys : List Nat} {L : Nat → Bool} {s8 s9 s12 s13 s14 s15 s16 s17 : Value}
theorem CloInv.call3 (h : CloInv W T c0 c1 c2 c3 a b c6 xs ys L s8 s9 s12 s13 s14 s15 s16 s17 W') (hL : L 3 = false) (hb : Below W'.heap.size W' W2) {v : Value} (hv : OwnV .u32 89 W2 W.heap.size v xs) : CloInv W T c0 c1 c2 c3 a b c6 xs ys (fun j => j == 3 || L j) s8 v s12 s13 s14 s15 s16 s17 W2 := by
  obtain ⟨h1, h2, h3, h4, h5, h6, h7, h8, h9, h10, h11, h12⟩ := h
  have n10 : L 10 = false := by cases hh : L 10 with
    | false => rfl
    | true => have := (h11 hh).2; rw [hL] at this; cases this
  rw [n10] at h2
  refine ⟨⟨h1.1.trans (Kept.of_below hb), h1.2⟩, ?_, h3, h4, fun _ => hv, fun h => row_to (h6 h) hb, h7, h8, h9, h10, fun h => absurd (n10.symm.trans h) (by simp), h12⟩
  show Blk W2 _ _ #[c0, c1, c2, c3, if (false || L 10) then v else a, if (false || L 13) then s13 else b, c6]
  rw [Bool.false_or, Bool.false_or, n10]
  exact h2.to hb
theorem CloInv.call7 (h : CloInv W T c0 c1 c2 c3 a b c6 xs ys L s8 s9 s12 s13 s14 s15 s16 s17 W') (hL : L 7 = false) (hb : Below W'.heap.size W' W2) {v : Value} (hv : OwnV .u32 89 W2 W.heap.size v ys) : CloInv W T c0 c1 c2 c3 a b c6 xs ys (fun j => j == 7 || L j) s8 s9 s12 v s14 s15 s16 s17 W2 := by
  obtain ⟨h1, h2, h3, h4, h5, h6, h7, h8, h9, h10, h11, h12⟩ := h
  have n13 : L 13 = false := by cases hh : L 13 with
    | false => rfl
    | true => have := (h12 hh).2; rw [hL] at this; cases this
  rw [n13] at h2
  refine ⟨⟨h1.1.trans (Kept.of_below hb), h1.2⟩, ?_, h3, h4, fun h => row_to (h5 h) hb, fun _ => hv, h7, h8, h9, h10, h11, fun h => absurd (n13.symm.trans h) (by simp)⟩
  show Blk W2 _ _ #[c0, c1, c2, c3, if (false || L 10) then s9 else a, if (false || L 13) then v else b, c6]
  rw [Bool.false_or, Bool.false_or, n13]
  exact h2.to hb
theorem CloInv.store10 (h : CloInv W T c0 c1 c2 c3 a b c6 xs ys L s8 s9 s12 s13 s14 s15 s16 s17 W') (hL2 : L 2 = true) (hL3 : L 3 = true) : CloInv W T c0 c1 c2 c3 a b c6 xs ys (fun j => j == 10 || L j) s8 s9 s12 s13 s14 s15 s16 s17 (W'.setCell ⟨T, 4, none⟩ s9) := by
  obtain ⟨h1, h2, h3, h4, h5, h6, h7, h8, h9, h10, h11, h12⟩ := h
  refine ⟨⟨h1.1.trans (Kept.setCell W' ⟨T, 4, none⟩ _), h1.2⟩, ?_, h3, h4, fun h => row_set (h5 h) h1.2, fun h => row_set (h6 h) h1.2, h7, h8, h9, h10, fun _ => ⟨hL2, hL3⟩, h12⟩
  have := h2.set_ 4 s9
  simpa using this
theorem CloInv.store13 (h : CloInv W T c0 c1 c2 c3 a b c6 xs ys L s8 s9 s12 s13 s14 s15 s16 s17 W') (hL6 : L 6 = true) (hL7 : L 7 = true) : CloInv W T c0 c1 c2 c3 a b c6 xs ys (fun j => j == 13 || L j) s8 s9 s12 s13 s14 s15 s16 s17 (W'.setCell ⟨T, 5, none⟩ s13) := by
  obtain ⟨h1, h2, h3, h4, h5, h6, h7, h8, h9, h10, h11, h12⟩ := h
  refine ⟨⟨h1.1.trans (Kept.setCell W' ⟨T, 5, none⟩ _), h1.2⟩, ?_, h3, h4, fun h => row_set (h5 h) h1.2, fun h => row_set (h6 h) h1.2, h7, h8, h9, h10, h11, fun _ => ⟨hL6, hL7⟩⟩
  have := h2.set_ 5 s13
  simpa using this
theorem CloInv.load2 (h : CloInv W T c0 c1 c2 c3 a b c6 xs ys L s8 s9 s12 s13 s14 s15 s16 s17 W') : CloInv W T c0 c1 c2 c3 a b c6 xs ys (fun j => j == 2 || L j) a s9 s12 s13 s14 s15 s16 s17 W' := by
  obtain ⟨h1, h2, h3, h4, h5, h6, h7, h8, h9, h10, h11, h12⟩ := h
  exact ⟨h1, h2, fun _ => rfl, h4, h5, h6, h7, h8, h9, h10, fun h => ⟨rfl, (h11 h).2⟩, h12⟩
theorem CloInv.load6 (h : CloInv W T c0 c1 c2 c3 a b c6 xs ys L s8 s9 s12 s13 s14 s15 s16 s17 W') : CloInv W T c0 c1 c2 c3 a b c6 xs ys (fun j => j == 6 || L j) s8 s9 b s13 s14 s15 s16 s17 W' := by
  obtain ⟨h1, h2, h3, h4, h5, h6, h7, h8, h9, h10, h11, h12⟩ := h
  exact ⟨h1, h2, h3, fun _ => rfl, h5, h6, h7, h8, h9, h10, h11, fun h => ⟨rfl, (h12 h).2⟩⟩
theorem CloInv.cell4 (h : CloInv W T c0 c1 c2 c3 a b c6 xs ys L s8 s9 s12 s13 s14 s15 s16 s17 W') (hL : L 2 = false) : W'.cell? ⟨T, 4, none⟩ = some a := by
  obtain ⟨h1, h2, h3, h4, h5, h6, h7, h8, h9, h10, h11, h12⟩ := h
  have n10 : L 10 = false := by cases hh : L 10 with
    | false => rfl
    | true => have := (h11 hh).1; rw [hL] at this; cases this
  rw [n10] at h2
  exact h2.cell 4
theorem CloInv.cell5 (h : CloInv W T c0 c1 c2 c3 a b c6 xs ys L s8 s9 s12 s13 s14 s15 s16 s17 W') (hL : L 6 = false) : W'.cell? ⟨T, 5, none⟩ = some b := by
  obtain ⟨h1, h2, h3, h4, h5, h6, h7, h8, h9, h10, h11, h12⟩ := h
  have n13 : L 13 = false := by cases hh : L 13 with
    | false => rfl
    | true => have := (h12 hh).1; rw [hL] at this; cases this
  rw [n13] at h2
  exact h2.cell 5
theorem CloInv.addr8 (h : CloInv W T c0 c1 c2 c3 a b c6 xs ys L s8 s9 s12 s13 s14 s15 s16 s17 W') : CloInv W T c0 c1 c2 c3 a b c6 xs ys (fun j => j == 8 || L j) s8 s9 s12 s13 (.pointer (some ⟨T, 3, none⟩)) s15 s16 s17 W' := by
  obtain ⟨h1, h2, h3, h4, h5, h6, h7, h8, h9, h10, h11, h12⟩ := h
  exact ⟨h1, h2, h3, h4, h5, h6, fun _ => rfl, h8, h9, h10, h11, h12⟩
theorem CloInv.addr9 (h : CloInv W T c0 c1 c2 c3 a b c6 xs ys L s8 s9 s12 s13 s14 s15 s16 s17 W') : CloInv W T c0 c1 c2 c3 a b c6 xs ys (fun j => j == 9 || L j) s8 s9 s12 s13 s14 (.pointer (some ⟨T, 4, none⟩)) s16 s17 W' := by
  obtain ⟨h1, h2, h3, h4, h5, h6, h7, h8, h9, h10, h11, h12⟩ := h
  exact ⟨h1, h2, h3, h4, h5, h6, h7, fun _ => rfl, h9, h10, h11, h12⟩
theorem CloInv.addr11 (h : CloInv W T c0 c1 c2 c3 a b c6 xs ys L s8 s9 s12 s13 s14 s15 s16 s17 W') : CloInv W T c0 c1 c2 c3 a b c6 xs ys (fun j => j == 11 || L j) s8 s9 s12 s13 s14 s15 (.pointer (some ⟨T, 3, none⟩)) s17 W' := by
  obtain ⟨h1, h2, h3, h4, h5, h6, h7, h8, h9, h10, h11, h12⟩ := h
  exact ⟨h1, h2, h3, h4, h5, h6, h7, h8, fun _ => rfl, h10, h11, h12⟩
theorem CloInv.addr12 (h : CloInv W T c0 c1 c2 c3 a b c6 xs ys L s8 s9 s12 s13 s14 s15 s16 s17 W') : CloInv W T c0 c1 c2 c3 a b c6 xs ys (fun j => j == 12 || L j) s8 s9 s12 s13 s14 s15 s16 (.pointer (some ⟨T, 5, none⟩)) W' := by
  obtain ⟨h1, h2, h3, h4, h5, h6, h7, h8, h9, h10, h11, h12⟩ := h
  exact ⟨h1, h2, h3, h4, h5, h6, h7, h8, h9, fun _ => rfl, h11, h12⟩
theorem CloInv.done (h : CloInv W T c0 c1 c2 c3 a b c6 xs ys L s8 s9 s12 s13 s14 s15 s16 s17 W') (hall : ∀ i, i < 14 → L i = true) : Kept (fun k => k = T) W W' ∧ Blk W' T 27 #[c0, c1, c2, c3, s9, s13, c6] ∧ OwnV .u32 89 W' W.heap.size s9 xs ∧ OwnV .u32 89 W' W.heap.size s13 ys := by
  obtain ⟨h1, h2, h3, h4, h5, h6, h7, h8, h9, h10, h11, h12⟩ := h
  rw [hall 10 (by omega), hall 13 (by omega)] at h2
  exact ⟨h1.1, h2, h5 (hall 3 (by omega)), h6 (hall 7 (by omega))⟩
end
end Go.Proofs.YtkfnpcilanheiaaGreat

/- number.Check, whole. -/
import Derived.Test.YtfiedhopgmgnoaaDoorCheck2
import Derived.Test.YtfiedhopgmgnoaaDoorCheck3
namespace Go.Proofs.YtfiedhopgmgnoaaDoor
open Go.RowKit NumB
set_option linter.unusedVariables false
set_option linter.unusedSimpArgs false

/-- What Check answers at a sign and two lists of limbs. -/
def checkL (neg : Bool) (xs ys : List Nat) : Int :=
  if 128 < xs.length ∨ 128 < ys.length then 3 else if lastB xs = true ∨ lastB ys = true ∨ ys.length = 0 then 2 else checkN neg (val W32 xs) (val W32 ys)

theorem top_of_last {xs : List Nat} (h : lastB xs = false) : Top xs := by
  intro hl
  have h1 : ¬ (0 < xs.length ∧ xs.getD (xs.length - 1) 0 = 0) := of_decide_eq_false h
  apply h1
  rw [List.getLast?_eq_getElem?] at hl
  constructor
  · rcases Nat.eq_zero_or_pos xs.length with h0 | h0
    · rw [List.getElem?_eq_none (by omega)] at hl; exact absurd hl (by simp)
    · exact h0
  · rw [List.getD_eq_getElem?_getD, hl]; rfl

theorem check_any (neg : Bool) (xs ys : List Nat) (va vb : Value) (w : World) (ha : Sl .u32 w va xs) (hb : Sl .u32 w vb ys) (hox : Ok W32 xs) (hoy : Ok W32 ys) :
    Calls Tryd.prog 28 #[.agg #[.bool neg, va, vb]] w fun e w' => e = .returned (.int .i64 (checkL neg xs ys)) ∧ Below w.heap.size w w' := by
  unfold checkL
  by_cases h1 : 128 < xs.length ∨ 128 < ys.length
  · rw [if_pos h1]; exact check_big neg xs ys va vb w ha hb h1
  rw [if_neg h1]
  by_cases h2 : lastB xs = true ∨ lastB ys = true ∨ ys.length = 0
  · rw [if_pos h2]; exact check_last neg xs ys va vb w ha hb (by omega) (by omega) h2
  rw [if_neg h2]
  have hlx : lastB xs = false := by cases h : lastB xs with | false => rfl | true => exact absurd (.inl h) h2
  have hly : lastB ys = false := by cases h : lastB ys with | false => rfl | true => exact absurd (.inr (.inl h)) h2
  have hl0 : 0 < ys.length := Nat.pos_of_ne_zero fun h => h2 (.inr (.inr h))
  have ex := digs_eq W32_gt hox (top_of_last hlx) rfl
  have ey := digs_eq W32_gt hoy (top_of_last hly) rfl
  have h0 : 0 < (digs W32 (val W32 xs)).length ↔ 0 < val W32 xs := by
    have h3 := digs_nil (B := W32) (n := val W32 xs) W32_gt
    constructor
    · intro h
      rcases Nat.eq_zero_or_pos (val W32 xs) with h4 | h4
      · rw [h3.2 h4] at h; exact absurd h (by simp)
      · exact h4
    · intro h
      exact List.length_pos_iff.2 fun h4 => by have := h3.1 h4; omega
  have hA : Nat32 w va (val W32 xs) := by unfold Nat32; rw [ex]; exact ha
  have hB : Nat32 w vb (val W32 ys) := by unfold Nat32; rw [ey]; exact hb
  rcases Nat.eq_zero_or_pos (val W32 xs) with hz | hz
  · exact check_zero neg _ _ va vb w hA hB (by rw [ex]; omega) (by rw [ey]; omega) (by rw [ey]; exact hl0) h0 hz (by rw [ex]; exact hlx) (by rw [ey]; exact hly)
  · exact check_pos neg _ _ va vb w hA hB (by rw [ex]; omega) (by rw [ey]; omega) (by rw [ey]; exact hl0) h0 hz (by rw [ex]; exact hlx) (by rw [ey]; exact hly)
end Go.Proofs.YtfiedhopgmgnoaaDoor

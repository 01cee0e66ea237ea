/- number.digits. -/
import Derived.Test.YtfiedhopgmgnoaaDoorDecMath
import Derived.Test.YtfiedhopgmgnoaaDoorBase
import Derived.Test.YtfiedhopgmgnoaaDoorShelf
import Derived.Shelf.Strings.SlTrimAscii
namespace Go.Proofs.YtfiedhopgmgnoaaDoor
open Go.RowKit NumB
set_option linter.unusedVariables false
set_option linter.unusedSimpArgs false

def cut10 : ByteArray := ⟨#[48, 49, 50, 51, 52, 53, 54, 55, 56, 57]⟩
theorem in_cut (c : UInt8) : cut10.data.toList.contains c = isDig c := by
  have h : ∀ n : Fin 256, cut10.data.toList.contains (UInt8.ofNat n.val) = isDig (UInt8.ofNat n.val) := by decide +kernel
  have := h ⟨c.toNat, c.toNat_lt⟩
  simpa using this
theorem dropWhile_nil {p : UInt8 → Bool} {l : List UInt8} : l.dropWhile p = [] ↔ ∀ x ∈ l, p x = true := by
  induction l with
  | nil => simp
  | cons c l ih =>
    rw [List.dropWhile_cons]
    cases h : p c with
    | true => simp [h, ih]
    | false => simp [h]
theorem trim_digits (l : List UInt8) : (Lib.trimS l cut10.data.toList).isEmpty = allDig l := by
  have e : (cut10.data.toList.contains · : UInt8 → Bool) = isDig := funext in_cut
  unfold Lib.trimS Lib.trimLeftS Lib.trimRightS
  rw [e]
  cases h : allDig l with
  | true =>
    have : l.reverse.dropWhile isDig = [] := by
      rw [dropWhile_nil]
      intro x hx
      exact List.all_eq_true.1 h x (List.mem_reverse.1 hx)
    rw [this]; rfl
  | false =>
    obtain ⟨x, hx, hn⟩ := List.all_eq_false.1 h
    cases hd : ((l.reverse.dropWhile isDig).reverse.dropWhile isDig).isEmpty with
    | false => rfl
    | true =>
      exfalso
      have h1 : (l.reverse.dropWhile isDig).reverse.dropWhile isDig = [] := List.isEmpty_iff.1 hd
      rw [dropWhile_nil] at h1
      have h2 : l.reverse.dropWhile isDig = [] := by
        cases hc : l.reverse.dropWhile isDig with
        | nil => rfl
        | cons y r =>
          have h3 := List.head?_dropWhile_not isDig l.reverse
          rw [hc] at h3
          simp only [List.head?_cons] at h3
          have h4 := h1 y (by rw [hc]; simp)
          rw [h4] at h3
          exact absurd h3 (by simp)
      rw [dropWhile_nil] at h2
      exact hn (h2 x (List.mem_reverse.2 hx))

set_option maxRecDepth 100000 in
set_option maxHeartbeats 1600000 in
theorem digits_any (s : ByteArray) (w : World) (hs : s.size ≤ 1000000) :
    Calls Tryd.prog 34 #[.string s] w fun e w' => e = .returned (.bool (digitsB s.data.toList)) ∧ Below w.heap.size w w' := by
  have hcon := Any.strings_Trim_laid Tryd.lays160 (by kernel_rfl) s cut10 w (by omega) (by decide) (ascii_of_all (by decide))
  have HC := Lib.hid hcon
  clear hcon
  by_cases h0 : s.data.toList = []
  · have E : Hid (digitsB s.data.toList = false) := by unfold Hid digitsB; rw [h0]; rfl
    have h1 : s.toList.isEmpty = true := by rw [Lib.toList_data, h0]; rfl
    have h2 : s.toList = [] := by rw [Lib.toList_data, h0]
    clear h0 HC
    go_enter Tryd.func34, Tryd.ntmps34
    go_wp2_with fail
    go_ret
    rw [E.out]
    exact ⟨rfl, Below.refl _ _⟩
  · have h1 : s.toList.isEmpty = false := by rw [Lib.toList_data]; cases h : s.data.toList with | nil => exact absurd h h0 | cons _ _ => rfl
    have E : Hid (digitsB s.data.toList = allDig s.data.toList) := by unfold Hid digitsB; cases h : s.data.toList with | nil => exact absurd h h0 | cons _ _ => rfl
    have HT := Lib.hid (trim_digits s.data.toList)
    generalize Lib.trimS s.data.toList cut10.data.toList = r at *
    clear h0
    go_enter Tryd.func34, Tryd.ntmps34
    go_wp2_with fail
    refine HC.out.mono ?_
    rintro e w1 ⟨rfl, hb1⟩
    have HB := Lib.hid hb1
    clear hb1 HC
    cases r with
    | nil =>
      have h3 : (⟨([] : List UInt8).toArray⟩ : ByteArray).toList.isEmpty = true := by rw [Lib.toList_data]; rfl
      go_wp2_with fail
      go_ret
      rw [E.out, ← HT.out]
      exact ⟨rfl, HB.out⟩
    | cons c r =>
      have h3 : (⟨(c :: r).toArray⟩ : ByteArray).toList.isEmpty = false := by rw [Lib.toList_data]; rfl
      go_wp2_with fail
      go_ret
      rw [E.out, ← HT.out]
      exact ⟨rfl, HB.out⟩
end Go.Proofs.YtfiedhopgmgnoaaDoor

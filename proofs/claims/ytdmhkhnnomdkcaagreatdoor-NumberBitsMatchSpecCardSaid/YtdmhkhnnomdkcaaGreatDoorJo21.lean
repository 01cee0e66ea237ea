/-  -/
import Derived.Test.YtdmhkhnnomdkcaaGreatDoorShelf
import Derived.Shelf.Strings.SlTrimAscii
import Derived.Test.YtdmhkhnnomdkcaaGreatDoorJo2
import Derived.Test.YtdmhkhnnomdkcaaGreatDoorJo3
set_option linter.unusedVariables false
set_option linter.unusedSimpArgs false
/- number.digits. -/
namespace Go.Proofs.YtdmhkhnnomdkcaaGreatDoor
open Go.RowKit NumB
set_option linter.unusedVariables false
set_option linter.unusedSimpArgs false

def cut10 : ByteArray := ⟨#[48, 49, 50, 51, 52, 53, 54, 55, 56, 57]⟩
theorem in_cut (c : UInt8) : cut10.data.toList.contains c = isDig c := by
  have h : ∀ n : Fin 256, cut10.data.toList.contains (UInt8.ofNat n.val) = isDig (UInt8.ofNat n.val) := by decide +kernel
  have := h ⟨c.toNat, c.toNat_lt⟩
  simpa using this
theorem dropWhile_nil {p : UInt8 → Bool} {l : List UInt8} : l.dropWhile p = [] ↔ ∀ x ∈ l, p x = true := by
  induction l with
  | nil => simp
  | cons c l ih =>
    rw [List.dropWhile_cons]
    cases h : p c with
    | true => simp [h, ih]
    | false => simp [h]
theorem trim_digits (l : List UInt8) : (Lib.trimS l cut10.data.toList).isEmpty = allDig l := by
  have e : (cut10.data.toList.contains · : UInt8 → Bool) = isDig := funext in_cut
  unfold Lib.trimS Lib.trimLeftS Lib.trimRightS
  rw [e]
  cases h : allDig l with
  | true =>
    have : l.reverse.dropWhile isDig = [] := by
      rw [dropWhile_nil]
      intro x hx
      exact List.all_eq_true.1 h x (List.mem_reverse.1 hx)
    rw [this]; rfl
  | false =>
    obtain ⟨x, hx, hn⟩ := List.all_eq_false.1 h
    cases hd : ((l.reverse.dropWhile isDig).reverse.dropWhile isDig).isEmpty with
    | false => rfl
    | true =>
      exfalso
      have h1 : (l.reverse.dropWhile isDig).reverse.dropWhile isDig = [] := List.isEmpty_iff.1 hd
      rw [dropWhile_nil] at h1
      have h2 : l.reverse.dropWhile isDig = [] := by
        cases hc : l.reverse.dropWhile isDig with
        | nil => rfl
        | cons y r =>
          have h3 := List.head?_dropWhile_not isDig l.reverse
          rw [hc] at h3
          simp only [List.head?_cons] at h3
          have h4 := h1 y (by rw [hc]; simp)
          rw [h4] at h3
          exact absurd h3 (by simp)
      rw [dropWhile_nil] at h2
      exact hn (h2 x (List.mem_reverse.2 hx))

set_option maxRecDepth 100000 in
set_option maxHeartbeats 1600000 in
theorem digits_any (s : ByteArray) (w : World) (hs : s.size ≤ 1000000) :
    Calls Tryz.prog 55 #[.string s] w fun e w' => e = .returned (.bool (digitsB s.data.toList)) ∧ Below w.heap.size w w' := by
  have hcon := Any.strings_Trim_laid Tryz.lays160 (by kernel_rfl) s cut10 w (by omega) (by decide) (ascii_of_all (by decide))
  have HC := Lib.hid hcon
  clear hcon
  by_cases h0 : s.data.toList = []
  · have E : Hid (digitsB s.data.toList = false) := by unfold Hid digitsB; rw [h0]; rfl
    have h1 : s.toList.isEmpty = true := by rw [Lib.toList_data, h0]; rfl
    have h2 : s.toList = [] := by rw [Lib.toList_data, h0]
    clear h0 HC
    go_enter Tryz.func55, Tryz.ntmps55
    go_wp2_with fail
    go_ret
    rw [E.out]
    exact ⟨rfl, Below.refl _ _⟩
  · have h1 : s.toList.isEmpty = false := by rw [Lib.toList_data]; cases h : s.data.toList with | nil => exact absurd h h0 | cons _ _ => rfl
    have E : Hid (digitsB s.data.toList = allDig s.data.toList) := by unfold Hid digitsB; cases h : s.data.toList with | nil => exact absurd h h0 | cons _ _ => rfl
    have HT := Lib.hid (trim_digits s.data.toList)
    generalize Lib.trimS s.data.toList cut10.data.toList = r at *
    clear h0
    go_enter Tryz.func55, Tryz.ntmps55
    go_wp2_with fail
    refine HC.out.mono ?_
    rintro e w1 ⟨rfl, hb1⟩
    have HB := Lib.hid hb1
    clear hb1 HC
    cases r with
    | nil =>
      have h3 : (⟨([] : List UInt8).toArray⟩ : ByteArray).toList.isEmpty = true := by rw [Lib.toList_data]; rfl
      go_wp2_with fail
      go_ret
      rw [E.out, ← HT.out]
      exact ⟨rfl, HB.out⟩
    | cons c r =>
      have h3 : (⟨(c :: r).toArray⟩ : ByteArray).toList.isEmpty = false := by rw [Lib.toList_data]; rfl
      go_wp2_with fail
      go_ret
      rw [E.out, ← HT.out]
      exact ⟨rfl, HB.out⟩
end Go.Proofs.YtdmhkhnnomdkcaaGreatDoor
/- strings.Cut at a separator of one byte. -/
namespace Go.Proofs.YtdmhkhnnomdkcaaGreatDoor
open Go.RowKit NumB
set_option linter.unusedVariables false
set_option linter.unusedSimpArgs false

/-- What stands before and behind the first c. -/
def cutB (l : List UInt8) (c : UInt8) : List UInt8 × List UInt8 × Bool :=
  if 0 ≤ Lib.indexByte l c then (l.take (Lib.indexByte l c).toNat, l.drop ((Lib.indexByte l c).toNat + 1), true) else (l, [], false)

theorem ba_eq {s : ByteArray} {l : List UInt8} (h : s.data.toList = l) : s = ⟨l.toArray⟩ := by subst h; cases s; simp
theorem extract_head (s : ByteArray) (k : Nat) : (s.extract 0 k).data.toList = s.data.toList.take k := by rw [Lib.extract_data]; simp
theorem indexByte_lt (l : List UInt8) (c : UInt8) : -1 ≤ Lib.indexByte l c ∧ Lib.indexByte l c < l.length := by
  induction l with
  | nil => simp [Lib.indexByte]
  | cons b l ih =>
    unfold Lib.indexByte
    split
    · simp
    · split
      · simp; omega
      · rename_i h; simp at h; simp; omega

set_option maxRecDepth 1000000 in
set_option maxHeartbeats 3200000 in
theorem index1_any (s : ByteArray) (c : UInt8) (w : World) :
    Calls Tryz.prog 77 #[.string s, .string ⟨#[c]⟩] w fun e w' => e = .returned (.int .i64 (Lib.indexByte s.data.toList c)) ∧ w = w' := by
  have hci := Tryz.stringslite_IndexByte s (c.toNat : Int) w
  rw [show ((c.toNat : Int)).toNat.toUInt8 = c by simp] at hci
  have HC := Lib.hid hci
  clear hci
  by_cases hs : s.data.toList = [c]
  · have E : Hid (Lib.indexByte s.data.toList c = 0) := by unfold Hid; rw [hs]; simp [Lib.indexByte]
    have hq : ([c] == s.toList) = true := by rw [Lib.toList_data, hs]; simp
    clear HC hs
    go_enter Tryz.func77, Tryz.ntmps77
    go_wp2_with fail
    go_ret
    rw [E.out]
    exact ⟨rfl, rfl⟩
  · have hq : ([c] == s.toList) = false := by rw [Lib.toList_data]; exact beq_eq_false_iff_ne.2 (fun e => hs e.symm)
    generalize hz : Lib.indexByte s.data.toList c = z at *
    clear hs hz
    go_enter Tryz.func77, Tryz.ntmps77
    go_wp2_with fail
    refine HC.out.mono ?_
    rintro e w1 ⟨rfl, rfl⟩
    go_wp2_with fail
    go_ret
    exact ⟨rfl, rfl⟩

set_option maxRecDepth 100000 in
set_option maxHeartbeats 1600000 in
theorem cutL_any (s : ByteArray) (c : UInt8) (w : World) (hs : s.size ≤ 1000000) :
    Calls Tryz.prog 65 #[.string s, .string ⟨#[c]⟩] w fun e w' => e = .returned (.tuple #[.string ⟨(cutB s.data.toList c).1.toArray⟩, .string ⟨(cutB s.data.toList c).2.1.toArray⟩, .bool (cutB s.data.toList c).2.2]) ∧ ∃ n, w' = w.drewN n := by
  have HI := Lib.hid (index1_any s c w)
  have hb := indexByte_lt s.data.toList c
  have hsz := Lib.size_eq s
  generalize hz : Lib.indexByte s.data.toList c = z at *
  have HZ := Lib.hid hz
  by_cases h0 : 0 ≤ z
  · obtain ⟨k, rfl⟩ := Int.eq_ofNat_of_zero_le h0
    have E : Hid (cutB s.data.toList c = (s.data.toList.take k, s.data.toList.drop (k + 1), true)) := by unfold Hid cutB; rw [HZ.out, if_pos h0]; rfl
    have hk : k < s.size := by omega
    have hk1 : IntKind.i64.wrap ((k : Int) + 1) = (k : Int) + 1 := by rw [IntKind.wrap_i64]; omega
    have hk2 : (k : Int) ≤ (s.size : Int) := by omega
    have hk3 : (k : Int) + 1 ≤ (s.size : Int) := by omega
    have hk4 : (0 : Int) ≤ (k : Int) := by omega
    have hk5 : (0 : Int) ≤ (k : Int) + 1 := by omega
    have hk6 : ((k : Int) + 1).toNat = k + 1 := by omega
    clear hb hz hsz h0
    go_enter Tryz.func65, Tryz.ntmps65
    go_wp2_with fail
    refine HI.out.mono ?_
    rintro e w1 ⟨rfl, rfl⟩
    go_wp2_with fail
    go_quiet (fail)
    go_wp2_with fail
    go_ret3
    rw [E.out]
    refine ⟨?_, _, rfl⟩
    show Ending.returned (.tuple #[.string (s.extract 0 k), .string (s.extract (k + 1) s.size), .bool true]) = _
    rw [ba_eq (extract_head s k), ba_eq (Lib.extract_to_end s (k + 1))]
  · have E : Hid (cutB s.data.toList c = (s.data.toList, [], false)) := by unfold Hid cutB; rw [HZ.out, if_neg h0]
    have h1 : z < 0 := by omega
    clear hb hz hsz h0
    go_enter Tryz.func65, Tryz.ntmps65
    go_wp2_with fail
    refine HI.out.mono ?_
    rintro e w1 ⟨rfl, rfl⟩
    go_wp2_with fail
    go_ret3
    rw [E.out]
    exact ⟨rfl, 0, rfl⟩
theorem cut_any (s : ByteArray) (c : UInt8) (w : World) (hs : s.size ≤ 1000000) :
    Calls Tryz.prog 54 #[.string s, .string ⟨#[c]⟩] w fun e w' => e = .returned (.tuple #[.string ⟨(cutB s.data.toList c).1.toArray⟩, .string ⟨(cutB s.data.toList c).2.1.toArray⟩, .bool (cutB s.data.toList c).2.2]) ∧ ∃ n, w' = w.drewN n := by
  have HC := Lib.hid (cutL_any s c w hs)
  generalize (cutB s.data.toList c).1 = a at *
  generalize (cutB s.data.toList c).2.1 = b at *
  generalize (cutB s.data.toList c).2.2 = d at *
  go_enter Tryz.func54, Tryz.ntmps54
  go_wp2_with fail
  refine HC.out.mono ?_
  rintro e w1 ⟨rfl, n, rfl⟩
  go_wp2_with fail
  go_ret3
  exact ⟨rfl, n, rfl⟩
end Go.Proofs.YtdmhkhnnomdkcaaGreatDoor

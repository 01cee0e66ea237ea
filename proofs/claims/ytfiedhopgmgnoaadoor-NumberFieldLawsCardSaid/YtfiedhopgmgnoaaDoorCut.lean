/- strings.Cut at a separator of one byte. -/
import Derived.Test.YtfiedhopgmgnoaaDoorBase
import Derived.Test.YtfiedhopgmgnoaaDoorShelf
namespace Go.Proofs.YtfiedhopgmgnoaaDoor
open Go.RowKit NumB
set_option linter.unusedVariables false
set_option linter.unusedSimpArgs false

/-- What stands before and behind the first c. -/
def cutB (l : List UInt8) (c : UInt8) : List UInt8 × List UInt8 × Bool :=
  if 0 ≤ Lib.indexByte l c then (l.take (Lib.indexByte l c).toNat, l.drop ((Lib.indexByte l c).toNat + 1), true) else (l, [], false)

theorem ba_eq {s : ByteArray} {l : List UInt8} (h : s.data.toList = l) : s = ⟨l.toArray⟩ := by subst h; cases s; simp
theorem extract_head (s : ByteArray) (k : Nat) : (s.extract 0 k).data.toList = s.data.toList.take k := by rw [Lib.extract_data]; simp
theorem indexByte_lt (l : List UInt8) (c : UInt8) : -1 ≤ Lib.indexByte l c ∧ Lib.indexByte l c < l.length := by
  induction l with
  | nil => simp [Lib.indexByte]
  | cons b l ih =>
    unfold Lib.indexByte
    split
    · simp
    · split
      · simp; omega
      · rename_i h; simp at h; simp; omega

set_option maxRecDepth 1000000 in
set_option maxHeartbeats 3200000 in
theorem index1_any (s : ByteArray) (c : UInt8) (w : World) :
    Calls Tryd.prog 96 #[.string s, .string ⟨#[c]⟩] w fun e w' => e = .returned (.int .i64 (Lib.indexByte s.data.toList c)) ∧ w = w' := by
  have hci := Tryd.stringslite_IndexByte s (c.toNat : Int) w
  rw [show ((c.toNat : Int)).toNat.toUInt8 = c by simp] at hci
  have HC := Lib.hid hci
  clear hci
  by_cases hs : s.data.toList = [c]
  · have E : Hid (Lib.indexByte s.data.toList c = 0) := by unfold Hid; rw [hs]; simp [Lib.indexByte]
    have hq : ([c] == s.toList) = true := by rw [Lib.toList_data, hs]; simp
    clear HC hs
    go_enter Tryd.func96, Tryd.ntmps96
    go_wp2_with fail
    go_ret
    rw [E.out]
    exact ⟨rfl, rfl⟩
  · have hq : ([c] == s.toList) = false := by rw [Lib.toList_data]; exact beq_eq_false_iff_ne.2 (fun e => hs e.symm)
    generalize hz : Lib.indexByte s.data.toList c = z at *
    clear hs hz
    go_enter Tryd.func96, Tryd.ntmps96
    go_wp2_with fail
    refine HC.out.mono ?_
    rintro e w1 ⟨rfl, rfl⟩
    go_wp2_with fail
    go_ret
    exact ⟨rfl, rfl⟩

set_option maxRecDepth 100000 in
set_option maxHeartbeats 1600000 in
theorem cutL_any (s : ByteArray) (c : UInt8) (w : World) (hs : s.size ≤ 1000000) :
    Calls Tryd.prog 72 #[.string s, .string ⟨#[c]⟩] w fun e w' => e = .returned (.tuple #[.string ⟨(cutB s.data.toList c).1.toArray⟩, .string ⟨(cutB s.data.toList c).2.1.toArray⟩, .bool (cutB s.data.toList c).2.2]) ∧ ∃ n, w' = w.drewN n := by
  have HI := Lib.hid (index1_any s c w)
  have hb := indexByte_lt s.data.toList c
  have hsz := Lib.size_eq s
  generalize hz : Lib.indexByte s.data.toList c = z at *
  have HZ := Lib.hid hz
  by_cases h0 : 0 ≤ z
  · obtain ⟨k, rfl⟩ := Int.eq_ofNat_of_zero_le h0
    have E : Hid (cutB s.data.toList c = (s.data.toList.take k, s.data.toList.drop (k + 1), true)) := by unfold Hid cutB; rw [HZ.out, if_pos h0]; rfl
    have hk : k < s.size := by omega
    have hk1 : IntKind.i64.wrap ((k : Int) + 1) = (k : Int) + 1 := by rw [IntKind.wrap_i64]; omega
    have hk2 : (k : Int) ≤ (s.size : Int) := by omega
    have hk3 : (k : Int) + 1 ≤ (s.size : Int) := by omega
    have hk4 : (0 : Int) ≤ (k : Int) := by omega
    have hk5 : (0 : Int) ≤ (k : Int) + 1 := by omega
    have hk6 : ((k : Int) + 1).toNat = k + 1 := by omega
    clear hb hz hsz h0
    go_enter Tryd.func72, Tryd.ntmps72
    go_wp2_with fail
    refine HI.out.mono ?_
    rintro e w1 ⟨rfl, rfl⟩
    go_wp2_with fail
    go_quiet (fail)
    go_wp2_with fail
    go_ret3
    rw [E.out]
    refine ⟨?_, _, rfl⟩
    show Ending.returned (.tuple #[.string (s.extract 0 k), .string (s.extract (k + 1) s.size), .bool true]) = _
    rw [ba_eq (extract_head s k), ba_eq (Lib.extract_to_end s (k + 1))]
  · have E : Hid (cutB s.data.toList c = (s.data.toList, [], false)) := by unfold Hid cutB; rw [HZ.out, if_neg h0]
    have h1 : z < 0 := by omega
    clear hb hz hsz h0
    go_enter Tryd.func72, Tryd.ntmps72
    go_wp2_with fail
    refine HI.out.mono ?_
    rintro e w1 ⟨rfl, rfl⟩
    go_wp2_with fail
    go_ret3
    rw [E.out]
    exact ⟨rfl, 0, rfl⟩
theorem cut_any (s : ByteArray) (c : UInt8) (w : World) (hs : s.size ≤ 1000000) :
    Calls Tryd.prog 33 #[.string s, .string ⟨#[c]⟩] w fun e w' => e = .returned (.tuple #[.string ⟨(cutB s.data.toList c).1.toArray⟩, .string ⟨(cutB s.data.toList c).2.1.toArray⟩, .bool (cutB s.data.toList c).2.2]) ∧ ∃ n, w' = w.drewN n := by
  have HC := Lib.hid (cutL_any s c w hs)
  generalize (cutB s.data.toList c).1 = a at *
  generalize (cutB s.data.toList c).2.1 = b at *
  generalize (cutB s.data.toList c).2.2 = d at *
  go_enter Tryd.func33, Tryd.ntmps33
  go_wp2_with fail
  refine HC.out.mono ?_
  rintro e w1 ⟨rfl, n, rfl⟩
  go_wp2_with fail
  go_ret3
  exact ⟨rfl, n, rfl⟩
end Go.Proofs.YtfiedhopgmgnoaaDoor

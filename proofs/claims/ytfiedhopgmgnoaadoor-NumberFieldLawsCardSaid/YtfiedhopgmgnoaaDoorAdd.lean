/- nat.Add: the sum of several numbers. Conditions: the sum has at most 100000 limbs. -/
import Derived.Test.YtfiedhopgmgnoaaDoorPlus
namespace Go.Proofs.YtfiedhopgmgnoaaDoor
open Go.RowKit NumB
set_option linter.unusedVariables false
set_option linter.unusedSimpArgs false

theorem sum_take_succ (ns : List Nat) (j : Nat) (h : j < ns.length) : (ns.take (j + 1)).sum = (ns.take j).sum + ns.getD j 0 := by
  rw [List.take_succ_eq_append_getElem h, List.sum_append, getD_lt h]; simp
theorem sum_take_le (ns : List Nat) (j : Nat) : (ns.take j).sum ≤ ns.sum := by
  have h := congrArg List.sum (List.take_append_drop j ns)
  rw [List.sum_append] at h
  omega
theorem getD_le_sum (ns : List Nat) (j : Nat) : ns.getD j 0 ≤ ns.sum := by
  rcases Nat.lt_or_ge j ns.length with h | h
  · have h1 := sum_take_succ ns j h
    have h2 := sum_take_le ns (j + 1)
    omega
  · rw [getD_ge h]; exact Nat.zero_le _

/-- A slice of slices, each of which reads as a number. -/
def Nats (w : World) (b o : Nat) (ns : List Nat) : Prop := b < w.heap.size ∧ ∀ i, i < ns.length → ∃ v, w.cell? ⟨b, o + i, none⟩ = some v ∧ Nat32 w v (ns.getD i 0)

set_option maxRecDepth 100000 in
set_option maxHeartbeats 1600000 in
theorem add_any (ns : List Nat) (b o k c : Nat) (w : World) (hk : ns.length = k) (hN : Nats w b o ns) (hs : (digs W32 ns.sum).length ≤ 100000) (hkb : k ≤ 1000) :
    Calls Tryd.prog 105 #[.slice (some ⟨b, o, none⟩) k c] w (NPost w ns.sum) := by
  have HN := Lib.hid hN
  have HK := Lib.hid hk
  clear hN hk
  go_enter Tryd.func105, Tryd.ntmps105
  go_wp2
  go_loopg [8, 3, 5] k (fun gk si so sa wr => ∃ j : Nat, gk + j = k ∧ si = .int .i64 (j : Int) ∧ Hid (Nat32 wr so (ns.take j).sum) ∧ Hid (Below w.heap.size w wr))
  case atStart => exact ⟨0, by omega, rfl, nat32_zero _, Below.refl _ _⟩
  case round =>
    obtain ⟨j, hgj, rfl, HS, HB⟩ := hrel
    by_cases hj : j < k
    · obtain ⟨v, hv, hnv⟩ := HN.out.2 j (by rw [HK.out]; exact hj)
      have hcell : wr.cell? ⟨b, o + j, none⟩ = some v := (HB.out.cell HN.out.1).trans hv
      obtain ⟨Av, cv, rfl, hcv, hmv, hrv⟩ := id hnv
      have HV := Lib.hid (hnv.to HB.out)
      have h1 : (digs W32 (ns.take j).sum).length ≤ 100000 := Nat.le_trans (digs_len_mono W32_gt (sum_take_le ns j)) hs
      have h2 : (digs W32 (ns.getD j 0)).length ≤ 100000 := Nat.le_trans (digs_len_mono W32_gt (getD_le_sum ns j)) hs
      have HL := Lib.hid (And.intro h1 h2)
      clear hv hnv hcv hmv hrv h1 h2
      go_wp2_with fail
      refine (plus_any _ _ _ _ _ HS.out HV.out HL.out.1 HL.out.2).mono ?_
      rintro e w2 ⟨v2, rfl, hn2, hb2⟩
      rw [← sum_take_succ ns j (by rw [HK.out]; exact hj)] at hn2
      have HN2 := Lib.hid hn2
      have HB2 := Lib.hid hb2
      clear hn2 hb2
      go_wp2
      go_roundg (gk - 1)
      case measure => omega
      case rel => exact ⟨j + 1, by omega, by go_num, HN2.out, HB.out.trans (HB2.out.mono HB.out.size)⟩
    · obtain rfl : j = k := by omega
      clear hgj hj
      go_wp2
      go_ret
      have hs := HS.out
      rw [List.take_of_length_le (by rw [HK.out]; exact Nat.le_refl _)] at hs
      exact ⟨_, rfl, hs, HB.out⟩
end Go.Proofs.YtfiedhopgmgnoaaDoor

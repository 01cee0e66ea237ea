/- nat.Trim: the limbs without last zeros. Conditions: none. -/
import Derived.Test.YtfiedhopgmgnoaaDoorBase
namespace Go.Proofs.YtfiedhopgmgnoaaDoor
open Go.RowKit NumB

theorem trim_end {xs : List Nat} {g : Nat} (ho : Ok W32 xs) (hg : g ≤ xs.length) (hv : val W32 (xs.take g) = val W32 xs) (hl : g = 0 ∨ xs.getD (g - 1) 0 ≠ 0) : xs.take g = digs W32 (val W32 xs) := by
  refine (digs_eq W32_gt (ho.take g) (top_of_last ?_) hv).symm
  have hlen : (xs.take g).length = g := by rw [List.length_take]; omega
  rcases hl with rfl | hl
  · left; rfl
  · rcases Nat.eq_zero_or_pos g with rfl | h0
    · left; rfl
    · right
      rw [hlen, List.getD_eq_getElem?_getD, List.getElem?_take, if_pos (by omega), ← List.getD_eq_getElem?_getD]
      exact hl

set_option maxHeartbeats 400000 in
theorem trim_any (xs : List Nat) (A : Option Addr) (n c : Nat) (w : World) (B : Nat) (hr : Rd .u32 w B A n xs) (ho : Ok W32 xs) (hc : n ≤ c) (hm : c ≤ maxLen) :
    Calls Tryd.prog 92 #[.slice A n c] w fun e w' => ∃ m, e = .returned (.slice A m c) ∧ m ≤ n ∧ xs.take m = digs W32 (val W32 xs) ∧ w = w' := by
  unfold maxLen at hm
  have HL := Lib.hid hr.1
  have HR := Lib.hid hr.2
  clear hr
  have HO := Lib.hid ho
  clear ho
  go_enter Tryd.func92, Tryd.ntmps92
  go_wp2
  go_loopg [0] n (fun g v wr => g ≤ n ∧ v = .slice A g c ∧ Hid (val W32 (xs.take g) = val W32 xs) ∧ w = wr)
  case atStart => exact ⟨Nat.le_refl _, rfl, by rw [← HL.out, List.take_length]; rfl, rfl⟩
  case round =>
    obtain ⟨hg, rfl, HV, rfl⟩ := hrel
    by_cases h0 : 0 < gk
    · obtain ⟨b, o, rfl, hb, hcell⟩ := HR.out (by omega)
      have hx := hcell (gk - 1) (by omega)
      clear hcell
      generalize hxe : xs.getD (gk - 1) 0 = x at hx
      have HX := Lib.hid hxe
      clear hxe
      by_cases hz : x = 0
      · subst hz
        go_wp2
        go_roundg (gk - 1)
        case measure => omega
        case rel =>
          refine ⟨by omega, rfl, ?_, rfl⟩
          have h := val_take_succ W32 xs (gk - 1)
          rw [show gk - 1 + 1 = gk from by omega, HX.out, Nat.mul_zero, Nat.add_zero] at h
          exact h.symm.trans HV.out
      · have HZ := Lib.hid hz
        have hne : ((x : Int) == 0) = false := beq_eq_false_iff_ne.2 (by omega)
        clear hz
        go_wp2
        go_ret
        exact ⟨gk, rfl, hg, trim_end HO.out (by rw [HL.out]; exact hg) HV.out (.inr (by rw [HX.out]; exact HZ.out)), rfl⟩
    · go_wp2
      go_ret
      exact ⟨gk, rfl, hg, trim_end HO.out (by rw [HL.out]; exact hg) HV.out (.inl (by omega)), rfl⟩
end Go.Proofs.YtfiedhopgmgnoaaDoor

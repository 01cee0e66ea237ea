/- slices.Clone at []uint32: a copy that the call owns. Conditions: at most a million limbs. -/
import Derived.Test.YtfiedhopgmgnoaaDoorDivSmall
namespace Go.Proofs.YtfiedhopgmgnoaaDoor
open Go.RowKit NumB
set_option linter.unusedVariables false
set_option linter.unusedSimpArgs false

set_option maxRecDepth 100000 in
set_option maxHeartbeats 400000 in
theorem clone_any (xs : List Nat) (va : Value) (w : World) (ha : Sl .u32 w va xs) (hn : xs.length ≤ 1000000) :
    Calls Tryd.prog 94 #[va] w fun e w' => ∃ v, e = .returned v ∧ OwnV .u32 56 w' w.heap.size v xs ∧ Below w.heap.size w w' := by
  obtain ⟨A, c, rfl, hc, hm, hr⟩ := ha
  unfold maxLen at hm
  have heq := fun W => Lib.run_eql_slice_nil (P := Tryd.prog) W 22 56 A xs.length c 0 0 Tryd.underlying22
  rcases A with _ | ad
  · have hx : xs = [] := by
      rcases Nat.eq_zero_or_pos xs.length with h | h
      · exact List.eq_nil_of_length_eq_zero h
      · obtain ⟨_, _, e, _⟩ := hr.2 h; cases e
    subst hx
    clear hr hn heq
    have heq := fun W => Lib.run_eql_slice_nil (P := Tryd.prog) W 22 56 none 0 c 0 0 Tryd.underlying22
    have hc0 : (0 : Nat) ≤ c := hc
    clear hc
    show Calls _ _ #[.slice none 0 c] _ _
    go_enter Tryd.func94, Tryd.ntmps94
    go_wp2
    go_ret
    exact ⟨_, rfl, OwnV.nil_ _, Below.refl _ _⟩
  · obtain ⟨i0, hi0, hz0, hz1, hz2⟩ := info_parts info_u32
    have HI := Lib.hid hi0
    have HZ0 := Lib.hid hz0
    have HZ1 := Lib.hid hz1
    have HZ2 := Lib.hid hz2
    clear hi0 hz0 hz1 hz2
    have HR := Lib.hid hr
    clear hr
    generalize hxl : xs.length = n at *
    have HL := Lib.hid hxl
    clear hxl
    go_enter Tryd.func94, Tryd.ntmps94
    go_wp2_with (at_builtin; refine wpList_append_own_at _ rfl _ _ 22 rfl w.heap.size 56 i0 (.int .u32 0) 1 4 Tryd.underlying22 HI.out HZ0.out HZ1.out HZ2.out rfl (by decide) (.slice (some ⟨w.heap.size, 0, none⟩) 0 0) 0 [] rfl (World.ownsRow_lit w #[] 0 (Nat.le_refl _) (by unfold maxLen; omega) rfl) ad n c (cellsN .u32 xs) rfl (by rw [cellsN_len, HL.out]; omega) (rd_news ((HR.out.below ((Below.refl _ _).alloc (Nat.le_refl _) _)))) cellsN_one (by unfold maxLen; omega) (by omega) (by simp) ?_; intro v1 w1 hown1 hg1 hnil1 hat1)
    go_ret
    refine ⟨v1, rfl, ?_, ?_⟩
    · unfold OwnV; rw [HL.out]; simpa using hown1
    · exact ((Below.refl _ _).alloc (Nat.le_refl _) _).grown hg1 (by simp) (fun k hk => by simp [Value.ownBlock] at hk; omega)
end Go.Proofs.YtfiedhopgmgnoaaDoor

/- nat.Of: a number of 64 bits as limbs. Conditions: none. -/
import Derived.Test.YtfiedhopgmgnoaaDoorClone
namespace Go.Proofs.YtfiedhopgmgnoaaDoor
open Go.RowKit NumB
set_option linter.unusedVariables false
set_option linter.unusedSimpArgs false

theorem own_two (w : World) (p q : Nat) : Own .u32 56 (w.alloc (.cells #[.int .u32 (p : Int), .int .u32 (q : Int)] 56)) w.heap.size w.heap.size 2 2 [p, q] :=
  ⟨rfl, World.ownsRow_lit w #[.int .u32 (p : Int), .int .u32 (q : Int)] 2 (Nat.le_refl _) (by unfold maxLen; omega) rfl⟩

theorem of_cast (x : Nat) : (x : Int) % 4294967296 = ((x % 4294967296 : Nat) : Int) ∧ (x : Int) / 4294967296 = ((x / 4294967296 : Nat) : Int) := by omega

set_option maxRecDepth 100000 in
set_option maxHeartbeats 400000 in
theorem of_any (x : Nat) (w : World) (hx : x < 18446744073709551616) :
    Calls Tryd.prog 64 #[.int .u64 (x : Int)] w fun e w' => ∃ v, e = .returned v ∧ Nat32 w' v x ∧ Below w.heap.size w w' := by
  have hp : x % 4294967296 < 4294967296 := by omega
  have hq : x / 4294967296 < 4294967296 := by omega
  have HV : Hid (val W32 [x % 4294967296, x / 4294967296] = x) := by
    show x % 4294967296 + 4294967296 * (x / 4294967296 + 4294967296 * 0) = x
    omega
  go_enter Tryd.func64, Tryd.ntmps64
  go_wp2_with fail
  rw [(of_cast x).1, (of_cast x).2]
  generalize x % 4294967296 = p at *
  generalize x / 4294967296 = q at *
  refine (trim_any [p, q] _ 2 2 _ _ (own_two w p q).rd (Ok.cons hp (Ok.cons hq Ok.nil)) (Nat.le_refl _) (by unfold maxLen; omega)).mono ?_
  rintro e w' ⟨m, rfl, hm, ht, rfl⟩
  rw [HV.out] at ht
  have HT := Lib.hid ht
  clear ht
  go_wp2
  go_ret
  exact ⟨_, rfl, Sl.of_rd (own_two w p q).rd hm (Nat.le_refl _) (by unfold maxLen; omega) HT.out, (Below.refl _ _).alloc (Nat.le_refl _) _⟩
end Go.Proofs.YtfiedhopgmgnoaaDoor

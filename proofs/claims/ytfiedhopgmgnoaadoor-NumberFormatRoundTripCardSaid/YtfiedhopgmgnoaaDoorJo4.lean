/- nat.DivSmall: quotient and remainder by a limb. Conditions: at most a million limbs. slices.Clone at []uint32: a copy that the call owns. Conditions: at most a million limbs. nat.Of: a number of 64 bits as limbs. Conditions: none. -/
import Derived.Test.YtfiedhopgmgnoaaDoorJo2
set_option linter.unusedVariables false
set_option linter.unusedSimpArgs false
namespace Go.Proofs.YtfiedhopgmgnoaaDoor
open Go.RowKit NumB
set_option linter.unusedVariables false
set_option linter.unusedSimpArgs false

theorem div_facts (rest x d : Nat) (hr : rest < d) (hd2 : d < 4294967296) (hx : x < 4294967296) :
    ∃ q r : Nat, (((rest : Int) * 4294967296 + x) / (d : Int) = (q : Int)) ∧ (((rest : Int) * 4294967296 + x) % (d : Int) = (r : Int)) ∧ q < 4294967296 ∧ r < d ∧ rest * 4294967296 + x = d * q + r := by
  refine ⟨(rest * 4294967296 + x) / d, (rest * 4294967296 + x) % d, ?_, ?_, ?_, Nat.mod_lt _ (by omega), (Nat.div_add_mod _ _).symm⟩
  · rw [Int.natCast_ediv, castW]
  · rw [Int.natCast_emod, castW]
  · rw [Nat.div_lt_iff_lt_mul (by omega)]
    have : (rest + 1) * 4294967296 ≤ d * 4294967296 := Nat.mul_le_mul_right _ (by omega)
    omega

theorem divSmall_step {xs out : List Nat} {j x d rest q r : Nat} (hj : 0 < j) (hl : j ≤ out.length) (hx : xs.getD (j - 1) 0 = x) (hjx : j ≤ xs.length) (hv : val W32 (xs.drop j) = d * val W32 (out.drop j) + rest)
    (he : rest * 4294967296 + x = d * q + r) : val W32 (xs.drop (j - 1)) = d * val W32 ((out.set (j - 1) q).drop (j - 1)) + r := by
  have e1 : xs.drop (j - 1) = x :: xs.drop j := by
    rw [List.drop_eq_getElem_cons (by omega), ← getD_lt (by omega), hx, Nat.sub_add_cancel hj]
  have e2 : (out.set (j - 1) q).drop (j - 1) = q :: out.drop j := by
    rw [List.drop_eq_getElem_cons (by simp; omega), Nat.sub_add_cancel hj]
    simp [List.drop_set]
    omega
  rw [e1, e2, val_cons, val_cons, hv]
  have : W32 = 4294967296 := rfl
  rw [this, Nat.mul_add, Nat.mul_add, Nat.mul_left_comm]
  omega

theorem info_u32 : (Tryd.prog.info? 56).map (fun i => (i.zero, i.size, i.bytes)) = some (some (.int .u32 0), 1, 4) := by kernel_rfl

set_option maxRecDepth 100000 in
set_option maxHeartbeats 400000 in
theorem divSmall_any (xs : List Nat) (A : Option Addr) (n c d : Nat) (w : World) (hr : Rd .u32 w w.heap.size A n xs) (ho : Ok W32 xs) (hc : n ≤ c) (hm : c ≤ maxLen) (hn : n ≤ 1000000) (hd : 0 < d) (hd2 : d < 4294967296) :
    Calls Tryd.prog 69 #[.slice A n c, .int .u32 (d : Int)] w fun e w' => ∃ v, e = .returned (.tuple #[v, .int .u32 ((val W32 xs % d : Nat) : Int)]) ∧ Nat32 w' v (val W32 xs / d) ∧ Below w.heap.size w w' := by
  unfold maxLen at hm
  have HR := Lib.hid hr
  clear hr
  have HO := Lib.hid ho
  clear ho
  obtain ⟨i0, hi0, hz0, hz1, hz2⟩ := info_parts info_u32
  have HI := Lib.hid hi0
  have HZ0 := Lib.hid hz0
  have HZ1 := Lib.hid hz1
  have HZ2 := Lib.hid hz2
  clear hi0 hz0 hz1 hz2
  go_enter Tryd.func69, Tryd.ntmps69
  go_wp2_with (at_make; refine wpList_make_full _ rfl _ _ 22 rfl w.heap.size 56 i0 (.int .u32 0) 1 Tryd.underlying22 HI.out HZ0.out HZ1.out .i64 .i64 _ _ n rfl rfl rfl rfl (by rw [HZ2.out]; omega) (by unfold maxLen; omega) (Nat.le_refl _) ?_; intro w1 hown1 hg1)
  have HOW := Lib.hid (Own.made hown1)
  have HB := Lib.hid ((Below.refl w.heap.size w).grown hg1 (Nat.le_refl _) (by simp))
  clear hown1 hg1
  go_loopg [7, 8] (n + 1) (fun g r i wr => ∃ (j : Nat) (rest : Nat) (out : List Nat), g = j + 1 ∧ j ≤ n ∧ i = .int .i64 ((j : Int) - 1) ∧ r = .int .u64 (rest : Int) ∧ rest < d ∧ Hid (Own .u32 56 wr w.heap.size w.heap.size n n out) ∧ Hid (Below w.heap.size w wr) ∧ Hid (val W32 (xs.drop j) = d * val W32 (out.drop j) + rest) ∧ Hid (Ok W32 out))
  case atStart => exact ⟨n, 0, _, rfl, Nat.le_refl _, rfl, rfl, hd, HOW.out, HB.out, by rw [← HR.out.1, List.drop_length, List.drop_eq_nil_of_le (by simp)]; rfl, ok_replicate (by decide)⟩
  case round =>
    obtain ⟨j, rest, out, rfl, hj, rfl, rfl, hrest, HOw, HBw, HV, HOo⟩ := hrel
    by_cases h0 : 0 < j
    · obtain ⟨b, o, x, rfl, hb, hxe, hcell⟩ := (HR.out.below HBw.out).at_ (i := j - 1) (by omega)
      have hx : x < 4294967296 := by rw [← hxe]; exact HO.out.getD (by decide) _
      have HX := Lib.hid hxe
      clear hxe
      obtain ⟨y, hy⟩ : ∃ y : Nat, wr.cell? ⟨w.heap.size, j - 1, none⟩ = some (.int .u32 (y : Int)) := ⟨_, HOw.out.cell (by omega)⟩
      have hf := HOw.out.frozen (j - 1)
      have hor := u64_or_shift rest x (by omega) hx
      obtain ⟨q, r, hq, hr', hqb, hrd, he⟩ := div_facts rest x d hrest hd2 hx
      have HE := Lib.hid he
      clear he
      go_wp2
      go_roundg j
      case measure => omega
      case rel =>
        refine ⟨j - 1, r, out.set (j - 1) q, by omega, by omega, ?_, congrArg (Value.int .u64) hr', hrd, (HOw.out.stored _ _), HBw.out.setCell (Nat.le_refl _) _, ?_, HOo.out.set hqb⟩
        · congr 1; omega
        · exact divSmall_step h0 (by rw [HOw.out.1]; exact hj) HX.out (by rw [HR.out.1]; exact hj) HV.out HE.out
    · obtain rfl : j = 0 := by omega
      go_wp2_with (go_at_call 92; refine (trim_any out _ n n _ _ HOw.out.rd HOo.out (Nat.le_refl _) (by unfold maxLen; omega)).mono ?_; rintro e w' ⟨m, rfl, hm', ht, rfl⟩)
      go_ret2
      have hv := HV.out
      rw [List.drop_zero, List.drop_zero] at hv
      have e1 : val W32 xs / d = val W32 out := by rw [hv, Nat.mul_add_div hd, Nat.div_eq_of_lt hrest, Nat.add_zero]
      have e2 : val W32 xs % d = rest := by rw [hv, Nat.mul_add_mod, Nat.mod_eq_of_lt hrest]
      rw [e1, e2]
      exact ⟨_, rfl, Sl.of_rd HOw.out.rd hm' (Nat.le_refl _) (by unfold maxLen; omega) ht, HBw.out⟩

theorem divSmall_nat (x d : Nat) (va : Value) (w : World) (ha : Nat32 w va x) (hn : (digs W32 x).length ≤ 1000000) (hd : 0 < d) (hd2 : d < 4294967296) :
    Calls Tryd.prog 69 #[va, .int .u32 (d : Int)] w fun e w' => ∃ v, e = .returned (.tuple #[v, .int .u32 ((x % d : Nat) : Int)]) ∧ Nat32 w' v (x / d) ∧ Below w.heap.size w w' := by
  obtain ⟨A, c, rfl, hc, hm, hr⟩ := ha
  have h := divSmall_any (digs W32 x) A _ c d w hr (ok_digs W32_gt x) hc hm hn hd hd2
  rw [val_digs W32_gt] at h
  exact h
end Go.Proofs.YtfiedhopgmgnoaaDoor
namespace Go.Proofs.YtfiedhopgmgnoaaDoor
open Go.RowKit NumB
set_option linter.unusedVariables false
set_option linter.unusedSimpArgs false

set_option maxRecDepth 100000 in
set_option maxHeartbeats 400000 in
theorem clone_any (xs : List Nat) (va : Value) (w : World) (ha : Sl .u32 w va xs) (hn : xs.length ≤ 1000000) :
    Calls Tryd.prog 94 #[va] w fun e w' => ∃ v, e = .returned v ∧ OwnV .u32 56 w' w.heap.size v xs ∧ Below w.heap.size w w' := by
  obtain ⟨A, c, rfl, hc, hm, hr⟩ := ha
  unfold maxLen at hm
  have heq := fun W => Lib.run_eql_slice_nil (P := Tryd.prog) W 22 56 A xs.length c 0 0 Tryd.underlying22
  rcases A with _ | ad
  · have hx : xs = [] := by
      rcases Nat.eq_zero_or_pos xs.length with h | h
      · exact List.eq_nil_of_length_eq_zero h
      · obtain ⟨_, _, e, _⟩ := hr.2 h; cases e
    subst hx
    clear hr hn heq
    have heq := fun W => Lib.run_eql_slice_nil (P := Tryd.prog) W 22 56 none 0 c 0 0 Tryd.underlying22
    have hc0 : (0 : Nat) ≤ c := hc
    clear hc
    show Calls _ _ #[.slice none 0 c] _ _
    go_enter Tryd.func94, Tryd.ntmps94
    go_wp2
    go_ret
    exact ⟨_, rfl, OwnV.nil_ _, Below.refl _ _⟩
  · obtain ⟨i0, hi0, hz0, hz1, hz2⟩ := info_parts info_u32
    have HI := Lib.hid hi0
    have HZ0 := Lib.hid hz0
    have HZ1 := Lib.hid hz1
    have HZ2 := Lib.hid hz2
    clear hi0 hz0 hz1 hz2
    have HR := Lib.hid hr
    clear hr
    generalize hxl : xs.length = n at *
    have HL := Lib.hid hxl
    clear hxl
    go_enter Tryd.func94, Tryd.ntmps94
    go_wp2_with (at_builtin; refine wpList_append_own_at _ rfl _ _ 22 rfl w.heap.size 56 i0 (.int .u32 0) 1 4 Tryd.underlying22 HI.out HZ0.out HZ1.out HZ2.out rfl (by decide) (.slice (some ⟨w.heap.size, 0, none⟩) 0 0) 0 [] rfl (World.ownsRow_lit w #[] 0 (Nat.le_refl _) (by unfold maxLen; omega) rfl) ad n c (cellsN .u32 xs) rfl (by rw [cellsN_len, HL.out]; omega) (rd_news ((HR.out.below ((Below.refl _ _).alloc (Nat.le_refl _) _)))) cellsN_one (by unfold maxLen; omega) (by omega) (by simp) ?_; intro v1 w1 hown1 hg1 hnil1 hat1)
    go_ret
    refine ⟨v1, rfl, ?_, ?_⟩
    · unfold OwnV; rw [HL.out]; simpa using hown1
    · exact ((Below.refl _ _).alloc (Nat.le_refl _) _).grown hg1 (by simp) (fun k hk => by simp [Value.ownBlock] at hk; omega)
end Go.Proofs.YtfiedhopgmgnoaaDoor
namespace Go.Proofs.YtfiedhopgmgnoaaDoor
open Go.RowKit NumB
set_option linter.unusedVariables false
set_option linter.unusedSimpArgs false

theorem own_two (w : World) (p q : Nat) : Own .u32 56 (w.alloc (.cells #[.int .u32 (p : Int), .int .u32 (q : Int)] 56)) w.heap.size w.heap.size 2 2 [p, q] :=
  ⟨rfl, World.ownsRow_lit w #[.int .u32 (p : Int), .int .u32 (q : Int)] 2 (Nat.le_refl _) (by unfold maxLen; omega) rfl⟩

theorem of_cast (x : Nat) : (x : Int) % 4294967296 = ((x % 4294967296 : Nat) : Int) ∧ (x : Int) / 4294967296 = ((x / 4294967296 : Nat) : Int) := by omega

set_option maxRecDepth 100000 in
set_option maxHeartbeats 400000 in
theorem of_any (x : Nat) (w : World) (hx : x < 18446744073709551616) :
    Calls Tryd.prog 64 #[.int .u64 (x : Int)] w fun e w' => ∃ v, e = .returned v ∧ Nat32 w' v x ∧ Below w.heap.size w w' := by
  have hp : x % 4294967296 < 4294967296 := by omega
  have hq : x / 4294967296 < 4294967296 := by omega
  have HV : Hid (val W32 [x % 4294967296, x / 4294967296] = x) := by
    show x % 4294967296 + 4294967296 * (x / 4294967296 + 4294967296 * 0) = x
    omega
  go_enter Tryd.func64, Tryd.ntmps64
  go_wp2_with fail
  rw [(of_cast x).1, (of_cast x).2]
  generalize x % 4294967296 = p at *
  generalize x / 4294967296 = q at *
  refine (trim_any [p, q] _ 2 2 _ _ (own_two w p q).rd (Ok.cons hp (Ok.cons hq Ok.nil)) (Nat.le_refl _) (by unfold maxLen; omega)).mono ?_
  rintro e w' ⟨m, rfl, hm, ht, rfl⟩
  rw [HV.out] at ht
  have HT := Lib.hid ht
  clear ht
  go_wp2
  go_ret
  exact ⟨_, rfl, Sl.of_rd (own_two w p q).rd hm (Nat.le_refl _) (by unfold maxLen; omega) HT.out, (Below.refl _ _).alloc (Nat.le_refl _) _⟩
end Go.Proofs.YtfiedhopgmgnoaaDoor

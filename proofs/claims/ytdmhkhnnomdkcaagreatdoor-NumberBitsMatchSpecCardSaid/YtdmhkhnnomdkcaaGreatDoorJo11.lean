/-  -/
import Derived.Test.YtdmhkhnnomdkcaaGreatDoorJo3
import Derived.Test.YtdmhkhnnomdkcaaGreatDoorJo10
set_option linter.unusedVariables false
set_option linter.unusedSimpArgs false
/- nat.DivSmall once more: where its quotient lies; append of numbers, what else it leaves. -/
namespace Go.Proofs.YtdmhkhnnomdkcaaGreatDoor
open Go.RowKit NumB
set_option linter.unusedVariables false
set_option linter.unusedSimpArgs false

set_option maxRecDepth 100000 in
set_option maxHeartbeats 400000 in
theorem divSmall_own (xs : List Nat) (A : Option Addr) (n c d : Nat) (w : World) (hr : Rd .u32 w w.heap.size A n xs) (ho : Ok W32 xs) (hc : n ≤ c) (hm : c ≤ maxLen) (hn : n ≤ 1000000) (hd : 0 < d) (hd2 : d < 4294967296) :
    Calls Tryz.prog 73 #[.slice A n c, .int .u32 (d : Int)] w fun e w' => ∃ m c' : Nat, e = .returned (.tuple #[.slice (some ⟨w.heap.size, 0, none⟩) m c', .int .u32 ((val W32 xs % d : Nat) : Int)]) ∧ Nat32 w' (.slice (some ⟨w.heap.size, 0, none⟩) m c') (val W32 xs / d) ∧ Below w.heap.size w w' := by
  unfold maxLen at hm
  have HR := Lib.hid hr
  clear hr
  have HO := Lib.hid ho
  clear ho
  obtain ⟨i0, hi0, hz0, hz1, hz2⟩ := info_parts info_u32
  have HI := Lib.hid hi0
  have HZ0 := Lib.hid hz0
  have HZ1 := Lib.hid hz1
  have HZ2 := Lib.hid hz2
  clear hi0 hz0 hz1 hz2
  go_enter Tryz.func73, Tryz.ntmps73
  go_wp2_with (at_make; refine wpList_make_full _ rfl _ _ 22 rfl w.heap.size 35 i0 (.int .u32 0) 1 Tryz.underlying22 HI.out HZ0.out HZ1.out .i64 .i64 _ _ n rfl rfl rfl rfl (by rw [HZ2.out]; omega) (by unfold maxLen; omega) (Nat.le_refl _) ?_; intro w1 hown1 hg1)
  have HOW := Lib.hid (Own.made hown1)
  have HB := Lib.hid ((Below.refl w.heap.size w).grown hg1 (Nat.le_refl _) (by simp))
  clear hown1 hg1
  go_loopg [7, 8] (n + 1) (fun g r i wr => ∃ (j : Nat) (rest : Nat) (out : List Nat), g = j + 1 ∧ j ≤ n ∧ i = .int .i64 ((j : Int) - 1) ∧ r = .int .u64 (rest : Int) ∧ rest < d ∧ Hid (Own .u32 35 wr w.heap.size w.heap.size n n out) ∧ Hid (Below w.heap.size w wr) ∧ Hid (val W32 (xs.drop j) = d * val W32 (out.drop j) + rest) ∧ Hid (Ok W32 out))
  case atStart => exact ⟨n, 0, _, rfl, Nat.le_refl _, rfl, rfl, hd, HOW.out, HB.out, by rw [← HR.out.1, List.drop_length, List.drop_eq_nil_of_le (by simp)]; rfl, ok_replicate (by decide)⟩
  case round =>
    obtain ⟨j, rest, out, rfl, hj, rfl, rfl, hrest, HOw, HBw, HV, HOo⟩ := hrel
    by_cases h0 : 0 < j
    · obtain ⟨b, o, x, rfl, hb, hxe, hcell⟩ := (HR.out.below HBw.out).at_ (i := j - 1) (by omega)
      have hx : x < 4294967296 := by rw [← hxe]; exact HO.out.getD (by decide) _
      have HX := Lib.hid hxe
      clear hxe
      obtain ⟨y, hy⟩ : ∃ y : Nat, wr.cell? ⟨w.heap.size, j - 1, none⟩ = some (.int .u32 (y : Int)) := ⟨_, HOw.out.cell (by omega)⟩
      have hf := HOw.out.frozen (j - 1)
      have hor := u64_or_shift rest x (by omega) hx
      obtain ⟨q, r, hq, hr', hqb, hrd, he⟩ := div_facts rest x d hrest hd2 hx
      have HE := Lib.hid he
      clear he
      go_wp2
      go_roundg j
      case measure => omega
      case rel =>
        refine ⟨j - 1, r, out.set (j - 1) q, by omega, by omega, ?_, congrArg (Value.int .u64) hr', hrd, (HOw.out.stored _ _), HBw.out.setCell (Nat.le_refl _) _, ?_, HOo.out.set hqb⟩
        · congr 1; omega
        · exact divSmall_step h0 (by rw [HOw.out.1]; exact hj) HX.out (by rw [HR.out.1]; exact hj) HV.out HE.out
    · obtain rfl : j = 0 := by omega
      go_wp2_with (go_at_call 12; refine (trim_any out _ n n _ _ HOw.out.rd HOo.out (Nat.le_refl _) (by unfold maxLen; omega)).mono ?_; rintro e w' ⟨m, rfl, hm', ht, rfl⟩)
      go_ret2
      have hv := HV.out
      rw [List.drop_zero, List.drop_zero] at hv
      have e1 : val W32 xs / d = val W32 out := by rw [hv, Nat.mul_add_div hd, Nat.div_eq_of_lt hrest, Nat.add_zero]
      have e2 : val W32 xs % d = rest := by rw [hv, Nat.mul_add_mod, Nat.mod_eq_of_lt hrest]
      rw [e1, e2]
      exact ⟨_, _, rfl, Sl.of_rd HOw.out.rd hm' (Nat.le_refl _) (by unfold maxLen; omega) ht, HBw.out⟩


theorem divSmall_own_nat (x d : Nat) (va : Value) (w : World) (ha : Nat32 w va x) (hn : (digs W32 x).length ≤ 1000000) (hd : 0 < d) (hd2 : d < 4294967296) :
    Calls Tryz.prog 73 #[va, .int .u32 (d : Int)] w fun e w' => ∃ m c' : Nat, e = .returned (.tuple #[.slice (some ⟨w.heap.size, 0, none⟩) m c', .int .u32 ((x % d : Nat) : Int)]) ∧ Nat32 w' (.slice (some ⟨w.heap.size, 0, none⟩) m c') (x / d) ∧ Below w.heap.size w w' := by
  obtain ⟨A, c, rfl, hc, hm, hr⟩ := ha
  have h := divSmall_own (digs W32 x) A _ c d w hr (ok_digs W32_gt x) hc hm hn hd hd2
  rw [val_digs W32_gt] at h
  exact h

theorem wpList_pushG {P : Program} {ops : Array Oper} {rest : List Oper} {o : Oper} {a : Act} {Q : Exit → Act → World → Prop} (w : World) (hgd : o.guard = none) (s x : Operand) (t : TypeId)
    (ho : o.op = .call { callee := .builtin .append, args := #[s, x], argTypes := #[t, t] })
    (k : IntKind) (T : TypeId) (bytes : Nat) (ht : P.underlying t = some (.slice T)) (hinfo : (P.info? T).map (fun i => (i.zero, i.size, i.bytes)) = some (some (.int k 0), 1, bytes)) (hb8 : bytes ≤ 8)
    (B : Nat) (v : Value) (xs ys : List Nat) (hs : a.eval s = v) (hx : a.eval x = .slice (some ⟨w.heap.size, 0, none⟩) ys.length ys.length) (hown : OwnV k T w B v xs) (hn : xs.length + ys.length ≤ 1000000) (hB : B ≤ w.heap.size) (C : Array Value) (hC : C = (cellsN k ys).toArray)
    (h : ∀ v' w', OwnV k T w' B v' (xs ++ ys) → Below B w w' → (w.alloc (.cells C T)).grownBy w' v.ownBlock → wpList P ops Q rest (a.put o.dst v') w') : wpList P ops Q (o :: rest) a (w.alloc (.cells C T)) := by
  subst hC
  obtain ⟨i0, hi0, hz0, hz1, hz2⟩ := info_parts hinfo
  refine wpList_append_own_at _ hgd s x t ho B T i0 (.int k 0) 1 bytes ht hi0 hz0 hz1 hz2 rfl (by decide) v xs.length (cellsN k xs) hs (hown.alloc _) ⟨w.heap.size, 0, none⟩ ys.length ys.length (cellsN k ys) hx (by rw [cellsN_len]; omega) news_block cellsN_one (by unfold maxLen; omega) ?_ (by simp; omega) ?_
  · have : (xs.length + ys.length) * bytes ≤ 1000000 * 8 := Nat.mul_le_mul hn hb8
    omega
  · intro v' w' h1 h2 _ _
    refine h v' w' ?_ (((Below.refl B w).alloc hB _).grown h2 (by simp; omega) (fun g hg => hown.blk g hg)) h2
    unfold OwnV
    rw [List.length_append, ← cellsN_append]
    exact h1

/-- append of another slice. -/
theorem wpList_joinG {P : Program} {ops : Array Oper} {rest : List Oper} {o : Oper} {a : Act} {Q : Exit → Act → World → Prop} (w : World) (hgd : o.guard = none) (s x : Operand) (t : TypeId)
    (ho : o.op = .call { callee := .builtin .append, args := #[s, x], argTypes := #[t, t] })
    (k : IntKind) (T : TypeId) (bytes : Nat) (ht : P.underlying t = some (.slice T)) (hinfo : (P.info? T).map (fun i => (i.zero, i.size, i.bytes)) = some (some (.int k 0), 1, bytes)) (hb8 : bytes ≤ 8)
    (B : Nat) (v : Value) (xs ys : List Nat) (ad : Addr) (c m : Nat) (hm : ys.length = m) (hs : a.eval s = v) (hx : a.eval x = .slice (some ad) m c) (hr : Rd k w w.heap.size (some ad) m ys) (hown : OwnV k T w B v xs) (hn : xs.length + ys.length ≤ 1000000) (hB : B ≤ w.heap.size)
    (h : ∀ v' w', OwnV k T w' B v' (xs ++ ys) → w.grownBy w' v.ownBlock → wpList P ops Q rest (a.put o.dst v') w') : wpList P ops Q (o :: rest) a w := by
  subst hm
  obtain ⟨i0, hi0, hz0, hz1, hz2⟩ := info_parts hinfo
  refine wpList_append_own_at _ hgd s x t ho B T i0 (.int k 0) 1 bytes ht hi0 hz0 hz1 hz2 rfl (by decide) v xs.length (cellsN k xs) hs hown ad ys.length c (cellsN k ys) hx (by rw [cellsN_len]; omega) (rd_news hr) cellsN_one (by unfold maxLen; omega) ?_ hB ?_
  · have : (xs.length + ys.length) * bytes ≤ 1000000 * 8 := Nat.mul_le_mul hn hb8
    omega
  · intro v' w' h1 h2 _ _
    refine h v' w' ?_ h2
    unfold OwnV
    rw [List.length_append, ← cellsN_append]
    exact h1

/-- A slice whose block has not turned. -/
theorem Sl.blk {k : IntKind} {w w' : World} {g o n c : Nat} {xs : List Nat} (h : Sl k w (.slice (some ⟨g, o, none⟩) n c) xs) (hb : w'.heap[g]? = w.heap[g]?) (hs : w.heap.size ≤ w'.heap.size) : Sl k w' (.slice (some ⟨g, o, none⟩) n c) xs := by
  obtain ⟨A, c', e, h1, h2, h3, h4⟩ := h
  simp only [Value.slice.injEq] at e
  obtain ⟨rfl, rfl, rfl⟩ := e
  refine ⟨_, _, rfl, h1, h2, h3, fun hn => ?_⟩
  obtain ⟨b, o', e2, hbl, hc⟩ := h4 hn
  injection e2 with e2
  injection e2 with e3 e4
  subst e3 e4
  exact ⟨g, o, rfl, Nat.lt_of_lt_of_le hbl hs, fun i hi => (World.cell?_of_block hb).trans (hc i hi)⟩
theorem ownV_lt {k : IntKind} {T : TypeId} {w : World} {B : Nat} {v : Value} {xs : List Nat} (h : OwnV k T w B v xs) : ∀ g, v.ownBlock = some g → g < w.heap.size := fun g hg => (World.ownsRow.lt h g hg).2
end Go.Proofs.YtdmhkhnnomdkcaaGreatDoor

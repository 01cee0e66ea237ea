/-  -/
import Derived.Lib.SmallJoins
import Derived.Deep.RegionHeld3
import Derived.Test.YtdmhkhnnomdkcaaGreatDoorJo3
import Derived.Test.YtdmhkhnnomdkcaaGreatDoorJo8
import Derived.Test.YtdmhkhnnomdkcaaGreatDoorJo17
import Derived.Test.YtdmhkhnnomdkcaaGreatDoorJo19
import Derived.Test.YtdmhkhnnomdkcaaGreatDoorJo20
import Derived.Test.YtdmhkhnnomdkcaaGreatDoorJo23
import Derived.Test.YtdmhkhnnomdkcaaGreatDoorJo25
import Derived.Test.YtdmhkhnnomdkcaaGreatDoorJo32
set_option linter.unusedVariables false
set_option linter.unusedSimpArgs false
/- number.negated: limbs in two's complement. Conditions: at most 1000 limbs. -/
namespace Go.Proofs.YtdmhkhnnomdkcaaGreatDoor
open Go.RowKit NumB
set_option linter.unusedVariables false
set_option linter.unusedSimpArgs false

theorem neg_step {V Va P B c x out : Nat} (h : V + P * c + Va = P) (hx : x < B) (ho : out = c + (B - 1 - x)) : (V + P * (out % B)) + (P * B) * (out / B) + (Va + P * x) = P * B := by
  have e := mod_div_step P B out
  have e2 : P * out = P * c + P * (B - 1 - x) := by rw [ho, Nat.mul_add]
  have e3 : P * (B - 1 - x) + P * x + P = P * B := by
    rw [← Nat.mul_add, ← Nat.mul_succ]
    congr 1
    omega
  omega
theorem not_nat (p : Nat) (hp : p < 2 ^ 32) : (2 ^ 32 - 1) ^^^ p = 2 ^ 32 - (p + 1) := by
  refine Nat.eq_of_testBit_eq fun i => ?_
  rw [Nat.testBit_xor, Nat.testBit_two_pow_sub_one, Nat.testBit_two_pow_sub_succ hp]
  by_cases h : i < 32
  · simp [h]
  · have : p.testBit i = false := Nat.testBit_lt_two_pow (Nat.lt_of_lt_of_le hp (Nat.pow_le_pow_right (by omega) (by omega)))
    simp [h, this]
theorem not_u32 (p : Nat) (hp : p < 4294967296) : bits .xor .u32 IntKind.u32.max (p : Int) = ((4294967295 - p : Nat) : Int) := by
  have h := u32_xor 4294967295 (p : Int) (by omega) (by omega) (by omega) (by omega)
  rw [Int.toNat_natCast, show (4294967295 : Int).toNat = 2 ^ 32 - 1 from rfl, not_nat p hp] at h
  exact h.trans (congrArg (fun z : Nat => (z : Int)) (by omega))

set_option maxRecDepth 100000 in
set_option maxHeartbeats 1600000 in
theorem negated_any (xs : List Nat) (v : Value) (w : World) (h : Sl .u32 w v xs) (ho : Ok W32 xs) (hl : xs.length ≤ 1000) :
    Calls Tryz.prog 13 #[v] w fun e w' => ∃ g c out, e = .returned (.slice (some ⟨g, 0, none⟩) xs.length c) ∧ Own .u32 35 w' w.heap.size g xs.length c out ∧ Ok W32 out ∧ val W32 out = (W32 ^ xs.length - val W32 xs) % W32 ^ xs.length ∧ Below w.heap.size w w' := by
  obtain ⟨A, c, rfl, hc, hm, hr⟩ := h
  unfold maxLen at hm
  have HO := Lib.hid ho
  generalize hxl : xs.length = l at *
  have HL := Lib.hid hxl
  have HR := Lib.hid hr
  clear hxl hr ho
  obtain ⟨i0, hi0, hz0, hz1, hz2⟩ := info_parts info_u32
  have HI := Lib.hid hi0
  have HZ0 := Lib.hid hz0
  have HZ1 := Lib.hid hz1
  have HZ2 := Lib.hid hz2
  clear hi0 hz0 hz1 hz2
  go_enter Tryz.func13, Tryz.ntmps13
  go_wp2_with (at_make; refine wpList_make_full _ rfl _ _ 22 rfl w.heap.size 35 i0 (.int .u32 0) 1 Tryz.underlying22 HI.out HZ0.out HZ1.out .i64 .i64 _ _ l rfl rfl (by omega) (by omega) (by rw [HZ2.out]; omega) (by unfold maxLen; omega) (Nat.le_refl _) ?_; intro w1 hown1 hg1)
  have HOW := Lib.hid (Own.made hown1)
  have HB := Lib.hid ((Below.refl w.heap.size w).grown hg1 (Nat.le_refl _) (by simp))
  clear hown1 hg1
  go_loopg [4, 12] l (fun gk s4 s12 wr => ∃ (j c : Nat) (out : List Nat), gk + j = l ∧ s12 = .int .i64 (j : Int) ∧ s4 = .int .u64 (c : Int) ∧ c ≤ 1 ∧ Hid (Own .u32 35 wr w.heap.size w.heap.size l l out) ∧ Hid (Below w.heap.size w wr) ∧ Hid (val W32 (out.take j) + W32 ^ j * c + val W32 (xs.take j) = W32 ^ j) ∧ Hid (Ok W32 out))
  case atStart => exact ⟨0, 1, _, by omega, rfl, rfl, by omega, HOW.out, HB.out, by show _ = _; simp, ok_replicate (by decide)⟩
  case round =>
    obtain ⟨j, cr, out, hg, rfl, rfl, hcr, HOw, HBw, HV, HOo⟩ := hrel
    by_cases hj : j < l
    · obtain ⟨b, o, p, rfl, hb, hpe, hcell⟩ := (HR.out.below HBw.out).at_ (i := j) (by omega)
      have hp : p < 4294967296 := by rw [← hpe]; exact HO.out.getD (by decide) _
      have HP := Lib.hid hpe
      clear hpe
      obtain ⟨y, hy⟩ : ∃ y : Nat, wr.cell? ⟨w.heap.size, j, none⟩ = some (.int .u32 (y : Int)) := ⟨_, HOw.out.cell hj⟩
      have hf := HOw.out.frozen j
      obtain ⟨q, hq, hqe, hqb⟩ : ∃ q : Nat, bits .xor .u32 IntKind.u32.max (p : Int) = (q : Int) ∧ q = 4294967295 - p ∧ q < 4294967296 := ⟨_, not_u32 p hp, rfl, by omega⟩
      have HQ := Lib.hid hqe
      clear hqe
      have hw1 : IntKind.u64.wrap (q : Int) = (q : Int) := by rw [IntKind.wrap_u64]; omega
      have hw2 : IntKind.u64.wrap ((cr : Int) + (q : Int)) = (cr : Int) + (q : Int) := by rw [IntKind.wrap_u64]; omega
      go_wp2
      go_roundg (gk - 1)
      case measure => omega
      case rel =>
        have hlen : out.length = l := HOw.out.1
        refine ⟨j + 1, (cr + q) / 4294967296, out.set j ((cr + q) % 4294967296), by omega, by go_num, congrArg (Value.int .u64) (by omega), by omega, ?_, HBw.out.setCell (Nat.le_refl _) _, ?_, HOo.out.set (by show _ < 4294967296; omega)⟩
        · have := HOw.out.stored j ((cr + q) % 4294967296)
          have e : (((cr + q) % 4294967296 : Nat) : Int) = ((cr : Int) + (q : Int)) % 4294967296 := by omega
          rw [e] at this
          exact this
        · have h1 := neg_step (B := 4294967296) (out := cr + q) HV.out hp (by have := HQ.out; omega)
          show _ = _
          rw [val_take_succ, take_set_lt _ _ _ _ (Nat.le_refl _), getD_set_self _ _ _ (by omega), val_take_succ, HP.out, Nat.pow_succ]
          exact h1
    · obtain rfl : j = l := by omega
      go_wp2
      go_ret
      have hv := HV.out
      have hlen : out.length = j := HOw.out.1
      rw [val_take_all W32 out (by omega), val_take_all W32 xs (by rw [HL.out]; exact Nat.le_refl _)] at hv
      refine ⟨_, _, out, rfl, HOw.out, HOo.out, ?_, HBw.out⟩
      have h2 := val_lt HOo.out
      rw [hlen] at h2
      rcases Nat.eq_zero_or_pos cr with h0 | h0
      · subst h0
        rw [Nat.mul_zero, Nat.add_zero] at hv
        have e : val W32 out = W32 ^ j - val W32 xs := by omega
        rw [← e, Nat.mod_eq_of_lt h2]
      · obtain rfl : cr = 1 := by omega
        rw [Nat.mul_one] at hv
        have e1 : val W32 out = 0 := by omega
        have e2 : val W32 xs = 0 := by omega
        rw [e1, e2, Nat.sub_zero, Nat.mod_self]
end Go.Proofs.YtdmhkhnnomdkcaaGreatDoor
/- number.twos: limbs in two's complement. Conditions: at most 1000 limbs; the number is not longer. -/
namespace Go.Proofs.YtdmhkhnnomdkcaaGreatDoor
open Go.RowKit NumB
set_option linter.unusedVariables false
set_option linter.unusedSimpArgs false

/-- A row of limbs of the call's own with a value. -/
def LimbPost (w : World) (n x : Nat) (e : Ending) (w' : World) : Prop := ∃ g c out, e = .returned (.slice (some ⟨g, 0, none⟩) n c) ∧ Own .u32 35 w' w.heap.size g n c out ∧ Ok W32 out ∧ val W32 out = x ∧ Below w.heap.size w w'
/-- Two's complement with n limbs. -/
def twN (n : Nat) (neg : Bool) (x : Nat) : Nat := if neg then (W32 ^ n - x) % W32 ^ n else x
theorem size_u32T : (Tryz.prog.info? 35).map (·.size) = some 1 := by kernel_rfl

set_option maxRecDepth 100000 in
set_option maxHeartbeats 3200000 in
theorem twos_any (a : LN) (n : Nat) (v : Value) (w : World) (ga : GV w v a) (hn : a.num.length ≤ n) (hnb : n ≤ 1000) :
    Calls Tryz.prog 10 #[v, .int .i64 (n : Int)] w (LimbPost w n (twN n a.neg a.x)) := by
  have HOA := Lib.hid ga.ok.1
  obtain ⟨A1, A2, rfl, h1, h2, _⟩ := ga
  obtain ⟨B1, d1, rfl, hc1, hm1, hr1⟩ := h1
  obtain ⟨B2, d2, rfl, _⟩ := h2
  have HX : Hid (val W32 a.num = a.x) := rfl
  unfold maxLen at hm1
  generalize a.neg = sg at *
  generalize a.x = X at *
  generalize a.den.length = m2 at *
  generalize a.num = xs at *

  generalize hl : xs.length = m at *
  have HL := Lib.hid hl
  have HR := Lib.hid hr1
  clear hl hr1
  obtain ⟨i0, hi0, hz0, hz1, hz2⟩ := info_parts info_u32
  have HI := Lib.hid hi0
  have HZ0 := Lib.hid hz0
  have HZ1 := Lib.hid hz1
  have HZ2 := Lib.hid hz2
  clear hi0 hz0 hz1 hz2
  have KA := Lib.hid (Blk.new w 24 #[.bool sg, .slice B1 m d1, .slice B2 m2 d2])
  have HB0 := Lib.hid (below_one w (.cells #[.bool sg, .slice B1 m d1, .slice B2 m2 d2] 24))
  go_enter Tryz.func10, Tryz.ntmps10
  go_wp2_with (first
    | (at_make; refine wpList_make_full _ rfl _ _ 22 rfl (w.heap.size + 1) 35 i0 (.int .u32 0) 1 Tryz.underlying22 HI.out HZ0.out HZ1.out .i64 .i64 _ _ n rfl rfl (by omega) (by omega) (by rw [HZ2.out]; omega) (by unfold maxLen; omega) (by simp) ?_; intro w1 hown1 hg1; have HB1 : Hid (Below (w.alloc (.cells #[.bool sg, .slice B1 m d1, .slice B2 m2 d2] 24)).heap.size (w.alloc (.cells #[.bool sg, .slice B1 m d1, .slice B2 m2 d2] 24)) w1) := (Below.refl _ _).grown hg1 (Nat.le_refl _) (by simp); have ka0 := (KA.out.to HB1.out).cell 0; have ka1 := (KA.out.to HB1.out).cell 1; simp only [List.getElem?_toArray, List.getElem?_cons_zero, List.getElem?_cons_succ] at ka0 ka1; have HOW : Hid (Own .u32 35 w1 (w.heap.size + 1) (w.heap.size + 1) n n (List.replicate n 0)) := Own.made (by have h := hown1; simpa using h); have HR1 : Hid (Rd .u32 w1 w1.heap.size B1 m xs) := (HR.out.to HB0.out).to HB1.out; clear hown1 hg1)
    | ((with_reducible refine wpList_copy_Own rfl (.tmp 8) (.tmp 10) 22 22 rfl 35 Tryz.underlying22 size_u32T .u32 35 (w.heap.size + 1) (w.heap.size + 1) n (List.replicate n 0) xs B1 m d1 rfl rfl HOW.out HR1.out hn ?_); intro w2 hown2 hb2; have HB2 : Hid (Below w.heap.size w w2) := (HB0.out.trans (HB1.out.mono (by simp))).trans (hb2.mono (by omega)); have HW2 : Hid (Own .u32 35 w2 w.heap.size (w.heap.size + 1) n n (xs ++ (List.replicate n 0).drop m)) := ⟨hown2.1, Joins.ownsRow_le hown2.2 (by omega)⟩; have ka2 : w2.cell? ⟨w.heap.size, 0, none⟩ = some (.bool sg) := (hb2.cell (by show w.heap.size < _; omega)).trans ka0; clear hown2 hb2))
  all_goals
    have HO2 : Hid (Ok W32 (xs ++ (List.replicate n 0).drop m)) := HOA.out.append ((ok_replicate (by decide)).drop _)
    have HV2 : Hid (val W32 (xs ++ (List.replicate n 0).drop m) = X) := by
      show _ = _
      rw [List.drop_replicate, val_append_zeros]; exact HX.out
    generalize xs ++ (List.replicate n 0).drop m = ys at *
    have hlen : ys.length = n := HW2.out.1
  · obtain rfl : sg = true := by assumption
    have HN : Hid (∀ (v : Value) (W : World), Sl .u32 W v ys → Calls Tryz.prog 13 #[v] W fun e w' => ∃ g c out, e = .returned (.slice (some ⟨g, 0, none⟩) n c) ∧ Own .u32 35 w' W.heap.size g n c out ∧ Ok W32 out ∧ val W32 out = (W32 ^ n - X) % W32 ^ n ∧ Below W.heap.size W w') := fun v W h => by
      have := negated_any ys v W h HO2.out (by omega)
      rw [hlen, HV2.out] at this
      exact this
    clear hlen
    go_wp2_with fail
    refine (HN.out _ _ (by exact HW2.out.sl)).mono ?_
    rintro e w3 ⟨g, c, out, rfl, h1, h2, h3, hb⟩
    go_wp2_with fail
    go_ret
    exact ⟨g, c, out, rfl, ⟨h1.1, Joins.ownsRow_le h1.2 HB2.out.size⟩, h2, h3, HB2.out.trans (hb.mono HB2.out.size)⟩
  · obtain rfl : sg = false := by assumption
    clear hlen
    go_ret
    exact ⟨_, _, ys, rfl, HW2.out, HO2.out, HV2.out, HB2.out⟩
end Go.Proofs.YtdmhkhnnomdkcaaGreatDoor
/- number.integers, at one number. -/
namespace Go.Proofs.YtdmhkhnnomdkcaaGreatDoor
open Go.RowKit NumB
set_option linter.unusedVariables false
set_option linter.unusedSimpArgs false

/-- What integers answers at one number. -/
def intErr (a : LN) : Int := if a.err = 0 then (if a.y = 1 then 0 else 7) else a.err

set_option maxRecDepth 100000 in
set_option maxHeartbeats 3200000 in
theorem integers_one (a : LN) (b cap : Nat) (A1 A2 : Value) (w : World) (t : TypeId) (hg : Blk w b t #[.bool a.neg, A1, A2]) (h : GV w (.agg #[.bool a.neg, A1, A2]) a) :
    Calls Tryz.prog 9 #[.slice (some ⟨b, 0, none⟩) 1 cap] w fun e w' => e = .returned (.int .i64 (intErr a)) ∧ Below w.heap.size w w' := by
  obtain ⟨_, g1, g2, gok⟩ := h.parts
  have HC : Hid (Calls Tryz.prog 34 #[.slice (some ⟨b, 0, none⟩) 1 cap] w fun e w' => e = .returned (.int .i64 a.err) ∧ Below w.heap.size w w') := checks_one b cap a.neg a.num a.den A1 A2 w t hg g1 g2 gok.1 gok.2
  have HBK := Lib.hid hg
  have hbd : 0 ≤ a.err ∧ a.err ≤ 3 := checkL_bd _ _ _
  obtain ⟨B1, n1, d1, B2, n2, d2, he, hq1, hq2⟩ := h.form
  clear hq1 hq2
  simp only [Value.agg.injEq, Array.mk.injEq, List.cons.injEq, and_true, true_and] at he
  obtain ⟨rfl, rfl⟩ := he
  by_cases e0 : a.err = 0
  · have HY : Hid (Nat32 w (.slice B2 n2 d2) a.y) := by
      have h2 := (LN.good gok e0).2.1
      unfold Hid Nat32
      rw [h2]; exact g2
    have HI : Hid (intErr a = if a.y = 1 then 0 else 7) := by unfold Hid intErr; rw [if_pos e0]
    rw [e0] at HC
    generalize intErr a = r at *
    generalize a.y = y at *
    generalize a.neg = ng at *
    clear h g1 g2 gok hg hbd e0
    go_enter Tryz.func9, Tryz.ntmps9
    go_wp2_with fail
    refine HC.out.mono ?_
    rintro e w1 ⟨rfl, hb1⟩
    have HB1 := Lib.hid hb1
    clear hb1
    go_wp2_with fail
    go_loopg [13, 5] 1 (fun gk s13 s5 wr => ∃ j : Nat, gk + j = 1 ∧ s13 = .int .i64 (j : Int) ∧ Hid (0 < j → y = 1) ∧ Hid (Below w.heap.size w wr))
    case atStart => exact ⟨0, by omega, rfl, by unfold Hid; omega, HB1.out⟩
    case round =>
      obtain ⟨j, hgj, rfl, HE, HB⟩ := hrel
      by_cases hj : j = 0
      · subst hj
        obtain rfl : gk = 1 := by omega
        have hk := HBK.out.to HB.out
        have c0 := hk.cell 0
        have c1 := hk.cell 1
        have c2 := hk.cell 2
        simp only [List.getElem?_toArray, List.getElem?_cons_zero, List.getElem?_cons_succ] at c0 c1 c2
        clear hk hgj
        by_cases hy : y = 1
        · have HO := Lib.hid (oneB_true hy)
          have HY1 := Lib.hid hy
          clear hy
          go_wp2_with fail
          refine (isOne_any y _ _ (by exact (HY.out.to HB.out).to (below_one _ _))).mono ?_
          rintro e w3 ⟨he, rfl⟩
          rw [HO.out] at he
          subst he
          go_wp2_with fail
          go_roundg 0
          case measure => omega
          case rel => exact ⟨1, by omega, by go_num, fun _ => HY1.out, HB.out.alloc HB.out.size _⟩
        · have HO := Lib.hid (oneB_false hy)
          have HY1 := Lib.hid hy
          clear hy
          go_wp2_with fail
          refine (isOne_any y _ _ (by exact (HY.out.to HB.out).to (below_one _ _))).mono ?_
          rintro e w3 ⟨he, rfl⟩
          rw [HO.out] at he
          subst he
          go_wp2_with fail
          go_ret
          rw [HI.out, if_neg HY1.out]
          exact ⟨rfl, HB.out.alloc HB.out.size _⟩
      · obtain rfl : j = 1 := by omega
        obtain rfl : gk = 0 := by omega
        have HY1 := Lib.hid (HE.out (by omega))
        clear hgj hj
        go_wp2_with fail
        go_ret
        rw [HI.out, if_pos HY1.out]
        exact ⟨rfl, HB.out⟩
  · have b0 : (a.err != 0) = true := by rw [bne_iff_ne]; exact e0
    have HI : Hid (intErr a = a.err) := by unfold Hid intErr; rw [if_neg e0]
    generalize intErr a = r at *
    generalize a.err = z at *
    clear h g1 g2 gok hg e0
    go_enter Tryz.func9, Tryz.ntmps9
    go_wp2_with fail
    refine HC.out.mono ?_
    rintro e w1 ⟨rfl, hb1⟩
    have HB1 := Lib.hid hb1
    clear hb1
    go_wp2_with fail
    go_ret
    rw [HI.out]
    exact ⟨rfl, HB1.out⟩
end Go.Proofs.YtdmhkhnnomdkcaaGreatDoor
/- number.ToInt, at any number. -/
namespace Go.Proofs.YtdmhkhnnomdkcaaGreatDoor
open Go.RowKit NumB
set_option linter.unusedVariables false
set_option linter.unusedSimpArgs false

/-- What ToInt answers. -/
def toIntS (a : LN) : Int × Int := if intErr a = 0 then (if a.neg then (if a.x ≤ 9223372036854775808 then (-(a.x : Int), 0) else (0, 3)) else (if a.x ≤ 9223372036854775807 then ((a.x : Int), 0) else (0, 3))) else (0, intErr a)
theorem intErr_zero {a : LN} : intErr a = 0 ↔ a.err = 0 ∧ a.y = 1 := by
  unfold intErr
  by_cases h : a.err = 0
  · by_cases h2 : a.y = 1
    · simp [h, h2]
    · simp [h, h2]
  · simp [h]
theorem intErr_bd (a : LN) : 0 ≤ intErr a ∧ intErr a ≤ 7 := by
  have h : 0 ≤ a.err ∧ a.err ≤ 3 := checkL_bd _ _ _
  unfold intErr
  split
  · split <;> omega
  · omega
theorem val_two {xs : List Nat} (h : xs.length ≤ 2) : val W32 xs = xs.getD 0 0 + 4294967296 * xs.getD 1 0 := by
  rcases xs with _ | ⟨a, _ | ⟨b, _ | ⟨c, l⟩⟩⟩
  · rfl
  · simp
  · simp [W32]
  · simp at h
theorem or_zero_u64 (p : Nat) (hp : p < 4294967296) : bits .or .u64 0 (p : Int) = (p : Int) := by
  have h := u64_or 0 (p : Int) (by omega) (by omega) (by omega) (by omega)
  rw [h]; simp

end Go.Proofs.YtdmhkhnnomdkcaaGreatDoor
/- The canonical number of an integer: plain facts. -/
namespace Go.Proofs.YtdmhkhnnomdkcaaGreatDoor
open Go.RowKit NumB
set_option linter.unusedVariables false
set_option linter.unusedSimpArgs false

/-- The canonical number of an integer. -/
def intL (s : Bool) (k : Nat) : LN := ⟨s && decide (0 < k), digs W32 k, digs W32 1⟩
theorem fracS_int {s : Bool} {k : Nat} (h : fitB k 1 = true) : fracS 0 s k 1 = (intL s k, 0) := by
  unfold fracS opS
  rw [Nat.gcd_one_right, Nat.div_one, Nat.div_one, if_pos rfl, h, if_pos rfl]
  rfl
theorem fit_64 {k : Nat} (h : k < 18446744073709551616) : fitB k 1 = true := decide_eq_true ⟨Nat.le_trans (digs_len_le (k := 2) W32_gt (by unfold W32; omega)) (by omega), by rw [digs_one32]; decide⟩
theorem intL_fit {s : Bool} {k : Nat} (h : fitB k 1 = true) : (intL s k).ok ∧ (intL s k).err = 0 := by
  have h1 := fracS_ok (s := s) (n := k) (d := 1) (by omega) (by rw [fracS_int h])
  rw [fracS_int h] at h1
  exact ⟨h1.1, h1.2.1⟩
theorem intL_ok (s : Bool) {k : Nat} (h : k < 18446744073709551616) : (intL s k).ok ∧ (intL s k).err = 0 := intL_fit (fit_64 h)
theorem intL_x (s : Bool) (k : Nat) : (intL s k).x = k := val_digs W32_gt k
theorem intL_y (s : Bool) (k : Nat) : (intL s k).y = 1 := val_digs W32_gt 1
theorem intL_int {s : Bool} {k : Nat} (h : k < 18446744073709551616) : intErr (intL s k) = 0 := intErr_zero.2 ⟨(intL_ok s h).2, intL_y s k⟩
theorem toIntS_pos {k : Nat} (h : k ≤ 9223372036854775807) : toIntS (intL false k) = ((k : Int), 0) := by
  unfold toIntS
  rw [if_pos (intL_int (by omega)), intL_x, show (intL false k).neg = false from rfl]
  simp [h]
theorem toIntS_neg {k : Nat} (h0 : 0 < k) (h : k ≤ 9223372036854775808) : toIntS (intL true k) = (-(k : Int), 0) := by
  unfold toIntS
  rw [if_pos (intL_int (by omega)), intL_x, show (intL true k).neg = true from by simp [intL, h0]]
  simp [h]
end Go.Proofs.YtdmhkhnnomdkcaaGreatDoor
/- number.Mul, at any two numbers. -/
namespace Go.Proofs.YtdmhkhnnomdkcaaGreatDoor
open Go.RowKit NumB
set_option linter.unusedVariables false
set_option linter.unusedSimpArgs false

theorem made_S (neg : Bool) (x y : Nat) (va vb : Value) (w : World) (ha : Nat32 w va x) (hb : Nat32 w vb y) (hy0 : 0 < y) (hx : (digs W32 x).length ≤ 50000) (hy : (digs W32 y).length ≤ 50000) :
    Calls Tryz.prog 36 #[.bool neg, va, vb] w (SPost w (fracS 0 neg x y)) := (made_any neg x y va vb w ha hb hy0 hx hy).mono fun _ _ h => FitPost.toS h
theorem GV.put3 {w : World} {v : Value} {a : LN} {s : Bool} {g : Nat} {t : TypeId} {A A' : Option Addr} {n m ca cb : Nat} (h : GV w v a) (hg : Blk w g t #[.bool s, .slice A n ca, .slice A' m cb]) (x y z : Value) : GV (put3 w g x y z) v a := by
  obtain ⟨A1, B1, e, h1, h2, h3⟩ := h
  exact ⟨A1, B1, e, Sl.boxed h1 hg noInts_num (Nat.le_of_eq (put3_size w g x y z).symm) (put3_far w g x y z), Sl.boxed h2 hg noInts_num (Nat.le_of_eq (put3_size w g x y z).symm) (put3_far w g x y z), h3⟩

end Go.Proofs.YtdmhkhnnomdkcaaGreatDoor

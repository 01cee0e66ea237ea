/- number.check: the first error of a list of numbers. -/
import Derived.Test.YtfiedhopgmgnoaaDoorCheckAny
import Derived.Test.YtfiedhopgmgnoaaDoorMade
namespace Go.Proofs.YtfiedhopgmgnoaaDoor
open Go.RowKit NumB
set_option linter.unusedVariables false
set_option linter.unusedSimpArgs false

/-- The first of n answers from j on that is not 0. -/
def errsFrom (c : Nat → Int) : Nat → Nat → Int
  | _, 0 => 0
  | j, n + 1 => if c j = 0 then errsFrom c (j + 1) n else c j

/-- A row of k numbers in the block b from o on. -/
def Nums (w : World) (b o k : Nat) (ng : Nat → Bool) (xs ys : Nat → List Nat) : Prop :=
  b < w.heap.size ∧ ∀ i, i < k → ∃ va vb, w.cell? ⟨b, o + i * 3, none⟩ = some (.bool (ng i)) ∧ w.cell? ⟨b, o + i * 3 + 1, none⟩ = some va ∧ w.cell? ⟨b, o + i * 3 + 2, none⟩ = some vb ∧ Sl .u32 w va (xs i) ∧ Sl .u32 w vb (ys i) ∧ Ok W32 (xs i) ∧ Ok W32 (ys i)

set_option maxRecDepth 100000 in
set_option maxHeartbeats 3200000 in
theorem checks_any (b o k cap : Nat) (ng : Nat → Bool) (xs ys : Nat → List Nat) (w : World) (hk : k ≤ 1000) (hN : Nums w b o k ng xs ys) :
    Calls Tryd.prog 46 #[.slice (some ⟨b, o, none⟩) k cap] w fun e w' => e = .returned (.int .i64 (errsFrom (fun i => checkL (ng i) (xs i) (ys i)) 0 k)) ∧ Below w.heap.size w w' := by
  have HN := Lib.hid hN
  clear hN
  have HC : Hid (∀ (i : Nat) (va vb : Value) (W : World), Sl .u32 W va (xs i) → Sl .u32 W vb (ys i) → Ok W32 (xs i) → Ok W32 (ys i) → Calls Tryd.prog 28 #[.agg #[.bool (ng i), va, vb]] W fun e w' => e = .returned (.int .i64 (checkL (ng i) (xs i) (ys i))) ∧ Below W.heap.size W w') :=
    fun i va vb W h1 h2 h3 h4 => check_any (ng i) (xs i) (ys i) va vb W h1 h2 h3 h4
  generalize hc : (fun i => checkL (ng i) (xs i) (ys i)) = c
  have HC2 : Hid (∀ i, checkL (ng i) (xs i) (ys i) = c i) := fun i => by rw [← hc]
  clear hc
  have HD : Hid (∀ (i : Nat) (va vb : Value) (W : World), Sl .u32 W va (xs i) → Sl .u32 W vb (ys i) → Ok W32 (xs i) → Ok W32 (ys i) → Calls Tryd.prog 28 #[.agg #[.bool (ng i), va, vb]] W fun e w' => e = .returned (.int .i64 (c i)) ∧ Below W.heap.size W w') :=
    fun i va vb W h1 h2 h3 h4 => by rw [← HC2.out i]; exact HC.out i va vb W h1 h2 h3 h4
  clear HC HC2
  go_enter Tryd.func46, Tryd.ntmps46
  go_wp2
  go_loopg [8, 4, 5] k (fun gk si s4 s5 wr => ∃ j : Nat, gk + j = k ∧ si = .int .i64 (j : Int) ∧ Hid (errsFrom c j gk = errsFrom c 0 k) ∧ Hid (Below w.heap.size w wr))
  case atStart => exact ⟨0, by omega, rfl, rfl, Below.refl _ _⟩
  case round =>
    obtain ⟨j, hgj, rfl, HE, HB⟩ := hrel
    by_cases hj : j < k
    · obtain ⟨n, rfl⟩ : ∃ n, gk = n + 1 := ⟨gk - 1, by omega⟩
      obtain ⟨va, vb, h0, h1, h2, h3, h4, h5, h6⟩ := HN.out.2 j hj
      have hbl := HN.out.1
      have hc0 : wr.cell? ⟨b, o + j * 3, none⟩ = some (.bool (ng j)) := (HB.out.cell (p := ⟨b, _, none⟩) hbl).trans h0
      have hc1 : wr.cell? ⟨b, o + j * 3 + 1, none⟩ = some va := (HB.out.cell (p := ⟨b, _, none⟩) hbl).trans h1
      have hc2 : wr.cell? ⟨b, o + j * 3 + 2, none⟩ = some vb := (HB.out.cell (p := ⟨b, _, none⟩) hbl).trans h2
      obtain ⟨A, ca, hva, r1⟩ := id h3
      obtain ⟨A', cb, hvb, r2⟩ := id h4
      have HS1 := Lib.hid (h3.to HB.out)
      have HS2 := Lib.hid (h4.to HB.out)
      have HOK := Lib.hid (And.intro h5 h6)
      subst hva hvb
      clear h0 h1 h2 h3 h4 h5 h6 r1 r2
      generalize (xs j).length = n1 at *
      generalize (ys j).length = n2 at *
      by_cases hz : c j = 0
      · have hz1 : (c j != 0) = false := by rw [hz]; rfl
        have HZ := Lib.hid hz
        clear hz
        go_wp2_with (go_at_call 28; go_must (refine (HD.out j _ _ _ (by exact HS1.out.to (below_one _ _)) (by exact HS2.out.to (below_one _ _)) HOK.out.1 HOK.out.2).mono ?_); rintro e w1 ⟨rfl, hb1⟩)
        go_roundg n
        case measure => omega
        case rel => exact ⟨j + 1, by omega, by go_num, by unfold Hid; rw [← HE.out, errsFrom, if_pos HZ.out], (HB.out.alloc HB.out.size _).trans (hb1.mono (Nat.le_trans HB.out.size (below_one _ _).size))⟩
      · have hz1 : (c j != 0) = true := by rw [bne_iff_ne]; exact hz
        have HZ := Lib.hid hz
        clear hz
        go_wp2_with (go_at_call 28; go_must (refine (HD.out j _ _ _ (by exact HS1.out.to (below_one _ _)) (by exact HS2.out.to (below_one _ _)) HOK.out.1 HOK.out.2).mono ?_); rintro e w1 ⟨rfl, hb1⟩)
        go_ret
        exact ⟨by rw [← HE.out, errsFrom, if_neg HZ.out]; rfl, (HB.out.alloc HB.out.size _).trans (hb1.mono (Nat.le_trans HB.out.size (below_one _ _).size))⟩
    · obtain rfl : j = k := by omega
      obtain rfl : gk = 0 := by omega
      clear hgj hj
      go_wp2
      go_ret
      exact ⟨by rw [← HE.out]; rfl, HB.out⟩

/-- Two numbers, one after the other. -/
theorem checks_two (b cap : Nat) (na nb : Bool) (xa ya xb yb : List Nat) (A1 A2 A3 A4 : Value) (w : World) (t : TypeId) (hg : Blk w b t #[.bool na, A1, A2, .bool nb, A3, A4])
    (h1 : Sl .u32 w A1 xa) (h2 : Sl .u32 w A2 ya) (h3 : Sl .u32 w A3 xb) (h4 : Sl .u32 w A4 yb) (o1 : Ok W32 xa) (o2 : Ok W32 ya) (o3 : Ok W32 xb) (o4 : Ok W32 yb) :
    Calls Tryd.prog 46 #[.slice (some ⟨b, 0, none⟩) 2 cap] w fun e w' => e = .returned (.int .i64 (if checkL na xa ya = 0 then checkL nb xb yb else checkL na xa ya)) ∧ Below w.heap.size w w' := by
  have hN : Nums w b 0 2 (fun i => if i = 0 then na else nb) (fun i => if i = 0 then xa else xb) (fun i => if i = 0 then ya else yb) := by
    refine ⟨hg.lt, fun i hi => ?_⟩
    rcases i with _ | _ | i
    · exact ⟨A1, A2, hg.cell 0, hg.cell 1, hg.cell 2, h1, h2, o1, o2⟩
    · exact ⟨A3, A4, hg.cell 3, hg.cell 4, hg.cell 5, h3, h4, o3, o4⟩
    · omega
  refine (checks_any b 0 2 cap _ _ _ w (by omega) hN).mono fun e w' ⟨he, hb⟩ => ⟨he.trans ?_, hb⟩
  have e : errsFrom (fun i => checkL (if i = 0 then na else nb) (if i = 0 then xa else xb) (if i = 0 then ya else yb)) 0 2 = if checkL na xa ya = 0 then checkL nb xb yb else checkL na xa ya := by
    show (if checkL na xa ya = 0 then (if checkL nb xb yb = 0 then 0 else checkL nb xb yb) else checkL na xa ya) = _
    split
    · split <;> simp_all
    · rfl
  rw [e]
/-- One number. -/
theorem checks_one (b cap : Nat) (na : Bool) (xa ya : List Nat) (A1 A2 : Value) (w : World) (t : TypeId) (hg : Blk w b t #[.bool na, A1, A2])
    (h1 : Sl .u32 w A1 xa) (h2 : Sl .u32 w A2 ya) (o1 : Ok W32 xa) (o2 : Ok W32 ya) :
    Calls Tryd.prog 46 #[.slice (some ⟨b, 0, none⟩) 1 cap] w fun e w' => e = .returned (.int .i64 (checkL na xa ya)) ∧ Below w.heap.size w w' := by
  have hN : Nums w b 0 1 (fun i => na) (fun i => xa) (fun i => ya) := by
    refine ⟨hg.lt, fun i hi => ?_⟩
    obtain rfl : i = 0 := by omega
    exact ⟨A1, A2, hg.cell 0, hg.cell 1, hg.cell 2, h1, h2, o1, o2⟩
  refine (checks_any b 0 1 cap _ _ _ w (by omega) hN).mono fun e w' ⟨he, hb⟩ => ⟨he.trans ?_, hb⟩
  have e : errsFrom (fun i => checkL na xa ya) 0 1 = checkL na xa ya := by
    show (if checkL na xa ya = 0 then 0 else checkL na xa ya) = _
    split <;> simp_all
  rw [e]
end Go.Proofs.YtfiedhopgmgnoaaDoor

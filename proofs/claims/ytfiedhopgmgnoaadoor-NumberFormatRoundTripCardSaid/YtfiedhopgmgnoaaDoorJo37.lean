/- number.compare, number.Compare; fetterlockref1.Cmp. -/
import Derived.Deep.RegionHeld3
import Derived.Test.YtfiedhopgmgnoaaDoorJo35
import Derived.Test.YtfiedhopgmgnoaaDoorJo36
set_option linter.unusedVariables false
set_option linter.unusedSimpArgs false
namespace Go.Proofs.YtfiedhopgmgnoaaDoor
open Go.RowKit NumB
set_option linter.unusedVariables false
set_option linter.unusedSimpArgs false

/-- How two fractions compare. -/
def cmpQ (na : Bool) (xa ya : Nat) (nb : Bool) (xb yb : Nat) : Int := if na = nb then (if na then -cmpI (xa * yb) (xb * ya) else cmpI (xa * yb) (xb * ya)) else if na then -1 else 1
theorem cmpI_swap (x y : Nat) : cmpI y x = -cmpI x y := by unfold cmpI; split <;> split <;> (try split) <;> omega
theorem compare_B (x y : Nat) (va vb : Value) (w : World) (ha : Nat32 w va x) (hb : Nat32 w vb y) :
    Calls Tryd.prog 85 #[va, vb] w fun e w' => e = .returned (.int .i64 (cmpI x y)) ∧ Below w.heap.size w w' :=
  (compare_any x y va vb w ha hb).mono fun _ _ ⟨he, m, hm⟩ => ⟨he, by rw [hm]; exact below_of_drewN m⟩
theorem Two.drew2 {w : World} {na nb : Bool} {A1 A2 A3 A4 : Value} {xa ya xb yb : List Nat} (h : Two w na nb A1 A2 A3 A4 xa ya xb yb) (o1 o2 : Obj) : Two ((w.alloc o1).alloc o2).drew na nb A1 A2 A3 A4 xa ya xb yb := h.to (below_two w o1 o2).drew

set_option maxRecDepth 100000 in
set_option maxHeartbeats 6400000 in
theorem compareNum_any (na nb : Bool) (xa ya xb yb : Nat) (A1 A2 A3 A4 : Value) (w : World) (h1 : Nat32 w A1 xa) (h2 : Nat32 w A2 ya) (h3 : Nat32 w A3 xb) (h4 : Nat32 w A4 yb)
    (l1 : (digs W32 xa).length ≤ 10000) (l2 : (digs W32 ya).length ≤ 10000) (l3 : (digs W32 xb).length ≤ 10000) (l4 : (digs W32 yb).length ≤ 10000) :
    Calls Tryd.prog 47 #[.agg #[.bool na, A1, A2], .agg #[.bool nb, A3, A4]] w fun e w' => e = .returned (.int .i64 (cmpQ na xa ya nb xb yb)) ∧ Below w.heap.size w w' := by
  obtain ⟨B1, n1, c1, rfl, e1⟩ := h1.form
  obtain ⟨B2, n2, c2, rfl, e2⟩ := h2.form
  obtain ⟨B3, n3, c3, rfl, e3⟩ := h3.form
  obtain ⟨B4, n4, c4, rfl, e4⟩ := h4.form
  have HL : Hid (((digs W32 xa).length ≤ 50000 ∧ (digs W32 ya).length ≤ 50000) ∧ ((digs W32 xb).length ≤ 50000 ∧ (digs W32 yb).length ≤ 50000)) := ⟨⟨by omega, by omega⟩, by omega, by omega⟩
  have HN : ∀ o1 o2 : Obj, Hid (Nat32 ((w.alloc o1).alloc o2).drew (.slice B1 n1 c1) xa ∧ Nat32 ((w.alloc o1).alloc o2).drew (.slice B2 n2 c2) ya ∧ Nat32 ((w.alloc o1).alloc o2).drew (.slice B3 n3 c3) xb ∧ Nat32 ((w.alloc o1).alloc o2).drew (.slice B4 n4 c4) yb) :=
    fun o1 o2 => ⟨h1.to (below_two w o1 o2).drew, h2.to (below_two w o1 o2).drew, h3.to (below_two w o1 o2).drew, h4.to (below_two w o1 o2).drew⟩
  have HB0 : Hid (∀ o1 o2 : Obj, Below w.heap.size w ((w.alloc o1).alloc o2)) := fun o1 o2 => below_two w o1 o2
  have HE : Hid (cmpQ na xa ya nb xb yb = if na = nb then (if na then -cmpI (xa * yb) (xb * ya) else cmpI (xa * yb) (xb * ya)) else if na then -1 else 1) := rfl
  generalize cmpQ na xa ya nb xb yb = r at *
  clear e1 e2 e3 e4 h1 h2 h3 h4 l1 l2 l3 l4
  have HBK := Lib.hid (blk2 w 24 24 #[.bool na, .slice B1 n1 c1, .slice B2 n2 c2] #[.bool nb, .slice B3 n3 c3, .slice B4 n4 c4])
  have hk : ∀ W1 W' : World, Below W1.heap.size W1 W' → (W1.cell? ⟨w.heap.size, 0, none⟩ = some (.bool na) ∧ W1.cell? ⟨w.heap.size, 1, none⟩ = some (.slice B1 n1 c1) ∧ W1.cell? ⟨w.heap.size, 2, none⟩ = some (.slice B2 n2 c2) ∧ W1.cell? ⟨w.heap.size + 1, 0, none⟩ = some (.bool nb) ∧ W1.cell? ⟨w.heap.size + 1, 1, none⟩ = some (.slice B3 n3 c3) ∧ W1.cell? ⟨w.heap.size + 1, 2, none⟩ = some (.slice B4 n4 c4) ∧ w.heap.size + 1 < W1.heap.size) → (W'.cell? ⟨w.heap.size, 0, none⟩ = some (.bool na) ∧ W'.cell? ⟨w.heap.size, 1, none⟩ = some (.slice B1 n1 c1) ∧ W'.cell? ⟨w.heap.size, 2, none⟩ = some (.slice B2 n2 c2) ∧ W'.cell? ⟨w.heap.size + 1, 0, none⟩ = some (.bool nb) ∧ W'.cell? ⟨w.heap.size + 1, 1, none⟩ = some (.slice B3 n3 c3) ∧ W'.cell? ⟨w.heap.size + 1, 2, none⟩ = some (.slice B4 n4 c4) ∧ w.heap.size + 1 < W'.heap.size) := fun W1 W' h1 ⟨a0, a1, a2, a3, a4, a5, a6⟩ => ⟨(h1.cell (p := ⟨w.heap.size, 0, none⟩) (by show w.heap.size < _; omega)).trans a0, (h1.cell (p := ⟨w.heap.size, 1, none⟩) (by show w.heap.size < _; omega)).trans a1, (h1.cell (p := ⟨w.heap.size, 2, none⟩) (by show w.heap.size < _; omega)).trans a2, (h1.cell (p := ⟨w.heap.size + 1, 0, none⟩) (by show w.heap.size + 1 < _; omega)).trans a3, (h1.cell (p := ⟨w.heap.size + 1, 1, none⟩) (by show w.heap.size + 1 < _; omega)).trans a4, (h1.cell (p := ⟨w.heap.size + 1, 2, none⟩) (by show w.heap.size + 1 < _; omega)).trans a5, Nat.lt_of_lt_of_le a6 h1.size⟩
  have HK := Lib.hid hk
  clear hk
  by_cases hs : na = nb
  · rw [if_pos hs] at HE
    subst hs
    have hne : (na != na) = false := by simp
    have hbd := cmpI_bd (xa * yb) (xb * ya)
    generalize hcc : cmpI (xa * yb) (xb * ya) = z at *
    have HC := Lib.hid hcc
    clear hcc
    go_enter Tryd.func47, Tryd.ntmps47
    go_wp2_with fail
    go_region_held3 (fun w' => w'.cell? ⟨w.heap.size, 0, none⟩ = some (.bool na) ∧ w'.cell? ⟨w.heap.size, 1, none⟩ = some (.slice B1 n1 c1) ∧ w'.cell? ⟨w.heap.size, 2, none⟩ = some (.slice B2 n2 c2) ∧ w'.cell? ⟨w.heap.size + 1, 0, none⟩ = some (.bool na) ∧ w'.cell? ⟨w.heap.size + 1, 1, none⟩ = some (.slice B3 n3 c3) ∧ w'.cell? ⟨w.heap.size + 1, 2, none⟩ = some (.slice B4 n4 c4) ∧ w.heap.size + 1 < w'.heap.size)
      (first | go_keep | (refine HK.out _ _ (by assumption) ?_; go_keep))
      (first
        | (go_at_call 62; ((with_reducible refine (mul_any xa yb (.slice B1 n1 c1) (.slice B4 n4 c4) _ (by exact (HN _ _).out.1) (by exact (HN _ _).out.2.2.2) HL.out.1.1 HL.out.2.2).mono ?_)); rintro e w1 ⟨v1, rfl, hn1, hb1⟩)
        | (go_at_call 62; ((with_reducible refine (mul_any xb ya (.slice B3 n3 c3) (.slice B2 n2 c2) _ (by exact (HN _ _).out.2.2.1.to hb1) (by exact (HN _ _).out.2.1.to hb1) HL.out.2.1 HL.out.1.2).mono ?_)); rintro e w2 ⟨v2, rfl, hn2, hb2⟩)
        | (go_at_call 85; ((with_reducible refine (compare_B (xa * yb) (xb * ya) _ _ _ (by exact hn1.to hb2) (by exact hn2)).mono ?_)); rintro e w3 ⟨he3, hb3⟩; rw [HC.out] at he3; subst he3))
    have HBE : Hid (Below w.heap.size w w3) := (((HB0.out _ _).drew.trans (hb1.mono (HB0.out _ _).drew.size)).trans (hb2.mono (Nat.le_trans (HB0.out _ _).drew.size hb1.size))).trans (hb3.mono (Nat.le_trans (Nat.le_trans (HB0.out _ _).drew.size hb1.size) hb2.size))
    have hk1 := ((HBK.out.1.drew.to hb1).to hb2).to hb3
    have hcn := hk1.cell 0
    simp only [List.getElem?_toArray, List.getElem?_cons_zero] at hcn
    clear hk1 hb1 hb2 hb3 hn1 hn2 HK HN
    cases na with
    | true =>
      simp only [if_true] at HE
      go_wp2_with fail
      go_ret
      rw [HE.out]
      exact ⟨rfl, HBE.out⟩
    | false =>
      simp only [Bool.false_eq_true, if_false] at HE
      go_wp2_with fail
      go_ret
      rw [HE.out]
      exact ⟨rfl, HBE.out⟩
  · rw [if_neg hs] at HE
    clear HK
    cases na <;> cases nb
    · exact absurd rfl hs
    · simp only [Bool.false_eq_true, if_false] at HE
      clear hs
      go_enter Tryd.func47, Tryd.ntmps47
      go_wp2_with fail
      go_ret
      rw [HE.out]
      exact ⟨rfl, HB0.out _ _⟩
    · simp only [if_true] at HE
      clear hs
      go_enter Tryd.func47, Tryd.ntmps47
      go_wp2_with fail
      go_ret
      rw [HE.out]
      exact ⟨rfl, HB0.out _ _⟩
    · exact absurd rfl hs
end Go.Proofs.YtfiedhopgmgnoaaDoor

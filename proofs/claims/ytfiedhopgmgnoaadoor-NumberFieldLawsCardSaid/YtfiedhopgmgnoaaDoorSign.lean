/- number.Sign; fetterlocklaw1.same. -/
import Derived.Test.YtfiedhopgmgnoaaDoorFieldMath
namespace Go.Proofs.YtfiedhopgmgnoaaDoor
open Go.RowKit NumB
set_option linter.unusedVariables false
set_option linter.unusedSimpArgs false

/-- The sign of a valid number. -/
def signS (a : LN) : Int := if a.num.length = 0 then 0 else if a.neg then -1 else 1

set_option maxRecDepth 100000 in
set_option maxHeartbeats 3200000 in
theorem sign_S (a : LN) (v : Value) (w : World) (h : GV w v a) : Calls Tryd.prog 24 #[v] w fun e w' => e = .returned (.tuple #[.int .i64 (if a.err = 0 then signS a else 0), .int .i64 a.err]) ∧ Below w.heap.size w w' := by
  obtain ⟨A, B, rfl, ha, hb, ox, oy⟩ := h
  have HC : Hid (∀ o : Obj, Calls Tryd.prog 28 #[.agg #[.bool a.neg, A, B]] (w.alloc o) fun e w' => e = .returned (.int .i64 a.err) ∧ Below (w.alloc o).heap.size (w.alloc o) w') := fun o => check_any a.neg a.num a.den A B _ (ha.to (below_one _ _)) (hb.to (below_one _ _)) ox oy
  obtain ⟨A', ca, rfl, _⟩ := ha
  obtain ⟨B', cb, rfl, _⟩ := hb
  have hbd : 0 ≤ a.err ∧ a.err ≤ 3 := checkL_bd _ _ _
  have HE : Hid ((if a.err = 0 then signS a else 0) = if a.err = 0 then (if a.num.length = 0 then 0 else if a.neg then -1 else 1) else 0) := rfl
  generalize (if a.err = 0 then signS a else 0) = rs at *
  generalize a.err = er at *
  generalize a.num.length = n at *
  generalize a.den.length = m at *
  generalize a.neg = neg at *
  have HBK := Lib.hid (Blk.new w 24 #[.bool neg, .slice A' n ca, .slice B' m cb])
  by_cases he : er = 0
  · subst he
    rw [if_pos rfl] at HE
    by_cases hn : n = 0
    · subst hn
      rw [if_pos rfl] at HE
      go_enter Tryd.func24, Tryd.ntmps24
      go_wp2_with fail
      refine (HC.out _).mono ?_
      rintro e w1 ⟨rfl, hb1⟩
      have hk := HBK.out.to hb1
      have c0 := hk.cell 0
      have c1 := hk.cell 1
      simp only [List.getElem?_toArray, List.getElem?_cons_zero, List.getElem?_cons_succ] at c0 c1
      clear hk
      go_wp2_with fail
      go_ret2
      rw [HE.out]
      exact ⟨rfl, (below_one w _).trans (hb1.mono (below_one w _).size)⟩
    · rw [if_neg hn] at HE
      have hn0 : ((n : Int) == 0) = false := beq_eq_false_iff_ne.2 (by omega)
      cases neg <;> simp only [if_true, if_false, Bool.false_eq_true] at HE
      all_goals
        go_enter Tryd.func24, Tryd.ntmps24
        go_wp2_with fail
        refine (HC.out _).mono ?_
        rintro e w1 ⟨rfl, hb1⟩
        have hk := HBK.out.to hb1
        have c0 := hk.cell 0
        have c1 := hk.cell 1
        simp only [List.getElem?_toArray, List.getElem?_cons_zero, List.getElem?_cons_succ] at c0 c1
        clear hk
        go_wp2_with fail
        go_ret2
        rw [HE.out]
        exact ⟨rfl, (below_one w _).trans (hb1.mono (below_one w _).size)⟩
  · have he1 : (er != 0) = true := by rw [bne_iff_ne]; exact he
    rw [if_neg he] at HE
    clear he
    go_enter Tryd.func24, Tryd.ntmps24
    go_wp2_with fail
    refine (HC.out _).mono ?_
    rintro e w1 ⟨rfl, hb1⟩
    go_wp2_with fail
    go_ret2
    rw [HE.out]
    exact ⟨rfl, (below_one w _).trans (hb1.mono (below_one w _).size)⟩

set_option maxRecDepth 100000 in
set_option maxHeartbeats 3200000 in
theorem same_S (a b : LN) (va vb : Value) (w : World) (ha : GV w va a) (hb : GV w vb b) : Calls Tryd.prog 13 #[va, vb] w fun e w' => e = .returned (.bool (sameB a b)) ∧ Below w.heap.size w w' := by
  obtain ⟨A1, A2, rfl, h1, h2, _, _⟩ := ha
  obtain ⟨A3, A4, rfl, h3, h4, _, _⟩ := hb
  have HB2 : Hid (∀ o1 o2 : Obj, Below w.heap.size w ((w.alloc o1).alloc o2)) := fun o1 o2 => (below_one w o1).alloc (by simp) o2
  have HS1 : Hid (∀ (W : World), Below w.heap.size w W → Calls Tryd.prog 37 #[A1, A3] W fun e w' => e = .returned (.bool (eqB a.num b.num)) ∧ ∃ m, w' = W.drewN m) := fun W hW => sameLimbs_any a.num b.num A1 A3 W (h1.to hW) (h3.to hW)
  have HS2 : Hid (∀ (W : World), Below w.heap.size w W → Calls Tryd.prog 37 #[A2, A4] W fun e w' => e = .returned (.bool (eqB a.den b.den)) ∧ ∃ m, w' = W.drewN m) := fun W hW => sameLimbs_any a.den b.den A2 A4 W (h2.to hW) (h4.to hW)
  obtain ⟨B1, c1, rfl, _⟩ := h1
  obtain ⟨B2, c2, rfl, _⟩ := h2
  obtain ⟨B3, c3, rfl, _⟩ := h3
  obtain ⟨B4, c4, rfl, _⟩ := h4
  have HE : Hid (sameB a b = ((a.neg == b.neg) && (eqB a.num b.num && eqB a.den b.den))) := rfl
  generalize sameB a b = r at *
  generalize eqB a.num b.num = p at *
  generalize eqB a.den b.den = q at *
  generalize a.num.length = n1 at *
  generalize a.den.length = n2 at *
  generalize b.num.length = n3 at *
  generalize b.den.length = n4 at *
  generalize a.neg = na at *
  generalize b.neg = nb at *
  by_cases hn : na = nb
  · have hn1 : (na == nb) = true := by simp [hn]
    rw [hn1] at HE
    subst hn
    cases p with
    | true =>
      go_enter Tryd.func13, Tryd.ntmps13
      go_wp2_with fail
      refine (HS1.out _ (by exact HB2.out _ _)).mono ?_
      rintro e w1 ⟨rfl, k1, rfl⟩
      go_wp2_with fail
      refine (HS2.out _ (by exact below_drewN (HB2.out _ _) _)).mono ?_
      rintro e w1 ⟨rfl, k2, rfl⟩
      go_wp2_with fail
      go_ret
      rw [HE.out]
      exact ⟨by cases q <;> rfl, below_drewN (HB2.out _ _) _⟩
    | false =>
      go_enter Tryd.func13, Tryd.ntmps13
      go_wp2_with fail
      refine (HS1.out _ (by exact HB2.out _ _)).mono ?_
      rintro e w1 ⟨rfl, k1, rfl⟩
      go_wp2_with fail
      go_ret
      rw [HE.out]
      exact ⟨rfl, below_drewN (HB2.out _ _) _⟩
  · have hn1 : (na == nb) = false := by simp [hn]
    rw [hn1] at HE
    clear hn
    go_enter Tryd.func13, Tryd.ntmps13
    go_wp2_with fail
    go_ret
    rw [HE.out]
    exact ⟨rfl, HB2.out _ _⟩
end Go.Proofs.YtfiedhopgmgnoaaDoor

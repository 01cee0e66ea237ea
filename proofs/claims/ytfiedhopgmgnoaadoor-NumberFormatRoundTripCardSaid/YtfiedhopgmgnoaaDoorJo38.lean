/- fetterlockref1.Cmp. The order of numbers, of the plain functions. -/
import Derived.Test.YtfiedhopgmgnoaaDoorJo37
set_option linter.unusedVariables false
set_option linter.unusedSimpArgs false
namespace Go.Proofs.YtfiedhopgmgnoaaDoor
open Go.RowKit NumB
set_option linter.unusedVariables false
set_option linter.unusedSimpArgs false

theorem digs16_len_mul (x y : Nat) : (digs W16 (x * y)).length ≤ (digs W16 x).length + (digs W16 y).length := by
  refine digs_len_le W16_gt ?_
  rw [Nat.pow_add]
  exact Nat.mul_lt_mul'' (digs_lt W16_gt) (digs_lt W16_gt)

set_option maxRecDepth 100000 in
set_option maxHeartbeats 6400000 in
theorem rcmpR_any (na nb : Bool) (xa ya xb yb : Nat) (va vb : Value) (w : World) (ha : RV w va na xa ya) (hb : RV w vb nb xb yb)
    (l1 : (digs W16 xa).length ≤ 10000) (l2 : (digs W16 ya).length ≤ 10000) (l3 : (digs W16 xb).length ≤ 10000) (l4 : (digs W16 yb).length ≤ 10000) :
    Calls Tryd.prog 17 #[va, vb] w fun e w' => e = .returned (.int .i64 (cmpQ na xa ya nb xb yb)) ∧ Below w.heap.size w w' := by
  obtain ⟨A1, A2, rfl, h1, h2⟩ := ha
  obtain ⟨A3, A4, rfl, h3, h4⟩ := hb
  obtain ⟨B1, n1, c1, rfl, e1⟩ := h1.form
  obtain ⟨B2, n2, c2, rfl, e2⟩ := h2.form
  obtain ⟨B3, n3, c3, rfl, e3⟩ := h3.form
  obtain ⟨B4, n4, c4, rfl, e4⟩ := h4.form
  have HL : Hid (((digs W16 xa).length ≤ 50000 ∧ (digs W16 ya).length ≤ 50000) ∧ ((digs W16 xb).length ≤ 50000 ∧ (digs W16 yb).length ≤ 50000)) := ⟨⟨by omega, by omega⟩, by omega, by omega⟩
  have HM : Hid ((digs W16 (xa * yb)).length ≤ 1000000 ∧ (digs W16 (xb * ya)).length ≤ 1000000) := ⟨Nat.le_trans (digs16_len_mul xa yb) (by omega), Nat.le_trans (digs16_len_mul xb ya) (by omega)⟩
  have HN : ∀ o1 o2 : Obj, Hid (Nat16 ((w.alloc o1).alloc o2).drew (.slice B1 n1 c1) xa ∧ Nat16 ((w.alloc o1).alloc o2).drew (.slice B2 n2 c2) ya ∧ Nat16 ((w.alloc o1).alloc o2).drew (.slice B3 n3 c3) xb ∧ Nat16 ((w.alloc o1).alloc o2).drew (.slice B4 n4 c4) yb) :=
    fun o1 o2 => ⟨h1.to (below_two w o1 o2).drew, h2.to (below_two w o1 o2).drew, h3.to (below_two w o1 o2).drew, h4.to (below_two w o1 o2).drew⟩
  have HB0 : Hid (∀ o1 o2 : Obj, Below w.heap.size w ((w.alloc o1).alloc o2).drew) := fun o1 o2 => (below_two w o1 o2).drew
  have HE : Hid (cmpQ na xa ya nb xb yb = if na = nb then (if na then -cmpI (xa * yb) (xb * ya) else cmpI (xa * yb) (xb * ya)) else if na then -1 else 1) := rfl
  generalize cmpQ na xa ya nb xb yb = r at *
  clear e1 e2 e3 e4 h1 h2 h3 h4 l1 l2 l3 l4
  have HBK := Lib.hid (blk2 w 41 41 #[.bool na, .slice B1 n1 c1, .slice B2 n2 c2] #[.bool nb, .slice B3 n3 c3, .slice B4 n4 c4])
  have hk : ∀ W1 W' : World, Below W1.heap.size W1 W' → (W1.cell? ⟨w.heap.size, 0, none⟩ = some (.bool na) ∧ W1.cell? ⟨w.heap.size, 1, none⟩ = some (.slice B1 n1 c1) ∧ W1.cell? ⟨w.heap.size, 2, none⟩ = some (.slice B2 n2 c2) ∧ W1.cell? ⟨w.heap.size + 1, 0, none⟩ = some (.bool nb) ∧ W1.cell? ⟨w.heap.size + 1, 1, none⟩ = some (.slice B3 n3 c3) ∧ W1.cell? ⟨w.heap.size + 1, 2, none⟩ = some (.slice B4 n4 c4) ∧ w.heap.size + 1 < W1.heap.size) → (W'.cell? ⟨w.heap.size, 0, none⟩ = some (.bool na) ∧ W'.cell? ⟨w.heap.size, 1, none⟩ = some (.slice B1 n1 c1) ∧ W'.cell? ⟨w.heap.size, 2, none⟩ = some (.slice B2 n2 c2) ∧ W'.cell? ⟨w.heap.size + 1, 0, none⟩ = some (.bool nb) ∧ W'.cell? ⟨w.heap.size + 1, 1, none⟩ = some (.slice B3 n3 c3) ∧ W'.cell? ⟨w.heap.size + 1, 2, none⟩ = some (.slice B4 n4 c4) ∧ w.heap.size + 1 < W'.heap.size) := fun W1 W' h1 ⟨a0, a1, a2, a3, a4, a5, a6⟩ => ⟨(h1.cell (p := ⟨w.heap.size, 0, none⟩) (by show w.heap.size < _; omega)).trans a0, (h1.cell (p := ⟨w.heap.size, 1, none⟩) (by show w.heap.size < _; omega)).trans a1, (h1.cell (p := ⟨w.heap.size, 2, none⟩) (by show w.heap.size < _; omega)).trans a2, (h1.cell (p := ⟨w.heap.size + 1, 0, none⟩) (by show w.heap.size + 1 < _; omega)).trans a3, (h1.cell (p := ⟨w.heap.size + 1, 1, none⟩) (by show w.heap.size + 1 < _; omega)).trans a4, (h1.cell (p := ⟨w.heap.size + 1, 2, none⟩) (by show w.heap.size + 1 < _; omega)).trans a5, Nat.lt_of_lt_of_le a6 h1.size⟩
  have HK := Lib.hid hk
  clear hk
  go_enter Tryd.func17, Tryd.ntmps17
  go_wp2_with fail
  go_region_held3 (fun w' => w'.cell? ⟨w.heap.size, 0, none⟩ = some (.bool na) ∧ w'.cell? ⟨w.heap.size, 1, none⟩ = some (.slice B1 n1 c1) ∧ w'.cell? ⟨w.heap.size, 2, none⟩ = some (.slice B2 n2 c2) ∧ w'.cell? ⟨w.heap.size + 1, 0, none⟩ = some (.bool nb) ∧ w'.cell? ⟨w.heap.size + 1, 1, none⟩ = some (.slice B3 n3 c3) ∧ w'.cell? ⟨w.heap.size + 1, 2, none⟩ = some (.slice B4 n4 c4) ∧ w.heap.size + 1 < w'.heap.size)
    (first | go_keep | (refine HK.out _ _ (by assumption) ?_; go_keep))
    (first
      | (go_at_call 48; ((with_reducible refine (rmul_any xa yb (.slice B1 n1 c1) (.slice B4 n4 c4) _ (by exact (HN _ _).out.1) (by exact (HN _ _).out.2.2.2) HL.out.1.1 HL.out.2.2).mono ?_)); rintro e w1 ⟨v1, rfl, hn1, hb1⟩)
      | (go_at_call 48; ((with_reducible refine (rmul_any xb ya (.slice B3 n3 c3) (.slice B2 n2 c2) _ (by exact (HN _ _).out.2.2.1.to hb1) (by exact (HN _ _).out.2.1.to hb1) HL.out.2.1 HL.out.1.2).mono ?_)); rintro e w2 ⟨v2, rfl, hn2, hb2⟩))
  have HBE : Hid (Below w.heap.size w w2) := ((HB0.out _ _).trans (hb1.mono (HB0.out _ _).size)).trans (hb2.mono (Nat.le_trans (HB0.out _ _).size hb1.size))
  have hk1 := (HBK.out.1.drew.to hb1).to hb2
  have hk2 := (HBK.out.2.drew.to hb1).to hb2
  have hca := hk1.cell 0
  have hcb := hk2.cell 0
  simp only [List.getElem?_toArray, List.getElem?_cons_zero] at hca hcb
  have HN1 := Lib.hid (hn1.to hb2)
  have HN2 := Lib.hid hn2
  clear hk1 hk2 hb1 hb2 hn1 hn2 HK HN
  cases na <;> cases nb
  all_goals simp only [if_true, if_false, Bool.false_eq_true, Bool.true_eq_false] at HE
  · go_wp2_with fail
    refine (rcmp_any (xa * yb) (xb * ya) _ _ _ (by exact HN1.out) (by exact HN2.out) HM.out.1 HM.out.2).mono ?_
    rintro e w3 ⟨rfl, rfl⟩
    go_wp2_with fail
    go_ret
    rw [HE.out]
    exact ⟨rfl, HBE.out⟩
  · go_wp2_with fail
    go_ret
    rw [HE.out]
    exact ⟨rfl, HBE.out⟩
  · go_wp2_with fail
    go_ret
    rw [HE.out]
    exact ⟨rfl, HBE.out⟩
  · go_wp2_with fail
    refine (rcmp_any (xb * ya) (xa * yb) _ _ _ (by exact HN2.out) (by exact HN1.out) HM.out.2 HM.out.1).mono ?_
    rintro e w3 ⟨he, rfl⟩
    rw [cmpI_swap] at he
    subst he
    go_wp2_with fail
    go_ret
    rw [HE.out]
    exact ⟨rfl, HBE.out⟩

/-- number.Compare at any two numbers. -/
def cmpS (a b : LN) : Int := cmpQ a.neg a.x a.y b.neg b.x b.y

set_option maxRecDepth 100000 in
set_option maxHeartbeats 6400000 in
theorem compare_S (a b : LN) (va vb : Value) (w : World) (ha : GV w va a) (hb : GV w vb b) :
    Calls Tryd.prog 16 #[va, vb] w fun e w' => e = .returned (.tuple #[.int .i64 (if err2 a.err b.err = 0 then cmpS a b else 0), .int .i64 (err2 a.err b.err)]) ∧ Below w.heap.size w w' := by
  obtain ⟨A1, A2, rfl, h1, h2, o1, o2⟩ := ha
  obtain ⟨A3, A4, rfl, h3, h4, o3, o4⟩ := hb
  have h : Two w a.neg b.neg A1 A2 A3 A4 a.num a.den b.num b.den := ⟨h1, h2, h3, h4⟩
  have HT := Lib.hid h
  have HPN : Hid (err2 a.err b.err = 0 → ∀ W : World, Two W a.neg b.neg A1 A2 A3 A4 a.num a.den b.num b.den → Calls Tryd.prog 47 #[.agg #[.bool a.neg, A1, A2], .agg #[.bool b.neg, A3, A4]] W fun e w' => e = .returned (.int .i64 (cmpS a b)) ∧ Below W.heap.size W w') := by
    intro he W hW
    obtain ⟨ea, eb⟩ := err2_zero.1 he
    obtain ⟨p1, p2, p3, p4, _⟩ := LN.good ⟨o1, o2⟩ ea
    obtain ⟨q1, q2, q3, q4, _⟩ := LN.good ⟨o3, o4⟩ eb
    refine compareNum_any a.neg b.neg a.x a.y b.x b.y _ _ _ _ W ?_ ?_ ?_ ?_ (by rw [p1]; omega) (by rw [p2]; omega) (by rw [q1]; omega) (by rw [q2]; omega)
    · unfold Nat32; rw [p1]; exact hW.1
    · unfold Nat32; rw [p2]; exact hW.2.1
    · unfold Nat32; rw [q1]; exact hW.2.2.1
    · unfold Nat32; rw [q2]; exact hW.2.2.2
  have HCK := Lib.hid (fun (W : World) (t : TypeId) (b' cap : Nat) (hb : W.heap.size = b') (hW : Two W a.neg b.neg A1 A2 A3 A4 a.num a.den b.num b.den) => checks_two' hW o1 o2 o3 o4 t b' cap hb)
  obtain ⟨B1, c1, rfl, _⟩ := h1
  obtain ⟨B2, c2, rfl, _⟩ := h2
  obtain ⟨B3, c3, rfl, _⟩ := h3
  obtain ⟨B4, c4, rfl, _⟩ := h4
  have hbd : 0 ≤ err2 a.err b.err ∧ err2 a.err b.err ≤ 3 := err2_bd (checkL_bd _ _ _) (checkL_bd _ _ _)
  have HE : Hid ((if err2 a.err b.err = 0 then cmpS a b else 0) = if err2 a.err b.err = 0 then cmpS a b else 0) := rfl
  have HCK2 : Hid (∀ (W : World) (t : TypeId) (b' cap : Nat), W.heap.size = b' → Two W a.neg b.neg (.slice B1 a.num.length c1) (.slice B2 a.den.length c2) (.slice B3 b.num.length c3) (.slice B4 b.den.length c4) a.num a.den b.num b.den → Calls Tryd.prog 46 #[.slice (some ⟨b', 0, none⟩) 2 cap] (W.alloc (.cells #[.bool a.neg, .slice B1 a.num.length c1, .slice B2 a.den.length c2, .bool b.neg, .slice B3 b.num.length c3, .slice B4 b.den.length c4] t)) fun e w' => e = .returned (.int .i64 (err2 a.err b.err)) ∧ Below (W.alloc (.cells #[.bool a.neg, .slice B1 a.num.length c1, .slice B2 a.den.length c2, .bool b.neg, .slice B3 b.num.length c3, .slice B4 b.den.length c4] t)).heap.size (W.alloc (.cells #[.bool a.neg, .slice B1 a.num.length c1, .slice B2 a.den.length c2, .bool b.neg, .slice B3 b.num.length c3, .slice B4 b.den.length c4] t)) w') := HCK.out
  clear HCK h
  generalize hrr : (if err2 a.err b.err = 0 then cmpS a b else 0) = rr at *
  have HRR := Lib.hid hrr
  clear hrr HE
  generalize cmpS a b = cc at *
  generalize err2 a.err b.err = er at *
  generalize a.num.length = n1 at *
  generalize a.den.length = n2 at *
  generalize b.num.length = n3 at *
  generalize b.den.length = n4 at *
  generalize a.neg = na at *
  generalize b.neg = nb at *
  have HBK := Lib.hid (blk2 w 24 24 #[.bool na, .slice B1 n1 c1, .slice B2 n2 c2] #[.bool nb, .slice B3 n3 c3, .slice B4 n4 c4])
  by_cases he : er = 0
  · subst he
    rw [if_pos rfl] at HRR
    have HPQ := Lib.hid (HPN.out rfl)
    clear HPN
    go_enter Tryd.func16, Tryd.ntmps16
    go_wp2_with fail
    refine (HCK2.out _ _ _ _ (by simp) (by exact HT.out.to (below_two w _ _))).mono ?_
    rintro e w1 ⟨rfl, hb1⟩
    have hb0 := (below_one _ _).trans (hb1.mono (below_one _ _).size)
    have hg1 := HBK.out.1.to hb0
    have hg2 := HBK.out.2.to hb0
    have a0 := hg1.cell 0
    have a1 := hg1.cell 1
    have a2 := hg1.cell 2
    have b0 := hg2.cell 0
    have b1 := hg2.cell 1
    have b2 := hg2.cell 2
    have HT1 := Lib.hid ((HT.out.to (below_two w _ _)).to hb0)
    have HBL : Hid (Below w.heap.size w w1) := (below_two w _ _).trans (hb0.mono (below_two w _ _).size)
    clear hg1 hg2 hb0 hb1
    simp only [List.getElem?_toArray, List.getElem?_cons_zero, List.getElem?_cons_succ] at a0 a1 a2 b0 b1 b2
    go_wp2_with fail
    refine (HPQ.out _ (by exact HT1.out)).mono ?_
    rintro e w2 ⟨rfl, hb2⟩
    go_wp2_with fail
    go_ret2
    rw [← HRR.out]
    exact ⟨rfl, HBL.out.trans (hb2.mono HBL.out.size)⟩
  · have he1 : (er != 0) = true := by rw [bne_iff_ne]; exact he
    rw [if_neg he] at HRR
    clear he
    go_enter Tryd.func16, Tryd.ntmps16
    go_wp2_with fail
    refine (HCK2.out _ _ _ _ (by simp) (by exact HT.out.to (below_two w _ _))).mono ?_
    rintro e w1 ⟨rfl, hb1⟩
    have hb0 := (below_one _ _).trans (hb1.mono (below_one _ _).size)
    go_wp2_with fail
    go_ret2
    rw [← HRR.out]
    exact ⟨rfl, (below_two w _ _).trans (hb0.mono (below_two w _ _).size)⟩
end Go.Proofs.YtfiedhopgmgnoaaDoor
namespace Go.Proofs.YtfiedhopgmgnoaaDoor
open Go.RowKit NumB
set_option linter.unusedVariables false
set_option linter.unusedSimpArgs false

def rcmp (p q : Rat) : Int := if p < q then -1 else if q < p then 1 else 0
theorem rcmp_anti (p q : Rat) : rcmp p q = -rcmp q p := by unfold rcmp; grind
theorem rcmp_zero (p q : Rat) : rcmp p q = 0 ↔ p = q := by unfold rcmp; grind
theorem rcmp_bd (p q : Rat) : -1 ≤ rcmp p q ∧ rcmp p q ≤ 1 := by unfold rcmp; grind
theorem rcmp_tr (p q r : Rat) (h1 : rcmp p q ≤ 0) (h2 : rcmp q r ≤ 0) : rcmp p r ≤ 0 := by unfold rcmp at *; grind
theorem rcmp_tr2 (p q r : Rat) (h1 : rcmp p q < 0) (h2 : rcmp q r < 0) : rcmp p r = -1 := by unfold rcmp at *; grind

theorem sg_scale (n : Bool) (x y : Nat) : RatB.sg n x * (y : Int) = RatB.sg n (x * y) := by
  unfold RatB.sg; cases n <;> simp [Int.neg_mul]
theorem q_lt {na nb : Bool} {xa ya xb yb : Nat} (ca : RatB.Canon na xa ya) (cb : RatB.Canon nb xb yb) : RatB.q na xa ya < RatB.q nb xb yb ↔ RatB.sg na (xa * yb) < RatB.sg nb (xb * ya) := by
  rw [Rat.lt_iff, (RatB.q_num ca).1, (RatB.q_num ca).2, (RatB.q_num cb).1, (RatB.q_num cb).2, sg_scale, sg_scale]
theorem cmpQ_rat {na nb : Bool} {xa ya xb yb : Nat} (ca : RatB.Canon na xa ya) (cb : RatB.Canon nb xb yb) : cmpQ na xa ya nb xb yb = rcmp (RatB.q na xa ya) (RatB.q nb xb yb) := by
  have h1 := q_lt ca cb
  have h2 := q_lt cb ca
  have p1 : na = true → 0 < xa * yb := fun h => Nat.mul_pos (Nat.pos_of_ne_zero fun h0 => by have := ca.2.2 h0; rw [h] at this; cases this) cb.1
  have p2 : nb = true → 0 < xb * ya := fun h => Nat.mul_pos (Nat.pos_of_ne_zero fun h0 => by have := cb.2.2 h0; rw [h] at this; cases this) ca.1
  unfold rcmp
  simp only [h1, h2]
  clear h1 h2
  unfold cmpQ cmpI
  generalize xa * yb = X at *
  generalize xb * ya = Y at *
  unfold RatB.sg
  cases na <;> cases nb <;> simp only [if_true, if_false, Bool.false_eq_true, Bool.true_eq_false]
  · split <;> split <;> (try split) <;> (try split) <;> omega
  · have := p2 rfl
    split <;> (try split) <;> omega
  · have := p1 rfl
    split <;> omega
  · split <;> split <;> (try split) <;> (try split) <;> omega

theorem LN.q_eq {a b : LN} (ha : a.ok) (hb : b.ok) (ea : a.err = 0) (eb : b.err = 0) (h : a.q = b.q) : a = b := by
  obtain ⟨p1, p2, _, _, p5⟩ := LN.good ha ea
  obtain ⟨q1, q2, _, _, q5⟩ := LN.good hb eb
  obtain ⟨e1, e2, e3⟩ := RatB.q_inj p5 q5 h
  obtain ⟨na, xa, ya⟩ := a
  obtain ⟨nb, xb, yb⟩ := b
  have h1 : xa = xb := by rw [← show digs W32 _ = xa from p1, ← show digs W32 _ = xb from q1, e2]
  have h2 : ya = yb := by rw [← show digs W32 _ = ya from p2, ← show digs W32 _ = yb from q2, e3]
  have h3 : na = nb := e1
  rw [h1, h2, h3]
theorem cmpS_rat {a b : LN} (ha : a.ok) (hb : b.ok) (ea : a.err = 0) (eb : b.err = 0) : cmpS a b = rcmp a.q b.q := cmpQ_rat (LN.good ha ea).2.2.2.2 (LN.good hb eb).2.2.2.2

/-- What the law asks of three valid numbers. -/
theorem order_law {a b c : LN} (ha : a.ok) (hb : b.ok) (hc : c.ok) (ea : a.err = 0) (eb : b.err = 0) (ec : c.err = 0) :
    cmpS a b = -cmpS b a ∧ (cmpS a b == 0) = sameB a b ∧ (-1 ≤ cmpS a b ∧ cmpS a b ≤ 1) ∧ (cmpS a b ≤ 0 → cmpS b c ≤ 0 → cmpS a c ≤ 0) ∧ (cmpS a b < 0 → cmpS b c < 0 → cmpS a c = -1) := by
  rw [cmpS_rat ha hb ea eb, cmpS_rat hb ha eb ea, cmpS_rat hb hc eb ec, cmpS_rat ha hc ea ec]
  refine ⟨rcmp_anti _ _, ?_, rcmp_bd _ _, rcmp_tr _ _ _, rcmp_tr2 _ _ _⟩
  by_cases h : a = b
  · subst h
    rw [sameB_true rfl, (rcmp_zero _ _).2 rfl]; rfl
  · have h1 : rcmp a.q b.q ≠ 0 := fun h0 => h (LN.q_eq ha hb ea eb ((rcmp_zero _ _).1 h0))
    have h2 : sameB a b = false := by
      cases hs : sameB a b with
      | false => rfl
      | true =>
        exfalso
        unfold sameB at hs
        simp only [Bool.and_eq_true, beq_iff_eq, eqB, decide_eq_true_eq] at hs
        obtain ⟨e1, e2, e3⟩ := hs
        obtain ⟨na, xa, ya⟩ := a
        obtain ⟨nb, xb, yb⟩ := b
        exact h (by rw [show na = nb from e1, show xa = xb from e2, show ya = yb from e3])
    rw [h2]
    exact beq_eq_false_iff_ne.2 h1
end Go.Proofs.YtfiedhopgmgnoaaDoor

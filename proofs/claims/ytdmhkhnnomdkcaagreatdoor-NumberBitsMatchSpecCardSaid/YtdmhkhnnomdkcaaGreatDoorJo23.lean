/-  -/
import Derived.Test.YtdmhkhnnomdkcaaGreatDoorJo12
import Derived.Test.YtdmhkhnnomdkcaaGreatDoorJo19
import Derived.Test.YtdmhkhnnomdkcaaGreatDoorJo20
import Derived.Test.YtdmhkhnnomdkcaaGreatDoorJo22
set_option linter.unusedVariables false
set_option linter.unusedSimpArgs false
/- number.Format, at any number. -/
namespace Go.Proofs.YtdmhkhnnomdkcaaGreatDoor
open Go.RowKit NumB
set_option linter.unusedVariables false
set_option linter.unusedSimpArgs false

/-- The text of a number. -/
def fmtL (neg : Bool) (x y : Nat) : List UInt8 := (if neg then [45] else []) ++ dec x ++ (if y = 1 then [] else 114 :: dec y)

def FmtPost (w : World) (err : Int) (l : List UInt8) (e : Ending) (w' : World) : Prop :=
  e = .returned (.tuple #[.string ⟨(if err = 0 then l else []).toArray⟩, .int .i64 err]) ∧ Below w.heap.size w w'

theorem digs10_len {x n : Nat} (h : (digs W32 x).length ≤ n) : (digs 10 x).length ≤ 10 * n := by
  refine digs_len_le (by decide) (Nat.lt_of_lt_of_le (digs_lt W32_gt) ?_)
  rw [Nat.pow_mul]
  exact Nat.le_trans (Nat.pow_le_pow_right (by decide) h) (Nat.pow_le_pow_left (by decide) n)
theorem dec_len {x : Nat} (h : (digs W32 x).length ≤ 128) : (dec x).length ≤ 1300 := by
  have h1 := digs10_len h
  unfold dec
  split
  · simp
  · unfold decL; rw [List.length_reverse, List.length_map]; omega

set_option maxRecDepth 100000 in
set_option maxHeartbeats 6400000 in
theorem format_any (neg : Bool) (xs ys : List Nat) (va vb : Value) (w : World) (ha : Sl .u32 w va xs) (hb : Sl .u32 w vb ys) (ox : Ok W32 xs) (oy : Ok W32 ys) :
    Calls Tryz.prog 33 #[.agg #[.bool neg, va, vb]] w (FmtPost w (checkL neg xs ys) (fmtL neg (val W32 xs) (val W32 ys))) := by
  have HC : Hid (∀ o : Obj, Calls Tryz.prog 58 #[.agg #[.bool neg, va, vb]] (w.alloc o) fun e w' => e = .returned (.int .i64 (checkL neg xs ys)) ∧ Below (w.alloc o).heap.size (w.alloc o) w') := fun o => check_any neg xs ys va vb _ (ha.to (below_one _ _)) (hb.to (below_one _ _)) ox oy
  have HN : Hid (checkL neg xs ys = 0 → (∀ o : Obj, Nat32 (w.alloc o) va (val W32 xs) ∧ Nat32 (w.alloc o) vb (val W32 ys)) ∧ (digs W32 (val W32 xs)).length ≤ 128 ∧ (digs W32 (val W32 ys)).length ≤ 128) := by
    intro h
    obtain ⟨a1, a2, a3, a4, _⟩ := checkL_zero ox oy h
    refine ⟨fun o => ⟨?_, ?_⟩, by rw [a1]; exact a3, by rw [a2]; exact a4⟩
    · unfold Nat32; rw [a1]; exact ha.to (below_one _ _)
    · unfold Nat32; rw [a2]; exact hb.to (below_one _ _)
  obtain ⟨A, ca, rfl, _⟩ := ha
  obtain ⟨A', cb, rfl, _⟩ := hb
  have hbd := checkL_bd neg xs ys
  generalize checkL neg xs ys = er at *
  generalize val W32 xs = x at *
  generalize val W32 ys = y at *
  generalize hz1 : xs.length = n at *
  generalize hz2 : ys.length = m at *
  clear hz1 hz2 ox oy
  have HBK := Lib.hid (Blk.new w 24 #[.bool neg, .slice A n ca, .slice A' m cb])
  by_cases he : er = 0
  · subst he
    obtain ⟨h1, h2, h3⟩ := HN.out rfl
    have HNX := Lib.hid h1
    have HLX := Lib.hid (And.intro h2 h3)
    clear HN h1 h2 h3 hbd
    cases neg with
    | false =>
      by_cases hy1 : y = 1
      · have HO := Lib.hid (oneB_true hy1)
        have E : Hid (fmtL false x y = dec x) := by unfold Hid fmtL; rw [if_pos hy1]; simp
        clear hy1
        go_enter Tryz.func33, Tryz.ntmps33
        go_wp2_with fail
        refine (HC.out _).mono ?_
        rintro e w1 ⟨rfl, hb1⟩
        have hk := HBK.out.to hb1
        have c0 := hk.cell 0
        have c1 := hk.cell 1
        have c2 := hk.cell 2
        simp only [List.getElem?_toArray, List.getElem?_cons_zero, List.getElem?_cons_succ] at c0 c1 c2
        have HK1 := Lib.hid hk
        have HB1 := Lib.hid hb1
        clear hk hb1
        go_wp2_with fail
        refine (decimal_any x _ _ (by exact (HNX.out _).1.to HB1.out) (Nat.le_trans HLX.out.1 (by omega))).mono ?_
        rintro e w2 ⟨rfl, hb2⟩
        have hk := HK1.out.to hb2
        have d0 := hk.cell 0
        have d1 := hk.cell 1
        have d2 := hk.cell 2
        simp only [List.getElem?_toArray, List.getElem?_cons_zero, List.getElem?_cons_succ] at d0 d1 d2
        have HK2 := Lib.hid hk
        have HB2 := Lib.hid (HB1.out.trans (hb2.mono HB1.out.size))
        clear hk hb2 c0 c1 c2
        have hlx := dec_len HLX.out.1
        generalize hdx : dec x = lx at *
        clear hdx
        go_wp2_with fail
        refine (isOne_any y _ _ (by exact (HNX.out _).2.to HB2.out)).mono ?_
        rintro e w3 ⟨rfl, rfl⟩
        rw [HO.out]
        go_wp2_with fail
        go_ret2
        unfold FmtPost
        rw [E.out, if_pos rfl]
        exact ⟨rfl, (below_one w _).trans (HB2.out.mono (below_one w _).size)⟩
      · have HO := Lib.hid (oneB_false hy1)
        have E : Hid (fmtL false x y = (dec x ++ 114 :: dec y)) := by unfold Hid fmtL; rw [if_neg hy1]; simp
        clear hy1
        go_enter Tryz.func33, Tryz.ntmps33
        go_wp2_with fail
        refine (HC.out _).mono ?_
        rintro e w1 ⟨rfl, hb1⟩
        have hk := HBK.out.to hb1
        have c0 := hk.cell 0
        have c1 := hk.cell 1
        have c2 := hk.cell 2
        simp only [List.getElem?_toArray, List.getElem?_cons_zero, List.getElem?_cons_succ] at c0 c1 c2
        have HK1 := Lib.hid hk
        have HB1 := Lib.hid hb1
        clear hk hb1
        go_wp2_with fail
        refine (decimal_any x _ _ (by exact (HNX.out _).1.to HB1.out) (Nat.le_trans HLX.out.1 (by omega))).mono ?_
        rintro e w2 ⟨rfl, hb2⟩
        have hk := HK1.out.to hb2
        have d0 := hk.cell 0
        have d1 := hk.cell 1
        have d2 := hk.cell 2
        simp only [List.getElem?_toArray, List.getElem?_cons_zero, List.getElem?_cons_succ] at d0 d1 d2
        have HK2 := Lib.hid hk
        have HB2 := Lib.hid (HB1.out.trans (hb2.mono HB1.out.size))
        clear hk hb2 c0 c1 c2
        have hlx := dec_len HLX.out.1
        generalize hdx : dec x = lx at *
        clear hdx
        go_wp2_with fail
        refine (isOne_any y _ _ (by exact (HNX.out _).2.to HB2.out)).mono ?_
        rintro e w3 ⟨rfl, rfl⟩
        rw [HO.out]
        go_wp2_with fail
        refine (decimal_any y _ _ (by exact (HNX.out _).2.to HB2.out) (Nat.le_trans HLX.out.2 (by omega))).mono ?_
        rintro e w4 ⟨rfl, hb4⟩
        have HB4 := Lib.hid (HB2.out.trans (hb4.mono HB2.out.size))
        clear hb4
        have hly := dec_len HLX.out.2
        generalize hdy : dec y = ly at *
        clear hdy
        go_wp2_with fail
        go_ret2
        unfold FmtPost
        rw [E.out, if_pos rfl]
        exact ⟨rfl, (below_one w _).trans (HB4.out.mono (below_one w _).size)⟩
    | true =>
      by_cases hy1 : y = 1
      · have HO := Lib.hid (oneB_true hy1)
        have E : Hid (fmtL true x y = 45 :: dec x) := by unfold Hid fmtL; rw [if_pos hy1]; simp
        clear hy1
        go_enter Tryz.func33, Tryz.ntmps33
        go_wp2_with fail
        refine (HC.out _).mono ?_
        rintro e w1 ⟨rfl, hb1⟩
        have hk := HBK.out.to hb1
        have c0 := hk.cell 0
        have c1 := hk.cell 1
        have c2 := hk.cell 2
        simp only [List.getElem?_toArray, List.getElem?_cons_zero, List.getElem?_cons_succ] at c0 c1 c2
        have HK1 := Lib.hid hk
        have HB1 := Lib.hid hb1
        clear hk hb1
        go_wp2_with fail
        refine (decimal_any x _ _ (by exact (HNX.out _).1.to HB1.out) (Nat.le_trans HLX.out.1 (by omega))).mono ?_
        rintro e w2 ⟨rfl, hb2⟩
        have hk := HK1.out.to hb2
        have d0 := hk.cell 0
        have d1 := hk.cell 1
        have d2 := hk.cell 2
        simp only [List.getElem?_toArray, List.getElem?_cons_zero, List.getElem?_cons_succ] at d0 d1 d2
        have HK2 := Lib.hid hk
        have HB2 := Lib.hid (HB1.out.trans (hb2.mono HB1.out.size))
        clear hk hb2 c0 c1 c2
        have hlx := dec_len HLX.out.1
        generalize hdx : dec x = lx at *
        clear hdx
        go_wp2_with fail
        refine (isOne_any y _ _ (by exact (HNX.out _).2.to HB2.out)).mono ?_
        rintro e w3 ⟨rfl, rfl⟩
        rw [HO.out]
        go_wp2_with fail
        go_ret2
        unfold FmtPost
        rw [E.out, if_pos rfl]
        exact ⟨rfl, (below_one w _).trans (HB2.out.mono (below_one w _).size)⟩
      · have HO := Lib.hid (oneB_false hy1)
        have E : Hid (fmtL true x y = 45 :: (dec x ++ 114 :: dec y)) := by unfold Hid fmtL; rw [if_neg hy1]; simp
        clear hy1
        go_enter Tryz.func33, Tryz.ntmps33
        go_wp2_with fail
        refine (HC.out _).mono ?_
        rintro e w1 ⟨rfl, hb1⟩
        have hk := HBK.out.to hb1
        have c0 := hk.cell 0
        have c1 := hk.cell 1
        have c2 := hk.cell 2
        simp only [List.getElem?_toArray, List.getElem?_cons_zero, List.getElem?_cons_succ] at c0 c1 c2
        have HK1 := Lib.hid hk
        have HB1 := Lib.hid hb1
        clear hk hb1
        go_wp2_with fail
        refine (decimal_any x _ _ (by exact (HNX.out _).1.to HB1.out) (Nat.le_trans HLX.out.1 (by omega))).mono ?_
        rintro e w2 ⟨rfl, hb2⟩
        have hk := HK1.out.to hb2
        have d0 := hk.cell 0
        have d1 := hk.cell 1
        have d2 := hk.cell 2
        simp only [List.getElem?_toArray, List.getElem?_cons_zero, List.getElem?_cons_succ] at d0 d1 d2
        have HK2 := Lib.hid hk
        have HB2 := Lib.hid (HB1.out.trans (hb2.mono HB1.out.size))
        clear hk hb2 c0 c1 c2
        have hlx := dec_len HLX.out.1
        generalize hdx : dec x = lx at *
        clear hdx
        go_wp2_with fail
        refine (isOne_any y _ _ (by exact (HNX.out _).2.to HB2.out)).mono ?_
        rintro e w3 ⟨rfl, rfl⟩
        rw [HO.out]
        go_wp2_with fail
        refine (decimal_any y _ _ (by exact (HNX.out _).2.to HB2.out) (Nat.le_trans HLX.out.2 (by omega))).mono ?_
        rintro e w4 ⟨rfl, hb4⟩
        have HB4 := Lib.hid (HB2.out.trans (hb4.mono HB2.out.size))
        clear hb4
        have hly := dec_len HLX.out.2
        generalize hdy : dec y = ly at *
        clear hdy
        go_wp2_with fail
        go_ret2
        unfold FmtPost
        rw [E.out, if_pos rfl]
        exact ⟨rfl, (below_one w _).trans (HB4.out.mono (below_one w _).size)⟩
  · have he1 : (er != 0) = true := by rw [bne_iff_ne]; exact he
    have HE := Lib.hid he
    clear he HN
    go_enter Tryz.func33, Tryz.ntmps33
    go_wp2_with fail
    refine (HC.out _).mono ?_
    rintro e w1 ⟨rfl, hb1⟩
    go_wp2_with fail
    go_ret2
    unfold FmtPost
    rw [if_neg HE.out]
    exact ⟨rfl, (below_one w _).trans (hb1.mono (below_one w _).size)⟩
end Go.Proofs.YtdmhkhnnomdkcaaGreatDoor
/- fetterlocklaw1.counted: a small sum, from text to text. -/
namespace Go.Proofs.YtdmhkhnnomdkcaaGreatDoor
open Go.RowKit NumB
set_option linter.unusedVariables false
set_option linter.unusedSimpArgs false

/-- A canonical number in lowest terms has no fault. -/
theorem checkL_good {neg : Bool} {x y : Nat} (hx : (digs W32 x).length ≤ 128) (hy : (digs W32 y).length ≤ 128) (hy0 : 0 < y) (hg : Nat.gcd x y = 1) (hs : x = 0 → neg = false) : checkL neg (digs W32 x) (digs W32 y) = 0 := by
  have last : ∀ z, lastB (digs W32 z) = false := fun z => by
    unfold lastB
    refine decide_eq_false fun h => ?_
    have ht := top_digs W32_gt z
    apply ht
    rw [List.getLast?_eq_getElem?]
    have h2 := h.2
    rw [List.getD_eq_getElem?_getD, List.getElem?_eq_getElem (by omega)] at h2
    rw [List.getElem?_eq_getElem (by omega)]
    simpa using h2
  unfold checkL
  rw [if_neg (by omega), if_neg, val_digs W32_gt, val_digs W32_gt]
  · unfold checkN
    by_cases h0 : x = 0
    · rw [if_pos h0, if_pos ⟨hs h0, by rw [h0, Nat.gcd_zero_left] at hg; exact hg⟩]
    · rw [if_neg h0, if_pos (.inr (.inr hg))]
  · rintro (h | h | h)
    · rw [last] at h; cases h
    · rw [last] at h; cases h
    · exact absurd ((digs_nil W32_gt).1 (List.eq_nil_of_length_eq_zero h)) (by omega)

theorem small128 {x : Nat} (h : x ≤ 1000) : (digs W32 x).length ≤ 128 := Nat.le_trans (small32 (by omega)) (by omega)

/-- A number without an error. -/
def RawPostT (w : World) (neg : Bool) (x y : Nat) (e : Ending) (w' : World) : Prop := ∃ v, e = .returned (.tuple #[v, .int .i64 0]) ∧ NumV w' v neg x y ∧ Below w.heap.size w w'
theorem rawPostT_of {w w' : World} {sg neg : Bool} {x y a b : Nat} {e : Ending} (hab : a ≤ 1000 ∧ b ≤ 1000) (hq : sg = neg ∧ x = a ∧ y = b) (h : OpPost w 0 sg x y e w') : RawPostT w neg a b e w' := by
  obtain ⟨rfl, rfl, rfl⟩ := hq
  rcases h with ⟨h, _⟩ | ⟨_, ⟨_, v, he, hn, hb⟩ | ⟨hf, _⟩⟩
  · exact absurd rfl h
  · exact ⟨v, he, hn, hb⟩
  · exact absurd (decide_eq_true (⟨small128 hab.1, small128 hab.2⟩ : _ ∧ _)) (by unfold fitB at hf; rw [hf]; simp)

theorem two_of {w : World} {na nb : Bool} {A1 A2 A3 A4 : Value} {xa ya xb yb : Nat} (h1 : NumV w (.agg #[.bool na, A1, A2]) na xa ya) (h2 : NumV w (.agg #[.bool nb, A3, A4]) nb xb yb) : Two w na nb A1 A2 A3 A4 (digs W32 xa) (digs W32 ya) (digs W32 xb) (digs W32 yb) :=
  ⟨h1.parts.2.1, h1.parts.2.2, h2.parts.2.1, h2.parts.2.2⟩
theorem fmt_eleven : fmtL false 11 2 = [49, 49, 114, 50] := by
  unfold fmtL
  rw [dec_eleven, dec_two]
  rfl

def tA : ByteArray := ⟨#[45, 48, 54, 114, 52]⟩
def tB : ByteArray := ⟨#[55]⟩

theorem parseA (w : World) : Calls Tryz.prog 31 #[.string ⟨#[45, 48, 54, 114, 52]⟩] w (RawPostT w true 3 2) := by
  refine (parse_any tA w (by decide)).mono fun e w' h => ?_
  have e1 : parseErr tA.data.toList = 0 := by decide +kernel
  have e2 : pNeg tA.data.toList = true := by decide +kernel
  have e3 : dval (pCut tA.data.toList).1 = 6 := by decide +kernel
  have e4 : pDen tA.data.toList = 4 := by decide +kernel
  unfold ParsePost at h
  rw [e1, e2, e3, e4] at h
  exact rawPostT_of (by decide) (by decide) h
theorem parseB (w : World) : Calls Tryz.prog 31 #[.string ⟨#[55]⟩] w (RawPostT w false 7 1) := by
  refine (parse_any tB w (by decide)).mono fun e w' h => ?_
  have e1 : parseErr tB.data.toList = 0 := by decide +kernel
  have e2 : pNeg tB.data.toList = false := by decide +kernel
  have e3 : dval (pCut tB.data.toList).1 = 7 := by decide +kernel
  have e4 : pDen tB.data.toList = 1 := by decide +kernel
  unfold ParsePost at h
  rw [e1, e2, e3, e4] at h
  exact rawPostT_of (by decide) (by decide) h

set_option maxRecDepth 100000 in
set_option maxHeartbeats 3200000 in
theorem counted_any (w : World) : Calls Tryz.prog 8 #[] w fun e w' => e = .returned (.bool true) ∧ Below w.heap.size w w' := by
  go_enter Tryz.func8, Tryz.ntmps8
  go_wp2_with fail
  refine (parseA _).mono ?_
  rintro e w1 ⟨v1, rfl, hn1, hb1⟩
  obtain ⟨A1, n1, c1, A2, n2, c2, rfl, hz1, hz2⟩ := hn1.form
  have HN1 := Lib.hid hn1
  have HB1 := Lib.hid hb1
  clear hz1 hz2 hn1 hb1
  go_wp2_with fail
  refine (parseB _).mono ?_
  rintro e w2 ⟨v2, rfl, hn2, hb2⟩
  obtain ⟨A3, n3, c3, A4, n4, c4, rfl, hz1, hz2⟩ := hn2.form
  have HN1' := Lib.hid ((HN1.out.to (below_one w1 _)).to hb2)
  have HK1 := Lib.hid ((Blk.new w1 24 #[.bool true, .slice A1 n1 c1, .slice A2 n2 c2]).to hb2)
  have HN2 := Lib.hid hn2
  have HB2 : Hid (Below w.heap.size w w2) := (HB1.out.trans ((below_one w1 _).mono HB1.out.size)).trans (hb2.mono (Nat.le_trans HB1.out.size (below_one w1 _).size))
  clear hz1 hz2 hn2 hb2 HN1 HB1
  have c0 := fun o : Obj => (HK1.out.alloc o).cell 0
  have c1' := fun o : Obj => (HK1.out.alloc o).cell 1
  have c2' := fun o : Obj => (HK1.out.alloc o).cell 2
  simp only [List.getElem?_toArray, List.getElem?_cons_zero, List.getElem?_cons_succ] at c0 c1' c2'
  have HAD := Lib.hid (fun (W : World) (h : Two W true false (.slice A1 n1 c1) (.slice A2 n2 c2) (.slice A3 n3 c3) (.slice A4 n4 c4) (digs W32 3) (digs W32 2) (digs W32 7) (digs W32 1)) =>
    addNum_any true false (digs W32 3) (digs W32 2) (digs W32 7) (digs W32 1) _ _ _ _ W h (ok_digs W32_gt _) (ok_digs W32_gt _) (ok_digs W32_gt _) (ok_digs W32_gt _) false 11 2 (by simp only [val_digs W32_gt]; rfl) (by simp only [val_digs W32_gt]))
  go_wp2_with fail
  refine (HAD.out _ (by exact two_of (HN1'.out.to (below_one w2 _)) (HN2.out.to (below_one w2 _)))).mono ?_
  intro e w3 h
  rw [checkL_good (small128 (by decide)) (small128 (by decide)) (by decide) (by decide) (by decide), checkL_good (small128 (by decide)) (small128 (by decide)) (by decide) (by decide) (by decide)] at h
  obtain ⟨v3, rfl, hn3, hb3⟩ : RawPostT _ false 11 2 e w3 := rawPostT_of (by decide) (by decide) h
  obtain ⟨A5, n5, c5, A6, n6, c6, rfl, hz1, hz2⟩ := hn3.form
  have HN3 := Lib.hid hn3
  have HB3 : Hid (Below w.heap.size w w3) := (HB2.out.trans ((below_one w2 _).mono HB2.out.size)).trans (hb3.mono (Nat.le_trans HB2.out.size (below_one w2 _).size))
  clear hz1 hz2 hn3 hb3 HB2 h c0 c1' c2' HK1 HAD HN1' HN2
  have HFM := Lib.hid (fun (W : World) (h : NumV W (.agg #[.bool false, .slice A5 n5 c5, .slice A6 n6 c6]) false 11 2) => format_any false (digs W32 11) (digs W32 2) (.slice A5 n5 c5) (.slice A6 n6 c6) W h.parts.2.1 h.parts.2.2 (ok_digs W32_gt _) (ok_digs W32_gt _))
  go_wp2_with fail
  refine (HFM.out _ (by exact HN3.out.to (below_one w3 _))).mono ?_
  rintro e w4 ⟨he, hb4⟩
  rw [checkL_good (small128 (by decide)) (small128 (by decide)) (by decide) (by decide) (by decide), val_digs W32_gt, val_digs W32_gt, if_pos rfl, fmt_eleven] at he
  subst he
  go_wp2_with fail
  go_ret
  exact ⟨rfl, (HB3.out.trans ((below_one w3 _).mono HB3.out.size)).trans (hb4.mono (Nat.le_trans HB3.out.size (below_one w3 _).size))⟩
end Go.Proofs.YtdmhkhnnomdkcaaGreatDoor
/- The field laws, of the plain functions. -/
namespace Go.Proofs.YtdmhkhnnomdkcaaGreatDoor
open Go.RowKit NumB
set_option linter.unusedVariables false
set_option linter.unusedSimpArgs false

def LN.q (a : LN) : Rat := RatB.q a.neg a.x a.y
def mulS (a b : LN) : LN × Int := fracS (err2 a.err b.err) (a.neg != b.neg) (a.x * b.x) (a.y * b.y)
def subS (a b : LN) : LN × Int := fracS (err2 a.err b.err) (sumN a.neg (a.x * b.y) (b.neg != true) (b.x * a.y)).1 (sumN a.neg (a.x * b.y) (b.neg != true) (b.x * a.y)).2 (a.y * b.y)
def divS (a b : LN) : LN × Int := if err2 a.err b.err = 0 then (if b.num.length = 0 then (zeroL, 10) else fracS 0 (a.neg != b.neg) (a.x * b.y) (a.y * b.x)) else (zeroL, err2 a.err b.err)

theorem sumN_sg (na nb : Bool) (x y : Nat) : RatB.sg (sumN na x nb y).1 (sumN na x nb y).2 = RatB.sg na x + RatB.sg nb y := by
  unfold sumN
  by_cases h : na = nb
  · subst h; rw [if_pos rfl]; unfold RatB.sg; cases na <;> simp <;> omega
  · rw [if_neg h]
    by_cases h2 : y ≤ x
    · rw [if_pos h2]; unfold RatB.sg; cases na <;> cases nb <;> simp at h ⊢ <;> omega
    · rw [if_neg h2]; unfold RatB.sg; cases na <;> cases nb <;> simp at h ⊢ <;> omega

theorem opS_err {er : Int} {s : Bool} {x y : Nat} (h : (opS er s x y).2 = 0) : er = 0 := by
  unfold opS at h
  by_cases he : er = 0
  · exact he
  · rw [if_neg he] at h; exact h
theorem fracS_ok {s : Bool} {n d : Nat} (hd : 0 < d) (h : (fracS 0 s n d).2 = 0) : (fracS 0 s n d).1.ok ∧ (fracS 0 s n d).1.err = 0 ∧ (fracS 0 s n d).1.q = mkRat (RatB.sg s n) d := by
  have hc := RatB.canon_norm (neg := s) (n := n) hd
  have hq := RatB.q_norm (neg := s) (n := n) hd
  unfold fracS opS at *
  rw [if_pos rfl] at h ⊢
  generalize (s && decide (0 < n)) = s' at *
  generalize n / Nat.gcd n d = x' at *
  generalize d / Nat.gcd n d = y' at *
  cases hf : fitB x' y' with
  | false => rw [hf] at h; simp at h
  | true =>
    have hf2 := of_decide_eq_true (show decide _ = true from hf)
    simp only [if_true]
    refine ⟨⟨ok_digs W32_gt _, ok_digs W32_gt _⟩, checkL_good hf2.1 hf2.2 hc.1 hc.2.1 hc.2.2, ?_⟩
    unfold LN.q LN.x LN.y
    rw [val_digs W32_gt, val_digs W32_gt]
    exact hq
theorem fracS_eq {s : Bool} {n d : Nat} {c : LN} (hd : 0 < d) (hc : c.ok) (he : c.err = 0) (h : mkRat (RatB.sg s n) d = c.q) : fracS 0 s n d = (c, 0) := by
  obtain ⟨g1, g2, g3, g4, g5⟩ := LN.good hc he
  have hcn := RatB.canon_norm (neg := s) (n := n) hd
  have hq := RatB.q_norm (neg := s) (n := n) hd
  rw [h] at hq
  obtain ⟨e1, e2, e3⟩ := RatB.q_inj hcn g5 hq
  unfold fracS opS
  rw [if_pos rfl, e1, e2, e3, if_pos, g1, g2]
  exact decide_eq_true ⟨by rw [g1]; exact g3, by rw [g2]; exact g4⟩

theorem addS_ok {a b : LN} (ha : a.ok) (hb : b.ok) (h : (addS a b).2 = 0) : a.err = 0 ∧ b.err = 0 ∧ (addS a b).1.ok ∧ (addS a b).1.err = 0 ∧ (addS a b).1.q = a.q + b.q := by
  have he := opS_err h
  obtain ⟨e1, e2⟩ := err2_zero.1 he
  have ga := (LN.good ha e1).2.2.2.2
  have gb := (LN.good hb e2).2.2.2.2
  unfold addS at *
  rw [he] at h ⊢
  obtain ⟨f1, f2, f3⟩ := fracS_ok (Nat.mul_pos ga.1 gb.1) h
  refine ⟨e1, e2, f1, f2, f3.trans ?_⟩
  rw [sumN_sg, RatB.q_add ga.1 gb.1]; rfl
theorem mulS_ok {a b : LN} (ha : a.ok) (hb : b.ok) (h : (mulS a b).2 = 0) : a.err = 0 ∧ b.err = 0 ∧ (mulS a b).1.ok ∧ (mulS a b).1.err = 0 ∧ (mulS a b).1.q = a.q * b.q := by
  have he := opS_err h
  obtain ⟨e1, e2⟩ := err2_zero.1 he
  have ga := (LN.good ha e1).2.2.2.2
  have gb := (LN.good hb e2).2.2.2.2
  unfold mulS at *
  rw [he] at h ⊢
  obtain ⟨f1, f2, f3⟩ := fracS_ok (Nat.mul_pos ga.1 gb.1) h
  refine ⟨e1, e2, f1, f2, f3.trans ?_⟩
  rw [RatB.q_mul]; rfl
theorem addS_eq {a b c : LN} (ha : a.ok) (hb : b.ok) (hc : c.ok) (ea : a.err = 0) (eb : b.err = 0) (ec : c.err = 0) (h : a.q + b.q = c.q) : addS a b = (c, 0) := by
  have ga := (LN.good ha ea).2.2.2.2
  have gb := (LN.good hb eb).2.2.2.2
  unfold addS
  rw [err2_zero.2 ⟨ea, eb⟩]
  refine fracS_eq (Nat.mul_pos ga.1 gb.1) hc ec ?_
  rw [sumN_sg, RatB.q_add ga.1 gb.1, ← h]; rfl
theorem subS_eq {a b c : LN} (ha : a.ok) (hb : b.ok) (hc : c.ok) (ea : a.err = 0) (eb : b.err = 0) (ec : c.err = 0) (h : a.q - b.q = c.q) : subS a b = (c, 0) := by
  have ga := (LN.good ha ea).2.2.2.2
  have gb := (LN.good hb eb).2.2.2.2
  unfold subS
  rw [err2_zero.2 ⟨ea, eb⟩]
  refine fracS_eq (Nat.mul_pos ga.1 gb.1) hc ec ?_
  rw [sumN_sg, RatB.q_add ga.1 gb.1, ← h, show (b.neg != true) = !b.neg by cases b.neg <;> rfl, RatB.q_neg, Rat.sub_eq_add_neg]; rfl
theorem divS_eq {a b c : LN} (ha : a.ok) (hb : b.ok) (hc : c.ok) (ea : a.err = 0) (eb : b.err = 0) (ec : c.err = 0) (hn : b.num.length ≠ 0) (h : c.q * b.q = a.q) : divS a b = (c, 0) := by
  obtain ⟨_, _, _, _, ga⟩ := LN.good ha ea
  obtain ⟨g1, _, _, _, gb⟩ := LN.good hb eb
  have hx : 0 < b.x := by
    rcases Nat.eq_zero_or_pos b.x with h0 | h0
    · rw [h0, digs_zero] at g1; exact absurd (by rw [← g1]; rfl) hn
    · exact h0
  unfold divS
  rw [if_pos (err2_zero.2 ⟨ea, eb⟩), if_neg hn]
  refine fracS_eq (Nat.mul_pos ga.1 hx) hc ec ?_
  have e1 : mkRat (RatB.sg (a.neg != b.neg) (a.x * b.y)) (a.y * b.x) = RatB.q a.neg a.x a.y * RatB.q b.neg b.y b.x := RatB.q_mul
  have e2 := RatB.q_inv (n := b.neg) hx gb.1
  rw [e1]
  have e3 : RatB.q a.neg a.x a.y = c.q * RatB.q b.neg b.x b.y := h.symm
  rw [e3, Rat.mul_assoc, Rat.mul_comm (RatB.q b.neg b.x b.y), e2, Rat.mul_one]

/-- What the law asks. -/
theorem field_law {a b c : LN} (ha : a.ok) (hb : b.ok) (hc : c.ok) (h1 : (addS a b).2 = 0) (h2 : (mulS (addS a b).1 c).2 = 0) (h3 : (mulS a c).2 = 0) (h4 : (mulS b c).2 = 0) :
    addS (mulS a c).1 (mulS b c).1 = ((mulS (addS a b).1 c).1, 0) ∧ subS (addS a b).1 b = (a, 0) ∧ c.err = 0 ∧ (c.num.length ≠ 0 → divS (mulS a c).1 c = (a, 0)) := by
  obtain ⟨a1, a2, a3, a4, a5⟩ := addS_ok ha hb h1
  obtain ⟨b1, b2, b3, b4, b5⟩ := mulS_ok a3 hc h2
  obtain ⟨c1, c2, c3, c4, c5⟩ := mulS_ok ha hc h3
  obtain ⟨d1, d2, d3, d4, d5⟩ := mulS_ok hb hc h4
  refine ⟨addS_eq c3 d3 b3 c4 d4 b4 ?_, subS_eq a3 hb ha a4 a2 a1 ?_, b2, fun hn => divS_eq c3 hc ha c4 b2 a1 hn c5.symm⟩
  · rw [c5, d5, b5, a5, Rat.add_mul]
  · rw [a5]; grind
end Go.Proofs.YtdmhkhnnomdkcaaGreatDoor

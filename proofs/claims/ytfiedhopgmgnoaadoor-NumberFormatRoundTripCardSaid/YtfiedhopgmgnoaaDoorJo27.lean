/- number.Format, at any number. -/
import Derived.Test.YtfiedhopgmgnoaaDoorJo20
import Derived.Test.YtfiedhopgmgnoaaDoorJo26
set_option linter.unusedVariables false
set_option linter.unusedSimpArgs false
namespace Go.Proofs.YtfiedhopgmgnoaaDoor
open Go.RowKit NumB
set_option linter.unusedVariables false
set_option linter.unusedSimpArgs false

/-- The text of a number. -/
def fmtL (neg : Bool) (x y : Nat) : List UInt8 := (if neg then [45] else []) ++ dec x ++ (if y = 1 then [] else 114 :: dec y)

def FmtPost (w : World) (err : Int) (l : List UInt8) (e : Ending) (w' : World) : Prop :=
  e = .returned (.tuple #[.string ⟨(if err = 0 then l else []).toArray⟩, .int .i64 err]) ∧ Below w.heap.size w w'

theorem digs10_len {x n : Nat} (h : (digs W32 x).length ≤ n) : (digs 10 x).length ≤ 10 * n := by
  refine digs_len_le (by decide) (Nat.lt_of_lt_of_le (digs_lt W32_gt) ?_)
  rw [Nat.pow_mul]
  exact Nat.le_trans (Nat.pow_le_pow_right (by decide) h) (Nat.pow_le_pow_left (by decide) n)
theorem dec_len {x : Nat} (h : (digs W32 x).length ≤ 128) : (dec x).length ≤ 1300 := by
  have h1 := digs10_len h
  unfold dec
  split
  · simp
  · unfold decL; rw [List.length_reverse, List.length_map]; omega

set_option maxRecDepth 100000 in
set_option maxHeartbeats 6400000 in
theorem format_any (neg : Bool) (xs ys : List Nat) (va vb : Value) (w : World) (ha : Sl .u32 w va xs) (hb : Sl .u32 w vb ys) (ox : Ok W32 xs) (oy : Ok W32 ys) :
    Calls Tryd.prog 9 #[.agg #[.bool neg, va, vb]] w (FmtPost w (checkL neg xs ys) (fmtL neg (val W32 xs) (val W32 ys))) := by
  have HC : Hid (∀ o : Obj, Calls Tryd.prog 28 #[.agg #[.bool neg, va, vb]] (w.alloc o) fun e w' => e = .returned (.int .i64 (checkL neg xs ys)) ∧ Below (w.alloc o).heap.size (w.alloc o) w') := fun o => check_any neg xs ys va vb _ (ha.to (below_one _ _)) (hb.to (below_one _ _)) ox oy
  have HN : Hid (checkL neg xs ys = 0 → (∀ o : Obj, Nat32 (w.alloc o) va (val W32 xs) ∧ Nat32 (w.alloc o) vb (val W32 ys)) ∧ (digs W32 (val W32 xs)).length ≤ 128 ∧ (digs W32 (val W32 ys)).length ≤ 128) := by
    intro h
    obtain ⟨a1, a2, a3, a4, _⟩ := checkL_zero ox oy h
    refine ⟨fun o => ⟨?_, ?_⟩, by rw [a1]; exact a3, by rw [a2]; exact a4⟩
    · unfold Nat32; rw [a1]; exact ha.to (below_one _ _)
    · unfold Nat32; rw [a2]; exact hb.to (below_one _ _)
  obtain ⟨A, ca, rfl, _⟩ := ha
  obtain ⟨A', cb, rfl, _⟩ := hb
  have hbd := checkL_bd neg xs ys
  generalize checkL neg xs ys = er at *
  generalize val W32 xs = x at *
  generalize val W32 ys = y at *
  generalize hz1 : xs.length = n at *
  generalize hz2 : ys.length = m at *
  clear hz1 hz2 ox oy
  have HBK := Lib.hid (Blk.new w 24 #[.bool neg, .slice A n ca, .slice A' m cb])
  by_cases he : er = 0
  · subst he
    obtain ⟨h1, h2, h3⟩ := HN.out rfl
    have HNX := Lib.hid h1
    have HLX := Lib.hid (And.intro h2 h3)
    clear HN h1 h2 h3 hbd
    cases neg with
    | false =>
      by_cases hy1 : y = 1
      · have HO := Lib.hid (oneB_true hy1)
        have E : Hid (fmtL false x y = dec x) := by unfold Hid fmtL; rw [if_pos hy1]; simp
        clear hy1
        go_enter Tryd.func9, Tryd.ntmps9
        go_wp2_with fail
        refine (HC.out _).mono ?_
        rintro e w1 ⟨rfl, hb1⟩
        have hk := HBK.out.to hb1
        have c0 := hk.cell 0
        have c1 := hk.cell 1
        have c2 := hk.cell 2
        simp only [List.getElem?_toArray, List.getElem?_cons_zero, List.getElem?_cons_succ] at c0 c1 c2
        have HK1 := Lib.hid hk
        have HB1 := Lib.hid hb1
        clear hk hb1
        go_wp2_with fail
        refine (decimal_any x _ _ (by exact (HNX.out _).1.to HB1.out) (Nat.le_trans HLX.out.1 (by omega))).mono ?_
        rintro e w2 ⟨rfl, hb2⟩
        have hk := HK1.out.to hb2
        have d0 := hk.cell 0
        have d1 := hk.cell 1
        have d2 := hk.cell 2
        simp only [List.getElem?_toArray, List.getElem?_cons_zero, List.getElem?_cons_succ] at d0 d1 d2
        have HK2 := Lib.hid hk
        have HB2 := Lib.hid (HB1.out.trans (hb2.mono HB1.out.size))
        clear hk hb2 c0 c1 c2
        have hlx := dec_len HLX.out.1
        generalize hdx : dec x = lx at *
        clear hdx
        go_wp2_with fail
        refine (isOne_any y _ _ (by exact (HNX.out _).2.to HB2.out)).mono ?_
        rintro e w3 ⟨rfl, rfl⟩
        rw [HO.out]
        go_wp2_with fail
        go_ret2
        unfold FmtPost
        rw [E.out, if_pos rfl]
        exact ⟨rfl, (below_one w _).trans (HB2.out.mono (below_one w _).size)⟩
      · have HO := Lib.hid (oneB_false hy1)
        have E : Hid (fmtL false x y = (dec x ++ 114 :: dec y)) := by unfold Hid fmtL; rw [if_neg hy1]; simp
        clear hy1
        go_enter Tryd.func9, Tryd.ntmps9
        go_wp2_with fail
        refine (HC.out _).mono ?_
        rintro e w1 ⟨rfl, hb1⟩
        have hk := HBK.out.to hb1
        have c0 := hk.cell 0
        have c1 := hk.cell 1
        have c2 := hk.cell 2
        simp only [List.getElem?_toArray, List.getElem?_cons_zero, List.getElem?_cons_succ] at c0 c1 c2
        have HK1 := Lib.hid hk
        have HB1 := Lib.hid hb1
        clear hk hb1
        go_wp2_with fail
        refine (decimal_any x _ _ (by exact (HNX.out _).1.to HB1.out) (Nat.le_trans HLX.out.1 (by omega))).mono ?_
        rintro e w2 ⟨rfl, hb2⟩
        have hk := HK1.out.to hb2
        have d0 := hk.cell 0
        have d1 := hk.cell 1
        have d2 := hk.cell 2
        simp only [List.getElem?_toArray, List.getElem?_cons_zero, List.getElem?_cons_succ] at d0 d1 d2
        have HK2 := Lib.hid hk
        have HB2 := Lib.hid (HB1.out.trans (hb2.mono HB1.out.size))
        clear hk hb2 c0 c1 c2
        have hlx := dec_len HLX.out.1
        generalize hdx : dec x = lx at *
        clear hdx
        go_wp2_with fail
        refine (isOne_any y _ _ (by exact (HNX.out _).2.to HB2.out)).mono ?_
        rintro e w3 ⟨rfl, rfl⟩
        rw [HO.out]
        go_wp2_with fail
        refine (decimal_any y _ _ (by exact (HNX.out _).2.to HB2.out) (Nat.le_trans HLX.out.2 (by omega))).mono ?_
        rintro e w4 ⟨rfl, hb4⟩
        have HB4 := Lib.hid (HB2.out.trans (hb4.mono HB2.out.size))
        clear hb4
        have hly := dec_len HLX.out.2
        generalize hdy : dec y = ly at *
        clear hdy
        go_wp2_with fail
        go_ret2
        unfold FmtPost
        rw [E.out, if_pos rfl]
        exact ⟨rfl, (below_one w _).trans (HB4.out.mono (below_one w _).size)⟩
    | true =>
      by_cases hy1 : y = 1
      · have HO := Lib.hid (oneB_true hy1)
        have E : Hid (fmtL true x y = 45 :: dec x) := by unfold Hid fmtL; rw [if_pos hy1]; simp
        clear hy1
        go_enter Tryd.func9, Tryd.ntmps9
        go_wp2_with fail
        refine (HC.out _).mono ?_
        rintro e w1 ⟨rfl, hb1⟩
        have hk := HBK.out.to hb1
        have c0 := hk.cell 0
        have c1 := hk.cell 1
        have c2 := hk.cell 2
        simp only [List.getElem?_toArray, List.getElem?_cons_zero, List.getElem?_cons_succ] at c0 c1 c2
        have HK1 := Lib.hid hk
        have HB1 := Lib.hid hb1
        clear hk hb1
        go_wp2_with fail
        refine (decimal_any x _ _ (by exact (HNX.out _).1.to HB1.out) (Nat.le_trans HLX.out.1 (by omega))).mono ?_
        rintro e w2 ⟨rfl, hb2⟩
        have hk := HK1.out.to hb2
        have d0 := hk.cell 0
        have d1 := hk.cell 1
        have d2 := hk.cell 2
        simp only [List.getElem?_toArray, List.getElem?_cons_zero, List.getElem?_cons_succ] at d0 d1 d2
        have HK2 := Lib.hid hk
        have HB2 := Lib.hid (HB1.out.trans (hb2.mono HB1.out.size))
        clear hk hb2 c0 c1 c2
        have hlx := dec_len HLX.out.1
        generalize hdx : dec x = lx at *
        clear hdx
        go_wp2_with fail
        refine (isOne_any y _ _ (by exact (HNX.out _).2.to HB2.out)).mono ?_
        rintro e w3 ⟨rfl, rfl⟩
        rw [HO.out]
        go_wp2_with fail
        go_ret2
        unfold FmtPost
        rw [E.out, if_pos rfl]
        exact ⟨rfl, (below_one w _).trans (HB2.out.mono (below_one w _).size)⟩
      · have HO := Lib.hid (oneB_false hy1)
        have E : Hid (fmtL true x y = 45 :: (dec x ++ 114 :: dec y)) := by unfold Hid fmtL; rw [if_neg hy1]; simp
        clear hy1
        go_enter Tryd.func9, Tryd.ntmps9
        go_wp2_with fail
        refine (HC.out _).mono ?_
        rintro e w1 ⟨rfl, hb1⟩
        have hk := HBK.out.to hb1
        have c0 := hk.cell 0
        have c1 := hk.cell 1
        have c2 := hk.cell 2
        simp only [List.getElem?_toArray, List.getElem?_cons_zero, List.getElem?_cons_succ] at c0 c1 c2
        have HK1 := Lib.hid hk
        have HB1 := Lib.hid hb1
        clear hk hb1
        go_wp2_with fail
        refine (decimal_any x _ _ (by exact (HNX.out _).1.to HB1.out) (Nat.le_trans HLX.out.1 (by omega))).mono ?_
        rintro e w2 ⟨rfl, hb2⟩
        have hk := HK1.out.to hb2
        have d0 := hk.cell 0
        have d1 := hk.cell 1
        have d2 := hk.cell 2
        simp only [List.getElem?_toArray, List.getElem?_cons_zero, List.getElem?_cons_succ] at d0 d1 d2
        have HK2 := Lib.hid hk
        have HB2 := Lib.hid (HB1.out.trans (hb2.mono HB1.out.size))
        clear hk hb2 c0 c1 c2
        have hlx := dec_len HLX.out.1
        generalize hdx : dec x = lx at *
        clear hdx
        go_wp2_with fail
        refine (isOne_any y _ _ (by exact (HNX.out _).2.to HB2.out)).mono ?_
        rintro e w3 ⟨rfl, rfl⟩
        rw [HO.out]
        go_wp2_with fail
        refine (decimal_any y _ _ (by exact (HNX.out _).2.to HB2.out) (Nat.le_trans HLX.out.2 (by omega))).mono ?_
        rintro e w4 ⟨rfl, hb4⟩
        have HB4 := Lib.hid (HB2.out.trans (hb4.mono HB2.out.size))
        clear hb4
        have hly := dec_len HLX.out.2
        generalize hdy : dec y = ly at *
        clear hdy
        go_wp2_with fail
        go_ret2
        unfold FmtPost
        rw [E.out, if_pos rfl]
        exact ⟨rfl, (below_one w _).trans (HB4.out.mono (below_one w _).size)⟩
  · have he1 : (er != 0) = true := by rw [bne_iff_ne]; exact he
    have HE := Lib.hid he
    clear he HN
    go_enter Tryd.func9, Tryd.ntmps9
    go_wp2_with fail
    refine (HC.out _).mono ?_
    rintro e w1 ⟨rfl, hb1⟩
    go_wp2_with fail
    go_ret2
    unfold FmtPost
    rw [if_neg HE.out]
    exact ⟨rfl, (below_one w _).trans (hb1.mono (below_one w _).size)⟩
end Go.Proofs.YtfiedhopgmgnoaaDoor

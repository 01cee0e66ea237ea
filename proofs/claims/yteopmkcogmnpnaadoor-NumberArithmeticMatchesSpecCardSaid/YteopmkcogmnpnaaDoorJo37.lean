/- What the reference's Two answers at + - * / is what Add, Sub, Mul and Div answer: plain facts. number.Sub, at any two numbers. -/
import Derived.Test.YteopmkcogmnpnaaDoorJo21
import Derived.Test.YteopmkcogmnpnaaDoorJo36
set_option linter.unusedVariables false
set_option linter.unusedSimpArgs false
namespace Go.Proofs.YteopmkcogmnpnaaDoor
open Go.RowKit NumB
set_option linter.unusedVariables false
set_option linter.unusedSimpArgs false

theorem rtwoAS_43 {a b : LN} (ha : a.ok) (hb : b.ok) : rtwoAS 43 a b = addS a b := by
  unfold rtwoAS addS
  by_cases h : err2 a.err b.err = 0
  · rw [if_pos h, if_pos rfl, h]
  · rw [if_neg h]; unfold fracS opS; rw [if_neg h]
theorem rtwoAS_42 {a b : LN} (ha : a.ok) (hb : b.ok) : rtwoAS 42 a b = mulS a b := by
  unfold rtwoAS mulS
  by_cases h : err2 a.err b.err = 0
  · rw [if_pos h, if_neg (by decide), h]
  · rw [if_neg h]; unfold fracS opS; rw [if_neg h]
/-- The sign of a summand 0 does not matter. -/
theorem sumN_zero (na nb : Bool) (x : Nat) : sumN na x nb 0 = (na, x) := by
  unfold sumN
  split
  · rfl
  · rw [if_pos (Nat.zero_le _), Nat.sub_zero]
theorem rtwoBS_45 {a b : LN} (ha : a.ok) (hb : b.ok) : rtwoBS 45 a b = subS a b := by
  unfold rtwoBS subS
  by_cases h : err2 a.err b.err = 0
  · rw [if_pos h, if_pos rfl, h]
    rcases Nat.eq_zero_or_pos b.x with h0 | h0
    · rw [h0, Nat.zero_mul, sumN_zero, sumN_zero]
    · rw [decide_eq_true h0, Bool.and_true, show (b.neg != true) = !b.neg from by cases b.neg <;> rfl]
  · rw [if_neg h]; unfold fracS opS; rw [if_neg h]
theorem num_zero {b : LN} (hb : b.ok) (h : b.err = 0) : b.num.length = 0 ↔ b.x = 0 := by
  have h1 := (LN.good hb h).1
  rw [← h1]
  constructor
  · intro h2; exact (digs_nil W32_gt).1 (List.eq_nil_of_length_eq_zero h2)
  · intro h2; rw [h2, digs_zero]; rfl
theorem rtwoBS_47 {a b : LN} (ha : a.ok) (hb : b.ok) : rtwoBS 47 a b = divS a b := by
  unfold rtwoBS divS
  by_cases h : err2 a.err b.err = 0
  · rw [if_pos h, if_pos h, if_neg (by decide)]
    have hz := num_zero hb (err2_zero.1 h).2
    by_cases h0 : b.x = 0
    · rw [if_pos h0, if_pos (hz.2 h0)]
    · rw [if_neg h0, if_neg (fun hh => h0 (hz.1 hh))]
  · rw [if_neg h, if_neg h]
end Go.Proofs.YteopmkcogmnpnaaDoor
namespace Go.Proofs.YteopmkcogmnpnaaDoor
open Go.RowKit NumB
set_option linter.unusedVariables false
set_option linter.unusedSimpArgs false

set_option maxRecDepth 100000 in
set_option maxHeartbeats 6400000 in
theorem subNum_any (na nb : Bool) (xa ya xb yb : List Nat) (A1 A2 A3 A4 : Value) (w : World) (h : Two w na nb A1 A2 A3 A4 xa ya xb yb) (o1 : Ok W32 xa) (o2 : Ok W32 ya) (o3 : Ok W32 xb) (o4 : Ok W32 yb)
    (s : Bool) (n d : Nat) (hsn : sumN na (val W32 xa * val W32 yb) (nb != true) (val W32 xb * val W32 ya) = (s, n)) (hd : val W32 ya * val W32 yb = d) :
    Calls Tryd.prog 13 #[.agg #[.bool na, A1, A2], .agg #[.bool nb, A3, A4]] w (OpPost w (err2 (checkL na xa ya) (checkL nb xb yb)) (s && decide (0 < n)) (n / Nat.gcd n d) (d / Nat.gcd n d)) := by
  have HT := Lib.hid h
  obtain ⟨⟨B1, c1, rfl, _⟩, ⟨B2, c2, rfl, _⟩, ⟨B3, c3, rfl, _⟩, ⟨B4, c4, rfl, _⟩⟩ := h
  have HOK := Lib.hid (And.intro (And.intro o1 o2) (And.intro o3 o4))
  have hbd := err2_bd (checkL_bd na xa ya) (checkL_bd nb xb yb)
  have HPN : Hid (err2 (checkL na xa ya) (checkL nb xb yb) = 0 → ∀ W : World, Two W na nb (.slice B1 xa.length c1) (.slice B2 ya.length c2) (.slice B3 xb.length c3) (.slice B4 yb.length c4) xa ya xb yb → Calls Tryd.prog 38 #[.agg #[.bool na, .slice B1 xa.length c1, .slice B2 ya.length c2], .agg #[.bool nb, .slice B3 xb.length c3, .slice B4 yb.length c4], .bool true] W (FitPost W (s && decide (0 < n)) (n / Nat.gcd n d) (d / Nat.gcd n d))) := by
    intro he W hW
    obtain ⟨ea, eb⟩ := err2_zero.1 he
    obtain ⟨a1, a2, a3, a4, a5, _⟩ := checkL_zero o1 o2 ea
    obtain ⟨b1, b2, b3, b4, b5, _⟩ := checkL_zero o3 o4 eb
    refine plusNum_any na nb true (val W32 xa) (val W32 ya) (val W32 xb) (val W32 yb) _ _ _ _ W ?_ ?_ ?_ ?_ (by rw [a1]; omega) (by rw [a2]; omega) (by rw [b1]; omega) (by rw [b2]; omega) a5 b5 s n d (by rw [← hsn]) hd
    · unfold Nat32; rw [a1]; exact hW.1
    · unfold Nat32; rw [a2]; exact hW.2.1
    · unfold Nat32; rw [b1]; exact hW.2.2.1
    · unfold Nat32; rw [b2]; exact hW.2.2.2
  have HCK := Lib.hid (fun (W : World) (t : TypeId) (b cap : Nat) (hb : W.heap.size = b) (hW : Two W na nb (.slice B1 xa.length c1) (.slice B2 ya.length c2) (.slice B3 xb.length c3) (.slice B4 yb.length c4) xa ya xb yb) => checks_two' hW o1 o2 o3 o4 t b cap hb)
  clear o1 o2 o3 o4 hsn hd
  generalize (s && decide (0 < n)) = sg at *
  generalize n / Nat.gcd n d = x' at *
  generalize d / Nat.gcd n d = y' at *
  generalize err2 (checkL na xa ya) (checkL nb xb yb) = er at *
  generalize hz1 : xa.length = n1 at *
  generalize hz2 : ya.length = n2 at *
  generalize hz3 : xb.length = n3 at *
  generalize hz4 : yb.length = n4 at *
  clear hz1 hz2 hz3 hz4
  by_cases he : er = 0
  · have he1 : (er != 0) = false := by rw [he]; rfl
    have HE := Lib.hid he
    clear he
    go_enter Tryd.func13, Tryd.ntmps13
    go_wp2_with fail
    refine (HCK.out _ _ _ _ (by simp) (by exact HT.out.to (below_three w _ _ _))).mono ?_
    rintro e w1 ⟨rfl, hb1⟩
    have hb0 := (below_one _ _).trans (hb1.mono (below_one _ _).size)
    obtain ⟨k1, k2, k3⟩ := blk3 w 24 #[.bool na, .slice B1 n1 c1, .slice B2 n2 c2] #[.bool nb, .slice B3 n3 c3, .slice B4 n4 c4] #[.bool false, .slice none 0 0, .slice none 0 0]
    have hg1 := k1.to hb0
    have hg2 := k2.to hb0
    have hg3 := k3.to hb0
    have HT1 := Lib.hid ((HT.out.to (below_three w _ _ _)).to hb0)
    have HBL : Hid (Below w.heap.size w w1) := (below_three w _ _ _).trans (hb0.mono (below_three w _ _ _).size)
    have a0 := hg1.cell 0
    have a1 := hg1.cell 1
    have a2 := hg1.cell 2
    have b0 := hg2.cell 0
    have b1 := hg2.cell 1
    have b2 := hg2.cell 2
    have HG3 := Lib.hid hg3
    clear k1 k2 k3 hg1 hg2 hg3 hb0 hb1
    simp only [List.getElem?_toArray, List.getElem?_cons_zero, List.getElem?_cons_succ] at a0 a1 a2 b0 b1 b2
    go_wp2_with fail
    refine (HPN.out HE.out _ (by exact HT1.out)).mono ?_
    rintro e w2 (⟨hf, v5, rfl, hn5, hb5⟩ | ⟨hf, rfl, hb5⟩)
    · have hblk := HG3.out.to hb5
      have HBE : Hid (Below w.heap.size w w2) := HBL.out.trans (hb5.mono HBL.out.size)
      have HN6 := Lib.hid hn5
      have HF := Lib.hid hf
      clear hn5 hb5 hf a0 a1 a2 b0 b1 b2
      have hc0 := hblk.cell 0
      have hc1 := hblk.cell 1
      have hc2 := hblk.cell 2
      have hf0 := hblk.frozen 0
      have hf1 := hblk.frozen 1
      have hf2 := hblk.frozen 2
      have HBLK := Lib.hid hblk
      clear hblk
      simp only [List.getElem?_toArray, List.getElem?_cons_zero, List.getElem?_cons_succ] at hc0 hc1 hc2
      obtain ⟨A, n, c, A', m, d, rfl, hl1, hl2⟩ := HN6.out.form
      clear hl1 hl2
      go_wp2
      refine bodyPost_ret (v := .tuple #[.agg #[.bool sg, .slice A n c, .slice A' m d], .int .i64 0]) (by rw [results_cell_tmp rfl]; go_simp) rfl (.inr ⟨HE.out, .inl ⟨HF.out, _, rfl, ?_, ?_⟩⟩)
      · exact HN6.out.put3 HBLK.out _ _ _
      · exact put3_below HBE.out (by omega) _ _ _
    · have hblk := HG3.out.to hb5
      have HBE : Hid (Below w.heap.size w w2) := HBL.out.trans (hb5.mono HBL.out.size)
      have HF := Lib.hid hf
      clear hb5 hf a0 a1 a2 b0 b1 b2
      have hc0 := hblk.cell 0
      have hc1 := hblk.cell 1
      have hc2 := hblk.cell 2
      have hf0 := hblk.frozen 0
      have hf1 := hblk.frozen 1
      have hf2 := hblk.frozen 2
      have HBLK := Lib.hid hblk
      clear hblk
      simp only [List.getElem?_toArray, List.getElem?_cons_zero, List.getElem?_cons_succ] at hc0 hc1 hc2
      unfold zeroNum
      go_wp2
      refine bodyPost_ret (v := .tuple #[zeroNum, .int .i64 3]) (by rw [results_cell_tmp rfl]; go_simp; rfl) rfl (.inr ⟨HE.out, .inr ⟨HF.out, rfl, ?_⟩⟩)
      exact put3_below HBE.out (by omega) _ _ _
  · have he1 : (er != 0) = true := by rw [bne_iff_ne]; exact he
    have HE := Lib.hid he
    clear he
    go_enter Tryd.func13, Tryd.ntmps13
    go_wp2_with fail
    refine (HCK.out _ _ _ _ (by simp) (by exact HT.out.to (below_three w _ _ _))).mono ?_
    rintro e w1 ⟨rfl, hb1⟩
    have hb0 := (below_one _ _).trans (hb1.mono (below_one _ _).size)
    obtain ⟨k1, k2, k3⟩ := blk3 w 24 #[.bool na, .slice B1 n1 c1, .slice B2 n2 c2] #[.bool nb, .slice B3 n3 c3, .slice B4 n4 c4] #[.bool false, .slice none 0 0, .slice none 0 0]
    have hblk := k3.to hb0
    have HBE : Hid (Below w.heap.size w w1) := (below_three w _ _ _).trans (hb0.mono (below_three w _ _ _).size)
    clear k1 k2 k3 hb0 hb1
    have hc0 := hblk.cell 0
    have hc1 := hblk.cell 1
    have hc2 := hblk.cell 2
    have hf0 := hblk.frozen 0
    have hf1 := hblk.frozen 1
    have hf2 := hblk.frozen 2
    have HBLK := Lib.hid hblk
    clear hblk
    simp only [List.getElem?_toArray, List.getElem?_cons_zero, List.getElem?_cons_succ] at hc0 hc1 hc2
    go_wp2
    refine bodyPost_ret (v := .tuple #[zeroNum, .int .i64 er]) (by rw [results_cell_tmp rfl]; go_simp; rfl) rfl (.inl ⟨HE.out, rfl, ?_⟩)
    exact put3_below HBE.out (by omega) _ _ _

theorem subNum_S (a b : LN) (va vb : Value) (w : World) (ha : GV w va a) (hb : GV w vb b) : Calls Tryd.prog 13 #[va, vb] w (SPost w (subS a b)) := by
  obtain ⟨A1, A2, rfl, h1, h2, o1, o2⟩ := ha
  obtain ⟨A3, A4, rfl, h3, h4, o3, o4⟩ := hb
  exact (subNum_any a.neg b.neg a.num a.den b.num b.den A1 A2 A3 A4 w ⟨h1, h2, h3, h4⟩ o1 o2 o3 o4 _ _ _ rfl rfl).mono fun _ _ h => OpPost.toS h
end Go.Proofs.YteopmkcogmnpnaaDoor

/- number.Add, at any two numbers. -/
import Derived.Test.YtfiedhopgmgnoaaDoorJo19
set_option linter.unusedVariables false
set_option linter.unusedSimpArgs false
namespace Go.Proofs.YtfiedhopgmgnoaaDoor
open Go.RowKit NumB
set_option linter.unusedVariables false
set_option linter.unusedSimpArgs false

/-- What a number without fault is. -/
theorem checkL_zero {neg : Bool} {xs ys : List Nat} (ox : Ok W32 xs) (oy : Ok W32 ys) (h : checkL neg xs ys = 0) :
    digs W32 (val W32 xs) = xs ∧ digs W32 (val W32 ys) = ys ∧ xs.length ≤ 128 ∧ ys.length ≤ 128 ∧ 0 < val W32 ys ∧ Nat.gcd (val W32 xs) (val W32 ys) = 1 ∧ (val W32 xs = 0 → neg = false) := by
  unfold checkL at h
  by_cases h1 : 128 < xs.length ∨ 128 < ys.length
  · rw [if_pos h1] at h; omega
  rw [if_neg h1] at h
  by_cases h2 : lastB xs = true ∨ lastB ys = true ∨ ys.length = 0
  · rw [if_pos h2] at h; omega
  rw [if_neg h2] at h
  have hlx : lastB xs = false := by cases h : lastB xs with | false => rfl | true => exact absurd (.inl h) h2
  have hly : lastB ys = false := by cases h : lastB ys with | false => rfl | true => exact absurd (.inr (.inl h)) h2
  have hy0 : ys ≠ [] := by rintro rfl; exact h2 (.inr (.inr rfl))
  have hvy := val_pos (B := W32) (by decide) (top_of_last hly) hy0
  refine ⟨digs_val W32_gt ox (top_of_last hlx), digs_val W32_gt oy (top_of_last hly), by omega, by omega, hvy, ?_, ?_⟩
  · unfold checkN at h
    by_cases hx : val W32 xs = 0
    · rw [if_pos hx] at h
      by_cases h3 : neg = false ∧ val W32 ys = 1
      · rw [hx, h3.2]; rfl
      · rw [if_neg h3] at h; omega
    · rw [if_neg hx] at h
      by_cases h3 : val W32 ys = 1 ∨ val W32 xs = 1 ∨ Nat.gcd (val W32 xs) (val W32 ys) = 1
      · rcases h3 with h3 | h3 | h3
        · rw [h3, Nat.gcd_one_right]
        · rw [h3, Nat.gcd_one_left]
        · exact h3
      · rw [if_neg h3] at h; omega
  · intro hx
    unfold checkN at h
    rw [if_pos hx] at h
    by_cases h3 : neg = false ∧ val W32 ys = 1
    · exact h3.1
    · rw [if_neg h3] at h; omega

/-- An error, or a number that may be too long. -/
def OpPost (w : World) (err : Int) (sg : Bool) (x y : Nat) (e : Ending) (w' : World) : Prop :=
  (err ≠ 0 ∧ e = .returned (.tuple #[zeroNum, .int .i64 err]) ∧ Below w.heap.size w w') ∨ (err = 0 ∧ FitPost w sg x y e w')

/-- The first of two errors. -/
def err2 (a b : Int) : Int := if a = 0 then b else a
theorem err2_zero {a b : Int} : err2 a b = 0 ↔ a = 0 ∧ b = 0 := by
  unfold err2; split <;> constructor <;> intro h <;> omega
theorem checkL_bd (neg : Bool) (xs ys : List Nat) : 0 ≤ checkL neg xs ys ∧ checkL neg xs ys ≤ 3 := by
  unfold checkL checkN
  split
  · omega
  · split
    · omega
    · split
      · split <;> omega
      · split <;> omega
theorem err2_bd {a b : Int} (ha : 0 ≤ a ∧ a ≤ 3) (hb : 0 ≤ b ∧ b ≤ 3) : 0 ≤ err2 a b ∧ err2 a b ≤ 3 := by unfold err2; split <;> omega

/-- Three blocks, one after the other. -/
theorem blk3 (w : World) (t : TypeId) (a b c : Array Value) : Blk (((w.alloc (.cells a t)).alloc (.cells b t)).alloc (.cells c t)) w.heap.size t a ∧ Blk (((w.alloc (.cells a t)).alloc (.cells b t)).alloc (.cells c t)) (w.heap.size + 1) t b ∧ Blk (((w.alloc (.cells a t)).alloc (.cells b t)).alloc (.cells c t)) (w.heap.size + 1 + 1) t c := by
  refine ⟨((Blk.new w t a).alloc _).alloc _, ?_, ?_⟩
  · have := (Blk.new (w.alloc (.cells a t)) t b).alloc (.cells c t); simpa using this
  · have := Blk.new ((w.alloc (.cells a t)).alloc (.cells b t)) t c; simpa using this

/-- Two numbers that came in. -/
def Two (w : World) (na nb : Bool) (A1 A2 A3 A4 : Value) (xa ya xb yb : List Nat) : Prop := Sl .u32 w A1 xa ∧ Sl .u32 w A2 ya ∧ Sl .u32 w A3 xb ∧ Sl .u32 w A4 yb
theorem Two.to {w w' : World} {na nb : Bool} {A1 A2 A3 A4 : Value} {xa ya xb yb : List Nat} (h : Two w na nb A1 A2 A3 A4 xa ya xb yb) (hb : Below w.heap.size w w') : Two w' na nb A1 A2 A3 A4 xa ya xb yb := ⟨h.1.to hb, h.2.1.to hb, h.2.2.1.to hb, h.2.2.2.to hb⟩

theorem checks_two' {w : World} {na nb : Bool} {A1 A2 A3 A4 : Value} {xa ya xb yb : List Nat} (h : Two w na nb A1 A2 A3 A4 xa ya xb yb) (o1 : Ok W32 xa) (o2 : Ok W32 ya) (o3 : Ok W32 xb) (o4 : Ok W32 yb) (t : TypeId) (b cap : Nat) (hb : w.heap.size = b) :
    Calls Tryd.prog 46 #[.slice (some ⟨b, 0, none⟩) 2 cap] (w.alloc (.cells #[.bool na, A1, A2, .bool nb, A3, A4] t)) fun e w' => e = .returned (.int .i64 (err2 (checkL na xa ya) (checkL nb xb yb))) ∧ Below (w.alloc (.cells #[.bool na, A1, A2, .bool nb, A3, A4] t)).heap.size (w.alloc (.cells #[.bool na, A1, A2, .bool nb, A3, A4] t)) w' := by
  subst hb
  have h' := h.to (below_one w (.cells #[.bool na, A1, A2, .bool nb, A3, A4] t))
  exact checks_two w.heap.size cap na nb xa ya xb yb A1 A2 A3 A4 _ t (Blk.new _ _ _) h'.1 h'.2.1 h'.2.2.1 h'.2.2.2 o1 o2 o3 o4

set_option maxRecDepth 100000 in
set_option maxHeartbeats 6400000 in
theorem addNum_any (na nb : Bool) (xa ya xb yb : List Nat) (A1 A2 A3 A4 : Value) (w : World) (h : Two w na nb A1 A2 A3 A4 xa ya xb yb) (o1 : Ok W32 xa) (o2 : Ok W32 ya) (o3 : Ok W32 xb) (o4 : Ok W32 yb)
    (s : Bool) (n d : Nat) (hsn : sumN na (val W32 xa * val W32 yb) nb (val W32 xb * val W32 ya) = (s, n)) (hd : val W32 ya * val W32 yb = d) :
    Calls Tryd.prog 19 #[.agg #[.bool na, A1, A2], .agg #[.bool nb, A3, A4]] w (OpPost w (err2 (checkL na xa ya) (checkL nb xb yb)) (s && decide (0 < n)) (n / Nat.gcd n d) (d / Nat.gcd n d)) := by
  have HT := Lib.hid h
  obtain ⟨⟨B1, c1, rfl, _⟩, ⟨B2, c2, rfl, _⟩, ⟨B3, c3, rfl, _⟩, ⟨B4, c4, rfl, _⟩⟩ := h
  have HOK := Lib.hid (And.intro (And.intro o1 o2) (And.intro o3 o4))
  have hbd := err2_bd (checkL_bd na xa ya) (checkL_bd nb xb yb)
  have HPN : Hid (err2 (checkL na xa ya) (checkL nb xb yb) = 0 → ∀ W : World, Two W na nb (.slice B1 xa.length c1) (.slice B2 ya.length c2) (.slice B3 xb.length c3) (.slice B4 yb.length c4) xa ya xb yb → Calls Tryd.prog 49 #[.agg #[.bool na, .slice B1 xa.length c1, .slice B2 ya.length c2], .agg #[.bool nb, .slice B3 xb.length c3, .slice B4 yb.length c4], .bool false] W (FitPost W (s && decide (0 < n)) (n / Nat.gcd n d) (d / Nat.gcd n d))) := by
    intro he W hW
    obtain ⟨ea, eb⟩ := err2_zero.1 he
    obtain ⟨a1, a2, a3, a4, a5, _⟩ := checkL_zero o1 o2 ea
    obtain ⟨b1, b2, b3, b4, b5, _⟩ := checkL_zero o3 o4 eb
    refine plusNum_any na nb false (val W32 xa) (val W32 ya) (val W32 xb) (val W32 yb) _ _ _ _ W ?_ ?_ ?_ ?_ (by rw [a1]; omega) (by rw [a2]; omega) (by rw [b1]; omega) (by rw [b2]; omega) a5 b5 s n d (by rw [← hsn]; cases nb <;> rfl) hd
    · unfold Nat32; rw [a1]; exact hW.1
    · unfold Nat32; rw [a2]; exact hW.2.1
    · unfold Nat32; rw [b1]; exact hW.2.2.1
    · unfold Nat32; rw [b2]; exact hW.2.2.2
  have HCK := Lib.hid (fun (W : World) (t : TypeId) (b cap : Nat) (hb : W.heap.size = b) (hW : Two W na nb (.slice B1 xa.length c1) (.slice B2 ya.length c2) (.slice B3 xb.length c3) (.slice B4 yb.length c4) xa ya xb yb) => checks_two' hW o1 o2 o3 o4 t b cap hb)
  clear o1 o2 o3 o4 hsn hd
  generalize (s && decide (0 < n)) = sg at *
  generalize n / Nat.gcd n d = x' at *
  generalize d / Nat.gcd n d = y' at *
  generalize err2 (checkL na xa ya) (checkL nb xb yb) = er at *
  generalize hz1 : xa.length = n1 at *
  generalize hz2 : ya.length = n2 at *
  generalize hz3 : xb.length = n3 at *
  generalize hz4 : yb.length = n4 at *
  clear hz1 hz2 hz3 hz4
  by_cases he : er = 0
  · have he1 : (er != 0) = false := by rw [he]; rfl
    have HE := Lib.hid he
    clear he
    go_enter Tryd.func19, Tryd.ntmps19
    go_wp2_with fail
    refine (HCK.out _ _ _ _ (by simp) (by exact HT.out.to (below_three w _ _ _))).mono ?_
    rintro e w1 ⟨rfl, hb1⟩
    have hb0 := (below_one _ _).trans (hb1.mono (below_one _ _).size)
    obtain ⟨k1, k2, k3⟩ := blk3 w 24 #[.bool na, .slice B1 n1 c1, .slice B2 n2 c2] #[.bool nb, .slice B3 n3 c3, .slice B4 n4 c4] #[.bool false, .slice none 0 0, .slice none 0 0]
    have hg1 := k1.to hb0
    have hg2 := k2.to hb0
    have hg3 := k3.to hb0
    have HT1 := Lib.hid ((HT.out.to (below_three w _ _ _)).to hb0)
    have HBL : Hid (Below w.heap.size w w1) := (below_three w _ _ _).trans (hb0.mono (below_three w _ _ _).size)
    have a0 := hg1.cell 0
    have a1 := hg1.cell 1
    have a2 := hg1.cell 2
    have b0 := hg2.cell 0
    have b1 := hg2.cell 1
    have b2 := hg2.cell 2
    have HG3 := Lib.hid hg3
    clear k1 k2 k3 hg1 hg2 hg3 hb0 hb1
    simp only [List.getElem?_toArray, List.getElem?_cons_zero, List.getElem?_cons_succ] at a0 a1 a2 b0 b1 b2
    go_wp2_with fail
    refine (HPN.out HE.out _ (by exact HT1.out)).mono ?_
    rintro e w2 (⟨hf, v5, rfl, hn5, hb5⟩ | ⟨hf, rfl, hb5⟩)
    · have hblk := HG3.out.to hb5
      have HBE : Hid (Below w.heap.size w w2) := HBL.out.trans (hb5.mono HBL.out.size)
      have HN6 := Lib.hid hn5
      have HF := Lib.hid hf
      clear hn5 hb5 hf a0 a1 a2 b0 b1 b2
      have hc0 := hblk.cell 0
      have hc1 := hblk.cell 1
      have hc2 := hblk.cell 2
      have hf0 := hblk.frozen 0
      have hf1 := hblk.frozen 1
      have hf2 := hblk.frozen 2
      have HBLK := Lib.hid hblk
      clear hblk
      simp only [List.getElem?_toArray, List.getElem?_cons_zero, List.getElem?_cons_succ] at hc0 hc1 hc2
      obtain ⟨A, n, c, A', m, d, rfl, hl1, hl2⟩ := HN6.out.form
      clear hl1 hl2
      go_wp2
      refine bodyPost_ret (v := .tuple #[.agg #[.bool sg, .slice A n c, .slice A' m d], .int .i64 0]) (by rw [results_cell_tmp rfl]; go_simp) rfl (.inr ⟨HE.out, .inl ⟨HF.out, _, rfl, ?_, ?_⟩⟩)
      · exact HN6.out.put3 HBLK.out _ _ _
      · exact put3_below HBE.out (by omega) _ _ _
    · have hblk := HG3.out.to hb5
      have HBE : Hid (Below w.heap.size w w2) := HBL.out.trans (hb5.mono HBL.out.size)
      have HF := Lib.hid hf
      clear hb5 hf a0 a1 a2 b0 b1 b2
      have hc0 := hblk.cell 0
      have hc1 := hblk.cell 1
      have hc2 := hblk.cell 2
      have hf0 := hblk.frozen 0
      have hf1 := hblk.frozen 1
      have hf2 := hblk.frozen 2
      have HBLK := Lib.hid hblk
      clear hblk
      simp only [List.getElem?_toArray, List.getElem?_cons_zero, List.getElem?_cons_succ] at hc0 hc1 hc2
      unfold zeroNum
      go_wp2
      refine bodyPost_ret (v := .tuple #[zeroNum, .int .i64 3]) (by rw [results_cell_tmp rfl]; go_simp; rfl) rfl (.inr ⟨HE.out, .inr ⟨HF.out, rfl, ?_⟩⟩)
      exact put3_below HBE.out (by omega) _ _ _
  · have he1 : (er != 0) = true := by rw [bne_iff_ne]; exact he
    have HE := Lib.hid he
    clear he
    go_enter Tryd.func19, Tryd.ntmps19
    go_wp2_with fail
    refine (HCK.out _ _ _ _ (by simp) (by exact HT.out.to (below_three w _ _ _))).mono ?_
    rintro e w1 ⟨rfl, hb1⟩
    have hb0 := (below_one _ _).trans (hb1.mono (below_one _ _).size)
    obtain ⟨k1, k2, k3⟩ := blk3 w 24 #[.bool na, .slice B1 n1 c1, .slice B2 n2 c2] #[.bool nb, .slice B3 n3 c3, .slice B4 n4 c4] #[.bool false, .slice none 0 0, .slice none 0 0]
    have hblk := k3.to hb0
    have HBE : Hid (Below w.heap.size w w1) := (below_three w _ _ _).trans (hb0.mono (below_three w _ _ _).size)
    clear k1 k2 k3 hb0 hb1
    have hc0 := hblk.cell 0
    have hc1 := hblk.cell 1
    have hc2 := hblk.cell 2
    have hf0 := hblk.frozen 0
    have hf1 := hblk.frozen 1
    have hf2 := hblk.frozen 2
    have HBLK := Lib.hid hblk
    clear hblk
    simp only [List.getElem?_toArray, List.getElem?_cons_zero, List.getElem?_cons_succ] at hc0 hc1 hc2
    go_wp2
    refine bodyPost_ret (v := .tuple #[zeroNum, .int .i64 er]) (by rw [results_cell_tmp rfl]; go_simp; rfl) rfl (.inl ⟨HE.out, rfl, ?_⟩)
    exact put3_below HBE.out (by omega) _ _ _
end Go.Proofs.YtfiedhopgmgnoaaDoor

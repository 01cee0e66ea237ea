/-  -/
import Derived.Deep.RegionHeld3
import Derived.Test.YtdmhkhnnomdkcaaGreatDoorJo18
set_option linter.unusedVariables false
set_option linter.unusedSimpArgs false
/- number.add. Conditions: at most 10000 limbs. -/
namespace Go.Proofs.YtdmhkhnnomdkcaaGreatDoor
open Go.RowKit NumB
set_option linter.unusedVariables false
set_option linter.unusedSimpArgs false

/-- The cells of three blocks of numbers, the third new. -/
def Box2 (w : World) (g : Nat) (na nb : Bool) (A1 A2 A3 A4 : Value) : Prop :=
  w.cell? ⟨g, 0, none⟩ = some (.bool na) ∧ w.cell? ⟨g, 1, none⟩ = some A1 ∧ w.cell? ⟨g, 2, none⟩ = some A2 ∧ w.cell? ⟨g + 1, 0, none⟩ = some (.bool nb) ∧ w.cell? ⟨g + 1, 1, none⟩ = some A3 ∧ w.cell? ⟨g + 1, 2, none⟩ = some A4 ∧ g + 2 < w.heap.size

theorem Box2.to {w w' : World} {g : Nat} {na nb : Bool} {A1 A2 A3 A4 : Value} (h : Box2 w g na nb A1 A2 A3 A4) (hb : Below w.heap.size w w') : Box2 w' g na nb A1 A2 A3 A4 := by
  obtain ⟨h0, h1, h2, h3, h4, h5, h6⟩ := h
  exact ⟨(hb.cell (p := ⟨g, 0, none⟩) (by show g < _; omega)).trans h0, (hb.cell (p := ⟨g, 1, none⟩) (by show g < _; omega)).trans h1, (hb.cell (p := ⟨g, 2, none⟩) (by show g < _; omega)).trans h2, (hb.cell (p := ⟨g + 1, 0, none⟩) (by show g + 1 < _; omega)).trans h3, (hb.cell (p := ⟨g + 1, 1, none⟩) (by show g + 1 < _; omega)).trans h4, (hb.cell (p := ⟨g + 1, 2, none⟩) (by show g + 1 < _; omega)).trans h5, Nat.lt_of_lt_of_le h6 hb.size⟩

theorem below_three (w : World) (o1 o2 o3 : Obj) : Below w.heap.size w (((w.alloc o1).alloc o2).alloc o3) := (((Below.refl _ _).alloc (Nat.le_refl _) o1).alloc (by simp) o2).alloc (by simp; omega) o3

set_option maxRecDepth 100000 in
set_option maxHeartbeats 6400000 in
theorem plusNum_any (na nb minus : Bool) (xa ya xb yb : Nat) (A1 A2 A3 A4 : Value) (w : World) (h1 : Nat32 w A1 xa) (h2 : Nat32 w A2 ya) (h3 : Nat32 w A3 xb) (h4 : Nat32 w A4 yb)
    (l1 : (digs W32 xa).length ≤ 10000) (l2 : (digs W32 ya).length ≤ 10000) (l3 : (digs W32 xb).length ≤ 10000) (l4 : (digs W32 yb).length ≤ 10000) (hya : 0 < ya) (hyb : 0 < yb)
    (s : Bool) (n d : Nat) (hsn : sumN na (xa * yb) (nb != minus) (xb * ya) = (s, n)) (hd : ya * yb = d) :
    Calls Tryz.prog 57 #[.agg #[.bool na, A1, A2], .agg #[.bool nb, A3, A4], .bool minus] w (FitPost w (s && decide (0 < n)) (n / Nat.gcd n d) (d / Nat.gcd n d)) := by
  obtain ⟨B1, n1, c1, rfl, e1⟩ := h1.form
  obtain ⟨B2, n2, c2, rfl, e2⟩ := h2.form
  obtain ⟨B3, n3, c3, rfl, e3⟩ := h3.form
  obtain ⟨B4, n4, c4, rfl, e4⟩ := h4.form
  clear e1 e2 e3 e4
  have HN : ∀ o1 o2 o3 : Obj, Hid (Nat32 (((w.alloc o1).alloc o2).alloc o3).drew (.slice B1 n1 c1) xa ∧ Nat32 (((w.alloc o1).alloc o2).alloc o3).drew (.slice B2 n2 c2) ya ∧ Nat32 (((w.alloc o1).alloc o2).alloc o3).drew (.slice B3 n3 c3) xb ∧ Nat32 (((w.alloc o1).alloc o2).alloc o3).drew (.slice B4 n4 c4) yb) :=
    fun o1 o2 o3 => ⟨h1.to (below_three w o1 o2 o3).drew, h2.to (below_three w o1 o2 o3).drew, h3.to (below_three w o1 o2 o3).drew, h4.to (below_three w o1 o2 o3).drew⟩
  have HL : Hid (((digs W32 xa).length ≤ 50000 ∧ (digs W32 ya).length ≤ 50000) ∧ ((digs W32 xb).length ≤ 50000 ∧ (digs W32 yb).length ≤ 50000)) := ⟨⟨by omega, by omega⟩, by omega, by omega⟩
  have m1 := digs_len_mul xa yb
  have m2 := digs_len_mul xb ya
  have m3 := digs_len_mul ya yb
  have HM : Hid ((digs W32 (xa * yb)).length ≤ 50000 ∧ (digs W32 (xb * ya)).length ≤ 50000 ∧ (digs W32 d).length ≤ 50000) := ⟨by omega, by omega, by rw [← hd]; omega⟩
  have HSL : Hid ((digs W32 n).length ≤ 50000) := by
    have := sumN_len (na := na) (nb := (nb != minus)) (x := xa * yb) (y := xb * ya) (n := 20000) (by omega) (by omega)
    rw [hsn] at this
    unfold Hid; exact Nat.le_trans this (by omega)
  have HD0 : Hid (0 < d) := by unfold Hid; rw [← hd]; exact Nat.mul_pos hya hyb
  have HD := Lib.hid hd
  have HSN := Lib.hid hsn
  have HMD := Lib.hid (fun (u v : Value) (W : World) (a1 : Nat32 W u n) (a2 : Nat32 W v d) => made_any s n d u v W a1 a2 HD0.out HSL.out HM.out.2.2)
  clear h1 h2 h3 h4 l1 l2 l3 l4 hya hyb m1 m2 m3 hd hsn
  generalize (s && decide (0 < n)) = sg at *
  generalize n / Nat.gcd n d = x' at *
  generalize d / Nat.gcd n d = y' at *
  have hkeep : ∀ W1 W' : World, Below W1.heap.size W1 W' → (W1.cell? ⟨w.heap.size, 0, none⟩ = some (.bool na) ∧ W1.cell? ⟨w.heap.size, 1, none⟩ = some (.slice B1 n1 c1) ∧ W1.cell? ⟨w.heap.size, 2, none⟩ = some (.slice B2 n2 c2) ∧ W1.cell? ⟨w.heap.size + 1, 0, none⟩ = some (.bool nb) ∧ W1.cell? ⟨w.heap.size + 1, 1, none⟩ = some (.slice B3 n3 c3) ∧ W1.cell? ⟨w.heap.size + 1, 2, none⟩ = some (.slice B4 n4 c4) ∧ w.heap.size + 2 < W1.heap.size) → (W'.cell? ⟨w.heap.size, 0, none⟩ = some (.bool na) ∧ W'.cell? ⟨w.heap.size, 1, none⟩ = some (.slice B1 n1 c1) ∧ W'.cell? ⟨w.heap.size, 2, none⟩ = some (.slice B2 n2 c2) ∧ W'.cell? ⟨w.heap.size + 1, 0, none⟩ = some (.bool nb) ∧ W'.cell? ⟨w.heap.size + 1, 1, none⟩ = some (.slice B3 n3 c3) ∧ W'.cell? ⟨w.heap.size + 1, 2, none⟩ = some (.slice B4 n4 c4) ∧ w.heap.size + 2 < W'.heap.size) := fun W1 W' h1 h2 => Box2.to (w := W1) (w' := W') (g := w.heap.size) h2 h1
  have HK := Lib.hid hkeep
  clear hkeep
  have HSU : Hid (∀ (u v : Value) (W : World), Nat32 W u (xa * yb) → Nat32 W v (xb * ya) → Calls Tryz.prog 70 #[.bool na, u, .bool (!(nb == minus)), v] W (SumPost W (s, n))) := fun u v W a1 a2 => by rw [← HSN.out]; exact sum_any na (nb != minus) _ _ u v W a1 a2 HM.out.1 HM.out.2.1
  go_enter Tryz.func57, Tryz.ntmps57
  go_wp2
  go_region_held3 (fun w' => w'.cell? ⟨w.heap.size, 0, none⟩ = some (.bool na) ∧ w'.cell? ⟨w.heap.size, 1, none⟩ = some (.slice B1 n1 c1) ∧ w'.cell? ⟨w.heap.size, 2, none⟩ = some (.slice B2 n2 c2) ∧ w'.cell? ⟨w.heap.size + 1, 0, none⟩ = some (.bool nb) ∧ w'.cell? ⟨w.heap.size + 1, 1, none⟩ = some (.slice B3 n3 c3) ∧ w'.cell? ⟨w.heap.size + 1, 2, none⟩ = some (.slice B4 n4 c4) ∧ w.heap.size + 2 < w'.heap.size)
    (first | go_keep | (refine HK.out _ _ (by assumption) ?_; go_keep))
    (first
      | (go_at_call 68; ((with_reducible refine (mul_any xa yb (.slice B1 n1 c1) (.slice B4 n4 c4) _ (by exact (HN _ _ _).out.1) (by exact (HN _ _ _).out.2.2.2) HL.out.1.1 HL.out.2.2).mono ?_)); rintro e w1 ⟨v1, rfl, hn1, hb1⟩)
      | (go_at_call 68; ((with_reducible refine (mul_any xb ya (.slice B3 n3 c3) (.slice B2 n2 c2) _ (by exact (HN _ _ _).out.2.2.1.to hb1) (by exact (HN _ _ _).out.2.1.to hb1) HL.out.2.1 HL.out.1.2).mono ?_)); rintro e w2 ⟨v2, rfl, hn2, hb2⟩)
      | (go_at_call 70; ((with_reducible refine (HSU.out _ _ _ (by exact hn1.to hb2) (by exact hn2)).mono ?_)); rintro e w3 ⟨v3, rfl, hn3, hb3⟩))
  have HB3 : Hid (∀ W0 : World, Below W0.heap.size W0 w1 → Below W0.heap.size W0 w3) := fun W0 h => (h.trans (hb2.mono h.size)).trans (hb3.mono (Nat.le_trans h.size hb2.size))
  have HB03 := Lib.hid (HB3.out _ hb1)
  have HN3 := Lib.hid hn3
  clear hn1 hn2 hn3 hb1 hb2 hb3 HB3 HK HSU HSN
  have HBL : Hid (Below w.heap.size w w3) := (below_three w _ _ _).drew.trans (HB03.out.mono (below_three w _ _ _).drew.size)
  have hblk : Blk w3 (w.heap.size + 1 + 1) 24 #[.bool false, .slice none 0 0, .slice none 0 0] := Blk.to (w := World.drew _) (Blk.drew (by have := Blk.new ((w.alloc (.cells #[.bool na, .slice B1 n1 c1, .slice B2 n2 c2] 24)).alloc (.cells #[.bool nb, .slice B3 n3 c3, .slice B4 n4 c4] 24)) 24 #[.bool false, .slice none 0 0, .slice none 0 0]; simpa using this)) HB03.out
  have hca : w3.cell? ⟨w.heap.size, 2, none⟩ = some (.slice B2 n2 c2) := ((((Blk.new w 24 #[.bool na, .slice B1 n1 c1, .slice B2 n2 c2]).alloc _).alloc _).drew.to HB03.out).cell 2
  have hcb : w3.cell? ⟨w.heap.size + 1, 2, none⟩ = some (.slice B4 n4 c4) := by
    have h : Blk ((w.alloc (.cells #[.bool na, .slice B1 n1 c1, .slice B2 n2 c2] 24)).alloc (.cells #[.bool nb, .slice B3 n3 c3, .slice B4 n4 c4] 24)) (w.heap.size + 1) 24 #[.bool nb, .slice B3 n3 c3, .slice B4 n4 c4] := by have := Blk.new (w.alloc (.cells #[.bool na, .slice B1 n1 c1, .slice B2 n2 c2] 24)) 24 #[.bool nb, .slice B3 n3 c3, .slice B4 n4 c4]; simpa using this
    exact ((h.alloc _).drew.to HB03.out).cell 2
  have HN2 := Lib.hid ((HN _ _ _).out.2.1.to HB03.out)
  have HN4 := Lib.hid ((HN _ _ _).out.2.2.2.to HB03.out)
  have HBK := Lib.hid hblk
  clear hblk HN
  go_wp2_with fail
  refine (mul_any ya yb _ _ _ (by exact HN2.out) (by exact HN4.out) HL.out.1.2 HL.out.2.2).mono ?_
  rintro e w4 ⟨v4, rfl, hn4, hb4⟩
  have HN5 := Lib.hid hn4
  rw [HD.out] at HN5
  have HB4 := Lib.hid hb4
  clear hn4 hb4
  go_wp2_with fail
  refine (HMD.out _ _ _ (by exact HN3.out.to HB4.out) (by exact HN5.out)).mono ?_
  rintro e w5 (⟨hf, v5, rfl, hn5, hb5⟩ | ⟨hf, rfl, hb5⟩)
  · have hblk := (HBK.out.to HB4.out).to hb5
    have HBE : Hid (Below w.heap.size w w5) := (HBL.out.trans (HB4.out.mono HBL.out.size)).trans (hb5.mono (Nat.le_trans HBL.out.size HB4.out.size))
    have HN6 := Lib.hid hn5
    have HF := Lib.hid hf
    have hc0 := hblk.cell 0
    have hc1 := hblk.cell 1
    have hc2 := hblk.cell 2
    have hf0 := hblk.frozen 0
    have hf1 := hblk.frozen 1
    have hf2 := hblk.frozen 2
    have HBLK := Lib.hid hblk
    clear hblk hn5 hb5 hf HB4 hca hcb
    simp only [List.getElem?_toArray, List.getElem?_cons_zero, List.getElem?_cons_succ] at hc0 hc1 hc2
    obtain ⟨A, n, c, A', m, d, rfl, hl1, hl2⟩ := HN6.out.form
    clear hl1 hl2
    go_wp2
    refine bodyPost_ret (v := .tuple #[.agg #[.bool sg, .slice A n c, .slice A' m d], .int .i64 0]) (by rw [results_cell_tmp rfl]; go_simp) rfl (.inl ⟨HF.out, _, rfl, ?_, ?_⟩)
    · exact HN6.out.put3 HBLK.out _ _ _
    · exact put3_below HBE.out (by omega) _ _ _
  · have hblk := (HBK.out.to HB4.out).to hb5
    have HBE : Hid (Below w.heap.size w w5) := (HBL.out.trans (HB4.out.mono HBL.out.size)).trans (hb5.mono (Nat.le_trans HBL.out.size HB4.out.size))
    have HF := Lib.hid hf
    have hc0 := hblk.cell 0
    have hc1 := hblk.cell 1
    have hc2 := hblk.cell 2
    have hf0 := hblk.frozen 0
    have hf1 := hblk.frozen 1
    have hf2 := hblk.frozen 2
    clear hblk hb5 hf HB4 hca hcb
    simp only [List.getElem?_toArray, List.getElem?_cons_zero, List.getElem?_cons_succ] at hc0 hc1 hc2
    unfold zeroNum
    go_wp2
    refine bodyPost_ret (v := .tuple #[zeroNum, .int .i64 3]) (by rw [results_cell_tmp rfl]; go_simp; rfl) rfl (.inr ⟨HF.out, rfl, ?_⟩)
    exact put3_below HBE.out (by omega) _ _ _
end Go.Proofs.YtdmhkhnnomdkcaaGreatDoor
/- number.Add, at any two numbers. -/
namespace Go.Proofs.YtdmhkhnnomdkcaaGreatDoor
open Go.RowKit NumB
set_option linter.unusedVariables false
set_option linter.unusedSimpArgs false

/-- What a number without fault is. -/
theorem checkL_zero {neg : Bool} {xs ys : List Nat} (ox : Ok W32 xs) (oy : Ok W32 ys) (h : checkL neg xs ys = 0) :
    digs W32 (val W32 xs) = xs ∧ digs W32 (val W32 ys) = ys ∧ xs.length ≤ 128 ∧ ys.length ≤ 128 ∧ 0 < val W32 ys ∧ Nat.gcd (val W32 xs) (val W32 ys) = 1 ∧ (val W32 xs = 0 → neg = false) := by
  unfold checkL at h
  by_cases h1 : 128 < xs.length ∨ 128 < ys.length
  · rw [if_pos h1] at h; omega
  rw [if_neg h1] at h
  by_cases h2 : lastB xs = true ∨ lastB ys = true ∨ ys.length = 0
  · rw [if_pos h2] at h; omega
  rw [if_neg h2] at h
  have hlx : lastB xs = false := by cases h : lastB xs with | false => rfl | true => exact absurd (.inl h) h2
  have hly : lastB ys = false := by cases h : lastB ys with | false => rfl | true => exact absurd (.inr (.inl h)) h2
  have hy0 : ys ≠ [] := by rintro rfl; exact h2 (.inr (.inr rfl))
  have hvy := val_pos (B := W32) (by decide) (top_of_last hly) hy0
  refine ⟨digs_val W32_gt ox (top_of_last hlx), digs_val W32_gt oy (top_of_last hly), by omega, by omega, hvy, ?_, ?_⟩
  · unfold checkN at h
    by_cases hx : val W32 xs = 0
    · rw [if_pos hx] at h
      by_cases h3 : neg = false ∧ val W32 ys = 1
      · rw [hx, h3.2]; rfl
      · rw [if_neg h3] at h; omega
    · rw [if_neg hx] at h
      by_cases h3 : val W32 ys = 1 ∨ val W32 xs = 1 ∨ Nat.gcd (val W32 xs) (val W32 ys) = 1
      · rcases h3 with h3 | h3 | h3
        · rw [h3, Nat.gcd_one_right]
        · rw [h3, Nat.gcd_one_left]
        · exact h3
      · rw [if_neg h3] at h; omega
  · intro hx
    unfold checkN at h
    rw [if_pos hx] at h
    by_cases h3 : neg = false ∧ val W32 ys = 1
    · exact h3.1
    · rw [if_neg h3] at h; omega

/-- An error, or a number that may be too long. -/
def OpPost (w : World) (err : Int) (sg : Bool) (x y : Nat) (e : Ending) (w' : World) : Prop :=
  (err ≠ 0 ∧ e = .returned (.tuple #[zeroNum, .int .i64 err]) ∧ Below w.heap.size w w') ∨ (err = 0 ∧ FitPost w sg x y e w')

/-- The first of two errors. -/
def err2 (a b : Int) : Int := if a = 0 then b else a
theorem err2_zero {a b : Int} : err2 a b = 0 ↔ a = 0 ∧ b = 0 := by
  unfold err2; split <;> constructor <;> intro h <;> omega
theorem checkL_bd (neg : Bool) (xs ys : List Nat) : 0 ≤ checkL neg xs ys ∧ checkL neg xs ys ≤ 3 := by
  unfold checkL checkN
  split
  · omega
  · split
    · omega
    · split
      · split <;> omega
      · split <;> omega
theorem err2_bd {a b : Int} (ha : 0 ≤ a ∧ a ≤ 3) (hb : 0 ≤ b ∧ b ≤ 3) : 0 ≤ err2 a b ∧ err2 a b ≤ 3 := by unfold err2; split <;> omega

/-- Three blocks, one after the other. -/
theorem blk3 (w : World) (t : TypeId) (a b c : Array Value) : Blk (((w.alloc (.cells a t)).alloc (.cells b t)).alloc (.cells c t)) w.heap.size t a ∧ Blk (((w.alloc (.cells a t)).alloc (.cells b t)).alloc (.cells c t)) (w.heap.size + 1) t b ∧ Blk (((w.alloc (.cells a t)).alloc (.cells b t)).alloc (.cells c t)) (w.heap.size + 1 + 1) t c := by
  refine ⟨((Blk.new w t a).alloc _).alloc _, ?_, ?_⟩
  · have := (Blk.new (w.alloc (.cells a t)) t b).alloc (.cells c t); simpa using this
  · have := Blk.new ((w.alloc (.cells a t)).alloc (.cells b t)) t c; simpa using this

/-- Two numbers that came in. -/
def Two (w : World) (na nb : Bool) (A1 A2 A3 A4 : Value) (xa ya xb yb : List Nat) : Prop := Sl .u32 w A1 xa ∧ Sl .u32 w A2 ya ∧ Sl .u32 w A3 xb ∧ Sl .u32 w A4 yb
theorem Two.to {w w' : World} {na nb : Bool} {A1 A2 A3 A4 : Value} {xa ya xb yb : List Nat} (h : Two w na nb A1 A2 A3 A4 xa ya xb yb) (hb : Below w.heap.size w w') : Two w' na nb A1 A2 A3 A4 xa ya xb yb := ⟨h.1.to hb, h.2.1.to hb, h.2.2.1.to hb, h.2.2.2.to hb⟩

theorem checks_two' {w : World} {na nb : Bool} {A1 A2 A3 A4 : Value} {xa ya xb yb : List Nat} (h : Two w na nb A1 A2 A3 A4 xa ya xb yb) (o1 : Ok W32 xa) (o2 : Ok W32 ya) (o3 : Ok W32 xb) (o4 : Ok W32 yb) (t : TypeId) (b cap : Nat) (hb : w.heap.size = b) :
    Calls Tryz.prog 34 #[.slice (some ⟨b, 0, none⟩) 2 cap] (w.alloc (.cells #[.bool na, A1, A2, .bool nb, A3, A4] t)) fun e w' => e = .returned (.int .i64 (err2 (checkL na xa ya) (checkL nb xb yb))) ∧ Below (w.alloc (.cells #[.bool na, A1, A2, .bool nb, A3, A4] t)).heap.size (w.alloc (.cells #[.bool na, A1, A2, .bool nb, A3, A4] t)) w' := by
  subst hb
  have h' := h.to (below_one w (.cells #[.bool na, A1, A2, .bool nb, A3, A4] t))
  exact checks_two w.heap.size cap na nb xa ya xb yb A1 A2 A3 A4 _ t (Blk.new _ _ _) h'.1 h'.2.1 h'.2.2.1 h'.2.2.2 o1 o2 o3 o4

set_option maxRecDepth 100000 in
set_option maxHeartbeats 6400000 in
theorem addNum_any (na nb : Bool) (xa ya xb yb : List Nat) (A1 A2 A3 A4 : Value) (w : World) (h : Two w na nb A1 A2 A3 A4 xa ya xb yb) (o1 : Ok W32 xa) (o2 : Ok W32 ya) (o3 : Ok W32 xb) (o4 : Ok W32 yb)
    (s : Bool) (n d : Nat) (hsn : sumN na (val W32 xa * val W32 yb) nb (val W32 xb * val W32 ya) = (s, n)) (hd : val W32 ya * val W32 yb = d) :
    Calls Tryz.prog 32 #[.agg #[.bool na, A1, A2], .agg #[.bool nb, A3, A4]] w (OpPost w (err2 (checkL na xa ya) (checkL nb xb yb)) (s && decide (0 < n)) (n / Nat.gcd n d) (d / Nat.gcd n d)) := by
  have HT := Lib.hid h
  obtain ⟨⟨B1, c1, rfl, _⟩, ⟨B2, c2, rfl, _⟩, ⟨B3, c3, rfl, _⟩, ⟨B4, c4, rfl, _⟩⟩ := h
  have HOK := Lib.hid (And.intro (And.intro o1 o2) (And.intro o3 o4))
  have hbd := err2_bd (checkL_bd na xa ya) (checkL_bd nb xb yb)
  have HPN : Hid (err2 (checkL na xa ya) (checkL nb xb yb) = 0 → ∀ W : World, Two W na nb (.slice B1 xa.length c1) (.slice B2 ya.length c2) (.slice B3 xb.length c3) (.slice B4 yb.length c4) xa ya xb yb → Calls Tryz.prog 57 #[.agg #[.bool na, .slice B1 xa.length c1, .slice B2 ya.length c2], .agg #[.bool nb, .slice B3 xb.length c3, .slice B4 yb.length c4], .bool false] W (FitPost W (s && decide (0 < n)) (n / Nat.gcd n d) (d / Nat.gcd n d))) := by
    intro he W hW
    obtain ⟨ea, eb⟩ := err2_zero.1 he
    obtain ⟨a1, a2, a3, a4, a5, _⟩ := checkL_zero o1 o2 ea
    obtain ⟨b1, b2, b3, b4, b5, _⟩ := checkL_zero o3 o4 eb
    refine plusNum_any na nb false (val W32 xa) (val W32 ya) (val W32 xb) (val W32 yb) _ _ _ _ W ?_ ?_ ?_ ?_ (by rw [a1]; omega) (by rw [a2]; omega) (by rw [b1]; omega) (by rw [b2]; omega) a5 b5 s n d (by rw [← hsn]; cases nb <;> rfl) hd
    · unfold Nat32; rw [a1]; exact hW.1
    · unfold Nat32; rw [a2]; exact hW.2.1
    · unfold Nat32; rw [b1]; exact hW.2.2.1
    · unfold Nat32; rw [b2]; exact hW.2.2.2
  have HCK := Lib.hid (fun (W : World) (t : TypeId) (b cap : Nat) (hb : W.heap.size = b) (hW : Two W na nb (.slice B1 xa.length c1) (.slice B2 ya.length c2) (.slice B3 xb.length c3) (.slice B4 yb.length c4) xa ya xb yb) => checks_two' hW o1 o2 o3 o4 t b cap hb)
  clear o1 o2 o3 o4 hsn hd
  generalize (s && decide (0 < n)) = sg at *
  generalize n / Nat.gcd n d = x' at *
  generalize d / Nat.gcd n d = y' at *
  generalize err2 (checkL na xa ya) (checkL nb xb yb) = er at *
  generalize hz1 : xa.length = n1 at *
  generalize hz2 : ya.length = n2 at *
  generalize hz3 : xb.length = n3 at *
  generalize hz4 : yb.length = n4 at *
  clear hz1 hz2 hz3 hz4
  by_cases he : er = 0
  · have he1 : (er != 0) = false := by rw [he]; rfl
    have HE := Lib.hid he
    clear he
    go_enter Tryz.func32, Tryz.ntmps32
    go_wp2_with fail
    refine (HCK.out _ _ _ _ (by simp) (by exact HT.out.to (below_three w _ _ _))).mono ?_
    rintro e w1 ⟨rfl, hb1⟩
    have hb0 := (below_one _ _).trans (hb1.mono (below_one _ _).size)
    obtain ⟨k1, k2, k3⟩ := blk3 w 24 #[.bool na, .slice B1 n1 c1, .slice B2 n2 c2] #[.bool nb, .slice B3 n3 c3, .slice B4 n4 c4] #[.bool false, .slice none 0 0, .slice none 0 0]
    have hg1 := k1.to hb0
    have hg2 := k2.to hb0
    have hg3 := k3.to hb0
    have HT1 := Lib.hid ((HT.out.to (below_three w _ _ _)).to hb0)
    have HBL : Hid (Below w.heap.size w w1) := (below_three w _ _ _).trans (hb0.mono (below_three w _ _ _).size)
    have a0 := hg1.cell 0
    have a1 := hg1.cell 1
    have a2 := hg1.cell 2
    have b0 := hg2.cell 0
    have b1 := hg2.cell 1
    have b2 := hg2.cell 2
    have HG3 := Lib.hid hg3
    clear k1 k2 k3 hg1 hg2 hg3 hb0 hb1
    simp only [List.getElem?_toArray, List.getElem?_cons_zero, List.getElem?_cons_succ] at a0 a1 a2 b0 b1 b2
    go_wp2_with fail
    refine (HPN.out HE.out _ (by exact HT1.out)).mono ?_
    rintro e w2 (⟨hf, v5, rfl, hn5, hb5⟩ | ⟨hf, rfl, hb5⟩)
    · have hblk := HG3.out.to hb5
      have HBE : Hid (Below w.heap.size w w2) := HBL.out.trans (hb5.mono HBL.out.size)
      have HN6 := Lib.hid hn5
      have HF := Lib.hid hf
      clear hn5 hb5 hf a0 a1 a2 b0 b1 b2
      have hc0 := hblk.cell 0
      have hc1 := hblk.cell 1
      have hc2 := hblk.cell 2
      have hf0 := hblk.frozen 0
      have hf1 := hblk.frozen 1
      have hf2 := hblk.frozen 2
      have HBLK := Lib.hid hblk
      clear hblk
      simp only [List.getElem?_toArray, List.getElem?_cons_zero, List.getElem?_cons_succ] at hc0 hc1 hc2
      obtain ⟨A, n, c, A', m, d, rfl, hl1, hl2⟩ := HN6.out.form
      clear hl1 hl2
      go_wp2
      refine bodyPost_ret (v := .tuple #[.agg #[.bool sg, .slice A n c, .slice A' m d], .int .i64 0]) (by rw [results_cell_tmp rfl]; go_simp) rfl (.inr ⟨HE.out, .inl ⟨HF.out, _, rfl, ?_, ?_⟩⟩)
      · exact HN6.out.put3 HBLK.out _ _ _
      · exact put3_below HBE.out (by omega) _ _ _
    · have hblk := HG3.out.to hb5
      have HBE : Hid (Below w.heap.size w w2) := HBL.out.trans (hb5.mono HBL.out.size)
      have HF := Lib.hid hf
      clear hb5 hf a0 a1 a2 b0 b1 b2
      have hc0 := hblk.cell 0
      have hc1 := hblk.cell 1
      have hc2 := hblk.cell 2
      have hf0 := hblk.frozen 0
      have hf1 := hblk.frozen 1
      have hf2 := hblk.frozen 2
      have HBLK := Lib.hid hblk
      clear hblk
      simp only [List.getElem?_toArray, List.getElem?_cons_zero, List.getElem?_cons_succ] at hc0 hc1 hc2
      unfold zeroNum
      go_wp2
      refine bodyPost_ret (v := .tuple #[zeroNum, .int .i64 3]) (by rw [results_cell_tmp rfl]; go_simp; rfl) rfl (.inr ⟨HE.out, .inr ⟨HF.out, rfl, ?_⟩⟩)
      exact put3_below HBE.out (by omega) _ _ _
  · have he1 : (er != 0) = true := by rw [bne_iff_ne]; exact he
    have HE := Lib.hid he
    clear he
    go_enter Tryz.func32, Tryz.ntmps32
    go_wp2_with fail
    refine (HCK.out _ _ _ _ (by simp) (by exact HT.out.to (below_three w _ _ _))).mono ?_
    rintro e w1 ⟨rfl, hb1⟩
    have hb0 := (below_one _ _).trans (hb1.mono (below_one _ _).size)
    obtain ⟨k1, k2, k3⟩ := blk3 w 24 #[.bool na, .slice B1 n1 c1, .slice B2 n2 c2] #[.bool nb, .slice B3 n3 c3, .slice B4 n4 c4] #[.bool false, .slice none 0 0, .slice none 0 0]
    have hblk := k3.to hb0
    have HBE : Hid (Below w.heap.size w w1) := (below_three w _ _ _).trans (hb0.mono (below_three w _ _ _).size)
    clear k1 k2 k3 hb0 hb1
    have hc0 := hblk.cell 0
    have hc1 := hblk.cell 1
    have hc2 := hblk.cell 2
    have hf0 := hblk.frozen 0
    have hf1 := hblk.frozen 1
    have hf2 := hblk.frozen 2
    have HBLK := Lib.hid hblk
    clear hblk
    simp only [List.getElem?_toArray, List.getElem?_cons_zero, List.getElem?_cons_succ] at hc0 hc1 hc2
    go_wp2
    refine bodyPost_ret (v := .tuple #[zeroNum, .int .i64 er]) (by rw [results_cell_tmp rfl]; go_simp; rfl) rfl (.inl ⟨HE.out, rfl, ?_⟩)
    exact put3_below HBE.out (by omega) _ _ _
end Go.Proofs.YtdmhkhnnomdkcaaGreatDoor

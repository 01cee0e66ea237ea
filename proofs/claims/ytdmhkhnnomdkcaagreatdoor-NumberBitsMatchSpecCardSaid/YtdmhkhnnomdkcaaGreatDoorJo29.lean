/-  -/
import Derived.Test.YtdmhkhnnomdkcaaGreatDoorJo18
import Derived.Test.YtdmhkhnnomdkcaaGreatDoorJo28
set_option linter.unusedVariables false
set_option linter.unusedSimpArgs false
/- fetterlockref1.Plus. Conditions: at most 10000 digits; the denominators are not 0. -/
namespace Go.Proofs.YtdmhkhnnomdkcaaGreatDoor
open Go.RowKit NumB
set_option linter.unusedVariables false
set_option linter.unusedSimpArgs false
theorem digs16_len_add {x y n : Nat} (hx : (digs W16 x).length ≤ n) (hy : (digs W16 y).length ≤ n) : (digs W16 (x + y)).length ≤ n + 1 := by
  refine digs_len_le W16_gt ?_
  have h1 := Nat.lt_of_lt_of_le (digs_lt W16_gt (n := x)) (Nat.pow_le_pow_right (by decide) hx)
  have h2 := Nat.lt_of_lt_of_le (digs_lt W16_gt (n := y)) (Nat.pow_le_pow_right (by decide) hy)
  rw [Nat.pow_succ]
  have h3 : W16 = 65536 := rfl
  generalize W16 ^ n = P at *
  rw [h3]; omega
theorem sumN16_len {na nb : Bool} {x y n : Nat} (hx : (digs W16 x).length ≤ n) (hy : (digs W16 y).length ≤ n) : (digs W16 (sumN na x nb y).2).length ≤ n + 1 := by
  unfold sumN
  split
  · exact digs16_len_add hx hy
  · split
    · exact Nat.le_trans (digs_len_mono W16_gt (Nat.sub_le _ _)) (by omega)
    · exact Nat.le_trans (digs_len_mono W16_gt (Nat.sub_le _ _)) (by omega)

set_option maxRecDepth 100000 in
set_option maxHeartbeats 6400000 in
theorem rplus_any (na nb : Bool) (xa ya xb yb : Nat) (va vb : Value) (w : World) (ha : RV w va na xa ya) (hb : RV w vb nb xb yb) (h0 : 0 < ya) (h00 : 0 < yb)
    (l1 : (digs W16 xa).length ≤ 10000) (l2 : (digs W16 ya).length ≤ 10000) (l3 : (digs W16 xb).length ≤ 10000) (l4 : (digs W16 yb).length ≤ 10000) :
    Calls Tryz.prog 19 #[va, vb] w (RVPost w ((sumN na (xa * yb) nb (xb * ya)).1 && decide (0 < (sumN na (xa * yb) nb (xb * ya)).2)) ((sumN na (xa * yb) nb (xb * ya)).2 / Nat.gcd ((sumN na (xa * yb) nb (xb * ya)).2) (ya * yb)) (ya * yb / Nat.gcd ((sumN na (xa * yb) nb (xb * ya)).2) (ya * yb))) := by
  obtain ⟨A1, A2, rfl, h1, h2⟩ := ha
  obtain ⟨A3, A4, rfl, h3, h4⟩ := hb
  obtain ⟨B1, n1, c1, rfl, e1⟩ := h1.form
  obtain ⟨B2, n2, c2, rfl, e2⟩ := h2.form
  obtain ⟨B3, n3, c3, rfl, e3⟩ := h3.form
  obtain ⟨B4, n4, c4, rfl, e4⟩ := h4.form
  have HL : Hid (((digs W16 xa).length ≤ 50000 ∧ (digs W16 ya).length ≤ 50000) ∧ ((digs W16 xb).length ≤ 50000 ∧ (digs W16 yb).length ≤ 50000)) := ⟨⟨by omega, by omega⟩, by omega, by omega⟩
  have HM : Hid (((digs W16 (xa * yb)).length ≤ 20000 ∧ (digs W16 (xb * ya)).length ≤ 20000) ∧ (digs W16 (ya * yb)).length ≤ 50000) := ⟨⟨Nat.le_trans (digs16_len_mul _ _) (by omega), Nat.le_trans (digs16_len_mul _ _) (by omega)⟩, Nat.le_trans (digs16_len_mul _ _) (by omega)⟩
  have HD0 : Hid (0 < ya * yb) := Nat.mul_pos h0 h00
  have HN : ∀ o1 o2 o3 : Obj, Hid (Nat16 (((w.alloc o1).alloc o2).alloc o3).drew (.slice B1 n1 c1) xa ∧ Nat16 (((w.alloc o1).alloc o2).alloc o3).drew (.slice B2 n2 c2) ya ∧ Nat16 (((w.alloc o1).alloc o2).alloc o3).drew (.slice B3 n3 c3) xb ∧ Nat16 (((w.alloc o1).alloc o2).alloc o3).drew (.slice B4 n4 c4) yb) :=
    fun o1 o2 o3 => ⟨h1.to (below_3 w o1 o2 o3).drew, h2.to (below_3 w o1 o2 o3).drew, h3.to (below_3 w o1 o2 o3).drew, h4.to (below_3 w o1 o2 o3).drew⟩
  have HB0 : Hid (∀ o1 o2 o3 : Obj, Below w.heap.size w (((w.alloc o1).alloc o2).alloc o3).drew) := fun o1 o2 o3 => (below_3 w o1 o2 o3).drew
  clear e1 e2 e3 e4 h1 h2 h3 h4 l1 l2 l3 l4 h0 h00
  have HBK := Lib.hid (blk_3 w 43 43 43 #[.bool na, .slice B1 n1 c1, .slice B2 n2 c2] #[.bool nb, .slice B3 n3 c3, .slice B4 n4 c4] #[.bool false, .slice none 0 0, .slice none 0 0])
  have hk : ∀ W1 W' : World, Below W1.heap.size W1 W' → (W1.cell? ⟨w.heap.size, 0, none⟩ = some (.bool na) ∧ W1.cell? ⟨w.heap.size, 1, none⟩ = some (.slice B1 n1 c1) ∧ W1.cell? ⟨w.heap.size, 2, none⟩ = some (.slice B2 n2 c2) ∧ W1.cell? ⟨w.heap.size + 1, 0, none⟩ = some (.bool nb) ∧ W1.cell? ⟨w.heap.size + 1, 1, none⟩ = some (.slice B3 n3 c3) ∧ W1.cell? ⟨w.heap.size + 1, 2, none⟩ = some (.slice B4 n4 c4) ∧ w.heap.size + 2 < W1.heap.size) → (W'.cell? ⟨w.heap.size, 0, none⟩ = some (.bool na) ∧ W'.cell? ⟨w.heap.size, 1, none⟩ = some (.slice B1 n1 c1) ∧ W'.cell? ⟨w.heap.size, 2, none⟩ = some (.slice B2 n2 c2) ∧ W'.cell? ⟨w.heap.size + 1, 0, none⟩ = some (.bool nb) ∧ W'.cell? ⟨w.heap.size + 1, 1, none⟩ = some (.slice B3 n3 c3) ∧ W'.cell? ⟨w.heap.size + 1, 2, none⟩ = some (.slice B4 n4 c4) ∧ w.heap.size + 2 < W'.heap.size) := fun W1 W' h1 ⟨a0, a1, a2, a3, a4, a5, a6⟩ => ⟨(h1.cell (p := ⟨w.heap.size, 0, none⟩) (by show w.heap.size < _; omega)).trans a0, (h1.cell (p := ⟨w.heap.size, 1, none⟩) (by show w.heap.size < _; omega)).trans a1, (h1.cell (p := ⟨w.heap.size, 2, none⟩) (by show w.heap.size < _; omega)).trans a2, (h1.cell (p := ⟨w.heap.size + 1, 0, none⟩) (by show w.heap.size + 1 < _; omega)).trans a3, (h1.cell (p := ⟨w.heap.size + 1, 1, none⟩) (by show w.heap.size + 1 < _; omega)).trans a4, (h1.cell (p := ⟨w.heap.size + 1, 2, none⟩) (by show w.heap.size + 1 < _; omega)).trans a5, Nat.lt_of_lt_of_le a6 h1.size⟩
  have HK := Lib.hid hk
  clear hk
  have HSL : Hid ((digs W16 (sumN na (xa * yb) nb (xb * ya)).2).length ≤ 50000) := Nat.le_trans (sumN16_len HM.out.1.1 HM.out.1.2) (by omega)
  have HRED : Hid (∀ (W : World) (v u : Value), Nat16 W v (sumN na (xa * yb) nb (xb * ya)).2 → Nat16 W u (ya * yb) → Calls Tryz.prog 42 #[.bool (sumN na (xa * yb) nb (xb * ya)).1, v, u] W (RVPost W ((sumN na (xa * yb) nb (xb * ya)).1 && decide (0 < (sumN na (xa * yb) nb (xb * ya)).2)) ((sumN na (xa * yb) nb (xb * ya)).2 / Nat.gcd ((sumN na (xa * yb) nb (xb * ya)).2) (ya * yb)) (ya * yb / Nat.gcd ((sumN na (xa * yb) nb (xb * ya)).2) (ya * yb)))) := fun W v u h1 h2 => rreduce_any _ _ _ v u W h1 h2 HD0.out HSL.out HM.out.2
  have HSU : Hid (sumN na (xa * yb) nb (xb * ya) = if na = nb then (na, xa * yb + xb * ya) else if xb * ya ≤ xa * yb then (na, xa * yb - xb * ya) else (nb, xb * ya - xa * yb)) := rfl
  generalize sumN na (xa * yb) nb (xb * ya) = sm at *
  obtain ⟨ss, sn⟩ := sm
  generalize (ss && decide (0 < sn)) = sg at *
  generalize sn / Nat.gcd sn (ya * yb) = x' at *
  generalize (ya * yb) / Nat.gcd sn (ya * yb) = y' at *
  have hne1 : (w.heap.size = w.heap.size + 1 + 1) = False := by simp; omega
  have hne2 : (w.heap.size + 1 + 1 = w.heap.size) = False := by simp; omega
  go_enter Tryz.func19, Tryz.ntmps19
  go_wp2_with fail
  go_region_held3 (fun w' => w'.cell? ⟨w.heap.size, 0, none⟩ = some (.bool na) ∧ w'.cell? ⟨w.heap.size, 1, none⟩ = some (.slice B1 n1 c1) ∧ w'.cell? ⟨w.heap.size, 2, none⟩ = some (.slice B2 n2 c2) ∧ w'.cell? ⟨w.heap.size + 1, 0, none⟩ = some (.bool nb) ∧ w'.cell? ⟨w.heap.size + 1, 1, none⟩ = some (.slice B3 n3 c3) ∧ w'.cell? ⟨w.heap.size + 1, 2, none⟩ = some (.slice B4 n4 c4) ∧ w.heap.size + 2 < w'.heap.size)
    (first | go_keep | (refine HK.out _ _ (by assumption) ?_; go_keep))
    (first
      | (go_at_call 41; ((with_reducible refine (rmul_any xa yb (.slice B1 n1 c1) (.slice B4 n4 c4) _ (by exact (HN _ _ _).out.1) (by exact (HN _ _ _).out.2.2.2) HL.out.1.1 HL.out.2.2).mono ?_)); rintro e w1 ⟨v1, rfl, hn1, hb1⟩)
      | (go_at_call 41; ((with_reducible refine (rmul_any xb ya (.slice B3 n3 c3) (.slice B2 n2 c2) _ (by exact ((HN _ _ _).out.2.2.1).to hb1) (by exact ((HN _ _ _).out.2.1).to hb1) HL.out.2.1 HL.out.1.2).mono ?_)); rintro e w2 ⟨v2, rfl, hn2, hb2⟩)
      | (go_at_call 41; ((with_reducible refine (rmul_any ya yb (.slice B2 n2 c2) (.slice B4 n4 c4) _ (by exact (((HN _ _ _).out.2.1).to hb1).to hb2) (by exact (((HN _ _ _).out.2.2.2).to hb1).to hb2) HL.out.1.2 HL.out.2.2).mono ?_)); rintro e w3 ⟨v3, rfl, hn3, hb3⟩))
  have HBE : Hid (Below w.heap.size w w3) := (((HB0.out _ _ _).trans (hb1.mono (HB0.out _ _ _).size)).trans (hb2.mono (Nat.le_trans (HB0.out _ _ _).size hb1.size))).trans (hb3.mono (Nat.le_trans (Nat.le_trans (HB0.out _ _ _).size hb1.size) hb2.size))
  have KA := Lib.hid (((HBK.out.1.drew.to hb1).to hb2).to hb3)
  have KB := Lib.hid (((HBK.out.2.1.drew.to hb1).to hb2).to hb3)
  have KC := Lib.hid (((HBK.out.2.2.drew.to hb1).to hb2).to hb3)
  have HN1 := Lib.hid ((hn1.to hb2).to hb3)
  have HN2 := Lib.hid (hn2.to hb3)
  have HN3 := Lib.hid hn3
  obtain ⟨D1, p1, s1, rfl, hz1⟩ := hn1.form
  obtain ⟨D2, p2, s2, rfl, hz2⟩ := hn2.form
  obtain ⟨D3, p3, s3, rfl, hz3⟩ := hn3.form
  clear hn1 hn2 hn3 hb1 hb2 hb3 hz1 hz2 hz3 HK HN HB0 HBK
  have ca0 := KA.out.cell 0
  have ca1 := KA.out.cell 1
  have ca2 := KA.out.cell 2
  have cb0 := KB.out.cell 0
  have cb1 := KB.out.cell 1
  have cb2 := KB.out.cell 2
  simp only [List.getElem?_toArray, List.getElem?_cons_zero, List.getElem?_cons_succ] at ca0 ca1 ca2 cb0 cb1 cb2
  have HLT := Lib.hid KC.out.lt
  by_cases hs : na = nb
  · subst hs
    rw [if_pos rfl] at HSU
    obtain ⟨rfl, rfl⟩ := Prod.mk.inj HSU.out
    have hee : (ss == ss) = true := by simp
    have HK : Hid (∀ W1 W' : World, Below W1.heap.size W1 W' → (W1.cell? ⟨w.heap.size, 0, none⟩ = some (.bool ss) ∧ w.heap.size + 2 < W1.heap.size) → (W'.cell? ⟨w.heap.size, 0, none⟩ = some (.bool ss) ∧ w.heap.size + 2 < W'.heap.size)) := fun W1 W' h1 ⟨a0, a1⟩ => ⟨(h1.cell (p := ⟨w.heap.size, 0, none⟩) (by show w.heap.size < _; omega)).trans a0, Nat.lt_of_lt_of_le a1 h1.size⟩
    have hlt := HLT.out
    have HD1 : Hid (Nat16 w3.drew (.slice D1 p1 s1) (xa * yb)) := HN1.out
    have HD2 : Hid (Nat16 w3.drew (.slice D2 p2 s2) (xb * ya)) := HN2.out
    have HD3 : Hid (Nat16 w3.drew (.slice D3 p3 s3) (ya * yb)) := HN3.out
    have KD := Lib.hid KC.out.drew
    have HBD : Hid (Below w.heap.size w w3.drew) := HBE.out.drew
    go_wp2_with fail
    go_region_held3 (fun w' => w'.cell? ⟨w.heap.size, 0, none⟩ = some (.bool ss) ∧ w.heap.size + 2 < w'.heap.size)
      (first | go_keep | (refine HK.out _ _ (by assumption) ?_; go_keep))
      (first
        | (go_at_call 43; ((with_reducible refine (radd_any (xa * yb) (xb * ya) _ _ _ (by exact HD1.out) (by exact HD2.out) (by have := HM.out; omega) (by have := HM.out; omega)).mono ?_)); rintro e w4 ⟨v4, rfl, hn4, hb4⟩)
        | (go_at_call 42; ((with_reducible refine (HRED.out _ _ _ (by exact hn4) (by exact HD3.out.to hb4)).mono ?_)); rintro e w5 ⟨v5, rfl, hn5, hb5⟩; have hblk := (KD.out.to hb4).to hb5; obtain ⟨C1, q1, r1, C2, q2, r2, rfl, hq1, hq2⟩ := hn5.form; clear hq1 hq2; have hc0 := hblk.cell 0; have hc1 := hblk.cell 1; have hc2 := hblk.cell 2; have hf0 := hblk.frozen 0; have hf1 := hblk.frozen 1; have hf2 := hblk.frozen 2; simp only [List.getElem?_toArray, List.getElem?_cons_zero, List.getElem?_cons_succ] at hc0 hc1 hc2))
    all_goals
      go_wp2_with fail
      refine bodyPost_ret (v := .agg #[.bool sg, .slice C1 q1 r1, .slice C2 q2 r2]) (by simp [results, Tryz.results19, go_sem, hc0, hc1, hc2]) rfl ⟨_, rfl, ?_, ?_⟩
      · exact RV.put3 (w := w5) hn5 hblk _ _ _
      · exact put3_below ((HBD.out.trans (hb4.mono HBD.out.size)).trans (hb5.mono (Nat.le_trans HBD.out.size hb4.size))) (by omega) _ _ _
  · rw [if_neg hs] at HSU
    have hee : (na == nb) = false := by simp [hs]
    clear hs
    go_wp2_with fail
    refine (rcmp_any (xa * yb) (xb * ya) _ _ _ (by exact HN1.out) (by exact HN2.out) (by have := HM.out; omega) (by have := HM.out; omega)).mono ?_
    rintro e w4 ⟨rfl, rfl⟩
    by_cases hge : xb * ya ≤ xa * yb
    · rw [if_pos hge] at HSU
      have HGE := Lib.hid hge
      obtain ⟨z, hz, hz0⟩ : ∃ z, cmpI (xa * yb) (xb * ya) = z ∧ 0 ≤ z := ⟨_, rfl, cmpI_nonneg.2 hge⟩
      rw [hz]
      clear hz hge
      obtain ⟨rfl, rfl⟩ := Prod.mk.inj HSU.out
      have HK : Hid (∀ W1 W' : World, Below W1.heap.size W1 W' → (W1.cell? ⟨w.heap.size, 0, none⟩ = some (.bool ss) ∧ w.heap.size + 2 < W1.heap.size) → (W'.cell? ⟨w.heap.size, 0, none⟩ = some (.bool ss) ∧ w.heap.size + 2 < W'.heap.size)) := fun W1 W' h1 ⟨a0, a1⟩ => ⟨(h1.cell (p := ⟨w.heap.size, 0, none⟩) (by show w.heap.size < _; omega)).trans a0, Nat.lt_of_lt_of_le a1 h1.size⟩
      have hlt := HLT.out
      have HD1 : Hid (Nat16 w3.drew (.slice D1 p1 s1) (xa * yb)) := HN1.out
      have HD2 : Hid (Nat16 w3.drew (.slice D2 p2 s2) (xb * ya)) := HN2.out
      have HD3 : Hid (Nat16 w3.drew (.slice D3 p3 s3) (ya * yb)) := HN3.out
      have KD := Lib.hid KC.out.drew
      have HBD : Hid (Below w.heap.size w w3.drew) := HBE.out.drew
      go_wp2_with fail
      go_region_held3 (fun w' => w'.cell? ⟨w.heap.size, 0, none⟩ = some (.bool ss) ∧ w.heap.size + 2 < w'.heap.size)
        (first | go_keep | (refine HK.out _ _ (by assumption) ?_; go_keep))
        (first
          | (go_at_call 44; ((with_reducible refine (rsub_any (xa * yb) (xb * ya) _ _ _ (by exact HD1.out) (by exact HD2.out) (by have := HM.out; omega) HGE.out).mono ?_)); rintro e w4 ⟨v4, rfl, hn4, hb4⟩)
          | (go_at_call 42; ((with_reducible refine (HRED.out _ _ _ (by exact hn4) (by exact HD3.out.to hb4)).mono ?_)); rintro e w5 ⟨v5, rfl, hn5, hb5⟩; have hblk := (KD.out.to hb4).to hb5; obtain ⟨C1, q1, r1, C2, q2, r2, rfl, hq1, hq2⟩ := hn5.form; clear hq1 hq2; have hc0 := hblk.cell 0; have hc1 := hblk.cell 1; have hc2 := hblk.cell 2; have hf0 := hblk.frozen 0; have hf1 := hblk.frozen 1; have hf2 := hblk.frozen 2; simp only [List.getElem?_toArray, List.getElem?_cons_zero, List.getElem?_cons_succ] at hc0 hc1 hc2))
      all_goals
        go_wp2_with fail
        refine bodyPost_ret (v := .agg #[.bool sg, .slice C1 q1 r1, .slice C2 q2 r2]) (by simp [results, Tryz.results19, go_sem, hc0, hc1, hc2]) rfl ⟨_, rfl, ?_, ?_⟩
        · exact RV.put3 (w := w5) hn5 hblk _ _ _
        · exact put3_below ((HBD.out.trans (hb4.mono HBD.out.size)).trans (hb5.mono (Nat.le_trans HBD.out.size hb4.size))) (by omega) _ _ _
    · rw [if_neg hge] at HSU
      have HGE : Hid (xa * yb ≤ xb * ya) := by unfold Hid; omega
      obtain ⟨z, hz, hz0⟩ : ∃ z, cmpI (xa * yb) (xb * ya) = z ∧ z < 0 := ⟨_, rfl, cmpI_neg.2 (by omega)⟩
      rw [hz]
      clear hz hge
      obtain ⟨rfl, rfl⟩ := Prod.mk.inj HSU.out
      have HK : Hid (∀ W1 W' : World, Below W1.heap.size W1 W' → (W1.cell? ⟨w.heap.size + 1, 0, none⟩ = some (.bool ss) ∧ w.heap.size + 2 < W1.heap.size) → (W'.cell? ⟨w.heap.size + 1, 0, none⟩ = some (.bool ss) ∧ w.heap.size + 2 < W'.heap.size)) := fun W1 W' h1 ⟨a0, a1⟩ => ⟨(h1.cell (p := ⟨w.heap.size + 1, 0, none⟩) (by show w.heap.size + 1 < _; omega)).trans a0, Nat.lt_of_lt_of_le a1 h1.size⟩
      have hlt := HLT.out
      have HD1 : Hid (Nat16 w3.drew (.slice D1 p1 s1) (xa * yb)) := HN1.out
      have HD2 : Hid (Nat16 w3.drew (.slice D2 p2 s2) (xb * ya)) := HN2.out
      have HD3 : Hid (Nat16 w3.drew (.slice D3 p3 s3) (ya * yb)) := HN3.out
      have KD := Lib.hid KC.out.drew
      have HBD : Hid (Below w.heap.size w w3.drew) := HBE.out.drew
      go_wp2_with fail
      go_region_held3 (fun w' => w'.cell? ⟨w.heap.size + 1, 0, none⟩ = some (.bool ss) ∧ w.heap.size + 2 < w'.heap.size)
        (first | go_keep | (refine HK.out _ _ (by assumption) ?_; go_keep))
        (first
          | (go_at_call 44; ((with_reducible refine (rsub_any (xb * ya) (xa * yb) _ _ _ (by exact HD2.out) (by exact HD1.out) (by have := HM.out; omega) HGE.out).mono ?_)); rintro e w4 ⟨v4, rfl, hn4, hb4⟩)
          | (go_at_call 42; ((with_reducible refine (HRED.out _ _ _ (by exact hn4) (by exact HD3.out.to hb4)).mono ?_)); rintro e w5 ⟨v5, rfl, hn5, hb5⟩; have hblk := (KD.out.to hb4).to hb5; obtain ⟨C1, q1, r1, C2, q2, r2, rfl, hq1, hq2⟩ := hn5.form; clear hq1 hq2; have hc0 := hblk.cell 0; have hc1 := hblk.cell 1; have hc2 := hblk.cell 2; have hf0 := hblk.frozen 0; have hf1 := hblk.frozen 1; have hf2 := hblk.frozen 2; simp only [List.getElem?_toArray, List.getElem?_cons_zero, List.getElem?_cons_succ] at hc0 hc1 hc2))
      all_goals
        go_wp2_with fail
        refine bodyPost_ret (v := .agg #[.bool sg, .slice C1 q1 r1, .slice C2 q2 r2]) (by simp [results, Tryz.results19, go_sem, hc0, hc1, hc2]) rfl ⟨_, rfl, ?_, ?_⟩
        · exact RV.put3 (w := w5) hn5 hblk _ _ _
        · exact put3_below ((HBD.out.trans (hb4.mono HBD.out.size)).trans (hb5.mono (Nat.le_trans HBD.out.size hb4.size))) (by omega) _ _ _
end Go.Proofs.YtdmhkhnnomdkcaaGreatDoor

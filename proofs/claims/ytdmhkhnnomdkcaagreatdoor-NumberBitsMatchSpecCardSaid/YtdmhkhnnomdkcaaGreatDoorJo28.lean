/-  -/
import Derived.Deep.RegionHeld3
import Derived.Test.YtdmhkhnnomdkcaaGreatDoorJo27
set_option linter.unusedVariables false
set_option linter.unusedSimpArgs false
/- fetterlockref1.Product. Conditions: at most 10000 digits; the denominators are not 0. -/
namespace Go.Proofs.YtdmhkhnnomdkcaaGreatDoor
open Go.RowKit NumB
set_option linter.unusedVariables false
set_option linter.unusedSimpArgs false

theorem below_3 (w : World) (o1 o2 o3 : Obj) : Below w.heap.size w (((w.alloc o1).alloc o2).alloc o3) := (below_two w o1 o2).alloc (by simp; omega) o3
theorem blk_3 (w : World) (t u v : TypeId) (a b c : Array Value) : Blk (((w.alloc (.cells a t)).alloc (.cells b u)).alloc (.cells c v)) w.heap.size t a ∧ Blk (((w.alloc (.cells a t)).alloc (.cells b u)).alloc (.cells c v)) (w.heap.size + 1) u b ∧ Blk (((w.alloc (.cells a t)).alloc (.cells b u)).alloc (.cells c v)) (w.heap.size + 1 + 1) v c := by
  obtain ⟨h1, h2⟩ := blk2 w t u a b
  refine ⟨h1.alloc _, h2.alloc _, ?_⟩
  have := Blk.new ((w.alloc (.cells a t)).alloc (.cells b u)) v c
  simpa using this

set_option maxRecDepth 100000 in
set_option maxHeartbeats 6400000 in
theorem rproduct_any (na nb : Bool) (xa ya xb yb : Nat) (va vb : Value) (w : World) (ha : RV w va na xa ya) (hb : RV w vb nb xb yb) (h0 : 0 < ya) (h00 : 0 < yb)
    (l1 : (digs W16 xa).length ≤ 10000) (l2 : (digs W16 ya).length ≤ 10000) (l3 : (digs W16 xb).length ≤ 10000) (l4 : (digs W16 yb).length ≤ 10000) :
    Calls Tryz.prog 21 #[va, vb] w (RVPost w ((na != nb) && decide (0 < xa * xb)) (xa * xb / Nat.gcd (xa * xb) (ya * yb)) (ya * yb / Nat.gcd (xa * xb) (ya * yb))) := by
  obtain ⟨A1, A2, rfl, h1, h2⟩ := ha
  obtain ⟨A3, A4, rfl, h3, h4⟩ := hb
  obtain ⟨B1, n1, c1, rfl, e1⟩ := h1.form
  obtain ⟨B2, n2, c2, rfl, e2⟩ := h2.form
  obtain ⟨B3, n3, c3, rfl, e3⟩ := h3.form
  obtain ⟨B4, n4, c4, rfl, e4⟩ := h4.form
  have HL : Hid (((digs W16 xa).length ≤ 50000 ∧ (digs W16 ya).length ≤ 50000) ∧ ((digs W16 xb).length ≤ 50000 ∧ (digs W16 yb).length ≤ 50000)) := ⟨⟨by omega, by omega⟩, by omega, by omega⟩
  have HM : Hid ((digs W16 (xa * xb)).length ≤ 50000 ∧ (digs W16 (ya * yb)).length ≤ 50000) := ⟨Nat.le_trans (digs16_len_mul _ _) (by omega), Nat.le_trans (digs16_len_mul _ _) (by omega)⟩
  have HD0 : Hid (0 < ya * yb) := Nat.mul_pos h0 h00
  have HN : ∀ o1 o2 o3 : Obj, Hid (Nat16 (((w.alloc o1).alloc o2).alloc o3).drew (.slice B1 n1 c1) xa ∧ Nat16 (((w.alloc o1).alloc o2).alloc o3).drew (.slice B2 n2 c2) ya ∧ Nat16 (((w.alloc o1).alloc o2).alloc o3).drew (.slice B3 n3 c3) xb ∧ Nat16 (((w.alloc o1).alloc o2).alloc o3).drew (.slice B4 n4 c4) yb) :=
    fun o1 o2 o3 => ⟨h1.to (below_3 w o1 o2 o3).drew, h2.to (below_3 w o1 o2 o3).drew, h3.to (below_3 w o1 o2 o3).drew, h4.to (below_3 w o1 o2 o3).drew⟩
  have HB0 : Hid (∀ o1 o2 o3 : Obj, Below w.heap.size w (((w.alloc o1).alloc o2).alloc o3).drew) := fun o1 o2 o3 => (below_3 w o1 o2 o3).drew
  clear e1 e2 e3 e4 h1 h2 h3 h4 l1 l2 l3 l4 h0 h00
  have HBK := Lib.hid (blk_3 w 43 43 43 #[.bool na, .slice B1 n1 c1, .slice B2 n2 c2] #[.bool nb, .slice B3 n3 c3, .slice B4 n4 c4] #[.bool false, .slice none 0 0, .slice none 0 0])
  have hk : ∀ W1 W' : World, Below W1.heap.size W1 W' → (W1.cell? ⟨w.heap.size, 0, none⟩ = some (.bool na) ∧ W1.cell? ⟨w.heap.size, 1, none⟩ = some (.slice B1 n1 c1) ∧ W1.cell? ⟨w.heap.size, 2, none⟩ = some (.slice B2 n2 c2) ∧ W1.cell? ⟨w.heap.size + 1, 0, none⟩ = some (.bool nb) ∧ W1.cell? ⟨w.heap.size + 1, 1, none⟩ = some (.slice B3 n3 c3) ∧ W1.cell? ⟨w.heap.size + 1, 2, none⟩ = some (.slice B4 n4 c4) ∧ w.heap.size + 2 < W1.heap.size) → (W'.cell? ⟨w.heap.size, 0, none⟩ = some (.bool na) ∧ W'.cell? ⟨w.heap.size, 1, none⟩ = some (.slice B1 n1 c1) ∧ W'.cell? ⟨w.heap.size, 2, none⟩ = some (.slice B2 n2 c2) ∧ W'.cell? ⟨w.heap.size + 1, 0, none⟩ = some (.bool nb) ∧ W'.cell? ⟨w.heap.size + 1, 1, none⟩ = some (.slice B3 n3 c3) ∧ W'.cell? ⟨w.heap.size + 1, 2, none⟩ = some (.slice B4 n4 c4) ∧ w.heap.size + 2 < W'.heap.size) := fun W1 W' h1 ⟨a0, a1, a2, a3, a4, a5, a6⟩ => ⟨(h1.cell (p := ⟨w.heap.size, 0, none⟩) (by show w.heap.size < _; omega)).trans a0, (h1.cell (p := ⟨w.heap.size, 1, none⟩) (by show w.heap.size < _; omega)).trans a1, (h1.cell (p := ⟨w.heap.size, 2, none⟩) (by show w.heap.size < _; omega)).trans a2, (h1.cell (p := ⟨w.heap.size + 1, 0, none⟩) (by show w.heap.size + 1 < _; omega)).trans a3, (h1.cell (p := ⟨w.heap.size + 1, 1, none⟩) (by show w.heap.size + 1 < _; omega)).trans a4, (h1.cell (p := ⟨w.heap.size + 1, 2, none⟩) (by show w.heap.size + 1 < _; omega)).trans a5, Nat.lt_of_lt_of_le a6 h1.size⟩
  have HK := Lib.hid hk
  clear hk
  have HRED : Hid (∀ (W : World) (v u : Value), Nat16 W v (xa * xb) → Nat16 W u (ya * yb) → Calls Tryz.prog 42 #[.bool (na != nb), v, u] W (RVPost W ((na != nb) && decide (0 < xa * xb)) (xa * xb / Nat.gcd (xa * xb) (ya * yb)) (ya * yb / Nat.gcd (xa * xb) (ya * yb)))) := fun W v u h1 h2 => rreduce_any (na != nb) _ _ v u W h1 h2 HD0.out HM.out.1 HM.out.2
  generalize ((na != nb) && decide (0 < xa * xb)) = sg at *
  generalize (xa * xb) / Nat.gcd (xa * xb) (ya * yb) = x' at *
  generalize (ya * yb) / Nat.gcd (xa * xb) (ya * yb) = y' at *
  generalize hng : (na != nb) = ng at *
  have hng2 : (!(na == nb)) = ng := hng
  clear hng
  have hne1 : (w.heap.size = w.heap.size + 1 + 1) = False := by simp; omega
  have hne2 : (w.heap.size + 1 + 1 = w.heap.size) = False := by simp; omega
  go_enter Tryz.func21, Tryz.ntmps21
  go_wp2_with fail
  go_region_held3 (fun w' => w'.cell? ⟨w.heap.size, 0, none⟩ = some (.bool na) ∧ w'.cell? ⟨w.heap.size, 1, none⟩ = some (.slice B1 n1 c1) ∧ w'.cell? ⟨w.heap.size, 2, none⟩ = some (.slice B2 n2 c2) ∧ w'.cell? ⟨w.heap.size + 1, 0, none⟩ = some (.bool nb) ∧ w'.cell? ⟨w.heap.size + 1, 1, none⟩ = some (.slice B3 n3 c3) ∧ w'.cell? ⟨w.heap.size + 1, 2, none⟩ = some (.slice B4 n4 c4) ∧ w.heap.size + 2 < w'.heap.size)
    (first | go_keep | (refine HK.out _ _ (by assumption) ?_; go_keep))
    (first
      | (go_at_call 41; ((with_reducible refine (rmul_any xa xb (.slice B1 n1 c1) (.slice B3 n3 c3) _ (by exact (HN _ _ _).out.1) (by exact (HN _ _ _).out.2.2.1) HL.out.1.1 HL.out.2.1).mono ?_)); rintro e w1 ⟨v1, rfl, hn1, hb1⟩)
      | (go_at_call 41; ((with_reducible refine (rmul_any ya yb (.slice B2 n2 c2) (.slice B4 n4 c4) _ (by exact ((HN _ _ _).out.2.1).to hb1) (by exact ((HN _ _ _).out.2.2.2).to hb1) HL.out.1.2 HL.out.2.2).mono ?_)); rintro e w2 ⟨v2, rfl, hn2, hb2⟩)
      | (go_at_call 42; ((with_reducible refine (HRED.out _ _ _ (by exact hn1.to hb2) (by exact hn2)).mono ?_)); rintro e w3 ⟨v3, rfl, hn3, hb3⟩; have hblk := ((HBK.out.2.2.drew.to hb1).to hb2).to hb3; obtain ⟨C1, q1, r1, C2, q2, r2, rfl, hq1, hq2⟩ := hn3.form; clear hq1 hq2; have hc0 := hblk.cell 0; have hc1 := hblk.cell 1; have hc2 := hblk.cell 2; have hf0 := hblk.frozen 0; have hf1 := hblk.frozen 1; have hf2 := hblk.frozen 2; simp only [List.getElem?_toArray, List.getElem?_cons_zero, List.getElem?_cons_succ] at hc0 hc1 hc2))
  all_goals
    go_wp2_with fail
    refine bodyPost_ret (v := .agg #[.bool sg, .slice C1 q1 r1, .slice C2 q2 r2]) (by simp [results, Tryz.results21, go_sem, hc0, hc1, hc2]) rfl ⟨_, rfl, ?_, ?_⟩
    · exact RV.put3 (w := w3) hn3 hblk _ _ _
    · exact put3_below ((((HB0.out _ _ _).trans (hb1.mono (HB0.out _ _ _).size)).trans (hb2.mono (Nat.le_trans (HB0.out _ _ _).size hb1.size))).trans (hb3.mono (Nat.le_trans (Nat.le_trans (HB0.out _ _ _).size hb1.size) hb2.size))) (by omega) _ _ _
end Go.Proofs.YtdmhkhnnomdkcaaGreatDoor

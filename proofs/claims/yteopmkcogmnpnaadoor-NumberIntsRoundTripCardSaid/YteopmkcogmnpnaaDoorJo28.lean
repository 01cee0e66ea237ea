/- NumberIntsRoundTrip: for every int, FromInt returns its canonical number, and ToInt of it is the int. -/
import Derived.Deep.RegionHeld3
import Derived.Test.YteopmkcogmnpnaaDoorJo21
import Derived.Test.YteopmkcogmnpnaaDoorJo26
import Derived.Test.YteopmkcogmnpnaaDoorJo27
set_option linter.unusedVariables false
set_option linter.unusedSimpArgs false
namespace Go.Proofs.YteopmkcogmnpnaaDoor
open Go.RowKit NumB
set_option linter.unusedVariables false
set_option linter.unusedSimpArgs false

set_option maxRecDepth 1000000 in
set_option maxHeartbeats 12800000 in
theorem law_ints : LawInts.Walk := by
  intro i0 w hi
  obtain ⟨a, ha0, HFI, HRF, HTI⟩ : ∃ a : LN, (a.ok ∧ a.err = 0) ∧ Hid (∀ W : World, Calls Tryd.prog 16 #[.int .i64 i0] W fun e w' => ∃ v, e = .returned v ∧ GV w' v a ∧ Below W.heap.size W w') ∧ Hid (∀ W : World, Calls Tryd.prog 18 #[.int .i64 i0] W fun e w' => ∃ v, e = .returned v ∧ GV w' v a ∧ Below W.heap.size W w') ∧ Hid (∀ (W : World) (v : Value), GV W v a → Calls Tryd.prog 17 #[v] W fun e w' => e = .returned (.tuple #[.int .i64 i0, .int .i64 0]) ∧ Below W.heap.size W w') := by
    rcases Int.lt_or_le i0 0 with h | h
    · obtain ⟨k, rfl, hk⟩ : ∃ k : Nat, i0 = -(k : Int) ∧ 0 < k := ⟨(-i0).toNat, by omega, by omega⟩
      refine ⟨intL true k, intL_ok true (by omega), fun W => (fromInt_neg k W hk (by omega)).mono fun e w' ⟨v, h1, h2, h3⟩ => ⟨v, h1, GV.of_num h2, h3⟩, fun W => (rfromInt_neg k W hk (by omega)).mono fun e w' ⟨v, h1, h2, h3⟩ => ⟨v, h1, GV.of_num h2, h3⟩, fun W v hv => ?_⟩
      have := toInt_S _ v W hv
      rw [toIntS_neg hk (by omega)] at this
      exact this
    · obtain ⟨k, rfl⟩ : ∃ k : Nat, i0 = (k : Int) := ⟨i0.toNat, by omega⟩
      refine ⟨intL false k, intL_ok false (by omega), fun W => (fromInt_pos k W (by omega)).mono fun e w' ⟨v, h1, h2, h3⟩ => ⟨v, h1, GV.of_num h2, h3⟩, fun W => (rfromInt_pos k W (by omega)).mono fun e w' ⟨v, h1, h2, h3⟩ => ⟨v, h1, GV.of_num h2, h3⟩, fun W v hv => ?_⟩
      have := toInt_S _ v W hv
      rw [toIntS_pos (by omega)] at this
      exact this
  have HCK : Hid (∀ (W : World) (v : Value), GV W v a → Calls Tryd.prog 19 #[v] W fun e w' => e = .returned (.int .i64 0) ∧ Below W.heap.size W w') := fun W v hv => by
    obtain ⟨A, B, rfl, h1, h2, o1, o2⟩ := hv
    have := check_any a.neg a.num a.den A B W h1 h2 o1 o2
    rw [show checkL a.neg a.num a.den = 0 from ha0.2] at this
    exact this
  have HSM : Hid (∀ (W : World) (u v : Value), GV W u a → GV W v a → Calls Tryd.prog 9 #[u, v] W fun e w' => e = .returned (.bool true) ∧ Below W.heap.size W w') := fun W u v h1 h2 => by
    have := same_S a a u v W h1 h2
    rw [sameB_true rfl] at this
    exact this
  have hii : (i0 == i0) = true := by simp
  clear ha0
  go_enter Tryd.func5, Tryd.ntmps5
  go_wp2_with fail
  refine (HFI.out _).mono ?_
  rintro e w1 ⟨v1, rfl, hg1, hb1⟩
  obtain ⟨A, n, c, B, m, d, rfl, hq1, hq2⟩ := hg1.form
  have HB1 := Lib.hid hb1
  have G1 := Lib.hid (hg1.to (below_one w1 (.cells #[.bool a.neg, .slice A n c, .slice B m d] 24)))
  have K1 := Lib.hid (Blk.new w1 24 #[.bool a.neg, .slice A n c, .slice B m d])
  clear hq1 hq2 hg1 hb1
  go_wp2_with fail
  refine (HTI.out _ _ (by exact G1.out)).mono ?_
  rintro e w2 ⟨rfl, hb2⟩
  have K2 := K1.out.to hb2
  have GD := Lib.hid (G1.out.to (w' := w2.drew) hb2.drew)
  have HBD : Hid (Below w.heap.size w w2.drew) := (HB1.out.trans (((below_one w1 _).trans (hb2.mono (below_one w1 _).size)).mono HB1.out.size)).drew
  have c0 := K2.cell 0
  have c1 := K2.cell 1
  have c2 := K2.cell 2
  simp only [List.getElem?_toArray, List.getElem?_cons_zero, List.getElem?_cons_succ] at c0 c1 c2
  have hlt := K2.lt
  have HK : Hid (∀ W1 W' : World, Below W1.heap.size W1 W' → (W1.cell? ⟨w1.heap.size, 0, none⟩ = some (.bool a.neg) ∧ W1.cell? ⟨w1.heap.size, 1, none⟩ = some (.slice A n c) ∧ W1.cell? ⟨w1.heap.size, 2, none⟩ = some (.slice B m d) ∧ w1.heap.size < W1.heap.size) → (W'.cell? ⟨w1.heap.size, 0, none⟩ = some (.bool a.neg) ∧ W'.cell? ⟨w1.heap.size, 1, none⟩ = some (.slice A n c) ∧ W'.cell? ⟨w1.heap.size, 2, none⟩ = some (.slice B m d) ∧ w1.heap.size < W'.heap.size)) :=
    fun W1 W' h1 ⟨h3, h4, h5, h2⟩ => ⟨(h1.cell (p := ⟨w1.heap.size, 0, none⟩) h2).trans h3, (h1.cell (p := ⟨w1.heap.size, 1, none⟩) h2).trans h4, (h1.cell (p := ⟨w1.heap.size, 2, none⟩) h2).trans h5, Nat.lt_of_lt_of_le h2 h1.size⟩
  clear K2 hb2 K1 G1 HB1
  go_wp2_with fail
  go_region_held3 (fun w' => w'.cell? ⟨w1.heap.size, 0, none⟩ = some (.bool a.neg) ∧ w'.cell? ⟨w1.heap.size, 1, none⟩ = some (.slice A n c) ∧ w'.cell? ⟨w1.heap.size, 2, none⟩ = some (.slice B m d) ∧ w1.heap.size < w'.heap.size)
    (first | go_keep | (refine HK.out _ _ (by assumption) ?_; go_keep))
    (first
      | (go_at_call 18; ((with_reducible refine (HRF.out _).mono ?_)); rintro e y1 ⟨u1, rfl, hn1, hb1⟩)
      | (go_at_call 9; ((with_reducible refine (HSM.out _ _ _ (by exact GD.out.to hb1) (by exact hn1)).mono ?_)); rintro e y2 ⟨rfl, hb2⟩)
      | (go_at_call 19; ((with_reducible refine (HCK.out _ _ (by exact (GD.out.to hb1).to hb2)).mono ?_)); rintro e y3 ⟨rfl, hb3⟩)
      | (go_at_call 10; ((with_reducible refine (counted_any _).mono ?_)); rintro e y4 ⟨rfl, hb4⟩))
  all_goals
    go_wp2_with fail
    go_ret
    exact ⟨rfl, (((HBD.out.trans (hb1.mono HBD.out.size)).trans (hb2.mono (Nat.le_trans HBD.out.size hb1.size))).trans (hb3.mono (Nat.le_trans (Nat.le_trans HBD.out.size hb1.size) hb2.size))).trans (hb4.mono (Nat.le_trans (Nat.le_trans (Nat.le_trans HBD.out.size hb1.size) hb2.size) hb3.size))⟩

theorem numberInts_holds : Rows.NumberIntsRoundTripCardSaid := LawInts.card law_ints
#print axioms numberInts_holds
end Go.Proofs.YteopmkcogmnpnaaDoor

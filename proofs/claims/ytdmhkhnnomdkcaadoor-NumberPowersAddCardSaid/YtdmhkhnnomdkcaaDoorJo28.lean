/-  -/
import Derived.Deep.RegionHeld3
import Derived.Test.YtdmhkhnnomdkcaaDoorJo20
import Derived.Test.YtdmhkhnnomdkcaaDoorJo21
import Derived.Test.YtdmhkhnnomdkcaaDoorJo22
import Derived.Test.YtdmhkhnnomdkcaaDoorJo24
import Derived.Test.YtdmhkhnnomdkcaaDoorJo26
import Derived.Test.YtdmhkhnnomdkcaaDoorJo27
set_option linter.unusedVariables false
set_option linter.unusedSimpArgs false
/- NumberPowersAdd: for all numbers and small exponents, a power with the sum of two exponents is the product of the powers, as long as no error occurs. -/
namespace Go.Proofs.YtdmhkhnnomdkcaaDoor
open Go.RowKit NumB
set_option linter.unusedVariables false
set_option linter.unusedSimpArgs false

theorem tmod_bd (i : Int) : -40 < Int.tmod i 40 ∧ Int.tmod i 40 < 40 := by
  have h1 := Int.natAbs_tmod i 40
  have h2 := Nat.mod_lt i.natAbs (show 0 < (40 : Int).natAbs by decide)
  have h3 : (40 : Int).natAbs = 40 := rfl
  omega
theorem fromInt_Z (k : Int) (hk : -1000 ≤ k ∧ k ≤ 1000) (W : World) : Calls Tryd.prog 10 #[.int .i64 k] W fun e w' => ∃ v, e = .returned v ∧ GV w' v (intZ k) ∧ Below W.heap.size W w' := by
  unfold intZ
  rcases Int.lt_or_le k 0 with h | h
  · obtain ⟨j, rfl, hj⟩ : ∃ j : Nat, k = -(j : Int) ∧ 0 < j := ⟨(-k).toNat, by omega, by omega⟩
    rw [decide_eq_true h, show (-(j : Int)).natAbs = j by omega]
    exact (fromInt_neg j W hj (by omega)).mono fun e w' ⟨v, h1, h2, h3⟩ => ⟨v, h1, GV.of_num h2, h3⟩
  · obtain ⟨j, rfl⟩ : ∃ j : Nat, k = (j : Int) := ⟨k.toNat, by omega⟩
    rw [decide_eq_false (by omega), show ((j : Int)).natAbs = j by omega]
    exact (fromInt_pos j W (by omega)).mono fun e w' ⟨v, h1, h2, h3⟩ => ⟨v, h1, GV.of_num h2, h3⟩

/-- What holds within a region that draws: FromInt, Power, a new variable for the number, a store, the error. -/
def PowInv (w0 : World) (k : LN) (p : LN × Int) (L : Nat → Bool) (s27 s28 s24 s29 s30 s9 s10 : Value) (W : World) : Prop :=
  Below w0.heap.size w0 W ∧ (L 2 = true → GV W s27 k) ∧ (L 3 = true → ∃ v, s28 = .tuple #[v, .int .i64 p.2] ∧ GV W v p.1) ∧
  (L 4 = true → L 3 = true ∧ s24 = s28) ∧ (L 5 = true → L 4 = true ∧ ∀ v z, s28 = .tuple #[v, z] → s29 = v) ∧ (L 6 = true → L 4 = true ∧ s30 = .int .i64 p.2) ∧
  (L 7 = true → ∃ g, s9 = .pointer (some ⟨g, 0, none⟩) ∧ w0.heap.size ≤ g ∧ (L 8 = false → Blk W g 24 numZ) ∧ (L 8 = true → ∀ x y z, s29 = .agg #[x, y, z] → Blk W g 24 #[x, y, z])) ∧
  (L 8 = true → L 5 = true ∧ L 7 = true) ∧ (L 9 = true → s10 = .int .i64 p.2)
section
variable {w0 : World} {k : LN} {p : LN × Int} {L : Nat → Bool} {s27 s28 s24 s29 s30 s9 s10 : Value} {W W' : World}
theorem PowInv.to (h : PowInv w0 k p L s27 s28 s24 s29 s30 s9 s10 W) (hb : Below W.heap.size W W') : PowInv w0 k p L s27 s28 s24 s29 s30 s9 s10 W' := by
  obtain ⟨h1, h2, h3, h4, h5, h6, h7, h8, h9⟩ := h
  refine ⟨h1.trans (hb.mono h1.size), fun h => (h2 h).to hb, fun h => ?_, h4, h5, h6, fun h => ?_, h8, h9⟩
  · obtain ⟨v, e, hg⟩ := h3 h
    exact ⟨v, e, hg.to hb⟩
  · obtain ⟨g, e, hg, ha, hc⟩ := h7 h
    exact ⟨g, e, hg, fun h => (ha h).to hb, fun h x y z e => (hc h x y z e).to hb⟩
theorem PowInv.step2 (h : PowInv w0 k p L s27 s28 s24 s29 s30 s9 s10 W) (hb : Below W.heap.size W W') {v : Value} (hv : GV W' v k) : PowInv w0 k p (fun j => j == 2 || L j) v s28 s24 s29 s30 s9 s10 W' := by
  obtain ⟨h1, h2, h3, h4, h5, h6, h7, h8, h9⟩ := h.to hb
  exact ⟨h1, fun _ => hv, h3, h4, h5, h6, h7, h8, h9⟩
theorem PowInv.step3 (h : PowInv w0 k p L s27 s28 s24 s29 s30 s9 s10 W) (hL : L 3 = false) (hb : Below W.heap.size W W') {v : Value} (hv : GV W' v p.1) : PowInv w0 k p (fun j => j == 3 || L j) s27 (.tuple #[v, .int .i64 p.2]) s24 s29 s30 s9 s10 W' := by
  obtain ⟨h1, h2, h3, h4, h5, h6, h7, h8, h9⟩ := h.to hb
  have no4 : L 4 = true → False := fun h => by have := (h4 h).1; rw [hL] at this; cases this
  exact ⟨h1, h2, fun _ => ⟨v, rfl, hv⟩, fun h => (no4 h).elim, fun h => (no4 (h5 h).1).elim, fun h => (no4 (h6 h).1).elim, h7, h8, h9⟩
theorem PowInv.step4 (h : PowInv w0 k p L s27 s28 s24 s29 s30 s9 s10 W) (hd : L 3 = true) : PowInv w0 k p (fun j => j == 4 || L j) s27 s28 s28 s29 s30 s9 s10 W := by
  obtain ⟨h1, h2, h3, h4, h5, h6, h7, h8, h9⟩ := h
  exact ⟨h1, h2, h3, fun _ => ⟨hd, rfl⟩, fun h => ⟨rfl, (h5 h).2⟩, fun h => ⟨rfl, (h6 h).2⟩, h7, h8, h9⟩
theorem PowInv.step5 {v : Value} (h : PowInv w0 k p L s27 (.tuple #[v, .int .i64 p.2]) s24 s29 s30 s9 s10 W) (hL : L 5 = false) (hd : L 4 = true) : PowInv w0 k p (fun j => j == 5 || L j) s27 (.tuple #[v, .int .i64 p.2]) s24 v s30 s9 s10 W := by
  obtain ⟨h1, h2, h3, h4, h5, h6, h7, h8, h9⟩ := h
  have no8 : L 8 = true → False := fun h => by have := (h8 h).1; rw [hL] at this; cases this
  refine ⟨h1, h2, h3, h4, fun _ => ⟨hd, fun v' z e => ?_⟩, h6, fun h => ?_, fun h => (no8 h).elim, h9⟩
  · simp only [Value.tuple.injEq, Array.mk.injEq, List.cons.injEq] at e
    exact e.1
  · obtain ⟨g, e, hg, ha, hc⟩ := h7 h
    exact ⟨g, e, hg, ha, fun h => (no8 h).elim⟩
theorem PowInv.step6 (h : PowInv w0 k p L s27 s28 s24 s29 s30 s9 s10 W) (hd : L 4 = true) : PowInv w0 k p (fun j => j == 6 || L j) s27 s28 s24 s29 (.int .i64 p.2) s9 s10 W := by
  obtain ⟨h1, h2, h3, h4, h5, h6, h7, h8, h9⟩ := h
  exact ⟨h1, h2, h3, h4, h5, fun _ => ⟨hd, rfl⟩, h7, h8, h9⟩
theorem PowInv.step7 (h : PowInv w0 k p L s27 s28 s24 s29 s30 s9 s10 W) (hL : L 7 = false) : PowInv w0 k p (fun j => j == 7 || L j) s27 s28 s24 s29 s30 (.pointer (some ⟨W.heap.size, 0, none⟩)) s10 (W.alloc (.cells numZ 24)) := by
  have hs := h.1.size
  obtain ⟨h1, h2, h3, h4, h5, h6, h7, h8, h9⟩ := h.to (below_one W (.cells numZ 24))
  have no8 : L 8 = true → False := fun h => by have := (h8 h).2; rw [hL] at this; cases this
  exact ⟨h1, h2, h3, h4, h5, h6, fun _ => ⟨_, rfl, hs, fun _ => Blk.new _ _ _, fun h => (no8 h).elim⟩, fun h => (no8 h).elim, h9⟩
theorem PowInv.form (h : PowInv w0 k p L s27 s28 s24 s29 s30 s9 s10 W) (hd : L 5 = true) : ∃ A n c B m d, s29 = .agg #[.bool p.1.neg, .slice A n c, .slice B m d] ∧ GV W s29 p.1 := by
  obtain ⟨h1, h2, h3, h4, h5, h6, h7, h8, h9⟩ := h
  obtain ⟨d4, h5⟩ := h5 hd
  obtain ⟨d3, -⟩ := h4 d4
  obtain ⟨v, rfl, hv⟩ := h3 d3
  obtain rfl := h5 _ _ rfl
  obtain ⟨A, n, c, B, m, d, e, _⟩ := hv.form
  exact ⟨A, n, c, B, m, d, e, hv⟩
theorem PowInv.step8 {s : Bool} {A B : Option Addr} {n c m d g : Nat} (h : PowInv w0 k p L s27 s28 s24 (.agg #[.bool s, .slice A n c, .slice B m d]) s30 (.pointer (some ⟨g, 0, none⟩)) s10 W) (hL : L 8 = false) (hd5 : L 5 = true) (hd7 : L 7 = true) :
    PowInv w0 k p (fun j => j == 8 || L j) s27 s28 s24 (.agg #[.bool s, .slice A n c, .slice B m d]) s30 (.pointer (some ⟨g, 0, none⟩)) s10 (put3 W g (.bool s) (.slice A n c) (.slice B m d)) := by
  obtain ⟨h1, h2, h3, h4, h5, h6, h7, h8, h9⟩ := h
  obtain ⟨g', e, hg, ha, -⟩ := h7 hd7
  cases e
  have hz : Blk W g 24 #[.bool false, .slice none 0 0, .slice none 0 0] := ha hL
  refine ⟨put3_below h1 hg _ _ _, fun h => (h2 h).put3 hz _ _ _, fun h => ?_, h4, h5, h6, fun _ => ⟨g, rfl, hg, fun h => absurd h (by simp), fun _ x y z e => ?_⟩, fun _ => ⟨hd5, hd7⟩, h9⟩
  · obtain ⟨v, e, hv⟩ := h3 h
    exact ⟨v, e, hv.put3 hz _ _ _⟩
  · simp only [Value.agg.injEq, Array.mk.injEq, List.cons.injEq, and_true] at e
    obtain ⟨rfl, rfl, rfl⟩ := e
    exact hz.put3_at _ _ _
theorem PowInv.step9 (h : PowInv w0 k p L s27 s28 s24 s29 s30 s9 s10 W) : PowInv w0 k p (fun j => j == 9 || L j) s27 s28 s24 s29 s30 s9 (.int .i64 p.2) W := by
  obtain ⟨h1, h2, h3, h4, h5, h6, h7, h8, h9⟩ := h
  exact ⟨h1, h2, h3, h4, h5, h6, h7, h8, fun _ => rfl⟩
theorem PowInv.done (h : PowInv w0 k p L s27 s28 s24 s29 s30 s9 s10 W) (hall : ∀ i, i < 10 → L i = true) : ∃ A n c B m d g, Below w0.heap.size w0 W ∧ GV W (.agg #[.bool p.1.neg, .slice A n c, .slice B m d]) p.1 ∧ w0.heap.size ≤ g ∧ Blk W g 24 #[.bool p.1.neg, .slice A n c, .slice B m d] ∧ s9 = .pointer (some ⟨g, 0, none⟩) ∧ s10 = .int .i64 p.2 := by
  obtain ⟨A, n, c, B, m, d, rfl, hg⟩ := h.form (hall 5 (by omega))
  obtain ⟨h1, h2, h3, h4, h5, h6, h7, h8, h9⟩ := h
  obtain ⟨g, rfl, hgl, -, hc⟩ := h7 (hall 7 (by omega))
  exact ⟨A, n, c, B, m, d, g, h1, hg, hgl, hc (hall 8 (by omega)) _ _ _ rfl, rfl, h9 (hall 9 (by omega))⟩
end

set_option maxRecDepth 1000000 in
set_option maxHeartbeats 25600000 in
theorem law_powersAdd : LawPowersAdd.Walk := by
  intro a0 v0 i1 i2 w g0 hi1 hi2
  obtain ⟨A0, n0, c0, B0, m0, d0, rfl, hq1, hq2⟩ := g0.form
  clear hq1 hq2
  have hm := tmod_bd i1
  have hn := tmod_bd i2
  obtain ⟨p, q, r, z, HP, HQ, HR, HM, hlaw⟩ : ∃ p q r z : LN × Int, Hid (∀ (W : World) (u v : Value), GV W u a0 → GV W v (intZ (Int.tmod i1 40)) → Calls Tryd.prog 9 #[u, v] W (SPost W p)) ∧ Hid (∀ (W : World) (u v : Value), GV W u a0 → GV W v (intZ (Int.tmod i2 40)) → Calls Tryd.prog 9 #[u, v] W (SPost W q)) ∧ Hid (∀ (W : World) (u v : Value), GV W u a0 → GV W v (intZ (Int.tmod i1 40 + Int.tmod i2 40)) → Calls Tryd.prog 9 #[u, v] W (SPost W r)) ∧ Hid (∀ (W : World) (u v : Value), GV W u p.1 → GV W v q.1 → Calls Tryd.prog 11 #[u, v] W (SPost W z)) ∧ (p.2 = 0 → q.2 = 0 → z.2 = 0 → r.2 = 0 ∧ r.1 = z.1) :=
    ⟨powS a0 (intZ (Int.tmod i1 40)), powS a0 (intZ (Int.tmod i2 40)), powS a0 (intZ (Int.tmod i1 40 + Int.tmod i2 40)), mulS (powS a0 (intZ (Int.tmod i1 40))).1 (powS a0 (intZ (Int.tmod i2 40))).1, fun W u v h1 h2 => powerNum_S _ _ u v W h1 h2, fun W u v h1 h2 => powerNum_S _ _ u v W h1 h2, fun W u v h1 h2 => powerNum_S _ _ u v W h1 h2, fun W u v h1 h2 => mulNum_S _ _ u v W h1 h2, fun h1 h2 h3 => by
      have := powers_law g0.ok (m := Int.tmod i1 40) (n := Int.tmod i2 40) (by omega) (by omega) h1 h2 h3
      rw [this]
      exact ⟨rfl, rfl⟩⟩
  obtain ⟨m, hme⟩ : ∃ m, Int.tmod i1 40 = m := ⟨_, rfl⟩
  obtain ⟨n, hne⟩ : ∃ n, Int.tmod i2 40 = n := ⟨_, rfl⟩
  rw [hme] at hm HP HR
  rw [hne] at hn HQ HR
  have hmn : IntKind.i64.wrap (m + n) = m + n := by rw [IntKind.wrap_i64]; omega
  have HFM : Hid (∀ W : World, Calls Tryd.prog 10 #[.int .i64 m] W fun e w' => ∃ v, e = .returned v ∧ GV w' v (intZ m) ∧ Below W.heap.size W w') := fun W => fromInt_Z m (by omega) W
  have HFN : Hid (∀ W : World, Calls Tryd.prog 10 #[.int .i64 n] W fun e w' => ∃ v, e = .returned v ∧ GV w' v (intZ n) ∧ Below W.heap.size W w') := fun W => fromInt_Z n (by omega) W
  have HFS : Hid (∀ W : World, Calls Tryd.prog 10 #[.int .i64 (m + n)] W fun e w' => ∃ v, e = .returned v ∧ GV w' v (intZ (m + n)) ∧ Below W.heap.size W w') := fun W => fromInt_Z (m + n) (by omega) W
  have HSM : Hid (∀ (W : World) (u v : Value) (a : LN), GV W u a → GV W v a → Calls Tryd.prog 8 #[u, v] W fun e w' => e = .returned (.bool true) ∧ Below W.heap.size W w') := fun W u v a h1 h2 => by
    have := same_S a a u v W h1 h2
    rw [sameB_true rfl] at this
    exact this
  have HLAW := Lib.hid hlaw
  have KA := Lib.hid (Blk.new w 24 #[.bool a0.neg, .slice A0 n0 c0, .slice B0 m0 d0])
  have GA := Lib.hid (g0.to (below_one w (.cells #[.bool a0.neg, .slice A0 n0 c0, .slice B0 m0 d0] 24)))
  have HBE := Lib.hid (below_one w (.cells #[.bool a0.neg, .slice A0 n0 c0, .slice B0 m0 d0] 24))
  have HK : Hid (∀ (g : Nat) (x y z : Value) (W1 W' : World), Below W1.heap.size W1 W' → (W1.cell? ⟨g, 0, none⟩ = some x ∧ W1.cell? ⟨g, 1, none⟩ = some y ∧ W1.cell? ⟨g, 2, none⟩ = some z ∧ g < W1.heap.size) → (W'.cell? ⟨g, 0, none⟩ = some x ∧ W'.cell? ⟨g, 1, none⟩ = some y ∧ W'.cell? ⟨g, 2, none⟩ = some z ∧ g < W'.heap.size)) :=
    fun g x y z W1 W' h1 ⟨h3, h4, h5, h2⟩ => ⟨(h1.cell (p := ⟨g, 0, none⟩) h2).trans h3, (h1.cell (p := ⟨g, 1, none⟩) h2).trans h4, (h1.cell (p := ⟨g, 2, none⟩) h2).trans h5, Nat.lt_of_lt_of_le h2 h1.size⟩
  clear g0 hlaw hi1 hi2
  go_enter Tryd.func4, Tryd.ntmps4
  go_wp2_with fail
  refine wp_region_held_drew (S := fun w' => w'.cell? ⟨w.heap.size, 0, none⟩ = some (.bool a0.neg) ∧ w'.cell? ⟨w.heap.size, 1, none⟩ = some (.slice A0 n0 c0) ∧ w'.cell? ⟨w.heap.size, 2, none⟩ = some (.slice B0 m0 d0)) (by kernel_rfl) ⟨KA.out.drew.cell 0, KA.out.drew.cell 1, KA.out.drew.cell 2⟩ (fun hHeld => ?_)
  (refine wpAnyH_take (i := 0) (v := ?_) rfl (by kernel_rfl) (by kernel_rfl) (by kernel_rfl) (fun _ _ _ h => h) (Or.inl ⟨by kernel_rfl, ?_⟩) (by assumption) ?_; rotate_left; ((intro w hSw; (try dsimp only at hSw); go_simp) <;> (with_reducible rfl)); (try (simp only [Act.put, List.setIfInBounds_toArray, List.set_cons_succ, List.set_cons_zero, List.getElem_toArray, List.getElem_cons_succ, List.getElem_cons_zero])))
  (refine wpAnyH_take (i := 1) (v := ?_) rfl (by kernel_rfl) (by kernel_rfl) (by kernel_rfl) (fun _ _ _ h => h) (Or.inl ⟨by kernel_rfl, ?_⟩) (by assumption) ?_; rotate_left; ((intro w hSw; (try dsimp only at hSw); go_simp) <;> (with_reducible rfl)); (try (simp only [Act.put, List.setIfInBounds_toArray, List.set_cons_succ, List.set_cons_zero, List.getElem_toArray, List.getElem_cons_succ, List.getElem_cons_zero])))
  refine wpAnyH_inv0 [2, 3, 4, 5, 6, 7, 8, 9] (fun aa L a W => ∃ s27 s28 s24 s29 s30 s9 s10, a = (((((((aa.put (some 20) s27).put (some 21) s28).put (some 17) s24).put (some 22) s29).put (some 23) s30).put (some 7) s9).put (some 8) s10) ∧ PowInv ((w.alloc (.cells #[.bool a0.neg, .slice A0 n0 c0, .slice B0 m0 d0] 24))) (intZ m) p L s27 s28 s24 s29 s30 s9 s10 W) (by kernel_rfl) (by kernel_rfl) (by decide) (by kernel_rfl) ?hSx ?initx ?stepsx ?donex
  case hSx =>
    rintro L a W ⟨s27, s28, s24, s29, s30, s9, s10, -, h2, _⟩
    have := KA.out.to h2
    exact ⟨this.cell 0, this.cell 1, this.cell 2⟩
  case initx =>
    refine ⟨undef, undef, undef, undef, undef, undef, undef, (by simp only [Act.put, List.setIfInBounds_toArray, List.set_cons_succ, List.set_cons_zero]), (Below.refl _ _).drew, ?_, ?_, ?_, ?_, ?_, ?_, ?_, ?_⟩ <;> (intro h; exact absurd h (by decide))
  case stepsx =>
    refine Steps.cons (i := 2) rfl ?_ (Steps.cons (i := 3) rfl ?_ (Steps.cons (i := 4) rfl ?_ (Steps.cons (i := 5) rfl ?_ (Steps.cons (i := 6) rfl ?_ (Steps.cons (i := 7) rfl ?_ (Steps.cons (i := 8) rfl ?_ (Steps.cons (i := 9) rfl ?_ Steps.nil)))))))
    · rintro L a W ⟨s27, s28, s24, s29, s30, s9, s10, rfl, hI⟩ hL hdep K hK
      have HI := Lib.hid hI
      have HL := Lib.hid hL
      clear hI
      simp only [Act.put, List.setIfInBounds_toArray, List.set_cons_succ, List.set_cons_zero]
      clear hL hdep
      go_simp
      refine (HFM.out _).mono ?_
      rintro e w1 ⟨v1, rfl, hn1, hb1⟩
      exact hK.out _ _ ⟨v1, s28, s24, s29, s30, s9, s10, (by simp only [Act.put, List.setIfInBounds_toArray, List.set_cons_succ, List.set_cons_zero]), HI.out.step2 hb1 hn1⟩
    · rintro L a W ⟨s27, s28, s24, s29, s30, s9, s10, rfl, hI⟩ hL hdep K hK
      have HI := Lib.hid hI
      have HL := Lib.hid hL
      clear hI
      simp only [Act.put, List.setIfInBounds_toArray, List.set_cons_succ, List.set_cons_zero]
      have hd : L 2 = true := by simp [Region.binds] at hdep; simp [hdep]
      have HD := Lib.hid hd
      clear hd hL hdep
      have g2 := HI.out.2.1 HD.out
      have ga := GA.out.to HI.out.1
      go_simp
      refine (HP.out _ _ _ (by exact ga) (by exact g2)).mono ?_
      rintro e w1 ⟨v1, rfl, hg1, hb1⟩
      exact hK.out _ _ ⟨s27, .tuple #[v1, .int .i64 (p).2], s24, s29, s30, s9, s10, (by simp only [Act.put, List.setIfInBounds_toArray, List.set_cons_succ, List.set_cons_zero]), HI.out.step3 HL.out hb1 hg1⟩
    · rintro L a W ⟨s27, s28, s24, s29, s30, s9, s10, rfl, hI⟩ hL hdep K hK
      have HI := Lib.hid hI
      have HL := Lib.hid hL
      clear hI
      simp only [Act.put, List.setIfInBounds_toArray, List.set_cons_succ, List.set_cons_zero]
      have hd : L 3 = true := by simp [Region.binds] at hdep; simp [hdep]
      have HD := Lib.hid hd
      clear hd hL hdep
      obtain ⟨v, rfl, hv⟩ := HI.out.2.2.1 HD.out
      clear hv
      go_simp
      exact hK.out _ _ ⟨s27, .tuple #[v, .int .i64 (p).2], .tuple #[v, .int .i64 (p).2], s29, s30, s9, s10, (by simp only [Act.put, List.setIfInBounds_toArray, List.set_cons_succ, List.set_cons_zero]), HI.out.step4 HD.out⟩
    · rintro L a W ⟨s27, s28, s24, s29, s30, s9, s10, rfl, hI⟩ hL hdep K hK
      have HI := Lib.hid hI
      have HL := Lib.hid hL
      clear hI
      simp only [Act.put, List.setIfInBounds_toArray, List.set_cons_succ, List.set_cons_zero]
      have hd : L 4 = true := by simp [Region.binds] at hdep; simp [hdep]
      have HD := Lib.hid hd
      clear hd hL hdep
      obtain ⟨d3, rfl⟩ := HI.out.2.2.2.1 HD.out
      obtain ⟨v, rfl, hv⟩ := HI.out.2.2.1 d3
      clear hv
      go_simp
      exact hK.out _ _ ⟨s27, .tuple #[v, .int .i64 (p).2], .tuple #[v, .int .i64 (p).2], v, s30, s9, s10, (by simp only [Act.put, List.setIfInBounds_toArray, List.set_cons_succ, List.set_cons_zero]), HI.out.step5 HL.out HD.out⟩
    · rintro L a W ⟨s27, s28, s24, s29, s30, s9, s10, rfl, hI⟩ hL hdep K hK
      have HI := Lib.hid hI
      have HL := Lib.hid hL
      clear hI
      simp only [Act.put, List.setIfInBounds_toArray, List.set_cons_succ, List.set_cons_zero]
      have hd : L 4 = true := by simp [Region.binds] at hdep; simp [hdep]
      have HD := Lib.hid hd
      clear hd hL hdep
      obtain ⟨d3, rfl⟩ := HI.out.2.2.2.1 HD.out
      obtain ⟨v, rfl, hv⟩ := HI.out.2.2.1 d3
      clear hv
      go_simp
      exact hK.out _ _ ⟨s27, .tuple #[v, .int .i64 (p).2], .tuple #[v, .int .i64 (p).2], s29, .int .i64 (p).2, s9, s10, (by simp only [Act.put, List.setIfInBounds_toArray, List.set_cons_succ, List.set_cons_zero]), HI.out.step6 HD.out⟩
    · rintro L a W ⟨s27, s28, s24, s29, s30, s9, s10, rfl, hI⟩ hL hdep K hK
      have HI := Lib.hid hI
      have HL := Lib.hid hL
      clear hI
      simp only [Act.put, List.setIfInBounds_toArray, List.set_cons_succ, List.set_cons_zero]
      clear hL hdep
      go_simp
      exact hK.out _ _ ⟨s27, s28, s24, s29, s30, .pointer (some ⟨W.heap.size, 0, none⟩), s10, (by simp only [Act.put, List.setIfInBounds_toArray, List.set_cons_succ, List.set_cons_zero]), HI.out.step7 HL.out⟩
    · rintro L a W ⟨s27, s28, s24, s29, s30, s9, s10, rfl, hI⟩ hL hdep K hK
      have HI := Lib.hid hI
      have HL := Lib.hid hL
      clear hI
      simp only [Act.put, List.setIfInBounds_toArray, List.set_cons_succ, List.set_cons_zero]
      have hd : L 5 = true ∧ L 7 = true := by simp [Region.binds] at hdep; simp [hdep]
      have HD := Lib.hid hd
      clear hd hL hdep
      obtain ⟨A1, n1, c1, B1, m1, d1, hz, hgz⟩ := (HI.out.form HD.out.1)
      clear hgz
      subst hz
      obtain ⟨g, rfl, hg, hbz, -⟩ := HI.out.2.2.2.2.2.2.1 HD.out.2
      have hblk := hbz HL.out
      have hc0 := hblk.cell 0
      have hc1 := hblk.cell 1
      have hc2 := hblk.cell 2
      have hf0 := hblk.frozen 0
      have hf1 := hblk.frozen 1
      have hf2 := hblk.frozen 2
      unfold numZ at hc0 hc1 hc2
      simp only [List.getElem?_toArray, List.getElem?_cons_zero, List.getElem?_cons_succ] at hc0 hc1 hc2
      clear hbz hblk
      go_simp
      exact hK.out _ (put3 W g (.bool (p).1.neg) (.slice A1 n1 c1) (.slice B1 m1 d1)) ⟨s27, s28, s24, .agg #[.bool (p).1.neg, .slice A1 n1 c1, .slice B1 m1 d1], s30, .pointer (some ⟨g, 0, none⟩), s10, (by simp only [Act.put, List.setIfInBounds_toArray, List.set_cons_succ, List.set_cons_zero]), HI.out.step8 HL.out HD.out.1 HD.out.2⟩
    · rintro L a W ⟨s27, s28, s24, s29, s30, s9, s10, rfl, hI⟩ hL hdep K hK
      have HI := Lib.hid hI
      have HL := Lib.hid hL
      clear hI
      simp only [Act.put, List.setIfInBounds_toArray, List.set_cons_succ, List.set_cons_zero]
      have hd : L 6 = true := by simp [Region.binds] at hdep; simp [hdep]
      have HD := Lib.hid hd
      clear hd hL hdep
      obtain ⟨d4, rfl⟩ := HI.out.2.2.2.2.2.1 HD.out
      go_simp
      exact hK.out _ _ ⟨s27, s28, s24, s29, .int .i64 (p).2, s9, .int .i64 (p).2, (by simp only [Act.put, List.setIfInBounds_toArray, List.set_cons_succ, List.set_cons_zero]), HI.out.step9⟩
  case donex =>
    rintro L a Wx ⟨s27, s28, s24, s29, s30, s9, s10, rfl, hI⟩ hall
    simp only [Act.put, List.setIfInBounds_toArray, List.set_cons_succ, List.set_cons_zero]
    obtain ⟨Ax, nx, cx, Bx, mx, dx, kx, hb, hg, hkn, hk, rfl, rfl⟩ := hI.done (fun i hi => hall _ (by show _ < 10; omega))
    clear hI hall hHeld
    have ltKAKX := KA.out.lt
    have KA := Lib.hid (KA.out.to hb)
    have GA := Lib.hid (GA.out.to hb)
    have HBE : Hid (Below w.heap.size w Wx) := HBE.out.trans ((hb).mono HBE.out.size)
    have Gx := Lib.hid hg
    have KX := Lib.hid hk
    clear hb hg hk
    have neKAKX : (w.heap.size = kx) = False := eq_false (by omega)
    have neKXKA : (kx = w.heap.size) = False := eq_false (by omega)
    go_wp2_with fail
    refine wp_region_held_drew (S := fun w' => w'.cell? ⟨w.heap.size, 0, none⟩ = some (.bool a0.neg) ∧ w'.cell? ⟨w.heap.size, 1, none⟩ = some (.slice A0 n0 c0) ∧ w'.cell? ⟨w.heap.size, 2, none⟩ = some (.slice B0 m0 d0)) (by kernel_rfl) ⟨KA.out.drew.cell 0, KA.out.drew.cell 1, KA.out.drew.cell 2⟩ (fun hHeld => ?_)
    (refine wpAnyH_take (i := 0) (v := ?_) rfl (by kernel_rfl) (by kernel_rfl) (by kernel_rfl) (fun _ _ _ h => h) (Or.inl ⟨by kernel_rfl, ?_⟩) (by assumption) ?_; rotate_left; ((intro w hSw; (try dsimp only at hSw); go_simp) <;> (with_reducible rfl)); (try (simp only [Act.put, List.setIfInBounds_toArray, List.set_cons_succ, List.set_cons_zero, List.getElem_toArray, List.getElem_cons_succ, List.getElem_cons_zero])))
    (refine wpAnyH_take (i := 1) (v := ?_) rfl (by kernel_rfl) (by kernel_rfl) (by kernel_rfl) (fun _ _ _ h => h) (Or.inl ⟨by kernel_rfl, ?_⟩) (by assumption) ?_; rotate_left; ((intro w hSw; (try dsimp only at hSw); go_simp) <;> (with_reducible rfl)); (try (simp only [Act.put, List.setIfInBounds_toArray, List.set_cons_succ, List.set_cons_zero, List.getElem_toArray, List.getElem_cons_succ, List.getElem_cons_zero])))
    refine wpAnyH_inv0 [2, 3, 4, 5, 6, 7, 8, 9] (fun aa L a W => ∃ s27 s28 s24 s29 s30 s9 s10, a = (((((((aa.put (some 27) s27).put (some 28) s28).put (some 24) s24).put (some 29) s29).put (some 30) s30).put (some 9) s9).put (some 10) s10) ∧ PowInv (Wx) (intZ n) q L s27 s28 s24 s29 s30 s9 s10 W) (by kernel_rfl) (by kernel_rfl) (by decide) (by kernel_rfl) ?hSy ?inity ?stepsy ?doney
    case hSy =>
      rintro L a W ⟨s27, s28, s24, s29, s30, s9, s10, -, h2, _⟩
      have := KA.out.to h2
      exact ⟨this.cell 0, this.cell 1, this.cell 2⟩
    case inity =>
      refine ⟨undef, undef, undef, undef, undef, undef, undef, (by simp only [Act.put, List.setIfInBounds_toArray, List.set_cons_succ, List.set_cons_zero]), (Below.refl _ _).drew, ?_, ?_, ?_, ?_, ?_, ?_, ?_, ?_⟩ <;> (intro h; exact absurd h (by decide))
    case stepsy =>
      refine Steps.cons (i := 2) rfl ?_ (Steps.cons (i := 3) rfl ?_ (Steps.cons (i := 4) rfl ?_ (Steps.cons (i := 5) rfl ?_ (Steps.cons (i := 6) rfl ?_ (Steps.cons (i := 7) rfl ?_ (Steps.cons (i := 8) rfl ?_ (Steps.cons (i := 9) rfl ?_ Steps.nil)))))))
      · rintro L a W ⟨s27, s28, s24, s29, s30, s9, s10, rfl, hI⟩ hL hdep K hK
        have HI := Lib.hid hI
        have HL := Lib.hid hL
        clear hI
        simp only [Act.put, List.setIfInBounds_toArray, List.set_cons_succ, List.set_cons_zero]
        clear hL hdep
        go_simp
        refine (HFN.out _).mono ?_
        rintro e w1 ⟨v1, rfl, hn1, hb1⟩
        exact hK.out _ _ ⟨v1, s28, s24, s29, s30, s9, s10, (by simp only [Act.put, List.setIfInBounds_toArray, List.set_cons_succ, List.set_cons_zero]), HI.out.step2 hb1 hn1⟩
      · rintro L a W ⟨s27, s28, s24, s29, s30, s9, s10, rfl, hI⟩ hL hdep K hK
        have HI := Lib.hid hI
        have HL := Lib.hid hL
        clear hI
        simp only [Act.put, List.setIfInBounds_toArray, List.set_cons_succ, List.set_cons_zero]
        have hd : L 2 = true := by simp [Region.binds] at hdep; simp [hdep]
        have HD := Lib.hid hd
        clear hd hL hdep
        have g2 := HI.out.2.1 HD.out
        have ga := GA.out.to HI.out.1
        go_simp
        refine (HQ.out _ _ _ (by exact ga) (by exact g2)).mono ?_
        rintro e w1 ⟨v1, rfl, hg1, hb1⟩
        exact hK.out _ _ ⟨s27, .tuple #[v1, .int .i64 (q).2], s24, s29, s30, s9, s10, (by simp only [Act.put, List.setIfInBounds_toArray, List.set_cons_succ, List.set_cons_zero]), HI.out.step3 HL.out hb1 hg1⟩
      · rintro L a W ⟨s27, s28, s24, s29, s30, s9, s10, rfl, hI⟩ hL hdep K hK
        have HI := Lib.hid hI
        have HL := Lib.hid hL
        clear hI
        simp only [Act.put, List.setIfInBounds_toArray, List.set_cons_succ, List.set_cons_zero]
        have hd : L 3 = true := by simp [Region.binds] at hdep; simp [hdep]
        have HD := Lib.hid hd
        clear hd hL hdep
        obtain ⟨v, rfl, hv⟩ := HI.out.2.2.1 HD.out
        clear hv
        go_simp
        exact hK.out _ _ ⟨s27, .tuple #[v, .int .i64 (q).2], .tuple #[v, .int .i64 (q).2], s29, s30, s9, s10, (by simp only [Act.put, List.setIfInBounds_toArray, List.set_cons_succ, List.set_cons_zero]), HI.out.step4 HD.out⟩
      · rintro L a W ⟨s27, s28, s24, s29, s30, s9, s10, rfl, hI⟩ hL hdep K hK
        have HI := Lib.hid hI
        have HL := Lib.hid hL
        clear hI
        simp only [Act.put, List.setIfInBounds_toArray, List.set_cons_succ, List.set_cons_zero]
        have hd : L 4 = true := by simp [Region.binds] at hdep; simp [hdep]
        have HD := Lib.hid hd
        clear hd hL hdep
        obtain ⟨d3, rfl⟩ := HI.out.2.2.2.1 HD.out
        obtain ⟨v, rfl, hv⟩ := HI.out.2.2.1 d3
        clear hv
        go_simp
        exact hK.out _ _ ⟨s27, .tuple #[v, .int .i64 (q).2], .tuple #[v, .int .i64 (q).2], v, s30, s9, s10, (by simp only [Act.put, List.setIfInBounds_toArray, List.set_cons_succ, List.set_cons_zero]), HI.out.step5 HL.out HD.out⟩
      · rintro L a W ⟨s27, s28, s24, s29, s30, s9, s10, rfl, hI⟩ hL hdep K hK
        have HI := Lib.hid hI
        have HL := Lib.hid hL
        clear hI
        simp only [Act.put, List.setIfInBounds_toArray, List.set_cons_succ, List.set_cons_zero]
        have hd : L 4 = true := by simp [Region.binds] at hdep; simp [hdep]
        have HD := Lib.hid hd
        clear hd hL hdep
        obtain ⟨d3, rfl⟩ := HI.out.2.2.2.1 HD.out
        obtain ⟨v, rfl, hv⟩ := HI.out.2.2.1 d3
        clear hv
        go_simp
        exact hK.out _ _ ⟨s27, .tuple #[v, .int .i64 (q).2], .tuple #[v, .int .i64 (q).2], s29, .int .i64 (q).2, s9, s10, (by simp only [Act.put, List.setIfInBounds_toArray, List.set_cons_succ, List.set_cons_zero]), HI.out.step6 HD.out⟩
      · rintro L a W ⟨s27, s28, s24, s29, s30, s9, s10, rfl, hI⟩ hL hdep K hK
        have HI := Lib.hid hI
        have HL := Lib.hid hL
        clear hI
        simp only [Act.put, List.setIfInBounds_toArray, List.set_cons_succ, List.set_cons_zero]
        clear hL hdep
        go_simp
        exact hK.out _ _ ⟨s27, s28, s24, s29, s30, .pointer (some ⟨W.heap.size, 0, none⟩), s10, (by simp only [Act.put, List.setIfInBounds_toArray, List.set_cons_succ, List.set_cons_zero]), HI.out.step7 HL.out⟩
      · rintro L a W ⟨s27, s28, s24, s29, s30, s9, s10, rfl, hI⟩ hL hdep K hK
        have HI := Lib.hid hI
        have HL := Lib.hid hL
        clear hI
        simp only [Act.put, List.setIfInBounds_toArray, List.set_cons_succ, List.set_cons_zero]
        have hd : L 5 = true ∧ L 7 = true := by simp [Region.binds] at hdep; simp [hdep]
        have HD := Lib.hid hd
        clear hd hL hdep
        obtain ⟨A1, n1, c1, B1, m1, d1, hz, hgz⟩ := (HI.out.form HD.out.1)
        clear hgz
        subst hz
        obtain ⟨g, rfl, hg, hbz, -⟩ := HI.out.2.2.2.2.2.2.1 HD.out.2
        have hblk := hbz HL.out
        have hc0 := hblk.cell 0
        have hc1 := hblk.cell 1
        have hc2 := hblk.cell 2
        have hf0 := hblk.frozen 0
        have hf1 := hblk.frozen 1
        have hf2 := hblk.frozen 2
        unfold numZ at hc0 hc1 hc2
        simp only [List.getElem?_toArray, List.getElem?_cons_zero, List.getElem?_cons_succ] at hc0 hc1 hc2
        clear hbz hblk
        go_simp
        exact hK.out _ (put3 W g (.bool (q).1.neg) (.slice A1 n1 c1) (.slice B1 m1 d1)) ⟨s27, s28, s24, .agg #[.bool (q).1.neg, .slice A1 n1 c1, .slice B1 m1 d1], s30, .pointer (some ⟨g, 0, none⟩), s10, (by simp only [Act.put, List.setIfInBounds_toArray, List.set_cons_succ, List.set_cons_zero]), HI.out.step8 HL.out HD.out.1 HD.out.2⟩
      · rintro L a W ⟨s27, s28, s24, s29, s30, s9, s10, rfl, hI⟩ hL hdep K hK
        have HI := Lib.hid hI
        have HL := Lib.hid hL
        clear hI
        simp only [Act.put, List.setIfInBounds_toArray, List.set_cons_succ, List.set_cons_zero]
        have hd : L 6 = true := by simp [Region.binds] at hdep; simp [hdep]
        have HD := Lib.hid hd
        clear hd hL hdep
        obtain ⟨d4, rfl⟩ := HI.out.2.2.2.2.2.1 HD.out
        go_simp
        exact hK.out _ _ ⟨s27, s28, s24, s29, .int .i64 (q).2, s9, .int .i64 (q).2, (by simp only [Act.put, List.setIfInBounds_toArray, List.set_cons_succ, List.set_cons_zero]), HI.out.step9⟩
    case doney =>
      rintro L a Wy ⟨s27, s28, s24, s29, s30, s9, s10, rfl, hI⟩ hall
      simp only [Act.put, List.setIfInBounds_toArray, List.set_cons_succ, List.set_cons_zero]
      obtain ⟨Ay, ny, cy, By, my, dy, ky, hb, hg, hkn, hk, rfl, rfl⟩ := hI.done (fun i hi => hall _ (by show _ < 10; omega))
      clear hI hall hHeld
      have ltKAKY := KA.out.lt
      have ltKXKY := KX.out.lt
      have KA := Lib.hid (KA.out.to hb)
      have KX := Lib.hid (KX.out.to hb)
      have GA := Lib.hid (GA.out.to hb)
      have Gx := Lib.hid (Gx.out.to hb)
      have HBE : Hid (Below w.heap.size w Wy) := HBE.out.trans ((hb).mono HBE.out.size)
      have Gy := Lib.hid hg
      have KY := Lib.hid hk
      clear hb hg hk
      have neKAKY : (w.heap.size = ky) = False := eq_false (by omega)
      have neKYKA : (ky = w.heap.size) = False := eq_false (by omega)
      have neKXKY : (kx = ky) = False := eq_false (by omega)
      have neKYKX : (ky = kx) = False := eq_false (by omega)
      rcases Decidable.em (p.2 = 0) with hp0 | hp0
      rotate_left
      · have hp1 : (p.2 != 0) = true := by rw [bne_iff_ne]; exact hp0
        go_wp2_with fail
        refine (counted_any _).mono ?_
        rintro e wz ⟨rfl, hb⟩
        go_wp2_with fail
        go_ret
        exact ⟨rfl, HBE.out.trans (hb.mono HBE.out.size)⟩
      have hp1 : (p.2 != 0) = false := by rw [hp0]; rfl
      rcases Decidable.em (q.2 = 0) with hq0 | hq0
      rotate_left
      · have hp1 : (q.2 != 0) = true := by rw [bne_iff_ne]; exact hq0
        go_wp2_with fail
        refine (counted_any _).mono ?_
        rintro e wz ⟨rfl, hb⟩
        go_wp2_with fail
        go_ret
        exact ⟨rfl, HBE.out.trans (hb.mono HBE.out.size)⟩
      have hq1 : (q.2 != 0) = false := by rw [hq0]; rfl
      have kx0 := KX.out.cell 0
      have kx1 := KX.out.cell 1
      have kx2 := KX.out.cell 2
      have ky0 := KY.out.cell 0
      have ky1 := KY.out.cell 1
      have ky2 := KY.out.cell 2
      simp only [List.getElem?_toArray, List.getElem?_cons_zero, List.getElem?_cons_succ] at kx0 kx1 kx2 ky0 ky1 ky2
      go_wp2_with fail
      refine (HM.out _ _ _ (by exact Gx.out) (by exact Gy.out)).mono ?_
      rintro e w1 ⟨v, rfl, hg, hb⟩
      clear kx0 kx1 kx2 ky0 ky1 ky2
      have KA := Lib.hid (KA.out.to hb)
      have KX := Lib.hid (KX.out.to hb)
      have KY := Lib.hid (KY.out.to hb)
      have GA := Lib.hid (GA.out.to hb)
      have Gx := Lib.hid (Gx.out.to hb)
      have Gy := Lib.hid (Gy.out.to hb)
      have HBE : Hid (Below w.heap.size w w1) := HBE.out.trans ((hb).mono HBE.out.size)
      clear hb
      obtain ⟨Az, nz, cz, Bz, mz, dz, rfl, hq1, hq2⟩ := hg.form
      have Gz := Lib.hid hg
      clear hq1 hq2 hg
      have ka0 := KA.out.cell 0
      have ka1 := KA.out.cell 1
      have ka2 := KA.out.cell 2
      simp only [List.getElem?_toArray, List.getElem?_cons_zero, List.getElem?_cons_succ] at ka0 ka1 ka2
      have ltKAKZ := KA.out.lt
      have ltKXKZ := KX.out.lt
      have ltKYKZ := KY.out.lt
      have KZN := Lib.hid (Blk.new w1 24 #[.bool z.1.neg, .slice Az nz cz, .slice Bz mz dz])
      have KA := Lib.hid (KA.out.to (below_one w1 (.cells #[.bool z.1.neg, .slice Az nz cz, .slice Bz mz dz] 24)))
      have KX := Lib.hid (KX.out.to (below_one w1 (.cells #[.bool z.1.neg, .slice Az nz cz, .slice Bz mz dz] 24)))
      have KY := Lib.hid (KY.out.to (below_one w1 (.cells #[.bool z.1.neg, .slice Az nz cz, .slice Bz mz dz] 24)))
      have GA := Lib.hid (GA.out.to (below_one w1 (.cells #[.bool z.1.neg, .slice Az nz cz, .slice Bz mz dz] 24)))
      have Gx := Lib.hid (Gx.out.to (below_one w1 (.cells #[.bool z.1.neg, .slice Az nz cz, .slice Bz mz dz] 24)))
      have Gy := Lib.hid (Gy.out.to (below_one w1 (.cells #[.bool z.1.neg, .slice Az nz cz, .slice Bz mz dz] 24)))
      have Gz := Lib.hid (Gz.out.to (below_one w1 (.cells #[.bool z.1.neg, .slice Az nz cz, .slice Bz mz dz] 24)))
      have HBE : Hid (Below w.heap.size w (w1.alloc (.cells #[.bool z.1.neg, .slice Az nz cz, .slice Bz mz dz] 24))) := HBE.out.trans (((below_one w1 (.cells #[.bool z.1.neg, .slice Az nz cz, .slice Bz mz dz] 24))).mono HBE.out.size)
      have KZ := KZN
      clear KZN
      have neKAKZ : (w.heap.size = w1.heap.size) = False := eq_false (by omega)
      have neKZKA : (w1.heap.size = w.heap.size) = False := eq_false (by omega)
      have neKXKZ : (kx = w1.heap.size) = False := eq_false (by omega)
      have neKZKX : (w1.heap.size = kx) = False := eq_false (by omega)
      have neKYKZ : (ky = w1.heap.size) = False := eq_false (by omega)
      have neKZKY : (w1.heap.size = ky) = False := eq_false (by omega)
      rcases Decidable.em (z.2 = 0) with hz0 | hz0
      rotate_left
      · have hz1 : (z.2 != 0) = true := by rw [bne_iff_ne]; exact hz0
        go_wp2_with fail
        refine (counted_any _).mono ?_
        rintro e wz ⟨rfl, hb⟩
        go_wp2_with fail
        go_ret
        exact ⟨rfl, HBE.out.trans (hb.mono HBE.out.size)⟩
      have hz1 : (z.2 != 0) = false := by rw [hz0]; rfl
      clear ka0 ka1 ka2
      go_wp2_with fail
      refine wp_region_held_drew (S := fun w' => w'.cell? ⟨w.heap.size, 0, none⟩ = some (.bool a0.neg) ∧ w'.cell? ⟨w.heap.size, 1, none⟩ = some (.slice A0 n0 c0) ∧ w'.cell? ⟨w.heap.size, 2, none⟩ = some (.slice B0 m0 d0)) (by kernel_rfl) ⟨KA.out.drew.cell 0, KA.out.drew.cell 1, KA.out.drew.cell 2⟩ (fun hHeld => ?_)
      (refine wpAnyH_take (i := 0) (v := ?_) rfl (by kernel_rfl) (by kernel_rfl) (by kernel_rfl) (fun _ _ _ h => h) (Or.inl ⟨by kernel_rfl, ?_⟩) (by assumption) ?_; rotate_left; ((intro w hSw; (try dsimp only at hSw); go_simp) <;> (with_reducible rfl)); (try (simp only [Act.put, List.setIfInBounds_toArray, List.set_cons_succ, List.set_cons_zero, List.getElem_toArray, List.getElem_cons_succ, List.getElem_cons_zero])))
      (refine wpAnyH_take (i := 1) (v := ?_) rfl (by kernel_rfl) (by kernel_rfl) (by kernel_rfl) (fun _ _ _ h => h) (Or.inl ⟨by kernel_rfl, ?_⟩) (by assumption) ?_; rotate_left; ((intro w hSw; (try dsimp only at hSw); go_simp) <;> (with_reducible rfl)); (try (simp only [Act.put, List.setIfInBounds_toArray, List.set_cons_succ, List.set_cons_zero, List.getElem_toArray, List.getElem_cons_succ, List.getElem_cons_zero])))
      (refine wpAnyH_take (i := 2) (v := ?_) rfl (by kernel_rfl) (by kernel_rfl) (by kernel_rfl) (fun _ _ _ h => h) (Or.inl ⟨by kernel_rfl, ?_⟩) (by assumption) ?_; rotate_left; ((intro w hSw; (try dsimp only at hSw); go_simp) <;> (with_reducible rfl)); (try (simp only [Act.put, List.setIfInBounds_toArray, List.set_cons_succ, List.set_cons_zero, List.getElem_toArray, List.getElem_cons_succ, List.getElem_cons_zero])))
      (refine wpAnyH_take (i := 3) (v := ?_) rfl (by kernel_rfl) (by kernel_rfl) (by kernel_rfl) (fun _ _ _ h => h) (Or.inl ⟨by kernel_rfl, ?_⟩) (by assumption) ?_; rotate_left; ((intro w hSw; (try dsimp only at hSw); go_simp) <;> (with_reducible rfl)); (try (simp only [Act.put, List.setIfInBounds_toArray, List.set_cons_succ, List.set_cons_zero, List.getElem_toArray, List.getElem_cons_succ, List.getElem_cons_zero])))
      refine wpAnyH_inv0 [4, 5, 6, 7, 8, 9, 10, 11] (fun aa L a W => ∃ s27 s28 s24 s29 s30 s9 s10, a = (((((((aa.put (some 52) s27).put (some 53) s28).put (some 47) s24).put (some 54) s29).put (some 55) s30).put (some 12) s9).put (some 8) s10) ∧ PowInv ((w1.alloc (.cells #[.bool z.1.neg, .slice Az nz cz, .slice Bz mz dz] 24))) (intZ (m + n)) r (fun j => L (j + 2)) s27 s28 s24 s29 s30 s9 s10 W) (by kernel_rfl) (by kernel_rfl) (by decide) (by kernel_rfl) ?hSw ?initw ?stepsw ?donew
      case hSw =>
        rintro L a W ⟨s27, s28, s24, s29, s30, s9, s10, -, h2, _⟩
        have := KA.out.to h2
        exact ⟨this.cell 0, this.cell 1, this.cell 2⟩
      case initw =>
        refine ⟨undef, undef, undef, undef, undef, undef, .int .i64 0, (by simp only [Act.put, List.setIfInBounds_toArray, List.set_cons_succ, List.set_cons_zero]), (Below.refl _ _).drew, ?_, ?_, ?_, ?_, ?_, ?_, ?_, ?_⟩ <;> (intro h; exact absurd h (by decide))
      case stepsw =>
        refine Steps.cons (i := 4) rfl ?_ (Steps.cons (i := 5) rfl ?_ (Steps.cons (i := 6) rfl ?_ (Steps.cons (i := 7) rfl ?_ (Steps.cons (i := 8) rfl ?_ (Steps.cons (i := 9) rfl ?_ (Steps.cons (i := 10) rfl ?_ (Steps.cons (i := 11) rfl ?_ Steps.nil)))))))
        · rintro L a W ⟨s27, s28, s24, s29, s30, s9, s10, rfl, hI⟩ hL hdep K hK
          have HI := Lib.hid hI
          have HL := Lib.hid hL
          clear hI
          simp only [Act.put, List.setIfInBounds_toArray, List.set_cons_succ, List.set_cons_zero]
          clear hL hdep
          go_simp
          refine (HFS.out _).mono ?_
          rintro e w1 ⟨v1, rfl, hn1, hb1⟩
          exact hK.out _ _ ⟨v1, s28, s24, s29, s30, s9, s10, (by simp only [Act.put, List.setIfInBounds_toArray, List.set_cons_succ, List.set_cons_zero]), HI.out.step2 hb1 hn1⟩
        · rintro L a W ⟨s27, s28, s24, s29, s30, s9, s10, rfl, hI⟩ hL hdep K hK
          have HI := Lib.hid hI
          have HL := Lib.hid hL
          clear hI
          simp only [Act.put, List.setIfInBounds_toArray, List.set_cons_succ, List.set_cons_zero]
          have hd : L 4 = true := by simp [Region.binds] at hdep; simp [hdep]
          have HD := Lib.hid hd
          clear hd hL hdep
          have g2 := HI.out.2.1 HD.out
          have ga := GA.out.to HI.out.1
          go_simp
          refine (HR.out _ _ _ (by exact ga) (by exact g2)).mono ?_
          rintro e w1 ⟨v1, rfl, hg1, hb1⟩
          exact hK.out _ _ ⟨s27, .tuple #[v1, .int .i64 (r).2], s24, s29, s30, s9, s10, (by simp only [Act.put, List.setIfInBounds_toArray, List.set_cons_succ, List.set_cons_zero]), HI.out.step3 HL.out hb1 hg1⟩
        · rintro L a W ⟨s27, s28, s24, s29, s30, s9, s10, rfl, hI⟩ hL hdep K hK
          have HI := Lib.hid hI
          have HL := Lib.hid hL
          clear hI
          simp only [Act.put, List.setIfInBounds_toArray, List.set_cons_succ, List.set_cons_zero]
          have hd : L 5 = true := by simp [Region.binds] at hdep; simp [hdep]
          have HD := Lib.hid hd
          clear hd hL hdep
          obtain ⟨v, rfl, hv⟩ := HI.out.2.2.1 HD.out
          clear hv
          go_simp
          exact hK.out _ _ ⟨s27, .tuple #[v, .int .i64 (r).2], .tuple #[v, .int .i64 (r).2], s29, s30, s9, s10, (by simp only [Act.put, List.setIfInBounds_toArray, List.set_cons_succ, List.set_cons_zero]), HI.out.step4 HD.out⟩
        · rintro L a W ⟨s27, s28, s24, s29, s30, s9, s10, rfl, hI⟩ hL hdep K hK
          have HI := Lib.hid hI
          have HL := Lib.hid hL
          clear hI
          simp only [Act.put, List.setIfInBounds_toArray, List.set_cons_succ, List.set_cons_zero]
          have hd : L 6 = true := by simp [Region.binds] at hdep; simp [hdep]
          have HD := Lib.hid hd
          clear hd hL hdep
          obtain ⟨d3, rfl⟩ := HI.out.2.2.2.1 HD.out
          obtain ⟨v, rfl, hv⟩ := HI.out.2.2.1 d3
          clear hv
          go_simp
          exact hK.out _ _ ⟨s27, .tuple #[v, .int .i64 (r).2], .tuple #[v, .int .i64 (r).2], v, s30, s9, s10, (by simp only [Act.put, List.setIfInBounds_toArray, List.set_cons_succ, List.set_cons_zero]), HI.out.step5 HL.out HD.out⟩
        · rintro L a W ⟨s27, s28, s24, s29, s30, s9, s10, rfl, hI⟩ hL hdep K hK
          have HI := Lib.hid hI
          have HL := Lib.hid hL
          clear hI
          simp only [Act.put, List.setIfInBounds_toArray, List.set_cons_succ, List.set_cons_zero]
          have hd : L 6 = true := by simp [Region.binds] at hdep; simp [hdep]
          have HD := Lib.hid hd
          clear hd hL hdep
          obtain ⟨d3, rfl⟩ := HI.out.2.2.2.1 HD.out
          obtain ⟨v, rfl, hv⟩ := HI.out.2.2.1 d3
          clear hv
          go_simp
          exact hK.out _ _ ⟨s27, .tuple #[v, .int .i64 (r).2], .tuple #[v, .int .i64 (r).2], s29, .int .i64 (r).2, s9, s10, (by simp only [Act.put, List.setIfInBounds_toArray, List.set_cons_succ, List.set_cons_zero]), HI.out.step6 HD.out⟩
        · rintro L a W ⟨s27, s28, s24, s29, s30, s9, s10, rfl, hI⟩ hL hdep K hK
          have HI := Lib.hid hI
          have HL := Lib.hid hL
          clear hI
          simp only [Act.put, List.setIfInBounds_toArray, List.set_cons_succ, List.set_cons_zero]
          clear hL hdep
          go_simp
          exact hK.out _ _ ⟨s27, s28, s24, s29, s30, .pointer (some ⟨W.heap.size, 0, none⟩), s10, (by simp only [Act.put, List.setIfInBounds_toArray, List.set_cons_succ, List.set_cons_zero]), HI.out.step7 HL.out⟩
        · rintro L a W ⟨s27, s28, s24, s29, s30, s9, s10, rfl, hI⟩ hL hdep K hK
          have HI := Lib.hid hI
          have HL := Lib.hid hL
          clear hI
          simp only [Act.put, List.setIfInBounds_toArray, List.set_cons_succ, List.set_cons_zero]
          have hd : L 7 = true ∧ L 9 = true := by simp [Region.binds] at hdep; simp [hdep]
          have HD := Lib.hid hd
          clear hd hL hdep
          obtain ⟨A1, n1, c1, B1, m1, d1, hz, hgz⟩ := (HI.out.form HD.out.1)
          clear hgz
          subst hz
          obtain ⟨g, rfl, hg, hbz, -⟩ := HI.out.2.2.2.2.2.2.1 HD.out.2
          have hblk := hbz HL.out
          have hc0 := hblk.cell 0
          have hc1 := hblk.cell 1
          have hc2 := hblk.cell 2
          have hf0 := hblk.frozen 0
          have hf1 := hblk.frozen 1
          have hf2 := hblk.frozen 2
          unfold numZ at hc0 hc1 hc2
          simp only [List.getElem?_toArray, List.getElem?_cons_zero, List.getElem?_cons_succ] at hc0 hc1 hc2
          clear hbz hblk
          go_simp
          exact hK.out _ (put3 W g (.bool (r).1.neg) (.slice A1 n1 c1) (.slice B1 m1 d1)) ⟨s27, s28, s24, .agg #[.bool (r).1.neg, .slice A1 n1 c1, .slice B1 m1 d1], s30, .pointer (some ⟨g, 0, none⟩), s10, (by simp only [Act.put, List.setIfInBounds_toArray, List.set_cons_succ, List.set_cons_zero]), HI.out.step8 HL.out HD.out.1 HD.out.2⟩
        · rintro L a W ⟨s27, s28, s24, s29, s30, s9, s10, rfl, hI⟩ hL hdep K hK
          have HI := Lib.hid hI
          have HL := Lib.hid hL
          clear hI
          simp only [Act.put, List.setIfInBounds_toArray, List.set_cons_succ, List.set_cons_zero]
          have hd : L 8 = true := by simp [Region.binds] at hdep; simp [hdep]
          have HD := Lib.hid hd
          clear hd hL hdep
          obtain ⟨d4, rfl⟩ := HI.out.2.2.2.2.2.1 HD.out
          go_simp
          exact hK.out _ _ ⟨s27, s28, s24, s29, .int .i64 (r).2, s9, .int .i64 (r).2, (by simp only [Act.put, List.setIfInBounds_toArray, List.set_cons_succ, List.set_cons_zero]), HI.out.step9⟩
      case donew =>
        rintro L a Ww ⟨s27, s28, s24, s29, s30, s9, s10, rfl, hI⟩ hall
        simp only [Act.put, List.setIfInBounds_toArray, List.set_cons_succ, List.set_cons_zero]
        obtain ⟨Aw, nw, cw, Bw, mw, dw, kw, hb, hg, hkn, hk, rfl, rfl⟩ := hI.done (fun i hi => hall _ (by show _ < 12; omega))
        clear hI hall hHeld
        have ltKAKW := KA.out.lt
        have ltKXKW := KX.out.lt
        have ltKYKW := KY.out.lt
        have ltKZKW := KZ.out.lt
        have KA := Lib.hid (KA.out.to hb)
        have KX := Lib.hid (KX.out.to hb)
        have KY := Lib.hid (KY.out.to hb)
        have KZ := Lib.hid (KZ.out.to hb)
        have GA := Lib.hid (GA.out.to hb)
        have Gx := Lib.hid (Gx.out.to hb)
        have Gy := Lib.hid (Gy.out.to hb)
        have Gz := Lib.hid (Gz.out.to hb)
        have HBE : Hid (Below w.heap.size w Ww) := HBE.out.trans ((hb).mono HBE.out.size)
        have Gw := Lib.hid hg
        have KW := Lib.hid hk
        clear hb hg hk
        have neKAKW : (w.heap.size = kw) = False := eq_false (by omega)
        have neKWKA : (kw = w.heap.size) = False := eq_false (by omega)
        have neKXKW : (kx = kw) = False := eq_false (by omega)
        have neKWKX : (kw = kx) = False := eq_false (by omega)
        have neKYKW : (ky = kw) = False := eq_false (by omega)
        have neKWKY : (kw = ky) = False := eq_false (by omega)
        have neKZKW : (w1.heap.size = kw) = False := eq_false (by omega)
        have neKWKZ : (kw = w1.heap.size) = False := eq_false (by omega)
        obtain ⟨hr0, hr1⟩ := HLAW.out hp0 hq0 hz0
        have hr2 : (r.2 == 0) = true := by rw [hr0]; rfl
        have kz0 := KZ.out.cell 0
        have kz1 := KZ.out.cell 1
        have kz2 := KZ.out.cell 2
        have kw0 := KW.out.cell 0
        have kw1 := KW.out.cell 1
        have kw2 := KW.out.cell 2
        simp only [List.getElem?_toArray, List.getElem?_cons_zero, List.getElem?_cons_succ] at kz0 kz1 kz2 kw0 kw1 kw2
        go_wp2_with fail
        refine (HSM.out _ _ _ _ (by exact Gz.out) (by rw [← hr1]; exact Gw.out)).mono ?_
        rintro e w2 ⟨rfl, hb⟩
        clear kz0 kz1 kz2 kw0 kw1 kw2
        have KA := Lib.hid (KA.out.to hb)
        have KX := Lib.hid (KX.out.to hb)
        have KY := Lib.hid (KY.out.to hb)
        have KZ := Lib.hid (KZ.out.to hb)
        have KW := Lib.hid (KW.out.to hb)
        have GA := Lib.hid (GA.out.to hb)
        have Gx := Lib.hid (Gx.out.to hb)
        have Gy := Lib.hid (Gy.out.to hb)
        have Gz := Lib.hid (Gz.out.to hb)
        have Gw := Lib.hid (Gw.out.to hb)
        have HBE : Hid (Below w.heap.size w w2) := HBE.out.trans ((hb).mono HBE.out.size)
        clear hb
        go_wp2_with fail
        refine (counted_any _).mono ?_
        rintro e wz ⟨rfl, hb⟩
        go_wp2_with fail
        go_ret
        exact ⟨rfl, HBE.out.trans (hb.mono HBE.out.size)⟩

theorem numberPowersAdd_holds : Rows.NumberPowersAddCardSaid := LawPowersAdd.card law_powersAdd
#print axioms numberPowersAdd_holds
end Go.Proofs.YtdmhkhnnomdkcaaDoor

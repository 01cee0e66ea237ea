/- fetterlockref1.shift. Conditions: integers of at most 256 digits, in canonical form. -/
import Derived.Deep.RegionHeld3
import Derived.Test.YtdfcpkjphdepcaaGreatDoorJo15
import Derived.Test.YtdfcpkjphdepcaaGreatDoorJo26
import Derived.Test.YtdfcpkjphdepcaaGreatDoorJo28
import Derived.Test.YtdfcpkjphdepcaaGreatDoorJo32
import Derived.Test.YtdfcpkjphdepcaaGreatDoorJo33
import Derived.Test.YtdfcpkjphdepcaaGreatDoorJo35
import Derived.Test.YtdfcpkjphdepcaaGreatDoorJo36
set_option linter.unusedVariables false
set_option linter.unusedSimpArgs false
namespace Go.Proofs.YtdfcpkjphdepcaaGreatDoor
open Go.RowKit NumB
set_option linter.unusedVariables false
set_option linter.unusedSimpArgs false

/-- The answer of a shift. -/
def shR (na : Bool) (x : Nat) (nb : Bool) (y : Nat) : LN × Int := if nb then fracS 0 na (shrUp na x (min 4097 y)) 1 else fracS 0 na (x * 2 ^ (min 4097 y)) 1
theorem shiftS_eq {a b : LN} (h : intErr2 a b = 0) : shiftS a b = shR a.neg a.x b.neg b.x := by unfold shiftS shR; rw [if_pos h]
theorem fracS_one (s : Bool) (n : Nat) : fracS 0 s n 1 = opS 0 (s && decide (0 < n)) n 1 := by unfold fracS; rw [Nat.gcd_one_right, Nat.div_one, Nat.div_one]
theorem opS_zero (s : Bool) : opS 0 (s && decide (0 < 0)) 0 1 = opS 0 false 0 1 := by cases s <;> rfl
theorem shR_zero (na nb : Bool) (y : Nat) : shR na 0 nb y = opS 0 false 0 1 := by
  unfold shR
  have e : shrUp na 0 (min 4097 y) = 0 := by
    rw [shrUp_ex (decide_eq_true (Nat.zero_mod _)), Nat.zero_div]
  rw [e, Nat.zero_mul]
  split <;> (rw [fracS_one]; exact opS_zero _)
theorem shrUp_gone {na : Bool} {x e : Nat} (hx : 0 < x) (h : blen x ≤ e) : shrUp na x e = if na then 1 else 0 := by
  have hlt : x < 2 ^ e := Nat.lt_of_lt_of_le (blen_lt x) (Nat.pow_le_pow_right (by decide) h)
  unfold shrUp exactB
  generalize 2 ^ e = P at *
  rw [Nat.div_eq_of_lt hlt, Nat.mod_eq_of_lt hlt, show decide (x = 0) = false from decide_eq_false (by omega)]
  cases na <;> rfl
theorem shR_gone {na : Bool} {x y : Nat} (hx : 0 < x) (hxb : blen x ≤ 4096) (hy : 4096 < y) : shR na x true y = opS 0 na (if na then 1 else 0) 1 := by
  unfold shR
  rw [if_pos rfl, show min 4097 y = 4097 from by omega, shrUp_gone hx (by omega), fracS_one]
  cases na <;> rfl
theorem shR_right {na : Bool} {x y : Nat} (hy : y ≤ 4096) : shR na x true y = opS 0 (na && decide (0 < shrUp na x y)) (shrUp na x y) 1 := by
  unfold shR
  rw [if_pos rfl, show min 4097 y = y from by omega, fracS_one]
theorem shR_left {na : Bool} {x y : Nat} (hy : y ≤ 4096) : shR na x false y = opS 0 (na && decide (0 < x * 2 ^ y)) (x * 2 ^ y) 1 := by
  unfold shR
  rw [if_neg (by decide), show min 4097 y = y from by omega, fracS_one]
theorem big_len {x e m : Nat} (hx : 0 < x) (he : 32 * m ≤ e) : m < (digs W32 (x * 2 ^ e)).length := by
  rw [digs_len_gt W32_gt, show W32 = 2 ^ 32 from rfl, ← Nat.pow_mul]
  exact Nat.le_trans (Nat.pow_le_pow_right (by decide) he) (Nat.le_mul_of_pos_left _ hx)
theorem opS_big {s : Bool} {n : Nat} (h : 128 < (digs W32 n).length) : opS 0 s n 1 = (zeroL, 3) := by
  have hf : fitB n 1 = false := decide_eq_false (fun h2 => by have := h2.1; omega)
  unfold opS
  rw [if_pos rfl, hf]; rfl
theorem shR_big {na : Bool} {x y : Nat} (hx : 0 < x) (hy : 4096 < y) : shR na x false y = (zeroL, 3) := by
  unfold shR
  rw [if_neg (by decide), show min 4097 y = 4097 from by omega]
  generalize he : 4097 = e
  rw [fracS_one]
  exact opS_big (big_len hx (by omega))

set_option maxRecDepth 100000 in
set_option maxHeartbeats 12800000 in
theorem rshift_any (na nb : Bool) (x y : Nat) (va vb : Value) (w : World) (ha : RV w va na x 1) (hb : RV w vb nb y 1) (hx : (digs W16 x).length ≤ 256) (hy : (digs W16 y).length ≤ 256) (hna : x = 0 → na = false) :
    Calls Tryz.prog 32 #[va, vb] w (SPost w (shR na x nb y)) := by
  have RA := Lib.hid ha
  have RB := Lib.hid hb
  obtain ⟨A1, n1, c1, A2, n2, c2, rfl, hz1, hz2⟩ := ha.form
  obtain ⟨A3, n3, c3, A4, n4, c4, rfl, hz3, hz4⟩ := hb.form
  have HSM : Hid (∀ (W : World) (v : Value), RV W v nb y 1 → Calls Tryz.prog 62 #[v] W fun e w' => e = .returned (.tuple #[.int .i64 (smallI y), .bool (smallB y)]) ∧ Below W.heap.size W w') := fun W v h => rsmall_any nb y 1 v W h hy
  have HMK : Hid (∀ (s : Bool) (n : Nat), (digs W16 n).length ≤ 10000 → ∀ (W : World) (v : Value), RV W v s n 1 → Calls Tryz.prog 24 #[v] W (SPost W (opS 0 s n 1))) := fun s n hn W v h => rmade_S s n 1 v W h (by omega) (by rw [digs_one16]; decide)
  have HWK : Hid (∀ (s : Bool) (n : Nat) (W : World) (v : Value), Nat16 W v n → Calls Tryz.prog 29 #[.bool s, v] W (RVPost W (s && decide (0 < n)) n 1)) := fun s n W v h => rwhole_any s n v W h
  have HXB : Hid (blen x ≤ 4096) := blen_digs hx
  have HN1 : Hid (n1 = (digs W16 x).length) := hz1
  have HX := Lib.hid hx
  have HY := Lib.hid hy
  clear ha hb hz1 hz2 hz3 hz4 hx hy
  rcases Nat.eq_zero_or_pos x with h0 | h0
  · subst h0
    obtain rfl := hna rfl
    obtain rfl : n1 = 0 := by rw [HN1.out, digs_zero]; rfl
    have HMD : Hid (∀ (W : World) (v : Value), RV W v false 0 1 → Calls Tryz.prog 24 #[v] W (SPost W (shR false 0 nb y))) := fun W v h => by
      rw [shR_zero]
      exact HMK.out false 0 (by rw [digs_zero]; decide) W v h
    generalize shR false 0 nb y = r at *
    clear hna HMK HWK HSM
    have HBK := Lib.hid (blk_3 w 37 37 24 #[.bool false, .slice A1 0 c1, .slice A2 n2 c2] #[.bool nb, .slice A3 n3 c3, .slice A4 n4 c4] #[.bool false, .slice none 0 0, .slice none 0 0])
    have KA := Lib.hid HBK.out.1
    have KB := Lib.hid HBK.out.2.1
    have KC := Lib.hid HBK.out.2.2
    have HBE := Lib.hid (below_3 w (.cells #[.bool false, .slice A1 0 c1, .slice A2 n2 c2] 37) (.cells #[.bool nb, .slice A3 n3 c3, .slice A4 n4 c4] 37) (.cells #[.bool false, .slice none 0 0, .slice none 0 0] 24))
    have RA := Lib.hid (RA.out.to HBE.out)
    have RB := Lib.hid (RB.out.to HBE.out)
    clear HBK
    go_enter Tryz.func32, Tryz.ntmps32
    have ka0 := KA.out.cell 0
    have ka1 := KA.out.cell 1
    have ka2 := KA.out.cell 2
    simp only [List.getElem?_toArray, List.getElem?_cons_zero, List.getElem?_cons_succ] at ka0 ka1 ka2
    go_wp2_with fail
    refine (HMD.out _ _ (by exact RA.out)).mono ?_
    rintro e w1 ⟨vz, rfl, hg, hb⟩
    clear ka0 ka1 ka2
    have KA := Lib.hid (KA.out.to hb)
    have KB := Lib.hid (KB.out.to hb)
    have KC := Lib.hid (KC.out.to hb)
    have RA := Lib.hid (RA.out.to hb)
    have RB := Lib.hid (RB.out.to hb)
    have HBE : Hid (Below w.heap.size w w1) := HBE.out.trans ((hb).mono HBE.out.size)
    clear hb
    obtain ⟨Az, nz, cz, Bz, mz, dz, rfl, hq1, hq2⟩ := hg.form
    have Gz := Lib.hid hg
    clear hq1 hq2 hg
    have kc0 := KC.out.cell 0
    have kc1 := KC.out.cell 1
    have kc2 := KC.out.cell 2
    simp only [List.getElem?_toArray, List.getElem?_cons_zero, List.getElem?_cons_succ] at kc0 kc1 kc2
    have fzkc0 := KC.out.frozen 0
    have fzkc1 := KC.out.frozen 1
    have fzkc2 := KC.out.frozen 2
    go_wp2_with fail
    refine bodyPost_ret (v := .tuple #[.agg #[.bool r.1.neg, .slice Az nz cz, .slice Bz mz dz], .int .i64 r.2]) (by rw [results_cell_tmp rfl]; go_simp) rfl ?_
    exact ⟨_, rfl, Gz.out.put3 KC.out _ _ _, put3_below HBE.out (by omega) _ _ _⟩
  have hn1 : 0 < n1 := (len_pos16 HN1.out).2 h0
  have hn10 : ((n1 : Int) == 0) = false := beq_eq_false_iff_ne.2 (by omega)
  have H0 := Lib.hid h0
  clear hna h0 hn1
  by_cases hy : 4096 < y
  · have hsm : (smallB y = false ∧ smallI y = 0) ∨ (smallB y = true ∧ smallI y = (y : Int)) := by
      by_cases h : blen y ≤ 20
      · exact .inr ⟨decide_eq_true h, if_pos h⟩
      · exact .inl ⟨decide_eq_false h, if_neg h⟩
    have hyi : (4096 : Int) < (y : Int) := by omega
    have hyb : (y : Int) < 1208925819614629174706176 ∨ True := .inr trivial
    clear hyb
    cases nb with
    | true =>
      have HR := Lib.hid (shR_gone (na := na) H0.out HXB.out hy)
      generalize shR na x true y = r at *
      clear hy
      cases na with
      | true =>
        have HMD : Hid (∀ (W : World) (v : Value), RV W v true 1 1 → Calls Tryz.prog 24 #[v] W (SPost W r)) := fun W v h => by
          rw [HR.out]
          exact HMK.out true 1 (by rw [digs_one16]; decide) W v h
        have HWH : Hid (∀ (W : World) (v : Value), Nat16 W v 1 → Calls Tryz.prog 29 #[.bool true, v] W (RVPost W true 1 1)) := fun W v h => HWK.out true 1 W v h
        clear HMK HWK
        rcases hsm with ⟨hs1, hs2⟩ | ⟨hs1, hs2⟩
        all_goals
          rw [hs1, hs2] at HSM
          clear hs1 hs2
          have HBK := Lib.hid (blk_3 w 37 37 24 #[.bool true, .slice A1 n1 c1, .slice A2 n2 c2] #[.bool true, .slice A3 n3 c3, .slice A4 n4 c4] #[.bool false, .slice none 0 0, .slice none 0 0])
          have KA := Lib.hid HBK.out.1
          have KB := Lib.hid HBK.out.2.1
          have KC := Lib.hid HBK.out.2.2
          have HBE := Lib.hid (below_3 w (.cells #[.bool true, .slice A1 n1 c1, .slice A2 n2 c2] 37) (.cells #[.bool true, .slice A3 n3 c3, .slice A4 n4 c4] 37) (.cells #[.bool false, .slice none 0 0, .slice none 0 0] 24))
          have RA := Lib.hid (RA.out.to HBE.out)
          have RB := Lib.hid (RB.out.to HBE.out)
          clear HBK
          go_enter Tryz.func32, Tryz.ntmps32
          have ka0 := KA.out.cell 0
          have ka1 := KA.out.cell 1
          have ka2 := KA.out.cell 2
          have kb0 := KB.out.cell 0
          have kb1 := KB.out.cell 1
          have kb2 := KB.out.cell 2
          simp only [List.getElem?_toArray, List.getElem?_cons_zero, List.getElem?_cons_succ] at ka0 ka1 ka2 kb0 kb1 kb2
          go_wp2_with fail
          refine (HSM.out _ _ (by exact RB.out)).mono ?_
          rintro e w1 ⟨rfl, hb⟩
          clear ka0 ka1 ka2 kb0 kb1 kb2
          have KA := Lib.hid (KA.out.to hb)
          have KB := Lib.hid (KB.out.to hb)
          have KC := Lib.hid (KC.out.to hb)
          have RA := Lib.hid (RA.out.to hb)
          have RB := Lib.hid (RB.out.to hb)
          have HBE : Hid (Below w.heap.size w w1) := HBE.out.trans ((hb).mono HBE.out.size)
          clear hb
          have ka0 := KA.out.cell 0
          have ka1 := KA.out.cell 1
          have ka2 := KA.out.cell 2
          have kb0 := KB.out.cell 0
          have kb1 := KB.out.cell 1
          have kb2 := KB.out.cell 2
          simp only [List.getElem?_toArray, List.getElem?_cons_zero, List.getElem?_cons_succ] at ka0 ka1 ka2 kb0 kb1 kb2
          go_wp2_with fail
          refine (HWH.out _ _ (by exact one16' _ _ rfl)).mono ?_
          rintro e w2 ⟨v5, rfl, hr5, hb⟩
          clear ka0 ka1 ka2 kb0 kb1 kb2
          have hb : Below (w1).heap.size w1 w2 := (below_one w1 _).trans (hb.mono (below_one w1 _).size)
          have KA := Lib.hid (KA.out.to hb)
          have KB := Lib.hid (KB.out.to hb)
          have KC := Lib.hid (KC.out.to hb)
          have RA := Lib.hid (RA.out.to hb)
          have RB := Lib.hid (RB.out.to hb)
          have HBE : Hid (Below w.heap.size w w2) := HBE.out.trans ((hb).mono HBE.out.size)
          clear hb
          have R5 := Lib.hid hr5
          clear hr5
          go_wp2_with fail
          refine (HMD.out _ _ (by exact R5.out)).mono ?_
          rintro e w3 ⟨vz, rfl, hg, hb⟩
          have KA := Lib.hid (KA.out.to hb)
          have KB := Lib.hid (KB.out.to hb)
          have KC := Lib.hid (KC.out.to hb)
          have RA := Lib.hid (RA.out.to hb)
          have RB := Lib.hid (RB.out.to hb)
          have R5 := Lib.hid (R5.out.to hb)
          have HBE : Hid (Below w.heap.size w w3) := HBE.out.trans ((hb).mono HBE.out.size)
          clear hb
          obtain ⟨Az, nz, cz, Bz, mz, dz, rfl, hq1, hq2⟩ := hg.form
          have Gz := Lib.hid hg
          clear hq1 hq2 hg
          have kc0 := KC.out.cell 0
          have kc1 := KC.out.cell 1
          have kc2 := KC.out.cell 2
          simp only [List.getElem?_toArray, List.getElem?_cons_zero, List.getElem?_cons_succ] at kc0 kc1 kc2
          have fzkc0 := KC.out.frozen 0
          have fzkc1 := KC.out.frozen 1
          have fzkc2 := KC.out.frozen 2
          go_wp2_with fail
          refine bodyPost_ret (v := .tuple #[.agg #[.bool r.1.neg, .slice Az nz cz, .slice Bz mz dz], .int .i64 r.2]) (by rw [results_cell_tmp rfl]; go_simp) rfl ?_
          exact ⟨_, rfl, Gz.out.put3 KC.out _ _ _, put3_below HBE.out (by omega) _ _ _⟩
      | false =>
        have HMD : Hid (∀ (W : World) (v : Value), RV W v false 0 1 → Calls Tryz.prog 24 #[v] W (SPost W r)) := fun W v h => by
          rw [HR.out]
          exact HMK.out false 0 (by rw [digs_zero]; decide) W v h
        clear HMK HWK
        rcases hsm with ⟨hs1, hs2⟩ | ⟨hs1, hs2⟩
        all_goals
          rw [hs1, hs2] at HSM
          clear hs1 hs2
          have HBK := Lib.hid (blk_3 w 37 37 24 #[.bool false, .slice A1 n1 c1, .slice A2 n2 c2] #[.bool true, .slice A3 n3 c3, .slice A4 n4 c4] #[.bool false, .slice none 0 0, .slice none 0 0])
          have KA := Lib.hid HBK.out.1
          have KB := Lib.hid HBK.out.2.1
          have KC := Lib.hid HBK.out.2.2
          have HBE := Lib.hid (below_3 w (.cells #[.bool false, .slice A1 n1 c1, .slice A2 n2 c2] 37) (.cells #[.bool true, .slice A3 n3 c3, .slice A4 n4 c4] 37) (.cells #[.bool false, .slice none 0 0, .slice none 0 0] 24))
          have RA := Lib.hid (RA.out.to HBE.out)
          have RB := Lib.hid (RB.out.to HBE.out)
          clear HBK
          go_enter Tryz.func32, Tryz.ntmps32
          have ka0 := KA.out.cell 0
          have ka1 := KA.out.cell 1
          have ka2 := KA.out.cell 2
          have kb0 := KB.out.cell 0
          have kb1 := KB.out.cell 1
          have kb2 := KB.out.cell 2
          simp only [List.getElem?_toArray, List.getElem?_cons_zero, List.getElem?_cons_succ] at ka0 ka1 ka2 kb0 kb1 kb2
          go_wp2_with fail
          refine (HSM.out _ _ (by exact RB.out)).mono ?_
          rintro e w1 ⟨rfl, hb⟩
          clear ka0 ka1 ka2 kb0 kb1 kb2
          have KA := Lib.hid (KA.out.to hb)
          have KB := Lib.hid (KB.out.to hb)
          have KC := Lib.hid (KC.out.to hb)
          have RA := Lib.hid (RA.out.to hb)
          have RB := Lib.hid (RB.out.to hb)
          have HBE : Hid (Below w.heap.size w w1) := HBE.out.trans ((hb).mono HBE.out.size)
          clear hb
          have ka0 := KA.out.cell 0
          have ka1 := KA.out.cell 1
          have ka2 := KA.out.cell 2
          have kb0 := KB.out.cell 0
          have kb1 := KB.out.cell 1
          have kb2 := KB.out.cell 2
          simp only [List.getElem?_toArray, List.getElem?_cons_zero, List.getElem?_cons_succ] at ka0 ka1 ka2 kb0 kb1 kb2
          go_wp2_with fail
          refine (HMD.out _ _ (by exact ⟨_, _, rfl, nil16 _, one16' _ _ rfl⟩)).mono ?_
          rintro e w2 ⟨vz, rfl, hg, hb⟩
          clear ka0 ka1 ka2 kb0 kb1 kb2
          have hb : Below (w1).heap.size w1 w2 := (below_one w1 _).trans (hb.mono (below_one w1 _).size)
          have KA := Lib.hid (KA.out.to hb)
          have KB := Lib.hid (KB.out.to hb)
          have KC := Lib.hid (KC.out.to hb)
          have RA := Lib.hid (RA.out.to hb)
          have RB := Lib.hid (RB.out.to hb)
          have HBE : Hid (Below w.heap.size w w2) := HBE.out.trans ((hb).mono HBE.out.size)
          clear hb
          obtain ⟨Az, nz, cz, Bz, mz, dz, rfl, hq1, hq2⟩ := hg.form
          have Gz := Lib.hid hg
          clear hq1 hq2 hg
          have kc0 := KC.out.cell 0
          have kc1 := KC.out.cell 1
          have kc2 := KC.out.cell 2
          simp only [List.getElem?_toArray, List.getElem?_cons_zero, List.getElem?_cons_succ] at kc0 kc1 kc2
          have fzkc0 := KC.out.frozen 0
          have fzkc1 := KC.out.frozen 1
          have fzkc2 := KC.out.frozen 2
          go_wp2_with fail
          refine bodyPost_ret (v := .tuple #[.agg #[.bool r.1.neg, .slice Az nz cz, .slice Bz mz dz], .int .i64 r.2]) (by rw [results_cell_tmp rfl]; go_simp) rfl ?_
          exact ⟨_, rfl, Gz.out.put3 KC.out _ _ _, put3_below HBE.out (by omega) _ _ _⟩
    | false =>
      have HR := Lib.hid (shR_big (na := na) H0.out hy)
      generalize shR na x false y = r at *
      clear hy HMK HWK
      rcases hsm with ⟨hs1, hs2⟩ | ⟨hs1, hs2⟩
      all_goals
        rw [hs1, hs2] at HSM
        clear hs1 hs2
        have HBK := Lib.hid (blk_3 w 37 37 24 #[.bool na, .slice A1 n1 c1, .slice A2 n2 c2] #[.bool false, .slice A3 n3 c3, .slice A4 n4 c4] #[.bool false, .slice none 0 0, .slice none 0 0])
        have KA := Lib.hid HBK.out.1
        have KB := Lib.hid HBK.out.2.1
        have KC := Lib.hid HBK.out.2.2
        have HBE := Lib.hid (below_3 w (.cells #[.bool na, .slice A1 n1 c1, .slice A2 n2 c2] 37) (.cells #[.bool false, .slice A3 n3 c3, .slice A4 n4 c4] 37) (.cells #[.bool false, .slice none 0 0, .slice none 0 0] 24))
        have RA := Lib.hid (RA.out.to HBE.out)
        have RB := Lib.hid (RB.out.to HBE.out)
        clear HBK
        go_enter Tryz.func32, Tryz.ntmps32
        have ka0 := KA.out.cell 0
        have ka1 := KA.out.cell 1
        have ka2 := KA.out.cell 2
        have kb0 := KB.out.cell 0
        have kb1 := KB.out.cell 1
        have kb2 := KB.out.cell 2
        simp only [List.getElem?_toArray, List.getElem?_cons_zero, List.getElem?_cons_succ] at ka0 ka1 ka2 kb0 kb1 kb2
        go_wp2_with fail
        refine (HSM.out _ _ (by exact RB.out)).mono ?_
        rintro e w1 ⟨rfl, hb⟩
        clear ka0 ka1 ka2 kb0 kb1 kb2
        have KA := Lib.hid (KA.out.to hb)
        have KB := Lib.hid (KB.out.to hb)
        have KC := Lib.hid (KC.out.to hb)
        have RA := Lib.hid (RA.out.to hb)
        have RB := Lib.hid (RB.out.to hb)
        have HBE : Hid (Below w.heap.size w w1) := HBE.out.trans ((hb).mono HBE.out.size)
        clear hb
        have kb0 := KB.out.cell 0
        have kb1 := KB.out.cell 1
        have kb2 := KB.out.cell 2
        have kc0 := KC.out.cell 0
        have kc1 := KC.out.cell 1
        have kc2 := KC.out.cell 2
        simp only [List.getElem?_toArray, List.getElem?_cons_zero, List.getElem?_cons_succ] at kb0 kb1 kb2 kc0 kc1 kc2
        have fzkc0 := KC.out.frozen 0
        have fzkc1 := KC.out.frozen 1
        have fzkc2 := KC.out.frozen 2
        go_wp2_with fail
        refine bodyPost_ret (v := .tuple #[zeroNum, .int .i64 3]) (by rw [results_cell_tmp rfl]; go_simp; rfl) rfl ?_
        rw [HR.out]
        exact ⟨_, rfl, GV.zero _, put3_below HBE.out (by omega) _ _ _⟩
  · have hyl : y ≤ 4096 := by omega
    have hb20 : blen y ≤ 20 := blen_le (Nat.lt_of_le_of_lt hyl (by decide))
    have hs1 : smallB y = true := decide_eq_true hb20
    have hs2 : smallI y = (y : Int) := if_pos hb20
    rw [hs1, hs2] at HSM
    have hyi : ¬ (4096 : Int) < (y : Int) := by omega
    clear hs1 hs2 hb20 hy
    cases nb with
    | false =>
      have HR := Lib.hid (shR_left (na := na) (x := x) hyl)
      have HLN : Hid ((digs W16 (x * 2 ^ y)).length ≤ 10000) := Nat.le_trans (digs16_len_mul _ _) (by
        have h1 : (digs W16 (2 ^ y)).length ≤ 300 := pow_lenR (by omega)
        have := HX.out
        omega)
      have HMD : Hid (∀ (W : World) (v : Value), RV W v (na && decide (0 < x * 2 ^ y)) (x * 2 ^ y) 1 → Calls Tryz.prog 24 #[v] W (SPost W (shR na x false y))) := fun W v h => by
        rw [HR.out]
        exact HMK.out _ _ HLN.out W v h
      have HWH : Hid (∀ (W : World) (v : Value), Nat16 W v (x * 2 ^ y) → Calls Tryz.prog 29 #[.bool na, v] W (RVPost W (na && decide (0 < x * 2 ^ y)) (x * 2 ^ y) 1)) := fun W v h => HWK.out na _ W v h
      have HSL : Hid (∀ (W : World) (v : Value), Nat16 W v x → Calls Tryz.prog 61 #[v, .int .i64 (y : Int)] W (RPost W (x * 2 ^ y))) := fun W v h => rshl_any x y v W h (by have := HX.out; omega) (by omega)
      generalize shR na x false y = r at *
      generalize x * 2 ^ y = p at *
      clear HMK HWK HR HLN
      have HBK := Lib.hid (blk_3 w 37 37 24 #[.bool na, .slice A1 n1 c1, .slice A2 n2 c2] #[.bool false, .slice A3 n3 c3, .slice A4 n4 c4] #[.bool false, .slice none 0 0, .slice none 0 0])
      have KA := Lib.hid HBK.out.1
      have KB := Lib.hid HBK.out.2.1
      have KC := Lib.hid HBK.out.2.2
      have HBE := Lib.hid (below_3 w (.cells #[.bool na, .slice A1 n1 c1, .slice A2 n2 c2] 37) (.cells #[.bool false, .slice A3 n3 c3, .slice A4 n4 c4] 37) (.cells #[.bool false, .slice none 0 0, .slice none 0 0] 24))
      have RA := Lib.hid (RA.out.to HBE.out)
      have RB := Lib.hid (RB.out.to HBE.out)
      clear HBK
      go_enter Tryz.func32, Tryz.ntmps32
      have ka0 := KA.out.cell 0
      have ka1 := KA.out.cell 1
      have ka2 := KA.out.cell 2
      have kb0 := KB.out.cell 0
      have kb1 := KB.out.cell 1
      have kb2 := KB.out.cell 2
      simp only [List.getElem?_toArray, List.getElem?_cons_zero, List.getElem?_cons_succ] at ka0 ka1 ka2 kb0 kb1 kb2
      go_wp2_with fail
      refine (HSM.out _ _ (by exact RB.out)).mono ?_
      rintro e w1 ⟨rfl, hb⟩
      clear ka0 ka1 ka2 kb0 kb1 kb2
      have KA := Lib.hid (KA.out.to hb)
      have KB := Lib.hid (KB.out.to hb)
      have KC := Lib.hid (KC.out.to hb)
      have RA := Lib.hid (RA.out.to hb)
      have RB := Lib.hid (RB.out.to hb)
      have HBE : Hid (Below w.heap.size w w1) := HBE.out.trans ((hb).mono HBE.out.size)
      clear hb
      have ka0 := KA.out.cell 0
      have ka1 := KA.out.cell 1
      have ka2 := KA.out.cell 2
      have kb0 := KB.out.cell 0
      have kb1 := KB.out.cell 1
      have kb2 := KB.out.cell 2
      simp only [List.getElem?_toArray, List.getElem?_cons_zero, List.getElem?_cons_succ] at ka0 ka1 ka2 kb0 kb1 kb2
      have hlt := KA.out.lt
      have hlt2 := KC.out.lt
      have hne1 : (w.heap.size = w.heap.size + 1 + 1) = False := eq_false (by omega)
      have hne2 : (w.heap.size + 1 + 1 = w.heap.size) = False := eq_false (by omega)
      have RAD : Hid (Nat16 w1.drew (.slice A1 n1 c1) x) := (RA.out.to (w' := w1.drew) (Below.refl _ _).drew).parts.2.1
      have KCD := Lib.hid KC.out.drew
      have HBD : Hid (Below w.heap.size w w1.drew) := HBE.out.drew
      have HK : Hid (∀ W1 W' : World, Below W1.heap.size W1 W' → (W1.cell? ⟨w.heap.size, 0, none⟩ = some (.bool na) ∧ W1.cell? ⟨w.heap.size, 1, none⟩ = some (.slice A1 n1 c1) ∧ w.heap.size < W1.heap.size) → (W'.cell? ⟨w.heap.size, 0, none⟩ = some (.bool na) ∧ W'.cell? ⟨w.heap.size, 1, none⟩ = some (.slice A1 n1 c1) ∧ w.heap.size < W'.heap.size)) := fun W1 W' h1 ⟨a0, a1, a3⟩ => ⟨(h1.cell (p := ⟨w.heap.size, 0, none⟩) a3).trans a0, (h1.cell (p := ⟨w.heap.size, 1, none⟩) a3).trans a1, Nat.lt_of_lt_of_le a3 h1.size⟩
      go_wp2_with fail
      go_region_held3 (fun w' => w'.cell? ⟨w.heap.size, 0, none⟩ = some (.bool na) ∧ w'.cell? ⟨w.heap.size, 1, none⟩ = some (.slice A1 n1 c1) ∧ w.heap.size < w'.heap.size)
        (first | go_keep | (refine HK.out _ _ (by assumption) ?_; go_keep))
        (first
          | (go_at_call 61; ((with_reducible refine (HSL.out _ _ (by exact RAD.out)).mono ?_)); rintro e y1 ⟨v1, rfl, hn1, hb1⟩)
          | (go_at_call 29; ((with_reducible refine (HWH.out _ _ (by exact hn1)).mono ?_)); rintro e y2 ⟨v2, rfl, hr2, hb2⟩)
          | (go_at_call 24; ((with_reducible refine (HMD.out _ _ (by exact hr2)).mono ?_)); rintro e y3 ⟨v3, rfl, hg, hb3⟩; have hblk := ((KCD.out.to hb1).to hb2).to hb3; obtain ⟨C1, q1, r1, C2, q2, r2, rfl, hq1, hq2⟩ := hg.form; clear hq1 hq2; have cc0 := hblk.cell 0; have cc1 := hblk.cell 1; have cc2 := hblk.cell 2; simp only [List.getElem?_toArray, List.getElem?_cons_zero, List.getElem?_cons_succ] at cc0 cc1 cc2; have fc0 := hblk.frozen 0; have fc1 := hblk.frozen 1; have fc2 := hblk.frozen 2))
      all_goals
        go_wp2_with fail
        refine bodyPost_ret (v := .tuple #[.agg #[.bool r.1.neg, .slice C1 q1 r1, .slice C2 q2 r2], .int .i64 r.2]) (by rw [results_cell_tmp rfl]; go_simp) rfl ?_
        exact ⟨_, rfl, hg.put3 hblk _ _ _, put3_below (((HBD.out.trans (hb1.mono HBD.out.size)).trans (hb2.mono (Nat.le_trans HBD.out.size hb1.size))).trans (hb3.mono (Nat.le_trans (Nat.le_trans HBD.out.size hb1.size) hb2.size))) (by omega) _ _ _⟩
    | true =>
      have HR := Lib.hid (shR_right (na := na) (x := x) hyl)
      have HDL : Hid ((digs W16 (x / 2 ^ y)).length ≤ 256) := Nat.le_trans (digs_len_mono W16_gt (Nat.div_le_self _ _)) HX.out
      have HLN : Hid ((digs W16 (shrUp na x y)).length ≤ 10000) := Nat.le_trans (digs_len_mono W16_gt (shrUp_le _ _ _)) (Nat.le_trans (digs16_add HDL.out (by rw [digs_one16]; decide)) (by omega))
      have HMD : Hid (∀ (W : World) (v : Value), RV W v (na && decide (0 < shrUp na x y)) (shrUp na x y) 1 → Calls Tryz.prog 24 #[v] W (SPost W (shR na x true y))) := fun W v h => by
        rw [HR.out]
        exact HMK.out _ _ HLN.out W v h
      have HWH : Hid (∀ (W : World) (v : Value), Nat16 W v (shrUp na x y) → Calls Tryz.prog 29 #[.bool na, v] W (RVPost W (na && decide (0 < shrUp na x y)) (shrUp na x y) 1)) := fun W v h => HWK.out na _ W v h
      have HSR : Hid (∀ (W : World) (v : Value), Nat16 W v x → Calls Tryz.prog 63 #[v, .int .i64 (y : Int)] W (RShrPost W x y)) := fun W v h => rshr_any x y v W h HX.out (by omega)
      have HAD : Hid (∀ (W : World) (u v : Value), Nat16 W u (x / 2 ^ y) → Nat16 W v 1 → Calls Tryz.prog 57 #[u, v] W (RPost W (x / 2 ^ y + 1))) := fun W u v h1 h2 => radd_any _ 1 u v W h1 h2 (by have := HDL.out; omega) (by rw [digs_one16]; decide)
      have HSU : Hid ((exactB x y = true → shrUp na x y = x / 2 ^ y) ∧ (na = false → shrUp na x y = x / 2 ^ y) ∧ (na = true → exactB x y = false → shrUp na x y = x / 2 ^ y + 1)) := ⟨shrUp_ex, fun h => by rw [h]; exact shrUp_no, fun h1 h2 => by rw [h1]; exact shrUp_yes h2⟩
      unfold RShrPost at HSR
      generalize shR na x true y = r at *
      generalize shrUp na x y = su at *
      generalize x / 2 ^ y = sq at *
      generalize exactB x y = ex at *
      clear HMK HWK HR HLN HDL
      have hcc : (na = false ∨ (na = true ∧ ex = true)) ∨ (na = true ∧ ex = false) := by cases na <;> cases ex <;> simp
      rcases hcc with hcc | ⟨rfl, rfl⟩
      · have HSQ : Hid (sq = su) := by
          rcases hcc with h | ⟨h1, h2⟩
          · exact (HSU.out.2.1 h).symm
          · exact (HSU.out.1 h2).symm
        clear HSU HAD
        rcases hcc with rfl | ⟨rfl, rfl⟩
        · have HBK := Lib.hid (blk_3 w 37 37 24 #[.bool false, .slice A1 n1 c1, .slice A2 n2 c2] #[.bool true, .slice A3 n3 c3, .slice A4 n4 c4] #[.bool false, .slice none 0 0, .slice none 0 0])
          have KA := Lib.hid HBK.out.1
          have KB := Lib.hid HBK.out.2.1
          have KC := Lib.hid HBK.out.2.2
          have HBE := Lib.hid (below_3 w (.cells #[.bool false, .slice A1 n1 c1, .slice A2 n2 c2] 37) (.cells #[.bool true, .slice A3 n3 c3, .slice A4 n4 c4] 37) (.cells #[.bool false, .slice none 0 0, .slice none 0 0] 24))
          have RA := Lib.hid (RA.out.to HBE.out)
          have RB := Lib.hid (RB.out.to HBE.out)
          clear HBK
          go_enter Tryz.func32, Tryz.ntmps32
          have ka0 := KA.out.cell 0
          have ka1 := KA.out.cell 1
          have ka2 := KA.out.cell 2
          have kb0 := KB.out.cell 0
          have kb1 := KB.out.cell 1
          have kb2 := KB.out.cell 2
          simp only [List.getElem?_toArray, List.getElem?_cons_zero, List.getElem?_cons_succ] at ka0 ka1 ka2 kb0 kb1 kb2
          go_wp2_with fail
          refine (HSM.out _ _ (by exact RB.out)).mono ?_
          rintro e w1 ⟨rfl, hb⟩
          clear ka0 ka1 ka2 kb0 kb1 kb2
          have KA := Lib.hid (KA.out.to hb)
          have KB := Lib.hid (KB.out.to hb)
          have KC := Lib.hid (KC.out.to hb)
          have RA := Lib.hid (RA.out.to hb)
          have RB := Lib.hid (RB.out.to hb)
          have HBE : Hid (Below w.heap.size w w1) := HBE.out.trans ((hb).mono HBE.out.size)
          clear hb
          have ka0 := KA.out.cell 0
          have ka1 := KA.out.cell 1
          have ka2 := KA.out.cell 2
          have kb0 := KB.out.cell 0
          have kb1 := KB.out.cell 1
          have kb2 := KB.out.cell 2
          simp only [List.getElem?_toArray, List.getElem?_cons_zero, List.getElem?_cons_succ] at ka0 ka1 ka2 kb0 kb1 kb2
          go_wp2_with fail
          refine (HSR.out _ _ (by exact RA.out.parts.2.1)).mono ?_
          rintro e w2 ⟨v4, rfl, hn4, hb⟩
          clear ka0 ka1 ka2 kb0 kb1 kb2
          have KA := Lib.hid (KA.out.to hb)
          have KB := Lib.hid (KB.out.to hb)
          have KC := Lib.hid (KC.out.to hb)
          have RA := Lib.hid (RA.out.to hb)
          have RB := Lib.hid (RB.out.to hb)
          have HBE : Hid (Below w.heap.size w w2) := HBE.out.trans ((hb).mono HBE.out.size)
          clear hb
          rw [HSQ.out] at hn4
          have N4 := Lib.hid hn4
          clear hn4
          have ka0 := KA.out.cell 0
          have ka1 := KA.out.cell 1
          have ka2 := KA.out.cell 2
          have kb0 := KB.out.cell 0
          have kb1 := KB.out.cell 1
          have kb2 := KB.out.cell 2
          simp only [List.getElem?_toArray, List.getElem?_cons_zero, List.getElem?_cons_succ] at ka0 ka1 ka2 kb0 kb1 kb2
          go_wp2_with fail
          refine (HWH.out _ _ (by exact N4.out)).mono ?_
          rintro e w3 ⟨v5, rfl, hr5, hb⟩
          clear ka0 ka1 ka2 kb0 kb1 kb2
          have KA := Lib.hid (KA.out.to hb)
          have KB := Lib.hid (KB.out.to hb)
          have KC := Lib.hid (KC.out.to hb)
          have RA := Lib.hid (RA.out.to hb)
          have RB := Lib.hid (RB.out.to hb)
          have N4 := Lib.hid (N4.out.to hb)
          have HBE : Hid (Below w.heap.size w w3) := HBE.out.trans ((hb).mono HBE.out.size)
          clear hb
          have R5 := Lib.hid hr5
          clear hr5
          go_wp2_with fail
          refine (HMD.out _ _ (by exact R5.out)).mono ?_
          rintro e w4 ⟨vz, rfl, hg, hb⟩
          have KA := Lib.hid (KA.out.to hb)
          have KB := Lib.hid (KB.out.to hb)
          have KC := Lib.hid (KC.out.to hb)
          have RA := Lib.hid (RA.out.to hb)
          have RB := Lib.hid (RB.out.to hb)
          have N4 := Lib.hid (N4.out.to hb)
          have R5 := Lib.hid (R5.out.to hb)
          have HBE : Hid (Below w.heap.size w w4) := HBE.out.trans ((hb).mono HBE.out.size)
          clear hb
          obtain ⟨Az, nz, cz, Bz, mz, dz, rfl, hq1, hq2⟩ := hg.form
          have Gz := Lib.hid hg
          clear hq1 hq2 hg
          have kc0 := KC.out.cell 0
          have kc1 := KC.out.cell 1
          have kc2 := KC.out.cell 2
          simp only [List.getElem?_toArray, List.getElem?_cons_zero, List.getElem?_cons_succ] at kc0 kc1 kc2
          have fzkc0 := KC.out.frozen 0
          have fzkc1 := KC.out.frozen 1
          have fzkc2 := KC.out.frozen 2
          go_wp2_with fail
          refine bodyPost_ret (v := .tuple #[.agg #[.bool r.1.neg, .slice Az nz cz, .slice Bz mz dz], .int .i64 r.2]) (by rw [results_cell_tmp rfl]; go_simp) rfl ?_
          exact ⟨_, rfl, Gz.out.put3 KC.out _ _ _, put3_below HBE.out (by omega) _ _ _⟩
        · have HBK := Lib.hid (blk_3 w 37 37 24 #[.bool true, .slice A1 n1 c1, .slice A2 n2 c2] #[.bool true, .slice A3 n3 c3, .slice A4 n4 c4] #[.bool false, .slice none 0 0, .slice none 0 0])
          have KA := Lib.hid HBK.out.1
          have KB := Lib.hid HBK.out.2.1
          have KC := Lib.hid HBK.out.2.2
          have HBE := Lib.hid (below_3 w (.cells #[.bool true, .slice A1 n1 c1, .slice A2 n2 c2] 37) (.cells #[.bool true, .slice A3 n3 c3, .slice A4 n4 c4] 37) (.cells #[.bool false, .slice none 0 0, .slice none 0 0] 24))
          have RA := Lib.hid (RA.out.to HBE.out)
          have RB := Lib.hid (RB.out.to HBE.out)
          clear HBK
          go_enter Tryz.func32, Tryz.ntmps32
          have ka0 := KA.out.cell 0
          have ka1 := KA.out.cell 1
          have ka2 := KA.out.cell 2
          have kb0 := KB.out.cell 0
          have kb1 := KB.out.cell 1
          have kb2 := KB.out.cell 2
          simp only [List.getElem?_toArray, List.getElem?_cons_zero, List.getElem?_cons_succ] at ka0 ka1 ka2 kb0 kb1 kb2
          go_wp2_with fail
          refine (HSM.out _ _ (by exact RB.out)).mono ?_
          rintro e w1 ⟨rfl, hb⟩
          clear ka0 ka1 ka2 kb0 kb1 kb2
          have KA := Lib.hid (KA.out.to hb)
          have KB := Lib.hid (KB.out.to hb)
          have KC := Lib.hid (KC.out.to hb)
          have RA := Lib.hid (RA.out.to hb)
          have RB := Lib.hid (RB.out.to hb)
          have HBE : Hid (Below w.heap.size w w1) := HBE.out.trans ((hb).mono HBE.out.size)
          clear hb
          have ka0 := KA.out.cell 0
          have ka1 := KA.out.cell 1
          have ka2 := KA.out.cell 2
          have kb0 := KB.out.cell 0
          have kb1 := KB.out.cell 1
          have kb2 := KB.out.cell 2
          simp only [List.getElem?_toArray, List.getElem?_cons_zero, List.getElem?_cons_succ] at ka0 ka1 ka2 kb0 kb1 kb2
          go_wp2_with fail
          refine (HSR.out _ _ (by exact RA.out.parts.2.1)).mono ?_
          rintro e w2 ⟨v4, rfl, hn4, hb⟩
          clear ka0 ka1 ka2 kb0 kb1 kb2
          have KA := Lib.hid (KA.out.to hb)
          have KB := Lib.hid (KB.out.to hb)
          have KC := Lib.hid (KC.out.to hb)
          have RA := Lib.hid (RA.out.to hb)
          have RB := Lib.hid (RB.out.to hb)
          have HBE : Hid (Below w.heap.size w w2) := HBE.out.trans ((hb).mono HBE.out.size)
          clear hb
          rw [HSQ.out] at hn4
          have N4 := Lib.hid hn4
          clear hn4
          have ka0 := KA.out.cell 0
          have ka1 := KA.out.cell 1
          have ka2 := KA.out.cell 2
          have kb0 := KB.out.cell 0
          have kb1 := KB.out.cell 1
          have kb2 := KB.out.cell 2
          simp only [List.getElem?_toArray, List.getElem?_cons_zero, List.getElem?_cons_succ] at ka0 ka1 ka2 kb0 kb1 kb2
          go_wp2_with fail
          refine (HWH.out _ _ (by exact N4.out)).mono ?_
          rintro e w3 ⟨v5, rfl, hr5, hb⟩
          clear ka0 ka1 ka2 kb0 kb1 kb2
          have KA := Lib.hid (KA.out.to hb)
          have KB := Lib.hid (KB.out.to hb)
          have KC := Lib.hid (KC.out.to hb)
          have RA := Lib.hid (RA.out.to hb)
          have RB := Lib.hid (RB.out.to hb)
          have N4 := Lib.hid (N4.out.to hb)
          have HBE : Hid (Below w.heap.size w w3) := HBE.out.trans ((hb).mono HBE.out.size)
          clear hb
          have R5 := Lib.hid hr5
          clear hr5
          go_wp2_with fail
          refine (HMD.out _ _ (by exact R5.out)).mono ?_
          rintro e w4 ⟨vz, rfl, hg, hb⟩
          have KA := Lib.hid (KA.out.to hb)
          have KB := Lib.hid (KB.out.to hb)
          have KC := Lib.hid (KC.out.to hb)
          have RA := Lib.hid (RA.out.to hb)
          have RB := Lib.hid (RB.out.to hb)
          have N4 := Lib.hid (N4.out.to hb)
          have R5 := Lib.hid (R5.out.to hb)
          have HBE : Hid (Below w.heap.size w w4) := HBE.out.trans ((hb).mono HBE.out.size)
          clear hb
          obtain ⟨Az, nz, cz, Bz, mz, dz, rfl, hq1, hq2⟩ := hg.form
          have Gz := Lib.hid hg
          clear hq1 hq2 hg
          have kc0 := KC.out.cell 0
          have kc1 := KC.out.cell 1
          have kc2 := KC.out.cell 2
          simp only [List.getElem?_toArray, List.getElem?_cons_zero, List.getElem?_cons_succ] at kc0 kc1 kc2
          have fzkc0 := KC.out.frozen 0
          have fzkc1 := KC.out.frozen 1
          have fzkc2 := KC.out.frozen 2
          go_wp2_with fail
          refine bodyPost_ret (v := .tuple #[.agg #[.bool r.1.neg, .slice Az nz cz, .slice Bz mz dz], .int .i64 r.2]) (by rw [results_cell_tmp rfl]; go_simp) rfl ?_
          exact ⟨_, rfl, Gz.out.put3 KC.out _ _ _, put3_below HBE.out (by omega) _ _ _⟩
      · have HSQ := Lib.hid (HSU.out.2.2 rfl rfl)
        clear HSU
        have HBK := Lib.hid (blk_3 w 37 37 24 #[.bool true, .slice A1 n1 c1, .slice A2 n2 c2] #[.bool true, .slice A3 n3 c3, .slice A4 n4 c4] #[.bool false, .slice none 0 0, .slice none 0 0])
        have KA := Lib.hid HBK.out.1
        have KB := Lib.hid HBK.out.2.1
        have KC := Lib.hid HBK.out.2.2
        have HBE := Lib.hid (below_3 w (.cells #[.bool true, .slice A1 n1 c1, .slice A2 n2 c2] 37) (.cells #[.bool true, .slice A3 n3 c3, .slice A4 n4 c4] 37) (.cells #[.bool false, .slice none 0 0, .slice none 0 0] 24))
        have RA := Lib.hid (RA.out.to HBE.out)
        have RB := Lib.hid (RB.out.to HBE.out)
        clear HBK
        go_enter Tryz.func32, Tryz.ntmps32
        have ka0 := KA.out.cell 0
        have ka1 := KA.out.cell 1
        have ka2 := KA.out.cell 2
        have kb0 := KB.out.cell 0
        have kb1 := KB.out.cell 1
        have kb2 := KB.out.cell 2
        simp only [List.getElem?_toArray, List.getElem?_cons_zero, List.getElem?_cons_succ] at ka0 ka1 ka2 kb0 kb1 kb2
        go_wp2_with fail
        refine (HSM.out _ _ (by exact RB.out)).mono ?_
        rintro e w1 ⟨rfl, hb⟩
        clear ka0 ka1 ka2 kb0 kb1 kb2
        have KA := Lib.hid (KA.out.to hb)
        have KB := Lib.hid (KB.out.to hb)
        have KC := Lib.hid (KC.out.to hb)
        have RA := Lib.hid (RA.out.to hb)
        have RB := Lib.hid (RB.out.to hb)
        have HBE : Hid (Below w.heap.size w w1) := HBE.out.trans ((hb).mono HBE.out.size)
        clear hb
        have ka0 := KA.out.cell 0
        have ka1 := KA.out.cell 1
        have ka2 := KA.out.cell 2
        have kb0 := KB.out.cell 0
        have kb1 := KB.out.cell 1
        have kb2 := KB.out.cell 2
        simp only [List.getElem?_toArray, List.getElem?_cons_zero, List.getElem?_cons_succ] at ka0 ka1 ka2 kb0 kb1 kb2
        go_wp2_with fail
        refine (HSR.out _ _ (by exact RA.out.parts.2.1)).mono ?_
        rintro e w2 ⟨v4, rfl, hn4, hb⟩
        clear ka0 ka1 ka2 kb0 kb1 kb2
        have KA := Lib.hid (KA.out.to hb)
        have KB := Lib.hid (KB.out.to hb)
        have KC := Lib.hid (KC.out.to hb)
        have RA := Lib.hid (RA.out.to hb)
        have RB := Lib.hid (RB.out.to hb)
        have HBE : Hid (Below w.heap.size w w2) := HBE.out.trans ((hb).mono HBE.out.size)
        clear hb
        have N4 := Lib.hid hn4
        clear hn4
        have ka0 := KA.out.cell 0
        have ka1 := KA.out.cell 1
        have ka2 := KA.out.cell 2
        have kb0 := KB.out.cell 0
        have kb1 := KB.out.cell 1
        have kb2 := KB.out.cell 2
        simp only [List.getElem?_toArray, List.getElem?_cons_zero, List.getElem?_cons_succ] at ka0 ka1 ka2 kb0 kb1 kb2
        go_wp2_with fail
        refine (HAD.out _ _ _ (by exact N4.out.to (below_one _ _)) (by exact one16' _ _ rfl)).mono ?_
        rintro e w3 ⟨v5, rfl, hn5, hb⟩
        clear ka0 ka1 ka2 kb0 kb1 kb2
        have hb : Below (w2).heap.size w2 w3 := (below_one w2 _).trans (hb.mono (below_one w2 _).size)
        have KA := Lib.hid (KA.out.to hb)
        have KB := Lib.hid (KB.out.to hb)
        have KC := Lib.hid (KC.out.to hb)
        have RA := Lib.hid (RA.out.to hb)
        have RB := Lib.hid (RB.out.to hb)
        have N4 := Lib.hid (N4.out.to hb)
        have HBE : Hid (Below w.heap.size w w3) := HBE.out.trans ((hb).mono HBE.out.size)
        clear hb
        rw [← HSQ.out] at hn5
        have N5 := Lib.hid hn5
        clear hn5
        have ka0 := KA.out.cell 0
        have ka1 := KA.out.cell 1
        have ka2 := KA.out.cell 2
        have kb0 := KB.out.cell 0
        have kb1 := KB.out.cell 1
        have kb2 := KB.out.cell 2
        simp only [List.getElem?_toArray, List.getElem?_cons_zero, List.getElem?_cons_succ] at ka0 ka1 ka2 kb0 kb1 kb2
        go_wp2_with fail
        refine (HWH.out _ _ (by exact N5.out)).mono ?_
        rintro e w4 ⟨v6, rfl, hr6, hb⟩
        clear ka0 ka1 ka2 kb0 kb1 kb2
        have KA := Lib.hid (KA.out.to hb)
        have KB := Lib.hid (KB.out.to hb)
        have KC := Lib.hid (KC.out.to hb)
        have RA := Lib.hid (RA.out.to hb)
        have RB := Lib.hid (RB.out.to hb)
        have N4 := Lib.hid (N4.out.to hb)
        have N5 := Lib.hid (N5.out.to hb)
        have HBE : Hid (Below w.heap.size w w4) := HBE.out.trans ((hb).mono HBE.out.size)
        clear hb
        have R6 := Lib.hid hr6
        clear hr6
        go_wp2_with fail
        refine (HMD.out _ _ (by exact R6.out)).mono ?_
        rintro e w5 ⟨vz, rfl, hg, hb⟩
        have KA := Lib.hid (KA.out.to hb)
        have KB := Lib.hid (KB.out.to hb)
        have KC := Lib.hid (KC.out.to hb)
        have RA := Lib.hid (RA.out.to hb)
        have RB := Lib.hid (RB.out.to hb)
        have N4 := Lib.hid (N4.out.to hb)
        have N5 := Lib.hid (N5.out.to hb)
        have R6 := Lib.hid (R6.out.to hb)
        have HBE : Hid (Below w.heap.size w w5) := HBE.out.trans ((hb).mono HBE.out.size)
        clear hb
        obtain ⟨Az, nz, cz, Bz, mz, dz, rfl, hq1, hq2⟩ := hg.form
        have Gz := Lib.hid hg
        clear hq1 hq2 hg
        have kc0 := KC.out.cell 0
        have kc1 := KC.out.cell 1
        have kc2 := KC.out.cell 2
        simp only [List.getElem?_toArray, List.getElem?_cons_zero, List.getElem?_cons_succ] at kc0 kc1 kc2
        have fzkc0 := KC.out.frozen 0
        have fzkc1 := KC.out.frozen 1
        have fzkc2 := KC.out.frozen 2
        go_wp2_with fail
        refine bodyPost_ret (v := .tuple #[.agg #[.bool r.1.neg, .slice Az nz cz, .slice Bz mz dz], .int .i64 r.2]) (by rw [results_cell_tmp rfl]; go_simp) rfl ?_
        exact ⟨_, rfl, Gz.out.put3 KC.out _ _ _, put3_below HBE.out (by omega) _ _ _⟩
end Go.Proofs.YtdfcpkjphdepcaaGreatDoor

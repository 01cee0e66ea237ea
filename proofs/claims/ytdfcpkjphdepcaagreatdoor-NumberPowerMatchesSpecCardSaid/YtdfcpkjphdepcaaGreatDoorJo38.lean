/- fetterlockref1.power. Conditions: at most 256 digits; an integer exponent; 0 to no negative power. -/
import Derived.Deep.DrawnRows
import Derived.Deep.DeepCutAuto
import Derived.Test.YtdfcpkjphdepcaaGreatDoorJo13
import Derived.Test.YtdfcpkjphdepcaaGreatDoorJo26
import Derived.Test.YtdfcpkjphdepcaaGreatDoorJo27
import Derived.Test.YtdfcpkjphdepcaaGreatDoorJo31
import Derived.Test.YtdfcpkjphdepcaaGreatDoorJo32
import Derived.Test.YtdfcpkjphdepcaaGreatDoorJo33
import Derived.Test.YtdfcpkjphdepcaaGreatDoorJo34
import Derived.Test.YtdfcpkjphdepcaaGreatDoorJo36
import Derived.Test.YtdfcpkjphdepcaaGreatDoorJo37
set_option linter.unusedVariables false
set_option linter.unusedSimpArgs false
namespace Go.Proofs.YtdfcpkjphdepcaaGreatDoor
open Go.RowKit NumB
set_option linter.unusedVariables false
set_option linter.unusedSimpArgs false

/-- What power answers. -/
def powR (na : Bool) (p q : Nat) (nb : Bool) (n : Nat) : LN × Int := if n = 0 then opS 0 false 1 1 else if p = 0 ∨ (p = 1 ∧ q = 1) then opS 0 (na && oddB n) p q else if 4096 < n then (zeroL, 3) else if powOk p n && powOk q n then opS 0 (na && oddB n) (if nb then q ^ n else p ^ n) (if nb then p ^ n else q ^ n) else (zeroL, 3)
theorem blen_m {x m : Nat} : blen x ≤ 32 * m ↔ (digs W32 x).length ≤ m := by
  constructor
  · intro h
    refine digs_len_le W32_gt (Nat.lt_of_lt_of_le (blen_lt x) ?_)
    rw [show W32 = 2 ^ 32 from rfl, ← Nat.pow_mul]
    exact Nat.pow_le_pow_right (by decide) h
  · intro h; exact blen_digs32 h
theorem blen_128 {x : Nat} : blen x ≤ 32 * 128 ↔ (digs W32 x).length ≤ 128 := blen_m
theorem digs_of_blen {x m : Nat} (h : blen x ≤ 16 * m) : (digs W16 x).length ≤ m := by
  refine digs_len_le W16_gt (Nat.lt_of_lt_of_le (blen_lt x) ?_)
  rw [show W16 = 2 ^ 16 from rfl, ← Nat.pow_mul]
  exact Nat.pow_le_pow_right (by decide) h
theorem odd_next (na : Bool) (k : Nat) : (na != (na && oddB k)) = (na && oddB (k + 1)) := by
  unfold oddB
  rcases Nat.mod_two_eq_zero_or_one k with h | h
  · rw [h, show (k + 1) % 2 = 1 from by omega]; cases na <;> rfl
  · rw [h, show (k + 1) % 2 = 0 from by omega]; cases na <;> rfl
/-- Memory made since. -/
def Since (W0 W : World) : Prop := Below W0.heap.size W0 W
theorem Since.to {W0 W W' : World} (h : Since W0 W) (hb : Below W.heap.size W W') : Since W0 W' := Below.trans h (hb.mono (Below.size h))
theorem dep_of {md : Region.Mode} {es : Array Edge} {L : Nat → Bool} (h : ∀ e ∈ es, Region.binds md e = true → L e.on = true) {i : Nat} (hi : (es.toList.any fun e => Region.binds md e && (e.on == i)) = true) : L i = true := by
  obtain ⟨e, he, hb⟩ := List.any_eq_true.1 hi
  simp only [Bool.and_eq_true, beq_iff_eq] at hb
  have := h e (Array.mem_def.2 he) hb.1
  rw [hb.2] at this
  exact this
theorem step_on {c : Prop} [Decidable c] {A B : Prop} (hc : c) (h : A) : if c then A else B := by rw [if_pos hc]; exact h
theorem Steps.gen5 {P : Program} {ops : Array Oper} {md : Region.Mode} {Q : Exit → Act → World → Prop} {Inv : (Nat → Bool) → Act → World → Prop} {rs : List Nat} (h : ∀ Q, Steps P md ops Q Inv rs) : Steps P md ops Q Inv rs := h Q

set_option maxRecDepth 1000000 in
set_option maxHeartbeats 51200000 in
theorem rpower_any (na nb : Bool) (p q n : Nat) (va vb : Value) (w : World) (ha : RV w va na p q) (hb : RV w vb nb n 1) (hp : (digs W16 p).length ≤ 256) (hq : (digs W16 q).length ≤ 256) (hn : (digs W16 n).length ≤ 256) (hq0 : 0 < q) (hz : p = 0 → na = false) :
    Calls Tryz.prog 31 #[va, vb] w (SPost w (powR na p q nb n)) := by
  have RA := Lib.hid ha
  have RB := Lib.hid hb
  obtain ⟨A1, n1, c1, A2, n2, c2, rfl, hz1, hz2⟩ := ha.form
  obtain ⟨A3, n3, c3, A4, n4, c4, rfl, hz3, hz4⟩ := hb.form
  have HN1 : Hid (n1 = (digs W16 p).length) := hz1
  have HN3 : Hid (n3 = (digs W16 n).length) := hz3
  have HL : Hid (((digs W16 p).length ≤ 256 ∧ (digs W16 q).length ≤ 256) ∧ (digs W16 n).length ≤ 256) := ⟨⟨hp, hq⟩, hn⟩
  have HQ0 := Lib.hid hq0
  have HMK : Hid (∀ (s : Bool) (n m : Nat), (digs W16 n).length ≤ 10000 → (digs W16 m).length ≤ 10000 → ∀ (W : World) (v : Value), RV W v s n m → Calls Tryz.prog 24 #[v] W (SPost W (opS 0 s n m))) := fun s n m h1 h2 W v h => rmade_S s n m v W h (by omega) (by omega)
  have HWH : Hid (∀ (W : World) (v : Value), Nat16 W v 1 → Calls Tryz.prog 29 #[.bool false, v] W (RVPost W false 1 1)) := fun W v h => rwhole_any false 1 v W h
  clear ha hb hz1 hz2 hz3 hz4 hp hq hn hq0
  rcases Nat.eq_zero_or_pos n with h0 | h0
  · subst h0
    obtain rfl : n3 = 0 := by rw [HN3.out, digs_zero]; rfl
    have HMD : Hid (∀ (W : World) (v : Value), RV W v false 1 1 → Calls Tryz.prog 24 #[v] W (SPost W (powR na p q nb 0))) := fun W v h => HMK.out false 1 1 (by rw [digs_one16]; decide) (by rw [digs_one16]; decide) W v h
    generalize powR na p q nb 0 = r at *
    clear hz HMK
    have HBK := Lib.hid (blk_3 w 37 37 24 #[.bool na, .slice A1 n1 c1, .slice A2 n2 c2] #[.bool nb, .slice A3 0 c3, .slice A4 n4 c4] #[.bool false, .slice none 0 0, .slice none 0 0])
    have KA := Lib.hid HBK.out.1
    have KB := Lib.hid HBK.out.2.1
    have KC := Lib.hid HBK.out.2.2
    have HBE := Lib.hid (below_3 w (.cells #[.bool na, .slice A1 n1 c1, .slice A2 n2 c2] 37) (.cells #[.bool nb, .slice A3 0 c3, .slice A4 n4 c4] 37) (.cells #[.bool false, .slice none 0 0, .slice none 0 0] 24))
    replace RA := Lib.hid (RA.out.to HBE.out)
    replace RB := Lib.hid (RB.out.to HBE.out)
    clear HBK
    go_enter Tryz.func31, Tryz.ntmps31
    go_wp2_with fail
    refine (HWH.out _ _ (by exact one16' _ _ (by simp))).mono ?_
    rintro e w1 ⟨v, rfl, hr, hb⟩
    have hb : Below ((((w.alloc (.cells #[.bool na, .slice A1 n1 c1, .slice A2 n2 c2] 37)).alloc (.cells #[.bool nb, .slice A3 0 c3, .slice A4 n4 c4] 37)).alloc (.cells #[.bool false, .slice none 0 0, .slice none 0 0] 24))).heap.size (((w.alloc (.cells #[.bool na, .slice A1 n1 c1, .slice A2 n2 c2] 37)).alloc (.cells #[.bool nb, .slice A3 0 c3, .slice A4 n4 c4] 37)).alloc (.cells #[.bool false, .slice none 0 0, .slice none 0 0] 24)) w1 := (below_one (((w.alloc (.cells #[.bool na, .slice A1 n1 c1, .slice A2 n2 c2] 37)).alloc (.cells #[.bool nb, .slice A3 0 c3, .slice A4 n4 c4] 37)).alloc (.cells #[.bool false, .slice none 0 0, .slice none 0 0] 24)) _).trans (hb.mono (below_one (((w.alloc (.cells #[.bool na, .slice A1 n1 c1, .slice A2 n2 c2] 37)).alloc (.cells #[.bool nb, .slice A3 0 c3, .slice A4 n4 c4] 37)).alloc (.cells #[.bool false, .slice none 0 0, .slice none 0 0] 24)) _).size)
    replace KA := Lib.hid (KA.out.to hb)
    replace KB := Lib.hid (KB.out.to hb)
    replace KC := Lib.hid (KC.out.to hb)
    replace RA := Lib.hid (RA.out.to hb)
    replace RB := Lib.hid (RB.out.to hb)
    replace HBE : Hid (Below w.heap.size w w1) := HBE.out.trans ((hb).mono HBE.out.size)
    clear hb
    obtain ⟨Au, nu, cu, Bu, mu, du, rfl, hq1, hq2⟩ := hr.form
    have Gu := Lib.hid hr
    clear hq1 hq2 hr
    have ltKAKO := KA.out.lt
    have ltKBKO := KB.out.lt
    have ltKCKO := KC.out.lt
    have KON := Lib.hid (Blk.new w1 37 #[.bool false, .slice Au nu cu, .slice Bu mu du])
    replace KA := Lib.hid (KA.out.to (below_one w1 (.cells #[.bool false, .slice Au nu cu, .slice Bu mu du] 37)))
    replace KB := Lib.hid (KB.out.to (below_one w1 (.cells #[.bool false, .slice Au nu cu, .slice Bu mu du] 37)))
    replace KC := Lib.hid (KC.out.to (below_one w1 (.cells #[.bool false, .slice Au nu cu, .slice Bu mu du] 37)))
    replace RA := Lib.hid (RA.out.to (below_one w1 (.cells #[.bool false, .slice Au nu cu, .slice Bu mu du] 37)))
    replace RB := Lib.hid (RB.out.to (below_one w1 (.cells #[.bool false, .slice Au nu cu, .slice Bu mu du] 37)))
    replace Gu := Lib.hid (Gu.out.to (below_one w1 (.cells #[.bool false, .slice Au nu cu, .slice Bu mu du] 37)))
    replace HBE : Hid (Below w.heap.size w (w1.alloc (.cells #[.bool false, .slice Au nu cu, .slice Bu mu du] 37))) := HBE.out.trans (((below_one w1 (.cells #[.bool false, .slice Au nu cu, .slice Bu mu du] 37))).mono HBE.out.size)
    have KO := KON
    clear KON
    have neKAKO : (w.heap.size = w1.heap.size) = False := eq_false (by omega)
    have neKOKA : (w1.heap.size = w.heap.size) = False := eq_false (by omega)
    have neKBKO : (w.heap.size + 1 = w1.heap.size) = False := eq_false (by omega)
    have neKOKB : (w1.heap.size = w.heap.size + 1) = False := eq_false (by omega)
    have neKCKO : (w.heap.size + 1 + 1 = w1.heap.size) = False := eq_false (by omega)
    have neKOKC : (w1.heap.size = w.heap.size + 1 + 1) = False := eq_false (by omega)
    have ka0 := KA.out.cell 0
    have ka1 := KA.out.cell 1
    have ka2 := KA.out.cell 2
    have kb0 := KB.out.cell 0
    have kb1 := KB.out.cell 1
    have kb2 := KB.out.cell 2
    have ko0 := KO.out.cell 0
    have ko1 := KO.out.cell 1
    have ko2 := KO.out.cell 2
    simp only [List.getElem?_toArray, List.getElem?_cons_zero, List.getElem?_cons_succ] at ka0 ka1 ka2 kb0 kb1 kb2 ko0 ko1 ko2
    go_wp2_with fail
    refine (HMD.out _ _ (by exact Gu.out)).mono ?_
    rintro e w2 ⟨v, rfl, hg, hb⟩
    clear ka0 ka1 ka2 kb0 kb1 kb2 ko0 ko1 ko2
    replace KA := Lib.hid (KA.out.to hb)
    replace KB := Lib.hid (KB.out.to hb)
    replace KC := Lib.hid (KC.out.to hb)
    replace KO := Lib.hid (KO.out.to hb)
    replace RA := Lib.hid (RA.out.to hb)
    replace RB := Lib.hid (RB.out.to hb)
    replace Gu := Lib.hid (Gu.out.to hb)
    replace HBE : Hid (Below w.heap.size w w2) := HBE.out.trans ((hb).mono HBE.out.size)
    clear hb
    obtain ⟨Az, nz, cz, Bz, mz, dz, rfl, hq1, hq2⟩ := hg.form
    have Gz := Lib.hid hg
    clear hq1 hq2 hg
    have kc0 := KC.out.cell 0
    have kc1 := KC.out.cell 1
    have kc2 := KC.out.cell 2
    simp only [List.getElem?_toArray, List.getElem?_cons_zero, List.getElem?_cons_succ] at kc0 kc1 kc2
    have fzkc0 := KC.out.frozen 0
    have fzkc1 := KC.out.frozen 1
    have fzkc2 := KC.out.frozen 2
    go_wp2_with fail
    refine bodyPost_ret (v := .tuple #[.agg #[.bool r.1.neg, .slice Az nz cz, .slice Bz mz dz], .int .i64 r.2]) (by rw [results_cell_tmp rfl]; go_simp) rfl ?_
    exact ⟨_, rfl, Gz.out.put3 KC.out _ _ _, put3_below HBE.out (by omega) _ _ _⟩
  have hn3 : 0 < n3 := (len_pos16 HN3.out).2 h0
  have hn30 : ((n3 : Int) == 0) = false := beq_eq_false_iff_ne.2 (by omega)
  have hne0 : n ≠ 0 := by omega
  rcases Nat.eq_zero_or_pos p with hp0 | hp0
  · subst hp0
    obtain rfl := hz rfl
    obtain rfl : n1 = 0 := by rw [HN1.out, digs_zero]; rfl
    have HMD : Hid (∀ (W : World) (v : Value), RV W v false 0 q → Calls Tryz.prog 24 #[v] W (SPost W (powR false 0 q nb n))) := fun W v h => by
      have e : powR false 0 q nb n = opS 0 false 0 q := by unfold powR; rw [if_neg hne0, if_pos (Or.inl rfl)]; rfl
      rw [e]
      exact HMK.out false 0 q (by rw [digs_zero]; decide) (by have := HL.out; omega) W v h
    generalize powR false 0 q nb n = r at *
    clear hz HMK h0 hn3 hne0
    have HBK := Lib.hid (blk_3 w 37 37 24 #[.bool false, .slice A1 0 c1, .slice A2 n2 c2] #[.bool nb, .slice A3 n3 c3, .slice A4 n4 c4] #[.bool false, .slice none 0 0, .slice none 0 0])
    have KA := Lib.hid HBK.out.1
    have KB := Lib.hid HBK.out.2.1
    have KC := Lib.hid HBK.out.2.2
    have HBE := Lib.hid (below_3 w (.cells #[.bool false, .slice A1 0 c1, .slice A2 n2 c2] 37) (.cells #[.bool nb, .slice A3 n3 c3, .slice A4 n4 c4] 37) (.cells #[.bool false, .slice none 0 0, .slice none 0 0] 24))
    replace RA := Lib.hid (RA.out.to HBE.out)
    replace RB := Lib.hid (RB.out.to HBE.out)
    clear HBK
    go_enter Tryz.func31, Tryz.ntmps31
    go_wp2_with fail
    refine (HWH.out _ _ (by exact one16' _ _ (by simp))).mono ?_
    rintro e w1 ⟨v, rfl, hr, hb⟩
    have hb : Below ((((w.alloc (.cells #[.bool false, .slice A1 0 c1, .slice A2 n2 c2] 37)).alloc (.cells #[.bool nb, .slice A3 n3 c3, .slice A4 n4 c4] 37)).alloc (.cells #[.bool false, .slice none 0 0, .slice none 0 0] 24))).heap.size (((w.alloc (.cells #[.bool false, .slice A1 0 c1, .slice A2 n2 c2] 37)).alloc (.cells #[.bool nb, .slice A3 n3 c3, .slice A4 n4 c4] 37)).alloc (.cells #[.bool false, .slice none 0 0, .slice none 0 0] 24)) w1 := (below_one (((w.alloc (.cells #[.bool false, .slice A1 0 c1, .slice A2 n2 c2] 37)).alloc (.cells #[.bool nb, .slice A3 n3 c3, .slice A4 n4 c4] 37)).alloc (.cells #[.bool false, .slice none 0 0, .slice none 0 0] 24)) _).trans (hb.mono (below_one (((w.alloc (.cells #[.bool false, .slice A1 0 c1, .slice A2 n2 c2] 37)).alloc (.cells #[.bool nb, .slice A3 n3 c3, .slice A4 n4 c4] 37)).alloc (.cells #[.bool false, .slice none 0 0, .slice none 0 0] 24)) _).size)
    replace KA := Lib.hid (KA.out.to hb)
    replace KB := Lib.hid (KB.out.to hb)
    replace KC := Lib.hid (KC.out.to hb)
    replace RA := Lib.hid (RA.out.to hb)
    replace RB := Lib.hid (RB.out.to hb)
    replace HBE : Hid (Below w.heap.size w w1) := HBE.out.trans ((hb).mono HBE.out.size)
    clear hb
    obtain ⟨Au, nu, cu, Bu, mu, du, rfl, hq1, hq2⟩ := hr.form
    have Gu := Lib.hid hr
    clear hq1 hq2 hr
    have ltKAKO := KA.out.lt
    have ltKBKO := KB.out.lt
    have ltKCKO := KC.out.lt
    have KON := Lib.hid (Blk.new w1 37 #[.bool false, .slice Au nu cu, .slice Bu mu du])
    replace KA := Lib.hid (KA.out.to (below_one w1 (.cells #[.bool false, .slice Au nu cu, .slice Bu mu du] 37)))
    replace KB := Lib.hid (KB.out.to (below_one w1 (.cells #[.bool false, .slice Au nu cu, .slice Bu mu du] 37)))
    replace KC := Lib.hid (KC.out.to (below_one w1 (.cells #[.bool false, .slice Au nu cu, .slice Bu mu du] 37)))
    replace RA := Lib.hid (RA.out.to (below_one w1 (.cells #[.bool false, .slice Au nu cu, .slice Bu mu du] 37)))
    replace RB := Lib.hid (RB.out.to (below_one w1 (.cells #[.bool false, .slice Au nu cu, .slice Bu mu du] 37)))
    replace Gu := Lib.hid (Gu.out.to (below_one w1 (.cells #[.bool false, .slice Au nu cu, .slice Bu mu du] 37)))
    replace HBE : Hid (Below w.heap.size w (w1.alloc (.cells #[.bool false, .slice Au nu cu, .slice Bu mu du] 37))) := HBE.out.trans (((below_one w1 (.cells #[.bool false, .slice Au nu cu, .slice Bu mu du] 37))).mono HBE.out.size)
    have KO := KON
    clear KON
    have neKAKO : (w.heap.size = w1.heap.size) = False := eq_false (by omega)
    have neKOKA : (w1.heap.size = w.heap.size) = False := eq_false (by omega)
    have neKBKO : (w.heap.size + 1 = w1.heap.size) = False := eq_false (by omega)
    have neKOKB : (w1.heap.size = w.heap.size + 1) = False := eq_false (by omega)
    have neKCKO : (w.heap.size + 1 + 1 = w1.heap.size) = False := eq_false (by omega)
    have neKOKC : (w1.heap.size = w.heap.size + 1 + 1) = False := eq_false (by omega)
    have ka0 := KA.out.cell 0
    have ka1 := KA.out.cell 1
    have ka2 := KA.out.cell 2
    have kb0 := KB.out.cell 0
    have kb1 := KB.out.cell 1
    have kb2 := KB.out.cell 2
    have ko0 := KO.out.cell 0
    have ko1 := KO.out.cell 1
    have ko2 := KO.out.cell 2
    simp only [List.getElem?_toArray, List.getElem?_cons_zero, List.getElem?_cons_succ] at ka0 ka1 ka2 kb0 kb1 kb2 ko0 ko1 ko2
    go_wp2_with fail
    refine (HMD.out _ _ (by exact RA.out)).mono ?_
    rintro e w2 ⟨v, rfl, hg, hb⟩
    clear ka0 ka1 ka2 kb0 kb1 kb2 ko0 ko1 ko2
    replace KA := Lib.hid (KA.out.to hb)
    replace KB := Lib.hid (KB.out.to hb)
    replace KC := Lib.hid (KC.out.to hb)
    replace KO := Lib.hid (KO.out.to hb)
    replace RA := Lib.hid (RA.out.to hb)
    replace RB := Lib.hid (RB.out.to hb)
    replace Gu := Lib.hid (Gu.out.to hb)
    replace HBE : Hid (Below w.heap.size w w2) := HBE.out.trans ((hb).mono HBE.out.size)
    clear hb
    obtain ⟨Az, nz, cz, Bz, mz, dz, rfl, hq1, hq2⟩ := hg.form
    have Gz := Lib.hid hg
    clear hq1 hq2 hg
    have kc0 := KC.out.cell 0
    have kc1 := KC.out.cell 1
    have kc2 := KC.out.cell 2
    simp only [List.getElem?_toArray, List.getElem?_cons_zero, List.getElem?_cons_succ] at kc0 kc1 kc2
    have fzkc0 := KC.out.frozen 0
    have fzkc1 := KC.out.frozen 1
    have fzkc2 := KC.out.frozen 2
    go_wp2_with fail
    refine bodyPost_ret (v := .tuple #[.agg #[.bool r.1.neg, .slice Az nz cz, .slice Bz mz dz], .int .i64 r.2]) (by rw [results_cell_tmp rfl]; go_simp) rfl ?_
    exact ⟨_, rfl, Gz.out.put3 KC.out _ _ _, put3_below HBE.out (by omega) _ _ _⟩
  have hn1 : 0 < n1 := (len_pos16 HN1.out).2 hp0
  have hn10 : ((n1 : Int) == 0) = false := beq_eq_false_iff_ne.2 (by omega)
  have HP0 := Lib.hid hp0
  have HCM : Hid (∀ (W : World) (u v : Value), Nat16 W u p → Nat16 W v 1 → Calls Tryz.prog 39 #[u, v] W fun e w' => e = .returned (.int .i64 (cmpI p 1)) ∧ Below W.heap.size W w') := fun W u v h1 h2 => (rcmp_any p 1 u v W h1 h2 (by have := HL.out; omega) (by rw [digs_one16]; decide)).mono fun e w' ⟨h1, h2⟩ => ⟨h1, h2 ▸ Below.refl _ _⟩
  have HII : Hid (∀ (W : World) (v : Value), RV W v na p q → Calls Tryz.prog 11 #[v] W fun e w' => e = .returned (.bool (cmpI q 1 == 0)) ∧ Below W.heap.size W w') := fun W v h => risInt_any na p q v W h (by have := HL.out; omega)
  by_cases hone : p = 1 ∧ q = 1
  · have hc1 : cmpI p 1 = 0 := cmpI_eq hone.1
    rw [hc1] at HCM
    rw [cmpI_one_true hone.2] at HII
    have HRE : Hid (powR na p q nb n = opS 0 (na && oddB n) 1 1) := by unfold Hid powR; rw [if_neg hne0, if_pos (Or.inr hone), hone.1, hone.2]
    have HM1 : Hid (∀ (W : World) (v : Value), RV W v false 1 1 → Calls Tryz.prog 24 #[v] W (SPost W (opS 0 false 1 1))) := fun W v h => HMK.out false 1 1 (by rw [digs_one16]; decide) (by rw [digs_one16]; decide) W v h
    have HMA : Hid (∀ (W : World) (v : Value), RV W v na p q → Calls Tryz.prog 24 #[v] W (SPost W (opS 0 na 1 1))) := fun W v h => by
      rw [hone.1, hone.2] at h
      exact HMK.out na 1 1 (by rw [digs_one16]; decide) (by rw [digs_one16]; decide) W v h
    have HBI : Hid (∀ (W : World) (v : Value), Nat16 W v n → Calls Tryz.prog 59 #[v, .int .i64 0] W fun e w' => e = .returned (.int .i64 ((n % 2 : Nat) : Int)) ∧ Below W.heap.size W w') := fun W v h => by
      have := rbit_any n 0 v W h (by omega)
      rw [Nat.pow_zero, Nat.div_one] at this
      exact this.mono fun e w' ⟨h1, h2⟩ => ⟨h1, h2 ▸ Below.refl _ _⟩
    have hodd : (oddB n = true ∧ n % 2 = 1) ∨ (oddB n = false ∧ n % 2 = 0) := by
      unfold oddB
      rcases Nat.mod_two_eq_zero_or_one n with h | h
      · exact .inr ⟨by rw [h]; rfl, h⟩
      · exact .inl ⟨by rw [h]; rfl, h⟩
    generalize powR na p q nb n = r at *
    clear hz HMK h0 hn3 hne0 hone hc1 hn1 hp0
    cases na with
    | false =>
      rw [Bool.false_and] at HRE
      rw [← HRE.out] at HMA
      clear hodd
      have HBK := Lib.hid (blk_3 w 37 37 24 #[.bool false, .slice A1 n1 c1, .slice A2 n2 c2] #[.bool nb, .slice A3 n3 c3, .slice A4 n4 c4] #[.bool false, .slice none 0 0, .slice none 0 0])
      have KA := Lib.hid HBK.out.1
      have KB := Lib.hid HBK.out.2.1
      have KC := Lib.hid HBK.out.2.2
      have HBE := Lib.hid (below_3 w (.cells #[.bool false, .slice A1 n1 c1, .slice A2 n2 c2] 37) (.cells #[.bool nb, .slice A3 n3 c3, .slice A4 n4 c4] 37) (.cells #[.bool false, .slice none 0 0, .slice none 0 0] 24))
      replace RA := Lib.hid (RA.out.to HBE.out)
      replace RB := Lib.hid (RB.out.to HBE.out)
      clear HBK
      go_enter Tryz.func31, Tryz.ntmps31
      go_wp2_with fail
      refine (HWH.out _ _ (by exact one16' _ _ (by simp))).mono ?_
      rintro e w1 ⟨v, rfl, hr, hb⟩
      have hb : Below ((((w.alloc (.cells #[.bool false, .slice A1 n1 c1, .slice A2 n2 c2] 37)).alloc (.cells #[.bool nb, .slice A3 n3 c3, .slice A4 n4 c4] 37)).alloc (.cells #[.bool false, .slice none 0 0, .slice none 0 0] 24))).heap.size (((w.alloc (.cells #[.bool false, .slice A1 n1 c1, .slice A2 n2 c2] 37)).alloc (.cells #[.bool nb, .slice A3 n3 c3, .slice A4 n4 c4] 37)).alloc (.cells #[.bool false, .slice none 0 0, .slice none 0 0] 24)) w1 := (below_one (((w.alloc (.cells #[.bool false, .slice A1 n1 c1, .slice A2 n2 c2] 37)).alloc (.cells #[.bool nb, .slice A3 n3 c3, .slice A4 n4 c4] 37)).alloc (.cells #[.bool false, .slice none 0 0, .slice none 0 0] 24)) _).trans (hb.mono (below_one (((w.alloc (.cells #[.bool false, .slice A1 n1 c1, .slice A2 n2 c2] 37)).alloc (.cells #[.bool nb, .slice A3 n3 c3, .slice A4 n4 c4] 37)).alloc (.cells #[.bool false, .slice none 0 0, .slice none 0 0] 24)) _).size)
      replace KA := Lib.hid (KA.out.to hb)
      replace KB := Lib.hid (KB.out.to hb)
      replace KC := Lib.hid (KC.out.to hb)
      replace RA := Lib.hid (RA.out.to hb)
      replace RB := Lib.hid (RB.out.to hb)
      replace HBE : Hid (Below w.heap.size w w1) := HBE.out.trans ((hb).mono HBE.out.size)
      clear hb
      obtain ⟨Au, nu, cu, Bu, mu, du, rfl, hq1, hq2⟩ := hr.form
      have Gu := Lib.hid hr
      clear hq1 hq2 hr
      have ltKAKO := KA.out.lt
      have ltKBKO := KB.out.lt
      have ltKCKO := KC.out.lt
      have KON := Lib.hid (Blk.new w1 37 #[.bool false, .slice Au nu cu, .slice Bu mu du])
      replace KA := Lib.hid (KA.out.to (below_one w1 (.cells #[.bool false, .slice Au nu cu, .slice Bu mu du] 37)))
      replace KB := Lib.hid (KB.out.to (below_one w1 (.cells #[.bool false, .slice Au nu cu, .slice Bu mu du] 37)))
      replace KC := Lib.hid (KC.out.to (below_one w1 (.cells #[.bool false, .slice Au nu cu, .slice Bu mu du] 37)))
      replace RA := Lib.hid (RA.out.to (below_one w1 (.cells #[.bool false, .slice Au nu cu, .slice Bu mu du] 37)))
      replace RB := Lib.hid (RB.out.to (below_one w1 (.cells #[.bool false, .slice Au nu cu, .slice Bu mu du] 37)))
      replace Gu := Lib.hid (Gu.out.to (below_one w1 (.cells #[.bool false, .slice Au nu cu, .slice Bu mu du] 37)))
      replace HBE : Hid (Below w.heap.size w (w1.alloc (.cells #[.bool false, .slice Au nu cu, .slice Bu mu du] 37))) := HBE.out.trans (((below_one w1 (.cells #[.bool false, .slice Au nu cu, .slice Bu mu du] 37))).mono HBE.out.size)
      have KO := KON
      clear KON
      have neKAKO : (w.heap.size = w1.heap.size) = False := eq_false (by omega)
      have neKOKA : (w1.heap.size = w.heap.size) = False := eq_false (by omega)
      have neKBKO : (w.heap.size + 1 = w1.heap.size) = False := eq_false (by omega)
      have neKOKB : (w1.heap.size = w.heap.size + 1) = False := eq_false (by omega)
      have neKCKO : (w.heap.size + 1 + 1 = w1.heap.size) = False := eq_false (by omega)
      have neKOKC : (w1.heap.size = w.heap.size + 1 + 1) = False := eq_false (by omega)
      have ka0 := KA.out.cell 0
      have ka1 := KA.out.cell 1
      have ka2 := KA.out.cell 2
      have kb0 := KB.out.cell 0
      have kb1 := KB.out.cell 1
      have kb2 := KB.out.cell 2
      have ko0 := KO.out.cell 0
      have ko1 := KO.out.cell 1
      have ko2 := KO.out.cell 2
      simp only [List.getElem?_toArray, List.getElem?_cons_zero, List.getElem?_cons_succ] at ka0 ka1 ka2 kb0 kb1 kb2 ko0 ko1 ko2
      go_wp2_with fail
      refine (HCM.out _ _ _ (by exact RA.out.parts.2.1.to (below_one _ _)) (by exact one16' _ _ (by simp))).mono ?_
      rintro e w2 ⟨rfl, hb⟩
      clear ka0 ka1 ka2 kb0 kb1 kb2 ko0 ko1 ko2
      have hb : Below ((w1.alloc (.cells #[.bool false, .slice Au nu cu, .slice Bu mu du] 37))).heap.size (w1.alloc (.cells #[.bool false, .slice Au nu cu, .slice Bu mu du] 37)) w2 := (below_one (w1.alloc (.cells #[.bool false, .slice Au nu cu, .slice Bu mu du] 37)) _).trans (hb.mono (below_one (w1.alloc (.cells #[.bool false, .slice Au nu cu, .slice Bu mu du] 37)) _).size)
      replace KA := Lib.hid (KA.out.to hb)
      replace KB := Lib.hid (KB.out.to hb)
      replace KC := Lib.hid (KC.out.to hb)
      replace KO := Lib.hid (KO.out.to hb)
      replace RA := Lib.hid (RA.out.to hb)
      replace RB := Lib.hid (RB.out.to hb)
      replace Gu := Lib.hid (Gu.out.to hb)
      replace HBE : Hid (Below w.heap.size w w2) := HBE.out.trans ((hb).mono HBE.out.size)
      clear hb
      have ka0 := KA.out.cell 0
      have ka1 := KA.out.cell 1
      have ka2 := KA.out.cell 2
      have kb0 := KB.out.cell 0
      have kb1 := KB.out.cell 1
      have kb2 := KB.out.cell 2
      have ko0 := KO.out.cell 0
      have ko1 := KO.out.cell 1
      have ko2 := KO.out.cell 2
      simp only [List.getElem?_toArray, List.getElem?_cons_zero, List.getElem?_cons_succ] at ka0 ka1 ka2 kb0 kb1 kb2 ko0 ko1 ko2
      go_wp2_with fail
      refine (HII.out _ _ (by exact RA.out)).mono ?_
      rintro e w3 ⟨rfl, hb⟩
      clear ka0 ka1 ka2 kb0 kb1 kb2 ko0 ko1 ko2
      replace KA := Lib.hid (KA.out.to hb)
      replace KB := Lib.hid (KB.out.to hb)
      replace KC := Lib.hid (KC.out.to hb)
      replace KO := Lib.hid (KO.out.to hb)
      replace RA := Lib.hid (RA.out.to hb)
      replace RB := Lib.hid (RB.out.to hb)
      replace Gu := Lib.hid (Gu.out.to hb)
      replace HBE : Hid (Below w.heap.size w w3) := HBE.out.trans ((hb).mono HBE.out.size)
      clear hb
      have ka0 := KA.out.cell 0
      have ka1 := KA.out.cell 1
      have ka2 := KA.out.cell 2
      have kb0 := KB.out.cell 0
      have kb1 := KB.out.cell 1
      have kb2 := KB.out.cell 2
      have ko0 := KO.out.cell 0
      have ko1 := KO.out.cell 1
      have ko2 := KO.out.cell 2
      simp only [List.getElem?_toArray, List.getElem?_cons_zero, List.getElem?_cons_succ] at ka0 ka1 ka2 kb0 kb1 kb2 ko0 ko1 ko2
      go_wp2_with fail
      refine (HMA.out _ _ (by exact RA.out)).mono ?_
      rintro e w4 ⟨v, rfl, hg, hb⟩
      clear ka0 ka1 ka2 kb0 kb1 kb2 ko0 ko1 ko2
      replace KA := Lib.hid (KA.out.to hb)
      replace KB := Lib.hid (KB.out.to hb)
      replace KC := Lib.hid (KC.out.to hb)
      replace KO := Lib.hid (KO.out.to hb)
      replace RA := Lib.hid (RA.out.to hb)
      replace RB := Lib.hid (RB.out.to hb)
      replace Gu := Lib.hid (Gu.out.to hb)
      replace HBE : Hid (Below w.heap.size w w4) := HBE.out.trans ((hb).mono HBE.out.size)
      clear hb
      obtain ⟨Az, nz, cz, Bz, mz, dz, rfl, hq1, hq2⟩ := hg.form
      have Gz := Lib.hid hg
      clear hq1 hq2 hg
      have kc0 := KC.out.cell 0
      have kc1 := KC.out.cell 1
      have kc2 := KC.out.cell 2
      simp only [List.getElem?_toArray, List.getElem?_cons_zero, List.getElem?_cons_succ] at kc0 kc1 kc2
      have fzkc0 := KC.out.frozen 0
      have fzkc1 := KC.out.frozen 1
      have fzkc2 := KC.out.frozen 2
      go_wp2_with fail
      refine bodyPost_ret (v := .tuple #[.agg #[.bool r.1.neg, .slice Az nz cz, .slice Bz mz dz], .int .i64 r.2]) (by rw [results_cell_tmp rfl]; go_simp) rfl ?_
      exact ⟨_, rfl, Gz.out.put3 KC.out _ _ _, put3_below HBE.out (by omega) _ _ _⟩
    | true =>
      rcases hodd with ⟨ho, hm⟩ | ⟨ho, hm⟩
      · rw [ho] at HRE
        rw [hm] at HBI
        have HRE2 : Hid (r = opS 0 true 1 1) := HRE.out
        rw [← HRE2.out] at HMA
        clear ho hm HRE HRE2
        have HBK := Lib.hid (blk_3 w 37 37 24 #[.bool true, .slice A1 n1 c1, .slice A2 n2 c2] #[.bool nb, .slice A3 n3 c3, .slice A4 n4 c4] #[.bool false, .slice none 0 0, .slice none 0 0])
        have KA := Lib.hid HBK.out.1
        have KB := Lib.hid HBK.out.2.1
        have KC := Lib.hid HBK.out.2.2
        have HBE := Lib.hid (below_3 w (.cells #[.bool true, .slice A1 n1 c1, .slice A2 n2 c2] 37) (.cells #[.bool nb, .slice A3 n3 c3, .slice A4 n4 c4] 37) (.cells #[.bool false, .slice none 0 0, .slice none 0 0] 24))
        replace RA := Lib.hid (RA.out.to HBE.out)
        replace RB := Lib.hid (RB.out.to HBE.out)
        clear HBK
        go_enter Tryz.func31, Tryz.ntmps31
        go_wp2_with fail
        refine (HWH.out _ _ (by exact one16' _ _ (by simp))).mono ?_
        rintro e w1 ⟨v, rfl, hr, hb⟩
        have hb : Below ((((w.alloc (.cells #[.bool true, .slice A1 n1 c1, .slice A2 n2 c2] 37)).alloc (.cells #[.bool nb, .slice A3 n3 c3, .slice A4 n4 c4] 37)).alloc (.cells #[.bool false, .slice none 0 0, .slice none 0 0] 24))).heap.size (((w.alloc (.cells #[.bool true, .slice A1 n1 c1, .slice A2 n2 c2] 37)).alloc (.cells #[.bool nb, .slice A3 n3 c3, .slice A4 n4 c4] 37)).alloc (.cells #[.bool false, .slice none 0 0, .slice none 0 0] 24)) w1 := (below_one (((w.alloc (.cells #[.bool true, .slice A1 n1 c1, .slice A2 n2 c2] 37)).alloc (.cells #[.bool nb, .slice A3 n3 c3, .slice A4 n4 c4] 37)).alloc (.cells #[.bool false, .slice none 0 0, .slice none 0 0] 24)) _).trans (hb.mono (below_one (((w.alloc (.cells #[.bool true, .slice A1 n1 c1, .slice A2 n2 c2] 37)).alloc (.cells #[.bool nb, .slice A3 n3 c3, .slice A4 n4 c4] 37)).alloc (.cells #[.bool false, .slice none 0 0, .slice none 0 0] 24)) _).size)
        replace KA := Lib.hid (KA.out.to hb)
        replace KB := Lib.hid (KB.out.to hb)
        replace KC := Lib.hid (KC.out.to hb)
        replace RA := Lib.hid (RA.out.to hb)
        replace RB := Lib.hid (RB.out.to hb)
        replace HBE : Hid (Below w.heap.size w w1) := HBE.out.trans ((hb).mono HBE.out.size)
        clear hb
        obtain ⟨Au, nu, cu, Bu, mu, du, rfl, hq1, hq2⟩ := hr.form
        have Gu := Lib.hid hr
        clear hq1 hq2 hr
        have ltKAKO := KA.out.lt
        have ltKBKO := KB.out.lt
        have ltKCKO := KC.out.lt
        have KON := Lib.hid (Blk.new w1 37 #[.bool false, .slice Au nu cu, .slice Bu mu du])
        replace KA := Lib.hid (KA.out.to (below_one w1 (.cells #[.bool false, .slice Au nu cu, .slice Bu mu du] 37)))
        replace KB := Lib.hid (KB.out.to (below_one w1 (.cells #[.bool false, .slice Au nu cu, .slice Bu mu du] 37)))
        replace KC := Lib.hid (KC.out.to (below_one w1 (.cells #[.bool false, .slice Au nu cu, .slice Bu mu du] 37)))
        replace RA := Lib.hid (RA.out.to (below_one w1 (.cells #[.bool false, .slice Au nu cu, .slice Bu mu du] 37)))
        replace RB := Lib.hid (RB.out.to (below_one w1 (.cells #[.bool false, .slice Au nu cu, .slice Bu mu du] 37)))
        replace Gu := Lib.hid (Gu.out.to (below_one w1 (.cells #[.bool false, .slice Au nu cu, .slice Bu mu du] 37)))
        replace HBE : Hid (Below w.heap.size w (w1.alloc (.cells #[.bool false, .slice Au nu cu, .slice Bu mu du] 37))) := HBE.out.trans (((below_one w1 (.cells #[.bool false, .slice Au nu cu, .slice Bu mu du] 37))).mono HBE.out.size)
        have KO := KON
        clear KON
        have neKAKO : (w.heap.size = w1.heap.size) = False := eq_false (by omega)
        have neKOKA : (w1.heap.size = w.heap.size) = False := eq_false (by omega)
        have neKBKO : (w.heap.size + 1 = w1.heap.size) = False := eq_false (by omega)
        have neKOKB : (w1.heap.size = w.heap.size + 1) = False := eq_false (by omega)
        have neKCKO : (w.heap.size + 1 + 1 = w1.heap.size) = False := eq_false (by omega)
        have neKOKC : (w1.heap.size = w.heap.size + 1 + 1) = False := eq_false (by omega)
        have ka0 := KA.out.cell 0
        have ka1 := KA.out.cell 1
        have ka2 := KA.out.cell 2
        have kb0 := KB.out.cell 0
        have kb1 := KB.out.cell 1
        have kb2 := KB.out.cell 2
        have ko0 := KO.out.cell 0
        have ko1 := KO.out.cell 1
        have ko2 := KO.out.cell 2
        simp only [List.getElem?_toArray, List.getElem?_cons_zero, List.getElem?_cons_succ] at ka0 ka1 ka2 kb0 kb1 kb2 ko0 ko1 ko2
        go_wp2_with fail
        refine (HCM.out _ _ _ (by exact RA.out.parts.2.1.to (below_one _ _)) (by exact one16' _ _ (by simp))).mono ?_
        rintro e w2 ⟨rfl, hb⟩
        clear ka0 ka1 ka2 kb0 kb1 kb2 ko0 ko1 ko2
        have hb : Below ((w1.alloc (.cells #[.bool false, .slice Au nu cu, .slice Bu mu du] 37))).heap.size (w1.alloc (.cells #[.bool false, .slice Au nu cu, .slice Bu mu du] 37)) w2 := (below_one (w1.alloc (.cells #[.bool false, .slice Au nu cu, .slice Bu mu du] 37)) _).trans (hb.mono (below_one (w1.alloc (.cells #[.bool false, .slice Au nu cu, .slice Bu mu du] 37)) _).size)
        replace KA := Lib.hid (KA.out.to hb)
        replace KB := Lib.hid (KB.out.to hb)
        replace KC := Lib.hid (KC.out.to hb)
        replace KO := Lib.hid (KO.out.to hb)
        replace RA := Lib.hid (RA.out.to hb)
        replace RB := Lib.hid (RB.out.to hb)
        replace Gu := Lib.hid (Gu.out.to hb)
        replace HBE : Hid (Below w.heap.size w w2) := HBE.out.trans ((hb).mono HBE.out.size)
        clear hb
        have ka0 := KA.out.cell 0
        have ka1 := KA.out.cell 1
        have ka2 := KA.out.cell 2
        have kb0 := KB.out.cell 0
        have kb1 := KB.out.cell 1
        have kb2 := KB.out.cell 2
        have ko0 := KO.out.cell 0
        have ko1 := KO.out.cell 1
        have ko2 := KO.out.cell 2
        simp only [List.getElem?_toArray, List.getElem?_cons_zero, List.getElem?_cons_succ] at ka0 ka1 ka2 kb0 kb1 kb2 ko0 ko1 ko2
        go_wp2_with fail
        refine (HII.out _ _ (by exact RA.out)).mono ?_
        rintro e w3 ⟨rfl, hb⟩
        clear ka0 ka1 ka2 kb0 kb1 kb2 ko0 ko1 ko2
        replace KA := Lib.hid (KA.out.to hb)
        replace KB := Lib.hid (KB.out.to hb)
        replace KC := Lib.hid (KC.out.to hb)
        replace KO := Lib.hid (KO.out.to hb)
        replace RA := Lib.hid (RA.out.to hb)
        replace RB := Lib.hid (RB.out.to hb)
        replace Gu := Lib.hid (Gu.out.to hb)
        replace HBE : Hid (Below w.heap.size w w3) := HBE.out.trans ((hb).mono HBE.out.size)
        clear hb
        have ka0 := KA.out.cell 0
        have ka1 := KA.out.cell 1
        have ka2 := KA.out.cell 2
        have kb0 := KB.out.cell 0
        have kb1 := KB.out.cell 1
        have kb2 := KB.out.cell 2
        have ko0 := KO.out.cell 0
        have ko1 := KO.out.cell 1
        have ko2 := KO.out.cell 2
        simp only [List.getElem?_toArray, List.getElem?_cons_zero, List.getElem?_cons_succ] at ka0 ka1 ka2 kb0 kb1 kb2 ko0 ko1 ko2
        go_wp2_with fail
        refine (HBI.out _ _ (by exact RB.out.parts.2.1)).mono ?_
        rintro e w4 ⟨rfl, hb⟩
        clear ka0 ka1 ka2 kb0 kb1 kb2 ko0 ko1 ko2
        replace KA := Lib.hid (KA.out.to hb)
        replace KB := Lib.hid (KB.out.to hb)
        replace KC := Lib.hid (KC.out.to hb)
        replace KO := Lib.hid (KO.out.to hb)
        replace RA := Lib.hid (RA.out.to hb)
        replace RB := Lib.hid (RB.out.to hb)
        replace Gu := Lib.hid (Gu.out.to hb)
        replace HBE : Hid (Below w.heap.size w w4) := HBE.out.trans ((hb).mono HBE.out.size)
        clear hb
        have ka0 := KA.out.cell 0
        have ka1 := KA.out.cell 1
        have ka2 := KA.out.cell 2
        have kb0 := KB.out.cell 0
        have kb1 := KB.out.cell 1
        have kb2 := KB.out.cell 2
        have ko0 := KO.out.cell 0
        have ko1 := KO.out.cell 1
        have ko2 := KO.out.cell 2
        simp only [List.getElem?_toArray, List.getElem?_cons_zero, List.getElem?_cons_succ] at ka0 ka1 ka2 kb0 kb1 kb2 ko0 ko1 ko2
        go_wp2_with fail
        refine (HMA.out _ _ (by exact RA.out)).mono ?_
        rintro e w5 ⟨v, rfl, hg, hb⟩
        clear ka0 ka1 ka2 kb0 kb1 kb2 ko0 ko1 ko2
        replace KA := Lib.hid (KA.out.to hb)
        replace KB := Lib.hid (KB.out.to hb)
        replace KC := Lib.hid (KC.out.to hb)
        replace KO := Lib.hid (KO.out.to hb)
        replace RA := Lib.hid (RA.out.to hb)
        replace RB := Lib.hid (RB.out.to hb)
        replace Gu := Lib.hid (Gu.out.to hb)
        replace HBE : Hid (Below w.heap.size w w5) := HBE.out.trans ((hb).mono HBE.out.size)
        clear hb
        obtain ⟨Az, nz, cz, Bz, mz, dz, rfl, hq1, hq2⟩ := hg.form
        have Gz := Lib.hid hg
        clear hq1 hq2 hg
        have kc0 := KC.out.cell 0
        have kc1 := KC.out.cell 1
        have kc2 := KC.out.cell 2
        simp only [List.getElem?_toArray, List.getElem?_cons_zero, List.getElem?_cons_succ] at kc0 kc1 kc2
        have fzkc0 := KC.out.frozen 0
        have fzkc1 := KC.out.frozen 1
        have fzkc2 := KC.out.frozen 2
        go_wp2_with fail
        refine bodyPost_ret (v := .tuple #[.agg #[.bool r.1.neg, .slice Az nz cz, .slice Bz mz dz], .int .i64 r.2]) (by rw [results_cell_tmp rfl]; go_simp) rfl ?_
        exact ⟨_, rfl, Gz.out.put3 KC.out _ _ _, put3_below HBE.out (by omega) _ _ _⟩
      · rw [ho] at HRE
        rw [hm] at HBI
        have HRE2 : Hid (r = opS 0 false 1 1) := HRE.out
        rw [← HRE2.out] at HM1
        clear ho hm HRE HRE2
        have HBK := Lib.hid (blk_3 w 37 37 24 #[.bool true, .slice A1 n1 c1, .slice A2 n2 c2] #[.bool nb, .slice A3 n3 c3, .slice A4 n4 c4] #[.bool false, .slice none 0 0, .slice none 0 0])
        have KA := Lib.hid HBK.out.1
        have KB := Lib.hid HBK.out.2.1
        have KC := Lib.hid HBK.out.2.2
        have HBE := Lib.hid (below_3 w (.cells #[.bool true, .slice A1 n1 c1, .slice A2 n2 c2] 37) (.cells #[.bool nb, .slice A3 n3 c3, .slice A4 n4 c4] 37) (.cells #[.bool false, .slice none 0 0, .slice none 0 0] 24))
        replace RA := Lib.hid (RA.out.to HBE.out)
        replace RB := Lib.hid (RB.out.to HBE.out)
        clear HBK
        go_enter Tryz.func31, Tryz.ntmps31
        go_wp2_with fail
        refine (HWH.out _ _ (by exact one16' _ _ (by simp))).mono ?_
        rintro e w1 ⟨v, rfl, hr, hb⟩
        have hb : Below ((((w.alloc (.cells #[.bool true, .slice A1 n1 c1, .slice A2 n2 c2] 37)).alloc (.cells #[.bool nb, .slice A3 n3 c3, .slice A4 n4 c4] 37)).alloc (.cells #[.bool false, .slice none 0 0, .slice none 0 0] 24))).heap.size (((w.alloc (.cells #[.bool true, .slice A1 n1 c1, .slice A2 n2 c2] 37)).alloc (.cells #[.bool nb, .slice A3 n3 c3, .slice A4 n4 c4] 37)).alloc (.cells #[.bool false, .slice none 0 0, .slice none 0 0] 24)) w1 := (below_one (((w.alloc (.cells #[.bool true, .slice A1 n1 c1, .slice A2 n2 c2] 37)).alloc (.cells #[.bool nb, .slice A3 n3 c3, .slice A4 n4 c4] 37)).alloc (.cells #[.bool false, .slice none 0 0, .slice none 0 0] 24)) _).trans (hb.mono (below_one (((w.alloc (.cells #[.bool true, .slice A1 n1 c1, .slice A2 n2 c2] 37)).alloc (.cells #[.bool nb, .slice A3 n3 c3, .slice A4 n4 c4] 37)).alloc (.cells #[.bool false, .slice none 0 0, .slice none 0 0] 24)) _).size)
        replace KA := Lib.hid (KA.out.to hb)
        replace KB := Lib.hid (KB.out.to hb)
        replace KC := Lib.hid (KC.out.to hb)
        replace RA := Lib.hid (RA.out.to hb)
        replace RB := Lib.hid (RB.out.to hb)
        replace HBE : Hid (Below w.heap.size w w1) := HBE.out.trans ((hb).mono HBE.out.size)
        clear hb
        obtain ⟨Au, nu, cu, Bu, mu, du, rfl, hq1, hq2⟩ := hr.form
        have Gu := Lib.hid hr
        clear hq1 hq2 hr
        have ltKAKO := KA.out.lt
        have ltKBKO := KB.out.lt
        have ltKCKO := KC.out.lt
        have KON := Lib.hid (Blk.new w1 37 #[.bool false, .slice Au nu cu, .slice Bu mu du])
        replace KA := Lib.hid (KA.out.to (below_one w1 (.cells #[.bool false, .slice Au nu cu, .slice Bu mu du] 37)))
        replace KB := Lib.hid (KB.out.to (below_one w1 (.cells #[.bool false, .slice Au nu cu, .slice Bu mu du] 37)))
        replace KC := Lib.hid (KC.out.to (below_one w1 (.cells #[.bool false, .slice Au nu cu, .slice Bu mu du] 37)))
        replace RA := Lib.hid (RA.out.to (below_one w1 (.cells #[.bool false, .slice Au nu cu, .slice Bu mu du] 37)))
        replace RB := Lib.hid (RB.out.to (below_one w1 (.cells #[.bool false, .slice Au nu cu, .slice Bu mu du] 37)))
        replace Gu := Lib.hid (Gu.out.to (below_one w1 (.cells #[.bool false, .slice Au nu cu, .slice Bu mu du] 37)))
        replace HBE : Hid (Below w.heap.size w (w1.alloc (.cells #[.bool false, .slice Au nu cu, .slice Bu mu du] 37))) := HBE.out.trans (((below_one w1 (.cells #[.bool false, .slice Au nu cu, .slice Bu mu du] 37))).mono HBE.out.size)
        have KO := KON
        clear KON
        have neKAKO : (w.heap.size = w1.heap.size) = False := eq_false (by omega)
        have neKOKA : (w1.heap.size = w.heap.size) = False := eq_false (by omega)
        have neKBKO : (w.heap.size + 1 = w1.heap.size) = False := eq_false (by omega)
        have neKOKB : (w1.heap.size = w.heap.size + 1) = False := eq_false (by omega)
        have neKCKO : (w.heap.size + 1 + 1 = w1.heap.size) = False := eq_false (by omega)
        have neKOKC : (w1.heap.size = w.heap.size + 1 + 1) = False := eq_false (by omega)
        have ka0 := KA.out.cell 0
        have ka1 := KA.out.cell 1
        have ka2 := KA.out.cell 2
        have kb0 := KB.out.cell 0
        have kb1 := KB.out.cell 1
        have kb2 := KB.out.cell 2
        have ko0 := KO.out.cell 0
        have ko1 := KO.out.cell 1
        have ko2 := KO.out.cell 2
        simp only [List.getElem?_toArray, List.getElem?_cons_zero, List.getElem?_cons_succ] at ka0 ka1 ka2 kb0 kb1 kb2 ko0 ko1 ko2
        go_wp2_with fail
        refine (HCM.out _ _ _ (by exact RA.out.parts.2.1.to (below_one _ _)) (by exact one16' _ _ (by simp))).mono ?_
        rintro e w2 ⟨rfl, hb⟩
        clear ka0 ka1 ka2 kb0 kb1 kb2 ko0 ko1 ko2
        have hb : Below ((w1.alloc (.cells #[.bool false, .slice Au nu cu, .slice Bu mu du] 37))).heap.size (w1.alloc (.cells #[.bool false, .slice Au nu cu, .slice Bu mu du] 37)) w2 := (below_one (w1.alloc (.cells #[.bool false, .slice Au nu cu, .slice Bu mu du] 37)) _).trans (hb.mono (below_one (w1.alloc (.cells #[.bool false, .slice Au nu cu, .slice Bu mu du] 37)) _).size)
        replace KA := Lib.hid (KA.out.to hb)
        replace KB := Lib.hid (KB.out.to hb)
        replace KC := Lib.hid (KC.out.to hb)
        replace KO := Lib.hid (KO.out.to hb)
        replace RA := Lib.hid (RA.out.to hb)
        replace RB := Lib.hid (RB.out.to hb)
        replace Gu := Lib.hid (Gu.out.to hb)
        replace HBE : Hid (Below w.heap.size w w2) := HBE.out.trans ((hb).mono HBE.out.size)
        clear hb
        have ka0 := KA.out.cell 0
        have ka1 := KA.out.cell 1
        have ka2 := KA.out.cell 2
        have kb0 := KB.out.cell 0
        have kb1 := KB.out.cell 1
        have kb2 := KB.out.cell 2
        have ko0 := KO.out.cell 0
        have ko1 := KO.out.cell 1
        have ko2 := KO.out.cell 2
        simp only [List.getElem?_toArray, List.getElem?_cons_zero, List.getElem?_cons_succ] at ka0 ka1 ka2 kb0 kb1 kb2 ko0 ko1 ko2
        go_wp2_with fail
        refine (HII.out _ _ (by exact RA.out)).mono ?_
        rintro e w3 ⟨rfl, hb⟩
        clear ka0 ka1 ka2 kb0 kb1 kb2 ko0 ko1 ko2
        replace KA := Lib.hid (KA.out.to hb)
        replace KB := Lib.hid (KB.out.to hb)
        replace KC := Lib.hid (KC.out.to hb)
        replace KO := Lib.hid (KO.out.to hb)
        replace RA := Lib.hid (RA.out.to hb)
        replace RB := Lib.hid (RB.out.to hb)
        replace Gu := Lib.hid (Gu.out.to hb)
        replace HBE : Hid (Below w.heap.size w w3) := HBE.out.trans ((hb).mono HBE.out.size)
        clear hb
        have ka0 := KA.out.cell 0
        have ka1 := KA.out.cell 1
        have ka2 := KA.out.cell 2
        have kb0 := KB.out.cell 0
        have kb1 := KB.out.cell 1
        have kb2 := KB.out.cell 2
        have ko0 := KO.out.cell 0
        have ko1 := KO.out.cell 1
        have ko2 := KO.out.cell 2
        simp only [List.getElem?_toArray, List.getElem?_cons_zero, List.getElem?_cons_succ] at ka0 ka1 ka2 kb0 kb1 kb2 ko0 ko1 ko2
        go_wp2_with fail
        refine (HBI.out _ _ (by exact RB.out.parts.2.1)).mono ?_
        rintro e w4 ⟨rfl, hb⟩
        clear ka0 ka1 ka2 kb0 kb1 kb2 ko0 ko1 ko2
        replace KA := Lib.hid (KA.out.to hb)
        replace KB := Lib.hid (KB.out.to hb)
        replace KC := Lib.hid (KC.out.to hb)
        replace KO := Lib.hid (KO.out.to hb)
        replace RA := Lib.hid (RA.out.to hb)
        replace RB := Lib.hid (RB.out.to hb)
        replace Gu := Lib.hid (Gu.out.to hb)
        replace HBE : Hid (Below w.heap.size w w4) := HBE.out.trans ((hb).mono HBE.out.size)
        clear hb
        have ka0 := KA.out.cell 0
        have ka1 := KA.out.cell 1
        have ka2 := KA.out.cell 2
        have kb0 := KB.out.cell 0
        have kb1 := KB.out.cell 1
        have kb2 := KB.out.cell 2
        have ko0 := KO.out.cell 0
        have ko1 := KO.out.cell 1
        have ko2 := KO.out.cell 2
        simp only [List.getElem?_toArray, List.getElem?_cons_zero, List.getElem?_cons_succ] at ka0 ka1 ka2 kb0 kb1 kb2 ko0 ko1 ko2
        go_wp2_with fail
        refine (HM1.out _ _ (by exact Gu.out)).mono ?_
        rintro e w5 ⟨v, rfl, hg, hb⟩
        clear ka0 ka1 ka2 kb0 kb1 kb2 ko0 ko1 ko2
        replace KA := Lib.hid (KA.out.to hb)
        replace KB := Lib.hid (KB.out.to hb)
        replace KC := Lib.hid (KC.out.to hb)
        replace KO := Lib.hid (KO.out.to hb)
        replace RA := Lib.hid (RA.out.to hb)
        replace RB := Lib.hid (RB.out.to hb)
        replace Gu := Lib.hid (Gu.out.to hb)
        replace HBE : Hid (Below w.heap.size w w5) := HBE.out.trans ((hb).mono HBE.out.size)
        clear hb
        obtain ⟨Az, nz, cz, Bz, mz, dz, rfl, hq1, hq2⟩ := hg.form
        have Gz := Lib.hid hg
        clear hq1 hq2 hg
        have kc0 := KC.out.cell 0
        have kc1 := KC.out.cell 1
        have kc2 := KC.out.cell 2
        simp only [List.getElem?_toArray, List.getElem?_cons_zero, List.getElem?_cons_succ] at kc0 kc1 kc2
        have fzkc0 := KC.out.frozen 0
        have fzkc1 := KC.out.frozen 1
        have fzkc2 := KC.out.frozen 2
        go_wp2_with fail
        refine bodyPost_ret (v := .tuple #[.agg #[.bool r.1.neg, .slice Az nz cz, .slice Bz mz dz], .int .i64 r.2]) (by rw [results_cell_tmp rfl]; go_simp) rfl ?_
        exact ⟨_, rfl, Gz.out.put3 KC.out _ _ _, put3_below HBE.out (by omega) _ _ _⟩
  have hsel : (cmpI p 1 == 0) = false ∨ (cmpI p 1 = 0 ∧ (cmpI q 1 == 0) = false) := by
    by_cases h1 : p = 1
    · exact .inr ⟨cmpI_eq h1, cmpI_one_false (fun h2 => hone ⟨h1, h2⟩)⟩
    · exact .inl (cmpI_one_false h1)
  obtain ⟨P, Q, HPQ, HPQ0, HPQL⟩ : ∃ P Q, Hid (P = (if nb then q else p) ∧ Q = if nb then p else q) ∧ Hid (0 < P ∧ 0 < Q) ∧ Hid ((digs W16 P).length ≤ 256 ∧ (digs W16 Q).length ≤ 256) := by
    cases nb with
    | true => exact ⟨q, p, ⟨rfl, rfl⟩, ⟨HQ0.out, HP0.out⟩, ⟨HL.out.1.2, HL.out.1.1⟩⟩
    | false => exact ⟨p, q, ⟨rfl, rfl⟩, ⟨HP0.out, HQ0.out⟩, HL.out.1⟩
  have HRV : Hid (powR na p q nb n = if 4096 < n then (zeroL, 3) else if powOk P n && powOk Q n then opS 0 (na && oddB n) (P ^ n) (Q ^ n) else (zeroL, 3)) := by
    unfold Hid powR
    rw [if_neg hne0, if_neg (fun h => h.elim (by omega) hone), HPQ.out.1, HPQ.out.2]
    cases nb with
    | true => rw [Bool.and_comm (powOk p n)]; rfl
    | false => rfl
  have HSM : Hid (∀ (W : World) (v : Value), RV W v nb n 1 → Calls Tryz.prog 62 #[v] W fun e w' => e = .returned (.tuple #[.int .i64 (smallI n), .bool (smallB n)]) ∧ Below W.heap.size W w') := fun W v h => rsmall_any nb n 1 v W h HL.out.2
  have HIV : Hid (∀ (W : World) (v : Value), RV W v na p q → Calls Tryz.prog 28 #[v] W (RVPost W na q p)) := fun W v h => rinverse_any na p q v W h
  have HLE : Hid (∀ (W : World) (v : Value) (x : Nat), Nat16 W v x → (digs W16 x).length ≤ 1000 → Calls Tryz.prog 13 #[v] W fun e w' => e = .returned (.int .i64 (blen x : Int)) ∧ Below W.heap.size W w') := fun W v x h1 h2 => (rlen_any x v W h1 (by omega)).mono fun e w' ⟨h3, h4⟩ => ⟨h3, h4 ▸ Below.refl _ _⟩
  have HRNO : Hid (∀ k, k < n → (32 * 128 < blen (P ^ (k + 1)) ∨ 32 * 128 < blen (Q ^ (k + 1))) → powR na p q nb n = (zeroL, 3)) := fun k hk h => by
    rw [HRV.out]
    split
    · rfl
    · have hf : (powOk P n && powOk Q n) = false := by
        rcases h with h | h
        · rw [powOk_no (Nat.pow_le_pow_right HPQ0.out.1 (show k + 1 ≤ n by omega)) (fun h2 => by have := blen_128.2 h2; omega)]; rfl
        · rw [powOk_no (Nat.pow_le_pow_right HPQ0.out.2 (show k + 1 ≤ n by omega)) (fun h2 => by have := blen_128.2 h2; omega), Bool.and_false]
      rw [hf]; rfl
  have HROK : Hid (n ≤ 4096 → blen (P ^ n) ≤ 32 * 128 → blen (Q ^ n) ≤ 32 * 128 → powR na p q nb n = opS 0 (na && oddB n) (P ^ n) (Q ^ n)) := fun hn h1 h2 => by
    rw [HRV.out, if_neg (by omega), show powOk P n = true from decide_eq_true (blen_128.1 h1), show powOk Q n = true from decide_eq_true (blen_128.1 h2)]; rfl
  have HRBIG : Hid (4096 < n → powR na p q nb n = (zeroL, 3)) := fun h => by rw [HRV.out, if_pos h]
  have hsm : ((smallB n = false ∧ smallI n = 0) ∧ 4096 < n) ∨ ((smallB n = true ∧ smallI n = (n : Int)) ∧ True) := by
    by_cases h : blen n ≤ 20
    · exact .inr ⟨⟨decide_eq_true h, if_pos h⟩, trivial⟩
    · refine .inl ⟨⟨decide_eq_false h, if_neg h⟩, ?_⟩
      rcases Nat.lt_or_ge 4096 n with h1 | h1
      · exact h1
      · exact absurd (blen_le (x := n) (k := 20) (Nat.lt_of_le_of_lt h1 (by decide))) h
  have HO : Hid (oddB 0 = false) := rfl
  generalize powR na p q nb n = r at *
  generalize hce : cmpI p 1 = cp at *
  generalize hcq : (cmpI q 1 == 0) = cq at *
  clear hz h0 hn3 hne0 hone hn1 hp0 HRV hce hcq
  have HBK := Lib.hid (blk_3 w 37 37 24 #[.bool na, .slice A1 n1 c1, .slice A2 n2 c2] #[.bool nb, .slice A3 n3 c3, .slice A4 n4 c4] #[.bool false, .slice none 0 0, .slice none 0 0])
  have KA := Lib.hid HBK.out.1
  have KB := Lib.hid HBK.out.2.1
  have KC := Lib.hid HBK.out.2.2
  have HBE := Lib.hid (below_3 w (.cells #[.bool na, .slice A1 n1 c1, .slice A2 n2 c2] 37) (.cells #[.bool nb, .slice A3 n3 c3, .slice A4 n4 c4] 37) (.cells #[.bool false, .slice none 0 0, .slice none 0 0] 24))
  replace RA := Lib.hid (RA.out.to HBE.out)
  replace RB := Lib.hid (RB.out.to HBE.out)
  clear HBK
  go_enter Tryz.func31, Tryz.ntmps31
  go_wp2_with fail
  refine (HWH.out _ _ (by exact one16' _ _ (by simp))).mono ?_
  rintro e w1 ⟨v, rfl, hr, hb⟩
  have hb : Below ((((w.alloc (.cells #[.bool na, .slice A1 n1 c1, .slice A2 n2 c2] 37)).alloc (.cells #[.bool nb, .slice A3 n3 c3, .slice A4 n4 c4] 37)).alloc (.cells #[.bool false, .slice none 0 0, .slice none 0 0] 24))).heap.size (((w.alloc (.cells #[.bool na, .slice A1 n1 c1, .slice A2 n2 c2] 37)).alloc (.cells #[.bool nb, .slice A3 n3 c3, .slice A4 n4 c4] 37)).alloc (.cells #[.bool false, .slice none 0 0, .slice none 0 0] 24)) w1 := (below_one (((w.alloc (.cells #[.bool na, .slice A1 n1 c1, .slice A2 n2 c2] 37)).alloc (.cells #[.bool nb, .slice A3 n3 c3, .slice A4 n4 c4] 37)).alloc (.cells #[.bool false, .slice none 0 0, .slice none 0 0] 24)) _).trans (hb.mono (below_one (((w.alloc (.cells #[.bool na, .slice A1 n1 c1, .slice A2 n2 c2] 37)).alloc (.cells #[.bool nb, .slice A3 n3 c3, .slice A4 n4 c4] 37)).alloc (.cells #[.bool false, .slice none 0 0, .slice none 0 0] 24)) _).size)
  replace KA := Lib.hid (KA.out.to hb)
  replace KB := Lib.hid (KB.out.to hb)
  replace KC := Lib.hid (KC.out.to hb)
  replace RA := Lib.hid (RA.out.to hb)
  replace RB := Lib.hid (RB.out.to hb)
  replace HBE : Hid (Below w.heap.size w w1) := HBE.out.trans ((hb).mono HBE.out.size)
  clear hb
  obtain ⟨Au, nu, cu, Bu, mu, du, rfl, hq1, hq2⟩ := hr.form
  have Gu := Lib.hid hr
  clear hq1 hq2 hr
  have ltKAKO := KA.out.lt
  have ltKBKO := KB.out.lt
  have ltKCKO := KC.out.lt
  have KON := Lib.hid (Blk.new w1 37 #[.bool false, .slice Au nu cu, .slice Bu mu du])
  replace KA := Lib.hid (KA.out.to (below_one w1 (.cells #[.bool false, .slice Au nu cu, .slice Bu mu du] 37)))
  replace KB := Lib.hid (KB.out.to (below_one w1 (.cells #[.bool false, .slice Au nu cu, .slice Bu mu du] 37)))
  replace KC := Lib.hid (KC.out.to (below_one w1 (.cells #[.bool false, .slice Au nu cu, .slice Bu mu du] 37)))
  replace RA := Lib.hid (RA.out.to (below_one w1 (.cells #[.bool false, .slice Au nu cu, .slice Bu mu du] 37)))
  replace RB := Lib.hid (RB.out.to (below_one w1 (.cells #[.bool false, .slice Au nu cu, .slice Bu mu du] 37)))
  replace Gu := Lib.hid (Gu.out.to (below_one w1 (.cells #[.bool false, .slice Au nu cu, .slice Bu mu du] 37)))
  replace HBE : Hid (Below w.heap.size w (w1.alloc (.cells #[.bool false, .slice Au nu cu, .slice Bu mu du] 37))) := HBE.out.trans (((below_one w1 (.cells #[.bool false, .slice Au nu cu, .slice Bu mu du] 37))).mono HBE.out.size)
  have KO := KON
  clear KON
  have neKAKO : (w.heap.size = w1.heap.size) = False := eq_false (by omega)
  have neKOKA : (w1.heap.size = w.heap.size) = False := eq_false (by omega)
  have neKBKO : (w.heap.size + 1 = w1.heap.size) = False := eq_false (by omega)
  have neKOKB : (w1.heap.size = w.heap.size + 1) = False := eq_false (by omega)
  have neKCKO : (w.heap.size + 1 + 1 = w1.heap.size) = False := eq_false (by omega)
  have neKOKC : (w1.heap.size = w.heap.size + 1 + 1) = False := eq_false (by omega)
  have ka0 := KA.out.cell 0
  have ka1 := KA.out.cell 1
  have ka2 := KA.out.cell 2
  have kb0 := KB.out.cell 0
  have kb1 := KB.out.cell 1
  have kb2 := KB.out.cell 2
  have ko0 := KO.out.cell 0
  have ko1 := KO.out.cell 1
  have ko2 := KO.out.cell 2
  simp only [List.getElem?_toArray, List.getElem?_cons_zero, List.getElem?_cons_succ] at ka0 ka1 ka2 kb0 kb1 kb2 ko0 ko1 ko2
  obtain ⟨WB, HWB⟩ : ∃ WB : World, Hid ((w1.alloc (.cells #[.bool false, .slice Au nu cu, .slice Bu mu du] 37)) = WB) := ⟨_, rfl⟩
  go_upto_region 4 with fail
  go_cut [34] (fun s34 wx => ∃ wz : World, wz = wx ∧ s34 = .bool false ∧ Hid (Since ((w1.alloc (.cells #[.bool false, .slice Au nu cu, .slice Bu mu du] 37))) wz))
  case first =>
    rcases hsel with h1 | ⟨rfl, rfl⟩
    · have HBW9 : Hid (Since ((w1.alloc (.cells #[.bool false, .slice Au nu cu, .slice Bu mu du] 37))) ((w1.alloc (.cells #[.bool false, .slice Au nu cu, .slice Bu mu du] 37)))) := Below.refl _ _
      go_wp2_with fail
      refine (HCM.out _ _ _ (by exact RA.out.parts.2.1.to (below_one _ _)) (by exact one16' _ _ (by simp))).mono ?_
      rintro e w2 ⟨rfl, hb⟩
      clear ka0 ka1 ka2 kb0 kb1 kb2 ko0 ko1 ko2
      have hb : Below ((w1.alloc (.cells #[.bool false, .slice Au nu cu, .slice Bu mu du] 37))).heap.size (w1.alloc (.cells #[.bool false, .slice Au nu cu, .slice Bu mu du] 37)) w2 := (below_one ((w1.alloc (.cells #[.bool false, .slice Au nu cu, .slice Bu mu du] 37))) _).trans (hb.mono (below_one ((w1.alloc (.cells #[.bool false, .slice Au nu cu, .slice Bu mu du] 37))) _).size)
      replace KA := Lib.hid (KA.out.to hb)
      replace KB := Lib.hid (KB.out.to hb)
      replace KC := Lib.hid (KC.out.to hb)
      replace KO := Lib.hid (KO.out.to hb)
      replace RA := Lib.hid (RA.out.to hb)
      replace RB := Lib.hid (RB.out.to hb)
      replace Gu := Lib.hid (Gu.out.to hb)
      replace HBW9 := Lib.hid (HBW9.out.to hb)
      replace HBE : Hid (Below w.heap.size w w2) := HBE.out.trans ((hb).mono HBE.out.size)
      clear hb
      go_wp2
      go_meet
      case rel => exact ⟨_, rfl, rfl, HBW9.out⟩
    · have HBW9 : Hid (Since ((w1.alloc (.cells #[.bool false, .slice Au nu cu, .slice Bu mu du] 37))) ((w1.alloc (.cells #[.bool false, .slice Au nu cu, .slice Bu mu du] 37)))) := Below.refl _ _
      go_wp2_with fail
      refine (HCM.out _ _ _ (by exact RA.out.parts.2.1.to (below_one _ _)) (by exact one16' _ _ (by simp))).mono ?_
      rintro e w2 ⟨rfl, hb⟩
      clear ka0 ka1 ka2 kb0 kb1 kb2 ko0 ko1 ko2
      have hb : Below ((w1.alloc (.cells #[.bool false, .slice Au nu cu, .slice Bu mu du] 37))).heap.size (w1.alloc (.cells #[.bool false, .slice Au nu cu, .slice Bu mu du] 37)) w2 := (below_one ((w1.alloc (.cells #[.bool false, .slice Au nu cu, .slice Bu mu du] 37))) _).trans (hb.mono (below_one ((w1.alloc (.cells #[.bool false, .slice Au nu cu, .slice Bu mu du] 37))) _).size)
      replace KA := Lib.hid (KA.out.to hb)
      replace KB := Lib.hid (KB.out.to hb)
      replace KC := Lib.hid (KC.out.to hb)
      replace KO := Lib.hid (KO.out.to hb)
      replace RA := Lib.hid (RA.out.to hb)
      replace RB := Lib.hid (RB.out.to hb)
      replace Gu := Lib.hid (Gu.out.to hb)
      replace HBW9 := Lib.hid (HBW9.out.to hb)
      replace HBE : Hid (Below w.heap.size w w2) := HBE.out.trans ((hb).mono HBE.out.size)
      clear hb
      have ka0 := KA.out.cell 0
      have ka1 := KA.out.cell 1
      have ka2 := KA.out.cell 2
      have kb0 := KB.out.cell 0
      have kb1 := KB.out.cell 1
      have kb2 := KB.out.cell 2
      have ko0 := KO.out.cell 0
      have ko1 := KO.out.cell 1
      have ko2 := KO.out.cell 2
      simp only [List.getElem?_toArray, List.getElem?_cons_zero, List.getElem?_cons_succ] at ka0 ka1 ka2 kb0 kb1 kb2 ko0 ko1 ko2
      go_wp2_with fail
      refine (HII.out _ _ (by exact RA.out)).mono ?_
      rintro e w3 ⟨rfl, hb⟩
      clear ka0 ka1 ka2 kb0 kb1 kb2 ko0 ko1 ko2
      replace KA := Lib.hid (KA.out.to hb)
      replace KB := Lib.hid (KB.out.to hb)
      replace KC := Lib.hid (KC.out.to hb)
      replace KO := Lib.hid (KO.out.to hb)
      replace RA := Lib.hid (RA.out.to hb)
      replace RB := Lib.hid (RB.out.to hb)
      replace Gu := Lib.hid (Gu.out.to hb)
      replace HBW9 := Lib.hid (HBW9.out.to hb)
      replace HBE : Hid (Below w.heap.size w w3) := HBE.out.trans ((hb).mono HBE.out.size)
      clear hb
      go_wp2
      go_meet
      case rel => exact ⟨_, rfl, rfl, HBW9.out⟩
  case rest =>
    obtain ⟨wx, hwz, rfl, hwx⟩ := hcut
    subst hwz
    have hb : Below ((w1.alloc (.cells #[.bool false, .slice Au nu cu, .slice Bu mu du] 37))).heap.size ((w1.alloc (.cells #[.bool false, .slice Au nu cu, .slice Bu mu du] 37))) wx := hwx.out
    clear hwx ka0 ka1 ka2 kb0 kb1 kb2 ko0 ko1 ko2 hsel HCM HII
    replace KA := Lib.hid (KA.out.to hb)
    replace KB := Lib.hid (KB.out.to hb)
    replace KC := Lib.hid (KC.out.to hb)
    replace KO := Lib.hid (KO.out.to hb)
    replace RA := Lib.hid (RA.out.to hb)
    replace RB := Lib.hid (RB.out.to hb)
    replace Gu := Lib.hid (Gu.out.to hb)
    replace HBE : Hid (Below w.heap.size w wx) := HBE.out.trans (hb.mono HBE.out.size)
    clear hb HWB
    have kb0 := KB.out.cell 0
    have kb1 := KB.out.cell 1
    have kb2 := KB.out.cell 2
    have ka0 := KA.out.cell 0
    have ka1 := KA.out.cell 1
    have ka2 := KA.out.cell 2
    simp only [List.getElem?_toArray, List.getElem?_cons_zero, List.getElem?_cons_succ] at kb0 kb1 kb2 ka0 ka1 ka2
    go_upto_if 52 with fail
    go_cut [] (fun wv => ∃ wy : World, wy = wv ∧ ∃ (A7 : Option Addr) (n7 c7 : Nat) (A8 : Option Addr) (n8 c8 : Nat), Hid (Blk wy (w.heap.size) 37 #[.bool na, .slice A7 n7 c7, .slice A8 n8 c8]) ∧ Hid (RV wy (.agg #[.bool na, .slice A7 n7 c7, .slice A8 n8 c8]) na P Q) ∧ Hid (Blk wy (w.heap.size + 1) 37 #[.bool nb, .slice A3 n3 c3, .slice A4 n4 c4]) ∧ Hid (RV wy (.agg #[.bool nb, .slice A3 n3 c3, .slice A4 n4 c4]) nb n 1) ∧ Hid (Blk wy (w.heap.size + 1 + 1) 24 #[.bool false, .slice none 0 0, .slice none 0 0]) ∧ Hid (Blk wy (w1.heap.size) 37 #[.bool false, .slice Au nu cu, .slice Bu mu du]) ∧ Hid (RV wy (.agg #[.bool false, .slice Au nu cu, .slice Bu mu du]) false 1 1) ∧ Hid (Below w.heap.size w wy))
    case first =>
      cases nb with
      | false =>
        have hPQ : P = p ∧ Q = q := HPQ.out
        obtain ⟨rfl, rfl⟩ := hPQ
        go_wp2
        go_meet
        case rel => exact ⟨_, rfl, _, _, _, _, _, _, KA.out, RA.out, KB.out, RB.out, KC.out, KO.out, Gu.out, HBE.out⟩
      | true =>
        have hPQ : P = q ∧ Q = p := HPQ.out
        obtain ⟨rfl, rfl⟩ := hPQ
        go_wp2_with fail
        refine (HIV.out _ _ (by exact RA.out)).mono ?_
        rintro e w21 ⟨v, rfl, hr, hb⟩
        clear kb0 kb1 kb2 ka0 ka1 ka2
        replace KA := Lib.hid (KA.out.to hb)
        replace KB := Lib.hid (KB.out.to hb)
        replace KC := Lib.hid (KC.out.to hb)
        replace KO := Lib.hid (KO.out.to hb)
        replace RA := Lib.hid (RA.out.to hb)
        replace RB := Lib.hid (RB.out.to hb)
        replace Gu := Lib.hid (Gu.out.to hb)
        replace HBE : Hid (Below w.heap.size w w21) := HBE.out.trans ((hb).mono HBE.out.size)
        clear hb
        obtain ⟨Ai, ni, ci, Bi, mi, di, rfl, hq1, hq2⟩ := hr.form
        have Gi := Lib.hid hr
        clear hq1 hq2 hr
        have kb0 := KB.out.cell 0
        have kb1 := KB.out.cell 1
        have kb2 := KB.out.cell 2
        have ko0 := KO.out.cell 0
        have ko1 := KO.out.cell 1
        have ko2 := KO.out.cell 2
        have ka0 := KA.out.cell 0
        have ka1 := KA.out.cell 1
        have ka2 := KA.out.cell 2
        simp only [List.getElem?_toArray, List.getElem?_cons_zero, List.getElem?_cons_succ] at kb0 kb1 kb2 ko0 ko1 ko2 ka0 ka1 ka2
        have fzka0 := KA.out.frozen 0
        have fzka1 := KA.out.frozen 1
        have fzka2 := KA.out.frozen 2
        replace RA := Lib.hid (RA.out.put3 KA.out (.bool na) (.slice Ai ni ci) (.slice Bi mi di))
        replace RB := Lib.hid (RB.out.put3 KA.out (.bool na) (.slice Ai ni ci) (.slice Bi mi di))
        replace Gu := Lib.hid (Gu.out.put3 KA.out (.bool na) (.slice Ai ni ci) (.slice Bi mi di))
        replace Gi := Lib.hid (Gi.out.put3 KA.out (.bool na) (.slice Ai ni ci) (.slice Bi mi di))
        replace KB := Lib.hid (KB.out.put3_far (g := w.heap.size) (by first | omega | simp) (.bool na) (.slice Ai ni ci) (.slice Bi mi di))
        replace KC := Lib.hid (KC.out.put3_far (g := w.heap.size) (by first | omega | simp) (.bool na) (.slice Ai ni ci) (.slice Bi mi di))
        replace KO := Lib.hid (KO.out.put3_far (g := w.heap.size) (by first | omega | simp) (.bool na) (.slice Ai ni ci) (.slice Bi mi di))
        replace HBE : Hid (Below w.heap.size w (put3 w21 (w.heap.size) (.bool na) (.slice Ai ni ci) (.slice Bi mi di))) := put3_below HBE.out (by omega) (.bool na) (.slice Ai ni ci) (.slice Bi mi di)
        replace KA := Lib.hid (KA.out.put3_at (.bool na) (.slice Ai ni ci) (.slice Bi mi di))
        go_wp2
        go_meet
        case rel => exact ⟨_, rfl, _, _, _, _, _, _, KA.out, Gi.out, KB.out, RB.out, KC.out, KO.out, Gu.out, HBE.out⟩
    case rest =>
      obtain ⟨wy, hwz, A7, n7, c7, A8, n8, c8, KA, RA, KB, RB, KC, KO, Gu, HBE⟩ := hcut
      subst hwz
      clear ka0 ka1 ka2 kb0 kb1 kb2
      have kb0 := KB.out.cell 0
      have kb1 := KB.out.cell 1
      have kb2 := KB.out.cell 2
      have ko0 := KO.out.cell 0
      have ko1 := KO.out.cell 1
      have ko2 := KO.out.cell 2
      simp only [List.getElem?_toArray, List.getElem?_cons_zero, List.getElem?_cons_succ] at kb0 kb1 kb2 ko0 ko1 ko2
      go_wp2_with fail
      refine (HSM.out _ _ (by exact RB.out)).mono ?_
      rintro e w31 ⟨rfl, hb⟩
      clear kb0 kb1 kb2 ko0 ko1 ko2
      replace KA := Lib.hid (KA.out.to hb)
      replace KB := Lib.hid (KB.out.to hb)
      replace KC := Lib.hid (KC.out.to hb)
      replace KO := Lib.hid (KO.out.to hb)
      replace RA := Lib.hid (RA.out.to hb)
      replace RB := Lib.hid (RB.out.to hb)
      replace Gu := Lib.hid (Gu.out.to hb)
      replace HBE : Hid (Below w.heap.size w w31) := HBE.out.trans ((hb).mono HBE.out.size)
      clear hb
      rcases hsm with ⟨⟨hs1, hs2⟩, hbig⟩ | ⟨⟨hs1, hs2⟩, -⟩
      · have HR := Lib.hid (HRBIG.out hbig)
        rw [hs1, hs2]
        clear hs1 hs2 hbig
        have kc0 := KC.out.cell 0
        have kc1 := KC.out.cell 1
        have kc2 := KC.out.cell 2
        simp only [List.getElem?_toArray, List.getElem?_cons_zero, List.getElem?_cons_succ] at kc0 kc1 kc2
        have fzkc0 := KC.out.frozen 0
        have fzkc1 := KC.out.frozen 1
        have fzkc2 := KC.out.frozen 2
        go_wp2_with fail
        refine bodyPost_ret (v := .tuple #[zeroNum, .int .i64 3]) (by rw [results_cell_tmp rfl]; go_simp; rfl) rfl ?_
        rw [HR.out]
        exact ⟨_, rfl, GV.zero _, put3_below HBE.out (by omega) _ _ _⟩
      rw [hs1, hs2]
      clear hs1 hs2
      by_cases hlim : 4096 < n
      · have HR := Lib.hid (HRBIG.out hlim)
        have hli : (4096 : Int) < (n : Int) := by omega
        have kc0 := KC.out.cell 0
        have kc1 := KC.out.cell 1
        have kc2 := KC.out.cell 2
        simp only [List.getElem?_toArray, List.getElem?_cons_zero, List.getElem?_cons_succ] at kc0 kc1 kc2
        have fzkc0 := KC.out.frozen 0
        have fzkc1 := KC.out.frozen 1
        have fzkc2 := KC.out.frozen 2
        go_wp2_with fail
        refine bodyPost_ret (v := .tuple #[zeroNum, .int .i64 3]) (by rw [results_cell_tmp rfl]; go_simp; rfl) rfl ?_
        rw [HR.out]
        exact ⟨_, rfl, GV.zero _, put3_below HBE.out (by omega) _ _ _⟩
      have hli : ¬ (4096 : Int) < (n : Int) := by omega
      have HLI : Hid (n ≤ 4096) := by unfold Hid; omega
      clear hlim
      have ko0 := KO.out.cell 0
      have ko1 := KO.out.cell 1
      have ko2 := KO.out.cell 2
      simp only [List.getElem?_toArray, List.getElem?_cons_zero, List.getElem?_cons_succ] at ko0 ko1 ko2
      have KQN := Lib.hid (Blk.new w31 37 #[.bool false, .slice Au nu cu, .slice Bu mu du])
      have hltO := KO.out.lt
      have hltC := KC.out.lt
      have hltA := KA.out.lt
      go_wp2_with fail
      go_loopg [69] n (fun gk s69 wr => ∃ (k : Nat) (A5 : Option Addr) (n5 c5 : Nat) (A6 : Option Addr) (n6 c6 : Nat), gk + k = n ∧ s69 = .int .i64 (k : Int) ∧ Hid (Blk wr w31.heap.size 37 #[.bool (na && oddB k), .slice A5 n5 c5, .slice A6 n6 c6]) ∧ Hid (RV wr (.agg #[.bool (na && oddB k), .slice A5 n5 c5, .slice A6 n6 c6]) (na && oddB k) (P ^ k) (Q ^ k)) ∧ Hid (blen (P ^ k) ≤ 32 * 128 ∧ blen (Q ^ k) ≤ 32 * 128) ∧ Hid (Blk wr (w.heap.size) 37 #[.bool na, .slice A7 n7 c7, .slice A8 n8 c8]) ∧ Hid (RV wr (.agg #[.bool na, .slice A7 n7 c7, .slice A8 n8 c8]) na P Q) ∧ Hid (Blk wr (w.heap.size + 1 + 1) 24 #[.bool false, .slice none 0 0, .slice none 0 0]) ∧ Hid (Below w.heap.size w wr))
      case atStart =>
        refine ⟨0, Au, nu, cu, Bu, mu, du, by omega, rfl, ?_, ?_, ?_, KA.out.to (below_one w31 (.cells #[.bool false, .slice Au nu cu, .slice Bu mu du] 37)), RA.out.to (below_one w31 (.cells #[.bool false, .slice Au nu cu, .slice Bu mu du] 37)), KC.out.to (below_one w31 (.cells #[.bool false, .slice Au nu cu, .slice Bu mu du] 37)), HBE.out.trans ((below_one w31 (.cells #[.bool false, .slice Au nu cu, .slice Bu mu du] 37)).mono HBE.out.size)⟩
        · rw [HO.out, Bool.and_false]; exact KQN.out
        · rw [HO.out, Bool.and_false, Nat.pow_zero, Nat.pow_zero]; exact Gu.out.to (below_one w31 (.cells #[.bool false, .slice Au nu cu, .slice Bu mu du] 37))
        · rw [Nat.pow_zero, Nat.pow_zero]; exact ⟨by decide, by decide⟩
      case round =>
        have hgq : w.heap.size ≤ w31.heap.size := HBE.out.size
        have hAq : w.heap.size ≠ w31.heap.size := by omega
        have hCq : w.heap.size + 1 + 1 ≠ w31.heap.size := by omega
        generalize w31.heap.size = gQ at *
        clear KA RA KC HBE KQN Gu KO
        obtain ⟨k, A5, n5, c5, A6, n6, c6, hgk, rfl, KQ, RQ, HBL, KA, RA, KC, HBE⟩ := hrel
        by_cases hk : k < n
        · have HON := Lib.hid (odd_next na k)
          have HKN := Lib.hid hk
          have HL1 : Hid ((digs W16 (P ^ k)).length ≤ 300 ∧ (digs W16 (Q ^ k)).length ≤ 300) := by
            have h1 : (digs W16 (P ^ k)).length ≤ 300 := digs_of_blen (Nat.le_trans HBL.out.1 (by decide))
            have h2 : (digs W16 (Q ^ k)).length ≤ 300 := digs_of_blen (Nat.le_trans HBL.out.2 (by decide))
            exact ⟨h1, h2⟩
          have HM1 : Hid (∀ (W : World) (u v : Value), Nat16 W u (P ^ k) → Nat16 W v P → Calls Tryz.prog 55 #[u, v] W (RPost W (P ^ (k + 1)))) := fun W u v h1 h2 => by rw [Nat.pow_succ]; exact rmul_any _ _ u v W h1 h2 (by have := HL1.out; omega) (by have := HPQL.out; omega)
          have HM2 : Hid (∀ (W : World) (u v : Value), Nat16 W u (Q ^ k) → Nat16 W v Q → Calls Tryz.prog 55 #[u, v] W (RPost W (Q ^ (k + 1)))) := fun W u v h1 h2 => by rw [Nat.pow_succ]; exact rmul_any _ _ u v W h1 h2 (by have := HL1.out; omega) (by have := HPQL.out; omega)
          have HL2 : Hid ((digs W16 (P ^ (k + 1))).length ≤ 1000 ∧ (digs W16 (Q ^ (k + 1))).length ≤ 1000) := by
            rw [Nat.pow_succ, Nat.pow_succ]
            exact ⟨Nat.le_trans (digs16_len_mul _ _) (by have := HL1.out; have := HPQL.out; omega), Nat.le_trans (digs16_len_mul _ _) (by have := HL1.out; have := HPQL.out; omega)⟩
          go_wp2_with fail
          refine wp_region_held_drew (S := fun w' => w'.cell? ⟨w.heap.size, 0, none⟩ = some (.bool na) ∧ w'.cell? ⟨w.heap.size, 1, none⟩ = some (.slice A7 n7 c7) ∧ w'.cell? ⟨w.heap.size, 2, none⟩ = some (.slice A8 n8 c8)) (by kernel_rfl) ⟨KA.out.drew.cell 0, KA.out.drew.cell 1, KA.out.drew.cell 2⟩ (fun hHeld => ?_)
          (refine wpAnyH_take (i := 0) (v := ?_) rfl (by kernel_rfl) (by kernel_rfl) (by kernel_rfl) (fun _ _ _ h => h) (Or.inl ⟨by kernel_rfl, ?_⟩) (by assumption) ?_; rotate_left; ((intro w hSw; (try dsimp only at hSw); go_simp) <;> (with_reducible rfl)); (try (simp only [Act.put, List.setIfInBounds_toArray, List.set_cons_succ, List.set_cons_zero, List.getElem_toArray, List.getElem_cons_succ, List.getElem_cons_zero])))
          (refine wpAnyH_take (i := 1) (v := ?_) rfl (by kernel_rfl) (by kernel_rfl) (by kernel_rfl) (fun _ _ _ h => h) (Or.inl ⟨by kernel_rfl, ?_⟩) (by assumption) ?_; rotate_left; ((intro w hSw; (try dsimp only at hSw); go_simp) <;> (with_reducible rfl)); (try (simp only [Act.put, List.setIfInBounds_toArray, List.set_cons_succ, List.set_cons_zero, List.getElem_toArray, List.getElem_cons_succ, List.getElem_cons_zero])))
          (refine wpAnyH_take (i := 2) (v := ?_) rfl (by kernel_rfl) (by kernel_rfl) (by kernel_rfl) (fun _ _ _ h => h) (Or.inl ⟨by kernel_rfl, ?_⟩) (by assumption) ?_; rotate_left; ((intro w hSw; (try dsimp only at hSw); go_simp) <;> (with_reducible rfl)); (try (simp only [Act.put, List.setIfInBounds_toArray, List.set_cons_succ, List.set_cons_zero, List.getElem_toArray, List.getElem_cons_succ, List.getElem_cons_zero])))
          (refine wpAnyH_take (i := 5) (v := ?_) rfl (by kernel_rfl) (by kernel_rfl) (by kernel_rfl) (fun _ _ _ h => h) (Or.inl ⟨by kernel_rfl, ?_⟩) (by assumption) ?_; rotate_left; ((intro w hSw; (try dsimp only at hSw); go_simp) <;> (with_reducible rfl)); (try (simp only [Act.put, List.setIfInBounds_toArray, List.set_cons_succ, List.set_cons_zero, List.getElem_toArray, List.getElem_cons_succ, List.getElem_cons_zero])))
          (refine wpAnyH_take (i := 7) (v := ?_) rfl (by kernel_rfl) (by kernel_rfl) (by kernel_rfl) (fun _ _ _ h => h) (Or.inl ⟨by kernel_rfl, ?_⟩) (by assumption) ?_; rotate_left; ((intro w hSw; (try dsimp only at hSw); go_simp) <;> (with_reducible rfl)); (try (simp only [Act.put, List.setIfInBounds_toArray, List.set_cons_succ, List.set_cons_zero, List.getElem_toArray, List.getElem_cons_succ, List.getElem_cons_zero])))
          (refine wpAnyH_take (i := 8) (v := ?_) rfl (by kernel_rfl) (by kernel_rfl) (by kernel_rfl) (fun _ _ _ h => h) (Or.inl ⟨by kernel_rfl, ?_⟩) (by assumption) ?_; rotate_left; ((intro w hSw; (try dsimp only at hSw); go_simp) <;> (with_reducible rfl)); (try (simp only [Act.put, List.setIfInBounds_toArray, List.set_cons_succ, List.set_cons_zero, List.getElem_toArray, List.getElem_cons_succ, List.getElem_cons_zero])))
          (refine wpAnyH_take (i := 10) (v := ?_) rfl (by kernel_rfl) (by kernel_rfl) (by kernel_rfl) (fun _ _ _ h => h) (Or.inl ⟨by kernel_rfl, ?_⟩) (by assumption) ?_; rotate_left; ((intro w hSw; (try dsimp only at hSw); go_simp) <;> (with_reducible rfl)); (try (simp only [Act.put, List.setIfInBounds_toArray, List.set_cons_succ, List.set_cons_zero, List.getElem_toArray, List.getElem_cons_succ, List.getElem_cons_zero])))
          (refine wpAnyH_take (i := 12) (v := ?_) rfl (by kernel_rfl) (by kernel_rfl) (by kernel_rfl) (fun _ _ _ h => h) (Or.inl ⟨by kernel_rfl, ?_⟩) (by assumption) ?_; rotate_left; ((intro w hSw; (try dsimp only at hSw); go_simp) <;> (with_reducible rfl)); (try (simp only [Act.put, List.setIfInBounds_toArray, List.set_cons_succ, List.set_cons_zero, List.getElem_toArray, List.getElem_cons_succ, List.getElem_cons_zero])))
          (refine wpAnyH_take (i := 13) (v := ?_) rfl (by kernel_rfl) (by kernel_rfl) (by kernel_rfl) (fun _ _ _ h => h) (Or.inl ⟨by kernel_rfl, ?_⟩) (by assumption) ?_; rotate_left; ((intro w hSw; (try dsimp only at hSw); go_simp) <;> (with_reducible rfl)); (try (simp only [Act.put, List.setIfInBounds_toArray, List.set_cons_succ, List.set_cons_zero, List.getElem_toArray, List.getElem_cons_succ, List.getElem_cons_zero])))
          refine wpAnyH_inv0 [3, 4, 6, 9, 11, 14, 15, 16] (fun a0 L aa W => ∃ s74 s75 s77 s80 s82 s85 s86, aa = (((((((a0.put (some 74) s74).put (some 75) s75).put (some 77) s77).put (some 80) s80).put (some 82) s82).put (some 85) s85).put (some 86) s86) ∧ PwInv w (w.heap.size) gQ (w.heap.size + 1 + 1) #[.bool na, .slice A7 n7 c7, .slice A8 n8 c8] (na && oddB k) (na && oddB (k + 1)) na A5 n5 c5 A6 n6 c6 P Q (P ^ k) (Q ^ k) (P ^ (k + 1)) (Q ^ (k + 1)) L s74 s75 s77 s80 s82 s85 s86 W) (by kernel_rfl) (by kernel_rfl) (Nat.le_of_ble_eq_true (by kernel_rfl)) (by kernel_rfl) ?hS ?init ?steps ?done
          case hS =>
            rintro L aa W ⟨s74, s75, s77, s80, s82, s85, s86, -, hI⟩
            exact ⟨hI.1.2.1.cell 0, hI.1.2.1.cell 1, hI.1.2.1.cell 2⟩
          case init =>
            refine ⟨u74, u75, u77, u80, u82, u85, u86, (by simp only [Act.put, List.setIfInBounds_toArray, List.set_cons_succ, List.set_cons_zero]), ⟨HBE.out.drew, KA.out.drew, KC.out.drew, RA.out.to (Below.refl _ _).drew, (RQ.out.to (Below.refl _ _).drew).parts.2.1, (RQ.out.to (Below.refl _ _).drew).parts.2.2⟩, ?_, ?_, ?_, ?_, ?_, ?_, ?_, fun _ => KQ.out.drew, ?_⟩ <;> (intro h; exact absurd h (by decide))
          case steps =>
            clear KA RA KC HBE KQ RQ HBL
            refine Steps.gen5 (fun Q => ?_)
            refine (Steps.cons (i := 3) rfl ?_ (Steps.cons (i := 4) rfl ?_ (Steps.cons (i := 6) rfl ?_ (Steps.cons (i := 9) rfl ?_ (Steps.cons (i := 11) rfl ?_ (Steps.cons (i := 14) rfl ?_ (Steps.cons (i := 15) rfl ?_ (Steps.cons (i := 16) rfl ?_ Steps.nil))))))))
            · intro L aa W hII hL hdep K hK
              obtain ⟨s74, s75, s77, s80, s82, s85, s86, haa, hI⟩ := hII
              refine step_on rfl ?_
              simp only [Go.wp_at_succ, Go.wp_at_zero]
              subst haa
              simp only [Act.put, List.setIfInBounds_toArray, List.set_cons_succ, List.set_cons_zero]
              have h16 := hI.no hL (by omega)
              have hblk := hI.2.2.2.2.2.2.2.2.1 h16
              have hc0 := hblk.cell 0
              have hc1 := hblk.cell 1
              have hc2 := hblk.cell 2
              simp only [List.getElem?_toArray, List.getElem?_cons_zero, List.getElem?_cons_succ] at hc0 hc1 hc2
              have HI := Lib.hid hI
              have HLL := Lib.hid hL
              clear hI hL hdep h16 hblk
              go_simp
              exact hK.out _ _ ⟨.bool (na && oddB k), s75, s77, s80, s82, s85, s86, (by simp only [Act.put, List.setIfInBounds_toArray, List.set_cons_succ, List.set_cons_zero]), HI.out.op3 HLL.out⟩
            · intro L aa W hII hL hdep K hK
              obtain ⟨s74, s75, s77, s80, s82, s85, s86, haa, hI⟩ := hII
              refine step_on rfl ?_
              simp only [Go.wp_at_succ, Go.wp_at_zero]
              subst haa
              simp only [Act.put, List.setIfInBounds_toArray, List.set_cons_succ, List.set_cons_zero]
              have hd : L 3 = true := by simp [Region.binds] at hdep; simp [hdep]
              obtain rfl := hI.2.1 hd
              have HI := Lib.hid hI
              have HLL := Lib.hid hL
              have hon : (!(na == (na && oddB k))) = (na && oddB (k + 1)) := HON.out
              clear hI hL hdep hd
              go_simp
              try rw [hon]
              exact hK.out _ _ ⟨_, .bool (na && oddB (k + 1)), s77, s80, s82, s85, s86, (by simp only [Act.put, List.setIfInBounds_toArray, List.set_cons_succ, List.set_cons_zero]), HI.out.op4 HLL.out⟩
            · intro L aa W hII hL hdep K hK
              obtain ⟨s74, s75, s77, s80, s82, s85, s86, haa, hI⟩ := hII
              refine step_on rfl ?_
              simp only [Go.wp_at_succ, Go.wp_at_zero]
              subst haa
              simp only [Act.put, List.setIfInBounds_toArray, List.set_cons_succ, List.set_cons_zero]
              have h16 := hI.no hL (by omega)
              have hblk := hI.2.2.2.2.2.2.2.2.1 h16
              have hc0 := hblk.cell 0
              have hc1 := hblk.cell 1
              have hc2 := hblk.cell 2
              simp only [List.getElem?_toArray, List.getElem?_cons_zero, List.getElem?_cons_succ] at hc0 hc1 hc2
              have HI := Lib.hid hI
              have HLL := Lib.hid hL
              clear hI hL hdep h16 hblk
              go_simp
              exact hK.out _ _ ⟨s74, s75, .slice A5 n5 c5, s80, s82, s85, s86, (by simp only [Act.put, List.setIfInBounds_toArray, List.set_cons_succ, List.set_cons_zero]), HI.out.op6 HLL.out⟩
            · intro L aa W hII hL hdep K hK
              obtain ⟨s74, s75, s77, s80, s82, s85, s86, haa, hI⟩ := hII
              refine step_on rfl ?_
              simp only [Go.wp_at_succ, Go.wp_at_zero]
              subst haa
              simp only [Act.put, List.setIfInBounds_toArray, List.set_cons_succ, List.set_cons_zero]
              have hd : L 6 = true := by simp [Region.binds] at hdep; simp [hdep]
              obtain rfl := hI.2.2.2.1 hd
              have HI := Lib.hid hI
              have HLL := Lib.hid hL
              clear hI hL hdep hd
              go_simp
              refine (HM1.out _ _ _ (by exact HI.out.1.2.2.2.2.1) (by exact HI.out.1.2.2.2.1.parts.2.1)).mono ?_
              rintro e w3 ⟨v3, rfl, hn3, hb3⟩
              exact hK.out _ _ ⟨s74, s75, _, v3, s82, s85, s86, (by simp only [Act.put, List.setIfInBounds_toArray, List.set_cons_succ, List.set_cons_zero]), HI.out.op9 HLL.out hb3 hn3⟩
            · intro L aa W hII hL hdep K hK
              obtain ⟨s74, s75, s77, s80, s82, s85, s86, haa, hI⟩ := hII
              refine step_on rfl ?_
              simp only [Go.wp_at_succ, Go.wp_at_zero]
              subst haa
              simp only [Act.put, List.setIfInBounds_toArray, List.set_cons_succ, List.set_cons_zero]
              have h16 := hI.no hL (by omega)
              have hblk := hI.2.2.2.2.2.2.2.2.1 h16
              have hc0 := hblk.cell 0
              have hc1 := hblk.cell 1
              have hc2 := hblk.cell 2
              simp only [List.getElem?_toArray, List.getElem?_cons_zero, List.getElem?_cons_succ] at hc0 hc1 hc2
              have HI := Lib.hid hI
              have HLL := Lib.hid hL
              clear hI hL hdep h16 hblk
              go_simp
              exact hK.out _ _ ⟨s74, s75, s77, s80, .slice A6 n6 c6, s85, s86, (by simp only [Act.put, List.setIfInBounds_toArray, List.set_cons_succ, List.set_cons_zero]), HI.out.op11 HLL.out⟩
            · intro L aa W hII hL hdep K hK
              obtain ⟨s74, s75, s77, s80, s82, s85, s86, haa, hI⟩ := hII
              refine step_on rfl ?_
              simp only [Go.wp_at_succ, Go.wp_at_zero]
              subst haa
              simp only [Act.put, List.setIfInBounds_toArray, List.set_cons_succ, List.set_cons_zero]
              have hd : L 11 = true := by simp [Region.binds] at hdep; simp [hdep]
              obtain rfl := hI.2.2.2.2.1 hd
              have HI := Lib.hid hI
              have HLL := Lib.hid hL
              clear hI hL hdep hd
              go_simp
              refine (HM2.out _ _ _ (by exact HI.out.1.2.2.2.2.2) (by exact HI.out.1.2.2.2.1.parts.2.2)).mono ?_
              rintro e w3 ⟨v3, rfl, hn3, hb3⟩
              exact hK.out _ _ ⟨s74, s75, s77, s80, _, v3, s86, (by simp only [Act.put, List.setIfInBounds_toArray, List.set_cons_succ, List.set_cons_zero]), HI.out.op14 HLL.out hb3 hn3⟩
            · intro L aa W hII hL hdep K hK
              obtain ⟨s74, s75, s77, s80, s82, s85, s86, haa, hI⟩ := hII
              refine step_on rfl ?_
              simp only [Go.wp_at_succ, Go.wp_at_zero]
              subst haa
              simp only [Act.put, List.setIfInBounds_toArray, List.set_cons_succ, List.set_cons_zero]
              have hd : L 4 = true ∧ L 9 = true ∧ L 14 = true := by simp [Region.binds] at hdep; simp [hdep]
              obtain rfl := hI.2.2.1 hd.1
              have HI := Lib.hid hI
              have HLL := Lib.hid (And.intro hL hd)
              obtain ⟨D1, e1, f1, rfl, -⟩ := (hI.2.2.2.2.2.1 hd.2.1).form
              obtain ⟨D2, e2, f2, rfl, -⟩ := (hI.2.2.2.2.2.2.1 hd.2.2).form
              clear hI hL hdep hd
              go_simp
              exact hK.out _ _ ⟨s74, _, s77, _, s82, _, .agg #[.bool (na && oddB (k + 1)), .slice D1 e1 f1, .slice D2 e2 f2], (by simp only [Act.put, List.setIfInBounds_toArray, List.set_cons_succ, List.set_cons_zero]), HI.out.op15 HLL.out.1 HLL.out.2⟩
            · intro L aa W hII hL hdep K hK
              obtain ⟨s74, s75, s77, s80, s82, s85, s86, haa, hI⟩ := hII
              refine step_on rfl ?_
              simp only [Go.wp_at_succ, Go.wp_at_zero]
              subst haa
              simp only [Act.put, List.setIfInBounds_toArray, List.set_cons_succ, List.set_cons_zero]
              have hd : (L 3 = true ∧ L 6 = true ∧ L 11 = true ∧ L 15 = true) ∧ (L 4 = true ∧ L 9 = true ∧ L 14 = true) := ⟨⟨dep_of hdep (by kernel_rfl), dep_of hdep (by kernel_rfl), dep_of hdep (by kernel_rfl), dep_of hdep (by kernel_rfl)⟩, dep_of hdep (by kernel_rfl), dep_of hdep (by kernel_rfl), dep_of hdep (by kernel_rfl)⟩
              have e86 := (PwInv.get86 hI hd.1.2.2.2)
              subst e86
              have h16 := hL
              have hblk := hI.2.2.2.2.2.2.2.2.1 h16
              have hc0 := hblk.cell 0
              have hc1 := hblk.cell 1
              have hc2 := hblk.cell 2
              simp only [List.getElem?_toArray, List.getElem?_cons_zero, List.getElem?_cons_succ] at hc0 hc1 hc2
              have hf0 := hblk.frozen 0
              have hf1 := hblk.frozen 1
              have hf2 := hblk.frozen 2
              have HI := Lib.hid hI
              have HLL := Lib.hid (And.intro hL hd)
              refine HI.out.withForms HLL.out.2.2.2.1 HLL.out.2.2.2.2 (fun D1 e1 f1 D2 e2 f2 e80 e85 => ?_)
              subst e80
              subst e85
              clear hI hL hdep hd h16 hblk
              go_simp
              exact hK.out _ (put3 W gQ (.bool (na && oddB (k + 1))) (.slice D1 e1 f1) (.slice D2 e2 f2)) ⟨s74, s75, s77, .slice D1 e1 f1, s82, .slice D2 e2 f2, .agg #[.bool (na && oddB (k + 1)), .slice D1 e1 f1, .slice D2 e2 f2], (by simp only [Act.put, List.setIfInBounds_toArray, List.set_cons_succ, List.set_cons_zero]), HI.out.op16 HLL.out.1 HLL.out.2 hgq hAq hCq⟩
          case done =>
            intro L aa WQ hII hall
            obtain ⟨s74, s75, s77, s80, s82, s85, s86, haa, hI⟩ := hII
            subst haa
            simp only [Act.put, List.setIfInBounds_toArray, List.set_cons_succ, List.set_cons_zero]
            have hL : ∀ i, i < 17 → L i = true := hall
            obtain ⟨⟨h1, h2, h3, h4, -, -⟩, -, -, -, -, g6, g7, -, -, g10⟩ := hI
            have N1 := Lib.hid (g6 (hL 9 (by omega)))
            have N2 := Lib.hid (g7 (hL 14 (by omega)))
            obtain ⟨D1, e1, f1, rfl, -⟩ := N1.out.form
            obtain ⟨D2, e2, f2, rfl, -⟩ := N2.out.form
            have KQ : Hid (Blk WQ gQ 37 #[.bool (na && oddB (k + 1)), .slice D1 e1 f1, .slice D2 e2 f2]) := (g10 (hL 16 (by omega))).2.2
            have KA : Hid (Blk WQ (w.heap.size) 37 #[.bool na, .slice A7 n7 c7, .slice A8 n8 c8]) := h2
            have KC : Hid (Blk WQ (w.heap.size + 1 + 1) 24 #[.bool false, .slice none 0 0, .slice none 0 0]) := h3
            have RA : Hid (RV WQ (.agg #[.bool na, .slice A7 n7 c7, .slice A8 n8 c8]) na P Q) := h4
            have RQ : Hid (RV WQ (.agg #[.bool (na && oddB (k + 1)), .slice D1 e1 f1, .slice D2 e2 f2]) (na && oddB (k + 1)) (P ^ (k + 1)) (Q ^ (k + 1))) := ⟨_, _, rfl, N1.out, N2.out⟩
            have HBE := Lib.hid h1
            clear h1 h2 h3 h4 g6 g7 g10 hall hL N1 N2 HM1 HM2 HON hHeld
            have HLP := Lib.hid (fun (W : World) (v : Value) (h : Nat16 W v (P ^ (k + 1))) => HLE.out W v _ h HL2.out.1)
            have HLQ := Lib.hid (fun (W : World) (v : Value) (h : Nat16 W v (Q ^ (k + 1))) => HLE.out W v _ h HL2.out.2)
            have HRN := Lib.hid (HRNO.out k hk)
            obtain ⟨b1, HB1⟩ : ∃ b1, Hid (blen (P ^ (k + 1)) = b1) := ⟨_, rfl⟩
            obtain ⟨b2, HB2⟩ : ∃ b2, Hid (blen (Q ^ (k + 1)) = b2) := ⟨_, rfl⟩
            rw [HB1.out] at HLP HRN
            rw [HB2.out] at HLQ HRN
            have kq0 := KQ.out.cell 0
            have kq1 := KQ.out.cell 1
            have kq2 := KQ.out.cell 2
            simp only [List.getElem?_toArray, List.getElem?_cons_zero, List.getElem?_cons_succ] at kq0 kq1 kq2
            go_wp2_with fail
            refine (HLP.out _ _ (by exact RQ.out.parts.2.1)).mono ?_
            rintro e w51 ⟨rfl, hb⟩
            clear kq0 kq1 kq2
            replace KA := Lib.hid (KA.out.to hb)
            replace KC := Lib.hid (KC.out.to hb)
            replace KQ := Lib.hid (KQ.out.to hb)
            replace RA := Lib.hid (RA.out.to hb)
            replace RQ := Lib.hid (RQ.out.to hb)
            replace HBE : Hid (Below w.heap.size w w51) := HBE.out.trans ((hb).mono HBE.out.size)
            clear hb
            by_cases hx1 : 4096 < b1
            · have HR := Lib.hid (HRN.out (Or.inl hx1))
              have hxi : (4096 : Int) < (b1 : Int) := by omega
              have kc0 := KC.out.cell 0
              have kc1 := KC.out.cell 1
              have kc2 := KC.out.cell 2
              simp only [List.getElem?_toArray, List.getElem?_cons_zero, List.getElem?_cons_succ] at kc0 kc1 kc2
              have fzkc0 := KC.out.frozen 0
              have fzkc1 := KC.out.frozen 1
              have fzkc2 := KC.out.frozen 2
              go_wp2_with fail
              refine bodyPost_ret (v := .tuple #[zeroNum, .int .i64 3]) (by rw [results_cell_tmp rfl]; go_simp; rfl) rfl ?_
              rw [HR.out]
              exact ⟨_, rfl, GV.zero _, put3_below HBE.out (by omega) _ _ _⟩
            have hxi : ¬ (4096 : Int) < (b1 : Int) := by omega
            have kq0 := KQ.out.cell 0
            have kq1 := KQ.out.cell 1
            have kq2 := KQ.out.cell 2
            simp only [List.getElem?_toArray, List.getElem?_cons_zero, List.getElem?_cons_succ] at kq0 kq1 kq2
            go_wp2_with fail
            refine (HLQ.out _ _ (by exact RQ.out.parts.2.2)).mono ?_
            rintro e w52 ⟨rfl, hb⟩
            clear kq0 kq1 kq2
            replace KA := Lib.hid (KA.out.to hb)
            replace KC := Lib.hid (KC.out.to hb)
            replace KQ := Lib.hid (KQ.out.to hb)
            replace RA := Lib.hid (RA.out.to hb)
            replace RQ := Lib.hid (RQ.out.to hb)
            replace HBE : Hid (Below w.heap.size w w52) := HBE.out.trans ((hb).mono HBE.out.size)
            clear hb
            by_cases hx2 : 4096 < b2
            · have HR := Lib.hid (HRN.out (Or.inr hx2))
              have hxj : (4096 : Int) < (b2 : Int) := by omega
              have kc0 := KC.out.cell 0
              have kc1 := KC.out.cell 1
              have kc2 := KC.out.cell 2
              simp only [List.getElem?_toArray, List.getElem?_cons_zero, List.getElem?_cons_succ] at kc0 kc1 kc2
              have fzkc0 := KC.out.frozen 0
              have fzkc1 := KC.out.frozen 1
              have fzkc2 := KC.out.frozen 2
              go_wp2_with fail
              refine bodyPost_ret (v := .tuple #[zeroNum, .int .i64 3]) (by rw [results_cell_tmp rfl]; go_simp; rfl) rfl ?_
              rw [HR.out]
              exact ⟨_, rfl, GV.zero _, put3_below HBE.out (by omega) _ _ _⟩
            have hxj : ¬ (4096 : Int) < (b2 : Int) := by omega
            go_wp2
            go_roundg (gk - 1)
            case measure => omega
            case rel => exact ⟨k + 1, _, _, _, _, _, _, by omega, by go_num, KQ.out, RQ.out, ⟨by rw [HB1.out]; omega, by rw [HB2.out]; omega⟩, KA.out, RA.out, KC.out, HBE.out⟩
        obtain rfl : k = n := by omega
        clear hgk hk
        have HMD : Hid (∀ (W : World) (v : Value), RV W v (na && oddB k) (P ^ k) (Q ^ k) → Calls Tryz.prog 24 #[v] W (SPost W r)) := fun W v h => by
          rw [HROK.out HLI.out HBL.out.1 HBL.out.2]
          have h1 : (digs W16 (P ^ k)).length ≤ 300 := digs_of_blen (Nat.le_trans HBL.out.1 (by decide))
          have h2 : (digs W16 (Q ^ k)).length ≤ 300 := digs_of_blen (Nat.le_trans HBL.out.2 (by decide))
          exact HMK.out _ _ _ (by omega) (by omega) W v h
        have kq0 := KQ.out.cell 0
        have kq1 := KQ.out.cell 1
        have kq2 := KQ.out.cell 2
        simp only [List.getElem?_toArray, List.getElem?_cons_zero, List.getElem?_cons_succ] at kq0 kq1 kq2
        go_wp2_with fail
        refine (HMD.out _ _ (by exact RQ.out)).mono ?_
        rintro e w61 ⟨v, rfl, hg, hb⟩
        clear kq0 kq1 kq2
        replace KA := Lib.hid (KA.out.to hb)
        replace KC := Lib.hid (KC.out.to hb)
        replace KQ := Lib.hid (KQ.out.to hb)
        replace RA := Lib.hid (RA.out.to hb)
        replace RQ := Lib.hid (RQ.out.to hb)
        replace HBE : Hid (Below w.heap.size w w61) := HBE.out.trans ((hb).mono HBE.out.size)
        clear hb
        obtain ⟨Az, nz, cz, Bz, mz, dz, rfl, hq1, hq2⟩ := hg.form
        have Gz := Lib.hid hg
        clear hq1 hq2 hg
        have kc0 := KC.out.cell 0
        have kc1 := KC.out.cell 1
        have kc2 := KC.out.cell 2
        simp only [List.getElem?_toArray, List.getElem?_cons_zero, List.getElem?_cons_succ] at kc0 kc1 kc2
        have fzkc0 := KC.out.frozen 0
        have fzkc1 := KC.out.frozen 1
        have fzkc2 := KC.out.frozen 2
        go_wp2_with fail
        refine bodyPost_ret (v := .tuple #[.agg #[.bool r.1.neg, .slice Az nz cz, .slice Bz mz dz], .int .i64 r.2]) (by rw [results_cell_tmp rfl]; go_simp) rfl ?_
        exact ⟨_, rfl, Gz.out.put3 KC.out _ _ _, put3_below HBE.out (by omega) _ _ _⟩
end Go.Proofs.YtdfcpkjphdepcaaGreatDoor

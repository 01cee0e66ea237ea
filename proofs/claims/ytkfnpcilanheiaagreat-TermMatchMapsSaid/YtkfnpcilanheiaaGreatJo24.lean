/- term.Size: the number of nodes. And 2 more texts. -/
import Derived.Test.YtkfnpcilanheiaaGreatJo8
import Derived.Test.YtkfnpcilanheiaaGreatJo18
import Derived.Test.YtkfnpcilanheiaaGreatJo23
set_option linter.unusedVariables false
set_option linter.unusedSimpArgs false
set_option maxRecDepth 100000
namespace Go.Proofs.YtkfnpcilanheiaaGreat
open Go.RowKit NumB
set_option maxHeartbeats 3200000 in
theorem sizeP_any {w : World} {t : Tm} {cs : List Value} (h : TC w t cs) : t.count ≤ 1000000 → ∀ (W : World), Below w.heap.size w W →
    Calls Tryz.prog 30 #[.agg cs.toArray] W fun e W' => e = .returned (.int .i64 (t.count : Int)) ∧ Below W.heap.size W W' := by
  induction h with
  | mk k v s n args A B Ar cap cs hk hv hs hA hB hn hcap hm hr ha ih =>
    intro hcn W hW
    have HR := Lib.hid hr
    have HA := Lib.hid ha
    have IH := Lib.hid ih
    have HCT : Hid ((Tm.mk k v s n args).count = 1 + countL args) := rfl
    have HCN := Lib.hid hcn
    unfold maxLen at hm
    have HWB := Lib.hid hW
    generalize (Tm.mk k v s n args).count = ct at *
    generalize n.neg = ng at *
    obtain ⟨A1, q1, rfl, _⟩ := hA
    obtain ⟨B1, q2, rfl, _⟩ := hB
    generalize n.num.length = m1 at *
    generalize n.den.length = m2 at *
    clear hr ha ih hn hk hv hs hW hcn
    obtain ⟨l, hl⟩ : ∃ l, args.length = l := ⟨_, rfl⟩
    rw [hl] at hcap ⊢
    have HL := Lib.hid hl
    clear hl
    have HBA := Lib.hid (below_one W (.cells #[.int .i64 k, .int .i64 v, .string s, .bool ng, .slice A1 m1 q1, .slice B1 m2 q2, .slice Ar l cap] 27))
    go_enter Tryz.func30, Tryz.ntmps30
    go_wp2_with fail
    go_loopg [3, 9] l (fun gk s3 s9 wr => ∃ j c : Nat, gk + j = l ∧ s9 = .int .i64 (j : Int) ∧ s3 = .int .i64 (c : Int) ∧ c ≤ 1000000 ∧ Hid (c = 1 + countL (args.take j)) ∧ Hid (Below W.heap.size W wr))
    case atStart => exact ⟨0, 1, by omega, rfl, rfl, by omega, by unfold Hid; rw [List.take_zero]; simp only [countL], HBA.out⟩
    case round =>
      obtain ⟨j, c, hgj, rfl, rfl, hcm, HC, HB⟩ := hrel
      by_cases hj : j < l
      · have hja : j < args.length := by rw [HL.out]; exact hj
        have HBW := HWB.out.trans (HB.out.mono HWB.out.size)
        obtain ⟨b, o, k', v', s', ng', A2, n2, c2, B2, m3, d2, Xr, xl, xc, hAr, hcs, hlt, e0, e1, e2, e3, e4, e5, e6⟩ := arg_cells HR.out HA.out HBW hja
        subst hAr
        have h1 := countL_take args hja
        have h2 := HC.out
        have h3 := HCT.out
        have h4 := HCN.out
        have h5 := countL_le args (j + 1)
        have HCALL : Hid (∀ W', Below wr.heap.size wr W' → Calls Tryz.prog 30 #[.agg #[.int .i64 k', .int .i64 v', .string s', .bool ng', .slice A2 n2 c2, .slice B2 m3 d2, .slice Xr xl xc]] W' fun e w' => e = .returned (.int .i64 ((args[j]).count : Int)) ∧ Below W'.heap.size W' w') := fun W' hb => by
          have := IH.out j hja (by omega) W' (HBW.trans (hb.mono HBW.size))
          rw [hcs] at this
          exact this
        have HZ : Hid (c + (args[j]).count = 1 + countL (args.take (j + 1))) := by show _ = _; rw [h1]; omega
        have hzb : c + (args[j]).count ≤ 1000000 := by omega
        clear h1 h2 h3 h4 h5
        generalize (args[j]).count = cj at *
        go_wp2_with fail
        refine (HCALL.out _ (by exact below_one _ _)).mono ?_
        rintro e w3 ⟨rfl, hb⟩
        have HB3 := Lib.hid (HB.out.trans (((below_one wr (.cells #[.int .i64 k', .int .i64 v', .string s', .bool ng', .slice A2 n2 c2, .slice B2 m3 d2, .slice Xr xl xc] 27)).trans (hb.mono (below_one wr _).size)).mono HB.out.size))
        clear hb e0 e1 e2 e3 e4 e5 e6 HCALL
        go_wp2_with fail
        go_roundg (gk - 1)
        case measure => omega
        case rel => exact ⟨j + 1, c + cj, by omega, by go_num, by go_num, hzb, HZ, HB3.out⟩
      · obtain rfl : j = l := by omega
        have h2 := HC.out
        rw [List.take_of_length_le (by rw [HL.out]; exact Nat.le_refl _), ← HCT.out] at h2
        subst h2
        go_wp2_with fail
        go_ret
        exact ⟨rfl, HB.out⟩
mutual
def Tm.grow (f : Int → Option Tm) : Tm → Nat
  | .mk k v s n args => (if k = 1 then (match f v with | some x => x.count - 1 | none => 0) else 0) + growL f args
def growL (f : Int → Option Tm) : List Tm → Nat
  | [] => 0
  | t :: l => t.grow f + growL f l
end
theorem growL_take (f : Int → Option Tm) (l : List Tm) {j : Nat} (hj : j < l.length) : growL f (l.take (j + 1)) = growL f (l.take j) + (l[j]).grow f := by
  induction l generalizing j with
  | nil => cases hj
  | cons t l ih =>
    cases j with
    | zero => simp only [List.take_succ_cons, List.take_zero, growL, List.getElem_cons_zero]; omega
    | succ j =>
      simp only [List.take_succ_cons, growL, List.getElem_cons_succ]
      rw [ih (by simpa using hj)]
      omega
theorem growL_take_le (f : Int → Option Tm) (l : List Tm) (j : Nat) : growL f (l.take j) ≤ growL f l := by
  induction l generalizing j with
  | nil => simp [growL]
  | cons t l ih =>
    cases j with
    | zero => simp [growL]
    | succ j => simp only [List.take_succ_cons, growL]; have := ih j; omega
mutual
theorem Tm.grow_le {f : Int → Option Tm} (hf : ∀ v x, f v = some x → x.count ≤ 10000) : ∀ (t : Tm), t.grow f ≤ 10000 * t.count
  | .mk k v s n args => by
    have h := growL_le hf args
    rw [Tm.grow, Tm.count]
    split
    · cases hx : f v with
      | none => simp only; omega
      | some x => have := hf v x hx; simp only; omega
    · omega
theorem growL_le {f : Int → Option Tm} (hf : ∀ v x, f v = some x → x.count ≤ 10000) : ∀ (l : List Tm), growL f l ≤ 10000 * countL l
  | [] => by rw [growL]; exact Nat.zero_le _
  | t :: l => by
    have h1 := t.grow_le hf
    have h2 := growL_le hf l
    rw [growL, countL]
    omega
end
theorem count_pos (t : Tm) : 0 < t.count := by cases t; rw [Tm.count]; omega
mutual
def Tm.bare : Tm → Prop
  | .mk k _ _ _ args => (k = 1 → args = []) ∧ bareL args
def bareL : List Tm → Prop
  | [] => True
  | t :: l => t.bare ∧ bareL l
end
mutual
theorem Tm.count_repl (f : Int → Option Tm) : ∀ (t : Tm), t.bare → (t.repl f).count = t.count + t.grow f
  | .mk k v s n args, h => by
    rw [Tm.bare] at h
    have h2 := countL_repl f args h.2
    rw [Tm.repl, Tm.grow]
    by_cases hk : k = 1
    · rw [if_pos hk, if_pos hk]
      have ha := h.1 hk
      subst ha
      cases hx : f v with
      | none => simp only [replL, growL, Nat.add_zero]
      | some x => have := count_pos x; simp only [growL, Tm.count, countL]; omega
    · rw [if_neg hk, if_neg hk, Tm.count, Tm.count, h2]
      omega
theorem countL_repl (f : Int → Option Tm) : ∀ (l : List Tm), bareL l → countL (replL f l) = countL l + growL f l
  | [], _ => by rw [replL, growL]; rfl
  | t :: l, h => by
    rw [bareL] at h
    have h1 := t.count_repl f h.1
    have h2 := countL_repl f l h.2
    rw [replL, growL, countL, countL]
    omega
end
mutual
theorem Tm.bare_of : ∀ (t : Tm), t.err0 = 0 → t.bare
  | .mk k v s n args, h => by
    obtain ⟨h1, h2⟩ := err0_node h
    rw [Tm.bare]
    refine ⟨fun hk => ?_, bareL_of args h2⟩
    have : args.length = 0 := by
      rcases node_parts h1 with ⟨_, _, _, _, h5⟩ | ⟨_, _, _, _, h6⟩
      · exact h5
      · rcases h6 with h6 | h6 | h6 | h6
        · exact h6.2.2.2.2
        · omega
        · omega
        · omega
    exact List.eq_nil_of_length_eq_zero this
theorem bareL_of : ∀ (l : List Tm), errL l = 0 → bareL l
  | [], _ => by rw [bareL]; trivial
  | t :: l, h => by
    rw [errL] at h
    by_cases h1 : t.err0 = 0
    · rw [if_pos h1] at h
      rw [bareL]
      exact ⟨t.bare_of h1, bareL_of l h⟩
    · rw [if_neg h1] at h; exact absurd h h1
end
set_option maxHeartbeats 6400000 in
theorem grown_any {w : World} (fby : FuncId) (bc : Nat) (hen : ∀ args w, (callFunc fby args).run Tryz.prog w = .ok (.enter fby args) w) (f : Int → Option Tm) (hcf : ∀ v x, f v = some x → x.count ≤ 10000) (hby : ∀ v W, Below w.heap.size w W → Calls Tryz.prog fby #[.int .i64 v, .pointer (some ⟨bc, 0, none⟩)] W fun e W' => ∃ cx tx, e = .returned (.tuple #[.agg cx.toArray, .bool (f v).isSome]) ∧ TC W' tx cx ∧ (∀ x, f v = some x → tx = x) ∧ Below W.heap.size W W')
    {t : Tm} {cs : List Value} (h : TC w t cs) : t.count ≤ 10000 → ∀ (W : World), Below w.heap.size w W →
    Calls Tryz.prog 31 #[.agg cs.toArray, .func (.func fby) #[] #[.pointer (some ⟨bc, 0, none⟩)]] W fun e W' => e = .returned (.int .i64 (t.grow f : Int)) ∧ Below W.heap.size W W' := by
  have HBY := Lib.hid hby
  have HCF := Lib.hid hcf
  have HEN := Lib.hid hen
  clear hby hcf hen
  induction h with
  | mk k v s n args A B Ar cap cs hk hv hs hA hB hn hcap hm hr ha ih =>
    intro hcn W hW
    have hct : (Tm.mk k v s n args).count = 1 + countL args := rfl
    have hgl := growL_le HCF.out args
    have HGL : Hid (∀ j, growL f (args.take j) ≤ 100000000) := fun j => by
      have := growL_take_le f args j
      omega
    have IH : Hid (∀ i (h : i < args.length) (W : World), Below w.heap.size w W → Calls Tryz.prog 31 #[.agg (cs i).toArray, .func (.func fby) #[] #[.pointer (some ⟨bc, 0, none⟩)]] W fun e W' => e = .returned (.int .i64 ((args[i]).grow f : Int)) ∧ Below W.heap.size W W') := fun i h W hb => ih i h (by have := countL_take args h; have := countL_le args (i + 1); omega) W hb
    have HGR : Hid ((k = 1 → ∀ x, f v = some x → (Tm.mk k v s n args).grow f = (x.count - 1) + growL f args) ∧ (k = 1 → f v = none → (Tm.mk k v s n args).grow f = 0 + growL f args) ∧ (k ≠ 1 → (Tm.mk k v s n args).grow f = 0 + growL f args)) := by
      refine ⟨fun h x hx => ?_, fun h hx => ?_, fun h => ?_⟩
      · rw [Tm.grow, if_pos h, hx]
      · rw [Tm.grow, if_pos h, hx]
      · rw [Tm.grow, if_neg h]
    generalize (Tm.mk k v s n args).grow f = gt at *
    clear hgl hct hcn
    have HR := Lib.hid hr
    have HA := Lib.hid ha
    have HWB := Lib.hid hW
    unfold maxLen at hm
    generalize n.neg = ng at *
    obtain ⟨A1, q1, rfl, _⟩ := hA
    obtain ⟨B1, q2, rfl, _⟩ := hB
    generalize n.num.length = m1 at *
    generalize n.den.length = m2 at *
    clear hr ha ih hn hk hv hs hW
    obtain ⟨l, hl⟩ : ∃ l, args.length = l := ⟨_, rfl⟩
    rw [hl] at hcap ⊢
    have HL := Lib.hid hl
    clear hl
    have HB1 : Hid (Below W.heap.size W (W.alloc (.cells #[.int .i64 k, .int .i64 v, .string s, .bool ng, .slice A1 m1 q1, .slice B1 m2 q2, .slice Ar l cap] 27))) := below_one W _
    have HK1 : Hid (Blk (W.alloc (.cells #[.int .i64 k, .int .i64 v, .string s, .bool ng, .slice A1 m1 q1, .slice B1 m2 q2, .slice Ar l cap] 27)) W.heap.size 27 #[.int .i64 k, .int .i64 v, .string s, .bool ng, .slice A1 m1 q1, .slice B1 m2 q2, .slice Ar l cap]) := Blk.new W _ _
    go_enter Tryz.func31, Tryz.ntmps31
    by_cases hk1 : k = 1
    · have hkb : (k == 1) = true := by simp [hk1]
      have HK1E := Lib.hid hk1
      clear hk1
      have hen := HEN.out
      have HBV := Lib.hid (HBY.out v)
      cases hfv : f v with
      | some x =>
        rw [hfv] at HBV
        simp only [Option.isSome_some] at HBV
        go_wp2_with fail
        refine (HBV.out _ (by exact HWB.out.trans (HB1.out.mono HWB.out.size))).mono ?_
        rintro e w1 ⟨cx, tx, rfl, htx, hx, hb1⟩
        obtain rfl := hx x rfl
        obtain ⟨k7, v7, s7, n7, A7, a7, c7, B7, b7, d7, X7, x7, e7, hf7⟩ := htx.form
        subst hf7
        have HCX := Lib.hid (fun W' hb => sizeP_any htx (by have := HCF.out v _ hfv; omega) W' hb)
        have hcb := HCF.out v _ hfv
        have hcp := count_pos tx
        have HA0 : Hid (tx.count - 1 ≤ 10000) := by show _ ≤ _; omega
        have hxc : ((tx.count : Int) - 1) = ((tx.count - 1 : Nat) : Int) := by omega
        have HGT := Lib.hid (HGR.out.1 HK1E.out _ hfv)
        have HB2 : Hid (Below W.heap.size W (w1.alloc (.cells #[.int .i64 k7, .int .i64 v7, .string s7, .bool n7, .slice A7 a7 c7, .slice B7 b7 d7, .slice X7 x7 e7] 27))) := HB1.out.trans ((hb1.trans ((below_one w1 _).mono hb1.size)).mono HB1.out.size)
        have HK2 := Lib.hid ((HK1.out.to hb1).to (below_one w1 (.cells #[.int .i64 k7, .int .i64 v7, .string s7, .bool n7, .slice A7 a7 c7, .slice B7 b7 d7, .slice X7 x7 e7] 27)))
        generalize tx.count = tc at *
        have htc : (tc : Int) ≤ 10000 := by omega
        have htp : (0 : Int) < (tc : Int) := by omega
        clear htx hx hb1 hen HBV HB1 HK1 hfv HK1E hcb hcp HGR
        obtain ⟨a0, ha0⟩ : ∃ a0, tc - 1 = a0 := ⟨_, rfl⟩
        rw [ha0] at HGT HA0 hxc
        clear ha0
        go_wp2_with fail
        refine (HCX.out _ (by exact below_one w1 _)).mono ?_
        rintro e w5 ⟨rfl, hb5⟩
        have HB5 : Hid (Below W.heap.size W w5) := HB2.out.trans (hb5.mono HB2.out.size)
        have HK5 := Lib.hid (HK2.out.to hb5)
        clear hb5 HB2 HK2 HCX
        have y6 := HK5.out.cell 6
        simp only [List.getElem?_toArray, List.getElem?_cons_zero, List.getElem?_cons_succ] at y6
        go_wp2_with fail
        go_loopg [5, 27] l (fun gk s5 s27 wr => ∃ j c : Nat, gk + j = l ∧ s27 = .int .i64 (j : Int) ∧ s5 = .int .i64 (c : Int) ∧ (c : Int) ≤ 1000000000 ∧ Hid (c = a0 + growL f (args.take j)) ∧ Hid (Below W.heap.size W wr))
        case atStart => exact ⟨0, a0, by omega, rfl, by first | rfl | (congr 1; omega), by have := HA0.out; omega, by unfold Hid; rw [List.take_zero]; simp only [growL]; omega, HB5.out⟩
        case round =>
          clear HB5 HK5
          obtain ⟨j, c, hgj, rfl, rfl, hcm, HC, HB⟩ := hrel
          by_cases hj : j < l
          · have hja : j < args.length := by rw [HL.out]; exact hj
            have HBW := HWB.out.trans (HB.out.mono HWB.out.size)
            obtain ⟨b, o, k', v', s', ng', A2, n2, c2, B2, m3, d2, Xr, xl, xc, hAr, hcs, hlt, e0, e1, e2, e3, e4, e5, e6⟩ := arg_cells HR.out HA.out HBW hja
            subst hAr
            have h1 := growL_take f args hja
            have h2 := HC.out
            have h3 := HGL.out (j + 1)
            have HCALL : Hid (∀ W', Below wr.heap.size wr W' → Calls Tryz.prog 31 #[.agg #[.int .i64 k', .int .i64 v', .string s', .bool ng', .slice A2 n2 c2, .slice B2 m3 d2, .slice Xr xl xc], .func (.func fby) #[] #[.pointer (some ⟨bc, 0, none⟩)]] W' fun e w' => e = .returned (.int .i64 ((args[j]).grow f : Int)) ∧ Below W'.heap.size W' w') := fun W' hb => by
              have := IH.out j hja W' (HBW.trans (hb.mono HBW.size))
              rw [hcs] at this
              exact this
            have HZ : Hid (c + (args[j]).grow f = a0 + growL f (args.take (j + 1))) := by show _ = _; rw [h1]; omega
            have hzb : (c : Int) + ((args[j]).grow f : Int) ≤ 1000000000 := by omega
            clear h1 h2 h3
            generalize (args[j]).grow f = cj at *
            go_wp2_with fail
            refine (HCALL.out _ (by exact below_one _ _)).mono ?_
            rintro e w3 ⟨rfl, hb⟩
            have HB3 := Lib.hid (HB.out.trans (((below_one wr (.cells #[.int .i64 k', .int .i64 v', .string s', .bool ng', .slice A2 n2 c2, .slice B2 m3 d2, .slice Xr xl xc] 27)).trans (hb.mono (below_one wr _).size)).mono HB.out.size))
            clear hb e0 e1 e2 e3 e4 e5 e6 HCALL
            go_wp2_with fail
            go_roundg (gk - 1)
            case measure => omega
            case rel => exact ⟨j + 1, c + cj, by omega, by go_num, by go_num, by omega, HZ, HB3.out⟩
          · obtain rfl : j = l := by omega
            have h2 := HC.out
            rw [List.take_of_length_le (by rw [HL.out]; exact Nat.le_refl _), ← HGT.out] at h2
            subst h2
            go_wp2_with fail
            go_ret
            exact ⟨rfl, HB.out⟩
      | none =>
        rw [hfv] at HBV
        simp only [Option.isSome_none] at HBV
        go_wp2_with fail
        refine (HBV.out _ (by exact HWB.out.trans (HB1.out.mono HWB.out.size))).mono ?_
        rintro e w1 ⟨cx, tx, rfl, htx, hx, hb1⟩
        obtain ⟨k7, v7, s7, n7, A7, a7, c7, B7, b7, d7, X7, x7, e7, hf7⟩ := htx.form
        subst hf7
        obtain ⟨a0, ha0⟩ : ∃ a0 : Nat, a0 = 0 := ⟨_, rfl⟩
        have HA0 : Hid (a0 ≤ 10000) := by show _ ≤ _; omega
        have HGT := Lib.hid (HGR.out.2.1 HK1E.out hfv)
        rw [← ha0] at HGT
        have HB5 : Hid (Below W.heap.size W (w1.alloc (.cells #[.int .i64 k7, .int .i64 v7, .string s7, .bool n7, .slice A7 a7 c7, .slice B7 b7 d7, .slice X7 x7 e7] 27))) := HB1.out.trans ((hb1.trans ((below_one w1 _).mono hb1.size)).mono HB1.out.size)
        have HK5 := Lib.hid ((HK1.out.to hb1).to (below_one w1 (.cells #[.int .i64 k7, .int .i64 v7, .string s7, .bool n7, .slice A7 a7 c7, .slice B7 b7 d7, .slice X7 x7 e7] 27)))
        clear htx hx hb1 hen HBV HB1 HK1 hfv HK1E HGR
        have y6 := HK5.out.cell 6
        simp only [List.getElem?_toArray, List.getElem?_cons_zero, List.getElem?_cons_succ] at y6
        go_wp2_with fail
        go_loopg [5, 27] l (fun gk s5 s27 wr => ∃ j c : Nat, gk + j = l ∧ s27 = .int .i64 (j : Int) ∧ s5 = .int .i64 (c : Int) ∧ (c : Int) ≤ 1000000000 ∧ Hid (c = a0 + growL f (args.take j)) ∧ Hid (Below W.heap.size W wr))
        case atStart => exact ⟨0, a0, by omega, rfl, by first | rfl | (congr 1; omega), by have := HA0.out; omega, by unfold Hid; rw [List.take_zero]; simp only [growL]; omega, HB5.out⟩
        case round =>
          clear HB5 HK5
          obtain ⟨j, c, hgj, rfl, rfl, hcm, HC, HB⟩ := hrel
          by_cases hj : j < l
          · have hja : j < args.length := by rw [HL.out]; exact hj
            have HBW := HWB.out.trans (HB.out.mono HWB.out.size)
            obtain ⟨b, o, k', v', s', ng', A2, n2, c2, B2, m3, d2, Xr, xl, xc, hAr, hcs, hlt, e0, e1, e2, e3, e4, e5, e6⟩ := arg_cells HR.out HA.out HBW hja
            subst hAr
            have h1 := growL_take f args hja
            have h2 := HC.out
            have h3 := HGL.out (j + 1)
            have HCALL : Hid (∀ W', Below wr.heap.size wr W' → Calls Tryz.prog 31 #[.agg #[.int .i64 k', .int .i64 v', .string s', .bool ng', .slice A2 n2 c2, .slice B2 m3 d2, .slice Xr xl xc], .func (.func fby) #[] #[.pointer (some ⟨bc, 0, none⟩)]] W' fun e w' => e = .returned (.int .i64 ((args[j]).grow f : Int)) ∧ Below W'.heap.size W' w') := fun W' hb => by
              have := IH.out j hja W' (HBW.trans (hb.mono HBW.size))
              rw [hcs] at this
              exact this
            have HZ : Hid (c + (args[j]).grow f = a0 + growL f (args.take (j + 1))) := by show _ = _; rw [h1]; omega
            have hzb : (c : Int) + ((args[j]).grow f : Int) ≤ 1000000000 := by omega
            clear h1 h2 h3
            generalize (args[j]).grow f = cj at *
            go_wp2_with fail
            refine (HCALL.out _ (by exact below_one _ _)).mono ?_
            rintro e w3 ⟨rfl, hb⟩
            have HB3 := Lib.hid (HB.out.trans (((below_one wr (.cells #[.int .i64 k', .int .i64 v', .string s', .bool ng', .slice A2 n2 c2, .slice B2 m3 d2, .slice Xr xl xc] 27)).trans (hb.mono (below_one wr _).size)).mono HB.out.size))
            clear hb e0 e1 e2 e3 e4 e5 e6 HCALL
            go_wp2_with fail
            go_roundg (gk - 1)
            case measure => omega
            case rel => exact ⟨j + 1, c + cj, by omega, by go_num, by go_num, by omega, HZ, HB3.out⟩
          · obtain rfl : j = l := by omega
            have h2 := HC.out
            rw [List.take_of_length_le (by rw [HL.out]; exact Nat.le_refl _), ← HGT.out] at h2
            subst h2
            go_wp2_with fail
            go_ret
            exact ⟨rfl, HB.out⟩
    · have hkb : (k == 1) = false := beq_eq_false_iff_ne.2 hk1
      obtain ⟨a0, ha0⟩ : ∃ a0 : Nat, a0 = 0 := ⟨_, rfl⟩
      have HA0 : Hid (a0 ≤ 10000) := by show _ ≤ _; omega
      have HGT := Lib.hid (HGR.out.2.2 hk1)
      rw [← ha0] at HGT
      have HB5 := HB1
      have HK5 := HK1
      clear HB1 HK1 HGR hk1
      have y6 := HK5.out.cell 6
      simp only [List.getElem?_toArray, List.getElem?_cons_zero, List.getElem?_cons_succ] at y6
      go_wp2_with fail
      go_loopg [5, 27] l (fun gk s5 s27 wr => ∃ j c : Nat, gk + j = l ∧ s27 = .int .i64 (j : Int) ∧ s5 = .int .i64 (c : Int) ∧ (c : Int) ≤ 1000000000 ∧ Hid (c = a0 + growL f (args.take j)) ∧ Hid (Below W.heap.size W wr))
      case atStart => exact ⟨0, a0, by omega, rfl, by first | rfl | (congr 1; omega), by have := HA0.out; omega, by unfold Hid; rw [List.take_zero]; simp only [growL]; omega, HB5.out⟩
      case round =>
        clear HB5 HK5
        obtain ⟨j, c, hgj, rfl, rfl, hcm, HC, HB⟩ := hrel
        by_cases hj : j < l
        · have hja : j < args.length := by rw [HL.out]; exact hj
          have HBW := HWB.out.trans (HB.out.mono HWB.out.size)
          obtain ⟨b, o, k', v', s', ng', A2, n2, c2, B2, m3, d2, Xr, xl, xc, hAr, hcs, hlt, e0, e1, e2, e3, e4, e5, e6⟩ := arg_cells HR.out HA.out HBW hja
          subst hAr
          have h1 := growL_take f args hja
          have h2 := HC.out
          have h3 := HGL.out (j + 1)
          have HCALL : Hid (∀ W', Below wr.heap.size wr W' → Calls Tryz.prog 31 #[.agg #[.int .i64 k', .int .i64 v', .string s', .bool ng', .slice A2 n2 c2, .slice B2 m3 d2, .slice Xr xl xc], .func (.func fby) #[] #[.pointer (some ⟨bc, 0, none⟩)]] W' fun e w' => e = .returned (.int .i64 ((args[j]).grow f : Int)) ∧ Below W'.heap.size W' w') := fun W' hb => by
            have := IH.out j hja W' (HBW.trans (hb.mono HBW.size))
            rw [hcs] at this
            exact this
          have HZ : Hid (c + (args[j]).grow f = a0 + growL f (args.take (j + 1))) := by show _ = _; rw [h1]; omega
          have hzb : (c : Int) + ((args[j]).grow f : Int) ≤ 1000000000 := by omega
          clear h1 h2 h3
          generalize (args[j]).grow f = cj at *
          go_wp2_with fail
          refine (HCALL.out _ (by exact below_one _ _)).mono ?_
          rintro e w3 ⟨rfl, hb⟩
          have HB3 := Lib.hid (HB.out.trans (((below_one wr (.cells #[.int .i64 k', .int .i64 v', .string s', .bool ng', .slice A2 n2 c2, .slice B2 m3 d2, .slice Xr xl xc] 27)).trans (hb.mono (below_one wr _).size)).mono HB.out.size))
          clear hb e0 e1 e2 e3 e4 e5 e6 HCALL
          go_wp2_with fail
          go_roundg (gk - 1)
          case measure => omega
          case rel => exact ⟨j + 1, c + cj, by omega, by go_num, by go_num, by omega, HZ, HB3.out⟩
        · obtain rfl : j = l := by omega
          have h2 := HC.out
          rw [List.take_of_length_le (by rw [HL.out]; exact Nat.le_refl _), ← HGT.out] at h2
          subst h2
          go_wp2_with fail
          go_ret
          exact ⟨rfl, HB.out⟩
def keyI (v : Value) : Int := match v with | .int _ i => i | _ => 0
def atI (es : List MapEntry) (i : Int) : Option Value := (es.find? fun x => keyI x.key == i).map (·.val)
def MapI (w : World) (b n : Nat) (f : Int → Option Value) : Prop :=
  ∃ es clock, w.heap[b]? = some (.map es clock) ∧ es.size ≤ n ∧ (∀ x ∈ es.toList, ∃ i : Int, x.key = .int .i64 i) ∧ ∀ i, atI es.toList i = f i
theorem MapI.empty {w : World} {b : Nat} {c : Nat} (h : w.heap[b]? = some (.map #[] c)) : MapI w b 0 (fun _ => none) :=
  ⟨#[], c, h, Nat.le_refl _, fun x hx => by simp at hx, fun i => rfl⟩
theorem MapI.is {w : World} {b n : Nat} {f : Int → Option Value} (h : MapI w b n f) : ∃ es c, w.heap[b]? = some (.map es c) := by
  obtain ⟨es, c, h, _⟩ := h
  exact ⟨es, c, h⟩
theorem MapI.keep {w w' : World} {b n : Nat} {f : Int → Option Value} (h : MapI w b n f) (hs : w'.heap[b]? = w.heap[b]?) : MapI w' b n f := by
  obtain ⟨es, c, h, r⟩ := h
  exact ⟨es, c, hs.trans h, r⟩
theorem MapI.mono {w : World} {b n n' : Nat} {f : Int → Option Value} (h : MapI w b n f) (hn : n ≤ n') : MapI w b n' f := by
  obtain ⟨es, c, h, h2, r⟩ := h
  exact ⟨es, c, h, Nat.le_trans h2 hn, r⟩
theorem atI_cons (e : MapEntry) (es : List MapEntry) (i : Int) : atI (e :: es) i = if keyI e.key = i then some e.val else atI es i := by
  unfold atI
  rw [List.find?_cons]
  by_cases h : keyI e.key = i
  · simp [h]
  · have h1 : (keyI e.key == i) = false := by simpa using h
    simp [h, h1]
theorem findNow_int (i : Int) : ∀ (es : List MapEntry), (∀ x ∈ es, ∃ j : Int, x.key = .int .i64 j) → ∀ k, ∃ r, Instr.findNow (.int .i64) (.int .i64 i) es k = some r ∧ (r = none → atI es i = none) ∧
    ∀ j v, r = some (j, v) → k ≤ j ∧ atI es i = some v ∧ (∃ e, es[j - k]? = some e ∧ e.key = .int .i64 i) ∧
      ∀ v' i', atI (es.modify (j - k) fun e => { e with key := .int .i64 i, val := v' }) i' = if i' = i then some v' else atI es i' := by
  intro es
  induction es with
  | nil => intro _ k; exact ⟨none, rfl, fun _ => rfl, fun j v h => by cases h⟩
  | cons e es ih =>
    intro hes k
    obtain ⟨j0, hj0⟩ := hes e (by simp)
    have hs : Instr.sameNow (.int .i64) (.int .i64 i) e.key = some (i == j0) := by rw [hj0]; simp [Instr.sameNow]
    have hk : keyI e.key = j0 := by rw [hj0]; rfl
    by_cases h : i = j0
    · subst h
      refine ⟨some (k, e.val), by unfold Instr.findNow; rw [hs]; simp, (fun h => by cases h), fun j v h => ?_⟩
      simp only [Option.some.injEq, Prod.mk.injEq] at h
      obtain ⟨rfl, rfl⟩ := h
      refine ⟨Nat.le_refl _, by rw [atI_cons, if_pos hk], ⟨e, by simp, hj0⟩, fun v' i' => ?_⟩
      rw [Nat.sub_self, List.modify_zero_cons, atI_cons, atI_cons, hk]
      show (if i = i' then some v' else atI es i') = _
      by_cases h' : i' = i
      · rw [if_pos h'.symm, if_pos h']
      · rw [if_neg (fun q : i = i' => h' q.symm), if_neg h', if_neg (fun q : i = i' => h' q.symm)]
    · have h1 : (i == j0) = false := by simpa using h
      have h2 : ¬ j0 = i := fun q => h q.symm
      obtain ⟨r, hr, hr1, hr2⟩ := ih (fun x hx => hes x (by simp [hx])) (k + 1)
      refine ⟨r, by unfold Instr.findNow; rw [hs, h1]; exact hr, fun hn => by rw [atI_cons, hk, if_neg h2]; exact hr1 hn, fun j v hj => ?_⟩
      obtain ⟨a1, a2, ⟨e', a3, a4⟩, a5⟩ := hr2 j v hj
      have e1 : j - k = (j - (k + 1)) + 1 := by omega
      refine ⟨by omega, by rw [atI_cons, hk, if_neg h2]; exact a2, ⟨e', by rw [e1]; simpa using a3, a4⟩, fun v' i' => ?_⟩
      rw [e1, List.modify_succ_cons, atI_cons, atI_cons, hk, a5 v' i']
      by_cases h3 : j0 = i'
      · subst h3
        rw [if_pos rfl, if_neg h2, if_pos rfl]
      · rw [if_neg h3, if_neg h3]
theorem findKey_int (i : Int) {w : World} {es : List MapEntry} (hes : ∀ x ∈ es, ∃ j : Int, x.key = .int .i64 j) : ∃ r, (Instr.findKey 3 (.int .i64 i) es).run Tryz.prog w = .ok r w ∧ (r = none → atI es i = none) ∧
    ∀ j v, r = some (j, v) → atI es i = some v ∧ (∃ e, es[j]? = some e ∧ e.key = .int .i64 i) ∧
      ∀ v' i', atI (es.modify j fun e => { e with key := .int .i64 i, val := v' }) i' = if i' = i then some v' else atI es i' := by
  obtain ⟨r, hr, h1, h2⟩ := findNow_int i es hes 0
  have hu : Tryz.prog.underlying 3 = some (.int .i64) := by kernel_rfl
  exact ⟨r, by simp [Instr.findKey, Sem.run_bind, run_underlying hu, Result.andThen_ok, hr, Sem.run_pure], h1, fun j v h => (h2 j v h).2⟩
theorem mapI_look {et mt : TypeId} {w : World} (hm : Tryz.prog.underlying mt = some (.map 3 et)) {z : Value} (hz : (zeroValue et).run Tryz.prog w = .ok z w) {b n : Nat} {f : Int → Option Value} (hM : MapI w b n f) (i : Int) :
    (Instr.lookup mt (.map (some b)) (.int .i64 i) true).run Tryz.prog w = .ok (.tuple #[(f i).getD z, .bool (f i).isSome]) w ∧ (Instr.lookup mt (.map (some b)) (.int .i64 i) false).run Tryz.prog w = .ok ((f i).getD z) w := by
  obtain ⟨es, clock, hb, hn, hes, hf⟩ := hM
  have hc := fun e => (keys_int w).check e (.int .i64 i) ⟨i, rfl⟩
  obtain ⟨r, hr, hr1, hr2⟩ := findKey_int (w := w) i hes
  rw [← hf i]
  cases r with
  | none =>
    rw [hr1 rfl]
    exact ⟨by simp [Instr.lookup, Sem.run_bind, run_underlying hm, Result.andThen_ok, getObj, Sem.run, hb, hc, hr, hz], by simp [Instr.lookup, Sem.run_bind, run_underlying hm, Result.andThen_ok, getObj, Sem.run, hb, hc, hr, hz]⟩
  | some p =>
    obtain ⟨j, v⟩ := p
    rw [(hr2 j v rfl).1]
    exact ⟨by simp [Instr.lookup, Sem.run_bind, run_underlying hm, Result.andThen_ok, getObj, Sem.run, hb, hc, hr], by simp [Instr.lookup, Sem.run_bind, run_underlying hm, Result.andThen_ok, getObj, Sem.run, hb, hc, hr]⟩
theorem atI_push (es : List MapEntry) (x : MapEntry) (i' : Int) : atI (es ++ [x]) i' = (atI es i').or (if keyI x.key = i' then some x.val else none) := by
  induction es with
  | nil => rw [List.nil_append, atI_cons]; rfl
  | cons e es ih =>
    rw [List.cons_append, atI_cons, atI_cons, ih]
    by_cases h : keyI e.key = i'
    · rw [if_pos h, if_pos h]; rfl
    · rw [if_neg h, if_neg h]
theorem mapI_put {et mt : TypeId} {w : World} (hm : Tryz.prog.underlying mt = some (.map 3 et)) {b n : Nat} {f : Int → Option Value} (hM : MapI w b n f) (i : Int) (v : Value) :
    ∃ w', (Instr.mapUpdate mt (.map (some b)) (.int .i64 i) v).run Tryz.prog w = .ok () w' ∧ MapI w' b (n + 1) (fun j => if j = i then some v else f j) ∧ Kept (fun k => k = b) w w' := by
  obtain ⟨es, clock, hb, hn, hes, hf⟩ := hM
  have hc := fun e => (keys_int w).check e (.int .i64 i) ⟨i, rfl⟩
  have hbl : b < w.heap.size := (Array.getElem?_eq_some_iff.1 hb).1
  have hkept : ∀ o : Obj, Kept (fun i => i = b) w (WideElemsSet w b o) := fun o =>
    ⟨rfl, rfl, rfl, by simp [WideElemsSet], fun i hi hp => by
      have hp : ¬ b = i := fun e => hp e.symm
      simp [WideElemsSet, Array.getElem?_setIfInBounds_ne hp]⟩
  have hat : ∀ o : Obj, (WideElemsSet w b o).heap[b]? = some o := fun o => by simp [WideElemsSet, hbl]
  obtain ⟨r, hr, hr1, hr2⟩ := findKey_int (w := w) i hes
  cases r with
  | none =>
    refine ⟨WideElemsSet w b (.map (es.push ⟨.int .i64 i, v, clock⟩) (clock + 1)), ?_, ⟨_, _, hat _, by simp; omega, ?_, fun i' => ?_⟩, hkept _⟩
    · simp [Instr.mapUpdate, run_underlying hm, MapKept.run_getObj_map hb, hc, hr, MapKept.run_setObj_map _ hb, Result.andThen, WideElemsSet]
    · intro x hx
      simp only [Array.toList_push, List.mem_append, List.mem_singleton] at hx
      rcases hx with hx | rfl
      · exact hes x hx
      · exact ⟨i, rfl⟩
    · rw [Array.toList_push, atI_push, hf i']
      have h0 := hr1 rfl
      rw [hf i] at h0
      show (f i').or (if i = i' then some v else none) = _
      by_cases h : i' = i
      · subst h; simp [h0]
      · have h' : ¬ i = i' := fun q => h q.symm
        simp [h, h']
  | some p =>
    obtain ⟨j, v0⟩ := p
    obtain ⟨h1, ⟨e, h2, h3⟩, h4⟩ := hr2 j v0 rfl
    have hj : es[j]? = some e := by simpa using h2
    refine ⟨WideElemsSet w b (.map (es.modify j fun e' => { e' with key := .int .i64 i, val := v }) clock), ?_, ⟨_, _, hat _, by simp; omega, ?_, fun i' => ?_⟩, hkept _⟩
    · simp [Instr.mapUpdate, run_underlying hm, MapKept.run_getObj_map hb, hc, hr, hj, Instr.keyThatStays, h3, Instr.sameBits, MapKept.run_setObj_map _ hb, Result.andThen, WideElemsSet]
    · intro x hx
      rcases MapFrom.mem_modify hx with hx | ⟨e', _, rfl⟩
      · exact hes x hx
      · exact ⟨i, rfl⟩
    · rw [Array.toList_modify, h4 v i', hf i']
end Go.Proofs.YtkfnpcilanheiaaGreat

/- term.node: a node without its arguments. And 2 more texts. -/
import Derived.Test.YtkfnpcilanheiaaGreatJo2
import Derived.Test.YtkfnpcilanheiaaGreatJo6
import Derived.Test.YtkfnpcilanheiaaGreatJo8
set_option linter.unusedVariables false
set_option linter.unusedSimpArgs false
set_option maxRecDepth 100000
namespace Go.Proofs.YtkfnpcilanheiaaGreat
open Go.RowKit NumB
def zeroB (ng : Bool) (l1 l2 : Nat) : Bool := !ng && decide (l1 + l2 = 0)
def nodeE (k v : Int) (s : ByteArray) (ng : Bool) (l1 l2 : Nat) (er : Int) (na : Nat) : Int :=
  if k = 1 then (if 0 ≤ v ∧ v ≤ 1073741824 ∧ s.toList = [] ∧ zeroB ng l1 l2 = true ∧ na = 0 then 0 else 2)
  else if k = 2 then (if v = 0 ∧ s.toList = [] ∧ na = 0 ∧ er = 0 then 0 else 2)
  else if k = 3 then (if v = 0 ∧ zeroB ng l1 l2 = true ∧ na = 0 then (if 255 < s.size then 3 else 0) else 2)
  else if k = 4 then (if v = 0 ∧ zeroB ng l1 l2 = true ∧ na = 0 then (if 4000 < s.size then 3 else 0) else 2)
  else if k = 5 then (if v = 0 ∧ zeroB ng l1 l2 = true ∧ 1 ≤ na ∧ na ≤ 32 then (if 255 < s.size then 3 else 0) else 2)
  else 2
theorem toList_ne {s : ByteArray} (h : s.size ≠ 0) : s.toList ≠ [] := by
  unfold ByteArray.toList
  have key : ∀ (n i : Nat) (r : List UInt8), s.size - i ≤ n → (i < s.size ∨ r ≠ []) → ByteArray.toList.loop s i r ≠ [] := by
    intro n
    induction n with
    | zero =>
      intro i r hn hr
      unfold ByteArray.toList.loop
      have : ¬ i < s.size := by omega
      rw [if_neg this]
      rcases hr with hr | hr
      · exact absurd hr this
      · simpa using hr
    | succ n ih =>
      intro i r hn hr
      unfold ByteArray.toList.loop
      by_cases hi : i < s.size
      · rw [if_pos hi]
        exact ih (i + 1) _ (by omega) (.inr (by simp))
      · rw [if_neg hi]
        rcases hr with hr | hr
        · exact absurd hr hi
        · simpa using hr
  exact key s.size 0 [] (by omega) (.inl (by omega))
theorem size_of_toList {s : ByteArray} (h : s.toList = []) : s.size = 0 := Classical.byContradiction fun h2 => toList_ne h2 h
theorem wrap_zero {l1 l2 : Nat} (h1 : l1 ≤ 9223372036854775807) (h2 : l2 ≤ 9223372036854775807) : wrap64 ((l1 : Int) + (l2 : Int)) = 0 ↔ l1 + l2 = 0 := by
  unfold wrap64
  omega
set_option maxHeartbeats 6400000 in
theorem node_one {w : World} {v : Int} {s : ByteArray} {n : LN} {args : List Tm} {cs : List Value} (h : TC w (.mk 1 v s n args) cs) :
    Calls Tryz.prog 125 #[.agg cs.toArray] w fun e W' => e = .returned (.int .i64 (nodeE 1 v s n.neg n.num.length n.den.length n.err args.length)) ∧ Below w.heap.size w W' := by
  cases h with
  | mk _ _ _ _ _ A B Ar cap cs hk hv hs hA hB hn hcap hm hr ha =>
    have HCK : Hid (∀ W : World, Below w.heap.size w W → Calls Tryz.prog 185 #[.agg #[.bool n.neg, A, B]] W fun e w' => e = .returned (.int .i64 n.err) ∧ Below W.heap.size W w') := fun W hb => check_any n.neg n.num n.den A B W (hA.to hb) (hB.to hb) hn.1 hn.2
    obtain ⟨A1, q1, rfl, ha1, ha2, _⟩ := hA
    obtain ⟨B1, q2, rfl, hb1, hb2, _⟩ := hB
    have hbd : 0 ≤ n.err ∧ n.err ≤ 3 := checkL_bd _ _ _
    unfold maxLen at ha2 hb2
    clear hr ha
    generalize args.length = na at *
    generalize n.num.length = l1 at *
    generalize n.den.length = l2 at *
    generalize n.err = er at *
    generalize n.neg = ng at *
    clear hn hcap hm hs hv hk
    have hst : s.toList = [] → s.size = 0 := size_of_toList
    obtain ⟨x, hx, hx0⟩ : ∃ x : Int, wrap64 ((l1 : Int) + (l2 : Int)) = x ∧ (x = 0 ↔ l1 + l2 = 0) := ⟨_, rfl, wrap_zero (by omega) (by omega)⟩
    cases ng
    all_goals
      go_enter Tryz.func125, Tryz.ntmps125
      go_wp2_with fail
    all_goals first
      | (go_ret
         refine ⟨congrArg (fun z => Ending.returned (Value.int .i64 z)) ?_, below_one w _⟩
         clear HCK
         unfold nodeE zeroB
         simp_all
         all_goals (intros; omega))
      | (refine (HCK.out _ (below_one w _)).mono ?_
         rintro e w2 ⟨rfl, hb⟩
         have c2 := ((Blk.new w 27 _).to hb).cell 2
         simp only [List.getElem?_toArray, List.getElem?_cons_zero, List.getElem?_cons_succ] at c2
         go_wp2_with fail
         all_goals
           go_ret
           refine ⟨congrArg (fun z => Ending.returned (Value.int .i64 z)) ?_, (below_one w _).trans (hb.mono (below_one w _).size)⟩
           clear HCK hb c2
           unfold nodeE zeroB
           simp_all
           all_goals (intros; omega))
set_option maxHeartbeats 6400000 in
theorem node_two {w : World} {v : Int} {s : ByteArray} {n : LN} {args : List Tm} {cs : List Value} (h : TC w (.mk 2 v s n args) cs) :
    Calls Tryz.prog 125 #[.agg cs.toArray] w fun e W' => e = .returned (.int .i64 (nodeE 2 v s n.neg n.num.length n.den.length n.err args.length)) ∧ Below w.heap.size w W' := by
  cases h with
  | mk _ _ _ _ _ A B Ar cap cs hk hv hs hA hB hn hcap hm hr ha =>
    have HCK : Hid (∀ W : World, Below w.heap.size w W → Calls Tryz.prog 185 #[.agg #[.bool n.neg, A, B]] W fun e w' => e = .returned (.int .i64 n.err) ∧ Below W.heap.size W w') := fun W hb => check_any n.neg n.num n.den A B W (hA.to hb) (hB.to hb) hn.1 hn.2
    obtain ⟨A1, q1, rfl, ha1, ha2, _⟩ := hA
    obtain ⟨B1, q2, rfl, hb1, hb2, _⟩ := hB
    have hbd : 0 ≤ n.err ∧ n.err ≤ 3 := checkL_bd _ _ _
    unfold maxLen at ha2 hb2
    clear hr ha
    generalize args.length = na at *
    generalize n.num.length = l1 at *
    generalize n.den.length = l2 at *
    generalize n.err = er at *
    generalize n.neg = ng at *
    clear hn hcap hm hs hv hk
    have hst : s.toList = [] → s.size = 0 := size_of_toList
    obtain ⟨x, hx, hx0⟩ : ∃ x : Int, wrap64 ((l1 : Int) + (l2 : Int)) = x ∧ (x = 0 ↔ l1 + l2 = 0) := ⟨_, rfl, wrap_zero (by omega) (by omega)⟩
    cases ng
    all_goals
      go_enter Tryz.func125, Tryz.ntmps125
      go_wp2_with fail
    all_goals first
      | (go_ret
         refine ⟨congrArg (fun z => Ending.returned (Value.int .i64 z)) ?_, below_one w _⟩
         clear HCK
         unfold nodeE zeroB
         simp_all
         all_goals (intros; omega))
      | (refine (HCK.out _ (below_one w _)).mono ?_
         rintro e w2 ⟨rfl, hb⟩
         have c2 := ((Blk.new w 27 _).to hb).cell 2
         simp only [List.getElem?_toArray, List.getElem?_cons_zero, List.getElem?_cons_succ] at c2
         go_wp2_with fail
         all_goals
           go_ret
           refine ⟨congrArg (fun z => Ending.returned (Value.int .i64 z)) ?_, (below_one w _).trans (hb.mono (below_one w _).size)⟩
           clear HCK hb c2
           unfold nodeE zeroB
           simp_all
           all_goals (intros; omega))
set_option maxHeartbeats 6400000 in
theorem node_three {w : World} {v : Int} {s : ByteArray} {n : LN} {args : List Tm} {cs : List Value} (h : TC w (.mk 3 v s n args) cs) :
    Calls Tryz.prog 125 #[.agg cs.toArray] w fun e W' => e = .returned (.int .i64 (nodeE 3 v s n.neg n.num.length n.den.length n.err args.length)) ∧ Below w.heap.size w W' := by
  cases h with
  | mk _ _ _ _ _ A B Ar cap cs hk hv hs hA hB hn hcap hm hr ha =>
    have HCK : Hid (∀ W : World, Below w.heap.size w W → Calls Tryz.prog 185 #[.agg #[.bool n.neg, A, B]] W fun e w' => e = .returned (.int .i64 n.err) ∧ Below W.heap.size W w') := fun W hb => check_any n.neg n.num n.den A B W (hA.to hb) (hB.to hb) hn.1 hn.2
    obtain ⟨A1, q1, rfl, ha1, ha2, _⟩ := hA
    obtain ⟨B1, q2, rfl, hb1, hb2, _⟩ := hB
    have hbd : 0 ≤ n.err ∧ n.err ≤ 3 := checkL_bd _ _ _
    unfold maxLen at ha2 hb2
    clear hr ha
    generalize args.length = na at *
    generalize n.num.length = l1 at *
    generalize n.den.length = l2 at *
    generalize n.err = er at *
    generalize n.neg = ng at *
    clear hn hcap hm hs hv hk
    have hst : s.toList = [] → s.size = 0 := size_of_toList
    obtain ⟨x, hx, hx0⟩ : ∃ x : Int, wrap64 ((l1 : Int) + (l2 : Int)) = x ∧ (x = 0 ↔ l1 + l2 = 0) := ⟨_, rfl, wrap_zero (by omega) (by omega)⟩
    cases ng
    all_goals
      go_enter Tryz.func125, Tryz.ntmps125
      go_wp2_with fail
    all_goals first
      | (go_ret
         refine ⟨congrArg (fun z => Ending.returned (Value.int .i64 z)) ?_, below_one w _⟩
         clear HCK
         unfold nodeE zeroB
         simp_all
         all_goals (intros; omega))
      | (refine (HCK.out _ (below_one w _)).mono ?_
         rintro e w2 ⟨rfl, hb⟩
         have c2 := ((Blk.new w 27 _).to hb).cell 2
         simp only [List.getElem?_toArray, List.getElem?_cons_zero, List.getElem?_cons_succ] at c2
         go_wp2_with fail
         all_goals
           go_ret
           refine ⟨congrArg (fun z => Ending.returned (Value.int .i64 z)) ?_, (below_one w _).trans (hb.mono (below_one w _).size)⟩
           clear HCK hb c2
           unfold nodeE zeroB
           simp_all
           all_goals (intros; omega))
set_option maxHeartbeats 6400000 in
theorem node_four {w : World} {v : Int} {s : ByteArray} {n : LN} {args : List Tm} {cs : List Value} (h : TC w (.mk 4 v s n args) cs) :
    Calls Tryz.prog 125 #[.agg cs.toArray] w fun e W' => e = .returned (.int .i64 (nodeE 4 v s n.neg n.num.length n.den.length n.err args.length)) ∧ Below w.heap.size w W' := by
  cases h with
  | mk _ _ _ _ _ A B Ar cap cs hk hv hs hA hB hn hcap hm hr ha =>
    have HCK : Hid (∀ W : World, Below w.heap.size w W → Calls Tryz.prog 185 #[.agg #[.bool n.neg, A, B]] W fun e w' => e = .returned (.int .i64 n.err) ∧ Below W.heap.size W w') := fun W hb => check_any n.neg n.num n.den A B W (hA.to hb) (hB.to hb) hn.1 hn.2
    obtain ⟨A1, q1, rfl, ha1, ha2, _⟩ := hA
    obtain ⟨B1, q2, rfl, hb1, hb2, _⟩ := hB
    have hbd : 0 ≤ n.err ∧ n.err ≤ 3 := checkL_bd _ _ _
    unfold maxLen at ha2 hb2
    clear hr ha
    generalize args.length = na at *
    generalize n.num.length = l1 at *
    generalize n.den.length = l2 at *
    generalize n.err = er at *
    generalize n.neg = ng at *
    clear hn hcap hm hs hv hk
    have hst : s.toList = [] → s.size = 0 := size_of_toList
    obtain ⟨x, hx, hx0⟩ : ∃ x : Int, wrap64 ((l1 : Int) + (l2 : Int)) = x ∧ (x = 0 ↔ l1 + l2 = 0) := ⟨_, rfl, wrap_zero (by omega) (by omega)⟩
    cases ng
    all_goals
      go_enter Tryz.func125, Tryz.ntmps125
      go_wp2_with fail
    all_goals first
      | (go_ret
         refine ⟨congrArg (fun z => Ending.returned (Value.int .i64 z)) ?_, below_one w _⟩
         clear HCK
         unfold nodeE zeroB
         simp_all
         all_goals (intros; omega))
      | (refine (HCK.out _ (below_one w _)).mono ?_
         rintro e w2 ⟨rfl, hb⟩
         have c2 := ((Blk.new w 27 _).to hb).cell 2
         simp only [List.getElem?_toArray, List.getElem?_cons_zero, List.getElem?_cons_succ] at c2
         go_wp2_with fail
         all_goals
           go_ret
           refine ⟨congrArg (fun z => Ending.returned (Value.int .i64 z)) ?_, (below_one w _).trans (hb.mono (below_one w _).size)⟩
           clear HCK hb c2
           unfold nodeE zeroB
           simp_all
           all_goals (intros; omega))
set_option maxHeartbeats 6400000 in
theorem node_five {w : World} {v : Int} {s : ByteArray} {n : LN} {args : List Tm} {cs : List Value} (h : TC w (.mk 5 v s n args) cs) :
    Calls Tryz.prog 125 #[.agg cs.toArray] w fun e W' => e = .returned (.int .i64 (nodeE 5 v s n.neg n.num.length n.den.length n.err args.length)) ∧ Below w.heap.size w W' := by
  cases h with
  | mk _ _ _ _ _ A B Ar cap cs hk hv hs hA hB hn hcap hm hr ha =>
    have HCK : Hid (∀ W : World, Below w.heap.size w W → Calls Tryz.prog 185 #[.agg #[.bool n.neg, A, B]] W fun e w' => e = .returned (.int .i64 n.err) ∧ Below W.heap.size W w') := fun W hb => check_any n.neg n.num n.den A B W (hA.to hb) (hB.to hb) hn.1 hn.2
    obtain ⟨A1, q1, rfl, ha1, ha2, _⟩ := hA
    obtain ⟨B1, q2, rfl, hb1, hb2, _⟩ := hB
    have hbd : 0 ≤ n.err ∧ n.err ≤ 3 := checkL_bd _ _ _
    unfold maxLen at ha2 hb2
    clear hr ha
    generalize args.length = na at *
    generalize n.num.length = l1 at *
    generalize n.den.length = l2 at *
    generalize n.err = er at *
    generalize n.neg = ng at *
    clear hn hcap hm hs hv hk
    have hst : s.toList = [] → s.size = 0 := size_of_toList
    obtain ⟨x, hx, hx0⟩ : ∃ x : Int, wrap64 ((l1 : Int) + (l2 : Int)) = x ∧ (x = 0 ↔ l1 + l2 = 0) := ⟨_, rfl, wrap_zero (by omega) (by omega)⟩
    cases ng
    all_goals
      go_enter Tryz.func125, Tryz.ntmps125
      go_wp2_with fail
    all_goals first
      | (go_ret
         refine ⟨congrArg (fun z => Ending.returned (Value.int .i64 z)) ?_, below_one w _⟩
         clear HCK
         unfold nodeE zeroB
         simp_all
         all_goals (intros; omega))
      | (refine (HCK.out _ (below_one w _)).mono ?_
         rintro e w2 ⟨rfl, hb⟩
         have c2 := ((Blk.new w 27 _).to hb).cell 2
         simp only [List.getElem?_toArray, List.getElem?_cons_zero, List.getElem?_cons_succ] at c2
         go_wp2_with fail
         all_goals
           go_ret
           refine ⟨congrArg (fun z => Ending.returned (Value.int .i64 z)) ?_, (below_one w _).trans (hb.mono (below_one w _).size)⟩
           clear HCK hb c2
           unfold nodeE zeroB
           simp_all
           all_goals (intros; omega))
set_option maxHeartbeats 6400000 in
theorem node_other {w : World} {k : Int} {v : Int} {s : ByteArray} {n : LN} {args : List Tm} {cs : List Value} (h1 : k ≠ 1) (h2 : k ≠ 2) (h3 : k ≠ 3) (h4 : k ≠ 4) (h5 : k ≠ 5) (h : TC w (.mk k v s n args) cs) :
    Calls Tryz.prog 125 #[.agg cs.toArray] w fun e W' => e = .returned (.int .i64 (nodeE k v s n.neg n.num.length n.den.length n.err args.length)) ∧ Below w.heap.size w W' := by
  cases h with
  | mk _ _ _ _ _ A B Ar cap cs hk hv hs hA hB hn hcap hm hr ha =>
    have HCK : Hid (∀ W : World, Below w.heap.size w W → Calls Tryz.prog 185 #[.agg #[.bool n.neg, A, B]] W fun e w' => e = .returned (.int .i64 n.err) ∧ Below W.heap.size W w') := fun W hb => check_any n.neg n.num n.den A B W (hA.to hb) (hB.to hb) hn.1 hn.2
    obtain ⟨A1, q1, rfl, ha1, ha2, _⟩ := hA
    obtain ⟨B1, q2, rfl, hb1, hb2, _⟩ := hB
    have hbd : 0 ≤ n.err ∧ n.err ≤ 3 := checkL_bd _ _ _
    unfold maxLen at ha2 hb2
    clear hr ha
    generalize args.length = na at *
    generalize n.num.length = l1 at *
    generalize n.den.length = l2 at *
    generalize n.err = er at *
    generalize n.neg = ng at *
    clear hn hcap hm hs hv hk
    have hst : s.toList = [] → s.size = 0 := size_of_toList
    obtain ⟨x, hx, hx0⟩ : ∃ x : Int, wrap64 ((l1 : Int) + (l2 : Int)) = x ∧ (x = 0 ↔ l1 + l2 = 0) := ⟨_, rfl, wrap_zero (by omega) (by omega)⟩
    have k1 : (k == 1) = false := beq_eq_false_iff_ne.2 h1
    have k2 : (k == 2) = false := beq_eq_false_iff_ne.2 h2
    have k3 : (k == 3) = false := beq_eq_false_iff_ne.2 h3
    have k4 : (k == 4) = false := beq_eq_false_iff_ne.2 h4
    have k5 : (k == 5) = false := beq_eq_false_iff_ne.2 h5
    cases ng
    all_goals
      go_enter Tryz.func125, Tryz.ntmps125
      go_wp2_with fail
    all_goals first
      | (go_ret
         refine ⟨congrArg (fun z => Ending.returned (Value.int .i64 z)) ?_, below_one w _⟩
         clear HCK
         unfold nodeE zeroB
         simp_all
         all_goals (intros; omega))
      | (refine (HCK.out _ (below_one w _)).mono ?_
         rintro e w2 ⟨rfl, hb⟩
         have c2 := ((Blk.new w 27 _).to hb).cell 2
         simp only [List.getElem?_toArray, List.getElem?_cons_zero, List.getElem?_cons_succ] at c2
         go_wp2_with fail
         all_goals
           go_ret
           refine ⟨congrArg (fun z => Ending.returned (Value.int .i64 z)) ?_, (below_one w _).trans (hb.mono (below_one w _).size)⟩
           clear HCK hb c2
           unfold nodeE zeroB
           simp_all
           all_goals (intros; omega))
theorem node_any {w : World} {k v : Int} {s : ByteArray} {n : LN} {args : List Tm} {cs : List Value} (h : TC w (.mk k v s n args) cs) :
    Calls Tryz.prog 125 #[.agg cs.toArray] w fun e W' => e = .returned (.int .i64 (nodeE k v s n.neg n.num.length n.den.length n.err args.length)) ∧ Below w.heap.size w W' := by
  by_cases h1 : k = 1
  · subst h1; exact node_one h
  by_cases h2 : k = 2
  · subst h2; exact node_two h
  by_cases h3 : k = 3
  · subst h3; exact node_three h
  by_cases h4 : k = 4
  · subst h4; exact node_four h
  by_cases h5 : k = 5
  · subst h5; exact node_five h
  exact node_other h1 h2 h3 h4 h5 h
mutual
def Tm.err0 : Tm → Int
  | .mk k v s n args => if nodeE k v s n.neg n.num.length n.den.length n.err args.length = 0 then errL args else nodeE k v s n.neg n.num.length n.den.length n.err args.length
def errL : List Tm → Int
  | [] => 0
  | t :: l => if t.err0 = 0 then errL l else t.err0
end
theorem errL_snoc (l : List Tm) (t : Tm) : errL (l ++ [t]) = if errL l = 0 then t.err0 else errL l := by
  induction l with
  | nil => simp [errL]; omega
  | cons x l ih =>
    simp only [List.cons_append, errL, ih]
    by_cases h : x.err0 = 0 <;> simp [h]
theorem errL_take (l : List Tm) {j : Nat} (hj : j < l.length) (h : errL (l.take j) = 0) : errL (l.take (j + 1)) = (l[j]).err0 := by rw [take_succ_get l hj, errL_snoc, if_pos h]
theorem errL_stop (l : List Tm) {j : Nat} (hj : j < l.length) (h : errL (l.take j) = 0) (hne : (l[j]).err0 ≠ 0) : errL l = (l[j]).err0 := by
  have h1 := errL_take l hj h
  have : ∀ (k : Nat), errL (l.take (j + 1 + k)) = (l[j]).err0 := fun k => by
    induction k with
    | zero => exact h1
    | succ k ih =>
      by_cases hk : j + 1 + k < l.length
      · rw [← Nat.add_assoc, take_succ_get l hk, errL_snoc, ih, if_neg hne]
      · rw [List.take_of_length_le (by omega)] at ih ⊢
        exact ih
  have h2 := this l.length
  rwa [List.take_of_length_le (by omega)] at h2
theorem nodeE_bd (k v : Int) (s : ByteArray) (ng : Bool) (l1 l2 : Nat) (er : Int) (na : Nat) : 0 ≤ nodeE k v s ng l1 l2 er na ∧ nodeE k v s ng l1 l2 er na ≤ 3 := by
  unfold nodeE
  repeat' split
  all_goals omega
mutual
theorem Tm.err0_bd : (t : Tm) → 0 ≤ t.err0 ∧ t.err0 ≤ 3
  | .mk k v s n args => by
    have h1 := nodeE_bd k v s n.neg n.num.length n.den.length n.err args.length
    have h2 := errL_bd args
    unfold Tm.err0
    split <;> assumption
theorem errL_bd : (l : List Tm) → 0 ≤ errL l ∧ errL l ≤ 3
  | [] => by simp [errL]
  | t :: l => by
    have h1 := Tm.err0_bd t
    have h2 := errL_bd l
    unfold errL
    split <;> assumption
end
set_option maxHeartbeats 3200000 in
theorem nodes_any {w : World} {t : Tm} {cs : List Value} (h : TC w t cs) : ∀ (W : World), Below w.heap.size w W →
    Calls Tryz.prog 76 #[.agg cs.toArray] W fun e W' => e = .returned (.int .i64 t.err0) ∧ Below W.heap.size W W' := by
  induction h with
  | mk k v s n args A B Ar cap cs hk hv hs hA hB hn hcap hm hr ha ih =>
    intro W hW
    have HND : Hid (∀ W' : World, Below w.heap.size w W' → Calls Tryz.prog 125 #[.agg #[.int .i64 k, .int .i64 v, .string s, .bool n.neg, A, B, .slice Ar args.length cap]] W' fun e w' => e = .returned (.int .i64 (nodeE k v s n.neg n.num.length n.den.length n.err args.length)) ∧ Below W'.heap.size W' w') := fun W' hb => node_any ((TC.mk k v s n args A B Ar cap cs hk hv hs hA hB hn hcap hm hr ha).to hb)
    have HR := Lib.hid hr
    have HA := Lib.hid ha
    have IH := Lib.hid ih
    have HE0 : Hid ((Tm.mk k v s n args).err0 = if nodeE k v s n.neg n.num.length n.den.length n.err args.length = 0 then errL args else nodeE k v s n.neg n.num.length n.den.length n.err args.length) := by unfold Hid; rw [Tm.err0]
    have hnb := nodeE_bd k v s n.neg n.num.length n.den.length n.err args.length
    unfold maxLen at hm
    have HWB := Lib.hid hW
    obtain ⟨A1, q1, rfl, _⟩ := hA
    obtain ⟨B1, q2, rfl, _⟩ := hB
    generalize (Tm.mk k v s n args).err0 = e0 at *
    generalize nodeE k v s n.neg n.num.length n.den.length n.err args.length = ne at *
    generalize n.neg = ng at *
    generalize n.num.length = m1 at *
    generalize n.den.length = m2 at *
    clear hr ha ih hn hk hv hs hW
    obtain ⟨l, hl⟩ : ∃ l, args.length = l := ⟨_, rfl⟩
    rw [hl] at hcap HND ⊢
    have HL := Lib.hid hl
    clear hl
    have HBA := Lib.hid (below_one W (.cells #[.int .i64 k, .int .i64 v, .string s, .bool ng, .slice A1 m1 q1, .slice B1 m2 q2, .slice Ar l cap] 27))
    have HKA := Lib.hid (Blk.new W 27 #[.int .i64 k, .int .i64 v, .string s, .bool ng, .slice A1 m1 q1, .slice B1 m2 q2, .slice Ar l cap])
    go_enter Tryz.func76, Tryz.ntmps76
    go_wp2_with fail
    refine (HND.out _ (by exact HWB.out.trans (HBA.out.mono HWB.out.size))).mono ?_
    rintro e w1 ⟨rfl, hb1⟩
    have HB1 := Lib.hid (HBA.out.trans (hb1.mono HBA.out.size))
    have c6 := (HKA.out.to hb1).cell 6
    simp only [List.getElem?_toArray, List.getElem?_cons_zero, List.getElem?_cons_succ] at c6
    clear hb1
    by_cases hne : ne = 0
    rotate_left
    · have hz : (ne != 0) = true := by rw [bne_iff_ne]; exact hne
      have HR0 : Hid (e0 = ne) := by unfold Hid; rw [HE0.out, if_neg hne]
      go_wp2_with fail
      go_ret
      rw [HR0.out]
      exact ⟨rfl, HB1.out⟩
    have hz : (ne != 0) = false := by rw [hne]; rfl
    have HR0 : Hid (e0 = errL args) := by unfold Hid; rw [HE0.out, if_pos hne]
    clear hne hnb HE0
    go_wp2_with fail
    go_loopg [15] l (fun gk s15 wr => ∃ j : Nat, gk + j = l ∧ s15 = .int .i64 (j : Int) ∧ Hid (errL (args.take j) = 0) ∧ Hid (Below W.heap.size W wr))
    case atStart => exact ⟨0, by omega, rfl, by unfold Hid; rw [List.take_zero]; rfl, HB1.out⟩
    case round =>
      obtain ⟨j, hgj, rfl, HC, HB⟩ := hrel
      by_cases hj : j < l
      · have hja : j < args.length := by rw [HL.out]; exact hj
        have HBW := HWB.out.trans (HB.out.mono HWB.out.size)
        obtain ⟨b, o, k', v', s', ng', A2, n2, c2, B2, m3, d2, Xr, xl, xc, hAr, hcs, hlt, e0', e1, e2, e3, e4, e5, e6⟩ := arg_cells HR.out HA.out HBW hja
        subst hAr
        have HCALL : Hid (∀ W', Below wr.heap.size wr W' → Calls Tryz.prog 76 #[.agg #[.int .i64 k', .int .i64 v', .string s', .bool ng', .slice A2 n2 c2, .slice B2 m3 d2, .slice Xr xl xc]] W' fun e w' => e = .returned (.int .i64 (args[j]).err0) ∧ Below W'.heap.size W' w') := fun W' hb => by
          have := IH.out j hja W' (HBW.trans (hb.mono HBW.size))
          rw [hcs] at this
          exact this
        have hbd := Tm.err0_bd args[j]
        have HT := Lib.hid (fun h => errL_stop args hja HC.out h)
        have HN := Lib.hid (errL_take args hja HC.out)
        generalize (args[j]).err0 = ej at *
        go_wp2_with fail
        refine (HCALL.out _ (by exact below_one _ _)).mono ?_
        rintro e w3 ⟨rfl, hb⟩
        have HB3 := Lib.hid (HB.out.trans (((below_one wr (.cells #[.int .i64 k', .int .i64 v', .string s', .bool ng', .slice A2 n2 c2, .slice B2 m3 d2, .slice Xr xl xc] 27)).trans (hb.mono (below_one wr _).size)).mono HB.out.size))
        clear hb e0' e1 e2 e3 e4 e5 e6 HCALL
        by_cases he : ej = 0
        · have hz : (ej != 0) = false := by rw [he]; rfl
          have HN2 : Hid (errL (args.take (j + 1)) = 0) := by unfold Hid; rw [HN.out, he]
          go_wp2_with fail
          go_roundg (gk - 1)
          case measure => omega
          case rel => exact ⟨j + 1, by omega, by go_num, HN2, HB3.out⟩
        · have hz : (ej != 0) = true := by rw [bne_iff_ne]; exact he
          have HR1 : Hid (e0 = ej) := by unfold Hid; rw [HR0.out]; exact HT.out he
          go_wp2_with fail
          go_ret
          rw [HR1.out]
          exact ⟨rfl, HB3.out⟩
      · obtain rfl : j = l := by omega
        have HR1 : Hid (e0 = 0) := by unfold Hid; rw [HR0.out]; have h := HC.out; rw [List.take_of_length_le (by rw [HL.out]; exact Nat.le_refl _)] at h; exact h
        go_wp2_with fail
        go_ret
        rw [HR1.out]
        exact ⟨rfl, HB.out⟩
def Tm.check (t : Tm) : Int := if 10000 < t.count then 3 else t.err0
set_option maxHeartbeats 3200000 in
theorem tmCheck_any {w : World} {t : Tm} {cs : List Value} (h : TC w t cs) (W : World) (hW : Below w.heap.size w W) :
    Calls Tryz.prog 25 #[.agg cs.toArray] W fun e W' => e = .returned (.int .i64 t.check) ∧ Below W.heap.size W W' := by
  have HS : Hid (∀ W', Below w.heap.size w W' → Calls Tryz.prog 75 #[.agg cs.toArray, .int .i64 10000] W' fun e w' => e = .returned (.int .i64 ((min t.count 10001 : Nat) : Int)) ∧ Below W'.heap.size W' w') := fun W' hb => size_any h W' 10000 hb (by omega)
  have HN : Hid (∀ W', Below w.heap.size w W' → Calls Tryz.prog 76 #[.agg cs.toArray] W' fun e w' => e = .returned (.int .i64 t.err0) ∧ Below W'.heap.size W' w') := fun W' hb => nodes_any h W' hb
  have HC : Hid (t.check = if 10000 < t.count then 3 else t.err0) := rfl
  have HW := Lib.hid hW
  obtain ⟨k, v, s, ng, A1, n1, c1, B1, m1, d1, Ar, l, cap, hcs⟩ := h.form
  subst hcs
  generalize t.check = tc at *
  generalize t.err0 = te at *
  generalize t.count = n at *
  clear h hW
  have HBA := Lib.hid (below_one W (.cells #[.int .i64 k, .int .i64 v, .string s, .bool ng, .slice A1 n1 c1, .slice B1 m1 d1, .slice Ar l cap] 27))
  have HKA := Lib.hid (Blk.new W 27 #[.int .i64 k, .int .i64 v, .string s, .bool ng, .slice A1 n1 c1, .slice B1 m1 d1, .slice Ar l cap])
  go_enter Tryz.func25, Tryz.ntmps25
  go_wp2_with fail
  refine (HS.out _ (by exact HW.out.trans (HBA.out.mono HW.out.size))).mono ?_
  rintro e w1 ⟨rfl, hb1⟩
  have HB1 := Lib.hid (HBA.out.trans (hb1.mono HBA.out.size))
  have hk := HKA.out.to hb1
  have c0 := hk.cell 0
  have c1' := hk.cell 1
  have c2 := hk.cell 2
  have c3 := hk.cell 3
  have c4 := hk.cell 4
  have c5 := hk.cell 5
  have c6 := hk.cell 6
  simp only [List.getElem?_toArray, List.getElem?_cons_zero, List.getElem?_cons_succ] at c0 c1' c2 c3 c4 c5 c6
  clear hb1 hk
  obtain ⟨z, hz, hzn⟩ : ∃ z : Nat, (min n 10001 : Nat) = z ∧ (10000 < z ↔ 10000 < n) := ⟨_, rfl, by omega⟩
  rw [hz]
  clear hz
  by_cases hn : 10000 < z
  · have HR : Hid (tc = 3) := by unfold Hid; rw [HC.out, if_pos (hzn.1 hn)]
    clear hzn
    go_wp2_with fail
    go_ret
    rw [HR.out]
    exact ⟨rfl, HB1.out⟩
  · have HR : Hid (tc = te) := by unfold Hid; rw [HC.out, if_neg (fun h => hn (hzn.2 h))]
    clear hzn
    go_wp2_with fail
    refine (HN.out _ (by exact HW.out.trans (HB1.out.mono HW.out.size))).mono ?_
    rintro e w2 ⟨rfl, hb2⟩
    go_wp2_with fail
    go_ret
    rw [HR.out]
    exact ⟨rfl, HB1.out.trans (hb2.mono HB1.out.size)⟩
theorem news_block {w : World} {k : IntKind} {T : TypeId} {ys : List Nat} : ∀ j u, (cellsN k ys)[j]? = some u → (w.alloc (.cells (cellsN k ys).toArray T)).cell? ((⟨w.heap.size, 0, none⟩ : Addr).add j) = some u := by
  intro j u hu
  have : (⟨w.heap.size, 0, none⟩ : Addr).add j = ⟨w.heap.size, j, none⟩ := by unfold Addr.add; split <;> simp_all
  rw [this, cell_of_row _ w.heap.size j (cellsN k ys).toArray T (0, 0) (heap_alloc_new w _)]
  simpa using hu
theorem wpList_push {P : Program} {ops : Array Oper} {rest : List Oper} {o : Oper} {a : Act} {Q : Exit → Act → World → Prop} (w : World) (hgd : o.guard = none) (s x : Operand) (t : TypeId)
    (ho : o.op = .call { callee := .builtin .append, args := #[s, x], argTypes := #[t, t] })
    (k : IntKind) (T : TypeId) (bytes : Nat) (ht : P.underlying t = some (.slice T)) (hinfo : (P.info? T).map (fun i => (i.zero, i.size, i.bytes)) = some (some (.int k 0), 1, bytes)) (hb8 : bytes ≤ 8)
    (B : Nat) (v : Value) (xs ys : List Nat) (hs : a.eval s = v) (hx : a.eval x = .slice (some ⟨w.heap.size, 0, none⟩) ys.length ys.length) (hown : OwnV k T w B v xs) (hn : xs.length + ys.length ≤ 1000000) (hB : B ≤ w.heap.size) (C : Array Value) (hC : C = (cellsN k ys).toArray)
    (h : ∀ v' w', OwnV k T w' B v' (xs ++ ys) → Below B w w' → wpList P ops Q rest (a.put o.dst v') w') : wpList P ops Q (o :: rest) a (w.alloc (.cells C T)) := by
  subst hC
  obtain ⟨i0, hi0, hz0, hz1, hz2⟩ := info_parts hinfo
  refine wpList_append_own_at _ hgd s x t ho B T i0 (.int k 0) 1 bytes ht hi0 hz0 hz1 hz2 rfl (by decide) v xs.length (cellsN k xs) hs (hown.alloc _) ⟨w.heap.size, 0, none⟩ ys.length ys.length (cellsN k ys) hx (by rw [cellsN_len]; omega) news_block cellsN_one (by unfold maxLen; omega) ?_ (by simp; omega) ?_
  · have : (xs.length + ys.length) * bytes ≤ 1000000 * 8 := Nat.mul_le_mul hn hb8
    omega
  · intro v' w' h1 h2 _ _
    refine h v' w' ?_ (((Below.refl B w).alloc hB _).grown h2 (by simp; omega) (fun g hg => hown.blk g hg))
    unfold OwnV
    rw [List.length_append, ← cellsN_append]
    exact h1
end Go.Proofs.YtkfnpcilanheiaaGreat

/-  -/
import Derived.Test.YtkamkaehlofgpaaJo10
import Derived.Test.YtkamkaehlofgpaaJo12
set_option linter.unusedVariables false
set_option linter.unusedSimpArgs false
/- term.node: a node without its arguments. -/
namespace Go.Proofs.Ytkamkaehlofgpaa
open Go.RowKit NumB
set_option linter.unusedVariables false
set_option linter.unusedSimpArgs false

def zeroB (ng : Bool) (l1 l2 : Nat) : Bool := !ng && decide (l1 + l2 = 0)
/-- What node answers. -/
def nodeE (k v : Int) (s : ByteArray) (ng : Bool) (l1 l2 : Nat) (er : Int) (na : Nat) : Int :=
  if k = 1 then (if 0 ≤ v ∧ v ≤ 1073741824 ∧ s.toList = [] ∧ zeroB ng l1 l2 = true ∧ na = 0 then 0 else 2)
  else if k = 2 then (if v = 0 ∧ s.toList = [] ∧ na = 0 ∧ er = 0 then 0 else 2)
  else if k = 3 then (if v = 0 ∧ zeroB ng l1 l2 = true ∧ na = 0 then (if 255 < s.size then 3 else 0) else 2)
  else if k = 4 then (if v = 0 ∧ zeroB ng l1 l2 = true ∧ na = 0 then (if 4000 < s.size then 3 else 0) else 2)
  else if k = 5 then (if v = 0 ∧ zeroB ng l1 l2 = true ∧ 1 ≤ na ∧ na ≤ 32 then (if 255 < s.size then 3 else 0) else 2)
  else 2
theorem toList_ne {s : ByteArray} (h : s.size ≠ 0) : s.toList ≠ [] := by
  unfold ByteArray.toList
  have key : ∀ (n i : Nat) (r : List UInt8), s.size - i ≤ n → (i < s.size ∨ r ≠ []) → ByteArray.toList.loop s i r ≠ [] := by
    intro n
    induction n with
    | zero =>
      intro i r hn hr
      unfold ByteArray.toList.loop
      have : ¬ i < s.size := by omega
      rw [if_neg this]
      rcases hr with hr | hr
      · exact absurd hr this
      · simpa using hr
    | succ n ih =>
      intro i r hn hr
      unfold ByteArray.toList.loop
      by_cases hi : i < s.size
      · rw [if_pos hi]
        exact ih (i + 1) _ (by omega) (.inr (by simp))
      · rw [if_neg hi]
        rcases hr with hr | hr
        · exact absurd hr hi
        · simpa using hr
  exact key s.size 0 [] (by omega) (.inl (by omega))
theorem size_of_toList {s : ByteArray} (h : s.toList = []) : s.size = 0 := Classical.byContradiction fun h2 => toList_ne h2 h
theorem wrap_zero {l1 l2 : Nat} (h1 : l1 ≤ 9223372036854775807) (h2 : l2 ≤ 9223372036854775807) : wrap64 ((l1 : Int) + (l2 : Int)) = 0 ↔ l1 + l2 = 0 := by
  unfold wrap64
  omega

set_option maxRecDepth 100000 in
set_option maxHeartbeats 6400000 in
theorem node_one {w : World} {v : Int} {s : ByteArray} {n : LN} {args : List Tm} {cs : List Value} (h : TC w (.mk 1 v s n args) cs) :
    Calls Try.prog 75 #[.agg cs.toArray] w fun e W' => e = .returned (.int .i64 (nodeE 1 v s n.neg n.num.length n.den.length n.err args.length)) ∧ Below w.heap.size w W' := by
  cases h with
  | mk _ _ _ _ _ A B Ar cap cs hk hv hs hA hB hn hcap hm hr ha =>
    have HCK : Hid (∀ W : World, Below w.heap.size w W → Calls Try.prog 81 #[.agg #[.bool n.neg, A, B]] W fun e w' => e = .returned (.int .i64 n.err) ∧ Below W.heap.size W w') := fun W hb => check_any n.neg n.num n.den A B W (hA.to hb) (hB.to hb) hn.1 hn.2
    obtain ⟨A1, q1, rfl, ha1, ha2, _⟩ := hA
    obtain ⟨B1, q2, rfl, hb1, hb2, _⟩ := hB
    have hbd : 0 ≤ n.err ∧ n.err ≤ 3 := checkL_bd _ _ _
    unfold maxLen at ha2 hb2
    clear hr ha
    generalize args.length = na at *
    generalize n.num.length = l1 at *
    generalize n.den.length = l2 at *
    generalize n.err = er at *
    generalize n.neg = ng at *
    clear hn hcap hm hs hv hk
    have hst : s.toList = [] → s.size = 0 := size_of_toList
    obtain ⟨x, hx, hx0⟩ : ∃ x : Int, wrap64 ((l1 : Int) + (l2 : Int)) = x ∧ (x = 0 ↔ l1 + l2 = 0) := ⟨_, rfl, wrap_zero (by omega) (by omega)⟩
    cases ng
    all_goals
      go_enter Try.func75, Try.ntmps75
      go_wp2_with fail
    all_goals first
      | (go_ret
         refine ⟨congrArg (fun z => Ending.returned (Value.int .i64 z)) ?_, below_one w _⟩
         clear HCK
         unfold nodeE zeroB
         simp_all
         all_goals (intros; omega))
      | (refine (HCK.out _ (below_one w _)).mono ?_
         rintro e w2 ⟨rfl, hb⟩
         have c2 := ((Blk.new w 27 _).to hb).cell 2
         simp only [List.getElem?_toArray, List.getElem?_cons_zero, List.getElem?_cons_succ] at c2
         go_wp2_with fail
         all_goals
           go_ret
           refine ⟨congrArg (fun z => Ending.returned (Value.int .i64 z)) ?_, (below_one w _).trans (hb.mono (below_one w _).size)⟩
           clear HCK hb c2
           unfold nodeE zeroB
           simp_all
           all_goals (intros; omega))

set_option maxRecDepth 100000 in
set_option maxHeartbeats 6400000 in
theorem node_two {w : World} {v : Int} {s : ByteArray} {n : LN} {args : List Tm} {cs : List Value} (h : TC w (.mk 2 v s n args) cs) :
    Calls Try.prog 75 #[.agg cs.toArray] w fun e W' => e = .returned (.int .i64 (nodeE 2 v s n.neg n.num.length n.den.length n.err args.length)) ∧ Below w.heap.size w W' := by
  cases h with
  | mk _ _ _ _ _ A B Ar cap cs hk hv hs hA hB hn hcap hm hr ha =>
    have HCK : Hid (∀ W : World, Below w.heap.size w W → Calls Try.prog 81 #[.agg #[.bool n.neg, A, B]] W fun e w' => e = .returned (.int .i64 n.err) ∧ Below W.heap.size W w') := fun W hb => check_any n.neg n.num n.den A B W (hA.to hb) (hB.to hb) hn.1 hn.2
    obtain ⟨A1, q1, rfl, ha1, ha2, _⟩ := hA
    obtain ⟨B1, q2, rfl, hb1, hb2, _⟩ := hB
    have hbd : 0 ≤ n.err ∧ n.err ≤ 3 := checkL_bd _ _ _
    unfold maxLen at ha2 hb2
    clear hr ha
    generalize args.length = na at *
    generalize n.num.length = l1 at *
    generalize n.den.length = l2 at *
    generalize n.err = er at *
    generalize n.neg = ng at *
    clear hn hcap hm hs hv hk
    have hst : s.toList = [] → s.size = 0 := size_of_toList
    obtain ⟨x, hx, hx0⟩ : ∃ x : Int, wrap64 ((l1 : Int) + (l2 : Int)) = x ∧ (x = 0 ↔ l1 + l2 = 0) := ⟨_, rfl, wrap_zero (by omega) (by omega)⟩
    cases ng
    all_goals
      go_enter Try.func75, Try.ntmps75
      go_wp2_with fail
    all_goals first
      | (go_ret
         refine ⟨congrArg (fun z => Ending.returned (Value.int .i64 z)) ?_, below_one w _⟩
         clear HCK
         unfold nodeE zeroB
         simp_all
         all_goals (intros; omega))
      | (refine (HCK.out _ (below_one w _)).mono ?_
         rintro e w2 ⟨rfl, hb⟩
         have c2 := ((Blk.new w 27 _).to hb).cell 2
         simp only [List.getElem?_toArray, List.getElem?_cons_zero, List.getElem?_cons_succ] at c2
         go_wp2_with fail
         all_goals
           go_ret
           refine ⟨congrArg (fun z => Ending.returned (Value.int .i64 z)) ?_, (below_one w _).trans (hb.mono (below_one w _).size)⟩
           clear HCK hb c2
           unfold nodeE zeroB
           simp_all
           all_goals (intros; omega))

set_option maxRecDepth 100000 in
set_option maxHeartbeats 6400000 in
theorem node_three {w : World} {v : Int} {s : ByteArray} {n : LN} {args : List Tm} {cs : List Value} (h : TC w (.mk 3 v s n args) cs) :
    Calls Try.prog 75 #[.agg cs.toArray] w fun e W' => e = .returned (.int .i64 (nodeE 3 v s n.neg n.num.length n.den.length n.err args.length)) ∧ Below w.heap.size w W' := by
  cases h with
  | mk _ _ _ _ _ A B Ar cap cs hk hv hs hA hB hn hcap hm hr ha =>
    have HCK : Hid (∀ W : World, Below w.heap.size w W → Calls Try.prog 81 #[.agg #[.bool n.neg, A, B]] W fun e w' => e = .returned (.int .i64 n.err) ∧ Below W.heap.size W w') := fun W hb => check_any n.neg n.num n.den A B W (hA.to hb) (hB.to hb) hn.1 hn.2
    obtain ⟨A1, q1, rfl, ha1, ha2, _⟩ := hA
    obtain ⟨B1, q2, rfl, hb1, hb2, _⟩ := hB
    have hbd : 0 ≤ n.err ∧ n.err ≤ 3 := checkL_bd _ _ _
    unfold maxLen at ha2 hb2
    clear hr ha
    generalize args.length = na at *
    generalize n.num.length = l1 at *
    generalize n.den.length = l2 at *
    generalize n.err = er at *
    generalize n.neg = ng at *
    clear hn hcap hm hs hv hk
    have hst : s.toList = [] → s.size = 0 := size_of_toList
    obtain ⟨x, hx, hx0⟩ : ∃ x : Int, wrap64 ((l1 : Int) + (l2 : Int)) = x ∧ (x = 0 ↔ l1 + l2 = 0) := ⟨_, rfl, wrap_zero (by omega) (by omega)⟩
    cases ng
    all_goals
      go_enter Try.func75, Try.ntmps75
      go_wp2_with fail
    all_goals first
      | (go_ret
         refine ⟨congrArg (fun z => Ending.returned (Value.int .i64 z)) ?_, below_one w _⟩
         clear HCK
         unfold nodeE zeroB
         simp_all
         all_goals (intros; omega))
      | (refine (HCK.out _ (below_one w _)).mono ?_
         rintro e w2 ⟨rfl, hb⟩
         have c2 := ((Blk.new w 27 _).to hb).cell 2
         simp only [List.getElem?_toArray, List.getElem?_cons_zero, List.getElem?_cons_succ] at c2
         go_wp2_with fail
         all_goals
           go_ret
           refine ⟨congrArg (fun z => Ending.returned (Value.int .i64 z)) ?_, (below_one w _).trans (hb.mono (below_one w _).size)⟩
           clear HCK hb c2
           unfold nodeE zeroB
           simp_all
           all_goals (intros; omega))

set_option maxRecDepth 100000 in
set_option maxHeartbeats 6400000 in
theorem node_four {w : World} {v : Int} {s : ByteArray} {n : LN} {args : List Tm} {cs : List Value} (h : TC w (.mk 4 v s n args) cs) :
    Calls Try.prog 75 #[.agg cs.toArray] w fun e W' => e = .returned (.int .i64 (nodeE 4 v s n.neg n.num.length n.den.length n.err args.length)) ∧ Below w.heap.size w W' := by
  cases h with
  | mk _ _ _ _ _ A B Ar cap cs hk hv hs hA hB hn hcap hm hr ha =>
    have HCK : Hid (∀ W : World, Below w.heap.size w W → Calls Try.prog 81 #[.agg #[.bool n.neg, A, B]] W fun e w' => e = .returned (.int .i64 n.err) ∧ Below W.heap.size W w') := fun W hb => check_any n.neg n.num n.den A B W (hA.to hb) (hB.to hb) hn.1 hn.2
    obtain ⟨A1, q1, rfl, ha1, ha2, _⟩ := hA
    obtain ⟨B1, q2, rfl, hb1, hb2, _⟩ := hB
    have hbd : 0 ≤ n.err ∧ n.err ≤ 3 := checkL_bd _ _ _
    unfold maxLen at ha2 hb2
    clear hr ha
    generalize args.length = na at *
    generalize n.num.length = l1 at *
    generalize n.den.length = l2 at *
    generalize n.err = er at *
    generalize n.neg = ng at *
    clear hn hcap hm hs hv hk
    have hst : s.toList = [] → s.size = 0 := size_of_toList
    obtain ⟨x, hx, hx0⟩ : ∃ x : Int, wrap64 ((l1 : Int) + (l2 : Int)) = x ∧ (x = 0 ↔ l1 + l2 = 0) := ⟨_, rfl, wrap_zero (by omega) (by omega)⟩
    cases ng
    all_goals
      go_enter Try.func75, Try.ntmps75
      go_wp2_with fail
    all_goals first
      | (go_ret
         refine ⟨congrArg (fun z => Ending.returned (Value.int .i64 z)) ?_, below_one w _⟩
         clear HCK
         unfold nodeE zeroB
         simp_all
         all_goals (intros; omega))
      | (refine (HCK.out _ (below_one w _)).mono ?_
         rintro e w2 ⟨rfl, hb⟩
         have c2 := ((Blk.new w 27 _).to hb).cell 2
         simp only [List.getElem?_toArray, List.getElem?_cons_zero, List.getElem?_cons_succ] at c2
         go_wp2_with fail
         all_goals
           go_ret
           refine ⟨congrArg (fun z => Ending.returned (Value.int .i64 z)) ?_, (below_one w _).trans (hb.mono (below_one w _).size)⟩
           clear HCK hb c2
           unfold nodeE zeroB
           simp_all
           all_goals (intros; omega))

set_option maxRecDepth 100000 in
set_option maxHeartbeats 6400000 in
theorem node_five {w : World} {v : Int} {s : ByteArray} {n : LN} {args : List Tm} {cs : List Value} (h : TC w (.mk 5 v s n args) cs) :
    Calls Try.prog 75 #[.agg cs.toArray] w fun e W' => e = .returned (.int .i64 (nodeE 5 v s n.neg n.num.length n.den.length n.err args.length)) ∧ Below w.heap.size w W' := by
  cases h with
  | mk _ _ _ _ _ A B Ar cap cs hk hv hs hA hB hn hcap hm hr ha =>
    have HCK : Hid (∀ W : World, Below w.heap.size w W → Calls Try.prog 81 #[.agg #[.bool n.neg, A, B]] W fun e w' => e = .returned (.int .i64 n.err) ∧ Below W.heap.size W w') := fun W hb => check_any n.neg n.num n.den A B W (hA.to hb) (hB.to hb) hn.1 hn.2
    obtain ⟨A1, q1, rfl, ha1, ha2, _⟩ := hA
    obtain ⟨B1, q2, rfl, hb1, hb2, _⟩ := hB
    have hbd : 0 ≤ n.err ∧ n.err ≤ 3 := checkL_bd _ _ _
    unfold maxLen at ha2 hb2
    clear hr ha
    generalize args.length = na at *
    generalize n.num.length = l1 at *
    generalize n.den.length = l2 at *
    generalize n.err = er at *
    generalize n.neg = ng at *
    clear hn hcap hm hs hv hk
    have hst : s.toList = [] → s.size = 0 := size_of_toList
    obtain ⟨x, hx, hx0⟩ : ∃ x : Int, wrap64 ((l1 : Int) + (l2 : Int)) = x ∧ (x = 0 ↔ l1 + l2 = 0) := ⟨_, rfl, wrap_zero (by omega) (by omega)⟩
    cases ng
    all_goals
      go_enter Try.func75, Try.ntmps75
      go_wp2_with fail
    all_goals first
      | (go_ret
         refine ⟨congrArg (fun z => Ending.returned (Value.int .i64 z)) ?_, below_one w _⟩
         clear HCK
         unfold nodeE zeroB
         simp_all
         all_goals (intros; omega))
      | (refine (HCK.out _ (below_one w _)).mono ?_
         rintro e w2 ⟨rfl, hb⟩
         have c2 := ((Blk.new w 27 _).to hb).cell 2
         simp only [List.getElem?_toArray, List.getElem?_cons_zero, List.getElem?_cons_succ] at c2
         go_wp2_with fail
         all_goals
           go_ret
           refine ⟨congrArg (fun z => Ending.returned (Value.int .i64 z)) ?_, (below_one w _).trans (hb.mono (below_one w _).size)⟩
           clear HCK hb c2
           unfold nodeE zeroB
           simp_all
           all_goals (intros; omega))

set_option maxRecDepth 100000 in
set_option maxHeartbeats 6400000 in
theorem node_other {w : World} {k : Int} {v : Int} {s : ByteArray} {n : LN} {args : List Tm} {cs : List Value} (h1 : k ≠ 1) (h2 : k ≠ 2) (h3 : k ≠ 3) (h4 : k ≠ 4) (h5 : k ≠ 5) (h : TC w (.mk k v s n args) cs) :
    Calls Try.prog 75 #[.agg cs.toArray] w fun e W' => e = .returned (.int .i64 (nodeE k v s n.neg n.num.length n.den.length n.err args.length)) ∧ Below w.heap.size w W' := by
  cases h with
  | mk _ _ _ _ _ A B Ar cap cs hk hv hs hA hB hn hcap hm hr ha =>
    have HCK : Hid (∀ W : World, Below w.heap.size w W → Calls Try.prog 81 #[.agg #[.bool n.neg, A, B]] W fun e w' => e = .returned (.int .i64 n.err) ∧ Below W.heap.size W w') := fun W hb => check_any n.neg n.num n.den A B W (hA.to hb) (hB.to hb) hn.1 hn.2
    obtain ⟨A1, q1, rfl, ha1, ha2, _⟩ := hA
    obtain ⟨B1, q2, rfl, hb1, hb2, _⟩ := hB
    have hbd : 0 ≤ n.err ∧ n.err ≤ 3 := checkL_bd _ _ _
    unfold maxLen at ha2 hb2
    clear hr ha
    generalize args.length = na at *
    generalize n.num.length = l1 at *
    generalize n.den.length = l2 at *
    generalize n.err = er at *
    generalize n.neg = ng at *
    clear hn hcap hm hs hv hk
    have hst : s.toList = [] → s.size = 0 := size_of_toList
    obtain ⟨x, hx, hx0⟩ : ∃ x : Int, wrap64 ((l1 : Int) + (l2 : Int)) = x ∧ (x = 0 ↔ l1 + l2 = 0) := ⟨_, rfl, wrap_zero (by omega) (by omega)⟩
    have k1 : (k == 1) = false := beq_eq_false_iff_ne.2 h1
    have k2 : (k == 2) = false := beq_eq_false_iff_ne.2 h2
    have k3 : (k == 3) = false := beq_eq_false_iff_ne.2 h3
    have k4 : (k == 4) = false := beq_eq_false_iff_ne.2 h4
    have k5 : (k == 5) = false := beq_eq_false_iff_ne.2 h5
    cases ng
    all_goals
      go_enter Try.func75, Try.ntmps75
      go_wp2_with fail
    all_goals first
      | (go_ret
         refine ⟨congrArg (fun z => Ending.returned (Value.int .i64 z)) ?_, below_one w _⟩
         clear HCK
         unfold nodeE zeroB
         simp_all
         all_goals (intros; omega))
      | (refine (HCK.out _ (below_one w _)).mono ?_
         rintro e w2 ⟨rfl, hb⟩
         have c2 := ((Blk.new w 27 _).to hb).cell 2
         simp only [List.getElem?_toArray, List.getElem?_cons_zero, List.getElem?_cons_succ] at c2
         go_wp2_with fail
         all_goals
           go_ret
           refine ⟨congrArg (fun z => Ending.returned (Value.int .i64 z)) ?_, (below_one w _).trans (hb.mono (below_one w _).size)⟩
           clear HCK hb c2
           unfold nodeE zeroB
           simp_all
           all_goals (intros; omega))

theorem node_any {w : World} {k v : Int} {s : ByteArray} {n : LN} {args : List Tm} {cs : List Value} (h : TC w (.mk k v s n args) cs) :
    Calls Try.prog 75 #[.agg cs.toArray] w fun e W' => e = .returned (.int .i64 (nodeE k v s n.neg n.num.length n.den.length n.err args.length)) ∧ Below w.heap.size w W' := by
  by_cases h1 : k = 1
  · subst h1; exact node_one h
  by_cases h2 : k = 2
  · subst h2; exact node_two h
  by_cases h3 : k = 3
  · subst h3; exact node_three h
  by_cases h4 : k = 4
  · subst h4; exact node_four h
  by_cases h5 : k = 5
  · subst h5; exact node_five h
  exact node_other h1 h2 h3 h4 h5 h
end Go.Proofs.Ytkamkaehlofgpaa

/- fetterlockref2.nodeFault: all nodes in preorder. -/
import Derived.Test.YtkfnpcilanheiaaGreatJo14
set_option linter.unusedVariables false
set_option linter.unusedSimpArgs false
set_option maxRecDepth 100000
namespace Go.Proofs.YtkfnpcilanheiaaGreat
open Go.RowKit NumB
set_option maxHeartbeats 12800000 in
theorem fault_one {w : World} {v : Int} {s : ByteArray} {n : LN} {args : List Tm} {A B : Value} {Ar : Option Addr} {cap : Nat} {cs : Nat → List Value} 
    (hs : s.size ≤ maxLen) (hA : Sl .u32 w A n.num) (hB : Sl .u32 w B n.den) (hn : n.ok) (hcap : args.length ≤ cap) (hm : cap ≤ maxLen)
    (hr : 0 < args.length → ∃ b o, Ar = some ⟨b, o, none⟩ ∧ b < w.heap.size ∧ ∀ i, i < args.length → ∀ j, j < 7 → w.cell? ⟨b, o + i * 7 + j, none⟩ = (cs i)[j]?)
    (ha : ∀ i (h : i < args.length), TC w args[i] (cs i))
    (ih : ∀ i (h : i < args.length) (W : World), Below w.heap.size w W → Calls Tryz.prog 79 #[.agg (cs i).toArray] W fun e W' => e = .returned (.int .i64 (args[i]).err0) ∧ Below W.heap.size W W')
    (W : World) (hW : Below w.heap.size w W) : Calls Tryz.prog 79 #[.agg #[.int .i64 1, .int .i64 v, .string s, .bool n.neg, A, B, .slice Ar args.length cap]] W fun e W' => e = .returned (.int .i64 (Tm.mk 1 v s n args).err0) ∧ Below W.heap.size W W' := by
  have HFA : Hid (∀ W' : World, Below w.heap.size w W' → Calls Tryz.prog 21 #[.agg #[.bool n.neg, A, B]] W' fun e w' => e = .returned (.int .i64 n.err) ∧ Below W'.heap.size W' w') := fun W' hb => fault_any n.neg n.num n.den A B W' (hA.to hb) (hB.to hb) hn.1 hn.2
  have hbd : 0 ≤ n.err ∧ n.err ≤ 3 := checkL_bd _ _ _
  have HR := Lib.hid hr
  have HA := Lib.hid ha
  have IH := Lib.hid ih
  have HE0 : Hid ((Tm.mk 1 v s n args).err0 = if nodeE 1 v s n.neg n.num.length n.den.length n.err args.length = 0 then errL args else nodeE 1 v s n.neg n.num.length n.den.length n.err args.length) := by unfold Hid; rw [Tm.err0]
  obtain ⟨A1, q1, rfl, ha1, ha2, _⟩ := hA
  obtain ⟨B1, q2, rfl, hb1, hb2, _⟩ := hB
  unfold maxLen at hm ha2 hb2
  have HWB := Lib.hid hW
  have HNN : Hid (∀ W' : World, Calls Tryz.prog 126 #[.agg #[.bool n.neg, .slice A1 n.num.length q1, .slice B1 n.den.length q2]] W' fun e w' => e = .returned (.bool (zeroB n.neg n.num.length n.den.length)) ∧ Below W'.heap.size W' w') := fun W' => noNumber_any n.neg A1 B1 _ _ q1 q2 W' (by omega) (by omega)
  have hst : s.toList = [] → s.size = 0 := size_of_toList
  generalize (Tm.mk 1 v s n args).err0 = e0 at *
  generalize n.err = er at *
  generalize n.neg = ng at *
  generalize n.num.length = m1 at *
  generalize n.den.length = m2 at *
  obtain ⟨zb, HZB⟩ : ∃ zb, Hid (zeroB ng m1 m2 = zb) := ⟨_, rfl⟩
  rw [HZB.out] at HNN
  clear hr ha ih hn hs hW ha1 ha2 hb1 hb2
  obtain ⟨l, hl⟩ : ∃ l, args.length = l := ⟨_, rfl⟩
  rw [hl] at hcap HE0 ⊢
  have HL := Lib.hid hl
  clear hl
  have HBA := Lib.hid (below_one W (.cells #[.int .i64 1, .int .i64 v, .string s, .bool ng, .slice A1 m1 q1, .slice B1 m2 q2, .slice Ar l cap] 27))
  have HKA := Lib.hid (Blk.new W 27 #[.int .i64 1, .int .i64 v, .string s, .bool ng, .slice A1 m1 q1, .slice B1 m2 q2, .slice Ar l cap])
  go_enter Tryz.func79, Tryz.ntmps79
  go_wp2_with fail
  all_goals first
    | (go_ret
       refine ⟨congrArg (fun z => Ending.returned (Value.int .i64 z)) ?_, below_one W _⟩
       rw [HE0.out]
       clear HFA HR HA IH HE0 HWB HNN HL HBA HKA
       have hzb := HZB.out
       clear HZB
       unfold nodeE
       (repeat' split) <;> first | rfl | omega | (simp_all; done) | (simp_all; omega))
    | skip
  refine (HNN.out _).mono ?_
  rintro e w1 ⟨rfl, hb1⟩
  have HB1 : Hid (Below W.heap.size W w1) := (below_one W _).trans (hb1.mono (below_one W _).size)
  have hk := (Blk.new W 27 _).to hb1
  have c0 := hk.cell 0
  have c1' := hk.cell 1
  have c2 := hk.cell 2
  have c3 := hk.cell 3
  have c4 := hk.cell 4
  have c5 := hk.cell 5
  have c6 := hk.cell 6
  simp only [List.getElem?_toArray, List.getElem?_cons_zero, List.getElem?_cons_succ] at c0 c1' c2 c3 c4 c5 c6
  clear hb1 hk
  go_wp2_with fail
  all_goals first
    | (go_ret
       refine ⟨congrArg (fun z => Ending.returned (Value.int .i64 z)) ?_, HB1.out⟩
       rw [HE0.out]
       clear HFA HR HA IH HE0 HWB HNN HL HBA HKA HB1 c0 c1' c2 c3 c4 c5 c6
       have hzb := HZB.out
       clear HZB
       unfold nodeE
       (repeat' split) <;> first | rfl | omega | (simp_all; done) | (simp_all; omega))
    | skip
  have hne : nodeE 1 v s ng m1 m2 er l = 0 := by
    clear HFA HR HA IH HE0 HWB HNN HL HBA HKA HB1 c0 c1' c2 c3 c4 c5 c6
    have hzb := HZB.out
    clear HZB
    unfold nodeE
    (repeat' split) <;> first | rfl | omega | (simp_all; done) | (simp_all; omega)
  have HR0 : Hid (e0 = errL args) := by unfold Hid; rw [HE0.out, if_pos hne]
  clear hne HE0 HNN HFA c0 c1' c2 c3 c4 c5 c6
  go_loopg [128] l (fun gk s128 wr => ∃ j : Nat, gk + j = l ∧ s128 = .int .i64 (j : Int) ∧ Hid (errL (args.take j) = 0) ∧ Hid (Below W.heap.size W wr))
  case atStart => exact ⟨0, by omega, rfl, by unfold Hid; rw [List.take_zero]; rfl, HB1.out⟩
  case round =>
    obtain ⟨j, hgj, rfl, HC, HB⟩ := hrel
    by_cases hj : j < l
    · exfalso; omega
    · obtain rfl : j = l := by omega
      have HR1 : Hid (e0 = 0) := by unfold Hid; rw [HR0.out]; have h := HC.out; rw [List.take_of_length_le (by rw [HL.out]; exact Nat.le_refl _)] at h; exact h
      go_wp2_with fail
      go_ret
      rw [HR1.out]
      exact ⟨rfl, HB.out⟩
set_option maxHeartbeats 12800000 in
theorem fault_two {w : World} {v : Int} {s : ByteArray} {n : LN} {args : List Tm} {A B : Value} {Ar : Option Addr} {cap : Nat} {cs : Nat → List Value} 
    (hs : s.size ≤ maxLen) (hA : Sl .u32 w A n.num) (hB : Sl .u32 w B n.den) (hn : n.ok) (hcap : args.length ≤ cap) (hm : cap ≤ maxLen)
    (hr : 0 < args.length → ∃ b o, Ar = some ⟨b, o, none⟩ ∧ b < w.heap.size ∧ ∀ i, i < args.length → ∀ j, j < 7 → w.cell? ⟨b, o + i * 7 + j, none⟩ = (cs i)[j]?)
    (ha : ∀ i (h : i < args.length), TC w args[i] (cs i))
    (ih : ∀ i (h : i < args.length) (W : World), Below w.heap.size w W → Calls Tryz.prog 79 #[.agg (cs i).toArray] W fun e W' => e = .returned (.int .i64 (args[i]).err0) ∧ Below W.heap.size W W')
    (W : World) (hW : Below w.heap.size w W) : Calls Tryz.prog 79 #[.agg #[.int .i64 2, .int .i64 v, .string s, .bool n.neg, A, B, .slice Ar args.length cap]] W fun e W' => e = .returned (.int .i64 (Tm.mk 2 v s n args).err0) ∧ Below W.heap.size W W' := by
  have HFA : Hid (∀ W' : World, Below w.heap.size w W' → Calls Tryz.prog 21 #[.agg #[.bool n.neg, A, B]] W' fun e w' => e = .returned (.int .i64 n.err) ∧ Below W'.heap.size W' w') := fun W' hb => fault_any n.neg n.num n.den A B W' (hA.to hb) (hB.to hb) hn.1 hn.2
  have hbd : 0 ≤ n.err ∧ n.err ≤ 3 := checkL_bd _ _ _
  have HR := Lib.hid hr
  have HA := Lib.hid ha
  have IH := Lib.hid ih
  have HE0 : Hid ((Tm.mk 2 v s n args).err0 = if nodeE 2 v s n.neg n.num.length n.den.length n.err args.length = 0 then errL args else nodeE 2 v s n.neg n.num.length n.den.length n.err args.length) := by unfold Hid; rw [Tm.err0]
  obtain ⟨A1, q1, rfl, ha1, ha2, _⟩ := hA
  obtain ⟨B1, q2, rfl, hb1, hb2, _⟩ := hB
  unfold maxLen at hm ha2 hb2
  have HWB := Lib.hid hW
  have HNN : Hid (∀ W' : World, Calls Tryz.prog 126 #[.agg #[.bool n.neg, .slice A1 n.num.length q1, .slice B1 n.den.length q2]] W' fun e w' => e = .returned (.bool (zeroB n.neg n.num.length n.den.length)) ∧ Below W'.heap.size W' w') := fun W' => noNumber_any n.neg A1 B1 _ _ q1 q2 W' (by omega) (by omega)
  have hst : s.toList = [] → s.size = 0 := size_of_toList
  generalize (Tm.mk 2 v s n args).err0 = e0 at *
  generalize n.err = er at *
  generalize n.neg = ng at *
  generalize n.num.length = m1 at *
  generalize n.den.length = m2 at *
  obtain ⟨zb, HZB⟩ : ∃ zb, Hid (zeroB ng m1 m2 = zb) := ⟨_, rfl⟩
  rw [HZB.out] at HNN
  clear hr ha ih hn hs hW ha1 ha2 hb1 hb2
  obtain ⟨l, hl⟩ : ∃ l, args.length = l := ⟨_, rfl⟩
  rw [hl] at hcap HE0 ⊢
  have HL := Lib.hid hl
  clear hl
  have HBA := Lib.hid (below_one W (.cells #[.int .i64 2, .int .i64 v, .string s, .bool ng, .slice A1 m1 q1, .slice B1 m2 q2, .slice Ar l cap] 27))
  have HKA := Lib.hid (Blk.new W 27 #[.int .i64 2, .int .i64 v, .string s, .bool ng, .slice A1 m1 q1, .slice B1 m2 q2, .slice Ar l cap])
  go_enter Tryz.func79, Tryz.ntmps79
  go_wp2_with fail
  all_goals first
    | (go_ret
       refine ⟨congrArg (fun z => Ending.returned (Value.int .i64 z)) ?_, below_one W _⟩
       rw [HE0.out]
       clear HFA HR HA IH HE0 HWB HNN HL HBA HKA
       have hzb := HZB.out
       clear HZB
       unfold nodeE
       (repeat' split) <;> first | rfl | omega | (simp_all; done) | (simp_all; omega))
    | skip
  refine (HFA.out _ (by exact HWB.out.trans ((below_one W _).mono HWB.out.size))).mono ?_
  rintro e w1 ⟨rfl, hb1⟩
  have HB1 : Hid (Below W.heap.size W w1) := (below_one W _).trans (hb1.mono (below_one W _).size)
  have hk := (Blk.new W 27 _).to hb1
  have c0 := hk.cell 0
  have c1' := hk.cell 1
  have c2 := hk.cell 2
  have c3 := hk.cell 3
  have c4 := hk.cell 4
  have c5 := hk.cell 5
  have c6 := hk.cell 6
  simp only [List.getElem?_toArray, List.getElem?_cons_zero, List.getElem?_cons_succ] at c0 c1' c2 c3 c4 c5 c6
  clear hb1 hk
  go_wp2_with fail
  all_goals first
    | (go_ret
       refine ⟨congrArg (fun z => Ending.returned (Value.int .i64 z)) ?_, HB1.out⟩
       rw [HE0.out]
       clear HFA HR HA IH HE0 HWB HNN HL HBA HKA HB1 c0 c1' c2 c3 c4 c5 c6
       have hzb := HZB.out
       clear HZB
       unfold nodeE
       (repeat' split) <;> first | rfl | omega | (simp_all; done) | (simp_all; omega))
    | skip
  have hne : nodeE 2 v s ng m1 m2 er l = 0 := by
    clear HFA HR HA IH HE0 HWB HNN HL HBA HKA HB1 c0 c1' c2 c3 c4 c5 c6
    have hzb := HZB.out
    clear HZB
    unfold nodeE
    (repeat' split) <;> first | rfl | omega | (simp_all; done) | (simp_all; omega)
  have HR0 : Hid (e0 = errL args) := by unfold Hid; rw [HE0.out, if_pos hne]
  clear hne HE0 HNN HFA c0 c1' c2 c3 c4 c5 c6
  go_loopg [128] l (fun gk s128 wr => ∃ j : Nat, gk + j = l ∧ s128 = .int .i64 (j : Int) ∧ Hid (errL (args.take j) = 0) ∧ Hid (Below W.heap.size W wr))
  case atStart => exact ⟨0, by omega, rfl, by unfold Hid; rw [List.take_zero]; rfl, HB1.out⟩
  case round =>
    obtain ⟨j, hgj, rfl, HC, HB⟩ := hrel
    by_cases hj : j < l
    · exfalso; omega
    · obtain rfl : j = l := by omega
      have HR1 : Hid (e0 = 0) := by unfold Hid; rw [HR0.out]; have h := HC.out; rw [List.take_of_length_le (by rw [HL.out]; exact Nat.le_refl _)] at h; exact h
      go_wp2_with fail
      go_ret
      rw [HR1.out]
      exact ⟨rfl, HB.out⟩
set_option maxHeartbeats 12800000 in
theorem fault_three {w : World} {v : Int} {s : ByteArray} {n : LN} {args : List Tm} {A B : Value} {Ar : Option Addr} {cap : Nat} {cs : Nat → List Value} 
    (hs : s.size ≤ maxLen) (hA : Sl .u32 w A n.num) (hB : Sl .u32 w B n.den) (hn : n.ok) (hcap : args.length ≤ cap) (hm : cap ≤ maxLen)
    (hr : 0 < args.length → ∃ b o, Ar = some ⟨b, o, none⟩ ∧ b < w.heap.size ∧ ∀ i, i < args.length → ∀ j, j < 7 → w.cell? ⟨b, o + i * 7 + j, none⟩ = (cs i)[j]?)
    (ha : ∀ i (h : i < args.length), TC w args[i] (cs i))
    (ih : ∀ i (h : i < args.length) (W : World), Below w.heap.size w W → Calls Tryz.prog 79 #[.agg (cs i).toArray] W fun e W' => e = .returned (.int .i64 (args[i]).err0) ∧ Below W.heap.size W W')
    (W : World) (hW : Below w.heap.size w W) : Calls Tryz.prog 79 #[.agg #[.int .i64 3, .int .i64 v, .string s, .bool n.neg, A, B, .slice Ar args.length cap]] W fun e W' => e = .returned (.int .i64 (Tm.mk 3 v s n args).err0) ∧ Below W.heap.size W W' := by
  have HFA : Hid (∀ W' : World, Below w.heap.size w W' → Calls Tryz.prog 21 #[.agg #[.bool n.neg, A, B]] W' fun e w' => e = .returned (.int .i64 n.err) ∧ Below W'.heap.size W' w') := fun W' hb => fault_any n.neg n.num n.den A B W' (hA.to hb) (hB.to hb) hn.1 hn.2
  have hbd : 0 ≤ n.err ∧ n.err ≤ 3 := checkL_bd _ _ _
  have HR := Lib.hid hr
  have HA := Lib.hid ha
  have IH := Lib.hid ih
  have HE0 : Hid ((Tm.mk 3 v s n args).err0 = if nodeE 3 v s n.neg n.num.length n.den.length n.err args.length = 0 then errL args else nodeE 3 v s n.neg n.num.length n.den.length n.err args.length) := by unfold Hid; rw [Tm.err0]
  obtain ⟨A1, q1, rfl, ha1, ha2, _⟩ := hA
  obtain ⟨B1, q2, rfl, hb1, hb2, _⟩ := hB
  unfold maxLen at hm ha2 hb2
  have HWB := Lib.hid hW
  have HNN : Hid (∀ W' : World, Calls Tryz.prog 126 #[.agg #[.bool n.neg, .slice A1 n.num.length q1, .slice B1 n.den.length q2]] W' fun e w' => e = .returned (.bool (zeroB n.neg n.num.length n.den.length)) ∧ Below W'.heap.size W' w') := fun W' => noNumber_any n.neg A1 B1 _ _ q1 q2 W' (by omega) (by omega)
  have hst : s.toList = [] → s.size = 0 := size_of_toList
  generalize (Tm.mk 3 v s n args).err0 = e0 at *
  generalize n.err = er at *
  generalize n.neg = ng at *
  generalize n.num.length = m1 at *
  generalize n.den.length = m2 at *
  obtain ⟨zb, HZB⟩ : ∃ zb, Hid (zeroB ng m1 m2 = zb) := ⟨_, rfl⟩
  rw [HZB.out] at HNN
  clear hr ha ih hn hs hW ha1 ha2 hb1 hb2
  obtain ⟨l, hl⟩ : ∃ l, args.length = l := ⟨_, rfl⟩
  rw [hl] at hcap HE0 ⊢
  have HL := Lib.hid hl
  clear hl
  have HBA := Lib.hid (below_one W (.cells #[.int .i64 3, .int .i64 v, .string s, .bool ng, .slice A1 m1 q1, .slice B1 m2 q2, .slice Ar l cap] 27))
  have HKA := Lib.hid (Blk.new W 27 #[.int .i64 3, .int .i64 v, .string s, .bool ng, .slice A1 m1 q1, .slice B1 m2 q2, .slice Ar l cap])
  go_enter Tryz.func79, Tryz.ntmps79
  go_wp2_with fail
  all_goals first
    | (go_ret
       refine ⟨congrArg (fun z => Ending.returned (Value.int .i64 z)) ?_, below_one W _⟩
       rw [HE0.out]
       clear HFA HR HA IH HE0 HWB HNN HL HBA HKA
       have hzb := HZB.out
       clear HZB
       unfold nodeE
       (repeat' split) <;> first | rfl | omega | (simp_all; done) | (simp_all; omega))
    | skip
  refine (HNN.out _).mono ?_
  rintro e w1 ⟨rfl, hb1⟩
  have HB1 : Hid (Below W.heap.size W w1) := (below_one W _).trans (hb1.mono (below_one W _).size)
  have hk := (Blk.new W 27 _).to hb1
  have c0 := hk.cell 0
  have c1' := hk.cell 1
  have c2 := hk.cell 2
  have c3 := hk.cell 3
  have c4 := hk.cell 4
  have c5 := hk.cell 5
  have c6 := hk.cell 6
  simp only [List.getElem?_toArray, List.getElem?_cons_zero, List.getElem?_cons_succ] at c0 c1' c2 c3 c4 c5 c6
  clear hb1 hk
  go_wp2_with fail
  all_goals first
    | (go_ret
       refine ⟨congrArg (fun z => Ending.returned (Value.int .i64 z)) ?_, HB1.out⟩
       rw [HE0.out]
       clear HFA HR HA IH HE0 HWB HNN HL HBA HKA HB1 c0 c1' c2 c3 c4 c5 c6
       have hzb := HZB.out
       clear HZB
       unfold nodeE
       (repeat' split) <;> first | rfl | omega | (simp_all; done) | (simp_all; omega))
    | skip
  have hne : nodeE 3 v s ng m1 m2 er l = 0 := by
    clear HFA HR HA IH HE0 HWB HNN HL HBA HKA HB1 c0 c1' c2 c3 c4 c5 c6
    have hzb := HZB.out
    clear HZB
    unfold nodeE
    (repeat' split) <;> first | rfl | omega | (simp_all; done) | (simp_all; omega)
  have HR0 : Hid (e0 = errL args) := by unfold Hid; rw [HE0.out, if_pos hne]
  clear hne HE0 HNN HFA c0 c1' c2 c3 c4 c5 c6
  go_loopg [128] l (fun gk s128 wr => ∃ j : Nat, gk + j = l ∧ s128 = .int .i64 (j : Int) ∧ Hid (errL (args.take j) = 0) ∧ Hid (Below W.heap.size W wr))
  case atStart => exact ⟨0, by omega, rfl, by unfold Hid; rw [List.take_zero]; rfl, HB1.out⟩
  case round =>
    obtain ⟨j, hgj, rfl, HC, HB⟩ := hrel
    by_cases hj : j < l
    · exfalso; omega
    · obtain rfl : j = l := by omega
      have HR1 : Hid (e0 = 0) := by unfold Hid; rw [HR0.out]; have h := HC.out; rw [List.take_of_length_le (by rw [HL.out]; exact Nat.le_refl _)] at h; exact h
      go_wp2_with fail
      go_ret
      rw [HR1.out]
      exact ⟨rfl, HB.out⟩
set_option maxHeartbeats 12800000 in
theorem fault_four {w : World} {v : Int} {s : ByteArray} {n : LN} {args : List Tm} {A B : Value} {Ar : Option Addr} {cap : Nat} {cs : Nat → List Value} 
    (hs : s.size ≤ maxLen) (hA : Sl .u32 w A n.num) (hB : Sl .u32 w B n.den) (hn : n.ok) (hcap : args.length ≤ cap) (hm : cap ≤ maxLen)
    (hr : 0 < args.length → ∃ b o, Ar = some ⟨b, o, none⟩ ∧ b < w.heap.size ∧ ∀ i, i < args.length → ∀ j, j < 7 → w.cell? ⟨b, o + i * 7 + j, none⟩ = (cs i)[j]?)
    (ha : ∀ i (h : i < args.length), TC w args[i] (cs i))
    (ih : ∀ i (h : i < args.length) (W : World), Below w.heap.size w W → Calls Tryz.prog 79 #[.agg (cs i).toArray] W fun e W' => e = .returned (.int .i64 (args[i]).err0) ∧ Below W.heap.size W W')
    (W : World) (hW : Below w.heap.size w W) : Calls Tryz.prog 79 #[.agg #[.int .i64 4, .int .i64 v, .string s, .bool n.neg, A, B, .slice Ar args.length cap]] W fun e W' => e = .returned (.int .i64 (Tm.mk 4 v s n args).err0) ∧ Below W.heap.size W W' := by
  have HFA : Hid (∀ W' : World, Below w.heap.size w W' → Calls Tryz.prog 21 #[.agg #[.bool n.neg, A, B]] W' fun e w' => e = .returned (.int .i64 n.err) ∧ Below W'.heap.size W' w') := fun W' hb => fault_any n.neg n.num n.den A B W' (hA.to hb) (hB.to hb) hn.1 hn.2
  have hbd : 0 ≤ n.err ∧ n.err ≤ 3 := checkL_bd _ _ _
  have HR := Lib.hid hr
  have HA := Lib.hid ha
  have IH := Lib.hid ih
  have HE0 : Hid ((Tm.mk 4 v s n args).err0 = if nodeE 4 v s n.neg n.num.length n.den.length n.err args.length = 0 then errL args else nodeE 4 v s n.neg n.num.length n.den.length n.err args.length) := by unfold Hid; rw [Tm.err0]
  obtain ⟨A1, q1, rfl, ha1, ha2, _⟩ := hA
  obtain ⟨B1, q2, rfl, hb1, hb2, _⟩ := hB
  unfold maxLen at hm ha2 hb2
  have HWB := Lib.hid hW
  have HNN : Hid (∀ W' : World, Calls Tryz.prog 126 #[.agg #[.bool n.neg, .slice A1 n.num.length q1, .slice B1 n.den.length q2]] W' fun e w' => e = .returned (.bool (zeroB n.neg n.num.length n.den.length)) ∧ Below W'.heap.size W' w') := fun W' => noNumber_any n.neg A1 B1 _ _ q1 q2 W' (by omega) (by omega)
  have hst : s.toList = [] → s.size = 0 := size_of_toList
  generalize (Tm.mk 4 v s n args).err0 = e0 at *
  generalize n.err = er at *
  generalize n.neg = ng at *
  generalize n.num.length = m1 at *
  generalize n.den.length = m2 at *
  obtain ⟨zb, HZB⟩ : ∃ zb, Hid (zeroB ng m1 m2 = zb) := ⟨_, rfl⟩
  rw [HZB.out] at HNN
  clear hr ha ih hn hs hW ha1 ha2 hb1 hb2
  obtain ⟨l, hl⟩ : ∃ l, args.length = l := ⟨_, rfl⟩
  rw [hl] at hcap HE0 ⊢
  have HL := Lib.hid hl
  clear hl
  have HBA := Lib.hid (below_one W (.cells #[.int .i64 4, .int .i64 v, .string s, .bool ng, .slice A1 m1 q1, .slice B1 m2 q2, .slice Ar l cap] 27))
  have HKA := Lib.hid (Blk.new W 27 #[.int .i64 4, .int .i64 v, .string s, .bool ng, .slice A1 m1 q1, .slice B1 m2 q2, .slice Ar l cap])
  go_enter Tryz.func79, Tryz.ntmps79
  go_wp2_with fail
  all_goals first
    | (go_ret
       refine ⟨congrArg (fun z => Ending.returned (Value.int .i64 z)) ?_, below_one W _⟩
       rw [HE0.out]
       clear HFA HR HA IH HE0 HWB HNN HL HBA HKA
       have hzb := HZB.out
       clear HZB
       unfold nodeE
       (repeat' split) <;> first | rfl | omega | (simp_all; done) | (simp_all; omega))
    | skip
  refine (HNN.out _).mono ?_
  rintro e w1 ⟨rfl, hb1⟩
  have HB1 : Hid (Below W.heap.size W w1) := (below_one W _).trans (hb1.mono (below_one W _).size)
  have hk := (Blk.new W 27 _).to hb1
  have c0 := hk.cell 0
  have c1' := hk.cell 1
  have c2 := hk.cell 2
  have c3 := hk.cell 3
  have c4 := hk.cell 4
  have c5 := hk.cell 5
  have c6 := hk.cell 6
  simp only [List.getElem?_toArray, List.getElem?_cons_zero, List.getElem?_cons_succ] at c0 c1' c2 c3 c4 c5 c6
  clear hb1 hk
  go_wp2_with fail
  all_goals first
    | (go_ret
       refine ⟨congrArg (fun z => Ending.returned (Value.int .i64 z)) ?_, HB1.out⟩
       rw [HE0.out]
       clear HFA HR HA IH HE0 HWB HNN HL HBA HKA HB1 c0 c1' c2 c3 c4 c5 c6
       have hzb := HZB.out
       clear HZB
       unfold nodeE
       (repeat' split) <;> first | rfl | omega | (simp_all; done) | (simp_all; omega))
    | skip
  have hne : nodeE 4 v s ng m1 m2 er l = 0 := by
    clear HFA HR HA IH HE0 HWB HNN HL HBA HKA HB1 c0 c1' c2 c3 c4 c5 c6
    have hzb := HZB.out
    clear HZB
    unfold nodeE
    (repeat' split) <;> first | rfl | omega | (simp_all; done) | (simp_all; omega)
  have HR0 : Hid (e0 = errL args) := by unfold Hid; rw [HE0.out, if_pos hne]
  clear hne HE0 HNN HFA c0 c1' c2 c3 c4 c5 c6
  go_loopg [128] l (fun gk s128 wr => ∃ j : Nat, gk + j = l ∧ s128 = .int .i64 (j : Int) ∧ Hid (errL (args.take j) = 0) ∧ Hid (Below W.heap.size W wr))
  case atStart => exact ⟨0, by omega, rfl, by unfold Hid; rw [List.take_zero]; rfl, HB1.out⟩
  case round =>
    obtain ⟨j, hgj, rfl, HC, HB⟩ := hrel
    by_cases hj : j < l
    · exfalso; omega
    · obtain rfl : j = l := by omega
      have HR1 : Hid (e0 = 0) := by unfold Hid; rw [HR0.out]; have h := HC.out; rw [List.take_of_length_le (by rw [HL.out]; exact Nat.le_refl _)] at h; exact h
      go_wp2_with fail
      go_ret
      rw [HR1.out]
      exact ⟨rfl, HB.out⟩
set_option maxHeartbeats 12800000 in
theorem fault_five {w : World} {v : Int} {s : ByteArray} {n : LN} {args : List Tm} {A B : Value} {Ar : Option Addr} {cap : Nat} {cs : Nat → List Value} 
    (hs : s.size ≤ maxLen) (hA : Sl .u32 w A n.num) (hB : Sl .u32 w B n.den) (hn : n.ok) (hcap : args.length ≤ cap) (hm : cap ≤ maxLen)
    (hr : 0 < args.length → ∃ b o, Ar = some ⟨b, o, none⟩ ∧ b < w.heap.size ∧ ∀ i, i < args.length → ∀ j, j < 7 → w.cell? ⟨b, o + i * 7 + j, none⟩ = (cs i)[j]?)
    (ha : ∀ i (h : i < args.length), TC w args[i] (cs i))
    (ih : ∀ i (h : i < args.length) (W : World), Below w.heap.size w W → Calls Tryz.prog 79 #[.agg (cs i).toArray] W fun e W' => e = .returned (.int .i64 (args[i]).err0) ∧ Below W.heap.size W W')
    (W : World) (hW : Below w.heap.size w W) : Calls Tryz.prog 79 #[.agg #[.int .i64 5, .int .i64 v, .string s, .bool n.neg, A, B, .slice Ar args.length cap]] W fun e W' => e = .returned (.int .i64 (Tm.mk 5 v s n args).err0) ∧ Below W.heap.size W W' := by
  have HFA : Hid (∀ W' : World, Below w.heap.size w W' → Calls Tryz.prog 21 #[.agg #[.bool n.neg, A, B]] W' fun e w' => e = .returned (.int .i64 n.err) ∧ Below W'.heap.size W' w') := fun W' hb => fault_any n.neg n.num n.den A B W' (hA.to hb) (hB.to hb) hn.1 hn.2
  have hbd : 0 ≤ n.err ∧ n.err ≤ 3 := checkL_bd _ _ _
  have HR := Lib.hid hr
  have HA := Lib.hid ha
  have IH := Lib.hid ih
  have HE0 : Hid ((Tm.mk 5 v s n args).err0 = if nodeE 5 v s n.neg n.num.length n.den.length n.err args.length = 0 then errL args else nodeE 5 v s n.neg n.num.length n.den.length n.err args.length) := by unfold Hid; rw [Tm.err0]
  obtain ⟨A1, q1, rfl, ha1, ha2, _⟩ := hA
  obtain ⟨B1, q2, rfl, hb1, hb2, _⟩ := hB
  unfold maxLen at hm ha2 hb2
  have HWB := Lib.hid hW
  have HNN : Hid (∀ W' : World, Calls Tryz.prog 126 #[.agg #[.bool n.neg, .slice A1 n.num.length q1, .slice B1 n.den.length q2]] W' fun e w' => e = .returned (.bool (zeroB n.neg n.num.length n.den.length)) ∧ Below W'.heap.size W' w') := fun W' => noNumber_any n.neg A1 B1 _ _ q1 q2 W' (by omega) (by omega)
  have hst : s.toList = [] → s.size = 0 := size_of_toList
  generalize (Tm.mk 5 v s n args).err0 = e0 at *
  generalize n.err = er at *
  generalize n.neg = ng at *
  generalize n.num.length = m1 at *
  generalize n.den.length = m2 at *
  obtain ⟨zb, HZB⟩ : ∃ zb, Hid (zeroB ng m1 m2 = zb) := ⟨_, rfl⟩
  rw [HZB.out] at HNN
  clear hr ha ih hn hs hW ha1 ha2 hb1 hb2
  obtain ⟨l, hl⟩ : ∃ l, args.length = l := ⟨_, rfl⟩
  rw [hl] at hcap HE0 ⊢
  have HL := Lib.hid hl
  clear hl
  have HBA := Lib.hid (below_one W (.cells #[.int .i64 5, .int .i64 v, .string s, .bool ng, .slice A1 m1 q1, .slice B1 m2 q2, .slice Ar l cap] 27))
  have HKA := Lib.hid (Blk.new W 27 #[.int .i64 5, .int .i64 v, .string s, .bool ng, .slice A1 m1 q1, .slice B1 m2 q2, .slice Ar l cap])
  go_enter Tryz.func79, Tryz.ntmps79
  go_wp2_with fail
  all_goals first
    | (go_ret
       refine ⟨congrArg (fun z => Ending.returned (Value.int .i64 z)) ?_, below_one W _⟩
       rw [HE0.out]
       clear HFA HR HA IH HE0 HWB HNN HL HBA HKA
       have hzb := HZB.out
       clear HZB
       unfold nodeE
       (repeat' split) <;> first | rfl | omega | (simp_all; done) | (simp_all; omega))
    | skip
  refine (HNN.out _).mono ?_
  rintro e w1 ⟨rfl, hb1⟩
  have HB1 : Hid (Below W.heap.size W w1) := (below_one W _).trans (hb1.mono (below_one W _).size)
  have hk := (Blk.new W 27 _).to hb1
  have c0 := hk.cell 0
  have c1' := hk.cell 1
  have c2 := hk.cell 2
  have c3 := hk.cell 3
  have c4 := hk.cell 4
  have c5 := hk.cell 5
  have c6 := hk.cell 6
  simp only [List.getElem?_toArray, List.getElem?_cons_zero, List.getElem?_cons_succ] at c0 c1' c2 c3 c4 c5 c6
  clear hb1 hk
  go_wp2_with fail
  all_goals first
    | (go_ret
       refine ⟨congrArg (fun z => Ending.returned (Value.int .i64 z)) ?_, HB1.out⟩
       rw [HE0.out]
       clear HFA HR HA IH HE0 HWB HNN HL HBA HKA HB1 c0 c1' c2 c3 c4 c5 c6
       have hzb := HZB.out
       clear HZB
       unfold nodeE
       (repeat' split) <;> first | rfl | omega | (simp_all; done) | (simp_all; omega))
    | skip
  have hne : nodeE 5 v s ng m1 m2 er l = 0 := by
    clear HFA HR HA IH HE0 HWB HNN HL HBA HKA HB1 c0 c1' c2 c3 c4 c5 c6
    have hzb := HZB.out
    clear HZB
    unfold nodeE
    (repeat' split) <;> first | rfl | omega | (simp_all; done) | (simp_all; omega)
  have HR0 : Hid (e0 = errL args) := by unfold Hid; rw [HE0.out, if_pos hne]
  clear hne HE0 HNN HFA c0 c1' c2 c3 c4 c5 c6
  go_loopg [128] l (fun gk s128 wr => ∃ j : Nat, gk + j = l ∧ s128 = .int .i64 (j : Int) ∧ Hid (errL (args.take j) = 0) ∧ Hid (Below W.heap.size W wr))
  case atStart => exact ⟨0, by omega, rfl, by unfold Hid; rw [List.take_zero]; rfl, HB1.out⟩
  case round =>
    obtain ⟨j, hgj, rfl, HC, HB⟩ := hrel
    by_cases hj : j < l
    · have hja : j < args.length := by rw [HL.out]; exact hj
      have HBW := HWB.out.trans (HB.out.mono HWB.out.size)
      obtain ⟨b, o, k', v', s', ng', A2, n2, c2, B2, m3, d2, Xr, xl, xc, hAr, hcs, hlt, e0', e1, e2, e3, e4, e5, e6⟩ := arg_cells HR.out HA.out HBW hja
      subst hAr
      have HCALL : Hid (∀ W', Below wr.heap.size wr W' → Calls Tryz.prog 79 #[.agg #[.int .i64 k', .int .i64 v', .string s', .bool ng', .slice A2 n2 c2, .slice B2 m3 d2, .slice Xr xl xc]] W' fun e w' => e = .returned (.int .i64 (args[j]).err0) ∧ Below W'.heap.size W' w') := fun W' hb => by
        have := IH.out j hja W' (HBW.trans (hb.mono HBW.size))
        rw [hcs] at this
        exact this
      have hbd := Tm.err0_bd args[j]
      have HT := Lib.hid (fun h => errL_stop args hja HC.out h)
      have HN := Lib.hid (errL_take args hja HC.out)
      generalize (args[j]).err0 = ej at *
      go_wp2_with fail
      refine (HCALL.out _ (by exact below_one _ _)).mono ?_
      rintro e w3 ⟨rfl, hb⟩
      have HB3 := Lib.hid (HB.out.trans (((below_one wr (.cells #[.int .i64 k', .int .i64 v', .string s', .bool ng', .slice A2 n2 c2, .slice B2 m3 d2, .slice Xr xl xc] 27)).trans (hb.mono (below_one wr _).size)).mono HB.out.size))
      clear hb e0' e1 e2 e3 e4 e5 e6 HCALL
      by_cases he : ej = 0
      · have hz : (ej != 0) = false := by rw [he]; rfl
        have HN2 : Hid (errL (args.take (j + 1)) = 0) := by unfold Hid; rw [HN.out, he]
        go_wp2_with fail
        go_roundg (gk - 1)
        case measure => omega
        case rel => exact ⟨j + 1, by omega, by go_num, HN2, HB3.out⟩
      · have hz : (ej != 0) = true := by rw [bne_iff_ne]; exact he
        have HR1 : Hid (e0 = ej) := by unfold Hid; rw [HR0.out]; exact HT.out he
        go_wp2_with fail
        go_ret
        rw [HR1.out]
        exact ⟨rfl, HB3.out⟩
    · obtain rfl : j = l := by omega
      have HR1 : Hid (e0 = 0) := by unfold Hid; rw [HR0.out]; have h := HC.out; rw [List.take_of_length_le (by rw [HL.out]; exact Nat.le_refl _)] at h; exact h
      go_wp2_with fail
      go_ret
      rw [HR1.out]
      exact ⟨rfl, HB.out⟩
set_option maxHeartbeats 12800000 in
theorem fault_other {w : World} {k : Int} {v : Int} {s : ByteArray} {n : LN} {args : List Tm} {A B : Value} {Ar : Option Addr} {cap : Nat} {cs : Nat → List Value} (h1 : k ≠ 1) (h2 : k ≠ 2) (h3 : k ≠ 3) (h4 : k ≠ 4) (h5 : k ≠ 5) 
    (hs : s.size ≤ maxLen) (hA : Sl .u32 w A n.num) (hB : Sl .u32 w B n.den) (hn : n.ok) (hcap : args.length ≤ cap) (hm : cap ≤ maxLen)
    (hr : 0 < args.length → ∃ b o, Ar = some ⟨b, o, none⟩ ∧ b < w.heap.size ∧ ∀ i, i < args.length → ∀ j, j < 7 → w.cell? ⟨b, o + i * 7 + j, none⟩ = (cs i)[j]?)
    (ha : ∀ i (h : i < args.length), TC w args[i] (cs i))
    (ih : ∀ i (h : i < args.length) (W : World), Below w.heap.size w W → Calls Tryz.prog 79 #[.agg (cs i).toArray] W fun e W' => e = .returned (.int .i64 (args[i]).err0) ∧ Below W.heap.size W W')
    (W : World) (hW : Below w.heap.size w W) : Calls Tryz.prog 79 #[.agg #[.int .i64 k, .int .i64 v, .string s, .bool n.neg, A, B, .slice Ar args.length cap]] W fun e W' => e = .returned (.int .i64 (Tm.mk k v s n args).err0) ∧ Below W.heap.size W W' := by
  have HFA : Hid (∀ W' : World, Below w.heap.size w W' → Calls Tryz.prog 21 #[.agg #[.bool n.neg, A, B]] W' fun e w' => e = .returned (.int .i64 n.err) ∧ Below W'.heap.size W' w') := fun W' hb => fault_any n.neg n.num n.den A B W' (hA.to hb) (hB.to hb) hn.1 hn.2
  have hbd : 0 ≤ n.err ∧ n.err ≤ 3 := checkL_bd _ _ _
  have HR := Lib.hid hr
  have HA := Lib.hid ha
  have IH := Lib.hid ih
  have HE0 : Hid ((Tm.mk k v s n args).err0 = if nodeE k v s n.neg n.num.length n.den.length n.err args.length = 0 then errL args else nodeE k v s n.neg n.num.length n.den.length n.err args.length) := by unfold Hid; rw [Tm.err0]
  obtain ⟨A1, q1, rfl, ha1, ha2, _⟩ := hA
  obtain ⟨B1, q2, rfl, hb1, hb2, _⟩ := hB
  unfold maxLen at hm ha2 hb2
  have HWB := Lib.hid hW
  have HNN : Hid (∀ W' : World, Calls Tryz.prog 126 #[.agg #[.bool n.neg, .slice A1 n.num.length q1, .slice B1 n.den.length q2]] W' fun e w' => e = .returned (.bool (zeroB n.neg n.num.length n.den.length)) ∧ Below W'.heap.size W' w') := fun W' => noNumber_any n.neg A1 B1 _ _ q1 q2 W' (by omega) (by omega)
  have hst : s.toList = [] → s.size = 0 := size_of_toList
  generalize (Tm.mk k v s n args).err0 = e0 at *
  generalize n.err = er at *
  generalize n.neg = ng at *
  generalize n.num.length = m1 at *
  generalize n.den.length = m2 at *
  obtain ⟨zb, HZB⟩ : ∃ zb, Hid (zeroB ng m1 m2 = zb) := ⟨_, rfl⟩
  rw [HZB.out] at HNN
  clear hr ha ih hn hs hW ha1 ha2 hb1 hb2
  obtain ⟨l, hl⟩ : ∃ l, args.length = l := ⟨_, rfl⟩
  rw [hl] at hcap HE0 ⊢
  have HL := Lib.hid hl
  clear hl
  have HBA := Lib.hid (below_one W (.cells #[.int .i64 k, .int .i64 v, .string s, .bool ng, .slice A1 m1 q1, .slice B1 m2 q2, .slice Ar l cap] 27))
  have HKA := Lib.hid (Blk.new W 27 #[.int .i64 k, .int .i64 v, .string s, .bool ng, .slice A1 m1 q1, .slice B1 m2 q2, .slice Ar l cap])
  have k1 : (k == 1) = false := beq_eq_false_iff_ne.2 h1
  have k2 : (k == 2) = false := beq_eq_false_iff_ne.2 h2
  have k3 : (k == 3) = false := beq_eq_false_iff_ne.2 h3
  have k4 : (k == 4) = false := beq_eq_false_iff_ne.2 h4
  have k5 : (k == 5) = false := beq_eq_false_iff_ne.2 h5
  have k6 : k < 1 ∨ 5 < k := by omega
  go_enter Tryz.func79, Tryz.ntmps79
  go_wp2_with fail
  all_goals first
    | (go_ret
       refine ⟨congrArg (fun z => Ending.returned (Value.int .i64 z)) ?_, below_one W _⟩
       rw [HE0.out]
       clear HFA HR HA IH HE0 HWB HNN HL HBA HKA
       have hzb := HZB.out
       clear HZB
       unfold nodeE
       (repeat' split) <;> first | rfl | omega | (simp_all; done) | (simp_all; omega))
theorem nodeFault_any {w : World} {t : Tm} {cs : List Value} (h : TC w t cs) : ∀ (W : World), Below w.heap.size w W →
    Calls Tryz.prog 79 #[.agg cs.toArray] W fun e W' => e = .returned (.int .i64 t.err0) ∧ Below W.heap.size W W' := by
  induction h with
  | mk k v s n args A B Ar cap cs hk hv hs hA hB hn hcap hm hr ha ih =>
    intro W hW
    by_cases h1 : k = 1
    · subst h1; exact fault_one hs hA hB hn hcap hm hr ha ih W hW
    by_cases h2 : k = 2
    · subst h2; exact fault_two hs hA hB hn hcap hm hr ha ih W hW
    by_cases h3 : k = 3
    · subst h3; exact fault_three hs hA hB hn hcap hm hr ha ih W hW
    by_cases h4 : k = 4
    · subst h4; exact fault_four hs hA hB hn hcap hm hr ha ih W hW
    by_cases h5 : k = 5
    · subst h5; exact fault_five hs hA hB hn hcap hm hr ha ih W hW
    exact fault_other h1 h2 h3 h4 h5 hs hA hB hn hcap hm hr ha ih W hW
end Go.Proofs.YtkfnpcilanheiaaGreat

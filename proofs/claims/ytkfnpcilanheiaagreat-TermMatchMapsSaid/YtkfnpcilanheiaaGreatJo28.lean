/- term.Order at valid terms. -/
import Derived.Deep.RegionHeld3
import Derived.Test.YtkfnpcilanheiaaGreatJo21
import Derived.Test.YtkfnpcilanheiaaGreatJo22
set_option linter.unusedVariables false
set_option linter.unusedSimpArgs false
set_option maxRecDepth 100000
namespace Go.Proofs.YtkfnpcilanheiaaGreat
open Go.RowKit NumB
theorem blk_second (w : World) (o : Obj) {T : TypeId} (cs : Array Value) : Blk ((w.alloc o).alloc (.cells cs T)) (w.heap.size + 1) T cs := by
  have := Blk.new (w.alloc o) T cs
  rw [show (w.alloc o).heap.size = w.heap.size + 1 by simp] at this
  exact this
set_option maxHeartbeats 2000000 in
theorem order_kind (W : World) (v v2 : Int) (s s2 : ByteArray) (ng ng2 : Bool) (A1 B1 Ar A2 B2 Ar2 : Option Addr) (m1 q1 m2 q2 l cap m3 q3 m4 q4 l2 cap2 : Nat) (k k2 : Int) (h : k ≠ k2) :
    Calls Tryz.prog 87 #[.agg #[.int .i64 k, .int .i64 v, .string s, .bool ng, .slice A1 m1 q1, .slice B1 m2 q2, .slice Ar l cap], .agg #[.int .i64 k2, .int .i64 v2, .string s2, .bool ng2, .slice A2 m3 q3, .slice B2 m4 q4, .slice Ar2 l2 cap2]] W fun e W' => e = .returned (.int .i64 (icmp k k2)) ∧ Below W.heap.size W W' := by
  have HBA : Hid (Below W.heap.size W ((W.alloc (.cells #[.int .i64 k, .int .i64 v, .string s, .bool ng, .slice A1 m1 q1, .slice B1 m2 q2, .slice Ar l cap] 27)).alloc (.cells #[.int .i64 k2, .int .i64 v2, .string s2, .bool ng2, .slice A2 m3 q3, .slice B2 m4 q4, .slice Ar2 l2 cap2] 27))) := below_pair W _ _
  have HKA : Hid (Blk ((W.alloc (.cells #[.int .i64 k, .int .i64 v, .string s, .bool ng, .slice A1 m1 q1, .slice B1 m2 q2, .slice Ar l cap] 27)).alloc (.cells #[.int .i64 k2, .int .i64 v2, .string s2, .bool ng2, .slice A2 m3 q3, .slice B2 m4 q4, .slice Ar2 l2 cap2] 27)) W.heap.size 27 #[.int .i64 k, .int .i64 v, .string s, .bool ng, .slice A1 m1 q1, .slice B1 m2 q2, .slice Ar l cap]) := (Blk.new W 27 #[.int .i64 k, .int .i64 v, .string s, .bool ng, .slice A1 m1 q1, .slice B1 m2 q2, .slice Ar l cap]).alloc _
  have HKB : Hid (Blk ((W.alloc (.cells #[.int .i64 k, .int .i64 v, .string s, .bool ng, .slice A1 m1 q1, .slice B1 m2 q2, .slice Ar l cap] 27)).alloc (.cells #[.int .i64 k2, .int .i64 v2, .string s2, .bool ng2, .slice A2 m3 q3, .slice B2 m4 q4, .slice Ar2 l2 cap2] 27)) (W.heap.size + 1) 27 #[.int .i64 k2, .int .i64 v2, .string s2, .bool ng2, .slice A2 m3 q3, .slice B2 m4 q4, .slice Ar2 l2 cap2]) := blk_second W _ _
  have hb : (k != k2) = true := by simp [h]
  clear h
  go_enter Tryz.func87, Tryz.ntmps87
  go_wp2_with fail
  refine (cmpInt_any _ _ _).mono ?_
  rintro e w1 ⟨rfl, rfl⟩
  go_wp2_with fail
  go_ret
  exact ⟨rfl, HBA.out⟩
set_option maxHeartbeats 2000000 in
theorem order_var (W : World) (v v2 : Int) (s s2 : ByteArray) (ng ng2 : Bool) (A1 B1 Ar A2 B2 Ar2 : Option Addr) (m1 q1 m2 q2 l cap m3 q3 m4 q4 l2 cap2 : Nat) :
    Calls Tryz.prog 87 #[.agg #[.int .i64 1, .int .i64 v, .string s, .bool ng, .slice A1 m1 q1, .slice B1 m2 q2, .slice Ar l cap], .agg #[.int .i64 1, .int .i64 v2, .string s2, .bool ng2, .slice A2 m3 q3, .slice B2 m4 q4, .slice Ar2 l2 cap2]] W fun e W' => e = .returned (.int .i64 (icmp v v2)) ∧ Below W.heap.size W W' := by
  have HBA : Hid (Below W.heap.size W ((W.alloc (.cells #[.int .i64 1, .int .i64 v, .string s, .bool ng, .slice A1 m1 q1, .slice B1 m2 q2, .slice Ar l cap] 27)).alloc (.cells #[.int .i64 1, .int .i64 v2, .string s2, .bool ng2, .slice A2 m3 q3, .slice B2 m4 q4, .slice Ar2 l2 cap2] 27))) := below_pair W _ _
  have HKA : Hid (Blk ((W.alloc (.cells #[.int .i64 1, .int .i64 v, .string s, .bool ng, .slice A1 m1 q1, .slice B1 m2 q2, .slice Ar l cap] 27)).alloc (.cells #[.int .i64 1, .int .i64 v2, .string s2, .bool ng2, .slice A2 m3 q3, .slice B2 m4 q4, .slice Ar2 l2 cap2] 27)) W.heap.size 27 #[.int .i64 1, .int .i64 v, .string s, .bool ng, .slice A1 m1 q1, .slice B1 m2 q2, .slice Ar l cap]) := (Blk.new W 27 #[.int .i64 1, .int .i64 v, .string s, .bool ng, .slice A1 m1 q1, .slice B1 m2 q2, .slice Ar l cap]).alloc _
  have HKB : Hid (Blk ((W.alloc (.cells #[.int .i64 1, .int .i64 v, .string s, .bool ng, .slice A1 m1 q1, .slice B1 m2 q2, .slice Ar l cap] 27)).alloc (.cells #[.int .i64 1, .int .i64 v2, .string s2, .bool ng2, .slice A2 m3 q3, .slice B2 m4 q4, .slice Ar2 l2 cap2] 27)) (W.heap.size + 1) 27 #[.int .i64 1, .int .i64 v2, .string s2, .bool ng2, .slice A2 m3 q3, .slice B2 m4 q4, .slice Ar2 l2 cap2]) := blk_second W _ _
  go_enter Tryz.func87, Tryz.ntmps87
  go_wp2_with fail
  refine (cmpInt_any _ _ _).mono ?_
  rintro e w1 ⟨rfl, rfl⟩
  go_wp2_with fail
  go_ret
  exact ⟨rfl, HBA.out⟩
set_option maxHeartbeats 2000000 in
theorem order_num (W : World) (v v2 : Int) (s s2 : ByteArray) (ng ng2 : Bool) (A1 B1 Ar A2 B2 Ar2 : Option Addr) (m1 q1 m2 q2 l cap m3 q3 m4 q4 l2 cap2 : Nat) (c : Int) (er : Int) (hc : ∀ W', Below W.heap.size W W' → Calls Tryz.prog 131 #[.agg #[.bool ng, .slice A1 m1 q1, .slice B1 m2 q2], .agg #[.bool ng2, .slice A2 m3 q3, .slice B2 m4 q4]] W' fun e w' => e = .returned (.tuple #[.int .i64 c, .int .i64 er]) ∧ Below W'.heap.size W' w') :
    Calls Tryz.prog 87 #[.agg #[.int .i64 2, .int .i64 v, .string s, .bool ng, .slice A1 m1 q1, .slice B1 m2 q2, .slice Ar l cap], .agg #[.int .i64 2, .int .i64 v2, .string s2, .bool ng2, .slice A2 m3 q3, .slice B2 m4 q4, .slice Ar2 l2 cap2]] W fun e W' => e = .returned (.int .i64 (c)) ∧ Below W.heap.size W W' := by
  have HBA : Hid (Below W.heap.size W ((W.alloc (.cells #[.int .i64 2, .int .i64 v, .string s, .bool ng, .slice A1 m1 q1, .slice B1 m2 q2, .slice Ar l cap] 27)).alloc (.cells #[.int .i64 2, .int .i64 v2, .string s2, .bool ng2, .slice A2 m3 q3, .slice B2 m4 q4, .slice Ar2 l2 cap2] 27))) := below_pair W _ _
  have HKA : Hid (Blk ((W.alloc (.cells #[.int .i64 2, .int .i64 v, .string s, .bool ng, .slice A1 m1 q1, .slice B1 m2 q2, .slice Ar l cap] 27)).alloc (.cells #[.int .i64 2, .int .i64 v2, .string s2, .bool ng2, .slice A2 m3 q3, .slice B2 m4 q4, .slice Ar2 l2 cap2] 27)) W.heap.size 27 #[.int .i64 2, .int .i64 v, .string s, .bool ng, .slice A1 m1 q1, .slice B1 m2 q2, .slice Ar l cap]) := (Blk.new W 27 #[.int .i64 2, .int .i64 v, .string s, .bool ng, .slice A1 m1 q1, .slice B1 m2 q2, .slice Ar l cap]).alloc _
  have HKB : Hid (Blk ((W.alloc (.cells #[.int .i64 2, .int .i64 v, .string s, .bool ng, .slice A1 m1 q1, .slice B1 m2 q2, .slice Ar l cap] 27)).alloc (.cells #[.int .i64 2, .int .i64 v2, .string s2, .bool ng2, .slice A2 m3 q3, .slice B2 m4 q4, .slice Ar2 l2 cap2] 27)) (W.heap.size + 1) 27 #[.int .i64 2, .int .i64 v2, .string s2, .bool ng2, .slice A2 m3 q3, .slice B2 m4 q4, .slice Ar2 l2 cap2]) := blk_second W _ _
  have HC := Lib.hid hc
  clear hc
  go_enter Tryz.func87, Tryz.ntmps87
  go_wp2_with fail
  refine (HC.out _ HBA.out).mono ?_
  rintro e w1 ⟨rfl, hb1⟩
  have HB1 := Lib.hid (HBA.out.trans (hb1.mono HBA.out.size))
  clear hb1
  go_wp2_with fail
  go_ret
  exact ⟨rfl, HB1.out⟩
theorem cmpTs_drop {a b : List Tm} {j : Nat} (h1 : j < a.length) (h2 : j < b.length) : cmpTs (a.drop j) (b.drop j) = lex ((a[j]).cmp (b[j])) (cmpTs (a.drop (j + 1)) (b.drop (j + 1))) := by
  rw [List.drop_eq_getElem_cons h1, List.drop_eq_getElem_cons h2, cmpTs]
theorem cmpTs_nil (b : List Tm) : cmpTs [] b = 0 := by cases b <;> simp [cmpTs]
theorem cell_kept {w w' : World} (hb : Below w.heap.size w w') {p : Addr} {v : Value} (h : w.cell? p = some v) : w'.cell? p = some v := by
  have hlt : p.block < w.heap.size := by
    rcases Nat.lt_or_ge p.block w.heap.size with h1 | h1
    · exact h1
    · simp [World.cell?, Array.getElem?_eq_none h1] at h
  exact (hb.cell hlt).trans h
theorem lex_l {a b : Int} (h : a ≠ 0) : lex a b = a := by unfold lex; rw [if_pos h]
theorem lex_r {a b : Int} (h : a = 0) : lex a b = b := by unfold lex; rw [if_neg (fun q => q h)]
set_option maxHeartbeats 2000000 in
theorem order_node {w : World} (W : World) (v v2 : Int) (s s2 : ByteArray) (ng ng2 : Bool) (A1 B1 Ar A2 B2 Ar2 : Option Addr) (m1 q1 m2 q2 l cap m3 q3 m4 q4 l2 cap2 : Nat) (hW : Below w.heap.size w W) (k : Int) (h1 : k ≠ 1) (h2 : k ≠ 2) (args args2 : List Tm) (cs cs2 : Nat → List Value) (hl : args.length = l) (hl2 : args2.length = l2) (hm : cap ≤ maxLen) (hcap : l ≤ cap) (hm2 : cap2 ≤ maxLen) (hcap2 : l2 ≤ cap2)
    (hr : 0 < args.length → ∃ b o, Ar = some ⟨b, o, none⟩ ∧ b < w.heap.size ∧ ∀ i, i < args.length → ∀ j, j < 7 → w.cell? ⟨b, o + i * 7 + j, none⟩ = (cs i)[j]?) (ha : ∀ i (h : i < args.length), TC w args[i] (cs i))
    (hr2 : 0 < args2.length → ∃ b o, Ar2 = some ⟨b, o, none⟩ ∧ b < w.heap.size ∧ ∀ i, i < args2.length → ∀ j, j < 7 → w.cell? ⟨b, o + i * 7 + j, none⟩ = (cs2 i)[j]?) (ha2 : ∀ i (h : i < args2.length), TC w args2[i] (cs2 i))
    (ih : ∀ j (h : j < args.length) (h' : j < args2.length) (W' : World), Below w.heap.size w W' → Calls Tryz.prog 87 #[.agg (cs j).toArray, .agg (cs2 j).toArray] W' fun e w' => e = .returned (.int .i64 ((args[j]).cmp (args2[j]))) ∧ Below W'.heap.size W' w') :
    Calls Tryz.prog 87 #[.agg #[.int .i64 k, .int .i64 v, .string s, .bool ng, .slice A1 m1 q1, .slice B1 m2 q2, .slice Ar l cap], .agg #[.int .i64 k, .int .i64 v2, .string s2, .bool ng2, .slice A2 m3 q3, .slice B2 m4 q4, .slice Ar2 l2 cap2]] W fun e W' => e = .returned (.int .i64 (lex (icmp l l2) (lex (Lib.compareBytes s.data.toList s2.data.toList) (cmpTs args args2)))) ∧ Below W.heap.size W W' := by
  have HBA : Hid (Below W.heap.size W ((W.alloc (.cells #[.int .i64 k, .int .i64 v, .string s, .bool ng, .slice A1 m1 q1, .slice B1 m2 q2, .slice Ar l cap] 27)).alloc (.cells #[.int .i64 k, .int .i64 v2, .string s2, .bool ng2, .slice A2 m3 q3, .slice B2 m4 q4, .slice Ar2 l2 cap2] 27))) := below_pair W _ _
  have HKA : Hid (Blk ((W.alloc (.cells #[.int .i64 k, .int .i64 v, .string s, .bool ng, .slice A1 m1 q1, .slice B1 m2 q2, .slice Ar l cap] 27)).alloc (.cells #[.int .i64 k, .int .i64 v2, .string s2, .bool ng2, .slice A2 m3 q3, .slice B2 m4 q4, .slice Ar2 l2 cap2] 27)) W.heap.size 27 #[.int .i64 k, .int .i64 v, .string s, .bool ng, .slice A1 m1 q1, .slice B1 m2 q2, .slice Ar l cap]) := (Blk.new W 27 #[.int .i64 k, .int .i64 v, .string s, .bool ng, .slice A1 m1 q1, .slice B1 m2 q2, .slice Ar l cap]).alloc _
  have HKB : Hid (Blk ((W.alloc (.cells #[.int .i64 k, .int .i64 v, .string s, .bool ng, .slice A1 m1 q1, .slice B1 m2 q2, .slice Ar l cap] 27)).alloc (.cells #[.int .i64 k, .int .i64 v2, .string s2, .bool ng2, .slice A2 m3 q3, .slice B2 m4 q4, .slice Ar2 l2 cap2] 27)) (W.heap.size + 1) 27 #[.int .i64 k, .int .i64 v2, .string s2, .bool ng2, .slice A2 m3 q3, .slice B2 m4 q4, .slice Ar2 l2 cap2]) := blk_second W _ _
  have hkk : (k != k) = false := by simp
  have hk1 : (k == 1) = false := beq_eq_false_iff_ne.2 h1
  have hk2 : (k == 2) = false := beq_eq_false_iff_ne.2 h2
  have HR := Lib.hid hr
  have HA := Lib.hid ha
  have HR2 := Lib.hid hr2
  have HA2 := Lib.hid ha2
  have IH := Lib.hid ih
  have HW := Lib.hid hW
  have HL := Lib.hid hl
  have HL2 := Lib.hid hl2
  clear hr ha hr2 ha2 ih hW hl hl2 h1 h2
  unfold maxLen at hm hm2
  have HE : Hid (lex (icmp l l2) (lex (Lib.compareBytes s.data.toList s2.data.toList) (cmpTs args args2)) = lex (lex (icmp l l2) (Lib.compareBytes s.data.toList s2.data.toList)) (cmpTs args args2)) := by
    unfold Hid lex
    by_cases h : icmp l l2 = 0 <;> simp [h]
  generalize lex (icmp l l2) (lex (Lib.compareBytes s.data.toList s2.data.toList) (cmpTs args args2)) = res at *
  have HKC : Hid (Blk (((W.alloc (.cells #[.int .i64 k, .int .i64 v, .string s, .bool ng, .slice A1 m1 q1, .slice B1 m2 q2, .slice Ar l cap] 27)).alloc (.cells #[.int .i64 k, .int .i64 v2, .string s2, .bool ng2, .slice A2 m3 q3, .slice B2 m4 q4, .slice Ar2 l2 cap2] 27)).alloc (.cells #[.int .i64 (icmp l l2), .int .i64 (Lib.compareBytes s.data.toList s2.data.toList)] 3)).drew (W.heap.size + 1 + 1) 3 #[.int .i64 (icmp l l2), .int .i64 (Lib.compareBytes s.data.toList s2.data.toList)]) := by
    have := (Blk.new ((W.alloc (.cells #[.int .i64 k, .int .i64 v, .string s, .bool ng, .slice A1 m1 q1, .slice B1 m2 q2, .slice Ar l cap] 27)).alloc (.cells #[.int .i64 k, .int .i64 v2, .string s2, .bool ng2, .slice A2 m3 q3, .slice B2 m4 q4, .slice Ar2 l2 cap2] 27)) 3 #[.int .i64 (icmp l l2), .int .i64 (Lib.compareBytes s.data.toList s2.data.toList)]).drew
    rw [show ((W.alloc (.cells #[.int .i64 k, .int .i64 v, .string s, .bool ng, .slice A1 m1 q1, .slice B1 m2 q2, .slice Ar l cap] 27)).alloc (.cells #[.int .i64 k, .int .i64 v2, .string s2, .bool ng2, .slice A2 m3 q3, .slice B2 m4 q4, .slice Ar2 l2 cap2] 27)).heap.size = W.heap.size + 1 + 1 by simp] at this
    exact this
  have HOR := Lib.hid (orInt_any _ _ _ _ HKC.out)
  have HBC : Hid (Below W.heap.size W (((W.alloc (.cells #[.int .i64 k, .int .i64 v, .string s, .bool ng, .slice A1 m1 q1, .slice B1 m2 q2, .slice Ar l cap] 27)).alloc (.cells #[.int .i64 k, .int .i64 v2, .string s2, .bool ng2, .slice A2 m3 q3, .slice B2 m4 q4, .slice Ar2 l2 cap2] 27)).alloc (.cells #[.int .i64 (icmp l l2), .int .i64 (Lib.compareBytes s.data.toList s2.data.toList)] 3)).drew) := (HBA.out.alloc (by simp; omega) _).drew
  have HKA3 : Hid (Blk (((W.alloc (.cells #[.int .i64 k, .int .i64 v, .string s, .bool ng, .slice A1 m1 q1, .slice B1 m2 q2, .slice Ar l cap] 27)).alloc (.cells #[.int .i64 k, .int .i64 v2, .string s2, .bool ng2, .slice A2 m3 q3, .slice B2 m4 q4, .slice Ar2 l2 cap2] 27)).alloc (.cells #[.int .i64 (icmp l l2), .int .i64 (Lib.compareBytes s.data.toList s2.data.toList)] 3)).drew W.heap.size 27 #[.int .i64 k, .int .i64 v, .string s, .bool ng, .slice A1 m1 q1, .slice B1 m2 q2, .slice Ar l cap]) := (HKA.out.alloc _).drew
  have HKB3 : Hid (Blk (((W.alloc (.cells #[.int .i64 k, .int .i64 v, .string s, .bool ng, .slice A1 m1 q1, .slice B1 m2 q2, .slice Ar l cap] 27)).alloc (.cells #[.int .i64 k, .int .i64 v2, .string s2, .bool ng2, .slice A2 m3 q3, .slice B2 m4 q4, .slice Ar2 l2 cap2] 27)).alloc (.cells #[.int .i64 (icmp l l2), .int .i64 (Lib.compareBytes s.data.toList s2.data.toList)] 3)).drew (W.heap.size + 1) 27 #[.int .i64 k, .int .i64 v2, .string s2, .bool ng2, .slice A2 m3 q3, .slice B2 m4 q4, .slice Ar2 l2 cap2]) := (HKB.out.alloc _).drew
  have a6 := HKA.out.cell 6
  have a2 := HKA.out.cell 2
  have b6 := HKB.out.cell 6
  have b2 := HKB.out.cell 2
  simp only [List.getElem?_toArray, List.getElem?_cons_zero, List.getElem?_cons_succ] at a6 a2 b6 b2
  go_enter Tryz.func87, Tryz.ntmps87
  go_wp2_with fail
  go_region_held3 (fun w' => w'.cell? ⟨W.heap.size, 6, none⟩ = some (.slice Ar l cap) ∧ w'.cell? ⟨W.heap.size, 2, none⟩ = some (.string s) ∧ w'.cell? ⟨W.heap.size + 1, 6, none⟩ = some (.slice Ar2 l2 cap2) ∧ w'.cell? ⟨W.heap.size + 1, 2, none⟩ = some (.string s2))
    (first | go_keep | (with_reducible assumption))
    (first
      | (go_at_call 29; ((with_reducible refine (cmpInt_any _ _ _).mono ?_)); rintro e y1 ⟨rfl, rfl⟩)
      | (go_at_call 133; ((with_reducible refine (cmpStr_any _ _ _).mono ?_)); rintro e y2 ⟨rfl, rfl⟩)
      | (go_at_call 132; ((with_reducible refine HOR.out.mono ?_)); rintro e y3 ⟨rfl, rfl⟩))
  have HLC : Hid (lex (icmp l l2) (Lib.compareBytes s.data.toList s2.data.toList) = 0 → l = l2) := fun h => by
    have := (icmp_zero _ _).1 ((lex_zero _ _).1 h).1
    omega
  clear HKC HOR a6 a2 b6 b2 HBA HKA HKB
  generalize (((W.alloc (.cells #[.int .i64 k, .int .i64 v, .string s, .bool ng, .slice A1 m1 q1, .slice B1 m2 q2, .slice Ar l cap] 27)).alloc (.cells #[.int .i64 k, .int .i64 v2, .string s2, .bool ng2, .slice A2 m3 q3, .slice B2 m4 q4, .slice Ar2 l2 cap2] 27)).alloc (.cells #[.int .i64 (icmp l l2), .int .i64 (Lib.compareBytes s.data.toList s2.data.toList)] 3)).drew = w3 at *
  generalize lex (icmp l l2) (Lib.compareBytes s.data.toList s2.data.toList) = c0 at *
  have a6 := HKA3.out.cell 6
  have b6 := HKB3.out.cell 6
  simp only [List.getElem?_toArray, List.getElem?_cons_zero, List.getElem?_cons_succ] at a6 b6
  by_cases hc0 : c0 = 0
  · have hne : (c0 != 0) = false := by simp [hc0]
    have HLL := Lib.hid (HLC.out hc0)
    have HRE : Hid (res = cmpTs args args2) := by rw [HE.out, lex_r hc0]; rfl
    clear hc0 HE HLC
    go_wp2_with fail
    clear a6 b6
    go_loopg [60] l (fun gk s60 wr => ∃ j : Nat, gk + j = l ∧ s60 = .int .i64 (j : Int) ∧ Hid (Below w3.heap.size w3 wr ∧ res = cmpTs (args.drop j) (args2.drop j)))
    case atStart => exact ⟨0, by omega, rfl, Below.refl _ _, by rw [List.drop_zero, List.drop_zero]; exact HRE.out⟩
    case round =>
      obtain ⟨j, hgj, rfl, HJ⟩ := hrel
      have HB3 : Hid (Below W.heap.size W wr) := HBC.out.trans (HJ.out.1.mono HBC.out.size)
      have HBW : Hid (Below w.heap.size w wr) := HW.out.trans (HB3.out.mono HW.out.size)
      by_cases hj : j < l
      · have hja : j < args.length := by rw [HL.out]; exact hj
        have hjb : j < args2.length := by rw [HL2.out, ← HLL.out]; exact hj
        obtain ⟨b, o, k', v', s', ng', X2, n2, c2, Y2, n3, d2, Xr, xl, xc, hAr, hcs, hlt, e0, e1, e2, e3, e4, e5, e6⟩ := arg_cells HR.out HA.out HBW.out hja
        obtain ⟨b', o', k2', v2', s2', ng2', X3, n4, c3, Y3, n5, d3, Xr3, xl3, xc3, hAr2, hcs2, hlt2, g0, g1, g2, g3, g4, g5, g6⟩ := arg_cells HR2.out HA2.out HBW.out hjb
        subst hAr hAr2
        have hca := (HKA3.out.to HJ.out.1).cell 6
        have hcb := (HKB3.out.to HJ.out.1).cell 6
        simp only [List.getElem?_toArray, List.getElem?_cons_zero, List.getElem?_cons_succ] at hca hcb
        obtain ⟨r, HQ⟩ : ∃ r, Hid ((args[j]).cmp (args2[j]) = r) := ⟨_, Lib.hid rfl⟩
        have hjl2 : j < l2 := by rw [← HLL.out]; exact hj
        have HCALL : Hid (∀ W', Below w.heap.size w W' → Calls Tryz.prog 87 #[.agg #[.int .i64 k', .int .i64 v', .string s', .bool ng', .slice X2 n2 c2, .slice Y2 n3 d2, .slice Xr xl xc], .agg #[.int .i64 k2', .int .i64 v2', .string s2', .bool ng2', .slice X3 n4 c3, .slice Y3 n5 d3, .slice Xr3 xl3 xc3]] W' fun e w' => e = .returned (.int .i64 r) ∧ Below W'.heap.size W' w') := fun W' hb => by
          have := IH.out j hja hjb W' hb
          rw [hcs, hcs2, HQ.out] at this
          exact this
        have HST : Hid (cmpTs (args.drop j) (args2.drop j) = lex r (cmpTs (args.drop (j + 1)) (args2.drop (j + 1)))) := by unfold Hid; rw [cmpTs_drop hja hjb, HQ.out]
        clear hja hjb hcs hcs2 hlt hlt2 HQ
        have HK : Hid (∀ w1 w2 : World, Below w1.heap.size w1 w2 → ((fun w' => w'.cell? ⟨W.heap.size, 6, none⟩ = some (.slice (some ⟨b, o, none⟩) l cap) ∧ w'.cell? ⟨W.heap.size + 1, 6, none⟩ = some (.slice (some ⟨b', o', none⟩) l2 cap2) ∧ w'.cell? ⟨b, o + j * 7, none⟩ = some (.int .i64 k') ∧ w'.cell? ⟨b, o + j * 7 + 1, none⟩ = some (.int .i64 v') ∧ w'.cell? ⟨b, o + j * 7 + 2, none⟩ = some (.string s') ∧ w'.cell? ⟨b, o + j * 7 + 3, none⟩ = some (.bool ng') ∧ w'.cell? ⟨b, o + j * 7 + 4, none⟩ = some (.slice X2 n2 c2) ∧ w'.cell? ⟨b, o + j * 7 + 5, none⟩ = some (.slice Y2 n3 d2) ∧ w'.cell? ⟨b, o + j * 7 + 6, none⟩ = some (.slice Xr xl xc) ∧ w'.cell? ⟨b', o' + j * 7, none⟩ = some (.int .i64 k2') ∧ w'.cell? ⟨b', o' + j * 7 + 1, none⟩ = some (.int .i64 v2') ∧ w'.cell? ⟨b', o' + j * 7 + 2, none⟩ = some (.string s2') ∧ w'.cell? ⟨b', o' + j * 7 + 3, none⟩ = some (.bool ng2') ∧ w'.cell? ⟨b', o' + j * 7 + 4, none⟩ = some (.slice X3 n4 c3) ∧ w'.cell? ⟨b', o' + j * 7 + 5, none⟩ = some (.slice Y3 n5 d3) ∧ w'.cell? ⟨b', o' + j * 7 + 6, none⟩ = some (.slice Xr3 xl3 xc3))) w1 → ((fun w' => w'.cell? ⟨W.heap.size, 6, none⟩ = some (.slice (some ⟨b, o, none⟩) l cap) ∧ w'.cell? ⟨W.heap.size + 1, 6, none⟩ = some (.slice (some ⟨b', o', none⟩) l2 cap2) ∧ w'.cell? ⟨b, o + j * 7, none⟩ = some (.int .i64 k') ∧ w'.cell? ⟨b, o + j * 7 + 1, none⟩ = some (.int .i64 v') ∧ w'.cell? ⟨b, o + j * 7 + 2, none⟩ = some (.string s') ∧ w'.cell? ⟨b, o + j * 7 + 3, none⟩ = some (.bool ng') ∧ w'.cell? ⟨b, o + j * 7 + 4, none⟩ = some (.slice X2 n2 c2) ∧ w'.cell? ⟨b, o + j * 7 + 5, none⟩ = some (.slice Y2 n3 d2) ∧ w'.cell? ⟨b, o + j * 7 + 6, none⟩ = some (.slice Xr xl xc) ∧ w'.cell? ⟨b', o' + j * 7, none⟩ = some (.int .i64 k2') ∧ w'.cell? ⟨b', o' + j * 7 + 1, none⟩ = some (.int .i64 v2') ∧ w'.cell? ⟨b', o' + j * 7 + 2, none⟩ = some (.string s2') ∧ w'.cell? ⟨b', o' + j * 7 + 3, none⟩ = some (.bool ng2') ∧ w'.cell? ⟨b', o' + j * 7 + 4, none⟩ = some (.slice X3 n4 c3) ∧ w'.cell? ⟨b', o' + j * 7 + 5, none⟩ = some (.slice Y3 n5 d3) ∧ w'.cell? ⟨b', o' + j * 7 + 6, none⟩ = some (.slice Xr3 xl3 xc3))) w2) := fun w1 w2 hb h => by
          obtain ⟨h0, h1, h2, h3, h4, h5, h6, h7, h8, h9, h10, h11, h12, h13, h14, h15⟩ := h
          exact ⟨cell_kept hb h0, cell_kept hb h1, cell_kept hb h2, cell_kept hb h3, cell_kept hb h4, cell_kept hb h5, cell_kept hb h6, cell_kept hb h7, cell_kept hb h8, cell_kept hb h9, cell_kept hb h10, cell_kept hb h11, cell_kept hb h12, cell_kept hb h13, cell_kept hb h14, cell_kept hb h15⟩
        go_wp2_with fail
        go_region_held3 (fun w' => w'.cell? ⟨W.heap.size, 6, none⟩ = some (.slice (some ⟨b, o, none⟩) l cap) ∧ w'.cell? ⟨W.heap.size + 1, 6, none⟩ = some (.slice (some ⟨b', o', none⟩) l2 cap2) ∧ w'.cell? ⟨b, o + j * 7, none⟩ = some (.int .i64 k') ∧ w'.cell? ⟨b, o + j * 7 + 1, none⟩ = some (.int .i64 v') ∧ w'.cell? ⟨b, o + j * 7 + 2, none⟩ = some (.string s') ∧ w'.cell? ⟨b, o + j * 7 + 3, none⟩ = some (.bool ng') ∧ w'.cell? ⟨b, o + j * 7 + 4, none⟩ = some (.slice X2 n2 c2) ∧ w'.cell? ⟨b, o + j * 7 + 5, none⟩ = some (.slice Y2 n3 d2) ∧ w'.cell? ⟨b, o + j * 7 + 6, none⟩ = some (.slice Xr xl xc) ∧ w'.cell? ⟨b', o' + j * 7, none⟩ = some (.int .i64 k2') ∧ w'.cell? ⟨b', o' + j * 7 + 1, none⟩ = some (.int .i64 v2') ∧ w'.cell? ⟨b', o' + j * 7 + 2, none⟩ = some (.string s2') ∧ w'.cell? ⟨b', o' + j * 7 + 3, none⟩ = some (.bool ng2') ∧ w'.cell? ⟨b', o' + j * 7 + 4, none⟩ = some (.slice X3 n4 c3) ∧ w'.cell? ⟨b', o' + j * 7 + 5, none⟩ = some (.slice Y3 n5 d3) ∧ w'.cell? ⟨b', o' + j * 7 + 6, none⟩ = some (.slice Xr3 xl3 xc3))
          (first | go_keep | (refine HK.out _ _ (by assumption) ?_; go_keep))
          (first
            | (go_at_call 87; ((with_reducible refine (HCALL.out _ (by exact HBW.out.drew)).mono ?_)); rintro e y1 ⟨rfl, hb1⟩))
        have HB4 : Hid (Below wr.heap.size wr y1) := (Below.refl _ wr).drew.trans hb1
        have HB5 : Hid (Below w3.heap.size w3 y1) := HJ.out.1.trans (HB4.out.mono HJ.out.1.size)
        have HB6 : Hid (Below W.heap.size W y1) := HBC.out.trans (HB5.out.mono HBC.out.size)
        have HRJ := Lib.hid (HJ.out.2.trans HST.out)
        clear hb1 HJ HST e0 e1 e2 e3 e4 e5 e6 g0 g1 g2 g3 g4 g5 g6 hca hcb HK HCALL
        by_cases hr0 : r = 0
        · have hr1 : (r != 0) = false := by simp [hr0]
          have HRR : Hid (res = cmpTs (args.drop (j + 1)) (args2.drop (j + 1))) := by have := HRJ.out; rw [lex_r hr0] at this; exact this
          clear hr0 HRJ
          go_wp2_with fail
          go_roundg (gk - 1)
          case measure => omega
          case rel => exact ⟨j + 1, by omega, by go_num, HB5.out, HRR.out⟩
        · have hr1 : (r != 0) = true := by simp [hr0]
          have HRR : Hid (res = r) := by have := HRJ.out; rw [lex_l hr0] at this; exact this
          clear hr0 HRJ
          go_wp2_with fail
          obtain rfl := HRR.out
          go_ret
          exact ⟨rfl, HB6.out⟩
      · obtain rfl : j = l := by omega
        have h2 := HJ.out.2
        rw [List.drop_eq_nil_of_le (by rw [HL.out]; exact Nat.le_refl _), cmpTs_nil] at h2
        obtain rfl := h2
        go_wp2_with fail
        go_ret
        exact ⟨rfl, HB3.out⟩
  · have hne : (c0 != 0) = true := by simp [hc0]
    have HRE : Hid (res = c0) := by rw [HE.out, lex_l hc0]; rfl
    clear hc0 HE HLC
    go_wp2_with fail
    obtain rfl := HRE.out
    go_ret
    exact ⟨rfl, HBC.out⟩
theorem order_any {w : World} {a : Tm} {ca : List Value} (ha : TC w a ca) : ∀ (b : Tm) (cb : List Value), TC w b cb → a.err0 = 0 → b.err0 = 0 → ∀ (W : World), Below w.heap.size w W →
    Calls Tryz.prog 87 #[.agg ca.toArray, .agg cb.toArray] W fun e W' => e = .returned (.int .i64 (a.cmp b)) ∧ Below W.heap.size W W' := by
  induction ha with
  | mk k v s n args A C Ar cap cs hk hv hs hA hC hn hcap hm hr ha ih =>
    intro b cb hb ea eb W hW
    cases hb with
    | mk k2 v2 s2 n2 args2 A2 C2 Ar2 cap2 cs2 hk2 hv2 hs2 hA2 hC2 hn2 hcap2 hm2 hr2 ha2 =>
      obtain ⟨na, la⟩ := err0_node ea
      obtain ⟨nb, lb⟩ := err0_node eb
      have HG1 : ∀ W', Below W.heap.size W W' → GV W' (.agg #[.bool n.neg, A, C]) n := fun W' hb => ⟨A, C, rfl, hA.to (hW.trans (hb.mono hW.size)), hC.to (hW.trans (hb.mono hW.size)), hn⟩
      have HG2 : ∀ W', Below W.heap.size W W' → GV W' (.agg #[.bool n2.neg, A2, C2]) n2 := fun W' hb => ⟨A2, C2, rfl, hA2.to (hW.trans (hb.mono hW.size)), hC2.to (hW.trans (hb.mono hW.size)), hn2⟩
      obtain ⟨A1, q1, rfl, _⟩ := hA
      obtain ⟨B1, q2, rfl, _⟩ := hC
      obtain ⟨A3, q3, rfl, _⟩ := hA2
      obtain ⟨B3, q4, rfl, _⟩ := hC2
      rw [Tm.cmp]
      by_cases hkk : k = k2
      · subst hkk
        rw [lex_r ((icmp_zero _ _).2 rfl)]
        by_cases h1 : k = 1
        · subst h1
          rw [if_pos rfl]
          exact order_var W v v2 s s2 n.neg n2.neg A1 B1 Ar A3 B3 Ar2 _ q1 _ q2 _ cap _ q3 _ q4 _ cap2
        · rw [if_neg h1]
          by_cases h2 : k = 2
          · subst h2
            rw [if_pos rfl]
            have ena := num_err na rfl
            have enb := num_err nb rfl
            refine order_num W v v2 s s2 n.neg n2.neg A1 B1 Ar A3 B3 Ar2 _ q1 _ q2 _ cap _ q3 _ q4 _ cap2 (cmpS n n2) 0 fun W' hb => ?_
            have := compare_S n n2 _ _ W' (HG1 W' hb) (HG2 W' hb)
            have he : err2 n.err n2.err = 0 := err2_zero.2 ⟨ena, enb⟩
            rw [he, if_pos rfl] at this
            exact this
          · rw [if_neg h2]
            exact order_node W v v2 s s2 n.neg n2.neg A1 B1 Ar A3 B3 Ar2 _ q1 _ q2 _ cap _ q3 _ q4 _ cap2 hW k h1 h2 args args2 cs cs2 rfl rfl hm hcap hm2 hcap2 hr ha hr2 ha2 fun j h h' W' hb => ih j h _ _ (ha2 j h') (errL_get la h) (errL_get lb h') W' hb
      · rw [lex_l (fun h => hkk ((icmp_zero _ _).1 h))]
        exact order_kind W v v2 s s2 n.neg n2.neg A1 B1 Ar A3 B3 Ar2 _ q1 _ q2 _ cap _ q3 _ q4 _ cap2 k k2 hkk
end Go.Proofs.YtkfnpcilanheiaaGreat

/- fetterlockref2.roots and Order at valid terms. -/
import Derived.Test.YtkfnpcilanheiaaGreatJo17
import Derived.Test.YtkfnpcilanheiaaGreatJo21
import Derived.Test.YtkfnpcilanheiaaGreatJo28
set_option linter.unusedVariables false
set_option linter.unusedSimpArgs false
set_option maxRecDepth 100000
namespace Go.Proofs.YtkfnpcilanheiaaGreat
open Go.RowKit NumB
set_option maxHeartbeats 2000000 in
theorem roots_kind (W : World) (v v2 : Int) (s s2 : ByteArray) (ng ng2 : Bool) (A1 B1 Ar A2 B2 Ar2 : Option Addr) (m1 q1 m2 q2 l cap m3 q3 m4 q4 l2 cap2 : Nat) (k k2 : Int) (h : k ≠ k2) (b1 : 1 ≤ k) (b2 : k ≤ 5) (b3 : 1 ≤ k2) (b4 : k2 ≤ 5) :
    Calls Tryz.prog 93 #[.agg #[.int .i64 k, .int .i64 v, .string s, .bool ng, .slice A1 m1 q1, .slice B1 m2 q2, .slice Ar l cap], .agg #[.int .i64 k2, .int .i64 v2, .string s2, .bool ng2, .slice A2 m3 q3, .slice B2 m4 q4, .slice Ar2 l2 cap2]] W fun e W' => e = .returned (.int .i64 (icmp k k2)) ∧ Below W.heap.size W W' := by
  have HBA : Hid (Below W.heap.size W ((W.alloc (.cells #[.int .i64 k, .int .i64 v, .string s, .bool ng, .slice A1 m1 q1, .slice B1 m2 q2, .slice Ar l cap] 27)).alloc (.cells #[.int .i64 k2, .int .i64 v2, .string s2, .bool ng2, .slice A2 m3 q3, .slice B2 m4 q4, .slice Ar2 l2 cap2] 27))) := below_pair W _ _
  have HKA : Hid (Blk ((W.alloc (.cells #[.int .i64 k, .int .i64 v, .string s, .bool ng, .slice A1 m1 q1, .slice B1 m2 q2, .slice Ar l cap] 27)).alloc (.cells #[.int .i64 k2, .int .i64 v2, .string s2, .bool ng2, .slice A2 m3 q3, .slice B2 m4 q4, .slice Ar2 l2 cap2] 27)) W.heap.size 27 #[.int .i64 k, .int .i64 v, .string s, .bool ng, .slice A1 m1 q1, .slice B1 m2 q2, .slice Ar l cap]) := (Blk.new W 27 #[.int .i64 k, .int .i64 v, .string s, .bool ng, .slice A1 m1 q1, .slice B1 m2 q2, .slice Ar l cap]).alloc _
  have HKB : Hid (Blk ((W.alloc (.cells #[.int .i64 k, .int .i64 v, .string s, .bool ng, .slice A1 m1 q1, .slice B1 m2 q2, .slice Ar l cap] 27)).alloc (.cells #[.int .i64 k2, .int .i64 v2, .string s2, .bool ng2, .slice A2 m3 q3, .slice B2 m4 q4, .slice Ar2 l2 cap2] 27)) (W.heap.size + 1) 27 #[.int .i64 k2, .int .i64 v2, .string s2, .bool ng2, .slice A2 m3 q3, .slice B2 m4 q4, .slice Ar2 l2 cap2]) := blk_second W _ _
  have hw : IntKind.i64.wrap (k - k2) = k - k2 := by rw [IntKind.wrap_i64]; omega
  have he : icmp (k - k2) 0 = icmp k k2 := by unfold icmp; (repeat' split) <;> omega
  have hb : (k != k2) = true := by simp [h]
  have HE := Lib.hid he
  clear h b1 b2 b3 b4 he
  go_enter Tryz.func93, Tryz.ntmps93
  go_wp2_with fail
  refine (rsign_any _ _).mono ?_
  rintro e w1 ⟨rfl, rfl⟩
  go_wp2_with fail
  go_ret
  exact ⟨by rw [HE.out]; rfl, HBA.out⟩
set_option maxHeartbeats 2000000 in
theorem roots_var (W : World) (v v2 : Int) (s s2 : ByteArray) (ng ng2 : Bool) (A1 B1 Ar A2 B2 Ar2 : Option Addr) (m1 q1 m2 q2 l cap m3 q3 m4 q4 l2 cap2 : Nat) (b1 : 0 ≤ v) (b2 : v ≤ 1073741824) (b3 : 0 ≤ v2) (b4 : v2 ≤ 1073741824) :
    Calls Tryz.prog 93 #[.agg #[.int .i64 1, .int .i64 v, .string s, .bool ng, .slice A1 m1 q1, .slice B1 m2 q2, .slice Ar l cap], .agg #[.int .i64 1, .int .i64 v2, .string s2, .bool ng2, .slice A2 m3 q3, .slice B2 m4 q4, .slice Ar2 l2 cap2]] W fun e W' => e = .returned (.int .i64 (icmp v v2)) ∧ Below W.heap.size W W' := by
  have HBA : Hid (Below W.heap.size W ((W.alloc (.cells #[.int .i64 1, .int .i64 v, .string s, .bool ng, .slice A1 m1 q1, .slice B1 m2 q2, .slice Ar l cap] 27)).alloc (.cells #[.int .i64 1, .int .i64 v2, .string s2, .bool ng2, .slice A2 m3 q3, .slice B2 m4 q4, .slice Ar2 l2 cap2] 27))) := below_pair W _ _
  have HKA : Hid (Blk ((W.alloc (.cells #[.int .i64 1, .int .i64 v, .string s, .bool ng, .slice A1 m1 q1, .slice B1 m2 q2, .slice Ar l cap] 27)).alloc (.cells #[.int .i64 1, .int .i64 v2, .string s2, .bool ng2, .slice A2 m3 q3, .slice B2 m4 q4, .slice Ar2 l2 cap2] 27)) W.heap.size 27 #[.int .i64 1, .int .i64 v, .string s, .bool ng, .slice A1 m1 q1, .slice B1 m2 q2, .slice Ar l cap]) := (Blk.new W 27 #[.int .i64 1, .int .i64 v, .string s, .bool ng, .slice A1 m1 q1, .slice B1 m2 q2, .slice Ar l cap]).alloc _
  have HKB : Hid (Blk ((W.alloc (.cells #[.int .i64 1, .int .i64 v, .string s, .bool ng, .slice A1 m1 q1, .slice B1 m2 q2, .slice Ar l cap] 27)).alloc (.cells #[.int .i64 1, .int .i64 v2, .string s2, .bool ng2, .slice A2 m3 q3, .slice B2 m4 q4, .slice Ar2 l2 cap2] 27)) (W.heap.size + 1) 27 #[.int .i64 1, .int .i64 v2, .string s2, .bool ng2, .slice A2 m3 q3, .slice B2 m4 q4, .slice Ar2 l2 cap2]) := blk_second W _ _
  have hw : IntKind.i64.wrap (v - v2) = v - v2 := by rw [IntKind.wrap_i64]; omega
  have he : icmp (v - v2) 0 = icmp v v2 := by unfold icmp; (repeat' split) <;> omega
  have HE := Lib.hid he
  clear b1 b2 b3 b4 he
  go_enter Tryz.func93, Tryz.ntmps93
  go_wp2_with fail
  refine (rsign_any _ _).mono ?_
  rintro e w1 ⟨rfl, rfl⟩
  go_wp2_with fail
  go_ret
  exact ⟨by rw [HE.out]; rfl, HBA.out⟩
set_option maxHeartbeats 2000000 in
theorem roots_num (W : World) (v v2 : Int) (s s2 : ByteArray) (ng ng2 : Bool) (A1 B1 Ar A2 B2 Ar2 : Option Addr) (m1 q1 m2 q2 l cap m3 q3 m4 q4 l2 cap2 : Nat) (c : Int) (x y x2 y2 : Nat) (ho : ∀ W', Below W.heap.size W W' → Calls Tryz.prog 20 #[.agg #[.bool ng, .slice A1 m1 q1, .slice B1 m2 q2]] W' fun e w' => ∃ u, e = .returned u ∧ RV w' u ng x y ∧ Below W'.heap.size W' w')
    (ho2 : ∀ W', Below W.heap.size W W' → Calls Tryz.prog 20 #[.agg #[.bool ng2, .slice A2 m3 q3, .slice B2 m4 q4]] W' fun e w' => ∃ u, e = .returned u ∧ RV w' u ng2 x2 y2 ∧ Below W'.heap.size W' w')
    (hc : ∀ W' u u', RV W' u ng x y → RV W' u' ng2 x2 y2 → Calls Tryz.prog 138 #[u, u'] W' fun e w' => e = .returned (.int .i64 c) ∧ Below W'.heap.size W' w') :
    Calls Tryz.prog 93 #[.agg #[.int .i64 2, .int .i64 v, .string s, .bool ng, .slice A1 m1 q1, .slice B1 m2 q2, .slice Ar l cap], .agg #[.int .i64 2, .int .i64 v2, .string s2, .bool ng2, .slice A2 m3 q3, .slice B2 m4 q4, .slice Ar2 l2 cap2]] W fun e W' => e = .returned (.int .i64 (c)) ∧ Below W.heap.size W W' := by
  have HBA : Hid (Below W.heap.size W ((W.alloc (.cells #[.int .i64 2, .int .i64 v, .string s, .bool ng, .slice A1 m1 q1, .slice B1 m2 q2, .slice Ar l cap] 27)).alloc (.cells #[.int .i64 2, .int .i64 v2, .string s2, .bool ng2, .slice A2 m3 q3, .slice B2 m4 q4, .slice Ar2 l2 cap2] 27))) := below_pair W _ _
  have HKA : Hid (Blk ((W.alloc (.cells #[.int .i64 2, .int .i64 v, .string s, .bool ng, .slice A1 m1 q1, .slice B1 m2 q2, .slice Ar l cap] 27)).alloc (.cells #[.int .i64 2, .int .i64 v2, .string s2, .bool ng2, .slice A2 m3 q3, .slice B2 m4 q4, .slice Ar2 l2 cap2] 27)) W.heap.size 27 #[.int .i64 2, .int .i64 v, .string s, .bool ng, .slice A1 m1 q1, .slice B1 m2 q2, .slice Ar l cap]) := (Blk.new W 27 #[.int .i64 2, .int .i64 v, .string s, .bool ng, .slice A1 m1 q1, .slice B1 m2 q2, .slice Ar l cap]).alloc _
  have HKB : Hid (Blk ((W.alloc (.cells #[.int .i64 2, .int .i64 v, .string s, .bool ng, .slice A1 m1 q1, .slice B1 m2 q2, .slice Ar l cap] 27)).alloc (.cells #[.int .i64 2, .int .i64 v2, .string s2, .bool ng2, .slice A2 m3 q3, .slice B2 m4 q4, .slice Ar2 l2 cap2] 27)) (W.heap.size + 1) 27 #[.int .i64 2, .int .i64 v2, .string s2, .bool ng2, .slice A2 m3 q3, .slice B2 m4 q4, .slice Ar2 l2 cap2]) := blk_second W _ _
  have HC := Lib.hid hc
  have HO := Lib.hid ho
  have HO2 := Lib.hid ho2
  clear hc ho ho2
  have HK : Hid (∀ w1 w2 : World, Below w1.heap.size w1 w2 → (fun w' : World => w'.cell? ⟨W.heap.size, 3, none⟩ = some (.bool ng) ∧ w'.cell? ⟨W.heap.size, 4, none⟩ = some (.slice A1 m1 q1) ∧ w'.cell? ⟨W.heap.size, 5, none⟩ = some (.slice B1 m2 q2) ∧ w'.cell? ⟨W.heap.size + 1, 3, none⟩ = some (.bool ng2) ∧ w'.cell? ⟨W.heap.size + 1, 4, none⟩ = some (.slice A2 m3 q3) ∧ w'.cell? ⟨W.heap.size + 1, 5, none⟩ = some (.slice B2 m4 q4)) w1 → (fun w' : World => w'.cell? ⟨W.heap.size, 3, none⟩ = some (.bool ng) ∧ w'.cell? ⟨W.heap.size, 4, none⟩ = some (.slice A1 m1 q1) ∧ w'.cell? ⟨W.heap.size, 5, none⟩ = some (.slice B1 m2 q2) ∧ w'.cell? ⟨W.heap.size + 1, 3, none⟩ = some (.bool ng2) ∧ w'.cell? ⟨W.heap.size + 1, 4, none⟩ = some (.slice A2 m3 q3) ∧ w'.cell? ⟨W.heap.size + 1, 5, none⟩ = some (.slice B2 m4 q4)) w2) := fun w1 w2 hb h => by
    obtain ⟨h0, h1, h2, h3, h4, h5⟩ := h
    exact ⟨cell_kept hb h0, cell_kept hb h1, cell_kept hb h2, cell_kept hb h3, cell_kept hb h4, cell_kept hb h5⟩
  have a3 := HKA.out.cell 3
  have a4 := HKA.out.cell 4
  have a5 := HKA.out.cell 5
  have b3 := HKB.out.cell 3
  have b4 := HKB.out.cell 4
  have b5 := HKB.out.cell 5
  simp only [List.getElem?_toArray, List.getElem?_cons_zero, List.getElem?_cons_succ] at a3 a4 a5 b3 b4 b5
  go_enter Tryz.func93, Tryz.ntmps93
  go_wp2_with fail
  go_region_held3 (fun w' => w'.cell? ⟨W.heap.size, 3, none⟩ = some (.bool ng) ∧ w'.cell? ⟨W.heap.size, 4, none⟩ = some (.slice A1 m1 q1) ∧ w'.cell? ⟨W.heap.size, 5, none⟩ = some (.slice B1 m2 q2) ∧ w'.cell? ⟨W.heap.size + 1, 3, none⟩ = some (.bool ng2) ∧ w'.cell? ⟨W.heap.size + 1, 4, none⟩ = some (.slice A2 m3 q3) ∧ w'.cell? ⟨W.heap.size + 1, 5, none⟩ = some (.slice B2 m4 q4))
    (first | go_keep | (refine HK.out _ _ (by assumption) ?_; go_keep))
    (first
      | (go_at_call 20; ((with_reducible refine (HO.out _ (by exact HBA.out.drew)).mono ?_)); rintro e y1 ⟨u1, rfl, hu1, hb1⟩)
      | (go_at_call 20; ((with_reducible refine (HO2.out _ (by exact HBA.out.drew.trans (hb1.mono (by simp; omega)))).mono ?_)); rintro e y2 ⟨u2, rfl, hu2, hb2⟩)
      | (go_at_call 138; ((with_reducible refine (HC.out _ _ _ (by exact hu1.to hb2) (by exact hu2)).mono ?_)); rintro e y3 ⟨rfl, hb3⟩))
  have HBE : Hid (Below W.heap.size W y3) := by
    have g1 := HBA.out.drew.trans (hb1.mono (by simp; omega))
    have g2 := g1.trans (hb2.mono g1.size)
    exact g2.trans (hb3.mono g2.size)
  clear hb1 hb2 hb3 hu1 hu2 a3 a4 a5 b3 b4 b5
  go_wp2_with fail
  go_ret
  exact ⟨rfl, HBE.out⟩
set_option maxHeartbeats 2000000 in
theorem roots_node (W : World) (v v2 : Int) (s s2 : ByteArray) (ng ng2 : Bool) (A1 B1 Ar A2 B2 Ar2 : Option Addr) (m1 q1 m2 q2 l cap m3 q3 m4 q4 l2 cap2 : Nat) (k : Int) (h1 : k ≠ 1) (h2 : k ≠ 2) (b1 : l ≤ 32) (b2 : l2 ≤ 32) :
    Calls Tryz.prog 93 #[.agg #[.int .i64 k, .int .i64 v, .string s, .bool ng, .slice A1 m1 q1, .slice B1 m2 q2, .slice Ar l cap], .agg #[.int .i64 k, .int .i64 v2, .string s2, .bool ng2, .slice A2 m3 q3, .slice B2 m4 q4, .slice Ar2 l2 cap2]] W fun e W' => e = .returned (.int .i64 (lex (icmp l l2) (Lib.compareBytes s.data.toList s2.data.toList))) ∧ Below W.heap.size W W' := by
  have HBA : Hid (Below W.heap.size W ((W.alloc (.cells #[.int .i64 k, .int .i64 v, .string s, .bool ng, .slice A1 m1 q1, .slice B1 m2 q2, .slice Ar l cap] 27)).alloc (.cells #[.int .i64 k, .int .i64 v2, .string s2, .bool ng2, .slice A2 m3 q3, .slice B2 m4 q4, .slice Ar2 l2 cap2] 27))) := below_pair W _ _
  have HKA : Hid (Blk ((W.alloc (.cells #[.int .i64 k, .int .i64 v, .string s, .bool ng, .slice A1 m1 q1, .slice B1 m2 q2, .slice Ar l cap] 27)).alloc (.cells #[.int .i64 k, .int .i64 v2, .string s2, .bool ng2, .slice A2 m3 q3, .slice B2 m4 q4, .slice Ar2 l2 cap2] 27)) W.heap.size 27 #[.int .i64 k, .int .i64 v, .string s, .bool ng, .slice A1 m1 q1, .slice B1 m2 q2, .slice Ar l cap]) := (Blk.new W 27 #[.int .i64 k, .int .i64 v, .string s, .bool ng, .slice A1 m1 q1, .slice B1 m2 q2, .slice Ar l cap]).alloc _
  have HKB : Hid (Blk ((W.alloc (.cells #[.int .i64 k, .int .i64 v, .string s, .bool ng, .slice A1 m1 q1, .slice B1 m2 q2, .slice Ar l cap] 27)).alloc (.cells #[.int .i64 k, .int .i64 v2, .string s2, .bool ng2, .slice A2 m3 q3, .slice B2 m4 q4, .slice Ar2 l2 cap2] 27)) (W.heap.size + 1) 27 #[.int .i64 k, .int .i64 v2, .string s2, .bool ng2, .slice A2 m3 q3, .slice B2 m4 q4, .slice Ar2 l2 cap2]) := blk_second W _ _
  have hw : IntKind.i64.wrap ((l : Int) - (l2 : Int)) = (l : Int) - (l2 : Int) := by rw [IntKind.wrap_i64]; omega
  have he : icmp ((l : Int) - (l2 : Int)) 0 = icmp (l : Int) (l2 : Int) := by unfold icmp; (repeat' split) <;> omega
  have hkk : (k != k) = false := by simp
  have hk1 : (k == 1) = false := beq_eq_false_iff_ne.2 h1
  have hk2 : (k == 2) = false := beq_eq_false_iff_ne.2 h2
  clear h1 h2
  by_cases hl : l = l2
  · subst hl
    have hne : ((l : Int) != (l : Int)) = false := by simp
    have HE : Hid (lex (icmp l l) (Lib.compareBytes s.data.toList s2.data.toList) = Lib.compareBytes s.data.toList s2.data.toList) := lex_r ((icmp_zero _ _).2 rfl)
    clear he hw
    generalize lex (icmp l l) (Lib.compareBytes s.data.toList s2.data.toList) = res at *
    go_enter Tryz.func93, Tryz.ntmps93
    go_wp2_with fail
    refine (strCompare_any _ _ _).mono ?_
    rintro e w1 ⟨rfl, rfl⟩
    go_wp2_with fail
    obtain rfl := HE.out
    go_ret
    exact ⟨rfl, HBA.out⟩
  · have hne : ((l : Int) != (l2 : Int)) = true := by simp; omega
    have HE : Hid (lex (icmp l l2) (Lib.compareBytes s.data.toList s2.data.toList) = icmp ((l : Int) - (l2 : Int)) 0) := by
      unfold Hid
      rw [he]
      exact lex_l (fun h => hl (by have := (icmp_zero _ _).1 h; omega))
    clear he hl
    generalize lex (icmp l l2) (Lib.compareBytes s.data.toList s2.data.toList) = res at *
    go_enter Tryz.func93, Tryz.ntmps93
    go_wp2_with fail
    refine (rsign_any _ _).mono ?_
    rintro e w1 ⟨rfl, rfl⟩
    go_wp2_with fail
    obtain rfl := HE.out
    go_ret
    exact ⟨rfl, HBA.out⟩
def rootsI : Tm → Tm → Int
  | .mk k v s n args, .mk k' v' s' n' args' => lex (icmp k k') (if k = 1 then icmp v v' else if k = 2 then cmpS n n' else lex (icmp args.length args'.length) (Lib.compareBytes s.data.toList s'.data.toList))
theorem kind_bd {k v : Int} {s : ByteArray} {ng : Bool} {a b : Nat} {er : Int} {na : Nat} (h : nodeE k v s ng a b er na = 0) : 1 ≤ k ∧ k ≤ 5 ∧ na ≤ 32 := by
  rcases node_parts h with ⟨rfl, _⟩ | ⟨_, _, _, _, ⟨rfl, _⟩ | ⟨rfl, _⟩ | ⟨rfl, _⟩ | ⟨rfl, _⟩⟩ <;> omega
theorem roots_any {w : World} {a : Tm} {ca : List Value} (ha : TC w a ca) (b : Tm) (cb : List Value) (hb : TC w b cb) (ea : a.err0 = 0) (eb : b.err0 = 0) (W : World) (hW : Below w.heap.size w W) :
    Calls Tryz.prog 93 #[.agg ca.toArray, .agg cb.toArray] W fun e W' => e = .returned (.int .i64 (rootsI a b)) ∧ Below W.heap.size W W' := by
  cases ha with
  | mk k v s n args A C Ar cap cs hk hv hs hA hC hn hcap hm hr ha =>
    cases hb with
    | mk k2 v2 s2 n2 args2 A2 C2 Ar2 cap2 cs2 hk2 hv2 hs2 hA2 hC2 hn2 hcap2 hm2 hr2 ha2 =>
      obtain ⟨na, la⟩ := err0_node ea
      obtain ⟨nb, lb⟩ := err0_node eb
      have ka := kind_bd na
      have kb := kind_bd nb
      have HG1 : ∀ W', Below W.heap.size W W' → GV W' (.agg #[.bool n.neg, A, C]) n := fun W' hb => ⟨A, C, rfl, hA.to (hW.trans (hb.mono hW.size)), hC.to (hW.trans (hb.mono hW.size)), hn⟩
      have HG2 : ∀ W', Below W.heap.size W W' → GV W' (.agg #[.bool n2.neg, A2, C2]) n2 := fun W' hb => ⟨A2, C2, rfl, hA2.to (hW.trans (hb.mono hW.size)), hC2.to (hW.trans (hb.mono hW.size)), hn2⟩
      obtain ⟨A1, q1, rfl, _⟩ := hA
      obtain ⟨B1, q2, rfl, _⟩ := hC
      obtain ⟨A3, q3, rfl, _⟩ := hA2
      obtain ⟨B3, q4, rfl, _⟩ := hC2
      rw [rootsI]
      by_cases hkk : k = k2
      · subst hkk
        rw [lex_r ((icmp_zero _ _).2 rfl)]
        by_cases h1 : k = 1
        · subst h1
          rw [if_pos rfl]
          have va : 0 ≤ v ∧ v ≤ 1073741824 := by rcases node_parts na with ⟨h, _⟩ | ⟨_, _, _, _, ⟨h, q⟩ | ⟨h, _⟩ | ⟨h, _⟩ | ⟨h, _⟩⟩ <;> first | omega | exact ⟨q.1, q.2.1⟩
          have vb : 0 ≤ v2 ∧ v2 ≤ 1073741824 := by rcases node_parts nb with ⟨h, _⟩ | ⟨_, _, _, _, ⟨h, q⟩ | ⟨h, _⟩ | ⟨h, _⟩ | ⟨h, _⟩⟩ <;> first | omega | exact ⟨q.1, q.2.1⟩
          exact roots_var W v v2 s s2 n.neg n2.neg A1 B1 Ar A3 B3 Ar2 _ q1 _ q2 _ cap _ q3 _ q4 _ cap2 va.1 va.2 vb.1 vb.2
        · rw [if_neg h1]
          by_cases h2 : k = 2
          · subst h2
            rw [if_pos rfl]
            have ena := num_err na rfl
            have enb := num_err nb rfl
            have ga := LN.good hn ena
            have gb := LN.good hn2 enb
            have l1 := LN.len16 hn ena
            have l2 := LN.len16 hn2 enb
            refine roots_num W v v2 s s2 n.neg n2.neg A1 B1 Ar A3 B3 Ar2 _ q1 _ q2 _ cap _ q3 _ q4 _ cap2 (cmpS n n2) n.x n.y n2.x n2.y (fun W' hb => ?_) (fun W' hb => ?_) (fun W' u u' h h' => ?_)
            · exact rof_any n _ W' (HG1 W' hb) (Nat.le_trans ga.2.2.1 (by omega)) (Nat.le_trans ga.2.2.2.1 (by omega))
            · exact rof_any n2 _ W' (HG2 W' hb) (Nat.le_trans gb.2.2.1 (by omega)) (Nat.le_trans gb.2.2.2.1 (by omega))
            · exact rcmpR_any n.neg n2.neg n.x n.y n2.x n2.y u u' W' h h' (by omega) (by omega) (by omega) (by omega)
          · rw [if_neg h2]
            exact roots_node W v v2 s s2 n.neg n2.neg A1 B1 Ar A3 B3 Ar2 _ q1 _ q2 _ cap _ q3 _ q4 _ cap2 k h1 h2 ka.2.2 kb.2.2
      · rw [lex_l (fun h => hkk ((icmp_zero _ _).1 h))]
        exact roots_kind W v v2 s s2 n.neg n2.neg A1 B1 Ar A3 B3 Ar2 _ q1 _ q2 _ cap _ q3 _ q4 _ cap2 k k2 hkk ka.1 ka.2.1 kb.1 kb.2.1
set_option maxHeartbeats 2000000 in
theorem rorder_node {w : World} (W : World) (v v2 : Int) (s s2 : ByteArray) (ng ng2 : Bool) (A1 B1 Ar A2 B2 Ar2 : Option Addr) (m1 q1 m2 q2 l cap m3 q3 m4 q4 l2 cap2 : Nat) (hW : Below w.heap.size w W) (args args2 : List Tm) (k k2 c0 : Int) (hll : c0 = 0 → args.length = args2.length) (cs cs2 : Nat → List Value) (hl : args.length = l) (hl2 : args2.length = l2) (hm : cap ≤ maxLen) (hcap : l ≤ cap) (hm2 : cap2 ≤ maxLen) (hcap2 : l2 ≤ cap2)
    (hr : 0 < args.length → ∃ b o, Ar = some ⟨b, o, none⟩ ∧ b < w.heap.size ∧ ∀ i, i < args.length → ∀ j, j < 7 → w.cell? ⟨b, o + i * 7 + j, none⟩ = (cs i)[j]?) (ha : ∀ i (h : i < args.length), TC w args[i] (cs i))
    (hr2 : 0 < args2.length → ∃ b o, Ar2 = some ⟨b, o, none⟩ ∧ b < w.heap.size ∧ ∀ i, i < args2.length → ∀ j, j < 7 → w.cell? ⟨b, o + i * 7 + j, none⟩ = (cs2 i)[j]?) (ha2 : ∀ i (h : i < args2.length), TC w args2[i] (cs2 i))
    (hro : ∀ W', Below W.heap.size W W' → Calls Tryz.prog 93 #[.agg #[.int .i64 k, .int .i64 v, .string s, .bool ng, .slice A1 m1 q1, .slice B1 m2 q2, .slice Ar l cap], .agg #[.int .i64 k2, .int .i64 v2, .string s2, .bool ng2, .slice A2 m3 q3, .slice B2 m4 q4, .slice Ar2 l2 cap2]] W' fun e w' => e = .returned (.int .i64 c0) ∧ Below W'.heap.size W' w')
    (ih : ∀ j (h : j < args.length) (h' : j < args2.length) (W' : World), Below w.heap.size w W' → Calls Tryz.prog 91 #[.agg (cs j).toArray, .agg (cs2 j).toArray] W' fun e w' => e = .returned (.int .i64 ((args[j]).cmp (args2[j]))) ∧ Below W'.heap.size W' w') :
    Calls Tryz.prog 91 #[.agg #[.int .i64 k, .int .i64 v, .string s, .bool ng, .slice A1 m1 q1, .slice B1 m2 q2, .slice Ar l cap], .agg #[.int .i64 k2, .int .i64 v2, .string s2, .bool ng2, .slice A2 m3 q3, .slice B2 m4 q4, .slice Ar2 l2 cap2]] W fun e W' => e = .returned (.int .i64 (lex c0 (cmpTs args args2))) ∧ Below W.heap.size W W' := by
  have HBA : Hid (Below W.heap.size W ((W.alloc (.cells #[.int .i64 k, .int .i64 v, .string s, .bool ng, .slice A1 m1 q1, .slice B1 m2 q2, .slice Ar l cap] 27)).alloc (.cells #[.int .i64 k2, .int .i64 v2, .string s2, .bool ng2, .slice A2 m3 q3, .slice B2 m4 q4, .slice Ar2 l2 cap2] 27))) := below_pair W _ _
  have HKA : Hid (Blk ((W.alloc (.cells #[.int .i64 k, .int .i64 v, .string s, .bool ng, .slice A1 m1 q1, .slice B1 m2 q2, .slice Ar l cap] 27)).alloc (.cells #[.int .i64 k2, .int .i64 v2, .string s2, .bool ng2, .slice A2 m3 q3, .slice B2 m4 q4, .slice Ar2 l2 cap2] 27)) W.heap.size 27 #[.int .i64 k, .int .i64 v, .string s, .bool ng, .slice A1 m1 q1, .slice B1 m2 q2, .slice Ar l cap]) := (Blk.new W 27 #[.int .i64 k, .int .i64 v, .string s, .bool ng, .slice A1 m1 q1, .slice B1 m2 q2, .slice Ar l cap]).alloc _
  have HKB : Hid (Blk ((W.alloc (.cells #[.int .i64 k, .int .i64 v, .string s, .bool ng, .slice A1 m1 q1, .slice B1 m2 q2, .slice Ar l cap] 27)).alloc (.cells #[.int .i64 k2, .int .i64 v2, .string s2, .bool ng2, .slice A2 m3 q3, .slice B2 m4 q4, .slice Ar2 l2 cap2] 27)) (W.heap.size + 1) 27 #[.int .i64 k2, .int .i64 v2, .string s2, .bool ng2, .slice A2 m3 q3, .slice B2 m4 q4, .slice Ar2 l2 cap2]) := blk_second W _ _
  have HRO := Lib.hid hro
  have HR := Lib.hid hr
  have HA := Lib.hid ha
  have HR2 := Lib.hid hr2
  have HA2 := Lib.hid ha2
  have IH := Lib.hid ih
  have HW := Lib.hid hW
  have HL := Lib.hid hl
  have HL2 := Lib.hid hl2
  have HLC : Hid (c0 = 0 → l = l2) := fun h => by rw [← hl, ← hl2]; exact hll h
  clear hr ha hr2 ha2 ih hW hl hl2 hro hll
  unfold maxLen at hm hm2
  obtain ⟨res, hres⟩ : ∃ r, r = lex c0 (cmpTs args args2) := ⟨_, rfl⟩
  rw [← hres]
  have HE := Lib.hid hres
  clear hres
  have a6 := HKA.out.cell 6
  have b6 := HKB.out.cell 6
  simp only [List.getElem?_toArray, List.getElem?_cons_zero, List.getElem?_cons_succ] at a6 b6
  go_enter Tryz.func91, Tryz.ntmps91
  go_wp2_with fail
  refine (HRO.out _ HBA.out).mono ?_
  rintro e w3 ⟨rfl, hb3⟩
  have HBC : Hid (Below W.heap.size W w3) := HBA.out.trans (hb3.mono HBA.out.size)
  have HKA3 := Lib.hid (HKA.out.to hb3)
  have HKB3 := Lib.hid (HKB.out.to hb3)
  clear HBA HKA HKB hb3 HRO a6 b6
  have a6 := HKA3.out.cell 6
  have b6 := HKB3.out.cell 6
  simp only [List.getElem?_toArray, List.getElem?_cons_zero, List.getElem?_cons_succ] at a6 b6
  by_cases hc0 : c0 = 0
  · have hne : (c0 != 0) = false := by simp [hc0]
    have HLL := Lib.hid (HLC.out hc0)
    have HRE : Hid (res = cmpTs args args2) := by rw [HE.out, lex_r hc0]; rfl
    clear hc0 HE HLC
    go_wp2_with fail
    clear a6 b6
    go_loopg [17] l (fun gk s17 wr => ∃ j : Nat, gk + j = l ∧ s17 = .int .i64 (j : Int) ∧ Hid (Below w3.heap.size w3 wr ∧ res = cmpTs (args.drop j) (args2.drop j)))
    case atStart => exact ⟨0, by omega, rfl, Below.refl _ _, by rw [List.drop_zero, List.drop_zero]; exact HRE.out⟩
    case round =>
      obtain ⟨j, hgj, rfl, HJ⟩ := hrel
      have HB3 : Hid (Below W.heap.size W wr) := HBC.out.trans (HJ.out.1.mono HBC.out.size)
      have HBW : Hid (Below w.heap.size w wr) := HW.out.trans (HB3.out.mono HW.out.size)
      by_cases hj : j < l
      · have hja : j < args.length := by rw [HL.out]; exact hj
        have hjb : j < args2.length := by rw [HL2.out, ← HLL.out]; exact hj
        obtain ⟨b, o, k', v', s', ng', X2, n2, c2, Y2, n3, d2, Xr, xl, xc, hAr, hcs, hlt, e0, e1, e2, e3, e4, e5, e6⟩ := arg_cells HR.out HA.out HBW.out hja
        obtain ⟨b', o', k2', v2', s2', ng2', X3, n4, c3, Y3, n5, d3, Xr3, xl3, xc3, hAr2, hcs2, hlt2, g0, g1, g2, g3, g4, g5, g6⟩ := arg_cells HR2.out HA2.out HBW.out hjb
        subst hAr hAr2
        have hca := (HKA3.out.to HJ.out.1).cell 6
        have hcb := (HKB3.out.to HJ.out.1).cell 6
        simp only [List.getElem?_toArray, List.getElem?_cons_zero, List.getElem?_cons_succ] at hca hcb
        obtain ⟨r, HQ⟩ : ∃ r, Hid ((args[j]).cmp (args2[j]) = r) := ⟨_, Lib.hid rfl⟩
        have hjl2 : j < l2 := by rw [← HLL.out]; exact hj
        have HCALL : Hid (∀ W', Below w.heap.size w W' → Calls Tryz.prog 91 #[.agg #[.int .i64 k', .int .i64 v', .string s', .bool ng', .slice X2 n2 c2, .slice Y2 n3 d2, .slice Xr xl xc], .agg #[.int .i64 k2', .int .i64 v2', .string s2', .bool ng2', .slice X3 n4 c3, .slice Y3 n5 d3, .slice Xr3 xl3 xc3]] W' fun e w' => e = .returned (.int .i64 r) ∧ Below W'.heap.size W' w') := fun W' hb => by
          have := IH.out j hja hjb W' hb
          rw [hcs, hcs2, HQ.out] at this
          exact this
        have HST : Hid (cmpTs (args.drop j) (args2.drop j) = lex r (cmpTs (args.drop (j + 1)) (args2.drop (j + 1)))) := by unfold Hid; rw [cmpTs_drop hja hjb, HQ.out]
        clear hja hjb hcs hcs2 hlt hlt2 HQ
        have HK : Hid (∀ w1 w2 : World, Below w1.heap.size w1 w2 → ((fun w' => w'.cell? ⟨W.heap.size, 6, none⟩ = some (.slice (some ⟨b, o, none⟩) l cap) ∧ w'.cell? ⟨W.heap.size + 1, 6, none⟩ = some (.slice (some ⟨b', o', none⟩) l2 cap2) ∧ w'.cell? ⟨b, o + j * 7, none⟩ = some (.int .i64 k') ∧ w'.cell? ⟨b, o + j * 7 + 1, none⟩ = some (.int .i64 v') ∧ w'.cell? ⟨b, o + j * 7 + 2, none⟩ = some (.string s') ∧ w'.cell? ⟨b, o + j * 7 + 3, none⟩ = some (.bool ng') ∧ w'.cell? ⟨b, o + j * 7 + 4, none⟩ = some (.slice X2 n2 c2) ∧ w'.cell? ⟨b, o + j * 7 + 5, none⟩ = some (.slice Y2 n3 d2) ∧ w'.cell? ⟨b, o + j * 7 + 6, none⟩ = some (.slice Xr xl xc) ∧ w'.cell? ⟨b', o' + j * 7, none⟩ = some (.int .i64 k2') ∧ w'.cell? ⟨b', o' + j * 7 + 1, none⟩ = some (.int .i64 v2') ∧ w'.cell? ⟨b', o' + j * 7 + 2, none⟩ = some (.string s2') ∧ w'.cell? ⟨b', o' + j * 7 + 3, none⟩ = some (.bool ng2') ∧ w'.cell? ⟨b', o' + j * 7 + 4, none⟩ = some (.slice X3 n4 c3) ∧ w'.cell? ⟨b', o' + j * 7 + 5, none⟩ = some (.slice Y3 n5 d3) ∧ w'.cell? ⟨b', o' + j * 7 + 6, none⟩ = some (.slice Xr3 xl3 xc3))) w1 → ((fun w' => w'.cell? ⟨W.heap.size, 6, none⟩ = some (.slice (some ⟨b, o, none⟩) l cap) ∧ w'.cell? ⟨W.heap.size + 1, 6, none⟩ = some (.slice (some ⟨b', o', none⟩) l2 cap2) ∧ w'.cell? ⟨b, o + j * 7, none⟩ = some (.int .i64 k') ∧ w'.cell? ⟨b, o + j * 7 + 1, none⟩ = some (.int .i64 v') ∧ w'.cell? ⟨b, o + j * 7 + 2, none⟩ = some (.string s') ∧ w'.cell? ⟨b, o + j * 7 + 3, none⟩ = some (.bool ng') ∧ w'.cell? ⟨b, o + j * 7 + 4, none⟩ = some (.slice X2 n2 c2) ∧ w'.cell? ⟨b, o + j * 7 + 5, none⟩ = some (.slice Y2 n3 d2) ∧ w'.cell? ⟨b, o + j * 7 + 6, none⟩ = some (.slice Xr xl xc) ∧ w'.cell? ⟨b', o' + j * 7, none⟩ = some (.int .i64 k2') ∧ w'.cell? ⟨b', o' + j * 7 + 1, none⟩ = some (.int .i64 v2') ∧ w'.cell? ⟨b', o' + j * 7 + 2, none⟩ = some (.string s2') ∧ w'.cell? ⟨b', o' + j * 7 + 3, none⟩ = some (.bool ng2') ∧ w'.cell? ⟨b', o' + j * 7 + 4, none⟩ = some (.slice X3 n4 c3) ∧ w'.cell? ⟨b', o' + j * 7 + 5, none⟩ = some (.slice Y3 n5 d3) ∧ w'.cell? ⟨b', o' + j * 7 + 6, none⟩ = some (.slice Xr3 xl3 xc3))) w2) := fun w1 w2 hb h => by
          obtain ⟨h0, h1, h2, h3, h4, h5, h6, h7, h8, h9, h10, h11, h12, h13, h14, h15⟩ := h
          exact ⟨cell_kept hb h0, cell_kept hb h1, cell_kept hb h2, cell_kept hb h3, cell_kept hb h4, cell_kept hb h5, cell_kept hb h6, cell_kept hb h7, cell_kept hb h8, cell_kept hb h9, cell_kept hb h10, cell_kept hb h11, cell_kept hb h12, cell_kept hb h13, cell_kept hb h14, cell_kept hb h15⟩
        go_wp2_with fail
        go_region_held3 (fun w' => w'.cell? ⟨W.heap.size, 6, none⟩ = some (.slice (some ⟨b, o, none⟩) l cap) ∧ w'.cell? ⟨W.heap.size + 1, 6, none⟩ = some (.slice (some ⟨b', o', none⟩) l2 cap2) ∧ w'.cell? ⟨b, o + j * 7, none⟩ = some (.int .i64 k') ∧ w'.cell? ⟨b, o + j * 7 + 1, none⟩ = some (.int .i64 v') ∧ w'.cell? ⟨b, o + j * 7 + 2, none⟩ = some (.string s') ∧ w'.cell? ⟨b, o + j * 7 + 3, none⟩ = some (.bool ng') ∧ w'.cell? ⟨b, o + j * 7 + 4, none⟩ = some (.slice X2 n2 c2) ∧ w'.cell? ⟨b, o + j * 7 + 5, none⟩ = some (.slice Y2 n3 d2) ∧ w'.cell? ⟨b, o + j * 7 + 6, none⟩ = some (.slice Xr xl xc) ∧ w'.cell? ⟨b', o' + j * 7, none⟩ = some (.int .i64 k2') ∧ w'.cell? ⟨b', o' + j * 7 + 1, none⟩ = some (.int .i64 v2') ∧ w'.cell? ⟨b', o' + j * 7 + 2, none⟩ = some (.string s2') ∧ w'.cell? ⟨b', o' + j * 7 + 3, none⟩ = some (.bool ng2') ∧ w'.cell? ⟨b', o' + j * 7 + 4, none⟩ = some (.slice X3 n4 c3) ∧ w'.cell? ⟨b', o' + j * 7 + 5, none⟩ = some (.slice Y3 n5 d3) ∧ w'.cell? ⟨b', o' + j * 7 + 6, none⟩ = some (.slice Xr3 xl3 xc3))
          (first | go_keep | (refine HK.out _ _ (by assumption) ?_; go_keep))
          (first
            | (go_at_call 91; ((with_reducible refine (HCALL.out _ (by exact HBW.out.drew)).mono ?_)); rintro e y1 ⟨rfl, hb1⟩))
        have HB4 : Hid (Below wr.heap.size wr y1) := (Below.refl _ wr).drew.trans hb1
        have HB5 : Hid (Below w3.heap.size w3 y1) := HJ.out.1.trans (HB4.out.mono HJ.out.1.size)
        have HB6 : Hid (Below W.heap.size W y1) := HBC.out.trans (HB5.out.mono HBC.out.size)
        have HRJ := Lib.hid (HJ.out.2.trans HST.out)
        clear hb1 HJ HST e0 e1 e2 e3 e4 e5 e6 g0 g1 g2 g3 g4 g5 g6 hca hcb HK HCALL
        by_cases hr0 : r = 0
        · have hr1 : (r != 0) = false := by simp [hr0]
          have HRR : Hid (res = cmpTs (args.drop (j + 1)) (args2.drop (j + 1))) := by have := HRJ.out; rw [lex_r hr0] at this; exact this
          clear hr0 HRJ
          go_wp2_with fail
          go_roundg (gk - 1)
          case measure => omega
          case rel => exact ⟨j + 1, by omega, by go_num, HB5.out, HRR.out⟩
        · have hr1 : (r != 0) = true := by simp [hr0]
          have HRR : Hid (res = r) := by have := HRJ.out; rw [lex_l hr0] at this; exact this
          clear hr0 HRJ
          go_wp2_with fail
          obtain rfl := HRR.out
          go_ret
          exact ⟨rfl, HB6.out⟩
      · obtain rfl : j = l := by omega
        have h2 := HJ.out.2
        rw [List.drop_eq_nil_of_le (by rw [HL.out]; exact Nat.le_refl _), cmpTs_nil] at h2
        obtain rfl := h2
        go_wp2_with fail
        go_ret
        exact ⟨rfl, HB3.out⟩
  · have hne : (c0 != 0) = true := by simp [hc0]
    have HRE : Hid (res = c0) := by rw [HE.out, lex_l hc0]; rfl
    clear hc0 HE HLC
    go_wp2_with fail
    obtain rfl := HRE.out
    go_ret
    exact ⟨rfl, HBC.out⟩
theorem cmp_roots {k v : Int} {s : ByteArray} {n : LN} {args : List Tm} {k2 v2 : Int} {s2 : ByteArray} {n2 : LN} {args2 : List Tm} (na : nodeE k v s n.neg n.num.length n.den.length n.err args.length = 0) (nb : nodeE k2 v2 s2 n2.neg n2.num.length n2.den.length n2.err args2.length = 0) :
    (Tm.mk k v s n args).cmp (.mk k2 v2 s2 n2 args2) = lex (rootsI (.mk k v s n args) (.mk k2 v2 s2 n2 args2)) (cmpTs args args2) ∧ (rootsI (.mk k v s n args) (.mk k2 v2 s2 n2 args2) = 0 → args.length = args2.length) := by
  rw [Tm.cmp, rootsI]
  by_cases hk : k = k2
  · subst hk
    rw [lex_r ((icmp_zero _ _).2 rfl), lex_r ((icmp_zero _ _).2 rfl)]
    have hnil : (k = 1 ∨ k = 2) → args = [] ∧ args2 = [] := fun h => by
      have pa := node_parts na
      have pb := node_parts nb
      exact ⟨List.eq_nil_of_length_eq_zero (by omega), List.eq_nil_of_length_eq_zero (by omega)⟩
    by_cases h1 : k = 1
    · obtain ⟨rfl, rfl⟩ := hnil (.inl h1)
      simp only [if_pos h1, cmpTs_nil]
      refine ⟨?_, fun _ => by simp⟩
      unfold lex; split <;> simp_all
    · by_cases h2 : k = 2
      · obtain ⟨rfl, rfl⟩ := hnil (.inr h2)
        simp only [if_neg h1, if_pos h2, cmpTs_nil]
        refine ⟨?_, fun _ => by simp⟩
        unfold lex; split <;> simp_all
      · simp only [if_neg h1, if_neg h2]
        refine ⟨?_, fun h => ?_⟩
        · unfold lex
          by_cases h : icmp args.length args2.length = 0 <;> simp [h]
        · have := (icmp_zero _ _).1 ((lex_zero _ _).1 h).1
          omega
  · have h0 : icmp k k2 ≠ 0 := fun h => hk ((icmp_zero _ _).1 h)
    rw [lex_l h0, lex_l h0, lex_l h0]
    exact ⟨rfl, fun h => absurd h h0⟩
theorem rorder_any {w : World} {a : Tm} {ca : List Value} (ha : TC w a ca) : ∀ (b : Tm) (cb : List Value), TC w b cb → a.err0 = 0 → b.err0 = 0 → ∀ (W : World), Below w.heap.size w W →
    Calls Tryz.prog 91 #[.agg ca.toArray, .agg cb.toArray] W fun e W' => e = .returned (.int .i64 (a.cmp b)) ∧ Below W.heap.size W W' := by
  have ha' := ha
  induction ha with
  | mk k v s n args A C Ar cap cs hk hv hs hA hC hn hcap hm hr ha ih =>
    intro b cb hb ea eb W hW
    have hb' := hb
    cases hb with
    | mk k2 v2 s2 n2 args2 A2 C2 Ar2 cap2 cs2 hk2 hv2 hs2 hA2 hC2 hn2 hcap2 hm2 hr2 ha2 =>
      obtain ⟨na, la⟩ := err0_node ea
      obtain ⟨nb, lb⟩ := err0_node eb
      have hro := fun W' (h : Below W.heap.size W W') => roots_any ha' _ _ hb' ea eb W' (hW.trans (h.mono hW.size))
      have hcr := cmp_roots na nb
      rw [hcr.1]
      obtain ⟨A1, q1, rfl, _⟩ := hA
      obtain ⟨B1, q2, rfl, _⟩ := hC
      obtain ⟨A3, q3, rfl, _⟩ := hA2
      obtain ⟨B3, q4, rfl, _⟩ := hC2
      exact rorder_node W v v2 s s2 n.neg n2.neg A1 B1 Ar A3 B3 Ar2 _ q1 _ q2 _ cap _ q3 _ q4 _ cap2 hW args args2 k k2 _ hcr.2 cs cs2 rfl rfl hm hcap hm2 hcap2 hr ha hr2 ha2 hro fun j h h' W' hb => ih j h (ha j h) _ _ (ha2 j h') (errL_get la h) (errL_get lb h') W' hb
end Go.Proofs.YtkfnpcilanheiaaGreat

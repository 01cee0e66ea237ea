/-  -/
import Derived.Test.YtkamkaehlofgpaaGreatJo10
import Derived.Test.YtkamkaehlofgpaaGreatJo13
import Derived.Test.YtkamkaehlofgpaaGreatJo20
set_option linter.unusedVariables false
set_option linter.unusedSimpArgs false
/- fetterlockref2.Size, fetterlockref2.Fault. -/
namespace Go.Proofs.YtkamkaehlofgpaaGreat
open Go.RowKit NumB
set_option linter.unusedVariables false
set_option linter.unusedSimpArgs false

set_option maxRecDepth 100000 in
theorem rsize_any {w : World} {t : Tm} {cs : List Value} (h : TC w t cs) (W : World) (hW : Below w.heap.size w W) :
    Calls Tryz.prog 18 #[.agg cs.toArray] W fun e W' => e = .returned (.int .i64 ((min t.count 1000000 : Nat) : Int)) ∧ Below W.heap.size W W' := by
  have HS : Hid (∀ W', Below w.heap.size w W' → Calls Tryz.prog 50 #[.agg cs.toArray, .int .i64 0] W' fun e w' => e = .returned (.int .i64 ((min t.count 1000000 : Nat) : Int)) ∧ Below W'.heap.size W' w') := fun W' hb => by
    have := sized_any h W' 0 hb (by omega)
    rw [Nat.zero_add] at this
    exact this
  have HW := Lib.hid hW
  obtain ⟨k, v, s, ng, A1, n1, c1, B1, m1, d1, Ar, l, cap, hcs⟩ := h.form
  subst hcs
  obtain ⟨z, HZ⟩ : ∃ z, Hid (min t.count 1000000 = z) := ⟨_, rfl⟩
  rw [HZ.out] at HS ⊢
  clear h hW HZ
  have HBA := Lib.hid (below_one W (.cells #[.int .i64 k, .int .i64 v, .string s, .bool ng, .slice A1 n1 c1, .slice B1 m1 d1, .slice Ar l cap] 27))
  go_enter Tryz.func18, Tryz.ntmps18
  go_wp2_with fail
  first
    | (refine (HS.out _ (by exact HW.out.trans (HBA.out.mono HW.out.size))).mono ?_
       rintro e w1 ⟨rfl, hb1⟩
       go_wp2_with fail
       go_ret
       exact ⟨rfl, HBA.out.trans (hb1.mono HBA.out.size)⟩)
    | (refine (HS.out _ HW.out).mono ?_
       rintro e w1 ⟨rfl, hb1⟩
       go_wp2_with fail
       go_ret
       exact ⟨rfl, hb1⟩)

set_option maxRecDepth 100000 in
set_option maxHeartbeats 3200000 in
theorem tmFault_any {w : World} {t : Tm} {cs : List Value} (h : TC w t cs) (W : World) (hW : Below w.heap.size w W) :
    Calls Tryz.prog 6 #[.agg cs.toArray] W fun e W' => e = .returned (.int .i64 t.check) ∧ Below W.heap.size W W' := by
  have HS : Hid (∀ W', Below w.heap.size w W' → Calls Tryz.prog 18 #[.agg cs.toArray] W' fun e w' => e = .returned (.int .i64 ((min t.count 1000000 : Nat) : Int)) ∧ Below W'.heap.size W' w') := fun W' hb => rsize_any h W' hb
  have HN : Hid (∀ W', Below w.heap.size w W' → Calls Tryz.prog 19 #[.agg cs.toArray] W' fun e w' => e = .returned (.int .i64 t.err0) ∧ Below W'.heap.size W' w') := fun W' hb => nodeFault_any h W' hb
  have HC : Hid (t.check = if 10000 < t.count then 3 else t.err0) := rfl
  have HW := Lib.hid hW
  obtain ⟨k, v, s, ng, A1, n1, c1, B1, m1, d1, Ar, l, cap, hcs⟩ := h.form
  subst hcs
  generalize t.check = tc at *
  generalize t.err0 = te at *
  obtain ⟨z, HZ, hzn⟩ : ∃ z : Nat, Hid (min t.count 1000000 = z) ∧ (10000 < z ↔ 10000 < t.count) := ⟨_, rfl, by omega⟩
  rw [HZ.out] at HS
  generalize t.count = n at *
  clear h hW HZ
  have HBA := Lib.hid (below_one W (.cells #[.int .i64 k, .int .i64 v, .string s, .bool ng, .slice A1 n1 c1, .slice B1 m1 d1, .slice Ar l cap] 27))
  have HKA := Lib.hid (Blk.new W 27 #[.int .i64 k, .int .i64 v, .string s, .bool ng, .slice A1 n1 c1, .slice B1 m1 d1, .slice Ar l cap])
  go_enter Tryz.func6, Tryz.ntmps6
  go_wp2_with fail
  refine (HS.out _ (by exact HW.out.trans (HBA.out.mono HW.out.size))).mono ?_
  rintro e w1 ⟨rfl, hb1⟩
  have HB1 := Lib.hid (HBA.out.trans (hb1.mono HBA.out.size))
  have hk := HKA.out.to hb1
  have c0 := hk.cell 0
  have c1' := hk.cell 1
  have c2 := hk.cell 2
  have c3 := hk.cell 3
  have c4 := hk.cell 4
  have c5 := hk.cell 5
  have c6 := hk.cell 6
  simp only [List.getElem?_toArray, List.getElem?_cons_zero, List.getElem?_cons_succ] at c0 c1' c2 c3 c4 c5 c6
  clear hb1 hk
  by_cases hn : 10000 < z
  · have HR : Hid (tc = 3) := by unfold Hid; rw [HC.out, if_pos (hzn.1 hn)]
    clear hzn
    go_wp2_with fail
    go_ret
    rw [HR.out]
    exact ⟨rfl, HB1.out⟩
  · have HR : Hid (tc = te) := by unfold Hid; rw [HC.out, if_neg (fun h => hn (hzn.2 h))]
    clear hzn
    go_wp2_with fail
    refine (HN.out _ (by exact HW.out.trans (HB1.out.mono HW.out.size))).mono ?_
    rintro e w2 ⟨rfl, hb2⟩
    go_wp2_with fail
    go_ret
    rw [HR.out]
    exact ⟨rfl, HB1.out.trans (hb2.mono HB1.out.size)⟩
end Go.Proofs.YtkamkaehlofgpaaGreat
/- A term that came in as an argument, opened. -/
namespace Go.Proofs.YtkamkaehlofgpaaGreat
open Go.ChangeShapes Go.WideShapes Go.ChangeAt Go.RowKit Go.Joins Go.Deep NumB
set_option linter.unusedVariables false
set_option linter.unusedSimpArgs false

set_option maxRecDepth 100000 in
theorem open_term {H : Type} {enc : TypeId × Value → H} {W : World} {base : Nat} {v : Value} {d : DataW H} {p : List MemPlace}
    (hv : Value.okWide Tryz.prog W .any base 27 v) (h : DataW.Trod enc Tryz.prog W 0 (fun _ => true) true 27 v d p) : ∃ t cs, v = .agg cs.toArray ∧ TC W t cs := by
  obtain ⟨cs, rfl, hsz⟩ := okWide_struct Tryz.underlying27 hv
  obtain ⟨fuel, hf⟩ := h
  obtain ⟨t, ht⟩ := open_tm fuel _ _ hf
  exact ⟨t, cs.toList, rfl, ht⟩
end Go.Proofs.YtkamkaehlofgpaaGreat
/- TermOrderIsTotal: its card, out of its walk. -/
namespace Go.Proofs.YtkamkaehlofgpaaGreat.LawTmOrder
open Go.ChangeShapes Go.WideShapes Go.ChangeAt Go.RowKit NumB
set_option linter.unusedVariables false
set_option linter.unusedSimpArgs false

/-- What the walk says. -/
def Walk : Prop := ∀ (t0 : Tm) (c0 : List Value) (t1 : Tm) (c1 : List Value) (t2 : Tm) (c2 : List Value) (w : World), TC w t0 c0 → TC w t1 c1 → TC w t2 c2 →
  Calls Tryz.prog 3 #[.agg c0.toArray, .agg c1.toArray, .agg c2.toArray] w fun e w' => e = .returned (.bool true) ∧ Below w.heap.size w w'

set_option maxRecDepth 100000 in
theorem contract (hwalk : Walk) (H : Type) (enc : TypeId × Value → H) (W : World) (base : Nat) (args : Array Value) (ds gs : List (DataW H)) (before : List MemPlace)
    (hval : ∀ (j : Nat) t v, Tryz.f3.params[j]? = some t → args[j]? = some v → Value.okWide Tryz.prog W .any base t v)
    (hW : DataW.Whole enc Tryz.prog Tryz.f3.params.toList Rows.termOrderIsTotalSpec.vars false W args.toList ds gs before) :
    Calls Tryz.prog 3 args W fun e W' => ∃ v, e = .returned v ∧ Rows.termOrderIsTotalSpec.post enc Tryz.prog Tryz.f3 false true false false W args v W' := by
  have hW' := hW
  obtain ⟨p, q, hA0, hV, rfl, hfz, hnd⟩ := hW
  have hA : DataW.TrodAll enc Tryz.prog W 0 (fun _ => true) true Tryz.f3.params.toList args.toList ds p := hA0
  have hA1 := hA
  clear hA0
  rw [Tryz.params3] at hA hval
  obtain ⟨v0, vs0, d0, ds0, p0, q0, hargs, rfl, rfl, h0, r0⟩ := trodAll_cons hA
  obtain ⟨v1, vs1, d1, ds1, p1, q1, rfl, rfl, rfl, h1, r1⟩ := trodAll_cons r0
  obtain ⟨v2, vs2, d2, ds2, p2, q2, rfl, rfl, rfl, h2, r2⟩ := trodAll_cons r1
  obtain ⟨rfl, rfl, rfl⟩ := trodAll_nil r2
  obtain rfl : args = #[v0, v1, v2] := by cases args; simp_all
  obtain ⟨rfl, rfl⟩ := trodVars_none hV
  obtain ⟨t0, c0, rfl, hx0⟩ := open_term (hval 0 27 v0 rfl rfl) h0
  obtain ⟨t1, c1, rfl, hx1⟩ := open_term (hval 1 27 v1 rfl rfl) h1
  obtain ⟨t2, c2, rfl, hx2⟩ := open_term (hval 2 27 v2 rfl rfl) h2
  simp only [List.append_nil] at hW' hA1
  refine (hwalk t0 c0 t1 c1 t2 c2 W hx0 hx1 hx2).mono fun e W' ⟨he, hb⟩ => ?_
  subst he
  refine ⟨_, rfl, post_law rfl hW' hA1 ?_ rfl rfl hb⟩
  rw [Tryz.params3]
  intro t ht
  have hm : t ∈ [27, 27, 27] := by simpa using ht
  have hall : ([27, 27, 27].all fun u => Tryz.prog.readableRec u && decide (u < Tryz.prog.types.size)) = true := by kernel_rfl
  have := List.all_eq_true.1 hall t hm
  simp only [Bool.and_eq_true, decide_eq_true_eq] at this
  exact this

def wit : Array Value := #[.agg #[.int .i64 0, .int .i64 0, .string ⟨#[]⟩, .bool false, .slice none 0 0, .slice none 0 0, .slice none 0 0], .agg #[.int .i64 0, .int .i64 0, .string ⟨#[]⟩, .bool false, .slice none 0 0, .slice none 0 0, .slice none 0 0], .agg #[.int .i64 0, .int .i64 0, .string ⟨#[]⟩, .bool false, .slice none 0 0, .slice none 0 0, .slice none 0 0]]
set_option maxRecDepth 100000 in
theorem laid_met (os : Os) : laidMet Tryz.prog Rows.termOrderIsTotalRow.laid ((World.laidAll Tryz.prog os Rows.termOrderIsTotalRow.laid).forCall (fun _ _ => 0) ⟨#[], wit, []⟩).memory :=
  laidMet_laidAll wit (by kernel_rfl) (by kernel_rfl)
set_option maxRecDepth 100000 in
theorem reads (os : Os) {H : Type} (enc : TypeId × Value → H) : ∃ ds places, DataW.whole enc Tryz.prog ((World.laidAll Tryz.prog os Rows.termOrderIsTotalRow.laid).forCall (fun _ _ => 0) ⟨#[], wit, []⟩).memory Tryz.f3.params.toList Rows.termOrderIsTotalSpec.vars false wit.toList 8 = some (ds, [], places) :=
  ⟨[.agg [.lit (.int .i64 0), .lit (.int .i64 0), .lit (.string []), .agg [.lit (.bool false), .nil, .nil], .nil], .agg [.lit (.int .i64 0), .lit (.int .i64 0), .lit (.string []), .agg [.lit (.bool false), .nil, .nil], .nil], .agg [.lit (.int .i64 0), .lit (.int .i64 0), .lit (.string []), .agg [.lit (.bool false), .nil, .nil], .nil]], [], by kernel_rfl⟩

set_option maxRecDepth 100000 in
theorem lifted (hwalk : Walk) (os : Os) (started : os.Started) (H : Type) (enc : TypeId × Value → H) (F : Stop.Interp) :
    ReturnsInHanded {} Tryz.checked os 3 .any ((OpenSpec.ofChange Rows.termOrderIsTotalSpec).preRow enc Tryz.prog Tryz.f3 Rows.termOrderIsTotalRow.domain false Rows.termOrderIsTotalRow.laid) (((OpenSpec.ofChange Rows.termOrderIsTotalSpec).at F).post enc Tryz.prog Tryz.f3 false true false false) := by
  obtain ⟨ds, places, hx⟩ := reads os enc
  refine returnsInHanded_of_row (C := Tryz.checked) (s := OpenSpec.ofChange Rows.termOrderIsTotalSpec) own started (by kernel_rfl) Tryz.func3
    (witness_row_at (enc := enc) (C := Tryz.checked) false (World.laidAll Tryz.prog os Rows.termOrderIsTotalRow.laid) wit rfl (by kernel_rfl) (by kernel_rfl) (by kernel_rfl)
      (OpenSpec.preRow_of_cond 8 hx (by kernel_rfl) (fun k hk => by cases hk) (by kernel_rfl) (laid_met os))) ?_
  intro W base args ds gs before hval hW _ _ _ hL _ _
  exact contract hwalk H enc W base args ds gs before hval hW

set_option maxRecDepth 100000 in
theorem said (hwalk : Walk) : Rows.TermOrderIsTotalSaid :=
  OpenClaim.holds_of_cond 3 Tryz.f3 rfl rfl rfl rfl rfl rfl rfl ⟨rfl, rfl, rfl, rfl, rfl⟩ rfl rfl rfl rfl rfl (by kernel_rfl) Tryz.func3 (by kernel_rfl)
    (of_decide_eq_true (by kernel_rfl)) (by unfold Func.isWrapper; first | (rw [if_pos (by decide +kernel)]; kernel_rfl) | (rw [if_neg (by decide +kernel)]; exact ⟨rfl, rfl⟩))
    (fun os started H enc _ F => by rw [OpenClaim.pre_eq_preRow]; exact lifted hwalk os started H enc F)

end Go.Proofs.YtkamkaehlofgpaaGreat.LawTmOrder
/- The small functions of a store: New, Var, Len, Count; fetterlocklaw2.f. -/
namespace Go.Proofs.YtkamkaehlofgpaaGreat
open Go.RowKit NumB
set_option linter.unusedVariables false
set_option linter.unusedSimpArgs false

theorem results_cellT {fn : Func} {p : Tmp} {ty : TypeId} (h : fn.results = #[.cell p ty]) (tmps : Array Value) (P : Program) (w : World) :
    (results fn tmps).run P w = ((asAddr (tmps.getD p undef)).run P w).andThen fun a w₁ => (loadVar ty a).run P w₁ := by
  simp only [results, h]
  simp [Sem.run_bind, Result.andThen]
theorem below_pair (w : World) (o1 o2 : Obj) : Below w.heap.size w ((w.alloc o1).alloc o2) := (below_one w o1).alloc (by simp) o2
set_option maxRecDepth 100000 in
theorem heapNew_any (w : World) : Calls Tryz.prog 53 #[] w fun e w' => e = .returned (.pointer (some ⟨w.heap.size, 0, none⟩)) ∧ w' = w.alloc (.cells #[.slice none 0 0, .slice none 0 0, .slice none 0 0] 117) := by
  go_enter Tryz.func53, Tryz.ntmps53
  go_wp2_with fail
  go_ret
  exact ⟨rfl, rfl⟩
set_option maxRecDepth 100000 in
theorem termNew_any (w : World) : Calls Tryz.prog 20 #[] w fun e w' => e = .returned (.pointer (some ⟨w.heap.size + 1, 0, none⟩)) ∧ w' = (w.alloc (.cells #[.slice none 0 0, .slice none 0 0, .slice none 0 0] 117)).alloc (.cells #[.pointer (some ⟨w.heap.size, 0, none⟩)] 82) := by
  go_enter Tryz.func20, Tryz.ntmps20
  go_wp2_with fail
  refine (heapNew_any _).mono ?_
  rintro e w1 ⟨rfl, rfl⟩
  go_wp2_with fail
  go_ret
  exact ⟨rfl, rfl⟩
set_option maxRecDepth 100000 in
theorem heapVar_any (v : Int) (w : World) : Calls Tryz.prog 43 #[.int .i64 v] w fun e w' => e = .returned (.agg #[.int .i64 1, .int .i64 v, .string ⟨#[]⟩, .bool false, .slice none 0 0, .slice none 0 0, .slice none 0 0]) ∧ Below w.heap.size w w' := by
  go_enter Tryz.func43, Tryz.ntmps43
  go_wp2_with fail
  refine bodyPost_ret (v := .agg #[.int .i64 1, .int .i64 v, .string ⟨#[]⟩, .bool false, .slice none 0 0, .slice none 0 0, .slice none 0 0]) (by rw [results_cellT rfl]; go_simp) rfl ?_
  exact ⟨rfl, below_one w _⟩
set_option maxRecDepth 100000 in
theorem lawF_any (s : ByteArray) (Ar : Option Addr) (l cap : Nat) (w : World) : Calls Tryz.prog 23 #[.string s, .slice Ar l cap] w fun e w' => e = .returned (.agg #[.int .i64 5, .int .i64 0, .string s, .bool false, .slice none 0 0, .slice none 0 0, .slice Ar l cap]) ∧ Below w.heap.size w w' := by
  go_enter Tryz.func23, Tryz.ntmps23
  go_wp2_with fail
  refine bodyPost_ret (v := .agg #[.int .i64 5, .int .i64 0, .string s, .bool false, .slice none 0 0, .slice none 0 0, .slice Ar l cap]) (by rw [results_cellT rfl]; go_simp) rfl ?_
  exact ⟨rfl, below_one w _⟩
set_option maxRecDepth 100000 in
theorem heapLen_any (h : Nat) (A B C : Option Addr) (n c n2 c2 n3 c3 : Nat) (w : World) (hk : Blk w h 117 #[.slice A n c, .slice B n2 c2, .slice C n3 c3]) : Calls Tryz.prog 59 #[.pointer (some ⟨h, 0, none⟩)] w fun e w' => e = .returned (.int .i64 (n : Int)) ∧ w' = w := by
  have c0 := hk.cell 0
  simp only [List.getElem?_toArray, List.getElem?_cons_zero, List.getElem?_cons_succ] at c0
  go_enter Tryz.func59, Tryz.ntmps59
  go_wp2_with fail
  go_ret
  exact ⟨rfl, rfl⟩
set_option maxRecDepth 100000 in
theorem count_any (g h : Nat) (A B C : Option Addr) (n c n2 c2 n3 c3 : Nat) (w : World) (hs : Blk w g 82 #[.pointer (some ⟨h, 0, none⟩)]) (hk : Blk w h 117 #[.slice A n c, .slice B n2 c2, .slice C n3 c3]) : Calls Tryz.prog 25 #[.pointer (some ⟨g, 0, none⟩)] w fun e w' => e = .returned (.int .i64 (n : Int)) ∧ w' = w := by
  have c0 := hs.cell 0
  simp only [List.getElem?_toArray, List.getElem?_cons_zero, List.getElem?_cons_succ] at c0
  have HL := Lib.hid (heapLen_any h A B C n c n2 c2 n3 c3 w hk)
  clear hk hs
  go_enter Tryz.func25, Tryz.ntmps25
  go_wp2_with fail
  refine HL.out.mono ?_
  rintro e w1 ⟨rfl, rfl⟩
  go_wp2_with fail
  go_ret
  exact ⟨rfl, rfl⟩
end Go.Proofs.YtkamkaehlofgpaaGreat

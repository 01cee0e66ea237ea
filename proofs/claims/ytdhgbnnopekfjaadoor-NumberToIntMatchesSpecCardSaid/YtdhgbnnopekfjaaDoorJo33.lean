/- NumberToIntMatchesSpec: its card, out of its walk. NumberToIntMatchesSpec: for all numbers, ToInt and Sign return what is specified. -/
import Derived.Test.YtdhgbnnopekfjaaDoorCards
import Derived.Test.YtdhgbnnopekfjaaDoorTie
import Derived.Test.YtdhgbnnopekfjaaDoorJo14
import Derived.Test.YtdhgbnnopekfjaaDoorJo19
import Derived.Test.YtdhgbnnopekfjaaDoorJo29
import Derived.Test.YtdhgbnnopekfjaaDoorJo32
set_option linter.unusedVariables false
set_option linter.unusedSimpArgs false
namespace Go.Proofs.YtdhgbnnopekfjaaDoor.LawToInt
open Go.ChangeShapes Go.WideShapes Go.ChangeAt Go.RowKit NumB
set_option linter.unusedVariables false
set_option linter.unusedSimpArgs false

/-- What the walk says. -/
def Walk : Prop := ∀ (a0 : LN) (v0 : Value) (w : World), GV w v0 a0 →
  Calls Tryd.prog 4 #[v0] w fun e w' => e = .returned (.bool true) ∧ Below w.heap.size w w'

set_option maxRecDepth 100000 in
theorem contract (hwalk : Walk) (H : Type) (enc : TypeId × Value → H) (W : World) (base : Nat) (args : Array Value) (ds gs : List (DataW H)) (before : List MemPlace)
    (hval : ∀ (j : Nat) t v, Tryd.f4.params[j]? = some t → args[j]? = some v → Value.okWide Tryd.prog W .any base t v)
    (hW : DataW.Whole enc Tryd.prog Tryd.f4.params.toList Rows.numberToIntMatchesSpecSpec.vars false W args.toList ds gs before) :
    Calls Tryd.prog 4 args W fun e W' => ∃ v, e = .returned v ∧ Rows.numberToIntMatchesSpecSpec.post enc Tryd.prog Tryd.f4 false true false false W args v W' := by
  have hW' := hW
  obtain ⟨p, q, hA0, hV, rfl, hfz, hnd⟩ := hW
  have hA : DataW.TrodAll enc Tryd.prog W 0 (fun _ => true) true Tryd.f4.params.toList args.toList ds p := hA0
  have hA1 := hA
  clear hA0
  rw [Tryd.params4] at hA hval
  obtain ⟨v0, vs0, d0, ds0, p0, q0, hargs, rfl, rfl, h0, r0⟩ := trodAll_cons hA
  obtain ⟨rfl, rfl, rfl⟩ := trodAll_nil r0
  obtain rfl : args = #[v0] := by cases args; simp_all
  obtain ⟨rfl, rfl⟩ := trodVars_none hV
  obtain ⟨neg0, va0, vb0, xs0, ys0, rfl, hx0, hy0, ox0, oy0⟩ := open_number (hval 0 24 v0 rfl rfl) h0
  simp only [List.append_nil] at hW' hA1
  refine (hwalk ⟨neg0, xs0, ys0⟩ _ W ⟨va0, vb0, rfl, hx0, hy0, ox0, oy0⟩).mono fun e W' ⟨he, hb⟩ => ?_
  subst he
  refine ⟨_, rfl, post_law rfl hW' hA1 ?_ rfl rfl hb⟩
  rw [Tryd.params4]
  intro t ht
  have hm : t ∈ [24] := by simpa using ht
  have hall : ([24].all fun u => Tryd.prog.readableRec u && decide (u < Tryd.prog.types.size)) = true := by kernel_rfl
  have := List.all_eq_true.1 hall t hm
  simp only [Bool.and_eq_true, decide_eq_true_eq] at this
  exact this

def wit : Array Value := #[.agg #[.bool false, .slice none 0 0, .slice none 0 0]]
set_option maxRecDepth 100000 in
theorem laid_met (os : Os) : laidMet Tryd.prog Rows.numberToIntMatchesSpecRow.laid ((World.laidAll Tryd.prog os Rows.numberToIntMatchesSpecRow.laid).forCall (fun _ _ => 0) ⟨#[], wit, []⟩).memory :=
  laidMet_laidAll wit (by kernel_rfl) (by kernel_rfl)
set_option maxRecDepth 100000 in
theorem reads (os : Os) {H : Type} (enc : TypeId × Value → H) : ∃ ds places, DataW.whole enc Tryd.prog ((World.laidAll Tryd.prog os Rows.numberToIntMatchesSpecRow.laid).forCall (fun _ _ => 0) ⟨#[], wit, []⟩).memory Tryd.f4.params.toList Rows.numberToIntMatchesSpecSpec.vars false wit.toList 8 = some (ds, [], places) :=
  ⟨[.agg [.lit (.bool false), .nil, .nil]], [], by kernel_rfl⟩

set_option maxRecDepth 100000 in
theorem lifted (hwalk : Walk) (os : Os) (started : os.Started) (H : Type) (enc : TypeId × Value → H) (F : Stop.Interp) :
    ReturnsInHanded {} Tryd.checked os 4 .any ((OpenSpec.ofChange Rows.numberToIntMatchesSpecSpec).preRow enc Tryd.prog Tryd.f4 Rows.numberToIntMatchesSpecRow.domain false Rows.numberToIntMatchesSpecRow.laid) (((OpenSpec.ofChange Rows.numberToIntMatchesSpecSpec).at F).post enc Tryd.prog Tryd.f4 false true false false) := by
  obtain ⟨ds, places, hx⟩ := reads os enc
  refine returnsInHanded_of_row (C := Tryd.checked) (s := OpenSpec.ofChange Rows.numberToIntMatchesSpecSpec) own started (by kernel_rfl) Tryd.func4
    (witness_row_at (enc := enc) (C := Tryd.checked) false (World.laidAll Tryd.prog os Rows.numberToIntMatchesSpecRow.laid) wit rfl (by kernel_rfl) (by kernel_rfl) (by kernel_rfl)
      (OpenSpec.preRow_of_cond 8 hx (by kernel_rfl) (fun k hk => by cases hk) (by kernel_rfl) (laid_met os))) ?_
  intro W base args ds gs before hval hW _ _ _ hL _ _
  exact contract hwalk H enc W base args ds gs before hval hW

set_option maxRecDepth 100000 in
theorem said (hwalk : Walk) : Rows.NumberToIntMatchesSpecSaid :=
  OpenClaim.holds_of_cond 4 Tryd.f4 rfl rfl rfl rfl rfl rfl rfl ⟨rfl, rfl, rfl, rfl, rfl⟩ rfl rfl rfl rfl rfl (by kernel_rfl) Tryd.func4 (by kernel_rfl)
    (of_decide_eq_true (by kernel_rfl)) (by unfold Func.isWrapper; first | (rw [if_pos (by decide +kernel)]; kernel_rfl) | (rw [if_neg (by decide +kernel)]; exact ⟨rfl, rfl⟩))
    (fun os started H enc _ F => by rw [OpenClaim.pre_eq_preRow]; exact lifted hwalk os started H enc F)

set_option maxRecDepth 100000 in
theorem plain (f : FuncId) (fn : Func) (hf : Tryd.pinned.checked.prog.funcNamed "fetterlock/fetterlocklaw1.NumberToIntMatchesSpec" = some f) (hfn : Tryd.pinned.checked.prog.funcs[f]? = some fn) :
    false = Tryd.pinned.checked.prog.looks [] ∧ ∀ (j : Nat) t, fn.params[j]? = some t → Tryd.pinned.checked.prog.wantsStandIn t = false := by
  obtain rfl : f = 4 := Option.some.inj ((show Tryd.prog.funcNamed "fetterlock/fetterlocklaw1.NumberToIntMatchesSpec" = some 4 by kernel_rfl).symm.trans hf) |>.symm
  obtain rfl : fn = Tryd.f4 := (Option.some.inj (Tryd.func4.symm.trans hfn)).symm
  refine ⟨by kernel_rfl, fun j t ht => ?_⟩
  rw [Tryd.params4] at ht
  have hm : t ∈ [24] := by simpa using Array.mem_of_getElem? ht
  have hall : ([24].all fun u => !Tryd.prog.wantsStandIn u) = true := by kernel_rfl
  exact (show Tryd.prog.wantsStandIn t = false by simpa using List.all_eq_true.1 hall t hm)

set_option maxRecDepth 100000 in
theorem card (hwalk : Walk) : Rows.NumberToIntMatchesSpecCardSaid :=
  Claim7.holds_tied_plain_at .later [] _ _ _ _ (said hwalk) (fun _ h => by cases h) (by kernel_rfl) (fun _ h => by cases h) numberToIntMatchesSpec_row_tie rfl ⟨rfl, rfl⟩ (by kernel_rfl) rfl plain (by kernel_rfl)
end Go.Proofs.YtdhgbnnopekfjaaDoor.LawToInt
namespace Go.Proofs.YtdhgbnnopekfjaaDoor
open Go.RowKit NumB
set_option linter.unusedVariables false
set_option linter.unusedSimpArgs false

theorem signS_cmp {a : LN} (ho : a.ok) (he : a.err = 0) : cmpQ a.neg a.x a.y (intL false 0).neg (intL false 0).x (intL false 0).y = signS a := by
  rw [intL_x, intL_y, show (intL false 0).neg = false from rfl]
  have h := bx_zero ho he
  have hc := (LN.good ho he).2.2.2.2
  unfold cmpQ signS
  rw [Nat.mul_one, Nat.zero_mul]
  cases hn : a.neg with
  | true =>
    have : a.x ≠ 0 := fun h0 => by have := hc.2.2 h0; rw [hn] at this; cases this
    rw [if_neg (show ¬ a.num.length = 0 from fun h1 => this (h.1 h1))]
    simp
  | false =>
    by_cases h0 : a.x = 0
    · rw [if_pos (h.2 h0), h0]; simp [cmpI]
    · rw [if_neg (show ¬ a.num.length = 0 from fun h1 => h0 (h.1 h1))]
      have : 0 < a.x := Nat.pos_of_ne_zero h0
      simp [cmpI, this]
      try omega

set_option maxRecDepth 1000000 in
set_option maxHeartbeats 12800000 in
theorem law_toInt : LawToInt.Walk := by
  intro a0 v0 w g0
  obtain ⟨A0, n0, c0, B0, m0, d0, rfl, hq1, hq2⟩ := g0.form
  clear hq1 hq2
  have HO := Lib.hid g0.ok
  have hbd : 0 ≤ a0.err ∧ a0.err ≤ 3 := checkL_bd _ _ _
  have HT1 := Lib.hid (fun (W : World) (u : Value) (h : GV W u a0) => toInt_S a0 u W h)
  have HT2 := Lib.hid (fun (W : World) (u : Value) (h : GV W u a0) => rtoInt_S a0 u W h)
  have HSG := Lib.hid (fun (W : World) (u : Value) (h : GV W u a0) => sign_S a0 u W h)
  have HFA := Lib.hid (fun (W : World) (u : Value) (h : GV W u a0) => fault_S a0 u W h)
  generalize toIntS a0 = t at *
  obtain ⟨t1, t2⟩ := t
  dsimp only at HT1 HT2
  have ht1 : (t1 != t1) = false := by simp
  have ht2 : (t2 != t2) = false := by simp
  have KA := Lib.hid (Blk.new w 24 #[.bool a0.neg, .slice A0 n0 c0, .slice B0 m0 d0])
  have GA := Lib.hid (g0.to (below_one w (.cells #[.bool a0.neg, .slice A0 n0 c0, .slice B0 m0 d0] 24)))
  have HBE := Lib.hid (below_one w (.cells #[.bool a0.neg, .slice A0 n0 c0, .slice B0 m0 d0] 24))
  clear g0
  by_cases e0 : a0.err = 0
  rotate_left
  · rw [if_neg e0] at HSG
    have b0 : (a0.err != 0) = true := by rw [bne_iff_ne]; exact e0
    have b1 : (a0.err == a0.err) = true := by simp
    have b2 : (a0.err != a0.err) = false := by simp
    generalize a0.err = z at *
    clear e0
    go_enter Tryd.func4, Tryd.ntmps4
    go_wp2_with fail
    refine (HT1.out _ _ (by exact GA.out)).mono ?_
    rintro e w1 ⟨rfl, hb⟩
    have KA := Lib.hid (KA.out.to hb)
    have GA := Lib.hid (GA.out.to hb)
    have HBE : Hid (Below w.heap.size w w1) := HBE.out.trans ((hb).mono HBE.out.size)
    clear hb
    have ka0 := KA.out.cell 0
    have ka1 := KA.out.cell 1
    have ka2 := KA.out.cell 2
    simp only [List.getElem?_toArray, List.getElem?_cons_zero, List.getElem?_cons_succ] at ka0 ka1 ka2
    go_wp2_with fail
    refine (HT2.out _ _ (by exact GA.out)).mono ?_
    rintro e w2 ⟨rfl, hb⟩
    clear ka0 ka1 ka2
    have KA := Lib.hid (KA.out.to hb)
    have GA := Lib.hid (GA.out.to hb)
    have HBE : Hid (Below w.heap.size w w2) := HBE.out.trans ((hb).mono HBE.out.size)
    clear hb
    have ka0 := KA.out.cell 0
    have ka1 := KA.out.cell 1
    have ka2 := KA.out.cell 2
    simp only [List.getElem?_toArray, List.getElem?_cons_zero, List.getElem?_cons_succ] at ka0 ka1 ka2
    go_wp2_with fail
    refine (HSG.out _ _ (by exact GA.out)).mono ?_
    rintro e w3 ⟨rfl, hb⟩
    clear ka0 ka1 ka2
    have KA := Lib.hid (KA.out.to hb)
    have GA := Lib.hid (GA.out.to hb)
    have HBE : Hid (Below w.heap.size w w3) := HBE.out.trans ((hb).mono HBE.out.size)
    clear hb
    have ka0 := KA.out.cell 0
    have ka1 := KA.out.cell 1
    have ka2 := KA.out.cell 2
    simp only [List.getElem?_toArray, List.getElem?_cons_zero, List.getElem?_cons_succ] at ka0 ka1 ka2
    go_wp2_with fail
    refine (HFA.out _ _ (by exact GA.out)).mono ?_
    rintro e w4 ⟨rfl, hb⟩
    clear ka0 ka1 ka2
    have KA := Lib.hid (KA.out.to hb)
    have GA := Lib.hid (GA.out.to hb)
    have HBE : Hid (Below w.heap.size w w4) := HBE.out.trans ((hb).mono HBE.out.size)
    clear hb
    go_wp2_with fail
    refine (counted_any _).mono ?_
    rintro e wz ⟨rfl, hb⟩
    go_wp2_with fail
    go_ret
    exact ⟨rfl, HBE.out.trans (hb.mono HBE.out.size)⟩
  obtain ⟨p1, p2, p3, p4, hcan⟩ := LN.good HO.out e0
  have HOF : Hid (∀ (W : World) (u : Value), GV W u a0 → Calls Tryd.prog 17 #[u] W (RVPost W a0.neg a0.x a0.y)) := fun W u h => rof_any a0 u W h (by omega) (by omega)
  have HFI : Hid (∀ W : World, Calls Tryd.prog 18 #[.int .i64 0] W fun e w' => ∃ v, e = .returned v ∧ GV w' v (intL false 0) ∧ Below W.heap.size W w') := fun W => (rfromInt_pos 0 W (by omega)).mono fun e w' ⟨v, h1, h2, h3⟩ => ⟨v, h1, GV.of_num h2, h3⟩
  have HOZ : Hid (∀ (W : World) (u : Value), GV W u (intL false 0) → Calls Tryd.prog 17 #[u] W (RVPost W (intL false 0).neg (intL false 0).x (intL false 0).y)) := fun W u h => rof_any _ u W h (by show (digs W32 0).length ≤ _; rw [digs_zero]; exact Nat.zero_le _) (by show (digs W32 1).length ≤ _; rw [digs_one32]; decide)
  have HL : Hid ((digs W16 a0.x).length ≤ 256 ∧ (digs W16 a0.y).length ≤ 256) := LN.len16 HO.out e0
  have HCM : Hid (∀ (W : World) (u v : Value), RV W u a0.neg a0.x a0.y → RV W v (intL false 0).neg (intL false 0).x (intL false 0).y → Calls Tryd.prog 16 #[u, v] W fun e w' => e = .returned (.int .i64 (signS a0)) ∧ Below W.heap.size W w') := fun W u v h1 h2 => by
    rw [← signS_cmp HO.out e0]
    exact rcmpR_any _ _ _ _ _ _ u v W h1 h2 (by have := HL.out; omega) (by have := HL.out; omega) (by rw [intL_x, digs_zero]; exact Nat.zero_le _) (by rw [intL_y, digs_one16]; decide)
  rw [e0] at HFA
  rw [e0, if_pos rfl] at HSG
  have hs1 : (signS a0 == signS a0) = true := by simp
  generalize signS a0 = s at *
  generalize intL false 0 = z0 at *
  clear e0 p1 p2 p3 p4 hcan hbd
  go_enter Tryd.func4, Tryd.ntmps4
  go_wp2_with fail
  refine (HT1.out _ _ (by exact GA.out)).mono ?_
  rintro e w1 ⟨rfl, hb⟩
  have KA := Lib.hid (KA.out.to hb)
  have GA := Lib.hid (GA.out.to hb)
  have HBE : Hid (Below w.heap.size w w1) := HBE.out.trans ((hb).mono HBE.out.size)
  clear hb
  have ka0 := KA.out.cell 0
  have ka1 := KA.out.cell 1
  have ka2 := KA.out.cell 2
  simp only [List.getElem?_toArray, List.getElem?_cons_zero, List.getElem?_cons_succ] at ka0 ka1 ka2
  go_wp2_with fail
  refine (HT2.out _ _ (by exact GA.out)).mono ?_
  rintro e w2 ⟨rfl, hb⟩
  clear ka0 ka1 ka2
  have KA := Lib.hid (KA.out.to hb)
  have GA := Lib.hid (GA.out.to hb)
  have HBE : Hid (Below w.heap.size w w2) := HBE.out.trans ((hb).mono HBE.out.size)
  clear hb
  have ka0 := KA.out.cell 0
  have ka1 := KA.out.cell 1
  have ka2 := KA.out.cell 2
  simp only [List.getElem?_toArray, List.getElem?_cons_zero, List.getElem?_cons_succ] at ka0 ka1 ka2
  go_wp2_with fail
  refine (HSG.out _ _ (by exact GA.out)).mono ?_
  rintro e w3 ⟨rfl, hb⟩
  clear ka0 ka1 ka2
  have KA := Lib.hid (KA.out.to hb)
  have GA := Lib.hid (GA.out.to hb)
  have HBE : Hid (Below w.heap.size w w3) := HBE.out.trans ((hb).mono HBE.out.size)
  clear hb
  have ka0 := KA.out.cell 0
  have ka1 := KA.out.cell 1
  have ka2 := KA.out.cell 2
  simp only [List.getElem?_toArray, List.getElem?_cons_zero, List.getElem?_cons_succ] at ka0 ka1 ka2
  go_wp2_with fail
  refine (HFA.out _ _ (by exact GA.out)).mono ?_
  rintro e w4 ⟨rfl, hb⟩
  clear ka0 ka1 ka2
  have KA := Lib.hid (KA.out.to hb)
  have GA := Lib.hid (GA.out.to hb)
  have HBE : Hid (Below w.heap.size w w4) := HBE.out.trans ((hb).mono HBE.out.size)
  clear hb
  have ka0 := KA.out.cell 0
  have ka1 := KA.out.cell 1
  have ka2 := KA.out.cell 2
  simp only [List.getElem?_toArray, List.getElem?_cons_zero, List.getElem?_cons_succ] at ka0 ka1 ka2
  go_wp2_with fail
  refine (HOF.out _ _ (by exact GA.out)).mono ?_
  rintro e w5 ⟨v, rfl, hg, hb⟩
  clear ka0 ka1 ka2
  have KA := Lib.hid (KA.out.to hb)
  have GA := Lib.hid (GA.out.to hb)
  have HBE : Hid (Below w.heap.size w w5) := HBE.out.trans ((hb).mono HBE.out.size)
  clear hb
  have R1 := Lib.hid hg
  clear hg
  go_wp2_with fail
  refine (HFI.out _).mono ?_
  rintro e w6 ⟨v, rfl, hg, hb⟩
  have KA := Lib.hid (KA.out.to hb)
  have GA := Lib.hid (GA.out.to hb)
  have R1 := Lib.hid (R1.out.to hb)
  have HBE : Hid (Below w.heap.size w w6) := HBE.out.trans ((hb).mono HBE.out.size)
  clear hb
  have G2 := Lib.hid hg
  clear hg
  go_wp2_with fail
  refine (HOZ.out _ _ (by exact G2.out)).mono ?_
  rintro e w7 ⟨v, rfl, hg, hb⟩
  have KA := Lib.hid (KA.out.to hb)
  have GA := Lib.hid (GA.out.to hb)
  have R1 := Lib.hid (R1.out.to hb)
  have G2 := Lib.hid (G2.out.to hb)
  have HBE : Hid (Below w.heap.size w w7) := HBE.out.trans ((hb).mono HBE.out.size)
  clear hb
  have R3 := Lib.hid hg
  clear hg
  go_wp2_with fail
  refine (HCM.out _ _ _ (by exact R1.out) (by exact R3.out)).mono ?_
  rintro e w8 ⟨rfl, hb⟩
  have KA := Lib.hid (KA.out.to hb)
  have GA := Lib.hid (GA.out.to hb)
  have R1 := Lib.hid (R1.out.to hb)
  have G2 := Lib.hid (G2.out.to hb)
  have R3 := Lib.hid (R3.out.to hb)
  have HBE : Hid (Below w.heap.size w w8) := HBE.out.trans ((hb).mono HBE.out.size)
  clear hb
  go_wp2_with fail
  refine (counted_any _).mono ?_
  rintro e wz ⟨rfl, hb⟩
  go_wp2_with fail
  go_ret
  exact ⟨rfl, HBE.out.trans (hb.mono HBE.out.size)⟩

theorem numberToInt_holds : Rows.NumberToIntMatchesSpecCardSaid := LawToInt.card law_toInt
#print axioms numberToInt_holds
end Go.Proofs.YtdhgbnnopekfjaaDoor

/-  -/
import Derived.Test.YtdmhkhnnomdkcaaDoorCards
import Derived.Test.YtdmhkhnnomdkcaaDoorTie
import Derived.Test.YtdmhkhnnomdkcaaDoorJo17
import Derived.Test.YtdmhkhnnomdkcaaDoorJo26
set_option linter.unusedVariables false
set_option linter.unusedSimpArgs false
/- NumberPowersAdd: its card, out of its walk. -/
namespace Go.Proofs.YtdmhkhnnomdkcaaDoor.LawPowersAdd
open Go.ChangeShapes Go.WideShapes Go.ChangeAt Go.RowKit NumB
set_option linter.unusedVariables false
set_option linter.unusedSimpArgs false

/-- What the walk says. -/
def Walk : Prop := ∀ (a0 : LN) (v0 : Value) (i1 : Int) (i2 : Int) (w : World), GV w v0 a0 → (-9223372036854775808 ≤ i1 ∧ i1 ≤ 9223372036854775807) → (-9223372036854775808 ≤ i2 ∧ i2 ≤ 9223372036854775807) →
  Calls Tryd.prog 4 #[v0, .int .i64 i1, .int .i64 i2] w fun e w' => e = .returned (.bool true) ∧ Below w.heap.size w w'

set_option maxRecDepth 100000 in
theorem contract (hwalk : Walk) (H : Type) (enc : TypeId × Value → H) (W : World) (base : Nat) (args : Array Value) (ds gs : List (DataW H)) (before : List MemPlace)
    (hval : ∀ (j : Nat) t v, Tryd.f4.params[j]? = some t → args[j]? = some v → Value.okWide Tryd.prog W .any base t v)
    (hW : DataW.Whole enc Tryd.prog Tryd.f4.params.toList Rows.numberPowersAddSpec.vars false W args.toList ds gs before) :
    Calls Tryd.prog 4 args W fun e W' => ∃ v, e = .returned v ∧ Rows.numberPowersAddSpec.post enc Tryd.prog Tryd.f4 false true false false W args v W' := by
  have hW' := hW
  obtain ⟨p, q, hA0, hV, rfl, hfz, hnd⟩ := hW
  have hA : DataW.TrodAll enc Tryd.prog W 0 (fun _ => true) true Tryd.f4.params.toList args.toList ds p := hA0
  have hA1 := hA
  clear hA0
  rw [Tryd.params4] at hA hval
  obtain ⟨v0, vs0, d0, ds0, p0, q0, hargs, rfl, rfl, h0, r0⟩ := trodAll_cons hA
  obtain ⟨v1, vs1, d1, ds1, p1, q1, rfl, rfl, rfl, h1, r1⟩ := trodAll_cons r0
  obtain ⟨v2, vs2, d2, ds2, p2, q2, rfl, rfl, rfl, h2, r2⟩ := trodAll_cons r1
  obtain ⟨rfl, rfl, rfl⟩ := trodAll_nil r2
  obtain rfl : args = #[v0, v1, v2] := by cases args; simp_all
  obtain ⟨rfl, rfl⟩ := trodVars_none hV
  obtain ⟨neg0, va0, vb0, xs0, ys0, rfl, hx0, hy0, ox0, oy0⟩ := open_number (hval 0 24 v0 rfl rfl) h0
  obtain ⟨i1, rfl, rfl, rfl, wx1⟩ := open_int Tryd.underlying3 (hval 1 3 v1 rfl rfl) h1
  obtain ⟨i2, rfl, rfl, rfl, wx2⟩ := open_int Tryd.underlying3 (hval 2 3 v2 rfl rfl) h2
  simp only [List.append_nil] at hW' hA1
  refine (hwalk ⟨neg0, xs0, ys0⟩ _ i1 i2 W ⟨va0, vb0, rfl, hx0, hy0, ox0, oy0⟩ (bounds_i64 wx1) (bounds_i64 wx2)).mono fun e W' ⟨he, hb⟩ => ?_
  subst he
  refine ⟨_, rfl, post_law rfl hW' hA1 ?_ rfl rfl hb⟩
  rw [Tryd.params4]
  intro t ht
  have hm : t ∈ [24, 3, 3] := by simpa using ht
  have hall : ([24, 3, 3].all fun u => Tryd.prog.readableRec u && decide (u < Tryd.prog.types.size)) = true := by kernel_rfl
  have := List.all_eq_true.1 hall t hm
  simp only [Bool.and_eq_true, decide_eq_true_eq] at this
  exact this

def wit : Array Value := #[.agg #[.bool false, .slice none 0 0, .slice none 0 0], .int .i64 0, .int .i64 0]
set_option maxRecDepth 100000 in
theorem laid_met (os : Os) : laidMet Tryd.prog Rows.numberPowersAddRow.laid ((World.laidAll Tryd.prog os Rows.numberPowersAddRow.laid).forCall (fun _ _ => 0) ⟨#[], wit, []⟩).memory :=
  laidMet_laidAll wit (by kernel_rfl) (by kernel_rfl)
set_option maxRecDepth 100000 in
theorem reads (os : Os) {H : Type} (enc : TypeId × Value → H) : ∃ ds places, DataW.whole enc Tryd.prog ((World.laidAll Tryd.prog os Rows.numberPowersAddRow.laid).forCall (fun _ _ => 0) ⟨#[], wit, []⟩).memory Tryd.f4.params.toList Rows.numberPowersAddSpec.vars false wit.toList 8 = some (ds, [], places) :=
  ⟨[.agg [.lit (.bool false), .nil, .nil], .lit (.int .i64 0), .lit (.int .i64 0)], [], by kernel_rfl⟩

set_option maxRecDepth 100000 in
theorem lifted (hwalk : Walk) (os : Os) (started : os.Started) (H : Type) (enc : TypeId × Value → H) (F : Stop.Interp) :
    ReturnsInHanded {} Tryd.checked os 4 .any ((OpenSpec.ofChange Rows.numberPowersAddSpec).preRow enc Tryd.prog Tryd.f4 Rows.numberPowersAddRow.domain false Rows.numberPowersAddRow.laid) (((OpenSpec.ofChange Rows.numberPowersAddSpec).at F).post enc Tryd.prog Tryd.f4 false true false false) := by
  obtain ⟨ds, places, hx⟩ := reads os enc
  refine returnsInHanded_of_row (C := Tryd.checked) (s := OpenSpec.ofChange Rows.numberPowersAddSpec) own started (by kernel_rfl) Tryd.func4
    (witness_row_at (enc := enc) (C := Tryd.checked) false (World.laidAll Tryd.prog os Rows.numberPowersAddRow.laid) wit rfl (by kernel_rfl) (by kernel_rfl) (by kernel_rfl)
      (OpenSpec.preRow_of_cond 8 hx (by kernel_rfl) (fun k hk => by cases hk) (by kernel_rfl) (laid_met os))) ?_
  intro W base args ds gs before hval hW _ _ _ hL _ _
  exact contract hwalk H enc W base args ds gs before hval hW

set_option maxRecDepth 100000 in
theorem said (hwalk : Walk) : Rows.NumberPowersAddSaid :=
  OpenClaim.holds_of_cond 4 Tryd.f4 rfl rfl rfl rfl rfl rfl rfl ⟨rfl, rfl, rfl, rfl, rfl⟩ rfl rfl rfl rfl rfl (by kernel_rfl) Tryd.func4 (by kernel_rfl)
    (of_decide_eq_true (by kernel_rfl)) (by unfold Func.isWrapper; first | (rw [if_pos (by decide +kernel)]; kernel_rfl) | (rw [if_neg (by decide +kernel)]; exact ⟨rfl, rfl⟩))
    (fun os started H enc _ F => by rw [OpenClaim.pre_eq_preRow]; exact lifted hwalk os started H enc F)

set_option maxRecDepth 100000 in
theorem plain (f : FuncId) (fn : Func) (hf : Tryd.pinned.checked.prog.funcNamed "fetterlock/fetterlocklaw1.NumberPowersAdd" = some f) (hfn : Tryd.pinned.checked.prog.funcs[f]? = some fn) :
    false = Tryd.pinned.checked.prog.looks [] ∧ ∀ (j : Nat) t, fn.params[j]? = some t → Tryd.pinned.checked.prog.wantsStandIn t = false := by
  obtain rfl : f = 4 := Option.some.inj ((show Tryd.prog.funcNamed "fetterlock/fetterlocklaw1.NumberPowersAdd" = some 4 by kernel_rfl).symm.trans hf) |>.symm
  obtain rfl : fn = Tryd.f4 := (Option.some.inj (Tryd.func4.symm.trans hfn)).symm
  refine ⟨by kernel_rfl, fun j t ht => ?_⟩
  rw [Tryd.params4] at ht
  have hm : t ∈ [24, 3, 3] := by simpa using Array.mem_of_getElem? ht
  have hall : ([24, 3, 3].all fun u => !Tryd.prog.wantsStandIn u) = true := by kernel_rfl
  exact (show Tryd.prog.wantsStandIn t = false by simpa using List.all_eq_true.1 hall t hm)

set_option maxRecDepth 100000 in
theorem card (hwalk : Walk) : Rows.NumberPowersAddCardSaid :=
  Claim7.holds_tied_plain_at .later [] _ _ _ _ (said hwalk) (fun _ h => by cases h) (by kernel_rfl) (fun _ h => by cases h) numberPowersAdd_row_tie rfl ⟨rfl, rfl⟩ (by kernel_rfl) rfl plain (by kernel_rfl)
end Go.Proofs.YtdmhkhnnomdkcaaDoor.LawPowersAdd

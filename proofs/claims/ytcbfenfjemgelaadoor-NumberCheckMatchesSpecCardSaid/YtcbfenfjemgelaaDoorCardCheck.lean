/- NumberCheckMatchesSpec's card, out of its walk. -/
import Derived.Test.YtcbfenfjemgelaaDoorFrame
import Derived.Test.YtcbfenfjemgelaaDoorCards
import Derived.Test.YtcbfenfjemgelaaDoorTie
namespace Go.Proofs.YtcbfenfjemgelaaDoor.LawCheck
open Go.ChangeShapes Go.WideShapes Go.ChangeAt Go.RowKit NumB
set_option linter.unusedVariables false

/-- What the walk says. -/
def Walk : Prop := ∀ (neg : Bool) (xs ys : List Nat) (va vb : Value) (w : World), Sl .u32 w va xs → Sl .u32 w vb ys → Ok W32 xs → Ok W32 ys →
  Calls Tryd.prog 3 #[.agg #[.bool neg, va, vb]] w fun e w' => e = .returned (.bool true) ∧ Below w.heap.size w w'

theorem contract (hwalk : Walk) (H : Type) (enc : TypeId × Value → H) (W : World) (base : Nat) (args : Array Value) (ds gs : List (DataW H)) (before : List MemPlace)
    (hval : ∀ (j : Nat) t v, Tryd.f3.params[j]? = some t → args[j]? = some v → Value.okWide Tryd.prog W .any base t v)
    (hW : DataW.Whole enc Tryd.prog Tryd.f3.params.toList Rows.numberCheckMatchesSpecSpec.vars false W args.toList ds gs before) :
    Calls Tryd.prog 3 args W fun e W' => ∃ v, e = .returned v ∧ Rows.numberCheckMatchesSpecSpec.post enc Tryd.prog Tryd.f3 false true false false W args v W' := by
  have hW' := hW
  obtain ⟨p, q, hA0, hV, rfl, hfz, hnd⟩ := hW
  have hA : DataW.TrodAll enc Tryd.prog W 0 (fun _ => true) true Tryd.f3.params.toList args.toList ds p := hA0
  have hA1 := hA
  rw [Tryd.params3] at hA hval
  obtain ⟨v0, d0, hargs, rfl, h0⟩ := trodAll_one hA
  obtain rfl : args = #[v0] := by cases args; simp_all
  obtain ⟨rfl, rfl⟩ := trodVars_none hV
  obtain ⟨neg, va, vb, xs, ys, rfl, hx, hy, ox, oy⟩ := open_number (hval 0 24 v0 rfl rfl) h0
  simp only [List.append_nil] at hW'
  refine (hwalk neg xs ys va vb W hx hy ox oy).mono fun e W' ⟨he, hb⟩ => ?_
  subst he
  exact ⟨_, rfl, post_law rfl hW' hA1 (by rw [Tryd.params3]; intro t ht; obtain rfl : t = 24 := by simpa using ht
                                          exact ⟨by kernel_rfl, of_decide_eq_true (by kernel_rfl)⟩) rfl rfl hb⟩

def wit : Array Value := #[.agg #[.bool false, .slice none 0 0, .slice none 0 0]]
theorem laid_met (os : Os) : laidMet Tryd.prog Rows.numberCheckMatchesSpecRow.laid ((World.laidAll Tryd.prog os Rows.numberCheckMatchesSpecRow.laid).forCall (fun _ _ => 0) ⟨#[], wit, []⟩).memory :=
  laidMet_laidAll wit (by kernel_rfl) (by kernel_rfl)
theorem reads (os : Os) {H : Type} (enc : TypeId × Value → H) : ∃ ds places, DataW.whole enc Tryd.prog ((World.laidAll Tryd.prog os Rows.numberCheckMatchesSpecRow.laid).forCall (fun _ _ => 0) ⟨#[], wit, []⟩).memory Tryd.f3.params.toList Rows.numberCheckMatchesSpecSpec.vars false wit.toList 8 = some (ds, [], places) :=
  ⟨[.agg [.lit (.bool false), .nil, .nil]], [], by kernel_rfl⟩

set_option maxRecDepth 100000 in
theorem lifted (hwalk : Walk) (os : Os) (started : os.Started) (H : Type) (enc : TypeId × Value → H) (F : Stop.Interp) :
    ReturnsInHanded {} Tryd.checked os 3 .any ((OpenSpec.ofChange Rows.numberCheckMatchesSpecSpec).preRow enc Tryd.prog Tryd.f3 Rows.numberCheckMatchesSpecRow.domain false Rows.numberCheckMatchesSpecRow.laid) (((OpenSpec.ofChange Rows.numberCheckMatchesSpecSpec).at F).post enc Tryd.prog Tryd.f3 false true false false) := by
  obtain ⟨ds, places, hx⟩ := reads os enc
  refine returnsInHanded_of_row (C := Tryd.checked) (s := OpenSpec.ofChange Rows.numberCheckMatchesSpecSpec) own started (by kernel_rfl) Tryd.func3
    (witness_row_at (enc := enc) (C := Tryd.checked) false (World.laidAll Tryd.prog os Rows.numberCheckMatchesSpecRow.laid) wit rfl (by kernel_rfl) (by kernel_rfl) (by kernel_rfl)
      (OpenSpec.preRow_of_cond 8 hx (by kernel_rfl) (fun k hk => by cases hk) (by kernel_rfl) (laid_met os))) ?_
  intro W base args ds gs before hval hW _ _ _ hL _ _
  exact contract hwalk H enc W base args ds gs before hval hW

theorem said (hwalk : Walk) : Rows.NumberCheckMatchesSpecSaid :=
  OpenClaim.holds_of_cond 3 Tryd.f3 rfl rfl rfl rfl rfl rfl rfl ⟨rfl, rfl, rfl, rfl, rfl⟩ rfl rfl rfl rfl rfl (by kernel_rfl) Tryd.func3 (by kernel_rfl)
    (of_decide_eq_true (by kernel_rfl)) (by unfold Func.isWrapper; first | (rw [if_pos (by decide +kernel)]; kernel_rfl) | (rw [if_neg (by decide +kernel)]; exact ⟨rfl, rfl⟩))
    (fun os started H enc _ F => by rw [OpenClaim.pre_eq_preRow]; exact lifted hwalk os started H enc F)

theorem plain (f : FuncId) (fn : Func) (hf : Tryd.pinned.checked.prog.funcNamed "fetterlock/fetterlocklaw1.NumberCheckMatchesSpec" = some f) (hfn : Tryd.pinned.checked.prog.funcs[f]? = some fn) :
    false = Tryd.pinned.checked.prog.looks [] ∧ ∀ (j : Nat) t, fn.params[j]? = some t → Tryd.pinned.checked.prog.wantsStandIn t = false := by
  obtain rfl : f = 3 := Option.some.inj ((show Tryd.prog.funcNamed "fetterlock/fetterlocklaw1.NumberCheckMatchesSpec" = some 3 by kernel_rfl).symm.trans hf) |>.symm
  obtain rfl : fn = Tryd.f3 := (Option.some.inj (Tryd.func3.symm.trans hfn)).symm
  refine ⟨by kernel_rfl, fun j t ht => ?_⟩
  rw [Tryd.params3] at ht
  have hm : t ∈ [24] := by simpa using Array.mem_of_getElem? ht
  have hall : ([24].all fun u => !Tryd.prog.wantsStandIn u) = true := by kernel_rfl
  exact (show Tryd.prog.wantsStandIn t = false by simpa using List.all_eq_true.1 hall t hm)

theorem card (hwalk : Walk) : Rows.NumberCheckMatchesSpecCardSaid :=
  Claim7.holds_tied_plain_at .later [] _ _ _ _ (said hwalk) (fun _ h => by cases h) (by kernel_rfl) (fun _ h => by cases h) numberCheckMatchesSpec_row_tie rfl ⟨rfl, rfl⟩ (by kernel_rfl) rfl plain (by kernel_rfl)
#print axioms card
end Go.Proofs.YtcbfenfjemgelaaDoor.LawCheck

/- NumberParseMatchesSpec: its card, out of its walk. NumberParseMatchesSpec: for all texts, Parse returns the specified number or error. -/
import Derived.Test.YtdhgbnnopekfjaaDoorCards
import Derived.Test.YtdhgbnnopekfjaaDoorTie
import Derived.Test.YtdhgbnnopekfjaaDoorJo14
import Derived.Test.YtdhgbnnopekfjaaDoorJo19
import Derived.Test.YtdhgbnnopekfjaaDoorJo32
import Derived.Test.YtdhgbnnopekfjaaDoorJo35
set_option linter.unusedVariables false
set_option linter.unusedSimpArgs false
namespace Go.Proofs.YtdhgbnnopekfjaaDoor.LawParse
open Go.ChangeShapes Go.WideShapes Go.ChangeAt Go.RowKit NumB
set_option linter.unusedVariables false
set_option linter.unusedSimpArgs false

/-- What the walk says. -/
def Walk : Prop := ∀ (s0 : ByteArray) (w : World), s0.size ≤ maxLen →
  Calls Tryd.prog 3 #[.string s0] w fun e w' => e = .returned (.bool true) ∧ Below w.heap.size w w'

set_option maxRecDepth 100000 in
theorem contract (hwalk : Walk) (H : Type) (enc : TypeId × Value → H) (W : World) (base : Nat) (args : Array Value) (ds gs : List (DataW H)) (before : List MemPlace)
    (hval : ∀ (j : Nat) t v, Tryd.f3.params[j]? = some t → args[j]? = some v → Value.okWide Tryd.prog W .any base t v)
    (hW : DataW.Whole enc Tryd.prog Tryd.f3.params.toList Rows.numberParseMatchesSpecSpec.vars false W args.toList ds gs before) :
    Calls Tryd.prog 3 args W fun e W' => ∃ v, e = .returned v ∧ Rows.numberParseMatchesSpecSpec.post enc Tryd.prog Tryd.f3 false true false false W args v W' := by
  have hW' := hW
  obtain ⟨p, q, hA0, hV, rfl, hfz, hnd⟩ := hW
  have hA : DataW.TrodAll enc Tryd.prog W 0 (fun _ => true) true Tryd.f3.params.toList args.toList ds p := hA0
  have hA1 := hA
  clear hA0
  rw [Tryd.params3] at hA hval
  obtain ⟨v0, vs0, d0, ds0, p0, q0, hargs, rfl, rfl, h0, r0⟩ := trodAll_cons hA
  obtain ⟨rfl, rfl, rfl⟩ := trodAll_nil r0
  obtain rfl : args = #[v0] := by cases args; simp_all
  obtain ⟨rfl, rfl⟩ := trodVars_none hV
  obtain ⟨s0, rfl, rfl, rfl, hs0⟩ := ChangeMaps.open_string Tryd.underlying9 (hval 0 9 v0 rfl rfl) h0
  simp only [List.append_nil] at hW' hA1
  refine (hwalk s0 W hs0).mono fun e W' ⟨he, hb⟩ => ?_
  subst he
  refine ⟨_, rfl, post_law rfl hW' hA1 ?_ rfl rfl hb⟩
  rw [Tryd.params3]
  intro t ht
  have hm : t ∈ [9] := by simpa using ht
  have hall : ([9].all fun u => Tryd.prog.readableRec u && decide (u < Tryd.prog.types.size)) = true := by kernel_rfl
  have := List.all_eq_true.1 hall t hm
  simp only [Bool.and_eq_true, decide_eq_true_eq] at this
  exact this

def wit : Array Value := #[.string ⟨#[]⟩]
set_option maxRecDepth 100000 in
theorem laid_met (os : Os) : laidMet Tryd.prog Rows.numberParseMatchesSpecRow.laid ((World.laidAll Tryd.prog os Rows.numberParseMatchesSpecRow.laid).forCall (fun _ _ => 0) ⟨#[], wit, []⟩).memory :=
  laidMet_laidAll wit (by kernel_rfl) (by kernel_rfl)
set_option maxRecDepth 100000 in
theorem reads (os : Os) {H : Type} (enc : TypeId × Value → H) : ∃ ds places, DataW.whole enc Tryd.prog ((World.laidAll Tryd.prog os Rows.numberParseMatchesSpecRow.laid).forCall (fun _ _ => 0) ⟨#[], wit, []⟩).memory Tryd.f3.params.toList Rows.numberParseMatchesSpecSpec.vars false wit.toList 8 = some (ds, [], places) :=
  ⟨[.lit (.string [])], [], by kernel_rfl⟩

set_option maxRecDepth 100000 in
theorem lifted (hwalk : Walk) (os : Os) (started : os.Started) (H : Type) (enc : TypeId × Value → H) (F : Stop.Interp) :
    ReturnsInHanded {} Tryd.checked os 3 .any ((OpenSpec.ofChange Rows.numberParseMatchesSpecSpec).preRow enc Tryd.prog Tryd.f3 Rows.numberParseMatchesSpecRow.domain false Rows.numberParseMatchesSpecRow.laid) (((OpenSpec.ofChange Rows.numberParseMatchesSpecSpec).at F).post enc Tryd.prog Tryd.f3 false true false false) := by
  obtain ⟨ds, places, hx⟩ := reads os enc
  refine returnsInHanded_of_row (C := Tryd.checked) (s := OpenSpec.ofChange Rows.numberParseMatchesSpecSpec) own started (by kernel_rfl) Tryd.func3
    (witness_row_at (enc := enc) (C := Tryd.checked) false (World.laidAll Tryd.prog os Rows.numberParseMatchesSpecRow.laid) wit rfl (by kernel_rfl) (by kernel_rfl) (by kernel_rfl)
      (OpenSpec.preRow_of_cond 8 hx (by kernel_rfl) (fun k hk => by cases hk) (by kernel_rfl) (laid_met os))) ?_
  intro W base args ds gs before hval hW _ _ _ hL _ _
  exact contract hwalk H enc W base args ds gs before hval hW

set_option maxRecDepth 100000 in
theorem said (hwalk : Walk) : Rows.NumberParseMatchesSpecSaid :=
  OpenClaim.holds_of_cond 3 Tryd.f3 rfl rfl rfl rfl rfl rfl rfl ⟨rfl, rfl, rfl, rfl, rfl⟩ rfl rfl rfl rfl rfl (by kernel_rfl) Tryd.func3 (by kernel_rfl)
    (of_decide_eq_true (by kernel_rfl)) (by unfold Func.isWrapper; first | (rw [if_pos (by decide +kernel)]; kernel_rfl) | (rw [if_neg (by decide +kernel)]; exact ⟨rfl, rfl⟩))
    (fun os started H enc _ F => by rw [OpenClaim.pre_eq_preRow]; exact lifted hwalk os started H enc F)

set_option maxRecDepth 100000 in
theorem plain (f : FuncId) (fn : Func) (hf : Tryd.pinned.checked.prog.funcNamed "fetterlock/fetterlocklaw1.NumberParseMatchesSpec" = some f) (hfn : Tryd.pinned.checked.prog.funcs[f]? = some fn) :
    false = Tryd.pinned.checked.prog.looks [] ∧ ∀ (j : Nat) t, fn.params[j]? = some t → Tryd.pinned.checked.prog.wantsStandIn t = false := by
  obtain rfl : f = 3 := Option.some.inj ((show Tryd.prog.funcNamed "fetterlock/fetterlocklaw1.NumberParseMatchesSpec" = some 3 by kernel_rfl).symm.trans hf) |>.symm
  obtain rfl : fn = Tryd.f3 := (Option.some.inj (Tryd.func3.symm.trans hfn)).symm
  refine ⟨by kernel_rfl, fun j t ht => ?_⟩
  rw [Tryd.params3] at ht
  have hm : t ∈ [9] := by simpa using Array.mem_of_getElem? ht
  have hall : ([9].all fun u => !Tryd.prog.wantsStandIn u) = true := by kernel_rfl
  exact (show Tryd.prog.wantsStandIn t = false by simpa using List.all_eq_true.1 hall t hm)

set_option maxRecDepth 100000 in
theorem card (hwalk : Walk) : Rows.NumberParseMatchesSpecCardSaid :=
  Claim7.holds_tied_plain_at .later [] _ _ _ _ (said hwalk) (fun _ h => by cases h) (by kernel_rfl) (fun _ h => by cases h) numberParseMatchesSpec_row_tie rfl ⟨rfl, rfl⟩ (by kernel_rfl) rfl plain (by kernel_rfl)
end Go.Proofs.YtdhgbnnopekfjaaDoor.LawParse
namespace Go.Proofs.YtdhgbnnopekfjaaDoor
open Go.RowKit NumB
set_option linter.unusedVariables false
set_option linter.unusedSimpArgs false

set_option maxRecDepth 1000000 in
set_option maxHeartbeats 12800000 in
theorem law_parse : LawParse.Walk := by
  intro s0 w hs
  obtain ⟨p, HF, HT⟩ : ∃ p : LN × Int, Hid (∀ W : World, Calls Tryd.prog 8 #[.string s0] W (SPost W p)) ∧ Hid (∀ W : World, Calls Tryd.prog 9 #[.string s0] W (SPost W p)) :=
    ⟨parseS s0.data.toList, fun W => (parse_any s0 W hs).mono fun _ _ h => OpPost.toS h, fun W => rparse_S s0 W hs⟩
  obtain ⟨g, z⟩ := p
  have hee : (z == z) = true := by simp
  have HSM : Hid (∀ (W : World) (u v : Value) (a : LN), GV W u a → GV W v a → Calls Tryd.prog 10 #[u, v] W fun e w' => e = .returned (.bool true) ∧ Below W.heap.size W w') := fun W u v a h1 h2 => by
    have := same_S a a u v W h1 h2
    rw [sameB_true rfl] at this
    exact this
  have HBE := Lib.hid (Below.refl w.heap.size w)
  go_enter Tryd.func3, Tryd.ntmps3
  go_wp2_with fail
  refine (HF.out _).mono ?_
  rintro e w1 ⟨v, rfl, hg, hb⟩
  have HBE : Hid (Below w.heap.size w w1) := HBE.out.trans ((hb).mono HBE.out.size)
  clear hb
  obtain ⟨Ax, nx, cx, Bx, mx, dx, rfl, hq1, hq2⟩ := hg.form
  have Gx := Lib.hid hg
  clear hq1 hq2 hg
  have KXN := Lib.hid (Blk.new w1 24 #[.bool g.neg, .slice Ax nx cx, .slice Bx mx dx])
  have Gx := Lib.hid (Gx.out.to (below_one w1 (.cells #[.bool g.neg, .slice Ax nx cx, .slice Bx mx dx] 24)))
  have HBE : Hid (Below w.heap.size w (w1.alloc (.cells #[.bool g.neg, .slice Ax nx cx, .slice Bx mx dx] 24))) := HBE.out.trans (((below_one w1 (.cells #[.bool g.neg, .slice Ax nx cx, .slice Bx mx dx] 24))).mono HBE.out.size)
  have KX := KXN
  clear KXN
  go_wp2_with fail
  refine (HT.out _).mono ?_
  rintro e w2 ⟨v, rfl, hg, hb⟩
  have KX := Lib.hid (KX.out.to hb)
  have Gx := Lib.hid (Gx.out.to hb)
  have HBE : Hid (Below w.heap.size w w2) := HBE.out.trans ((hb).mono HBE.out.size)
  clear hb
  obtain ⟨Ay, ny, cy, By, my, dy, rfl, hq1, hq2⟩ := hg.form
  have Gy := Lib.hid hg
  clear hq1 hq2 hg
  have kx0 := KX.out.cell 0
  have kx1 := KX.out.cell 1
  have kx2 := KX.out.cell 2
  simp only [List.getElem?_toArray, List.getElem?_cons_zero, List.getElem?_cons_succ] at kx0 kx1 kx2
  have ltKXKY := KX.out.lt
  have KYN := Lib.hid (Blk.new w2 24 #[.bool g.neg, .slice Ay ny cy, .slice By my dy])
  have KX := Lib.hid (KX.out.to (below_one w2 (.cells #[.bool g.neg, .slice Ay ny cy, .slice By my dy] 24)))
  have Gx := Lib.hid (Gx.out.to (below_one w2 (.cells #[.bool g.neg, .slice Ay ny cy, .slice By my dy] 24)))
  have Gy := Lib.hid (Gy.out.to (below_one w2 (.cells #[.bool g.neg, .slice Ay ny cy, .slice By my dy] 24)))
  have HBE : Hid (Below w.heap.size w (w2.alloc (.cells #[.bool g.neg, .slice Ay ny cy, .slice By my dy] 24))) := HBE.out.trans (((below_one w2 (.cells #[.bool g.neg, .slice Ay ny cy, .slice By my dy] 24))).mono HBE.out.size)
  have KY := KYN
  clear KYN
  have neKXKY : (w1.heap.size = w2.heap.size) = False := eq_false (by omega)
  have neKYKX : (w2.heap.size = w1.heap.size) = False := eq_false (by omega)
  go_wp2_with fail
  refine (HSM.out _ _ _ _ (by exact Gx.out) (by exact Gy.out)).mono ?_
  rintro e w3 ⟨rfl, hb⟩
  clear kx0 kx1 kx2
  have KX := Lib.hid (KX.out.to hb)
  have KY := Lib.hid (KY.out.to hb)
  have Gx := Lib.hid (Gx.out.to hb)
  have Gy := Lib.hid (Gy.out.to hb)
  have HBE : Hid (Below w.heap.size w w3) := HBE.out.trans ((hb).mono HBE.out.size)
  clear hb
  go_wp2_with fail
  refine (counted_any _).mono ?_
  rintro e wz ⟨rfl, hb⟩
  go_wp2_with fail
  go_ret
  exact ⟨rfl, HBE.out.trans (hb.mono HBE.out.size)⟩

theorem numberParse_holds : Rows.NumberParseMatchesSpecCardSaid := LawParse.card law_parse
#print axioms numberParse_holds
end Go.Proofs.YtdhgbnnopekfjaaDoor

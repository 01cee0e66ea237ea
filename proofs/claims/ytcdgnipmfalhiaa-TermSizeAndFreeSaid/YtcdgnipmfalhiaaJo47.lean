/-  -/
import Derived.Test.YtcdgnipmfalhiaaJo12
import Derived.Test.YtcdgnipmfalhiaaJo20
set_option linter.unusedVariables false
set_option linter.unusedSimpArgs false
/- TermSizeAndFree: its card, out of its walk. -/
namespace Go.Proofs.Ytcdgnipmfalhiaa.LawTmSF
open Go.ChangeShapes Go.WideShapes Go.ChangeAt Go.RowKit NumB
set_option linter.unusedVariables false
set_option linter.unusedSimpArgs false

/-- What the walk says. -/
def Walk : Prop := ∀ (t0 : Tm) (c0 : List Value) (w : World), TC w t0 c0 →
  Calls Try.prog 5 #[.agg c0.toArray] w fun e w' => e = .returned (.bool true) ∧ Below w.heap.size w w'

set_option maxRecDepth 100000 in
theorem contract (hwalk : Walk) (H : Type) (enc : TypeId × Value → H) (W : World) (base : Nat) (args : Array Value) (ds gs : List (DataW H)) (before : List MemPlace)
    (hval : ∀ (j : Nat) t v, Try.f5.params[j]? = some t → args[j]? = some v → Value.okWide Try.prog W .any base t v)
    (hW : DataW.Whole enc Try.prog Try.f5.params.toList Rows.termSizeAndFreeSpec.vars false W args.toList ds gs before) :
    Calls Try.prog 5 args W fun e W' => ∃ v, e = .returned v ∧ Rows.termSizeAndFreeSpec.post enc Try.prog Try.f5 false true false false W args v W' := by
  have hW' := hW
  obtain ⟨p, q, hA0, hV, rfl, hfz, hnd⟩ := hW
  have hA : DataW.TrodAll enc Try.prog W 0 (fun _ => true) true Try.f5.params.toList args.toList ds p := hA0
  have hA1 := hA
  clear hA0
  rw [Try.params5] at hA hval
  obtain ⟨v0, vs0, d0, ds0, p0, q0, hargs, rfl, rfl, h0, r0⟩ := trodAll_cons hA
  obtain ⟨rfl, rfl, rfl⟩ := trodAll_nil r0
  obtain rfl : args = #[v0] := by cases args; simp_all
  obtain ⟨rfl, rfl⟩ := trodVars_none hV
  obtain ⟨t0, c0, rfl, hx0⟩ := open_term (hval 0 27 v0 rfl rfl) h0
  simp only [List.append_nil] at hW' hA1
  refine (hwalk t0 c0 W hx0).mono fun e W' ⟨he, hb⟩ => ?_
  subst he
  refine ⟨_, rfl, post_law rfl hW' hA1 ?_ rfl rfl hb⟩
  rw [Try.params5]
  intro t ht
  have hm : t ∈ [27] := by simpa using ht
  have hall : ([27].all fun u => Try.prog.readableRec u && decide (u < Try.prog.types.size)) = true := by kernel_rfl
  have := List.all_eq_true.1 hall t hm
  simp only [Bool.and_eq_true, decide_eq_true_eq] at this
  exact this

def wit : Array Value := #[.agg #[.int .i64 0, .int .i64 0, .string ⟨#[]⟩, .bool false, .slice none 0 0, .slice none 0 0, .slice none 0 0]]
set_option maxRecDepth 100000 in
theorem laid_met (os : Os) : laidMet Try.prog Rows.termSizeAndFreeRow.laid ((World.laidAll Try.prog os Rows.termSizeAndFreeRow.laid).forCall (fun _ _ => 0) ⟨#[], wit, []⟩).memory :=
  laidMet_laidAll wit (by kernel_rfl) (by kernel_rfl)
set_option maxRecDepth 100000 in
theorem reads (os : Os) {H : Type} (enc : TypeId × Value → H) : ∃ ds places, DataW.whole enc Try.prog ((World.laidAll Try.prog os Rows.termSizeAndFreeRow.laid).forCall (fun _ _ => 0) ⟨#[], wit, []⟩).memory Try.f5.params.toList Rows.termSizeAndFreeSpec.vars false wit.toList 8 = some (ds, [], places) :=
  ⟨[.agg [.lit (.int .i64 0), .lit (.int .i64 0), .lit (.string []), .agg [.lit (.bool false), .nil, .nil], .nil]], [], by kernel_rfl⟩

set_option maxRecDepth 100000 in
theorem lifted (hwalk : Walk) (os : Os) (started : os.Started) (H : Type) (enc : TypeId × Value → H) (F : Stop.Interp) :
    ReturnsInHanded {} Try.checked os 5 .any ((OpenSpec.ofChange Rows.termSizeAndFreeSpec).preRow enc Try.prog Try.f5 Rows.termSizeAndFreeRow.domain false Rows.termSizeAndFreeRow.laid) (((OpenSpec.ofChange Rows.termSizeAndFreeSpec).at F).post enc Try.prog Try.f5 false true false false) := by
  obtain ⟨ds, places, hx⟩ := reads os enc
  refine returnsInHanded_of_row (C := Try.checked) (s := OpenSpec.ofChange Rows.termSizeAndFreeSpec) own started (by kernel_rfl) Try.func5
    (witness_row_at (enc := enc) (C := Try.checked) false (World.laidAll Try.prog os Rows.termSizeAndFreeRow.laid) wit rfl (by kernel_rfl) (by kernel_rfl) (by kernel_rfl)
      (OpenSpec.preRow_of_cond 8 hx (by kernel_rfl) (fun k hk => by cases hk) (by kernel_rfl) (laid_met os))) ?_
  intro W base args ds gs before hval hW _ _ _ hL _ _
  exact contract hwalk H enc W base args ds gs before hval hW

set_option maxRecDepth 100000 in
theorem said (hwalk : Walk) : Rows.TermSizeAndFreeSaid :=
  OpenClaim.holds_of_cond 5 Try.f5 rfl rfl rfl rfl rfl rfl rfl ⟨rfl, rfl, rfl, rfl, rfl⟩ rfl rfl rfl rfl rfl (by kernel_rfl) Try.func5 (by kernel_rfl)
    (of_decide_eq_true (by kernel_rfl)) (by unfold Func.isWrapper; first | (rw [if_pos (by decide +kernel)]; kernel_rfl) | (rw [if_neg (by decide +kernel)]; exact ⟨rfl, rfl⟩))
    (fun os started H enc _ F => by rw [OpenClaim.pre_eq_preRow]; exact lifted hwalk os started H enc F)

end Go.Proofs.Ytcdgnipmfalhiaa.LawTmSF
/- term.Size: the number of nodes. -/
namespace Go.Proofs.Ytcdgnipmfalhiaa
open Go.RowKit NumB
set_option linter.unusedVariables false
set_option linter.unusedSimpArgs false

set_option maxRecDepth 100000 in
set_option maxHeartbeats 3200000 in
theorem sizeP_any {w : World} {t : Tm} {cs : List Value} (h : TC w t cs) : t.count ≤ 1000000 → ∀ (W : World), Below w.heap.size w W →
    Calls Try.prog 12 #[.agg cs.toArray] W fun e W' => e = .returned (.int .i64 (t.count : Int)) ∧ Below W.heap.size W W' := by
  induction h with
  | mk k v s n args A B Ar cap cs hk hv hs hA hB hn hcap hm hr ha ih =>
    intro hcn W hW
    have HR := Lib.hid hr
    have HA := Lib.hid ha
    have IH := Lib.hid ih
    have HCT : Hid ((Tm.mk k v s n args).count = 1 + countL args) := rfl
    have HCN := Lib.hid hcn
    unfold maxLen at hm
    have HWB := Lib.hid hW
    generalize (Tm.mk k v s n args).count = ct at *
    generalize n.neg = ng at *
    obtain ⟨A1, q1, rfl, _⟩ := hA
    obtain ⟨B1, q2, rfl, _⟩ := hB
    generalize n.num.length = m1 at *
    generalize n.den.length = m2 at *
    clear hr ha ih hn hk hv hs hW hcn
    obtain ⟨l, hl⟩ : ∃ l, args.length = l := ⟨_, rfl⟩
    rw [hl] at hcap ⊢
    have HL := Lib.hid hl
    clear hl
    have HBA := Lib.hid (below_one W (.cells #[.int .i64 k, .int .i64 v, .string s, .bool ng, .slice A1 m1 q1, .slice B1 m2 q2, .slice Ar l cap] 27))
    go_enter Try.func12, Try.ntmps12
    go_wp2_with fail
    go_loopg [3, 9] l (fun gk s3 s9 wr => ∃ j c : Nat, gk + j = l ∧ s9 = .int .i64 (j : Int) ∧ s3 = .int .i64 (c : Int) ∧ c ≤ 1000000 ∧ Hid (c = 1 + countL (args.take j)) ∧ Hid (Below W.heap.size W wr))
    case atStart => exact ⟨0, 1, by omega, rfl, rfl, by omega, by unfold Hid; rw [List.take_zero]; simp only [countL], HBA.out⟩
    case round =>
      obtain ⟨j, c, hgj, rfl, rfl, hcm, HC, HB⟩ := hrel
      by_cases hj : j < l
      · have hja : j < args.length := by rw [HL.out]; exact hj
        have HBW := HWB.out.trans (HB.out.mono HWB.out.size)
        obtain ⟨b, o, k', v', s', ng', A2, n2, c2, B2, m3, d2, Xr, xl, xc, hAr, hcs, hlt, e0, e1, e2, e3, e4, e5, e6⟩ := arg_cells HR.out HA.out HBW hja
        subst hAr
        have h1 := countL_take args hja
        have h2 := HC.out
        have h3 := HCT.out
        have h4 := HCN.out
        have h5 := countL_le args (j + 1)
        have HCALL : Hid (∀ W', Below wr.heap.size wr W' → Calls Try.prog 12 #[.agg #[.int .i64 k', .int .i64 v', .string s', .bool ng', .slice A2 n2 c2, .slice B2 m3 d2, .slice Xr xl xc]] W' fun e w' => e = .returned (.int .i64 ((args[j]).count : Int)) ∧ Below W'.heap.size W' w') := fun W' hb => by
          have := IH.out j hja (by omega) W' (HBW.trans (hb.mono HBW.size))
          rw [hcs] at this
          exact this
        have HZ : Hid (c + (args[j]).count = 1 + countL (args.take (j + 1))) := by show _ = _; rw [h1]; omega
        have hzb : c + (args[j]).count ≤ 1000000 := by omega
        clear h1 h2 h3 h4 h5
        generalize (args[j]).count = cj at *
        go_wp2_with fail
        refine (HCALL.out _ (by exact below_one _ _)).mono ?_
        rintro e w3 ⟨rfl, hb⟩
        have HB3 := Lib.hid (HB.out.trans (((below_one wr (.cells #[.int .i64 k', .int .i64 v', .string s', .bool ng', .slice A2 n2 c2, .slice B2 m3 d2, .slice Xr xl xc] 27)).trans (hb.mono (below_one wr _).size)).mono HB.out.size))
        clear hb e0 e1 e2 e3 e4 e5 e6 HCALL
        go_wp2_with fail
        go_roundg (gk - 1)
        case measure => omega
        case rel => exact ⟨j + 1, c + cj, by omega, by go_num, by go_num, hzb, HZ, HB3.out⟩
      · obtain rfl : j = l := by omega
        have h2 := HC.out
        rw [List.take_of_length_le (by rw [HL.out]; exact Nat.le_refl _), ← HCT.out] at h2
        subst h2
        go_wp2_with fail
        go_ret
        exact ⟨rfl, HB.out⟩
end Go.Proofs.Ytcdgnipmfalhiaa

/- A number's text is read back as the number: plain facts. NumberFormatRoundTrip: its card, out of its walk. -/
import Derived.Test.YtfiedhopgmgnoaaDoorCards
import Derived.Test.YtfiedhopgmgnoaaDoorTie
import Derived.Test.YtfiedhopgmgnoaaDoorJo21
import Derived.Test.YtfiedhopgmgnoaaDoorJo24
import Derived.Test.YtfiedhopgmgnoaaDoorJo27
import Derived.Test.YtfiedhopgmgnoaaDoorJo39
set_option linter.unusedVariables false
set_option linter.unusedSimpArgs false
namespace Go.Proofs.YtfiedhopgmgnoaaDoor
open Go.RowKit NumB
set_option linter.unusedVariables false
set_option linter.unusedSimpArgs false

theorem dig_byte {d : Nat} (h : d < 10) : (48 + d).toUInt8.toNat = 48 + d := by
  show (48 + d) % 256 = 48 + d
  omega
theorem isDig_byte {d : Nat} (h : d < 10) : isDig (48 + d).toUInt8 = true := decide_eq_true (by rw [dig_byte h]; omega)
theorem dval_rev : ∀ (l : List Nat), Ok 10 l → dval (l.map fun d => (48 + d).toUInt8).reverse = val 10 l
  | [], _ => rfl
  | d :: l, h => by
    rw [List.map_cons, List.reverse_cons, dval_append, dval_rev l h.tail, val_cons]
    have : dval [(48 + d).toUInt8] = d := by
      show 0 * 10 + ((48 + d).toUInt8.toNat - 48) = d
      rw [dig_byte h.head]; omega
    rw [this]
    simp
    omega
theorem dval_dec (x : Nat) : dval (dec x) = x := by
  unfold dec
  split
  · rename_i h; rw [h]; rfl
  · unfold decL
    rw [dval_rev _ (ok_digs (by decide) x), val_digs (by decide)]
theorem allDig_dec (x : Nat) : allDig (dec x) = true := by
  unfold dec
  split
  · rfl
  · unfold decL allDig
    rw [List.all_eq_true]
    intro c hc
    obtain ⟨d, hd, rfl⟩ := List.mem_map.1 (List.mem_reverse.1 hc)
    exact isDig_byte (ok_digs (by decide) x d hd)
theorem dec_ne (x : Nat) : dec x ≠ [] := by
  unfold dec
  split
  · simp
  · rename_i h; exact decL_ne h
theorem digitsB_dec (x : Nat) : digitsB (dec x) = true := by
  unfold digitsB
  rw [allDig_dec, Bool.and_true]
  cases h : dec x with
  | nil => exact absurd h (dec_ne x)
  | cons _ _ => rfl

theorem big_pow : W32 ^ 128 ≤ 10 ^ 1234 := by decide +kernel
theorem dec_len2 {x : Nat} (h : (digs W32 x).length ≤ 128) : (dec x).length ≤ 1234 := by
  have h1 : (digs 10 x).length ≤ 1234 := digs_len_le (by decide) (Nat.lt_of_lt_of_le (digs_lt W32_gt) (Nat.le_trans (Nat.pow_le_pow_right (by decide) h) big_pow))
  unfold dec
  split
  · simp
  · unfold decL; rw [List.length_reverse, List.length_map]; exact h1

theorem not_dig_in {l : List UInt8} (h : allDig l = true) {c : UInt8} (hc : isDig c = false) : c ∉ l := fun hm => by
  have := List.all_eq_true.1 h c hm
  rw [hc] at this; cases this
theorem indexByte_none : ∀ {l : List UInt8} {c : UInt8}, c ∉ l → Lib.indexByte l c = -1
  | [], _, _ => rfl
  | b :: l, c, h => by
    have h1 : (b == c) = false := beq_eq_false_iff_ne.2 fun e => h (by simp [e])
    have h2 := indexByte_none (l := l) (c := c) fun e => h (by simp [e])
    unfold Lib.indexByte
    rw [h1, h2]; rfl
theorem indexByte_at : ∀ {l : List UInt8} {c : UInt8} {r : List UInt8}, c ∉ l → Lib.indexByte (l ++ c :: r) c = l.length
  | [], c, r, _ => by unfold Lib.indexByte; simp
  | b :: l, c, r, h => by
    have h1 : (b == c) = false := beq_eq_false_iff_ne.2 fun e => h (by simp [e])
    have h2 := indexByte_at (l := l) (c := c) (r := r) fun e => h (by simp [e])
    show Lib.indexByte (b :: (l ++ c :: r)) c = _
    unfold Lib.indexByte
    rw [h1, h2]
    have h3 : (((l.length : Nat) : Int) == -1) = false := beq_eq_false_iff_ne.2 (by omega)
    rw [h3]
    simp
theorem cutB_none {l : List UInt8} (h : allDig l = true) : cutB l 114 = (l, [], false) := by
  unfold cutB
  rw [indexByte_none (not_dig_in h (by decide)), if_neg (by omega)]
theorem cutB_at {l r : List UInt8} (h : allDig l = true) : cutB (l ++ 114 :: r) 114 = (l, r, true) := by
  unfold cutB
  rw [indexByte_at (not_dig_in h (by decide)), if_pos (by omega), Int.toNat_natCast]
  simp

theorem parse_fmt {neg : Bool} {x y : Nat} (hx : (digs W32 x).length ≤ 128) (hy : (digs W32 y).length ≤ 128) (hy0 : 0 < y) :
    parseErr (fmtL neg x y) = 0 ∧ pNeg (fmtL neg x y) = neg ∧ dval (pCut (fmtL neg x y)).1 = x ∧ pDen (fmtL neg x y) = y := by
  have l1 := dec_len2 hx
  have l2 := dec_len2 hy
  obtain ⟨c, cs, hcs⟩ : ∃ c cs, dec x = c :: cs := by
    cases h : dec x with
    | nil => exact absurd h (dec_ne x)
    | cons c cs => exact ⟨c, cs, rfl⟩
  have hc : isDig c = true := List.all_eq_true.1 (allDig_dec x) c (by rw [hcs]; simp)
  have hc45 : c ≠ 45 := by rintro rfl; exact absurd hc (by decide)
  have hn : pNeg (fmtL neg x y) = neg ∧ Lib.trimPrefix (fmtL neg x y) [45] = dec x ++ (if y = 1 then [] else 114 :: dec y) := by
    unfold pNeg fmtL
    rw [hcs]
    cases neg with
    | true => constructor <;> simp [Lib.hasPrefix, Lib.trimPrefix]
    | false =>
      have hp : ∀ r : List UInt8, [45].isPrefixOf (c :: r) = false := fun r => by
        have h1 : ((45 : UInt8) == c) = false := beq_eq_false_iff_ne.2 (Ne.symm hc45)
        show ((45 : UInt8) == c && ([] : List UInt8).isPrefixOf r) = false
        rw [h1]; rfl
      constructor <;> simp [Lib.hasPrefix, Lib.trimPrefix, hp]
  have hlen : ¬ 2500 < (fmtL neg x y).length := by
    unfold fmtL
    rw [List.length_append, List.length_append]
    have h1 : (if neg = true then [45] else ([] : List UInt8)).length ≤ 1 := by split <;> simp
    have h2 : (if y = 1 then ([] : List UInt8) else 114 :: dec y).length ≤ 1235 := by split <;> simp <;> omega
    omega
  have hcut : pCut (fmtL neg x y) = if y = 1 then (dec x, [], false) else (dec x, dec y, true) := by
    unfold pCut
    rw [hn.2]
    by_cases h : y = 1
    · rw [if_pos h, if_pos h, List.append_nil]; exact cutB_none (allDig_dec x)
    · rw [if_neg h, if_neg h]; exact cutB_at (allDig_dec x)
  have hden : pDen (fmtL neg x y) = y := by
    unfold pDen
    rw [hcut]
    by_cases h : y = 1
    · rw [if_pos h]; simp [h]
    · rw [if_neg h]; simp [dval_dec]
  refine ⟨?_, hn.1, ?_, hden⟩
  · unfold parseErr
    rw [if_neg hlen, hden, if_neg, if_neg (by omega)]
    rw [hcut]
    by_cases h : y = 1
    · rw [if_pos h]; simp [digitsB_dec]
    · rw [if_neg h]; simp [digitsB_dec]
  · rw [hcut]
    by_cases h : y = 1
    · rw [if_pos h]; exact dval_dec x
    · rw [if_neg h]; exact dval_dec x
end Go.Proofs.YtfiedhopgmgnoaaDoor
namespace Go.Proofs.YtfiedhopgmgnoaaDoor.LawFormat
open Go.ChangeShapes Go.WideShapes Go.ChangeAt Go.RowKit NumB
set_option linter.unusedVariables false
set_option linter.unusedSimpArgs false

/-- What the walk says. -/
def Walk : Prop := ∀ (a0 : LN) (v0 : Value) (w : World), GV w v0 a0 →
  Calls Tryd.prog 3 #[v0] w fun e w' => e = .returned (.bool true) ∧ Below w.heap.size w w'

set_option maxRecDepth 100000 in
theorem contract (hwalk : Walk) (H : Type) (enc : TypeId × Value → H) (W : World) (base : Nat) (args : Array Value) (ds gs : List (DataW H)) (before : List MemPlace)
    (hval : ∀ (j : Nat) t v, Tryd.f3.params[j]? = some t → args[j]? = some v → Value.okWide Tryd.prog W .any base t v)
    (hW : DataW.Whole enc Tryd.prog Tryd.f3.params.toList Rows.numberFormatRoundTripSpec.vars false W args.toList ds gs before) :
    Calls Tryd.prog 3 args W fun e W' => ∃ v, e = .returned v ∧ Rows.numberFormatRoundTripSpec.post enc Tryd.prog Tryd.f3 false true false false W args v W' := by
  have hW' := hW
  obtain ⟨p, q, hA0, hV, rfl, hfz, hnd⟩ := hW
  have hA : DataW.TrodAll enc Tryd.prog W 0 (fun _ => true) true Tryd.f3.params.toList args.toList ds p := hA0
  have hA1 := hA
  clear hA0
  rw [Tryd.params3] at hA hval
  obtain ⟨v0, vs0, d0, ds0, p0, q0, hargs, rfl, rfl, h0, r0⟩ := trodAll_cons hA
  obtain ⟨rfl, rfl, rfl⟩ := trodAll_nil r0
  obtain rfl : args = #[v0] := by cases args; simp_all
  obtain ⟨rfl, rfl⟩ := trodVars_none hV
  obtain ⟨neg0, va0, vb0, xs0, ys0, rfl, hx0, hy0, ox0, oy0⟩ := open_number (hval 0 24 v0 rfl rfl) h0
  simp only [List.append_nil] at hW' hA1
  refine (hwalk ⟨neg0, xs0, ys0⟩ _ W ⟨va0, vb0, rfl, hx0, hy0, ox0, oy0⟩).mono fun e W' ⟨he, hb⟩ => ?_
  subst he
  refine ⟨_, rfl, post_law rfl hW' hA1 ?_ rfl rfl hb⟩
  rw [Tryd.params3]
  intro t ht
  have hm : t ∈ [24] := by simpa using ht
  have hall : ([24].all fun u => Tryd.prog.readableRec u && decide (u < Tryd.prog.types.size)) = true := by kernel_rfl
  have := List.all_eq_true.1 hall t hm
  simp only [Bool.and_eq_true, decide_eq_true_eq] at this
  exact this

def wit : Array Value := #[.agg #[.bool false, .slice none 0 0, .slice none 0 0]]
set_option maxRecDepth 100000 in
theorem laid_met (os : Os) : laidMet Tryd.prog Rows.numberFormatRoundTripRow.laid ((World.laidAll Tryd.prog os Rows.numberFormatRoundTripRow.laid).forCall (fun _ _ => 0) ⟨#[], wit, []⟩).memory :=
  laidMet_laidAll wit (by kernel_rfl) (by kernel_rfl)
set_option maxRecDepth 100000 in
theorem reads (os : Os) {H : Type} (enc : TypeId × Value → H) : ∃ ds places, DataW.whole enc Tryd.prog ((World.laidAll Tryd.prog os Rows.numberFormatRoundTripRow.laid).forCall (fun _ _ => 0) ⟨#[], wit, []⟩).memory Tryd.f3.params.toList Rows.numberFormatRoundTripSpec.vars false wit.toList 8 = some (ds, [], places) :=
  ⟨[.agg [.lit (.bool false), .nil, .nil]], [], by kernel_rfl⟩

set_option maxRecDepth 100000 in
theorem lifted (hwalk : Walk) (os : Os) (started : os.Started) (H : Type) (enc : TypeId × Value → H) (F : Stop.Interp) :
    ReturnsInHanded {} Tryd.checked os 3 .any ((OpenSpec.ofChange Rows.numberFormatRoundTripSpec).preRow enc Tryd.prog Tryd.f3 Rows.numberFormatRoundTripRow.domain false Rows.numberFormatRoundTripRow.laid) (((OpenSpec.ofChange Rows.numberFormatRoundTripSpec).at F).post enc Tryd.prog Tryd.f3 false true false false) := by
  obtain ⟨ds, places, hx⟩ := reads os enc
  refine returnsInHanded_of_row (C := Tryd.checked) (s := OpenSpec.ofChange Rows.numberFormatRoundTripSpec) own started (by kernel_rfl) Tryd.func3
    (witness_row_at (enc := enc) (C := Tryd.checked) false (World.laidAll Tryd.prog os Rows.numberFormatRoundTripRow.laid) wit rfl (by kernel_rfl) (by kernel_rfl) (by kernel_rfl)
      (OpenSpec.preRow_of_cond 8 hx (by kernel_rfl) (fun k hk => by cases hk) (by kernel_rfl) (laid_met os))) ?_
  intro W base args ds gs before hval hW _ _ _ hL _ _
  exact contract hwalk H enc W base args ds gs before hval hW

set_option maxRecDepth 100000 in
theorem said (hwalk : Walk) : Rows.NumberFormatRoundTripSaid :=
  OpenClaim.holds_of_cond 3 Tryd.f3 rfl rfl rfl rfl rfl rfl rfl ⟨rfl, rfl, rfl, rfl, rfl⟩ rfl rfl rfl rfl rfl (by kernel_rfl) Tryd.func3 (by kernel_rfl)
    (of_decide_eq_true (by kernel_rfl)) (by unfold Func.isWrapper; first | (rw [if_pos (by decide +kernel)]; kernel_rfl) | (rw [if_neg (by decide +kernel)]; exact ⟨rfl, rfl⟩))
    (fun os started H enc _ F => by rw [OpenClaim.pre_eq_preRow]; exact lifted hwalk os started H enc F)

set_option maxRecDepth 100000 in
theorem plain (f : FuncId) (fn : Func) (hf : Tryd.pinned.checked.prog.funcNamed "fetterlock/fetterlocklaw1.NumberFormatRoundTrip" = some f) (hfn : Tryd.pinned.checked.prog.funcs[f]? = some fn) :
    false = Tryd.pinned.checked.prog.looks [] ∧ ∀ (j : Nat) t, fn.params[j]? = some t → Tryd.pinned.checked.prog.wantsStandIn t = false := by
  obtain rfl : f = 3 := Option.some.inj ((show Tryd.prog.funcNamed "fetterlock/fetterlocklaw1.NumberFormatRoundTrip" = some 3 by kernel_rfl).symm.trans hf) |>.symm
  obtain rfl : fn = Tryd.f3 := (Option.some.inj (Tryd.func3.symm.trans hfn)).symm
  refine ⟨by kernel_rfl, fun j t ht => ?_⟩
  rw [Tryd.params3] at ht
  have hm : t ∈ [24] := by simpa using Array.mem_of_getElem? ht
  have hall : ([24].all fun u => !Tryd.prog.wantsStandIn u) = true := by kernel_rfl
  exact (show Tryd.prog.wantsStandIn t = false by simpa using List.all_eq_true.1 hall t hm)

set_option maxRecDepth 100000 in
theorem card (hwalk : Walk) : Rows.NumberFormatRoundTripCardSaid :=
  Claim7.holds_tied_plain_at .later [] _ _ _ _ (said hwalk) (fun _ h => by cases h) (by kernel_rfl) (fun _ h => by cases h) numberFormatRoundTrip_row_tie rfl ⟨rfl, rfl⟩ (by kernel_rfl) rfl plain (by kernel_rfl)
end Go.Proofs.YtfiedhopgmgnoaaDoor.LawFormat

/- number.Sign; fetterlocklaw1.same. The frame of a law: arguments read again, the post where only new memory was made; a number that came in, opened. NumberPowerMatchesSpec: its card, out of its walk. NumberPowerMatchesSpec: for all numbers, Power returns what is specified. -/
import Derived.Test.YtdfcpkjphdepcaaGreatDoorRows
import Derived.WalkKit
import Derived.ProofKit
import Derived.OpenShut
import Derived.Lib.SmallJoins
import Derived.Deep.DeepHandedRow
import Derived.Lay
import Derived.Test.YtdfcpkjphdepcaaGreatDoorCards
import Derived.Test.YtdfcpkjphdepcaaGreatDoorTie
import Derived.Test.YtdfcpkjphdepcaaGreatDoorJo2
import Derived.Test.YtdfcpkjphdepcaaGreatDoorJo20
import Derived.Test.YtdfcpkjphdepcaaGreatDoorJo23
import Derived.Test.YtdfcpkjphdepcaaGreatDoorJo39
set_option linter.unusedVariables false
set_option linter.unusedSimpArgs false
namespace Go.Proofs.YtdfcpkjphdepcaaGreatDoor
open Go.RowKit NumB
set_option linter.unusedVariables false
set_option linter.unusedSimpArgs false

/-- The sign of a valid number. -/
def signS (a : LN) : Int := if a.num.length = 0 then 0 else if a.neg then -1 else 1

set_option maxRecDepth 100000 in
set_option maxHeartbeats 3200000 in
theorem same_S (a b : LN) (va vb : Value) (w : World) (ha : GV w va a) (hb : GV w vb b) : Calls Tryz.prog 8 #[va, vb] w fun e w' => e = .returned (.bool (sameB a b)) ∧ Below w.heap.size w w' := by
  obtain ⟨A1, A2, rfl, h1, h2, _, _⟩ := ha
  obtain ⟨A3, A4, rfl, h3, h4, _, _⟩ := hb
  have HB2 : Hid (∀ o1 o2 : Obj, Below w.heap.size w ((w.alloc o1).alloc o2)) := fun o1 o2 => (below_one w o1).alloc (by simp) o2
  have HS1 : Hid (∀ (W : World), Below w.heap.size w W → Calls Tryz.prog 36 #[A1, A3] W fun e w' => e = .returned (.bool (eqB a.num b.num)) ∧ ∃ m, w' = W.drewN m) := fun W hW => sameLimbs_any a.num b.num A1 A3 W (h1.to hW) (h3.to hW)
  have HS2 : Hid (∀ (W : World), Below w.heap.size w W → Calls Tryz.prog 36 #[A2, A4] W fun e w' => e = .returned (.bool (eqB a.den b.den)) ∧ ∃ m, w' = W.drewN m) := fun W hW => sameLimbs_any a.den b.den A2 A4 W (h2.to hW) (h4.to hW)
  obtain ⟨B1, c1, rfl, _⟩ := h1
  obtain ⟨B2, c2, rfl, _⟩ := h2
  obtain ⟨B3, c3, rfl, _⟩ := h3
  obtain ⟨B4, c4, rfl, _⟩ := h4
  have HE : Hid (sameB a b = ((a.neg == b.neg) && (eqB a.num b.num && eqB a.den b.den))) := rfl
  generalize sameB a b = r at *
  generalize eqB a.num b.num = p at *
  generalize eqB a.den b.den = q at *
  generalize a.num.length = n1 at *
  generalize a.den.length = n2 at *
  generalize b.num.length = n3 at *
  generalize b.den.length = n4 at *
  generalize a.neg = na at *
  generalize b.neg = nb at *
  by_cases hn : na = nb
  · have hn1 : (na == nb) = true := by simp [hn]
    rw [hn1] at HE
    subst hn
    cases p with
    | true =>
      go_enter Tryz.func8, Tryz.ntmps8
      go_wp2_with fail
      refine (HS1.out _ (by exact HB2.out _ _)).mono ?_
      rintro e w1 ⟨rfl, k1, rfl⟩
      go_wp2_with fail
      refine (HS2.out _ (by exact below_drewN (HB2.out _ _) _)).mono ?_
      rintro e w1 ⟨rfl, k2, rfl⟩
      go_wp2_with fail
      go_ret
      rw [HE.out]
      exact ⟨by cases q <;> rfl, below_drewN (HB2.out _ _) _⟩
    | false =>
      go_enter Tryz.func8, Tryz.ntmps8
      go_wp2_with fail
      refine (HS1.out _ (by exact HB2.out _ _)).mono ?_
      rintro e w1 ⟨rfl, k1, rfl⟩
      go_wp2_with fail
      go_ret
      rw [HE.out]
      exact ⟨rfl, below_drewN (HB2.out _ _) _⟩
  · have hn1 : (na == nb) = false := by simp [hn]
    rw [hn1] at HE
    clear hn
    go_enter Tryz.func8, Tryz.ntmps8
    go_wp2_with fail
    go_ret
    rw [HE.out]
    exact ⟨rfl, HB2.out _ _⟩
end Go.Proofs.YtdfcpkjphdepcaaGreatDoor
namespace Go.Proofs.YtdfcpkjphdepcaaGreatDoor
open Go.ChangeShapes Go.WideShapes Go.ChangeAt Go.RowKit Go.Joins NumB
set_option linter.unusedVariables false
set_option linter.unusedSimpArgs false

theorem own : ownKnob Tryz.prog.godebug = none := by kernel_rfl
theorem laidOut : laidOutB Tryz.prog = true := by kernel_rfl

/-- The arguments read again where nothing old has turned. -/
theorem below_trodAll {H : Type} {enc : TypeId × Value → H} {P : Program} (hl : laidOutB P = true) {W W' : World} (hb : Below W.heap.size W W') :
    ∀ {ts : List TypeId} {vs : List Value} {ds : List (DataW H)} {ps : List MemPlace}, (∀ t ∈ ts, P.readableRec t = true ∧ t < P.types.size) → DataW.TrodAll enc P W 0 (fun _ => true) true ts vs ds ps → (∀ x ∈ ps, x.block < W.heap.size) →
      DataW.TrodAll enc P W' 0 (fun b => decide (b < W.heap.size)) true ts vs ds ps
  | [], [], [], _, _, h, _ => h
  | t :: _, _ :: _, _ :: _, _, hT, ⟨p, q, h1, h2, e⟩, hs => ⟨p, q, Below.trod hl (hT t (by simp)).1 (hT t (by simp)).2 h1 hb (fun x hx => hs x (by rw [e]; exact List.mem_append_left _ hx)), below_trodAll hl hb (fun u hu => hT u (by simp [hu])) h2 (fun x hx => hs x (by rw [e]; exact List.mem_append_right _ hx)), e⟩

/-- The post of a law: it answered true, and only new memory was made. -/
theorem post_law {H : Type} {enc : TypeId × Value → H} {f : Func} {s : ChangeSpec} {W W' : World} {args : Array Value} {ds : List (DataW H)} {before : List MemPlace} (hvars : s.vars = [])
    (hW : DataW.Whole enc Tryz.prog f.params.toList s.vars false W args.toList ds [] before)
    (hA : DataW.TrodAll enc Tryz.prog W 0 (fun _ => true) true f.params.toList args.toList ds before)
    (hT : ∀ t ∈ f.params.toList, Tryz.prog.readableRec t = true ∧ t < Tryz.prog.types.size)
    (hres : f.resultTypes = #[4]) (hfn : s.fn H ds = { results := [.lit (.bool true)], args := ds })
    (hb : Below W.heap.size W W') : s.post enc Tryz.prog f false true false false W args (.bool true) W' := by
  have hlt : ∀ p ∈ before, p.block < W.heap.size := fun p hp => hW.lt p hp
  have e : s.fn H (ds ++ []) = { results := [.lit (.bool true)], args := ds } := by rw [List.append_nil]; exact hfn
  refine ⟨ds, [], before, [], before, [], hW, ?_, ?_, ?_, hb.frame _, fun h => by cases h⟩
  · rw [e, hres]; exact trodAll_mk1 (shut_bool Tryz.underlying4 _)
  · rw [e]; exact below_trodAll laidOut hb hT hA hlt
  · rw [e, hvars]; exact rfl

set_option maxRecDepth 100000 in
/-- A slice of limbs that came in. -/
theorem open_limbs {H : Type} {enc : TypeId × Value → H} {W : World} {n : Nat} {v : Value} {y : DataW H × List MemPlace}
    (h : DataW.trod enc Tryz.prog W 0 (fun _ => true) true n 22 [v] = some y) : ∃ xs : List Nat, Sl .u32 W v xs ∧ Ok W32 xs := by
  rcases open_ints Tryz.underlying22 Tryz.underlying45 (by kernel_rfl) h with ⟨hcs, hx⟩ | ⟨a, len, cap, zs, hcs, _, hl, hm, hz, hx, hcell, hwz⟩
  · simp only [List.cons.injEq, and_true] at hcs
    subst hcs
    exact ⟨[], (OwnV.nil_ (B := 0) (T := 0) W).sl, Ok.nil⟩
  · simp only [List.cons.injEq, and_true] at hcs
    subst hcs
    simp only [if_true] at hz
    have hwf : ∀ z ∈ zs, 0 ≤ z ∧ z < 4294967296 := fun z hzm => by
      have := bounds_u32 (hwz z hzm)
      omega
    have hget : ∀ i, i < zs.length → ((zs.map Int.toNat).getD i 0 : Int) = zs.getD i 0 := fun i hi => by
      rw [List.getD_eq_getElem?_getD, List.getD_eq_getElem?_getD, List.getElem?_map, List.getElem?_eq_getElem hi]
      have := hwf _ (List.getElem_mem hi)
      simp only [Option.map_some, Option.getD_some]
      omega
    refine ⟨(zs.map Int.toNat).take len, ?_, ?_⟩
    · refine Sl.of_rd (n := cap) (xs := zs.map Int.toNat) ?_ hl (Nat.le_refl _) hm rfl
      refine ⟨by simp [hz], fun hn => ?_⟩
      obtain ⟨b, off, rfl, hc⟩ := ints_at hcell (by omega)
      refine ⟨b, off, rfl, ?_, fun i hi => ?_⟩
      · have := hc 0 (by omega)
        rcases Nat.lt_or_ge b W.heap.size with h1 | h1
        · exact h1
        · simp [World.cell?, Array.getElem?_eq_none h1] at this
      · rw [hc i (by omega), hget i (by omega)]
    · intro x hx
      obtain ⟨z, hzm, rfl⟩ := List.mem_map.1 (List.mem_of_mem_take hx)
      have := hwf z hzm
      show z.toNat < 4294967296
      omega

set_option maxRecDepth 100000 in
/-- A number that came in: a sign and two lists of limbs. -/
theorem open_number {H : Type} {enc : TypeId × Value → H} {W : World} {base : Nat} {v : Value} {d : DataW H} {p : List MemPlace}
    (hv : Value.okWide Tryz.prog W .any base 24 v) (h : DataW.Trod enc Tryz.prog W 0 (fun _ => true) true 24 v d p) :
    ∃ (neg : Bool) (va vb : Value) (xs ys : List Nat), v = .agg #[.bool neg, va, vb] ∧ Sl .u32 W va xs ∧ Sl .u32 W vb ys ∧ Ok W32 xs ∧ Ok W32 ys := by
  obtain ⟨c0, c1, c2, y0, y1, y2, m, rfl, _, _, h0, h1, h2⟩ := open_agg3 Tryz.underlying24 (by kernel_rfl) (by kernel_rfl) hv h
  obtain ⟨b, e0, _⟩ := DataW.trod_bool Tryz.underlying4 h0
  simp only [List.cons.injEq, and_true] at e0
  subst e0
  obtain ⟨xs, hx, ox⟩ := open_limbs h1
  obtain ⟨ys, hy, oy⟩ := open_limbs h2
  exact ⟨b, c1, c2, xs, ys, rfl, hx, hy, ox, oy⟩

end Go.Proofs.YtdfcpkjphdepcaaGreatDoor
namespace Go.Proofs.YtdfcpkjphdepcaaGreatDoor.LawPower
open Go.ChangeShapes Go.WideShapes Go.ChangeAt Go.RowKit NumB
set_option linter.unusedVariables false
set_option linter.unusedSimpArgs false

/-- What the walk says. -/
def Walk : Prop := ∀ (a0 : LN) (v0 : Value) (a1 : LN) (v1 : Value) (w : World), GV w v0 a0 → GV w v1 a1 →
  Calls Tryz.prog 5 #[v0, v1] w fun e w' => e = .returned (.bool true) ∧ Below w.heap.size w w'

set_option maxRecDepth 100000 in
theorem contract (hwalk : Walk) (H : Type) (enc : TypeId × Value → H) (W : World) (base : Nat) (args : Array Value) (ds gs : List (DataW H)) (before : List MemPlace)
    (hval : ∀ (j : Nat) t v, Tryz.f5.params[j]? = some t → args[j]? = some v → Value.okWide Tryz.prog W .any base t v)
    (hW : DataW.Whole enc Tryz.prog Tryz.f5.params.toList Rows.numberPowerMatchesSpecSpec.vars false W args.toList ds gs before) :
    Calls Tryz.prog 5 args W fun e W' => ∃ v, e = .returned v ∧ Rows.numberPowerMatchesSpecSpec.post enc Tryz.prog Tryz.f5 false true false false W args v W' := by
  have hW' := hW
  obtain ⟨p, q, hA0, hV, rfl, hfz, hnd⟩ := hW
  have hA : DataW.TrodAll enc Tryz.prog W 0 (fun _ => true) true Tryz.f5.params.toList args.toList ds p := hA0
  have hA1 := hA
  clear hA0
  rw [Tryz.params5] at hA hval
  obtain ⟨v0, vs0, d0, ds0, p0, q0, hargs, rfl, rfl, h0, r0⟩ := trodAll_cons hA
  obtain ⟨v1, vs1, d1, ds1, p1, q1, rfl, rfl, rfl, h1, r1⟩ := trodAll_cons r0
  obtain ⟨rfl, rfl, rfl⟩ := trodAll_nil r1
  obtain rfl : args = #[v0, v1] := by cases args; simp_all
  obtain ⟨rfl, rfl⟩ := trodVars_none hV
  obtain ⟨neg0, va0, vb0, xs0, ys0, rfl, hx0, hy0, ox0, oy0⟩ := open_number (hval 0 24 v0 rfl rfl) h0
  obtain ⟨neg1, va1, vb1, xs1, ys1, rfl, hx1, hy1, ox1, oy1⟩ := open_number (hval 1 24 v1 rfl rfl) h1
  simp only [List.append_nil] at hW' hA1
  refine (hwalk ⟨neg0, xs0, ys0⟩ _ ⟨neg1, xs1, ys1⟩ _ W ⟨va0, vb0, rfl, hx0, hy0, ox0, oy0⟩ ⟨va1, vb1, rfl, hx1, hy1, ox1, oy1⟩).mono fun e W' ⟨he, hb⟩ => ?_
  subst he
  refine ⟨_, rfl, post_law rfl hW' hA1 ?_ rfl rfl hb⟩
  rw [Tryz.params5]
  intro t ht
  have hm : t ∈ [24, 24] := by simpa using ht
  have hall : ([24, 24].all fun u => Tryz.prog.readableRec u && decide (u < Tryz.prog.types.size)) = true := by kernel_rfl
  have := List.all_eq_true.1 hall t hm
  simp only [Bool.and_eq_true, decide_eq_true_eq] at this
  exact this

def wit : Array Value := #[.agg #[.bool false, .slice none 0 0, .slice none 0 0], .agg #[.bool false, .slice none 0 0, .slice none 0 0]]
set_option maxRecDepth 100000 in
theorem laid_met (os : Os) : laidMet Tryz.prog Rows.numberPowerMatchesSpecRow.laid ((World.laidAll Tryz.prog os Rows.numberPowerMatchesSpecRow.laid).forCall (fun _ _ => 0) ⟨#[], wit, []⟩).memory :=
  laidMet_laidAll wit (by kernel_rfl) (by kernel_rfl)
set_option maxRecDepth 100000 in
theorem reads (os : Os) {H : Type} (enc : TypeId × Value → H) : ∃ ds places, DataW.whole enc Tryz.prog ((World.laidAll Tryz.prog os Rows.numberPowerMatchesSpecRow.laid).forCall (fun _ _ => 0) ⟨#[], wit, []⟩).memory Tryz.f5.params.toList Rows.numberPowerMatchesSpecSpec.vars false wit.toList 8 = some (ds, [], places) :=
  ⟨[.agg [.lit (.bool false), .nil, .nil], .agg [.lit (.bool false), .nil, .nil]], [], by kernel_rfl⟩

set_option maxRecDepth 100000 in
theorem lifted (hwalk : Walk) (os : Os) (started : os.Started) (H : Type) (enc : TypeId × Value → H) (F : Stop.Interp) :
    ReturnsInHanded {} Tryz.checked os 5 .any ((OpenSpec.ofChange Rows.numberPowerMatchesSpecSpec).preRow enc Tryz.prog Tryz.f5 Rows.numberPowerMatchesSpecRow.domain false Rows.numberPowerMatchesSpecRow.laid) (((OpenSpec.ofChange Rows.numberPowerMatchesSpecSpec).at F).post enc Tryz.prog Tryz.f5 false true false false) := by
  obtain ⟨ds, places, hx⟩ := reads os enc
  refine returnsInHanded_of_row (C := Tryz.checked) (s := OpenSpec.ofChange Rows.numberPowerMatchesSpecSpec) own started (by kernel_rfl) Tryz.func5
    (witness_row_at (enc := enc) (C := Tryz.checked) false (World.laidAll Tryz.prog os Rows.numberPowerMatchesSpecRow.laid) wit rfl (by kernel_rfl) (by kernel_rfl) (by kernel_rfl)
      (OpenSpec.preRow_of_cond 8 hx (by kernel_rfl) (fun k hk => by cases hk) (by kernel_rfl) (laid_met os))) ?_
  intro W base args ds gs before hval hW _ _ _ hL _ _
  exact contract hwalk H enc W base args ds gs before hval hW

set_option maxRecDepth 100000 in
theorem said (hwalk : Walk) : Rows.NumberPowerMatchesSpecSaid :=
  OpenClaim.holds_of_cond 5 Tryz.f5 rfl rfl rfl rfl rfl rfl rfl ⟨rfl, rfl, rfl, rfl, rfl⟩ rfl rfl rfl rfl rfl (by kernel_rfl) Tryz.func5 (by kernel_rfl)
    (of_decide_eq_true (by kernel_rfl)) (by unfold Func.isWrapper; first | (rw [if_pos (by decide +kernel)]; kernel_rfl) | (rw [if_neg (by decide +kernel)]; exact ⟨rfl, rfl⟩))
    (fun os started H enc _ F => by rw [OpenClaim.pre_eq_preRow]; exact lifted hwalk os started H enc F)

set_option maxRecDepth 100000 in
theorem plain (f : FuncId) (fn : Func) (hf : Tryz.pinned.checked.prog.funcNamed "fetterlock/fetterlocklaw1.NumberPowerMatchesSpec" = some f) (hfn : Tryz.pinned.checked.prog.funcs[f]? = some fn) :
    false = Tryz.pinned.checked.prog.looks [] ∧ ∀ (j : Nat) t, fn.params[j]? = some t → Tryz.pinned.checked.prog.wantsStandIn t = false := by
  obtain rfl : f = 5 := Option.some.inj ((show Tryz.prog.funcNamed "fetterlock/fetterlocklaw1.NumberPowerMatchesSpec" = some 5 by kernel_rfl).symm.trans hf) |>.symm
  obtain rfl : fn = Tryz.f5 := (Option.some.inj (Tryz.func5.symm.trans hfn)).symm
  refine ⟨by kernel_rfl, fun j t ht => ?_⟩
  rw [Tryz.params5] at ht
  have hm : t ∈ [24, 24] := by simpa using Array.mem_of_getElem? ht
  have hall : ([24, 24].all fun u => !Tryz.prog.wantsStandIn u) = true := by kernel_rfl
  exact (show Tryz.prog.wantsStandIn t = false by simpa using List.all_eq_true.1 hall t hm)

set_option maxRecDepth 100000 in
theorem card (hwalk : Walk) : Rows.NumberPowerMatchesSpecCardSaid :=
  Claim7.holds_tied_plain_at .later [] _ _ _ _ (said hwalk) (fun _ h => by cases h) (by kernel_rfl) (fun _ h => by cases h) numberPowerMatchesSpec_row_tie rfl ⟨rfl, rfl⟩ (by kernel_rfl) rfl plain (by kernel_rfl)
end Go.Proofs.YtdfcpkjphdepcaaGreatDoor.LawPower
namespace Go.Proofs.YtdfcpkjphdepcaaGreatDoor
open Go.RowKit NumB
set_option linter.unusedVariables false
set_option linter.unusedSimpArgs false

set_option maxRecDepth 1000000 in
set_option maxHeartbeats 25600000 in
theorem law_power : LawPower.Walk := by
  intro a0 v0 a1 v1 w g0 g1
  obtain ⟨A0, n0, c0, B0, m0, d0, rfl, hq1, hq2⟩ := g0.form
  clear hq1 hq2
  obtain ⟨A1, n1, c1, B1, m1, d1, rfl, hq1, hq2⟩ := g1.form
  clear hq1 hq2
  obtain ⟨p, HF, HT⟩ : ∃ p : LN × Int, Hid (∀ (W : World) (u v : Value), GV W u a0 → GV W v a1 → Calls Tryz.prog 17 #[u, v] W (SPost W p)) ∧ Hid (∀ (W : World) (u v : Value), GV W u a0 → GV W v a1 → Calls Tryz.prog 7 #[.int .u8 112, u, v] W (SPost W p)) :=
    ⟨powS a0 a1, fun W u v h1 h2 => powerNum_S a0 a1 u v W h1 h2, fun W u v h1 h2 => by
      have := rtwoP 112 rfl a0 a1 u v W h1 h2
      rw [rtwoPS_eq] at this
      exact this⟩
  obtain ⟨g, z⟩ := p
  have hee : (z == z) = true := by simp
  have HSM : Hid (∀ (W : World) (u v : Value) (a : LN), GV W u a → GV W v a → Calls Tryz.prog 8 #[u, v] W fun e w' => e = .returned (.bool true) ∧ Below W.heap.size W w') := fun W u v a h1 h2 => by
    have := same_S a a u v W h1 h2
    rw [sameB_true rfl] at this
    exact this
  have KA := Lib.hid ((blk2 w 24 24 #[.bool a0.neg, .slice A0 n0 c0, .slice B0 m0 d0] #[.bool a1.neg, .slice A1 n1 c1, .slice B1 m1 d1]).1)
  have KB := Lib.hid ((blk2 w 24 24 #[.bool a0.neg, .slice A0 n0 c0, .slice B0 m0 d0] #[.bool a1.neg, .slice A1 n1 c1, .slice B1 m1 d1]).2)
  have GA := Lib.hid (g0.to (below_two w (.cells #[.bool a0.neg, .slice A0 n0 c0, .slice B0 m0 d0] 24) (.cells #[.bool a1.neg, .slice A1 n1 c1, .slice B1 m1 d1] 24)))
  have GB := Lib.hid (g1.to (below_two w (.cells #[.bool a0.neg, .slice A0 n0 c0, .slice B0 m0 d0] 24) (.cells #[.bool a1.neg, .slice A1 n1 c1, .slice B1 m1 d1] 24)))
  have HBE := Lib.hid (below_two w (.cells #[.bool a0.neg, .slice A0 n0 c0, .slice B0 m0 d0] 24) (.cells #[.bool a1.neg, .slice A1 n1 c1, .slice B1 m1 d1] 24))
  clear g0 g1
  go_enter Tryz.func5, Tryz.ntmps5
  go_wp2_with fail
  refine (HF.out _ _ _ (by exact GA.out) (by exact GB.out)).mono ?_
  rintro e w1 ⟨v, rfl, hg, hb⟩
  have KA := Lib.hid (KA.out.to hb)
  have KB := Lib.hid (KB.out.to hb)
  have GA := Lib.hid (GA.out.to hb)
  have GB := Lib.hid (GB.out.to hb)
  have HBE : Hid (Below w.heap.size w w1) := HBE.out.trans ((hb).mono HBE.out.size)
  clear hb
  obtain ⟨Ag, ng, cg, Bg, mg, dg, rfl, hq1, hq2⟩ := hg.form
  have Gg := Lib.hid hg
  clear hq1 hq2 hg
  have ka0 := KA.out.cell 0
  have ka1 := KA.out.cell 1
  have ka2 := KA.out.cell 2
  have kb0 := KB.out.cell 0
  have kb1 := KB.out.cell 1
  have kb2 := KB.out.cell 2
  simp only [List.getElem?_toArray, List.getElem?_cons_zero, List.getElem?_cons_succ] at ka0 ka1 ka2 kb0 kb1 kb2
  have ltKAKG := KA.out.lt
  have ltKBKG := KB.out.lt
  have KGN := Lib.hid (Blk.new w1 24 #[.bool g.neg, .slice Ag ng cg, .slice Bg mg dg])
  have KA := Lib.hid (KA.out.to (below_one w1 (.cells #[.bool g.neg, .slice Ag ng cg, .slice Bg mg dg] 24)))
  have KB := Lib.hid (KB.out.to (below_one w1 (.cells #[.bool g.neg, .slice Ag ng cg, .slice Bg mg dg] 24)))
  have GA := Lib.hid (GA.out.to (below_one w1 (.cells #[.bool g.neg, .slice Ag ng cg, .slice Bg mg dg] 24)))
  have GB := Lib.hid (GB.out.to (below_one w1 (.cells #[.bool g.neg, .slice Ag ng cg, .slice Bg mg dg] 24)))
  have Gg := Lib.hid (Gg.out.to (below_one w1 (.cells #[.bool g.neg, .slice Ag ng cg, .slice Bg mg dg] 24)))
  have HBE : Hid (Below w.heap.size w (w1.alloc (.cells #[.bool g.neg, .slice Ag ng cg, .slice Bg mg dg] 24))) := HBE.out.trans (((below_one w1 (.cells #[.bool g.neg, .slice Ag ng cg, .slice Bg mg dg] 24))).mono HBE.out.size)
  have KG := KGN
  clear KGN
  have neKAKG : (w.heap.size = w1.heap.size) = False := eq_false (by omega)
  have neKGKA : (w1.heap.size = w.heap.size) = False := eq_false (by omega)
  have neKBKG : (w.heap.size + 1 = w1.heap.size) = False := eq_false (by omega)
  have neKGKB : (w1.heap.size = w.heap.size + 1) = False := eq_false (by omega)
  go_wp2_with fail
  refine (HT.out _ _ _ (by exact GA.out) (by exact GB.out)).mono ?_
  rintro e w2 ⟨v, rfl, hg, hb⟩
  clear ka0 ka1 ka2 kb0 kb1 kb2
  have KA := Lib.hid (KA.out.to hb)
  have KB := Lib.hid (KB.out.to hb)
  have KG := Lib.hid (KG.out.to hb)
  have GA := Lib.hid (GA.out.to hb)
  have GB := Lib.hid (GB.out.to hb)
  have Gg := Lib.hid (Gg.out.to hb)
  have HBE : Hid (Below w.heap.size w w2) := HBE.out.trans ((hb).mono HBE.out.size)
  clear hb
  obtain ⟨Aw, nw, cw, Bw, mw, dw, rfl, hq1, hq2⟩ := hg.form
  have Gw := Lib.hid hg
  clear hq1 hq2 hg
  have kg0 := KG.out.cell 0
  have kg1 := KG.out.cell 1
  have kg2 := KG.out.cell 2
  simp only [List.getElem?_toArray, List.getElem?_cons_zero, List.getElem?_cons_succ] at kg0 kg1 kg2
  have ltKAKW := KA.out.lt
  have ltKBKW := KB.out.lt
  have ltKGKW := KG.out.lt
  have KWN := Lib.hid (Blk.new w2 24 #[.bool g.neg, .slice Aw nw cw, .slice Bw mw dw])
  have KA := Lib.hid (KA.out.to (below_one w2 (.cells #[.bool g.neg, .slice Aw nw cw, .slice Bw mw dw] 24)))
  have KB := Lib.hid (KB.out.to (below_one w2 (.cells #[.bool g.neg, .slice Aw nw cw, .slice Bw mw dw] 24)))
  have KG := Lib.hid (KG.out.to (below_one w2 (.cells #[.bool g.neg, .slice Aw nw cw, .slice Bw mw dw] 24)))
  have GA := Lib.hid (GA.out.to (below_one w2 (.cells #[.bool g.neg, .slice Aw nw cw, .slice Bw mw dw] 24)))
  have GB := Lib.hid (GB.out.to (below_one w2 (.cells #[.bool g.neg, .slice Aw nw cw, .slice Bw mw dw] 24)))
  have Gg := Lib.hid (Gg.out.to (below_one w2 (.cells #[.bool g.neg, .slice Aw nw cw, .slice Bw mw dw] 24)))
  have Gw := Lib.hid (Gw.out.to (below_one w2 (.cells #[.bool g.neg, .slice Aw nw cw, .slice Bw mw dw] 24)))
  have HBE : Hid (Below w.heap.size w (w2.alloc (.cells #[.bool g.neg, .slice Aw nw cw, .slice Bw mw dw] 24))) := HBE.out.trans (((below_one w2 (.cells #[.bool g.neg, .slice Aw nw cw, .slice Bw mw dw] 24))).mono HBE.out.size)
  have KW := KWN
  clear KWN
  have neKAKW : (w.heap.size = w2.heap.size) = False := eq_false (by omega)
  have neKWKA : (w2.heap.size = w.heap.size) = False := eq_false (by omega)
  have neKBKW : (w.heap.size + 1 = w2.heap.size) = False := eq_false (by omega)
  have neKWKB : (w2.heap.size = w.heap.size + 1) = False := eq_false (by omega)
  have neKGKW : (w1.heap.size = w2.heap.size) = False := eq_false (by omega)
  have neKWKG : (w2.heap.size = w1.heap.size) = False := eq_false (by omega)
  go_wp2_with fail
  refine (HSM.out _ _ _ _ (by exact Gg.out) (by exact Gw.out)).mono ?_
  rintro e w3 ⟨rfl, hb⟩
  clear kg0 kg1 kg2
  have KA := Lib.hid (KA.out.to hb)
  have KB := Lib.hid (KB.out.to hb)
  have KG := Lib.hid (KG.out.to hb)
  have KW := Lib.hid (KW.out.to hb)
  have GA := Lib.hid (GA.out.to hb)
  have GB := Lib.hid (GB.out.to hb)
  have Gg := Lib.hid (Gg.out.to hb)
  have Gw := Lib.hid (Gw.out.to hb)
  have HBE : Hid (Below w.heap.size w w3) := HBE.out.trans ((hb).mono HBE.out.size)
  clear hb
  go_wp2_with fail
  refine (counted_any _).mono ?_
  rintro e wz ⟨rfl, hb⟩
  go_wp2_with fail
  go_ret
  exact ⟨rfl, HBE.out.trans (hb.mono HBE.out.size)⟩

theorem numberPower_holds : Rows.NumberPowerMatchesSpecCardSaid := LawPower.card law_power
#print axioms numberPower_holds
end Go.Proofs.YtdfcpkjphdepcaaGreatDoor

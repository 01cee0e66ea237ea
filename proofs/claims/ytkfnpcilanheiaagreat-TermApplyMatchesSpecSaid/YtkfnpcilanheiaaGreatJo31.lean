/-  -/
import Derived.Deep.RegionHeld3
import Derived.WideLaws
import Derived.Test.YtkfnpcilanheiaaGreatJo7
import Derived.Test.YtkfnpcilanheiaaGreatJo18
import Derived.Test.YtkfnpcilanheiaaGreatJo19
set_option linter.unusedVariables false
set_option linter.unusedSimpArgs false
/- A term that came in as an argument, opened. -/
namespace Go.Proofs.YtkfnpcilanheiaaGreat
open Go.ChangeShapes Go.WideShapes Go.ChangeAt Go.RowKit Go.Joins Go.Deep NumB
set_option linter.unusedVariables false
set_option linter.unusedSimpArgs false

set_option maxRecDepth 100000 in
theorem open_term {H : Type} {enc : TypeId × Value → H} {W : World} {base : Nat} {v : Value} {d : DataW H} {p : List MemPlace}
    (hv : Value.okWide Tryz.prog W .any base 27 v) (h : DataW.Trod enc Tryz.prog W 0 (fun _ => true) true 27 v d p) : ∃ t cs, v = .agg cs.toArray ∧ TC W t cs := by
  obtain ⟨cs, rfl, hsz⟩ := okWide_struct Tryz.underlying27 hv
  obtain ⟨fuel, hf⟩ := h
  obtain ⟨t, ht⟩ := open_tm fuel _ _ hf
  exact ⟨t, cs.toList, rfl, ht⟩
end Go.Proofs.YtkfnpcilanheiaaGreat
/- TermApplyMatchesSpec: its card, out of its walk. -/
namespace Go.Proofs.YtkfnpcilanheiaaGreat.LawTmApply
open Go.ChangeShapes Go.WideShapes Go.ChangeAt Go.RowKit NumB
set_option linter.unusedVariables false
set_option linter.unusedSimpArgs false

/-- What the walk says. -/
def Walk : Prop := ∀ (t0 : Tm) (c0 : List Value) (t1 : List (Int × Tm)) (v1 : Value) (i2 : Int) (w : World), TC w t0 c0 → BL w v1 t1 → t1.length * 120 ≤ 140737488351232 → (-9223372036854775808 ≤ i2 ∧ i2 ≤ 9223372036854775807) →
  Calls Tryz.prog 3 #[.agg c0.toArray, v1, .int .i64 i2] w fun e w' => e = .returned (.bool true) ∧ Below w.heap.size w w'

set_option maxRecDepth 100000 in
theorem contract (hwalk : Walk) (H : Type) (enc : TypeId × Value → H) (W : World) (base : Nat) (args : Array Value) (ds gs : List (DataW H)) (before : List MemPlace)
    (hval : ∀ (j : Nat) t v, Tryz.f3.params[j]? = some t → args[j]? = some v → Value.okWide Tryz.prog W .any base t v)
    (hW : DataW.Whole enc Tryz.prog Tryz.f3.params.toList Rows.termApplyMatchesSpecSpec.vars false W args.toList ds gs before) (TT : List TypeId) (hwt : (DataW.weightsEach Tryz.prog (Tryz.f3.params.toList ++ TT) (ds ++ gs)).all (· ≤ reachBytes) = true) :
    Calls Tryz.prog 3 args W fun e W' => ∃ v, e = .returned v ∧ Rows.termApplyMatchesSpecSpec.post enc Tryz.prog Tryz.f3 false true false false W args v W' := by
  have hW' := hW
  obtain ⟨p, q, hA0, hV, rfl, hfz, hnd⟩ := hW
  have hA : DataW.TrodAll enc Tryz.prog W 0 (fun _ => true) true Tryz.f3.params.toList args.toList ds p := hA0
  have hA1 := hA
  clear hA0
  rw [Tryz.params3] at hA hval hwt
  obtain ⟨v0, vs0, d0, ds0, p0, q0, hargs, rfl, rfl, h0, r0⟩ := trodAll_cons hA
  obtain ⟨v1, vs1, d1, ds1, p1, q1, rfl, rfl, rfl, h1, r1⟩ := trodAll_cons r0
  obtain ⟨v2, vs2, d2, ds2, p2, q2, rfl, rfl, rfl, h2, r2⟩ := trodAll_cons r1
  obtain ⟨rfl, rfl, rfl⟩ := trodAll_nil r2
  obtain rfl : args = #[v0, v1, v2] := by cases args; simp_all
  obtain ⟨rfl, rfl⟩ := trodVars_none hV
  obtain ⟨t0, c0, rfl, hx0⟩ := open_term (hval 0 27 v0 rfl rfl) h0
  obtain ⟨t1, hx1, hd1⟩ := open_binds (hval 1 28 v1 rfl rfl) h1
  have hw1 := weight_len2 Tryz.underlying28 (B := 120) (by kernel_rfl) hwt hd1
  obtain ⟨i2, rfl, rfl, rfl, wx2⟩ := open_int Tryz.underlying3 (hval 2 3 v2 rfl rfl) h2
  simp only [List.append_nil] at hW' hA1
  refine (hwalk t0 c0 t1 _ i2 W hx0 hx1 hw1 (bounds_i64 wx2)).mono fun e W' ⟨he, hb⟩ => ?_
  subst he
  refine ⟨_, rfl, post_law rfl hW' hA1 ?_ rfl rfl hb⟩
  rw [Tryz.params3]
  intro t ht
  have hm : t ∈ [27, 28, 3] := by simpa using ht
  have hall : ([27, 28, 3].all fun u => Tryz.prog.readableRec u && decide (u < Tryz.prog.types.size)) = true := by kernel_rfl
  have := List.all_eq_true.1 hall t hm
  simp only [Bool.and_eq_true, decide_eq_true_eq] at this
  exact this

def wit : Array Value := #[.agg #[.int .i64 0, .int .i64 0, .string ⟨#[]⟩, .bool false, .slice none 0 0, .slice none 0 0, .slice none 0 0], .slice none 0 0, .int .i64 0]
set_option maxRecDepth 100000 in
theorem laid_met (os : Os) : laidMet Tryz.prog Rows.termApplyMatchesSpecRow.laid ((World.laidAll Tryz.prog os Rows.termApplyMatchesSpecRow.laid).forCall (fun _ _ => 0) ⟨#[], wit, []⟩).memory :=
  laidMet_laidAll wit (by kernel_rfl) (by kernel_rfl)
set_option maxRecDepth 100000 in
theorem reads (os : Os) {H : Type} (enc : TypeId × Value → H) : ∃ ds places, DataW.whole enc Tryz.prog ((World.laidAll Tryz.prog os Rows.termApplyMatchesSpecRow.laid).forCall (fun _ _ => 0) ⟨#[], wit, []⟩).memory Tryz.f3.params.toList Rows.termApplyMatchesSpecSpec.vars false wit.toList 8 = some (ds, [], places) :=
  ⟨[.agg [.lit (.int .i64 0), .lit (.int .i64 0), .lit (.string []), .agg [.lit (.bool false), .nil, .nil], .nil], .nil, .lit (.int .i64 0)], [], by kernel_rfl⟩

set_option maxRecDepth 100000 in
theorem lifted (hwalk : Walk) (os : Os) (started : os.Started) (H : Type) (enc : TypeId × Value → H) (F : Stop.Interp) :
    ReturnsInHanded {} Tryz.checked os 3 .any ((OpenSpec.ofChange Rows.termApplyMatchesSpecSpec).preRow enc Tryz.prog Tryz.f3 Rows.termApplyMatchesSpecRow.domain false Rows.termApplyMatchesSpecRow.laid) (((OpenSpec.ofChange Rows.termApplyMatchesSpecSpec).at F).post enc Tryz.prog Tryz.f3 false true false false) := by
  obtain ⟨ds, places, hx⟩ := reads os enc
  refine returnsInHanded_of_row (C := Tryz.checked) (s := OpenSpec.ofChange Rows.termApplyMatchesSpecSpec) own started (by kernel_rfl) Tryz.func3
    (witness_row_at (enc := enc) (C := Tryz.checked) false (World.laidAll Tryz.prog os Rows.termApplyMatchesSpecRow.laid) wit rfl (by kernel_rfl) (by kernel_rfl) (by kernel_rfl)
      (OpenSpec.preRow_of_cond 8 hx (by kernel_rfl) (fun k hk => by cases hk) (by kernel_rfl) (laid_met os))) ?_
  intro W base args ds gs before hval hW _ _ hwt hL _ _
  exact contract hwalk H enc W base args ds gs before hval hW _ hwt

set_option maxRecDepth 100000 in
theorem said (hwalk : Walk) : Rows.TermApplyMatchesSpecSaid :=
  OpenClaim.holds_of_cond 3 Tryz.f3 rfl rfl rfl rfl rfl rfl rfl ⟨rfl, rfl, rfl, rfl, rfl⟩ rfl rfl rfl rfl rfl (by kernel_rfl) Tryz.func3 (by kernel_rfl)
    (of_decide_eq_true (by kernel_rfl)) (by unfold Func.isWrapper; first | (rw [if_pos (by decide +kernel)]; kernel_rfl) | (rw [if_neg (by decide +kernel)]; exact ⟨rfl, rfl⟩))
    (fun os started H enc _ F => by rw [OpenClaim.pre_eq_preRow]; exact lifted hwalk os started H enc F)

end Go.Proofs.YtkfnpcilanheiaaGreat.LawTmApply
/- (*heap.interner).name of a variable or an atom: some int; the interner stays one. -/
namespace Go.Proofs.YtkfnpcilanheiaaGreat
open Go.RowKit NumB
set_option linter.unusedVariables false
set_option linter.unusedSimpArgs false

set_option maxHeartbeats 3200000 in
set_option maxRecDepth 100000 in
theorem name_leaf (p m1 m2 n : Nat) (k v : Int) (s : ByteArray) (ng : Bool) (A1 : Option Addr) (n1 c1 : Nat) (B1 : Option Addr) (q1 d1 : Nat) (X : Option Addr) (xl xc : Nat) (hk : k = 1 ∨ k = 3) (hv : i64ok v) (hs : s.size ≤ 1000) (w : World) (h : NameS w p m1 m2 n) (hn : n ≤ 1000) :
    Calls Tryz.prog 255 #[.pointer (some ⟨p, 0, none⟩), .agg #[.int .i64 k, .int .i64 v, .string s, .bool ng, .slice A1 n1 c1, .slice B1 q1 d1, .slice X xl xc]] w fun e w' => ∃ i, e = .returned (.int .i64 i) ∧ i64ok i ∧ NameS w' p m1 m2 (n + 1) ∧ Kept (KN m1 m2) w w' := by
  have HN := Lib.hid h
  have HV := Lib.hid hv
  have HK := Lib.hid hk
  have HBT := Lib.hid (Blk.new w 27 #[.int .i64 k, .int .i64 v, .string s, .bool ng, .slice A1 n1 c1, .slice B1 q1 d1, .slice X xl xc])
  have HB0 := Lib.hid (BD.new (w.alloc (.cells #[.int .i64 k, .int .i64 v, .string s, .bool ng, .slice A1 n1 c1, .slice B1 q1 d1, .slice X xl xc] 27)))
  rw [show (w.alloc (.cells #[.int .i64 k, .int .i64 v, .string s, .bool ng, .slice A1 n1 c1, .slice B1 q1 d1, .slice X xl xc] 27)).heap.size = w.heap.size + 1 by simp] at HB0
  have HW0 : Hid (Below w.heap.size w ((w.alloc (.cells #[.int .i64 k, .int .i64 v, .string s, .bool ng, .slice A1 n1 c1, .slice B1 q1 d1, .slice X xl xc] 27)).alloc (.cells #[.pointer none, .slice none 0 0] 276))) := below_pair w _ _
  have k5 : (k == 5) = false := beq_eq_false_iff_ne.2 (by omega)
  have k2 : (k == 2) = false := beq_eq_false_iff_ne.2 (by omega)
  have HK8 : Hid (0 ≤ k % 256 ∧ k % 256 ≤ 255) := ⟨by omega, by omega⟩
  clear h hv hk
  go_enter Tryz.func255, Tryz.ntmps255
  go_wp2_with fail
  have HT0 := Lib.hid (HBT.out.alloc (.cells #[.pointer none, .slice none 0 0] 276))
  refine (writeByte_any (w.heap.size + 1) (w.heap.size + 1) 0 _ _ HB0.out HK8.out.1 HK8.out.2 (by omega) (by simp)).mono ?_
  rintro e y1 ⟨rfl, hd, hb, ho⟩
  have HD1 := Lib.hid hd
  have HN1 := Lib.hid ((HN.out.below HW0.out).others ho HB0.out)
  have HT1 := Lib.hid (HT0.out.others (by decide) (by decide) ho HB0.out)
  have HW1 : Hid (w.heap.size + 1 ≤ y1.heap.size ∧ Kept (KN m1 m2) w y1) := ⟨Nat.le_trans (by simp) hb.size, (Kept.of_below HW0.out).thenB hb (by omega)⟩
  clear hd hb ho
  have t0 := HT1.out.cell 0
  have t1 := HT1.out.cell 1
  have t2 := HT1.out.cell 2
  simp only [List.getElem?_toArray, List.getElem?_cons_zero, List.getElem?_cons_succ] at t0 t1 t2
  rcases HK.out with rfl | rfl
  · go_wp2_with fail
    refine (put_any (w.heap.size + 1) (w.heap.size + 1) 1 v HV.out y1 HD1.out (by omega) HW1.out.1).mono ?_
    rintro e y2 ⟨rfl, hd, hb, ho⟩
    have HD2 := Lib.hid (hd.le (by omega : _ ≤ 2000))
    have HN2 := Lib.hid (HN1.out.others ho HD1.out)
    have HT2 := Lib.hid (HT1.out.others (by decide) (by decide) ho HD1.out)
    have HW2 : Hid (w.heap.size + 1 ≤ y2.heap.size ∧ Kept (KN m1 m2) w y2) := ⟨Nat.le_trans HW1.out.1 hb.size, HW1.out.2.thenB hb (by omega)⟩
    clear hd hb ho t0 t1 t2
    go_wp2_with fail
    have hS2 : y2.drew.cell? ⟨p, 0, none⟩ = some (.map (some m1)) ∧ y2.drew.cell? ⟨p, 1, none⟩ = some (.map (some m2)) := HN2.out.drew.nsc
    have HSTR := Lib.hid (str_form (w := w) HD2.out.drew HN2.out.drew HT2.out.drew HW2.out.1 HW2.out.2.drew (by omega))
    go_region_held3 (fun w' => w'.cell? ⟨p, 0, none⟩ = some (.map (some m1)) ∧ w'.cell? ⟨p, 1, none⟩ = some (.map (some m2)))
      (first | assumption | (go_keep; done))
      (first
        | (go_at_call 286; (with_reducible refine HSTR.out.mono ?_); rintro e y3 ⟨s3, i3, ok3, rfl, hi3, hl3, HD3, HN3, HT3, HW3, hS3⟩))
    clear hS2 HSTR hl3 hS3
    have t0 := HT3.out.cell 0
    simp only [List.getElem?_toArray, List.getElem?_cons_zero, List.getElem?_cons_succ] at t0
    cases ok3 with
    | true =>
      go_wp2_with fail
      go_ret
      exact ⟨i3, rfl, hi3.out, HN3.out.mono (by omega), HW3.out.2⟩
    | false =>
      obtain ⟨es, cl, hm, hms⟩ := HN3.out.len
      obtain ⟨e0, e1⟩ := HN3.out.nsc
      have hlen : (Builtin.len_ #[158] 3 #[.map (some m2)]).run Tryz.prog y3 = .ok (.int .i64 (es.size : Int)) y3 := run_len_map y3 _ _ m2 es cl (by kernel_rfl) hm
      go_wp2_with fail
      have HI4 : Hid (i64ok (es.size : Int)) := ⟨by omega, by omega⟩
      have hS4 : y3.drew.cell? ⟨p, 0, none⟩ = some (.map (some m1)) ∧ y3.drew.cell? ⟨p, 1, none⟩ = some (.map (some m2)) := HN3.out.drew.nsc
      have HSTR := Lib.hid (str_put (w := w) HD3.out.drew HN3.out.drew HT3.out.drew HW3.out.1 HW3.out.2.drew (by omega) HI4.out)
      clear hm hms e0 e1 t0 hlen
      go_region_held3 (fun w' => w'.cell? ⟨p, 0, none⟩ = some (.map (some m1)) ∧ w'.cell? ⟨p, 1, none⟩ = some (.map (some m2)))
        (first | assumption | (go_keep; done))
        (first
          | (go_at_call 286; (with_reducible refine HSTR.out.mono ?_); rintro e y5 ⟨s5, y4, rfl, hl5, HD4, HN4, HT4, HW4, hS5, hS6⟩))
      clear hS4 HSTR hl5 hS5 hS6
      have t0 := HT4.out.cell 0
      simp only [List.getElem?_toArray, List.getElem?_cons_zero, List.getElem?_cons_succ] at t0
      go_wp2_with fail
      go_ret
      exact ⟨_, rfl, HI4.out, HN4.out.mono (by omega), HW4.out.2⟩
  · go_wp2_with fail
    refine (writeString_any (w.heap.size + 1) (w.heap.size + 1) 1 s y1 HD1.out (by omega) (by omega) HW1.out.1).mono ?_
    rintro e y2 ⟨rfl, hd, hb, ho⟩
    have HD2 := Lib.hid (hd.le (by omega : _ ≤ 2000))
    have HN2 := Lib.hid (HN1.out.others ho HD1.out)
    have HT2 := Lib.hid (HT1.out.others (by decide) (by decide) ho HD1.out)
    have HW2 : Hid (w.heap.size + 1 ≤ y2.heap.size ∧ Kept (KN m1 m2) w y2) := ⟨Nat.le_trans HW1.out.1 hb.size, HW1.out.2.thenB hb (by omega)⟩
    clear hd hb ho t0 t1 t2
    go_wp2_with fail
    have hS2 : y2.drew.cell? ⟨p, 0, none⟩ = some (.map (some m1)) ∧ y2.drew.cell? ⟨p, 1, none⟩ = some (.map (some m2)) := HN2.out.drew.nsc
    have HSTR := Lib.hid (str_form (w := w) HD2.out.drew HN2.out.drew HT2.out.drew HW2.out.1 HW2.out.2.drew (by omega))
    go_region_held3 (fun w' => w'.cell? ⟨p, 0, none⟩ = some (.map (some m1)) ∧ w'.cell? ⟨p, 1, none⟩ = some (.map (some m2)))
      (first | assumption | (go_keep; done))
      (first
        | (go_at_call 286; (with_reducible refine HSTR.out.mono ?_); rintro e y3 ⟨s3, i3, ok3, rfl, hi3, hl3, HD3, HN3, HT3, HW3, hS3⟩))
    clear hS2 HSTR hl3 hS3
    have t0 := HT3.out.cell 0
    simp only [List.getElem?_toArray, List.getElem?_cons_zero, List.getElem?_cons_succ] at t0
    cases ok3 with
    | true =>
      go_wp2_with fail
      go_ret
      exact ⟨i3, rfl, hi3.out, HN3.out.mono (by omega), HW3.out.2⟩
    | false =>
      obtain ⟨es, cl, hm, hms⟩ := HN3.out.len
      obtain ⟨e0, e1⟩ := HN3.out.nsc
      have hlen : (Builtin.len_ #[158] 3 #[.map (some m2)]).run Tryz.prog y3 = .ok (.int .i64 (es.size : Int)) y3 := run_len_map y3 _ _ m2 es cl (by kernel_rfl) hm
      go_wp2_with fail
      have HI4 : Hid (i64ok (es.size : Int)) := ⟨by omega, by omega⟩
      have hS4 : y3.drew.cell? ⟨p, 0, none⟩ = some (.map (some m1)) ∧ y3.drew.cell? ⟨p, 1, none⟩ = some (.map (some m2)) := HN3.out.drew.nsc
      have HSTR := Lib.hid (str_put (w := w) HD3.out.drew HN3.out.drew HT3.out.drew HW3.out.1 HW3.out.2.drew (by omega) HI4.out)
      clear hm hms e0 e1 t0 hlen
      go_region_held3 (fun w' => w'.cell? ⟨p, 0, none⟩ = some (.map (some m1)) ∧ w'.cell? ⟨p, 1, none⟩ = some (.map (some m2)))
        (first | assumption | (go_keep; done))
        (first
          | (go_at_call 286; (with_reducible refine HSTR.out.mono ?_); rintro e y5 ⟨s5, y4, rfl, hl5, HD4, HN4, HT4, HW4, hS5, hS6⟩))
      clear hS4 HSTR hl5 hS5 hS6
      have t0 := HT4.out.cell 0
      simp only [List.getElem?_toArray, List.getElem?_cons_zero, List.getElem?_cons_succ] at t0
      go_wp2_with fail
      go_ret
      exact ⟨_, rfl, HI4.out, HN4.out.mono (by omega), HW4.out.2⟩
end Go.Proofs.YtkfnpcilanheiaaGreat
/- heap.at; the interner's map of nodes behind it. -/
namespace Go.Proofs.YtkfnpcilanheiaaGreat
open Go.RowKit NumB
set_option linter.unusedVariables false
set_option linter.unusedSimpArgs false

set_option maxRecDepth 100000 in
theorem at_any (k v : Int) (s : ByteArray) (ng : Bool) (A1 : Option Addr) (n1 c1 : Nat) (B1 : Option Addr) (q1 d1 : Nat) (ab ao l xc : Nat) (hl : 0 < l) (w : World) :
    Calls Tryz.prog 118 #[.agg #[.int .i64 k, .int .i64 v, .string s, .bool ng, .slice A1 n1 c1, .slice B1 q1 d1, .slice (some ⟨ab, ao, none⟩) l xc]] w fun e w' => e = .returned (.pointer (some ⟨ab, ao, none⟩)) ∧ Below w.heap.size w w' := by
  have h0 : (0 : Int) < (l : Int) := by omega
  go_enter Tryz.func118, Tryz.ntmps118
  go_wp2_with fail
  go_ret
  exact ⟨rfl, below_one w _⟩
/-- at, and the key's look-up behind it. -/
theorem at_look {w y : World} {p m1 m2 n T : Nat} {arr : Array Value} (k v : Int) (s : ByteArray) (ng : Bool) (A1 : Option Addr) (n1 c1 : Nat) (B1 : Option Addr) (q1 d1 : Nat) (ab ao l xc : Nat) (hl : 0 < l)
    (hn : NameS y p m1 m2 n) (ht : Blk y T 27 #[.int .i64 k, .int .i64 v, .string s, .bool ng, .slice A1 n1 c1, .slice B1 q1 d1, .slice (some ⟨ab, ao, none⟩) l xc]) (ha : Blk y ab 27 arr) (hk : Kept (KN m1 m2) w y) :
    Calls Tryz.prog 118 #[.agg #[.int .i64 k, .int .i64 v, .string s, .bool ng, .slice A1 n1 c1, .slice B1 q1 d1, .slice (some ⟨ab, ao, none⟩) l xc]] y fun e y' => ∃ (i : Int) (ok : Bool), e = .returned (.pointer (some ⟨ab, ao, none⟩)) ∧ Hid (i64ok i) ∧ (Instr.lookup 154 (.map (some m1)) (.pointer (some ⟨ab, ao, none⟩)) true).run Tryz.prog y' = .ok (.tuple #[.int .i64 i, .bool ok]) y' ∧
      Hid (NameS y' p m1 m2 n) ∧ Hid (Blk y' T 27 #[.int .i64 k, .int .i64 v, .string s, .bool ng, .slice A1 n1 c1, .slice B1 q1 d1, .slice (some ⟨ab, ao, none⟩) l xc]) ∧ Hid (Blk y' ab 27 arr) ∧ Hid (Kept (KN m1 m2) w y') ∧ (y'.cell? ⟨p, 0, none⟩ = some (.map (some m1)) ∧ y'.cell? ⟨T, 0, none⟩ = some (.int .i64 k) ∧ y'.cell? ⟨T, 1, none⟩ = some (.int .i64 v) ∧ y'.cell? ⟨T, 2, none⟩ = some (.string s) ∧ y'.cell? ⟨T, 3, none⟩ = some (.bool ng) ∧ y'.cell? ⟨T, 4, none⟩ = some (.slice A1 n1 c1) ∧ y'.cell? ⟨T, 5, none⟩ = some (.slice B1 q1 d1) ∧ y'.cell? ⟨T, 6, none⟩ = some (.slice (some ⟨ab, ao, none⟩) l xc)) := by
  refine (at_any k v s ng A1 n1 c1 B1 q1 d1 ab ao l xc hl y).mono ?_
  rintro e y' ⟨rfl, hb⟩
  have hn' := hn.below hb
  have ha' := ha.to hb
  have ht' := ht.to hb
  obtain ⟨i, ok, hi, hr⟩ := hn'.node (k := .pointer (some ⟨ab, ao, none⟩)) ⟨ab, ao, arr, rfl, ha'⟩
  exact ⟨i, ok, rfl, hi, hr, hn', ht', ha', hk.trans (Kept.of_below hb), hn'.nsc.1, ht'.cell 0, ht'.cell 1, ht'.cell 2, ht'.cell 3, ht'.cell 4, ht'.cell 5, ht'.cell 6⟩
/-- at, and the key's entry behind it. -/
theorem at_put {w y : World} {p m1 m2 n T : Nat} {arr : Array Value} (k v : Int) (s : ByteArray) (ng : Bool) (A1 : Option Addr) (n1 c1 : Nat) (B1 : Option Addr) (q1 d1 : Nat) (ab ao l xc : Nat) (hl : 0 < l)
    (hn : NameS y p m1 m2 n) (ht : Blk y T 27 #[.int .i64 k, .int .i64 v, .string s, .bool ng, .slice A1 n1 c1, .slice B1 q1 d1, .slice (some ⟨ab, ao, none⟩) l xc]) (ha : Blk y ab 27 arr) (hk : Kept (KN m1 m2) w y) {i : Int} (hi : i64ok i) :
    Calls Tryz.prog 118 #[.agg #[.int .i64 k, .int .i64 v, .string s, .bool ng, .slice A1 n1 c1, .slice B1 q1 d1, .slice (some ⟨ab, ao, none⟩) l xc]] y fun e y' => ∃ (z : World), e = .returned (.pointer (some ⟨ab, ao, none⟩)) ∧ (Instr.mapUpdate 154 (.map (some m1)) (.pointer (some ⟨ab, ao, none⟩)) (.int .i64 i)).run Tryz.prog y' = .ok () z ∧
      Hid (NameS z p m1 m2 (n + 1)) ∧ Hid (Kept (KN m1 m2) w z) ∧ (y'.cell? ⟨p, 0, none⟩ = some (.map (some m1)) ∧ y'.cell? ⟨T, 0, none⟩ = some (.int .i64 k) ∧ y'.cell? ⟨T, 1, none⟩ = some (.int .i64 v) ∧ y'.cell? ⟨T, 2, none⟩ = some (.string s) ∧ y'.cell? ⟨T, 3, none⟩ = some (.bool ng) ∧ y'.cell? ⟨T, 4, none⟩ = some (.slice A1 n1 c1) ∧ y'.cell? ⟨T, 5, none⟩ = some (.slice B1 q1 d1) ∧ y'.cell? ⟨T, 6, none⟩ = some (.slice (some ⟨ab, ao, none⟩) l xc)) ∧ (z.cell? ⟨p, 0, none⟩ = some (.map (some m1)) ∧ z.cell? ⟨T, 0, none⟩ = some (.int .i64 k) ∧ z.cell? ⟨T, 1, none⟩ = some (.int .i64 v) ∧ z.cell? ⟨T, 2, none⟩ = some (.string s) ∧ z.cell? ⟨T, 3, none⟩ = some (.bool ng) ∧ z.cell? ⟨T, 4, none⟩ = some (.slice A1 n1 c1) ∧ z.cell? ⟨T, 5, none⟩ = some (.slice B1 q1 d1) ∧ z.cell? ⟨T, 6, none⟩ = some (.slice (some ⟨ab, ao, none⟩) l xc)) := by
  refine (at_any k v s ng A1 n1 c1 B1 q1 d1 ab ao l xc hl y).mono ?_
  rintro e y' ⟨rfl, hb⟩
  have hn' := hn.below hb
  have ha' := ha.to hb
  have ht' := ht.to hb
  obtain ⟨z, hr, hz, hkz⟩ := hn'.putNode (k := .pointer (some ⟨ab, ao, none⟩)) ⟨ab, ao, arr, rfl, ha'⟩ hi
  have ht2 := hkz.blk ht' (fun e => hn'.cells ht' (.inl e))
  exact ⟨z, rfl, hr, hz, (hk.trans (Kept.of_below hb)).trans (hkz.mono fun k e => .inl e), ⟨hn'.nsc.1, ht'.cell 0, ht'.cell 1, ht'.cell 2, ht'.cell 3, ht'.cell 4, ht'.cell 5, ht'.cell 6⟩, hz.nsc.1, ht2.cell 0, ht2.cell 1, ht2.cell 2, ht2.cell 3, ht2.cell 4, ht2.cell 5, ht2.cell 6⟩
end Go.Proofs.YtkfnpcilanheiaaGreat

/- The law's sameBindings at equal bindings. And 4 more texts. -/
import Derived.Deep.RegionHeld3
import Derived.WideLaws
import Derived.Test.YtkfnpcilanheiaaGreatJo7
import Derived.Test.YtkfnpcilanheiaaGreatJo19
import Derived.Test.YtkfnpcilanheiaaGreatJo26
set_option linter.unusedVariables false
set_option linter.unusedSimpArgs false
set_option maxRecDepth 100000
namespace Go.Proofs.YtkfnpcilanheiaaGreat
open Go.RowKit NumB
set_option maxHeartbeats 6400000 in
theorem sameB_any {w : World} {bs : List (Int × Tm)} {a b : Value} (ha : BL w a bs) (hb : BL w b bs) (hq : ∀ p ∈ bs, p.2.err0 = 0 ∧ p.2.count ≤ 10000) (hlen : bs.length ≤ 1000000) (W : World) (hW : Below w.heap.size w W) :
    Calls Tryz.prog 16 #[a, b] W fun e W' => e = .returned (.bool true) ∧ Below W.heap.size W W' := by
  have HSH : Hid (∀ x cx, TC w x cx → x.err0 = 0 ∧ x.count ≤ 10000 → ∀ W', Below w.heap.size w W' → Calls Tryz.prog 10 #[.agg cx.toArray] W' fun e w' => e = .returned (.string ⟨x.shp.toArray⟩) ∧ Below W'.heap.size W' w') := fun x cx hx hq W' hb => shape_fine hx (.inr hq) W' hb
  obtain ⟨Aa, ca, csa, rfl, ha1, ha2, ha3, ha4⟩ := ha
  obtain ⟨Ab, cb, csb, rfl, hb1, hb2, hb3, hb4⟩ := hb
  have HR := Lib.hid ha3
  have HA := Lib.hid ha4
  have HR2 := Lib.hid hb3
  have HA2 := Lib.hid hb4
  have HQ := Lib.hid hq
  have HWB := Lib.hid hW
  unfold maxLen at ha2 hb2
  obtain ⟨l, hl⟩ : ∃ l, bs.length = l := ⟨_, rfl⟩
  rw [hl] at ha1 hb1 hlen ⊢
  have HL := Lib.hid hl
  clear hl ha3 ha4 hb3 hb4 hq hW
  have hll : ((l : Int) != (l : Int)) = false := by simp
  go_enter Tryz.func16, Tryz.ntmps16
  go_wp2_with fail
  go_loopg [5] l (fun gk s5 wr => ∃ j : Nat, gk + j = l ∧ s5 = .int .i64 (j : Int) ∧ Hid (Below W.heap.size W wr))
  case atStart => exact ⟨0, by omega, rfl, Below.refl _ _⟩
  case round =>
    obtain ⟨j, hgj, rfl, HB⟩ := hrel
    by_cases hj : j < l
    · have hja : j < bs.length := by rw [HL.out]; exact hj
      have HBW := (HWB.out.trans (HB.out.mono HWB.out.size)).drew
      obtain ⟨pb, po, k5, v5, st5, ng5, A5, n5, c5, B5, b5, d5, X5, l5, e5, hAr, htc, hlt, y0, y1, y2, y3, y4, y5, y6, y7⟩ := bind_cells HR.out HA.out HBW hja
      obtain ⟨tb, tq, k6, v6, st6, ng6, A6, n6, c6, B6, b6, d6, X6, l6, e6, hAr2, htc2, hlt2, z0, z1, z2, z3, z4, z5, z6, z7⟩ := bind_cells HR2.out HA2.out HBW hja
      have HSS : Hid (∀ w', Below w.heap.size w w' → (∀ q, q < 8 → w'.cell? ⟨pb, po + j * 8 + q, none⟩ = wr.drew.cell? ⟨pb, po + j * 8 + q, none⟩) ∧ ∀ q, q < 8 → w'.cell? ⟨tb, tq + j * 8 + q, none⟩ = wr.drew.cell? ⟨tb, tq + j * 8 + q, none⟩) := fun w' hb => ⟨fun q _ => (hb.cell (p := ⟨pb, po + j * 8 + q, none⟩) hlt).trans (HBW.cell (p := ⟨pb, po + j * 8 + q, none⟩) hlt).symm, fun q _ => (hb.cell (p := ⟨tb, tq + j * 8 + q, none⟩) hlt2).trans (HBW.cell (p := ⟨tb, tq + j * 8 + q, none⟩) hlt2).symm⟩
      have hqj := HQ.out _ (List.getElem_mem hja)
      have HC1 := Lib.hid (HSH.out _ _ htc hqj)
      have HC2 := Lib.hid (HSH.out _ _ htc2 hqj)
      obtain ⟨s1, hs1⟩ : ∃ s : ByteArray, (⟨(bs[j]).2.shp.toArray⟩ : ByteArray) = s := ⟨_, rfl⟩
      rw [hs1] at HC1 HC2
      obtain ⟨x, hx⟩ : ∃ x, (bs[j]).1 = x := ⟨_, rfl⟩
      have HS1 : Hid (∀ w', Below w.heap.size w w' → w'.cell? ⟨pb, po + j * 8, none⟩ = some (.int .i64 x) ∧ w'.cell? ⟨pb, po + j * 8 + 1, none⟩ = some (.int .i64 k5) ∧ w'.cell? ⟨pb, po + j * 8 + 2, none⟩ = some (.int .i64 v5) ∧ w'.cell? ⟨pb, po + j * 8 + 3, none⟩ = some (.string st5) ∧ w'.cell? ⟨pb, po + j * 8 + 4, none⟩ = some (.bool ng5) ∧ w'.cell? ⟨pb, po + j * 8 + 5, none⟩ = some (.slice A5 n5 c5) ∧ w'.cell? ⟨pb, po + j * 8 + 6, none⟩ = some (.slice B5 b5 d5) ∧ w'.cell? ⟨pb, po + j * 8 + 7, none⟩ = some (.slice X5 l5 e5) ∧ w'.cell? ⟨tb, tq + j * 8, none⟩ = some (.int .i64 x) ∧ w'.cell? ⟨tb, tq + j * 8 + 1, none⟩ = some (.int .i64 k6) ∧ w'.cell? ⟨tb, tq + j * 8 + 2, none⟩ = some (.int .i64 v6) ∧ w'.cell? ⟨tb, tq + j * 8 + 3, none⟩ = some (.string st6) ∧ w'.cell? ⟨tb, tq + j * 8 + 4, none⟩ = some (.bool ng6) ∧ w'.cell? ⟨tb, tq + j * 8 + 5, none⟩ = some (.slice A6 n6 c6) ∧ w'.cell? ⟨tb, tq + j * 8 + 6, none⟩ = some (.slice B6 b6 d6) ∧ w'.cell? ⟨tb, tq + j * 8 + 7, none⟩ = some (.slice X6 l6 e6)) := fun w' hb => by
        obtain ⟨pb', po', _, _, _, _, _, _, _, _, _, _, _, _, _, ea, ec, _, x0, x1, x2, x3, x4, x5, x6, x7⟩ := bind_cells HR.out HA.out hb hja
        obtain ⟨tb', tq', _, _, _, _, _, _, _, _, _, _, _, _, _, ea2, ec2, _, u0, u1, u2, u3, u4, u5, u6, u7⟩ := bind_cells HR2.out HA2.out hb hja
        rw [hAr] at ea
        rw [hAr2] at ea2
        cases ea
        cases ea2
        obtain ⟨ct, e1, _⟩ := HA.out j hja
        obtain ⟨ct2, e2, _⟩ := HA2.out j hja
        rw [hx] at x0 u0
        have g := HSS.out w' hb
        exact ⟨x0, (g.1 1 (by omega)).trans y1, (g.1 2 (by omega)).trans y2, (g.1 3 (by omega)).trans y3, (g.1 4 (by omega)).trans y4, (g.1 5 (by omega)).trans y5, (g.1 6 (by omega)).trans y6, (g.1 7 (by omega)).trans y7, u0, (g.2 1 (by omega)).trans z1, (g.2 2 (by omega)).trans z2, (g.2 3 (by omega)).trans z3, (g.2 4 (by omega)).trans z4, (g.2 5 (by omega)).trans z5, (g.2 6 (by omega)).trans z6, (g.2 7 (by omega)).trans z7⟩
      subst hAr hAr2
      have HBD := Lib.hid HBW
      have hS0 := HS1.out _ HBW
      have hij0 : (0 : Int) ≤ (j : Int) := by omega
      have hijl : (j : Int) < (l : Int) := by omega
      have hxx : (x != x) = false := by simp
      have hxe : (x == x) = true := by simp
      have hss : (s1.toList == s1.toList) = true := beq_self_eq_true _
      have HQ1 : Hid (∀ y, Hid (Below wr.drew.heap.size wr.drew y) → Calls Tryz.prog 10 #[.agg #[.int .i64 k5, .int .i64 v5, .string st5, .bool ng5, .slice A5 n5 c5, .slice B5 b5 d5, .slice X5 l5 e5]] y fun e w' => e = .returned (.string s1) ∧ Hid (Below wr.drew.heap.size wr.drew w') ∧ (w'.cell? ⟨pb, po + j * 8, none⟩ = some (.int .i64 x) ∧ w'.cell? ⟨pb, po + j * 8 + 1, none⟩ = some (.int .i64 k5) ∧ w'.cell? ⟨pb, po + j * 8 + 2, none⟩ = some (.int .i64 v5) ∧ w'.cell? ⟨pb, po + j * 8 + 3, none⟩ = some (.string st5) ∧ w'.cell? ⟨pb, po + j * 8 + 4, none⟩ = some (.bool ng5) ∧ w'.cell? ⟨pb, po + j * 8 + 5, none⟩ = some (.slice A5 n5 c5) ∧ w'.cell? ⟨pb, po + j * 8 + 6, none⟩ = some (.slice B5 b5 d5) ∧ w'.cell? ⟨pb, po + j * 8 + 7, none⟩ = some (.slice X5 l5 e5) ∧ w'.cell? ⟨tb, tq + j * 8, none⟩ = some (.int .i64 x) ∧ w'.cell? ⟨tb, tq + j * 8 + 1, none⟩ = some (.int .i64 k6) ∧ w'.cell? ⟨tb, tq + j * 8 + 2, none⟩ = some (.int .i64 v6) ∧ w'.cell? ⟨tb, tq + j * 8 + 3, none⟩ = some (.string st6) ∧ w'.cell? ⟨tb, tq + j * 8 + 4, none⟩ = some (.bool ng6) ∧ w'.cell? ⟨tb, tq + j * 8 + 5, none⟩ = some (.slice A6 n6 c6) ∧ w'.cell? ⟨tb, tq + j * 8 + 6, none⟩ = some (.slice B6 b6 d6) ∧ w'.cell? ⟨tb, tq + j * 8 + 7, none⟩ = some (.slice X6 l6 e6))) := fun y hy => (HC1.out y (HBD.out.trans (hy.out.mono HBD.out.size))).mono fun e w' q => by
        have hb' := hy.out.trans (q.2.mono hy.out.size)
        exact ⟨q.1, hb', HS1.out _ (HBD.out.trans (hb'.mono HBD.out.size))⟩
      have HQ2 : Hid (∀ y, Hid (Below wr.drew.heap.size wr.drew y) → Calls Tryz.prog 10 #[.agg #[.int .i64 k6, .int .i64 v6, .string st6, .bool ng6, .slice A6 n6 c6, .slice B6 b6 d6, .slice X6 l6 e6]] y fun e w' => e = .returned (.string s1) ∧ Hid (Below wr.drew.heap.size wr.drew w') ∧ (w'.cell? ⟨pb, po + j * 8, none⟩ = some (.int .i64 x) ∧ w'.cell? ⟨pb, po + j * 8 + 1, none⟩ = some (.int .i64 k5) ∧ w'.cell? ⟨pb, po + j * 8 + 2, none⟩ = some (.int .i64 v5) ∧ w'.cell? ⟨pb, po + j * 8 + 3, none⟩ = some (.string st5) ∧ w'.cell? ⟨pb, po + j * 8 + 4, none⟩ = some (.bool ng5) ∧ w'.cell? ⟨pb, po + j * 8 + 5, none⟩ = some (.slice A5 n5 c5) ∧ w'.cell? ⟨pb, po + j * 8 + 6, none⟩ = some (.slice B5 b5 d5) ∧ w'.cell? ⟨pb, po + j * 8 + 7, none⟩ = some (.slice X5 l5 e5) ∧ w'.cell? ⟨tb, tq + j * 8, none⟩ = some (.int .i64 x) ∧ w'.cell? ⟨tb, tq + j * 8 + 1, none⟩ = some (.int .i64 k6) ∧ w'.cell? ⟨tb, tq + j * 8 + 2, none⟩ = some (.int .i64 v6) ∧ w'.cell? ⟨tb, tq + j * 8 + 3, none⟩ = some (.string st6) ∧ w'.cell? ⟨tb, tq + j * 8 + 4, none⟩ = some (.bool ng6) ∧ w'.cell? ⟨tb, tq + j * 8 + 5, none⟩ = some (.slice A6 n6 c6) ∧ w'.cell? ⟨tb, tq + j * 8 + 6, none⟩ = some (.slice B6 b6 d6) ∧ w'.cell? ⟨tb, tq + j * 8 + 7, none⟩ = some (.slice X6 l6 e6))) := fun y hy => (HC2.out y (HBD.out.trans (hy.out.mono HBD.out.size))).mono fun e w' q => by
        have hb' := hy.out.trans (q.2.mono hy.out.size)
        exact ⟨q.1, hb', HS1.out _ (HBD.out.trans (hb'.mono HBD.out.size))⟩
      have HBZ : Hid (Below wr.drew.heap.size wr.drew wr.drew) := Below.refl _ _
      clear HBW htc htc2 hlt hlt2 y0 y1 y2 y3 y4 y5 y6 y7 z0 z1 z2 z3 z4 z5 z6 z7 HSS hqj HC1 HC2 hs1 hx HS1 HBD
      go_wp2_with fail
      go_region_held3 (fun w' => w'.cell? ⟨pb, po + j * 8, none⟩ = some (.int .i64 x) ∧ w'.cell? ⟨pb, po + j * 8 + 1, none⟩ = some (.int .i64 k5) ∧ w'.cell? ⟨pb, po + j * 8 + 2, none⟩ = some (.int .i64 v5) ∧ w'.cell? ⟨pb, po + j * 8 + 3, none⟩ = some (.string st5) ∧ w'.cell? ⟨pb, po + j * 8 + 4, none⟩ = some (.bool ng5) ∧ w'.cell? ⟨pb, po + j * 8 + 5, none⟩ = some (.slice A5 n5 c5) ∧ w'.cell? ⟨pb, po + j * 8 + 6, none⟩ = some (.slice B5 b5 d5) ∧ w'.cell? ⟨pb, po + j * 8 + 7, none⟩ = some (.slice X5 l5 e5) ∧ w'.cell? ⟨tb, tq + j * 8, none⟩ = some (.int .i64 x) ∧ w'.cell? ⟨tb, tq + j * 8 + 1, none⟩ = some (.int .i64 k6) ∧ w'.cell? ⟨tb, tq + j * 8 + 2, none⟩ = some (.int .i64 v6) ∧ w'.cell? ⟨tb, tq + j * 8 + 3, none⟩ = some (.string st6) ∧ w'.cell? ⟨tb, tq + j * 8 + 4, none⟩ = some (.bool ng6) ∧ w'.cell? ⟨tb, tq + j * 8 + 5, none⟩ = some (.slice A6 n6 c6) ∧ w'.cell? ⟨tb, tq + j * 8 + 6, none⟩ = some (.slice B6 b6 d6) ∧ w'.cell? ⟨tb, tq + j * 8 + 7, none⟩ = some (.slice X6 l6 e6))
        (with_reducible assumption)
        (first
          | (go_at_call 10; (with_reducible refine (HQ1.out _ HBZ).mono ?_); rintro e y1 ⟨rfl, HB3, hS1⟩)
          | (go_at_call 10; (with_reducible refine (HQ2.out _ HB3).mono ?_); rintro e y2 ⟨rfl, HB4, hS2⟩))
      have HB5 : Hid (Below W.heap.size W y2) := HB.out.drew.trans (HB4.out.mono HB.out.size)
      clear hS0 hS1 hS2 HQ1 HQ2 HB3 HB4 HBZ
      go_wp2_with fail
      go_roundg (gk - 1)
      case measure => omega
      case rel => exact ⟨j + 1, by omega, by go_num, HB5.out⟩
    · obtain rfl : l = j := by omega
      go_wp2_with fail
      go_ret
      exact ⟨rfl, HB.out⟩
end Go.Proofs.YtkfnpcilanheiaaGreat
namespace Go.Proofs.YtkfnpcilanheiaaGreat
open Go.ChangeShapes Go.WideShapes Go.ChangeAt Go.RowKit Go.Joins Go.Deep NumB
theorem open_term {H : Type} {enc : TypeId × Value → H} {W : World} {base : Nat} {v : Value} {d : DataW H} {p : List MemPlace}
    (hv : Value.okWide Tryz.prog W .any base 27 v) (h : DataW.Trod enc Tryz.prog W 0 (fun _ => true) true 27 v d p) : ∃ t cs, v = .agg cs.toArray ∧ TC W t cs := by
  obtain ⟨cs, rfl, hsz⟩ := okWide_struct Tryz.underlying27 hv
  obtain ⟨fuel, hf⟩ := h
  obtain ⟨t, ht⟩ := open_tm fuel _ _ hf
  exact ⟨t, cs.toList, rfl, ht⟩
end Go.Proofs.YtkfnpcilanheiaaGreat
namespace Go.Proofs.YtkfnpcilanheiaaGreat.LawTmMatch
open Go.ChangeShapes Go.WideShapes Go.ChangeAt Go.RowKit NumB
def Walk : Prop := ∀ (t0 : Tm) (c0 : List Value) (t1 : Tm) (c1 : List Value) (w : World), TC w t0 c0 → TC w t1 c1 →
  Calls Tryz.prog 4 #[.agg c0.toArray, .agg c1.toArray] w fun e w' => e = .returned (.bool true) ∧ Below w.heap.size w w'
theorem contract (hwalk : Walk) (H : Type) (enc : TypeId × Value → H) (W : World) (base : Nat) (args : Array Value) (ds gs : List (DataW H)) (before : List MemPlace)
    (hval : ∀ (j : Nat) t v, Tryz.f4.params[j]? = some t → args[j]? = some v → Value.okWide Tryz.prog W .any base t v)
    (hW : DataW.Whole enc Tryz.prog Tryz.f4.params.toList Rows.termMatchMapsSpec.vars false W args.toList ds gs before) :
    Calls Tryz.prog 4 args W fun e W' => ∃ v, e = .returned v ∧ Rows.termMatchMapsSpec.post enc Tryz.prog Tryz.f4 false true false false W args v W' := by
  have hW' := hW
  obtain ⟨p, q, hA0, hV, rfl, hfz, hnd⟩ := hW
  have hA : DataW.TrodAll enc Tryz.prog W 0 (fun _ => true) true Tryz.f4.params.toList args.toList ds p := hA0
  have hA1 := hA
  clear hA0
  rw [Tryz.params4] at hA hval
  obtain ⟨v0, vs0, d0, ds0, p0, q0, hargs, rfl, rfl, h0, r0⟩ := trodAll_cons hA
  obtain ⟨v1, vs1, d1, ds1, p1, q1, rfl, rfl, rfl, h1, r1⟩ := trodAll_cons r0
  obtain ⟨rfl, rfl, rfl⟩ := trodAll_nil r1
  obtain rfl : args = #[v0, v1] := by cases args; simp_all
  obtain ⟨rfl, rfl⟩ := trodVars_none hV
  obtain ⟨t0, c0, rfl, hx0⟩ := open_term (hval 0 27 v0 rfl rfl) h0
  obtain ⟨t1, c1, rfl, hx1⟩ := open_term (hval 1 27 v1 rfl rfl) h1
  simp only [List.append_nil] at hW' hA1
  refine (hwalk t0 c0 t1 c1 W hx0 hx1).mono fun e W' ⟨he, hb⟩ => ?_
  subst he
  refine ⟨_, rfl, post_law rfl hW' hA1 ?_ rfl rfl hb⟩
  rw [Tryz.params4]
  intro t ht
  have hm : t ∈ [27, 27] := by simpa using ht
  have hall : ([27, 27].all fun u => Tryz.prog.readableRec u && decide (u < Tryz.prog.types.size)) = true := by kernel_rfl
  have := List.all_eq_true.1 hall t hm
  simp only [Bool.and_eq_true, decide_eq_true_eq] at this
  exact this
def wit : Array Value := #[.agg #[.int .i64 0, .int .i64 0, .string ⟨#[]⟩, .bool false, .slice none 0 0, .slice none 0 0, .slice none 0 0], .agg #[.int .i64 0, .int .i64 0, .string ⟨#[]⟩, .bool false, .slice none 0 0, .slice none 0 0, .slice none 0 0]]
theorem laid_met (os : Os) : laidMet Tryz.prog Rows.termMatchMapsRow.laid ((World.laidAll Tryz.prog os Rows.termMatchMapsRow.laid).forCall (fun _ _ => 0) ⟨#[], wit, []⟩).memory :=
  laidMet_laidAll wit (by kernel_rfl) (by kernel_rfl)
theorem reads (os : Os) {H : Type} (enc : TypeId × Value → H) : ∃ ds places, DataW.whole enc Tryz.prog ((World.laidAll Tryz.prog os Rows.termMatchMapsRow.laid).forCall (fun _ _ => 0) ⟨#[], wit, []⟩).memory Tryz.f4.params.toList Rows.termMatchMapsSpec.vars false wit.toList 8 = some (ds, [], places) :=
  ⟨[.agg [.lit (.int .i64 0), .lit (.int .i64 0), .lit (.string []), .agg [.lit (.bool false), .nil, .nil], .nil], .agg [.lit (.int .i64 0), .lit (.int .i64 0), .lit (.string []), .agg [.lit (.bool false), .nil, .nil], .nil]], [], by kernel_rfl⟩
theorem lifted (hwalk : Walk) (os : Os) (started : os.Started) (H : Type) (enc : TypeId × Value → H) (F : Stop.Interp) :
    ReturnsInHanded {} Tryz.checked os 4 .any ((OpenSpec.ofChange Rows.termMatchMapsSpec).preRow enc Tryz.prog Tryz.f4 Rows.termMatchMapsRow.domain false Rows.termMatchMapsRow.laid) (((OpenSpec.ofChange Rows.termMatchMapsSpec).at F).post enc Tryz.prog Tryz.f4 false true false false) := by
  obtain ⟨ds, places, hx⟩ := reads os enc
  refine returnsInHanded_of_row (C := Tryz.checked) (s := OpenSpec.ofChange Rows.termMatchMapsSpec) own started (by kernel_rfl) Tryz.func4
    (witness_row_at (enc := enc) (C := Tryz.checked) false (World.laidAll Tryz.prog os Rows.termMatchMapsRow.laid) wit rfl (by kernel_rfl) (by kernel_rfl) (by kernel_rfl)
      (OpenSpec.preRow_of_cond 8 hx (by kernel_rfl) (fun k hk => by cases hk) (by kernel_rfl) (laid_met os))) ?_
  intro W base args ds gs before hval hW _ _ hwt hL _ _
  exact contract hwalk H enc W base args ds gs before hval hW
theorem said (hwalk : Walk) : Rows.TermMatchMapsSaid :=
  OpenClaim.holds_of_cond 4 Tryz.f4 rfl rfl rfl rfl rfl rfl rfl ⟨rfl, rfl, rfl, rfl, rfl⟩ rfl rfl rfl rfl rfl (by kernel_rfl) Tryz.func4 (by kernel_rfl)
    (of_decide_eq_true (by kernel_rfl)) (by unfold Func.isWrapper; first | (rw [if_pos (by decide +kernel)]; kernel_rfl) | (rw [if_neg (by decide +kernel)]; exact ⟨rfl, rfl⟩))
    (fun os started H enc _ F => by rw [OpenClaim.pre_eq_preRow]; exact lifted hwalk os started H enc F)
end Go.Proofs.YtkfnpcilanheiaaGreat.LawTmMatch
namespace Go.Proofs.YtkfnpcilanheiaaGreat
open Go.RowKit NumB
set_option maxHeartbeats 3200000 in
theorem name_leaf (p m1 m2 n : Nat) (k v : Int) (s : ByteArray) (ng : Bool) (A1 : Option Addr) (n1 c1 : Nat) (B1 : Option Addr) (q1 d1 : Nat) (X : Option Addr) (xl xc : Nat) (hk : k = 1 ∨ k = 3) (hv : i64ok v) (hs : s.size ≤ 1000) (w : World) (h : NameS w p m1 m2 n) (hn : n ≤ 1000) :
    Calls Tryz.prog 255 #[.pointer (some ⟨p, 0, none⟩), .agg #[.int .i64 k, .int .i64 v, .string s, .bool ng, .slice A1 n1 c1, .slice B1 q1 d1, .slice X xl xc]] w fun e w' => ∃ i, e = .returned (.int .i64 i) ∧ i64ok i ∧ NameS w' p m1 m2 (n + 1) ∧ Kept (KN m1 m2) w w' := by
  have HN := Lib.hid h
  have HV := Lib.hid hv
  have HK := Lib.hid hk
  have HBT := Lib.hid (Blk.new w 27 #[.int .i64 k, .int .i64 v, .string s, .bool ng, .slice A1 n1 c1, .slice B1 q1 d1, .slice X xl xc])
  have HB0 := Lib.hid (BD.new (w.alloc (.cells #[.int .i64 k, .int .i64 v, .string s, .bool ng, .slice A1 n1 c1, .slice B1 q1 d1, .slice X xl xc] 27)))
  rw [show (w.alloc (.cells #[.int .i64 k, .int .i64 v, .string s, .bool ng, .slice A1 n1 c1, .slice B1 q1 d1, .slice X xl xc] 27)).heap.size = w.heap.size + 1 by simp] at HB0
  have HW0 : Hid (Below w.heap.size w ((w.alloc (.cells #[.int .i64 k, .int .i64 v, .string s, .bool ng, .slice A1 n1 c1, .slice B1 q1 d1, .slice X xl xc] 27)).alloc (.cells #[.pointer none, .slice none 0 0] 276))) := below_pair w _ _
  have k5 : (k == 5) = false := beq_eq_false_iff_ne.2 (by omega)
  have k2 : (k == 2) = false := beq_eq_false_iff_ne.2 (by omega)
  have HK8 : Hid (0 ≤ k % 256 ∧ k % 256 ≤ 255) := ⟨by omega, by omega⟩
  clear h hv hk
  go_enter Tryz.func255, Tryz.ntmps255
  go_wp2_with fail
  have HT0 := Lib.hid (HBT.out.alloc (.cells #[.pointer none, .slice none 0 0] 276))
  refine (writeByte_any (w.heap.size + 1) (w.heap.size + 1) 0 _ _ HB0.out HK8.out.1 HK8.out.2 (by omega) (by simp)).mono ?_
  rintro e y1 ⟨rfl, hd, hb, ho⟩
  have HD1 := Lib.hid hd
  have HN1 := Lib.hid ((HN.out.below HW0.out).others ho HB0.out)
  have HT1 := Lib.hid (HT0.out.others (by decide) (by decide) ho HB0.out)
  have HW1 : Hid (w.heap.size + 1 ≤ y1.heap.size ∧ Kept (KN m1 m2) w y1) := ⟨Nat.le_trans (by simp) hb.size, (Kept.of_below HW0.out).thenB hb (by omega)⟩
  clear hd hb ho
  have t0 := HT1.out.cell 0
  have t1 := HT1.out.cell 1
  have t2 := HT1.out.cell 2
  simp only [List.getElem?_toArray, List.getElem?_cons_zero, List.getElem?_cons_succ] at t0 t1 t2
  rcases HK.out with rfl | rfl
  · go_wp2_with fail
    refine (put_any (w.heap.size + 1) (w.heap.size + 1) 1 v HV.out y1 HD1.out (by omega) HW1.out.1).mono ?_
    rintro e y2 ⟨rfl, hd, hb, ho⟩
    have HD2 := Lib.hid (hd.le (by omega : _ ≤ 2000))
    have HN2 := Lib.hid (HN1.out.others ho HD1.out)
    have HT2 := Lib.hid (HT1.out.others (by decide) (by decide) ho HD1.out)
    have HW2 : Hid (w.heap.size + 1 ≤ y2.heap.size ∧ Kept (KN m1 m2) w y2) := ⟨Nat.le_trans HW1.out.1 hb.size, HW1.out.2.thenB hb (by omega)⟩
    clear hd hb ho t0 t1 t2
    go_wp2_with fail
    have hS2 : y2.drew.cell? ⟨p, 0, none⟩ = some (.map (some m1)) ∧ y2.drew.cell? ⟨p, 1, none⟩ = some (.map (some m2)) := HN2.out.drew.nsc
    have HSTR := Lib.hid (str_form (w := w) HD2.out.drew HN2.out.drew HT2.out.drew HW2.out.1 HW2.out.2.drew (by omega))
    go_region_held3 (fun w' => w'.cell? ⟨p, 0, none⟩ = some (.map (some m1)) ∧ w'.cell? ⟨p, 1, none⟩ = some (.map (some m2)))
      (first | assumption | (go_keep; done))
      (first
        | (go_at_call 286; (with_reducible refine HSTR.out.mono ?_); rintro e y3 ⟨s3, i3, ok3, rfl, hi3, hl3, HD3, HN3, HT3, HW3, hS3⟩))
    clear hS2 HSTR hl3 hS3
    have t0 := HT3.out.cell 0
    simp only [List.getElem?_toArray, List.getElem?_cons_zero, List.getElem?_cons_succ] at t0
    cases ok3 with
    | true =>
      go_wp2_with fail
      go_ret
      exact ⟨i3, rfl, hi3.out, HN3.out.mono (by omega), HW3.out.2⟩
    | false =>
      obtain ⟨es, cl, hm, hms⟩ := HN3.out.len
      obtain ⟨e0, e1⟩ := HN3.out.nsc
      have hlen : (Builtin.len_ #[158] 3 #[.map (some m2)]).run Tryz.prog y3 = .ok (.int .i64 (es.size : Int)) y3 := run_len_map y3 _ _ m2 es cl (by kernel_rfl) hm
      go_wp2_with fail
      have HI4 : Hid (i64ok (es.size : Int)) := ⟨by omega, by omega⟩
      have hS4 : y3.drew.cell? ⟨p, 0, none⟩ = some (.map (some m1)) ∧ y3.drew.cell? ⟨p, 1, none⟩ = some (.map (some m2)) := HN3.out.drew.nsc
      have HSTR := Lib.hid (str_put (w := w) HD3.out.drew HN3.out.drew HT3.out.drew HW3.out.1 HW3.out.2.drew (by omega) HI4.out)
      clear hm hms e0 e1 t0 hlen
      go_region_held3 (fun w' => w'.cell? ⟨p, 0, none⟩ = some (.map (some m1)) ∧ w'.cell? ⟨p, 1, none⟩ = some (.map (some m2)))
        (first | assumption | (go_keep; done))
        (first
          | (go_at_call 286; (with_reducible refine HSTR.out.mono ?_); rintro e y5 ⟨s5, y4, rfl, hl5, HD4, HN4, HT4, HW4, hS5, hS6⟩))
      clear hS4 HSTR hl5 hS5 hS6
      have t0 := HT4.out.cell 0
      simp only [List.getElem?_toArray, List.getElem?_cons_zero, List.getElem?_cons_succ] at t0
      go_wp2_with fail
      go_ret
      exact ⟨_, rfl, HI4.out, HN4.out.mono (by omega), HW4.out.2⟩
  · go_wp2_with fail
    refine (writeString_any (w.heap.size + 1) (w.heap.size + 1) 1 s y1 HD1.out (by omega) (by omega) HW1.out.1).mono ?_
    rintro e y2 ⟨rfl, hd, hb, ho⟩
    have HD2 := Lib.hid (hd.le (by omega : _ ≤ 2000))
    have HN2 := Lib.hid (HN1.out.others ho HD1.out)
    have HT2 := Lib.hid (HT1.out.others (by decide) (by decide) ho HD1.out)
    have HW2 : Hid (w.heap.size + 1 ≤ y2.heap.size ∧ Kept (KN m1 m2) w y2) := ⟨Nat.le_trans HW1.out.1 hb.size, HW1.out.2.thenB hb (by omega)⟩
    clear hd hb ho t0 t1 t2
    go_wp2_with fail
    have hS2 : y2.drew.cell? ⟨p, 0, none⟩ = some (.map (some m1)) ∧ y2.drew.cell? ⟨p, 1, none⟩ = some (.map (some m2)) := HN2.out.drew.nsc
    have HSTR := Lib.hid (str_form (w := w) HD2.out.drew HN2.out.drew HT2.out.drew HW2.out.1 HW2.out.2.drew (by omega))
    go_region_held3 (fun w' => w'.cell? ⟨p, 0, none⟩ = some (.map (some m1)) ∧ w'.cell? ⟨p, 1, none⟩ = some (.map (some m2)))
      (first | assumption | (go_keep; done))
      (first
        | (go_at_call 286; (with_reducible refine HSTR.out.mono ?_); rintro e y3 ⟨s3, i3, ok3, rfl, hi3, hl3, HD3, HN3, HT3, HW3, hS3⟩))
    clear hS2 HSTR hl3 hS3
    have t0 := HT3.out.cell 0
    simp only [List.getElem?_toArray, List.getElem?_cons_zero, List.getElem?_cons_succ] at t0
    cases ok3 with
    | true =>
      go_wp2_with fail
      go_ret
      exact ⟨i3, rfl, hi3.out, HN3.out.mono (by omega), HW3.out.2⟩
    | false =>
      obtain ⟨es, cl, hm, hms⟩ := HN3.out.len
      obtain ⟨e0, e1⟩ := HN3.out.nsc
      have hlen : (Builtin.len_ #[158] 3 #[.map (some m2)]).run Tryz.prog y3 = .ok (.int .i64 (es.size : Int)) y3 := run_len_map y3 _ _ m2 es cl (by kernel_rfl) hm
      go_wp2_with fail
      have HI4 : Hid (i64ok (es.size : Int)) := ⟨by omega, by omega⟩
      have hS4 : y3.drew.cell? ⟨p, 0, none⟩ = some (.map (some m1)) ∧ y3.drew.cell? ⟨p, 1, none⟩ = some (.map (some m2)) := HN3.out.drew.nsc
      have HSTR := Lib.hid (str_put (w := w) HD3.out.drew HN3.out.drew HT3.out.drew HW3.out.1 HW3.out.2.drew (by omega) HI4.out)
      clear hm hms e0 e1 t0 hlen
      go_region_held3 (fun w' => w'.cell? ⟨p, 0, none⟩ = some (.map (some m1)) ∧ w'.cell? ⟨p, 1, none⟩ = some (.map (some m2)))
        (first | assumption | (go_keep; done))
        (first
          | (go_at_call 286; (with_reducible refine HSTR.out.mono ?_); rintro e y5 ⟨s5, y4, rfl, hl5, HD4, HN4, HT4, HW4, hS5, hS6⟩))
      clear hS4 HSTR hl5 hS5 hS6
      have t0 := HT4.out.cell 0
      simp only [List.getElem?_toArray, List.getElem?_cons_zero, List.getElem?_cons_succ] at t0
      go_wp2_with fail
      go_ret
      exact ⟨_, rfl, HI4.out, HN4.out.mono (by omega), HW4.out.2⟩
theorem at_any (k v : Int) (s : ByteArray) (ng : Bool) (A1 : Option Addr) (n1 c1 : Nat) (B1 : Option Addr) (q1 d1 : Nat) (ab ao l xc : Nat) (hl : 0 < l) (w : World) :
    Calls Tryz.prog 118 #[.agg #[.int .i64 k, .int .i64 v, .string s, .bool ng, .slice A1 n1 c1, .slice B1 q1 d1, .slice (some ⟨ab, ao, none⟩) l xc]] w fun e w' => e = .returned (.pointer (some ⟨ab, ao, none⟩)) ∧ Below w.heap.size w w' := by
  have h0 : (0 : Int) < (l : Int) := by omega
  go_enter Tryz.func118, Tryz.ntmps118
  go_wp2_with fail
  go_ret
  exact ⟨rfl, below_one w _⟩
theorem at_look {w y : World} {p m1 m2 n T : Nat} {arr : Array Value} (k v : Int) (s : ByteArray) (ng : Bool) (A1 : Option Addr) (n1 c1 : Nat) (B1 : Option Addr) (q1 d1 : Nat) (ab ao l xc : Nat) (hl : 0 < l)
    (hn : NameS y p m1 m2 n) (ht : Blk y T 27 #[.int .i64 k, .int .i64 v, .string s, .bool ng, .slice A1 n1 c1, .slice B1 q1 d1, .slice (some ⟨ab, ao, none⟩) l xc]) (ha : Blk y ab 27 arr) (hk : Kept (KN m1 m2) w y) :
    Calls Tryz.prog 118 #[.agg #[.int .i64 k, .int .i64 v, .string s, .bool ng, .slice A1 n1 c1, .slice B1 q1 d1, .slice (some ⟨ab, ao, none⟩) l xc]] y fun e y' => ∃ (i : Int) (ok : Bool), e = .returned (.pointer (some ⟨ab, ao, none⟩)) ∧ Hid (i64ok i) ∧ (Instr.lookup 154 (.map (some m1)) (.pointer (some ⟨ab, ao, none⟩)) true).run Tryz.prog y' = .ok (.tuple #[.int .i64 i, .bool ok]) y' ∧
      Hid (NameS y' p m1 m2 n) ∧ Hid (Blk y' T 27 #[.int .i64 k, .int .i64 v, .string s, .bool ng, .slice A1 n1 c1, .slice B1 q1 d1, .slice (some ⟨ab, ao, none⟩) l xc]) ∧ Hid (Blk y' ab 27 arr) ∧ Hid (Kept (KN m1 m2) w y') ∧ (y'.cell? ⟨p, 0, none⟩ = some (.map (some m1)) ∧ y'.cell? ⟨T, 0, none⟩ = some (.int .i64 k) ∧ y'.cell? ⟨T, 1, none⟩ = some (.int .i64 v) ∧ y'.cell? ⟨T, 2, none⟩ = some (.string s) ∧ y'.cell? ⟨T, 3, none⟩ = some (.bool ng) ∧ y'.cell? ⟨T, 4, none⟩ = some (.slice A1 n1 c1) ∧ y'.cell? ⟨T, 5, none⟩ = some (.slice B1 q1 d1) ∧ y'.cell? ⟨T, 6, none⟩ = some (.slice (some ⟨ab, ao, none⟩) l xc)) := by
  refine (at_any k v s ng A1 n1 c1 B1 q1 d1 ab ao l xc hl y).mono ?_
  rintro e y' ⟨rfl, hb⟩
  have hn' := hn.below hb
  have ha' := ha.to hb
  have ht' := ht.to hb
  obtain ⟨i, ok, hi, hr⟩ := hn'.node (k := .pointer (some ⟨ab, ao, none⟩)) ⟨ab, ao, arr, rfl, ha'⟩
  exact ⟨i, ok, rfl, hi, hr, hn', ht', ha', hk.trans (Kept.of_below hb), hn'.nsc.1, ht'.cell 0, ht'.cell 1, ht'.cell 2, ht'.cell 3, ht'.cell 4, ht'.cell 5, ht'.cell 6⟩
theorem at_put {w y : World} {p m1 m2 n T : Nat} {arr : Array Value} (k v : Int) (s : ByteArray) (ng : Bool) (A1 : Option Addr) (n1 c1 : Nat) (B1 : Option Addr) (q1 d1 : Nat) (ab ao l xc : Nat) (hl : 0 < l)
    (hn : NameS y p m1 m2 n) (ht : Blk y T 27 #[.int .i64 k, .int .i64 v, .string s, .bool ng, .slice A1 n1 c1, .slice B1 q1 d1, .slice (some ⟨ab, ao, none⟩) l xc]) (ha : Blk y ab 27 arr) (hk : Kept (KN m1 m2) w y) {i : Int} (hi : i64ok i) :
    Calls Tryz.prog 118 #[.agg #[.int .i64 k, .int .i64 v, .string s, .bool ng, .slice A1 n1 c1, .slice B1 q1 d1, .slice (some ⟨ab, ao, none⟩) l xc]] y fun e y' => ∃ (z : World), e = .returned (.pointer (some ⟨ab, ao, none⟩)) ∧ (Instr.mapUpdate 154 (.map (some m1)) (.pointer (some ⟨ab, ao, none⟩)) (.int .i64 i)).run Tryz.prog y' = .ok () z ∧
      Hid (NameS z p m1 m2 (n + 1)) ∧ Hid (Kept (KN m1 m2) w z) ∧ (y'.cell? ⟨p, 0, none⟩ = some (.map (some m1)) ∧ y'.cell? ⟨T, 0, none⟩ = some (.int .i64 k) ∧ y'.cell? ⟨T, 1, none⟩ = some (.int .i64 v) ∧ y'.cell? ⟨T, 2, none⟩ = some (.string s) ∧ y'.cell? ⟨T, 3, none⟩ = some (.bool ng) ∧ y'.cell? ⟨T, 4, none⟩ = some (.slice A1 n1 c1) ∧ y'.cell? ⟨T, 5, none⟩ = some (.slice B1 q1 d1) ∧ y'.cell? ⟨T, 6, none⟩ = some (.slice (some ⟨ab, ao, none⟩) l xc)) ∧ (z.cell? ⟨p, 0, none⟩ = some (.map (some m1)) ∧ z.cell? ⟨T, 0, none⟩ = some (.int .i64 k) ∧ z.cell? ⟨T, 1, none⟩ = some (.int .i64 v) ∧ z.cell? ⟨T, 2, none⟩ = some (.string s) ∧ z.cell? ⟨T, 3, none⟩ = some (.bool ng) ∧ z.cell? ⟨T, 4, none⟩ = some (.slice A1 n1 c1) ∧ z.cell? ⟨T, 5, none⟩ = some (.slice B1 q1 d1) ∧ z.cell? ⟨T, 6, none⟩ = some (.slice (some ⟨ab, ao, none⟩) l xc)) := by
  refine (at_any k v s ng A1 n1 c1 B1 q1 d1 ab ao l xc hl y).mono ?_
  rintro e y' ⟨rfl, hb⟩
  have hn' := hn.below hb
  have ha' := ha.to hb
  have ht' := ht.to hb
  obtain ⟨z, hr, hz, hkz⟩ := hn'.putNode (k := .pointer (some ⟨ab, ao, none⟩)) ⟨ab, ao, arr, rfl, ha'⟩ hi
  have ht2 := hkz.blk ht' (fun e => hn'.cells ht' (.inl e))
  exact ⟨z, rfl, hr, hz, (hk.trans (Kept.of_below hb)).trans (hkz.mono fun k e => .inl e), ⟨hn'.nsc.1, ht'.cell 0, ht'.cell 1, ht'.cell 2, ht'.cell 3, ht'.cell 4, ht'.cell 5, ht'.cell 6⟩, hz.nsc.1, ht2.cell 0, ht2.cell 1, ht2.cell 2, ht2.cell 3, ht2.cell 4, ht2.cell 5, ht2.cell 6⟩
end Go.Proofs.YtkfnpcilanheiaaGreat

/-  -/
import Derived.Deep.RegionHeld3
import Derived.Test.YtdmhkhnnomdkcaaGreatDoorRows
import Derived.WalkKit
import Derived.ProofKit
import Derived.OpenShut
import Derived.Lib.SmallJoins
import Derived.Deep.DeepHandedRow
import Derived.Lay
import Derived.Test.YtdmhkhnnomdkcaaGreatDoorJo2
import Derived.Test.YtdmhkhnnomdkcaaGreatDoorJo28
import Derived.Test.YtdmhkhnnomdkcaaGreatDoorJo31
import Derived.Test.YtdmhkhnnomdkcaaGreatDoorJo37
set_option linter.unusedVariables false
set_option linter.unusedSimpArgs false
/- fetterlocklaw1.wrong, at any two numbers. -/
namespace Go.Proofs.YtdmhkhnnomdkcaaGreatDoor
open Go.RowKit NumB
set_option linter.unusedVariables false
set_option linter.unusedSimpArgs false

/-- What wrong answers. -/
def wrongE (a b : LN) : Int := if err2 a.err b.err = 0 then (if a.y = 1 ∧ b.y = 1 then 1 else 7) else err2 a.err b.err

set_option maxRecDepth 100000 in
set_option maxHeartbeats 6400000 in
theorem wrong_S (a b : LN) (va vb : Value) (w : World) (ga : GV w va a) (gb : GV w vb b) : Calls Tryz.prog 6 #[va, vb] w fun e w' => e = .returned (.int .i64 (wrongE a b)) ∧ Below w.heap.size w w' := by
  have GA := Lib.hid ga
  have GB := Lib.hid gb
  have HOK := Lib.hid (And.intro ga.ok gb.ok)
  obtain ⟨B1, m1, d1, B2, m2, d2, rfl, hq1, hq2⟩ := ga.form
  clear hq1 hq2
  obtain ⟨B3, m3, d3, B4, m4, d4, rfl, hq1, hq2⟩ := gb.form
  clear hq1 hq2 ga gb
  have HBK := Lib.hid (blk2 w 24 24 #[.bool a.neg, .slice B1 m1 d1, .slice B2 m2 d2] #[.bool b.neg, .slice B3 m3 d3, .slice B4 m4 d4])
  have HFA : Hid (∀ (W : World), GV W (.agg #[.bool a.neg, .slice B1 m1 d1, .slice B2 m2 d2]) a → Calls Tryz.prog 14 #[.agg #[.bool a.neg, .slice B1 m1 d1, .slice B2 m2 d2]] W fun e w' => e = .returned (.int .i64 a.err) ∧ Below W.heap.size W w') := fun W h => fault_S a _ W h
  have HFB : Hid (∀ (W : World), GV W (.agg #[.bool b.neg, .slice B3 m3 d3, .slice B4 m4 d4]) b → Calls Tryz.prog 14 #[.agg #[.bool b.neg, .slice B3 m3 d3, .slice B4 m4 d4]] W fun e w' => e = .returned (.int .i64 b.err) ∧ Below W.heap.size W w') := fun W h => fault_S b _ W h
  have hba : 0 ≤ a.err ∧ a.err ≤ 3 := checkL_bd _ _ _
  have hbb : 0 ≤ b.err ∧ b.err ≤ 3 := checkL_bd _ _ _
  have HW1 : Hid (a.err ≠ 0 → wrongE a b = a.err) := fun h => by unfold wrongE err2; rw [if_neg h, if_neg h]
  have HW2 : Hid (a.err = 0 → b.err ≠ 0 → wrongE a b = b.err) := fun h h2 => by unfold wrongE err2; rw [if_pos h, if_neg h2]
  have HW3 : Hid (a.err = 0 → b.err = 0 → wrongE a b = if a.y = 1 ∧ b.y = 1 then 1 else 7) := fun h h2 => by unfold wrongE; rw [h, h2]; rfl
  have HOA : Hid (a.err = 0 → ∀ W : World, GV W (.agg #[.bool a.neg, .slice B1 m1 d1, .slice B2 m2 d2]) a → Calls Tryz.prog 15 #[.agg #[.bool a.neg, .slice B1 m1 d1, .slice B2 m2 d2]] W (RVPost W a.neg a.x a.y)) := fun h W hg => rof_any a _ W hg (by have := (LN.good HOK.out.1 h).2.2.1; omega) (by have := (LN.good HOK.out.1 h).2.2.2.1; omega)
  have HOB : Hid (b.err = 0 → ∀ W : World, GV W (.agg #[.bool b.neg, .slice B3 m3 d3, .slice B4 m4 d4]) b → Calls Tryz.prog 15 #[.agg #[.bool b.neg, .slice B3 m3 d3, .slice B4 m4 d4]] W (RVPost W b.neg b.x b.y)) := fun h W hg => rof_any b _ W hg (by have := (LN.good HOK.out.2 h).2.2.1; omega) (by have := (LN.good HOK.out.2 h).2.2.2.1; omega)
  have HLA : Hid (a.err = 0 → (digs W16 a.y).length ≤ 256) := fun h => (LN.len16 HOK.out.1 h).2
  have HLB : Hid (b.err = 0 → (digs W16 b.y).length ≤ 256) := fun h => (LN.len16 HOK.out.2 h).2
  generalize wrongE a b = wr0 at *
  generalize a.err = ea at *
  generalize b.err = eb at *
  go_enter Tryz.func6, Tryz.ntmps6
  have ca0 := HBK.out.1.cell 0
  have ca1 := HBK.out.1.cell 1
  have ca2 := HBK.out.1.cell 2
  have cb0 := HBK.out.2.cell 0
  have cb1 := HBK.out.2.cell 1
  have cb2 := HBK.out.2.cell 2
  simp only [List.getElem?_toArray, List.getElem?_cons_zero, List.getElem?_cons_succ] at ca0 ca1 ca2 cb0 cb1 cb2
  go_wp2_with fail
  have KA := Lib.hid (HBK.out.1.alloc (.cells #[.bool a.neg, .slice B1 m1 d1, .slice B2 m2 d2, .bool b.neg, .slice B3 m3 d3, .slice B4 m4 d4] 24))
  have KB := Lib.hid (HBK.out.2.alloc (.cells #[.bool a.neg, .slice B1 m1 d1, .slice B2 m2 d2, .bool b.neg, .slice B3 m3 d3, .slice B4 m4 d4] 24))
  have KD := Lib.hid ((blk_3 w 24 24 24 #[.bool a.neg, .slice B1 m1 d1, .slice B2 m2 d2] #[.bool b.neg, .slice B3 m3 d3, .slice B4 m4 d4] #[.bool a.neg, .slice B1 m1 d1, .slice B2 m2 d2, .bool b.neg, .slice B3 m3 d3, .slice B4 m4 d4]).2.2)
  have HBE := Lib.hid (below_3 w (.cells #[.bool a.neg, .slice B1 m1 d1, .slice B2 m2 d2] 24) (.cells #[.bool b.neg, .slice B3 m3 d3, .slice B4 m4 d4] 24) (.cells #[.bool a.neg, .slice B1 m1 d1, .slice B2 m2 d2, .bool b.neg, .slice B3 m3 d3, .slice B4 m4 d4] 24))
  have GA := Lib.hid (GA.out.to HBE.out)
  have GB := Lib.hid (GB.out.to HBE.out)
  clear HBK ca0 ca1 ca2 cb0 cb1 cb2
  generalize (((w.alloc (.cells #[.bool a.neg, .slice B1 m1 d1, .slice B2 m2 d2] 24)).alloc (.cells #[.bool b.neg, .slice B3 m3 d3, .slice B4 m4 d4] 24)).alloc (.cells #[.bool a.neg, .slice B1 m1 d1, .slice B2 m2 d2, .bool b.neg, .slice B3 m3 d3, .slice B4 m4 d4] 24)) = w0 at *
  go_loopg [12] 2 (fun gk s12 wr => ∃ j : Nat, gk + j = 2 ∧ s12 = .int .i64 (j : Int) ∧ Hid ((0 < j → ea = 0) ∧ (1 < j → eb = 0)) ∧ Hid (Below w0.heap.size w0 wr))
  case atStart => exact ⟨0, by omega, rfl, ⟨by omega, by omega⟩, Below.refl _ _⟩
  case round =>
    obtain ⟨j, hgj, rfl, HE, HB⟩ := hrel
    have hk := KD.out.to HB.out
    have c0 := hk.cell 0
    have c1 := hk.cell 1
    have c2 := hk.cell 2
    have c3 := hk.cell 3
    have c4 := hk.cell 4
    have c5 := hk.cell 5
    simp only [List.getElem?_toArray, List.getElem?_cons_zero, List.getElem?_cons_succ] at c0 c1 c2 c3 c4 c5
    clear hk
    by_cases hj : j = 0
    · subst hj
      obtain rfl : gk = 2 := by omega
      clear hgj c3 c4 c5
      go_wp2_with fail
      refine (HFA.out _ (by exact (GA.out.to HB.out).to (below_one _ _))).mono ?_
      rintro e w3 ⟨rfl, hb⟩
      have HB3 := Lib.hid (HB.out.trans (((below_one wr (.cells #[.bool a.neg, .slice B1 m1 d1, .slice B2 m2 d2] 24)).trans (hb.mono (below_one wr (.cells #[.bool a.neg, .slice B1 m1 d1, .slice B2 m2 d2] 24)).size)).mono HB.out.size))
      clear hb c0 c1 c2
      rcases Decidable.em (ea = 0) with h0 | h0
      · have hz : (ea != 0) = false := by rw [h0]; rfl
        go_wp2_with fail
        go_roundg 1
        case measure => omega
        case rel => exact ⟨1, by omega, by go_num, ⟨fun _ => h0, fun h => absurd h (by omega)⟩, HB3.out⟩
      · have hz : (ea != 0) = true := by rw [bne_iff_ne]; exact h0
        have HR := Lib.hid (HW1.out h0)
        go_wp2_with fail
        go_ret
        rw [HR.out]
        exact ⟨rfl, HBE.out.trans (HB3.out.mono HBE.out.size)⟩
    · by_cases hj1 : j = 1
      · subst hj1
        obtain rfl : gk = 1 := by omega
        clear hgj c0 c1 c2 hj
        have h0 := HE.out.1 (by omega)
        go_wp2_with fail
        refine (HFB.out _ (by exact (GB.out.to HB.out).to (below_one _ _))).mono ?_
        rintro e w3 ⟨rfl, hb⟩
        have HB3 := Lib.hid (HB.out.trans (((below_one wr (.cells #[.bool b.neg, .slice B3 m3 d3, .slice B4 m4 d4] 24)).trans (hb.mono (below_one wr (.cells #[.bool b.neg, .slice B3 m3 d3, .slice B4 m4 d4] 24)).size)).mono HB.out.size))
        clear hb c3 c4 c5
        rcases Decidable.em (eb = 0) with h1 | h1
        · have hz : (eb != 0) = false := by rw [h1]; rfl
          go_wp2_with fail
          go_roundg 0
          case measure => omega
          case rel => exact ⟨2, by omega, by go_num, ⟨fun _ => h0, fun _ => h1⟩, HB3.out⟩
        · have hz : (eb != 0) = true := by rw [bne_iff_ne]; exact h1
          have HR := Lib.hid (HW2.out h0 h1)
          go_wp2_with fail
          go_ret
          rw [HR.out]
          exact ⟨rfl, HBE.out.trans (HB3.out.mono HBE.out.size)⟩
      · obtain rfl : j = 2 := by omega
        have h0 := HE.out.1 (by omega)
        have h1 := HE.out.2 (by omega)
        have HR := Lib.hid (HW3.out h0 h1)
        have HOA := Lib.hid (HOA.out h0)
        have HOB := Lib.hid (HOB.out h1)
        have HLA := Lib.hid (HLA.out h0)
        have HLB := Lib.hid (HLB.out h1)
        have KA := KA.out.to HB.out
        have KB := KB.out.to HB.out
        have KBL := Lib.hid KB.lt
        have ca0 := KA.cell 0
        have ca1 := KA.cell 1
        have ca2 := KA.cell 2
        have cb0 := KB.cell 0
        have cb1 := KB.cell 1
        have cb2 := KB.cell 2
        simp only [List.getElem?_toArray, List.getElem?_cons_zero, List.getElem?_cons_succ] at ca0 ca1 ca2 cb0 cb1 cb2
        clear hgj c0 c1 c2 c3 c4 c5 hj hj1 h0 h1 HW1 HW2 HW3 HE
        have HI1 : Hid (∀ (W : World) (v : Value), RV W v a.neg a.x a.y → Calls Tryz.prog 17 #[v] W fun e w' => e = .returned (.bool (cmpI a.y 1 == 0)) ∧ Below W.heap.size W w') := fun W v h => risInt_any _ _ _ v W h (by have := HLA.out; omega)
        have HI2 : Hid (∀ (W : World) (v : Value), RV W v b.neg b.x b.y → Calls Tryz.prog 17 #[v] W fun e w' => e = .returned (.bool (cmpI b.y 1 == 0)) ∧ Below W.heap.size W w') := fun W v h => risInt_any _ _ _ v W h (by have := HLB.out; omega)
        have HGB := Lib.hid (GB.out.to HB.out)
        by_cases ya : a.y = 1
        · rw [cmpI_one_true ya] at HI1
          go_wp2_with fail
          refine (HOA.out _ (by exact GA.out.to HB.out)).mono ?_
          rintro e w4 ⟨v4, rfl, hr4, hb4⟩
          go_wp2_with fail
          refine (HI1.out _ _ hr4).mono ?_
          rintro e w5 ⟨rfl, hb5⟩
          have HB5 := Lib.hid (hb4.trans (hb5.mono hb4.size))
          have cb0 := (hb5.cell (by show w.heap.size + 1 < _; have := KBL.out; have := hb4.size; omega)).trans ((hb4.cell (by show w.heap.size + 1 < _; exact KBL.out)).trans cb0)
          have cb1 := (hb5.cell (by show w.heap.size + 1 < _; have := KBL.out; have := hb4.size; omega)).trans ((hb4.cell (by show w.heap.size + 1 < _; exact KBL.out)).trans cb1)
          have cb2 := (hb5.cell (by show w.heap.size + 1 < _; have := KBL.out; have := hb4.size; omega)).trans ((hb4.cell (by show w.heap.size + 1 < _; exact KBL.out)).trans cb2)
          clear hr4 hb4 hb5
          by_cases yb : b.y = 1
          · rw [cmpI_one_true yb] at HI2
            rw [if_pos ⟨ya, yb⟩] at HR
            go_wp2_with fail
            refine (HOB.out _ (by exact HGB.out.to HB5.out)).mono ?_
            rintro e w6 ⟨v6, rfl, hr6, hb6⟩
            go_wp2_with fail
            refine (HI2.out _ _ hr6).mono ?_
            rintro e w7 ⟨rfl, hb7⟩
            go_wp2_with fail
            go_ret
            rw [HR.out]
            have HB7 := HB5.out.trans ((hb6.trans (hb7.mono hb6.size)).mono HB5.out.size)
            exact ⟨rfl, HBE.out.trans ((HB.out.trans (HB7.mono HB.out.size)).mono HBE.out.size)⟩
          · rw [cmpI_one_false yb] at HI2
            rw [if_neg (fun h => yb h.2)] at HR
            go_wp2_with fail
            refine (HOB.out _ (by exact HGB.out.to HB5.out)).mono ?_
            rintro e w6 ⟨v6, rfl, hr6, hb6⟩
            go_wp2_with fail
            refine (HI2.out _ _ hr6).mono ?_
            rintro e w7 ⟨rfl, hb7⟩
            go_wp2_with fail
            go_ret
            rw [HR.out]
            have HB7 := HB5.out.trans ((hb6.trans (hb7.mono hb6.size)).mono HB5.out.size)
            exact ⟨rfl, HBE.out.trans ((HB.out.trans (HB7.mono HB.out.size)).mono HBE.out.size)⟩
        · rw [cmpI_one_false ya] at HI1
          rw [if_neg (fun h => ya h.1)] at HR
          go_wp2_with fail
          refine (HOA.out _ (by exact GA.out.to HB.out)).mono ?_
          rintro e w4 ⟨v4, rfl, hr4, hb4⟩
          go_wp2_with fail
          refine (HI1.out _ _ hr4).mono ?_
          rintro e w5 ⟨rfl, hb5⟩
          have HB5 := Lib.hid (hb4.trans (hb5.mono hb4.size))
          clear hr4 hb4 hb5 cb0 cb1 cb2
          go_wp2_with fail
          go_ret
          rw [HR.out]
          exact ⟨rfl, HBE.out.trans ((HB.out.trans (HB5.out.mono HB.out.size)).mono HBE.out.size)⟩
end Go.Proofs.YtdmhkhnnomdkcaaGreatDoor
/- The frame of a law: arguments read again, the post where only new memory was made; a number that came in, opened. -/
namespace Go.Proofs.YtdmhkhnnomdkcaaGreatDoor
open Go.ChangeShapes Go.WideShapes Go.ChangeAt Go.RowKit Go.Joins NumB
set_option linter.unusedVariables false
set_option linter.unusedSimpArgs false

theorem own : ownKnob Tryz.prog.godebug = none := by kernel_rfl
theorem laidOut : laidOutB Tryz.prog = true := by kernel_rfl

/-- The arguments read again where nothing old has turned. -/
theorem below_trodAll {H : Type} {enc : TypeId × Value → H} {P : Program} (hl : laidOutB P = true) {W W' : World} (hb : Below W.heap.size W W') :
    ∀ {ts : List TypeId} {vs : List Value} {ds : List (DataW H)} {ps : List MemPlace}, (∀ t ∈ ts, P.readableRec t = true ∧ t < P.types.size) → DataW.TrodAll enc P W 0 (fun _ => true) true ts vs ds ps → (∀ x ∈ ps, x.block < W.heap.size) →
      DataW.TrodAll enc P W' 0 (fun b => decide (b < W.heap.size)) true ts vs ds ps
  | [], [], [], _, _, h, _ => h
  | t :: _, _ :: _, _ :: _, _, hT, ⟨p, q, h1, h2, e⟩, hs => ⟨p, q, Below.trod hl (hT t (by simp)).1 (hT t (by simp)).2 h1 hb (fun x hx => hs x (by rw [e]; exact List.mem_append_left _ hx)), below_trodAll hl hb (fun u hu => hT u (by simp [hu])) h2 (fun x hx => hs x (by rw [e]; exact List.mem_append_right _ hx)), e⟩

/-- The post of a law: it answered true, and only new memory was made. -/
theorem post_law {H : Type} {enc : TypeId × Value → H} {f : Func} {s : ChangeSpec} {W W' : World} {args : Array Value} {ds : List (DataW H)} {before : List MemPlace} (hvars : s.vars = [])
    (hW : DataW.Whole enc Tryz.prog f.params.toList s.vars false W args.toList ds [] before)
    (hA : DataW.TrodAll enc Tryz.prog W 0 (fun _ => true) true f.params.toList args.toList ds before)
    (hT : ∀ t ∈ f.params.toList, Tryz.prog.readableRec t = true ∧ t < Tryz.prog.types.size)
    (hres : f.resultTypes = #[4]) (hfn : s.fn H ds = { results := [.lit (.bool true)], args := ds })
    (hb : Below W.heap.size W W') : s.post enc Tryz.prog f false true false false W args (.bool true) W' := by
  have hlt : ∀ p ∈ before, p.block < W.heap.size := fun p hp => hW.lt p hp
  have e : s.fn H (ds ++ []) = { results := [.lit (.bool true)], args := ds } := by rw [List.append_nil]; exact hfn
  refine ⟨ds, [], before, [], before, [], hW, ?_, ?_, ?_, hb.frame _, fun h => by cases h⟩
  · rw [e, hres]; exact trodAll_mk1 (shut_bool Tryz.underlying4 _)
  · rw [e]; exact below_trodAll laidOut hb hT hA hlt
  · rw [e, hvars]; exact rfl

set_option maxRecDepth 100000 in
/-- A slice of limbs that came in. -/
theorem open_limbs {H : Type} {enc : TypeId × Value → H} {W : World} {n : Nat} {v : Value} {y : DataW H × List MemPlace}
    (h : DataW.trod enc Tryz.prog W 0 (fun _ => true) true n 22 [v] = some y) : ∃ xs : List Nat, Sl .u32 W v xs ∧ Ok W32 xs := by
  rcases open_ints Tryz.underlying22 Tryz.underlying35 (by kernel_rfl) h with ⟨hcs, hx⟩ | ⟨a, len, cap, zs, hcs, _, hl, hm, hz, hx, hcell, hwz⟩
  · simp only [List.cons.injEq, and_true] at hcs
    subst hcs
    exact ⟨[], (OwnV.nil_ (B := 0) (T := 0) W).sl, Ok.nil⟩
  · simp only [List.cons.injEq, and_true] at hcs
    subst hcs
    simp only [if_true] at hz
    have hwf : ∀ z ∈ zs, 0 ≤ z ∧ z < 4294967296 := fun z hzm => by
      have := bounds_u32 (hwz z hzm)
      omega
    have hget : ∀ i, i < zs.length → ((zs.map Int.toNat).getD i 0 : Int) = zs.getD i 0 := fun i hi => by
      rw [List.getD_eq_getElem?_getD, List.getD_eq_getElem?_getD, List.getElem?_map, List.getElem?_eq_getElem hi]
      have := hwf _ (List.getElem_mem hi)
      simp only [Option.map_some, Option.getD_some]
      omega
    refine ⟨(zs.map Int.toNat).take len, ?_, ?_⟩
    · refine Sl.of_rd (n := cap) (xs := zs.map Int.toNat) ?_ hl (Nat.le_refl _) hm rfl
      refine ⟨by simp [hz], fun hn => ?_⟩
      obtain ⟨b, off, rfl, hc⟩ := ints_at hcell (by omega)
      refine ⟨b, off, rfl, ?_, fun i hi => ?_⟩
      · have := hc 0 (by omega)
        rcases Nat.lt_or_ge b W.heap.size with h1 | h1
        · exact h1
        · simp [World.cell?, Array.getElem?_eq_none h1] at this
      · rw [hc i (by omega), hget i (by omega)]
    · intro x hx
      obtain ⟨z, hzm, rfl⟩ := List.mem_map.1 (List.mem_of_mem_take hx)
      have := hwf z hzm
      show z.toNat < 4294967296
      omega

set_option maxRecDepth 100000 in
/-- A number that came in: a sign and two lists of limbs. -/
theorem open_number {H : Type} {enc : TypeId × Value → H} {W : World} {base : Nat} {v : Value} {d : DataW H} {p : List MemPlace}
    (hv : Value.okWide Tryz.prog W .any base 24 v) (h : DataW.Trod enc Tryz.prog W 0 (fun _ => true) true 24 v d p) :
    ∃ (neg : Bool) (va vb : Value) (xs ys : List Nat), v = .agg #[.bool neg, va, vb] ∧ Sl .u32 W va xs ∧ Sl .u32 W vb ys ∧ Ok W32 xs ∧ Ok W32 ys := by
  obtain ⟨c0, c1, c2, y0, y1, y2, m, rfl, _, _, h0, h1, h2⟩ := open_agg3 Tryz.underlying24 (by kernel_rfl) (by kernel_rfl) hv h
  obtain ⟨b, e0, _⟩ := DataW.trod_bool Tryz.underlying4 h0
  simp only [List.cons.injEq, and_true] at e0
  subst e0
  obtain ⟨xs, hx, ox⟩ := open_limbs h1
  obtain ⟨ys, hy, oy⟩ := open_limbs h2
  exact ⟨b, c1, c2, xs, ys, rfl, hx, hy, ox, oy⟩

end Go.Proofs.YtdmhkhnnomdkcaaGreatDoor

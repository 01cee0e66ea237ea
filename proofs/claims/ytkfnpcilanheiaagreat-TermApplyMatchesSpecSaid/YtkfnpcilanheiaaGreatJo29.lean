/-  -/
import Derived.BigQuiet
import Derived.Deep.QuietTactic
import Derived.Test.YtkfnpcilanheiaaGreatJo23
set_option linter.unusedVariables false
set_option linter.unusedSimpArgs false
/- fetterlockref2.freeInto, Free. -/
namespace Go.Proofs.YtkfnpcilanheiaaGreat
open Go.RowKit NumB
set_option linter.unusedVariables false
set_option linter.unusedSimpArgs false

/-- The set of a list of ints, and the list. -/
structure RV2 (B ms : Nat) (l : List Int) (ov : Value) (W : World) : Prop where
  row : W.ownsRow B 3 1 ov l.length (ints l)
  map : ∃ n, MapI W ms n (setF l)
  le : B ≤ ms
theorem RV2.below {B ms : Nat} {l : List Int} {ov : Value} {W W' : World} (g : RV2 B ms l ov W) (hb : Below W.heap.size W W') : RV2 B ms l ov W' := by
  obtain ⟨n, h4⟩ := g.map
  exact ⟨row_frT (ts := []) g.row (FrT.of_below hb) (by simp), ⟨n, h4.keep (hb.block _ (heap_lt h4.is.choose_spec.choose_spec))⟩, g.le⟩
theorem RV2.dom {B ms : Nat} {l : List Int} {ov : Value} {W : World} (g : RV2 B ms l ov W) (v : Int) : (Instr.lookup 111 (.map (some ms)) (.int .i64 v) false).run Tryz.prog W = .ok (.bool (decide (v ∈ l))) W := by
  obtain ⟨n, h⟩ := g.map
  have := (mapI_look (w := W) (et := 4) (mt := 111) (by kernel_rfl) (z := .bool false) (Tryz.zeroValue4 W) h v).2
  rw [this]
  unfold setF
  by_cases hv : v ∈ l <;> simp [hv]
theorem RV2.put {B ms : Nat} {l : List Int} {ov : Value} {W : World} (g : RV2 B ms l ov W) (v : Int) : ∃ z, (Instr.mapUpdate 111 (.map (some ms)) (.int .i64 v) (.bool true)).run Tryz.prog W = .ok () z ∧ (∃ n, MapI z ms n (setF (l ++ [v]))) ∧ FrT [none] W z ∧ Below B W z := by
  obtain ⟨n, h⟩ := g.map
  obtain ⟨z, h1, h2, h3⟩ := mapI_put (w := W) (et := 4) (mt := 111) (by kernel_rfl) h v (.bool true)
  refine ⟨z, h1, ⟨n + 1, ?_⟩, (FrT.refl _ W).kept h3 fun k e o ho hno => ?_, h3.below ?_ fun k e => ?_⟩
  · have : (fun j => if j = v then some (Value.bool true) else setF l j) = setF (l ++ [v]) := by
      funext j
      unfold setF
      by_cases hj : j = v
      · subst hj; simp
      · simp [hj]
    rw [this] at h2
    exact h2
  · obtain ⟨es, cl, hm⟩ := h.is
    have e : k = ms := e
    subst e
    rw [hm] at ho
    exact hno.2 (by simp) _ _ (Option.some.inj ho).symm
  · have := heap_lt h.is.choose_spec.choose_spec
    exact Nat.le_of_lt (Nat.lt_of_le_of_lt g.le this)
  · have e : k = ms := e
    subst e; exact g.le

set_option maxRecDepth 100000 in
set_option maxHeartbeats 3200000 in
theorem freeInto_any (B ms : Nat) {w : World} (hBw : w.heap.size ≤ B) {t : Tm} {cs : List Value} (h : TC w t cs) : ∀ (ls : List Int) (ov : Value), ls.length + t.count ≤ 1000000 → ∀ (W : World), Below w.heap.size w W → B ≤ W.heap.size → RV2 B ms ls ov W →
    Calls Tryz.prog 83 #[.agg cs.toArray, .map (some ms), ov] W fun e W' => ∃ ov', e = .returned ov' ∧ RV2 B ms (t.free ls) ov' W' ∧ FrT [none, some 3] W W' ∧ Below B W W' := by
  induction h with
  | mk k v s n args A C Ar cap cs hk hv hs hA hB hn hcap hm hr ha ih =>
    intro ls ov hcn W hW hBW hF
    have HR := Lib.hid hr
    have HA := Lib.hid ha
    have IH := Lib.hid ih
    have HCT : Hid ((Tm.mk k v s n args).count = 1 + countL args) := rfl
    have HFE : Hid ((Tm.mk k v s n args).free ls = freeL args (if k = 1 ∧ v ∉ ls then ls ++ [v] else ls)) := rfl
    have HCN := Lib.hid hcn
    unfold maxLen at hm
    have HWB := Lib.hid hW
    have HBS := Lib.hid hBW
    have HF0 := Lib.hid hF
    generalize (Tm.mk k v s n args).count = ct at *
    generalize (Tm.mk k v s n args).free ls = fe at *
    generalize n.neg = ng at *
    obtain ⟨A1, q1, rfl, _⟩ := hA
    obtain ⟨B1, q2, rfl, _⟩ := hB
    generalize n.num.length = m1 at *
    generalize n.den.length = m2 at *
    clear hr ha ih hn hk hs hW hcn hBW hF
    have HV := Lib.hid hv
    clear hv
    obtain ⟨l, hl⟩ : ∃ l, args.length = l := ⟨_, rfl⟩
    rw [hl] at hcap ⊢
    have HL := Lib.hid hl
    clear hl
    have HBA : Hid (Below W.heap.size W (W.alloc (.cells #[.int .i64 k, .int .i64 v, .string s, .bool ng, .slice A1 m1 q1, .slice B1 m2 q2, .slice Ar l cap] 27))) := below_one W _
    have HT1 : Hid (Blk (W.alloc (.cells #[.int .i64 k, .int .i64 v, .string s, .bool ng, .slice A1 m1 q1, .slice B1 m2 q2, .slice Ar l cap] 27)) W.heap.size 27 #[.int .i64 k, .int .i64 v, .string s, .bool ng, .slice A1 m1 q1, .slice B1 m2 q2, .slice Ar l cap]) := Blk.new W _ _
    by_cases hk1 : k = 1
    · have hkb : (k == 1) = true := by simp [hk1]
      have HK1 := Lib.hid hk1
      clear hk1
      have HF1 := Lib.hid (HF0.out.below HBA.out)
      have t0 := HT1.out.cell 0
      have t1 := HT1.out.cell 1
      have t6 := HT1.out.cell 6
      have lk := HF1.out.dom v
      simp only [List.getElem?_toArray, List.getElem?_cons_zero, List.getElem?_cons_succ] at t0 t1 t6
      by_cases hm : v ∈ ls
      · have hd : decide (v ∈ ls) = true := by simp [hm]
        rw [hd] at lk
        have HE : Hid (fe = freeL args ls) := by
          have h := HFE.out
          rw [if_neg (fun q => q.2 hm)] at h
          exact h
        have HLS : Hid (ls.length + 1 + countL args ≤ 1000000) := by have := HCN.out; have := HCT.out; show _ ≤ _; omega
        have HY : Hid (RV2 B ms ls ov (W.alloc (.cells #[.int .i64 k, .int .i64 v, .string s, .bool ng, .slice A1 m1 q1, .slice B1 m2 q2, .slice Ar l cap] 27)) ∧ FrT [none, some 3] W (W.alloc (.cells #[.int .i64 k, .int .i64 v, .string s, .bool ng, .slice A1 m1 q1, .slice B1 m2 q2, .slice Ar l cap] 27)) ∧ Below B W (W.alloc (.cells #[.int .i64 k, .int .i64 v, .string s, .bool ng, .slice A1 m1 q1, .slice B1 m2 q2, .slice Ar l cap] 27)) ∧ B ≤ (W.alloc (.cells #[.int .i64 k, .int .i64 v, .string s, .bool ng, .slice A1 m1 q1, .slice B1 m2 q2, .slice Ar l cap] 27)).heap.size) := ⟨HF1.out, FrT.of_below HBA.out, HBA.out.mono HBS.out, Nat.le_trans HBS.out HBA.out.size⟩
        clear hd hm HF0 HFE HCN HCT
        go_enter Tryz.func83, Tryz.ntmps83
        go_wp2_with fail
        clear t0 t1 t6 lk HF1 HBA HT1
        generalize (W.alloc (.cells #[.int .i64 k, .int .i64 v, .string s, .bool ng, .slice A1 m1 q1, .slice B1 m2 q2, .slice Ar l cap] 27)) = y at HY ⊢
        go_loopg [2, 30] l (fun gk s2 s30 wr => ∃ (j : Nat) (ow : Value), gk + j = l ∧ s30 = .int .i64 (j : Int) ∧ ow = s2 ∧ Hid (RV2 B ms (freeL (args.take j) (ls)) ow wr ∧ FrT [none, some 3] W wr ∧ Below B W wr ∧ B ≤ wr.heap.size))
        case atStart => exact ⟨0, _, by omega, rfl, rfl, by rw [List.take_zero]; exact HY⟩
        case round =>
          clear HY
          obtain ⟨j, ow, hgj, rfl, rfl, HJ⟩ := hrel
          by_cases hj : j < l
          · have hja : j < args.length := by rw [HL.out]; exact hj
            have HBW : Below w.heap.size w wr := HWB.out.trans (HJ.out.2.2.1.mono hBw)
            obtain ⟨b, o, k', v', s', ng', A2, n2, c2, B2, m3, d2, Xr, xl, xc, hAr, hcs, hlt, e0, e1, e2, e3, e4, e5, e6⟩ := arg_cells HR.out HA.out HBW hja
            subst hAr
            have h1 := countL_take args hja
            have h5 := countL_le args (j + 1)
            have h6 := freeL_len (args.take j) (ls)
            have h7 := HLS.out
            have HCALL : Hid (∀ W', Below wr.heap.size wr W' → Calls Tryz.prog 83 #[.agg #[.int .i64 k', .int .i64 v', .string s', .bool ng', .slice A2 n2 c2, .slice B2 m3 d2, .slice Xr xl xc], .map (some ms), ow] W' fun e w' => ∃ ow', e = .returned ow' ∧ Hid (RV2 B ms (freeL (args.take (j + 1)) (ls)) ow' w' ∧ FrT [none, some 3] W w' ∧ Below B W w' ∧ B ≤ w'.heap.size)) := fun W' hb => by
              have hbB : Below B wr W' := hb.mono HJ.out.2.2.2
              have := IH.out j hja (freeL (args.take j) (ls)) ow (by omega) W' (HBW.trans (hb.mono HBW.size)) (Nat.le_trans HJ.out.2.2.2 hb.size) (HJ.out.1.below hb)
              rw [hcs] at this
              refine this.mono ?_
              rintro e w' ⟨ow', rfl, q1, q2, q3⟩
              rw [freeL_take args hja]
              exact ⟨ow', rfl, q1, (HJ.out.2.1.trans (FrT.of_below hb)).trans q2, (HJ.out.2.2.1.trans hbB).trans q3, Nat.le_trans (Nat.le_trans HJ.out.2.2.2 hb.size) q3.size⟩
            clear h1 h5 h6 h7
            go_wp2_with fail
            refine (HCALL.out _ (by exact below_one _ _)).mono ?_
            rintro e w3 ⟨ow', rfl, HJ3⟩
            clear e0 e1 e2 e3 e4 e5 e6 HCALL
            go_wp2_with fail
            go_roundg (gk - 1)
            case measure => omega
            case rel => exact ⟨j + 1, ow', by omega, by go_num, rfl, HJ3⟩
          · obtain rfl : j = l := by omega
            have h2 := HJ.out
            rw [List.take_of_length_le (by rw [HL.out]; exact Nat.le_refl _)] at h2
            have HE2 := HE.out
            subst HE2
            have HJ2 := Lib.hid h2
            clear h2 HJ
            go_wp2_with fail
            go_ret
            exact ⟨ow, rfl, HJ2.out.1, HJ2.out.2.1, HJ2.out.2.2.1⟩
      · have hd : decide (v ∈ ls) = false := by simp [hm]
        rw [hd] at lk
        have HE : Hid (fe = freeL args (ls ++ [v])) := by
          have h := HFE.out
          rw [if_pos ⟨HK1.out, hm⟩] at h
          exact h
        have HLS : Hid ((ls ++ [v]).length + countL args ≤ 1000000) := by have := HCN.out; have := HCT.out; show _ ≤ _; simp; omega
        have HLN : Hid (ls.length + 1 ≤ 1000000) := by have := HCN.out; have := HCT.out; show _ ≤ _; omega
        obtain ⟨z, hz, hmz, hfz, hbz⟩ := HF1.out.put v
        have HMZ := Lib.hid hmz
        have HFZ := Lib.hid hfz
        have HBZ := Lib.hid hbz
        have HRW := Lib.hid (row_frT HF1.out.row hfz (by decide))
        have HTZ := Lib.hid (HT1.out.frT hfz (by decide))
        have tz1 := HTZ.out.cell 1
        simp only [List.getElem?_toArray, List.getElem?_cons_zero, List.getElem?_cons_succ] at tz1
        clear hd hm HF0 HFE HCN HCT hmz hfz hbz t6
        obtain ⟨i0, hi0, hz0, hz1, hz2⟩ := info_parts info_int
        have HI := Lib.hid hi0
        have HZ0 := Lib.hid hz0
        have HZ1 := Lib.hid hz1
        have HZ2 := Lib.hid hz2
        clear hi0 hz0 hz1 hz2
        have HNEW : Hid (∀ j u, [Value.int .i64 v][j]? = some u → (z.alloc (.cells #[.int .i64 v] 3)).cell? ((⟨z.heap.size, 0, none⟩ : Addr).add j) = some u) := fun j u hj => by
          have := (Blk.new z 3 #[.int .i64 v]).cell j
          rw [Go.WideShapes.add_plain, Nat.zero_add, this]
          simpa using hj
        have HSZ : Hid (B ≤ (z.alloc (.cells #[.int .i64 v] 3)).heap.size) := Nat.le_trans (Nat.le_trans HBS.out HBA.out.size) (Nat.le_trans HBZ.out.size (by simp))
        go_enter Tryz.func83, Tryz.ntmps83
        go_wp2_with (at_builtin; refine wpList_append_own_at _ rfl _ _ 43 rfl B 3 i0 (.int .i64 0) 1 8 Tryz.underlying43 HI.out HZ0.out HZ1.out HZ2.out rfl (by decide) ov ls.length (ints ls) rfl (HRW.out.alloc _) ⟨z.heap.size, 0, none⟩ 1 1 [.int .i64 v] rfl rfl HNEW.out (by intro u hu; simp at hu; subst hu; rfl) (by have := HLN.out; unfold maxLen; omega) (by have := HLN.out; omega) HSZ.out ?_; intro v1 w1 hown1 hg1 hz1' hb1'; clear hz1' hb1'; have HOW := Lib.hid hown1; have HF2 : Hid (FrT [some 3] z w1) := (FrT.of_below (below_one z _)).grown hg1 (fun k hk => by (obtain ⟨cs, f, hc⟩ := Lib.ownsRow_kind (HRW.out.alloc (.cells #[.int .i64 v] 3)) k hk; exact ⟨cs, _, f, hc, by decide⟩)); have HB2 : Hid (Below B z w1) := ((Below.refl B z).alloc (Nat.le_trans (Nat.le_trans HBS.out HBA.out.size) HBZ.out.size) _).grown hg1 HSZ.out (fun k hk => ((HRW.out.alloc (.cells #[.int .i64 v] 3)).lt k hk).1); clear hown1 hg1 tz1; have HTW := Lib.hid (HTZ.out.frT HF2.out (by decide)); have tx6 := HTW.out.cell 6; simp only [List.getElem?_toArray, List.getElem?_cons_zero, List.getElem?_cons_succ] at tx6)
        have HY : Hid (RV2 B ms (ls ++ [v]) v1 w1 ∧ FrT [none, some 3] W w1 ∧ Below B W w1 ∧ B ≤ w1.heap.size) := by
          have f1 := HFZ.out.mono (ts' := [none, some 3]) (by decide)
          have f2 := HF2.out.mono (ts' := [none, some 3]) (by decide)
          have hfr := ((FrT.of_below (ts := [none, some 3]) HBA.out).trans f1).trans f2
          have hbl : Below B W w1 := ((HBA.out.mono HBS.out).trans HBZ.out).trans HB2.out
          refine ⟨⟨?_, ?_, HF1.out.le⟩, hfr, hbl, Nat.le_trans HBS.out hbl.size⟩
          · have := HOW.out
            rw [List.length_append]
            unfold ints at this ⊢
            rw [List.map_append]
            exact this
          · obtain ⟨n, h⟩ := HMZ.out
            exact ⟨n, h.frT HF2.out (by decide)⟩
        clear tx6 HF1 HBA HT1 HMZ HFZ HBZ HRW HTZ HI HZ0 HZ1 HZ2 HNEW HSZ HOW HF2 HB2 HTW hz lk t0 t1
        go_loopg [2, 30] l (fun gk s2 s30 wr => ∃ (j : Nat) (ow : Value), gk + j = l ∧ s30 = .int .i64 (j : Int) ∧ ow = s2 ∧ Hid (RV2 B ms (freeL (args.take j) (ls ++ [v])) ow wr ∧ FrT [none, some 3] W wr ∧ Below B W wr ∧ B ≤ wr.heap.size))
        case atStart => exact ⟨0, _, by omega, rfl, rfl, by rw [List.take_zero]; exact HY⟩
        case round =>
          clear HY
          obtain ⟨j, ow, hgj, rfl, rfl, HJ⟩ := hrel
          by_cases hj : j < l
          · have hja : j < args.length := by rw [HL.out]; exact hj
            have HBW : Below w.heap.size w wr := HWB.out.trans (HJ.out.2.2.1.mono hBw)
            obtain ⟨b, o, k', v', s', ng', A2, n2, c2, B2, m3, d2, Xr, xl, xc, hAr, hcs, hlt, e0, e1, e2, e3, e4, e5, e6⟩ := arg_cells HR.out HA.out HBW hja
            subst hAr
            have h1 := countL_take args hja
            have h5 := countL_le args (j + 1)
            have h6 := freeL_len (args.take j) (ls ++ [v])
            have h7 := HLS.out
            have HCALL : Hid (∀ W', Below wr.heap.size wr W' → Calls Tryz.prog 83 #[.agg #[.int .i64 k', .int .i64 v', .string s', .bool ng', .slice A2 n2 c2, .slice B2 m3 d2, .slice Xr xl xc], .map (some ms), ow] W' fun e w' => ∃ ow', e = .returned ow' ∧ Hid (RV2 B ms (freeL (args.take (j + 1)) (ls ++ [v])) ow' w' ∧ FrT [none, some 3] W w' ∧ Below B W w' ∧ B ≤ w'.heap.size)) := fun W' hb => by
              have hbB : Below B wr W' := hb.mono HJ.out.2.2.2
              have := IH.out j hja (freeL (args.take j) (ls ++ [v])) ow (by omega) W' (HBW.trans (hb.mono HBW.size)) (Nat.le_trans HJ.out.2.2.2 hb.size) (HJ.out.1.below hb)
              rw [hcs] at this
              refine this.mono ?_
              rintro e w' ⟨ow', rfl, q1, q2, q3⟩
              rw [freeL_take args hja]
              exact ⟨ow', rfl, q1, (HJ.out.2.1.trans (FrT.of_below hb)).trans q2, (HJ.out.2.2.1.trans hbB).trans q3, Nat.le_trans (Nat.le_trans HJ.out.2.2.2 hb.size) q3.size⟩
            clear h1 h5 h6 h7
            go_wp2_with fail
            refine (HCALL.out _ (by exact below_one _ _)).mono ?_
            rintro e w3 ⟨ow', rfl, HJ3⟩
            clear e0 e1 e2 e3 e4 e5 e6 HCALL
            go_wp2_with fail
            go_roundg (gk - 1)
            case measure => omega
            case rel => exact ⟨j + 1, ow', by omega, by go_num, rfl, HJ3⟩
          · obtain rfl : j = l := by omega
            have h2 := HJ.out
            rw [List.take_of_length_le (by rw [HL.out]; exact Nat.le_refl _)] at h2
            have HE2 := HE.out
            subst HE2
            have HJ2 := Lib.hid h2
            clear h2 HJ
            go_wp2_with fail
            go_ret
            exact ⟨ow, rfl, HJ2.out.1, HJ2.out.2.1, HJ2.out.2.2.1⟩
    · have hkb : (k == 1) = false := beq_eq_false_iff_ne.2 hk1
      have HE : Hid (fe = freeL args ls) := by
        have h := HFE.out
        rw [if_neg (fun q => hk1 q.1)] at h
        exact h
      have HLS : Hid (ls.length + 1 + countL args ≤ 1000000) := by have := HCN.out; have := HCT.out; show _ ≤ _; omega
      have HY : Hid (RV2 B ms ls ov (W.alloc (.cells #[.int .i64 k, .int .i64 v, .string s, .bool ng, .slice A1 m1 q1, .slice B1 m2 q2, .slice Ar l cap] 27)) ∧ FrT [none, some 3] W (W.alloc (.cells #[.int .i64 k, .int .i64 v, .string s, .bool ng, .slice A1 m1 q1, .slice B1 m2 q2, .slice Ar l cap] 27)) ∧ Below B W (W.alloc (.cells #[.int .i64 k, .int .i64 v, .string s, .bool ng, .slice A1 m1 q1, .slice B1 m2 q2, .slice Ar l cap] 27)) ∧ B ≤ (W.alloc (.cells #[.int .i64 k, .int .i64 v, .string s, .bool ng, .slice A1 m1 q1, .slice B1 m2 q2, .slice Ar l cap] 27)).heap.size) := ⟨HF0.out.below HBA.out, FrT.of_below HBA.out, HBA.out.mono HBS.out, Nat.le_trans HBS.out HBA.out.size⟩
      clear hk1 HF0 HFE HCN HCT
      go_enter Tryz.func83, Tryz.ntmps83
      go_wp2_with fail
      clear HBA HT1
      generalize (W.alloc (.cells #[.int .i64 k, .int .i64 v, .string s, .bool ng, .slice A1 m1 q1, .slice B1 m2 q2, .slice Ar l cap] 27)) = y at HY ⊢
      go_loopg [2, 30] l (fun gk s2 s30 wr => ∃ (j : Nat) (ow : Value), gk + j = l ∧ s30 = .int .i64 (j : Int) ∧ ow = s2 ∧ Hid (RV2 B ms (freeL (args.take j) (ls)) ow wr ∧ FrT [none, some 3] W wr ∧ Below B W wr ∧ B ≤ wr.heap.size))
      case atStart => exact ⟨0, _, by omega, rfl, rfl, by rw [List.take_zero]; exact HY⟩
      case round =>
        clear HY
        obtain ⟨j, ow, hgj, rfl, rfl, HJ⟩ := hrel
        by_cases hj : j < l
        · have hja : j < args.length := by rw [HL.out]; exact hj
          have HBW : Below w.heap.size w wr := HWB.out.trans (HJ.out.2.2.1.mono hBw)
          obtain ⟨b, o, k', v', s', ng', A2, n2, c2, B2, m3, d2, Xr, xl, xc, hAr, hcs, hlt, e0, e1, e2, e3, e4, e5, e6⟩ := arg_cells HR.out HA.out HBW hja
          subst hAr
          have h1 := countL_take args hja
          have h5 := countL_le args (j + 1)
          have h6 := freeL_len (args.take j) (ls)
          have h7 := HLS.out
          have HCALL : Hid (∀ W', Below wr.heap.size wr W' → Calls Tryz.prog 83 #[.agg #[.int .i64 k', .int .i64 v', .string s', .bool ng', .slice A2 n2 c2, .slice B2 m3 d2, .slice Xr xl xc], .map (some ms), ow] W' fun e w' => ∃ ow', e = .returned ow' ∧ Hid (RV2 B ms (freeL (args.take (j + 1)) (ls)) ow' w' ∧ FrT [none, some 3] W w' ∧ Below B W w' ∧ B ≤ w'.heap.size)) := fun W' hb => by
            have hbB : Below B wr W' := hb.mono HJ.out.2.2.2
            have := IH.out j hja (freeL (args.take j) (ls)) ow (by omega) W' (HBW.trans (hb.mono HBW.size)) (Nat.le_trans HJ.out.2.2.2 hb.size) (HJ.out.1.below hb)
            rw [hcs] at this
            refine this.mono ?_
            rintro e w' ⟨ow', rfl, q1, q2, q3⟩
            rw [freeL_take args hja]
            exact ⟨ow', rfl, q1, (HJ.out.2.1.trans (FrT.of_below hb)).trans q2, (HJ.out.2.2.1.trans hbB).trans q3, Nat.le_trans (Nat.le_trans HJ.out.2.2.2 hb.size) q3.size⟩
          clear h1 h5 h6 h7
          go_wp2_with fail
          refine (HCALL.out _ (by exact below_one _ _)).mono ?_
          rintro e w3 ⟨ow', rfl, HJ3⟩
          clear e0 e1 e2 e3 e4 e5 e6 HCALL
          go_wp2_with fail
          go_roundg (gk - 1)
          case measure => omega
          case rel => exact ⟨j + 1, ow', by omega, by go_num, rfl, HJ3⟩
        · obtain rfl : j = l := by omega
          have h2 := HJ.out
          rw [List.take_of_length_le (by rw [HL.out]; exact Nat.le_refl _)] at h2
          have HE2 := HE.out
          subst HE2
          have HJ2 := Lib.hid h2
          clear h2 HJ
          go_wp2_with fail
          go_ret
          exact ⟨ow, rfl, HJ2.out.1, HJ2.out.2.1, HJ2.out.2.2.1⟩

set_option maxRecDepth 100000 in
set_option maxHeartbeats 3200000 in
theorem rfree_any {w : World} {t : Tm} {cs : List Value} (h : TC w t cs) (hc : t.count ≤ 1000000) (W : World) (hW : Below w.heap.size w W) :
    Calls Tryz.prog 40 #[.agg cs.toArray] W fun e W' => ∃ ov, e = .returned ov ∧ W'.ownsRow W.heap.size 3 1 ov (t.free []).length (ints (t.free [])) ∧ Below W.heap.size W W' := by
  have HFI : Hid (∀ (W1 : World) (ms : Nat), Below W.heap.size W W1 → W.heap.size ≤ ms → W1.heap[ms]? = some (.map #[] 0) → Calls Tryz.prog 83 #[.agg cs.toArray, .map (some ms), .slice none 0 0] W1 fun e w' => ∃ ov, e = .returned ov ∧ Hid (w'.ownsRow W.heap.size 3 1 ov (t.free []).length (ints (t.free [])) ∧ Below W.heap.size W w')) := fun W1 ms hb hms hm => by
    have hset : (fun _ => none) = setF [] := by funext j; simp [setF]
    refine (freeInto_any W.heap.size ms hW.size h [] (.slice none 0 0) (by simpa using hc) W1 (hW.trans (hb.mono hW.size)) hb.size ⟨World.ownsRow_nil _ _ _ _, ⟨0, hset ▸ MapI.empty hm⟩, hms⟩).mono ?_
    rintro e w' ⟨ov, rfl, q1, _, q3⟩
    exact ⟨ov, rfl, q1.row, hb.trans q3⟩
  obtain ⟨k, v, s, ng, A1, n1, c1, B1, m1, d1, Ar, l, cap, hcs⟩ := h.form
  subst hcs
  have hmm := @run_makeMap Tryz.prog
  clear h hc hW
  go_enter Tryz.func40, Tryz.ntmps40
  go_wp2_with fail
  refine (HFI.out _ (W.heap.size + 1) (below_pair W _ _) (by omega) ?_).mono ?_
  · have := heap_alloc_new (W.alloc (.cells #[.int .i64 k, .int .i64 v, .string s, .bool ng, .slice A1 n1 c1, .slice B1 m1 d1, .slice Ar l cap] 27)) (.map #[] 0)
    rw [show (W.alloc (.cells #[.int .i64 k, .int .i64 v, .string s, .bool ng, .slice A1 n1 c1, .slice B1 m1 d1, .slice Ar l cap] 27)).heap.size = W.heap.size + 1 by simp] at this
    exact this
  rintro e w2 ⟨ov, rfl, HQ⟩
  go_wp2_with fail
  go_ret
  exact ⟨ov, rfl, HQ.out⟩
end Go.Proofs.YtkfnpcilanheiaaGreat
/- term.Free. -/
namespace Go.Proofs.YtkfnpcilanheiaaGreat
open Go.RowKit NumB
set_option linter.unusedVariables false
set_option linter.unusedSimpArgs false

set_option maxRecDepth 100000 in
set_option maxHeartbeats 3200000 in
theorem free_any {w : World} {t : Tm} {cs : List Value} (h : TC w t cs) (hc : t.count ≤ 1000000) (W : World) (hW : Below w.heap.size w W) :
    Calls Tryz.prog 37 #[.agg cs.toArray] W fun e W' => ∃ ov, e = .returned ov ∧ W'.ownsRow W.heap.size 3 1 ov (t.free []).length (ints (t.free [])) ∧ Below W.heap.size W W' := by
  obtain ⟨k, v, s, ng, A1, n1, c1, B1, m1, d1, Ar, l, cap, hcs⟩ := h.form
  subst hcs
  have hb4 : Blk (((((W.alloc (.cells #[.int .i64 k, .int .i64 v, .string s, .bool ng, .slice A1 n1 c1, .slice B1 m1 d1, .slice Ar l cap] 27)).alloc (.cells #[.slice none 0 0] 43)).alloc (.map #[] 0)).alloc (.cells #[.map (some (W.heap.size + 1 + 1))] 111)).alloc (.cells #[.nilFunc] 112)) (W.heap.size + 1 + 1 + 1 + 1) 112 #[.nilFunc] := by
    have := Blk.new ((((W.alloc (.cells #[.int .i64 k, .int .i64 v, .string s, .bool ng, .slice A1 n1 c1, .slice B1 m1 d1, .slice Ar l cap] 27)).alloc (.cells #[.slice none 0 0] 43)).alloc (.map #[] 0)).alloc (.cells #[.map (some (W.heap.size + 1 + 1))] 111)) 112 #[.nilFunc]
    rw [show ((((W.alloc (.cells #[.int .i64 k, .int .i64 v, .string s, .bool ng, .slice A1 n1 c1, .slice B1 m1 d1, .slice Ar l cap] 27)).alloc (.cells #[.slice none 0 0] 43)).alloc (.map #[] 0)).alloc (.cells #[.map (some (W.heap.size + 1 + 1))] 111)).heap.size = W.heap.size + 1 + 1 + 1 + 1 by simp] at this
    exact this
  have fz := hb4.frozen 0
  have a4 := hb4.cell 0
  have hst : (store ⟨W.heap.size + 1 + 1 + 1 + 1, 0, none⟩ (.func (.func 82) #[] #[.pointer (some ⟨W.heap.size + 1 + 1 + 1, 0, none⟩), .pointer (some ⟨W.heap.size + 1, 0, none⟩), .pointer (some ⟨W.heap.size + 1 + 1 + 1 + 1, 0, none⟩)])).run Tryz.prog (((((W.alloc (.cells #[.int .i64 k, .int .i64 v, .string s, .bool ng, .slice A1 n1 c1, .slice B1 m1 d1, .slice Ar l cap] 27)).alloc (.cells #[.slice none 0 0] 43)).alloc (.map #[] 0)).alloc (.cells #[.map (some (W.heap.size + 1 + 1))] 111)).alloc (.cells #[.nilFunc] 112)) = .ok () ((((((W.alloc (.cells #[.int .i64 k, .int .i64 v, .string s, .bool ng, .slice A1 n1 c1, .slice B1 m1 d1, .slice Ar l cap] 27)).alloc (.cells #[.slice none 0 0] 43)).alloc (.map #[] 0)).alloc (.cells #[.map (some (W.heap.size + 1 + 1))] 111)).alloc (.cells #[.nilFunc] 112)).setCell ⟨W.heap.size + 1 + 1 + 1 + 1, 0, none⟩ (.func (.func 82) #[] #[.pointer (some ⟨W.heap.size + 1 + 1 + 1, 0, none⟩), .pointer (some ⟨W.heap.size + 1, 0, none⟩), .pointer (some ⟨W.heap.size + 1 + 1 + 1 + 1, 0, none⟩)])) := by
    rw [run_store _ _ _ _ _ rfl, a4, fz]
    rfl
  clear hb4 fz a4
  have HRUN : Hid (Calls Tryz.prog 82 #[.agg #[.int .i64 k, .int .i64 v, .string s, .bool ng, .slice A1 n1 c1, .slice B1 m1 d1, .slice Ar l cap], .pointer (some ⟨W.heap.size + 1 + 1 + 1, 0, none⟩), .pointer (some ⟨W.heap.size + 1, 0, none⟩), .pointer (some ⟨W.heap.size + 1 + 1 + 1 + 1, 0, none⟩)] (((((W.alloc (.cells #[.int .i64 k, .int .i64 v, .string s, .bool ng, .slice A1 n1 c1, .slice B1 m1 d1, .slice Ar l cap] 27)).alloc (.cells #[.slice none 0 0] 43)).alloc (.map #[] 0)).alloc (.cells #[.map (some (W.heap.size + 1 + 1))] 111)).alloc (.cells #[.func (.func 82) #[] #[.pointer (some ⟨W.heap.size + 1 + 1 + 1, 0, none⟩), .pointer (some ⟨W.heap.size + 1, 0, none⟩), .pointer (some ⟨W.heap.size + 1 + 1 + 1 + 1, 0, none⟩)]] 112)) fun e w' => e = .returned (.tuple #[]) ∧ Hid (FV W.heap.size (W.heap.size + 1 + 1 + 1) (W.heap.size + 1) (W.heap.size + 1 + 1 + 1 + 1) (W.heap.size + 1 + 1) (t.free []) w' ∧ Below W.heap.size W w')) := by
    have hb1 : Blk ((W.alloc (.cells #[.int .i64 k, .int .i64 v, .string s, .bool ng, .slice A1 n1 c1, .slice B1 m1 d1, .slice Ar l cap] 27)).alloc (.cells #[.slice none 0 0] 43)) (W.heap.size + 1) 43 #[.slice none 0 0] := by
      have := Blk.new (W.alloc (.cells #[.int .i64 k, .int .i64 v, .string s, .bool ng, .slice A1 n1 c1, .slice B1 m1 d1, .slice Ar l cap] 27)) 43 #[.slice none 0 0]
      rw [show (W.alloc (.cells #[.int .i64 k, .int .i64 v, .string s, .bool ng, .slice A1 n1 c1, .slice B1 m1 d1, .slice Ar l cap] 27)).heap.size = W.heap.size + 1 by simp] at this
      exact this
    have hb3 : Blk ((((W.alloc (.cells #[.int .i64 k, .int .i64 v, .string s, .bool ng, .slice A1 n1 c1, .slice B1 m1 d1, .slice Ar l cap] 27)).alloc (.cells #[.slice none 0 0] 43)).alloc (.map #[] 0)).alloc (.cells #[.map (some (W.heap.size + 1 + 1))] 111)) (W.heap.size + 1 + 1 + 1) 111 #[.map (some (W.heap.size + 1 + 1))] := by
      have := Blk.new (((W.alloc (.cells #[.int .i64 k, .int .i64 v, .string s, .bool ng, .slice A1 n1 c1, .slice B1 m1 d1, .slice Ar l cap] 27)).alloc (.cells #[.slice none 0 0] 43)).alloc (.map #[] 0)) 111 #[.map (some (W.heap.size + 1 + 1))]
      rw [show (((W.alloc (.cells #[.int .i64 k, .int .i64 v, .string s, .bool ng, .slice A1 n1 c1, .slice B1 m1 d1, .slice Ar l cap] 27)).alloc (.cells #[.slice none 0 0] 43)).alloc (.map #[] 0)).heap.size = W.heap.size + 1 + 1 + 1 by simp] at this
      exact this
    have hb4 : Blk (((((W.alloc (.cells #[.int .i64 k, .int .i64 v, .string s, .bool ng, .slice A1 n1 c1, .slice B1 m1 d1, .slice Ar l cap] 27)).alloc (.cells #[.slice none 0 0] 43)).alloc (.map #[] 0)).alloc (.cells #[.map (some (W.heap.size + 1 + 1))] 111)).alloc (.cells #[.func (.func 82) #[] #[.pointer (some ⟨W.heap.size + 1 + 1 + 1, 0, none⟩), .pointer (some ⟨W.heap.size + 1, 0, none⟩), .pointer (some ⟨W.heap.size + 1 + 1 + 1 + 1, 0, none⟩)]] 112)) (W.heap.size + 1 + 1 + 1 + 1) 112 #[.func (.func 82) #[] #[.pointer (some ⟨W.heap.size + 1 + 1 + 1, 0, none⟩), .pointer (some ⟨W.heap.size + 1, 0, none⟩), .pointer (some ⟨W.heap.size + 1 + 1 + 1 + 1, 0, none⟩)]] := by
      have := Blk.new ((((W.alloc (.cells #[.int .i64 k, .int .i64 v, .string s, .bool ng, .slice A1 n1 c1, .slice B1 m1 d1, .slice Ar l cap] 27)).alloc (.cells #[.slice none 0 0] 43)).alloc (.map #[] 0)).alloc (.cells #[.map (some (W.heap.size + 1 + 1))] 111)) 112 #[.func (.func 82) #[] #[.pointer (some ⟨W.heap.size + 1 + 1 + 1, 0, none⟩), .pointer (some ⟨W.heap.size + 1, 0, none⟩), .pointer (some ⟨W.heap.size + 1 + 1 + 1 + 1, 0, none⟩)]]
      rw [show ((((W.alloc (.cells #[.int .i64 k, .int .i64 v, .string s, .bool ng, .slice A1 n1 c1, .slice B1 m1 d1, .slice Ar l cap] 27)).alloc (.cells #[.slice none 0 0] 43)).alloc (.map #[] 0)).alloc (.cells #[.map (some (W.heap.size + 1 + 1))] 111)).heap.size = W.heap.size + 1 + 1 + 1 + 1 by simp] at this
      exact this
    have hbw : Below W.heap.size W (((((W.alloc (.cells #[.int .i64 k, .int .i64 v, .string s, .bool ng, .slice A1 n1 c1, .slice B1 m1 d1, .slice Ar l cap] 27)).alloc (.cells #[.slice none 0 0] 43)).alloc (.map #[] 0)).alloc (.cells #[.map (some (W.heap.size + 1 + 1))] 111)).alloc (.cells #[.func (.func 82) #[] #[.pointer (some ⟨W.heap.size + 1 + 1 + 1, 0, none⟩), .pointer (some ⟨W.heap.size + 1, 0, none⟩), .pointer (some ⟨W.heap.size + 1 + 1 + 1 + 1, 0, none⟩)]] 112)) := (((((Below.refl _ W).alloc (Nat.le_refl _) _).alloc (by simp) _).alloc (by simp; omega) _).alloc (by simp; omega) _).alloc (by simp; omega) _
    have hm0 : (((((W.alloc (.cells #[.int .i64 k, .int .i64 v, .string s, .bool ng, .slice A1 n1 c1, .slice B1 m1 d1, .slice Ar l cap] 27)).alloc (.cells #[.slice none 0 0] 43)).alloc (.map #[] 0)).alloc (.cells #[.map (some (W.heap.size + 1 + 1))] 111)).alloc (.cells #[.func (.func 82) #[] #[.pointer (some ⟨W.heap.size + 1 + 1 + 1, 0, none⟩), .pointer (some ⟨W.heap.size + 1, 0, none⟩), .pointer (some ⟨W.heap.size + 1 + 1 + 1 + 1, 0, none⟩)]] 112)).heap[W.heap.size + 1 + 1]? = some (.map #[] 0) := by
      have := heap_alloc_new ((W.alloc (.cells #[.int .i64 k, .int .i64 v, .string s, .bool ng, .slice A1 n1 c1, .slice B1 m1 d1, .slice Ar l cap] 27)).alloc (.cells #[.slice none 0 0] 43)) (.map #[] 0)
      rw [show ((W.alloc (.cells #[.int .i64 k, .int .i64 v, .string s, .bool ng, .slice A1 n1 c1, .slice B1 m1 d1, .slice Ar l cap] 27)).alloc (.cells #[.slice none 0 0] 43)).heap.size = W.heap.size + 1 + 1 by simp] at this
      rw [Lib.alloc_old _ _ _ (by simp), Lib.alloc_old _ _ _ (by simp)]
      exact this
    have g1 := ((hb1.alloc (.map #[] 0)).alloc (.cells #[.map (some (W.heap.size + 1 + 1))] 111)).alloc (.cells #[.func (.func 82) #[] #[.pointer (some ⟨W.heap.size + 1 + 1 + 1, 0, none⟩), .pointer (some ⟨W.heap.size + 1, 0, none⟩), .pointer (some ⟨W.heap.size + 1 + 1 + 1 + 1, 0, none⟩)]] 112)
    have g3 := hb3.alloc (.cells #[.func (.func 82) #[] #[.pointer (some ⟨W.heap.size + 1 + 1 + 1, 0, none⟩), .pointer (some ⟨W.heap.size + 1, 0, none⟩), .pointer (some ⟨W.heap.size + 1 + 1 + 1 + 1, 0, none⟩)]] 112)
    have hset : (fun _ => none) = setF [] := by funext j; simp [setF]
    have hfv : FV W.heap.size (W.heap.size + 1 + 1 + 1) (W.heap.size + 1) (W.heap.size + 1 + 1 + 1 + 1) (W.heap.size + 1 + 1) [] (((((W.alloc (.cells #[.int .i64 k, .int .i64 v, .string s, .bool ng, .slice A1 n1 c1, .slice B1 m1 d1, .slice Ar l cap] 27)).alloc (.cells #[.slice none 0 0] 43)).alloc (.map #[] 0)).alloc (.cells #[.map (some (W.heap.size + 1 + 1))] 111)).alloc (.cells #[.func (.func 82) #[] #[.pointer (some ⟨W.heap.size + 1 + 1 + 1, 0, none⟩), .pointer (some ⟨W.heap.size + 1, 0, none⟩), .pointer (some ⟨W.heap.size + 1 + 1 + 1 + 1, 0, none⟩)]] 112)) := ⟨g3, ⟨_, g1, World.ownsRow_nil _ _ _ _⟩, hb4, ⟨0, hset ▸ MapI.empty hm0⟩, by omega, by omega⟩
    refine (free_visit W.heap.size (W.heap.size + 1 + 1 + 1) (W.heap.size + 1) (W.heap.size + 1 + 1 + 1 + 1) (W.heap.size + 1 + 1) hW.size h [] (by simpa using hc) (((((W.alloc (.cells #[.int .i64 k, .int .i64 v, .string s, .bool ng, .slice A1 n1 c1, .slice B1 m1 d1, .slice Ar l cap] 27)).alloc (.cells #[.slice none 0 0] 43)).alloc (.map #[] 0)).alloc (.cells #[.map (some (W.heap.size + 1 + 1))] 111)).alloc (.cells #[.func (.func 82) #[] #[.pointer (some ⟨W.heap.size + 1 + 1 + 1, 0, none⟩), .pointer (some ⟨W.heap.size + 1, 0, none⟩), .pointer (some ⟨W.heap.size + 1 + 1 + 1 + 1, 0, none⟩)]] 112)) (hW.trans (hbw.mono hW.size)) hbw.size hfv).mono ?_
    rintro e w' ⟨rfl, q1, _, q3⟩
    exact ⟨rfl, q1, hbw.trans q3⟩
  have hmm := @run_makeMap Tryz.prog
  generalize t.free [] = ls at *
  clear h hc hW
  go_enter Tryz.func37, Tryz.ntmps37
  go_wp2_with fail
  refine HRUN.out.mono ?_
  rintro e w2 ⟨rfl, HQ⟩
  obtain ⟨ov, h1, h2⟩ := HQ.out.1.h2
  have HR := Lib.hid h2
  have HB := Lib.hid HQ.out.2
  have o0 := h1.cell 0
  simp only [List.getElem?_toArray, List.getElem?_cons_zero, List.getElem?_cons_succ] at o0
  clear hst h1 h2 HQ HRUN
  go_wp2_with fail
  go_ret
  exact ⟨ov, rfl, HR.out, HB.out⟩
end Go.Proofs.YtkfnpcilanheiaaGreat
/- fetterlocklaw2.sameInts at two slices of the same ints. -/
namespace Go.Proofs.YtkfnpcilanheiaaGreat
open Go.RowKit NumB
set_option linter.unusedVariables false
set_option linter.unusedSimpArgs false

/-- A slice that reads as ints. -/
def SlI (w : World) (v : Value) (xs : List Int) : Prop := ∃ A c, v = .slice A xs.length c ∧ (0 < xs.length → ∃ b, A = some ⟨b, 0, none⟩ ∧ ∀ i (h : i < xs.length), w.cell? ⟨b, i, none⟩ = some (.int .i64 xs[i]))
theorem SlI.of {w : World} {B : Nat} {v : Value} {xs : List Int} (h : w.ownsRow B 3 1 v xs.length (ints xs)) : SlI w v xs := by
  rcases h.2 with ⟨h1, h2⟩ | ⟨g, cap, cur, h1, _⟩
  · exact ⟨none, 0, by rw [h1, h2], fun q => by omega⟩
  · subst h1
    refine ⟨_, _, rfl, fun _ => ⟨g, rfl, fun i hi => ?_⟩⟩
    have := h.cellAt i (by omega)
    rw [this]
    unfold ints
    simp [hi]
end Go.Proofs.YtkfnpcilanheiaaGreat

/- fetterlockref2.text, shape and Shape at a valid term. Conditions: at most a hundred thousand nodes. And 2 more texts. -/
import Derived.Test.YtkfnpcilanheiaaGreatJo8
import Derived.Test.YtkfnpcilanheiaaGreatJo16
import Derived.Test.YtkfnpcilanheiaaGreatJo17
import Derived.Test.YtkfnpcilanheiaaGreatJo19
set_option linter.unusedVariables false
set_option linter.unusedSimpArgs false
set_option maxRecDepth 100000
namespace Go.Proofs.YtkfnpcilanheiaaGreat
open Go.RowKit NumB
theorem rv_any (v : Int) (w : World) : Calls Tryz.prog 186 #[.int .i64 v] w fun e w' => e = .returned (.agg #[.int .i64 1, .int .i64 v, .string ⟨#[]⟩, .bool false, .slice none 0 0, .slice none 0 0, .slice none 0 0]) ∧ Below w.heap.size w w' := by
  go_enter Tryz.func186, Tryz.ntmps186
  go_wp2_with fail
  refine bodyPost_ret (v := .agg #[.int .i64 1, .int .i64 v, .string ⟨#[]⟩, .bool false, .slice none 0 0, .slice none 0 0, .slice none 0 0]) (by rw [results_cellT rfl]; go_simp) rfl ?_
  exact ⟨rfl, below_one w _⟩
def Tm.var (v : Int) : Tm := .mk 1 v ⟨#[]⟩ ⟨false, [], []⟩ []
theorem slk_nil (w : World) (k : IntKind) : Sl k w (.slice none 0 0) [] := (OwnV.nil_ (B := 0) (T := 0) w).sl
theorem TC.var (v : Int) (hv : i64ok v) (w : World) : TC w (.var v) [.int .i64 1, .int .i64 v, .string ⟨#[]⟩, .bool false, .slice none 0 0, .slice none 0 0, .slice none 0 0] :=
  .mk 1 v ⟨#[]⟩ ⟨false, [], []⟩ [] (.slice none 0 0) (.slice none 0 0) none 0 (fun _ => []) (by unfold i64ok; omega) hv (by show 0 ≤ _; omega) (slk_nil w _) (slk_nil w _) ⟨Ok.nil, Ok.nil⟩ (Nat.le_refl _) (by unfold maxLen; omega) (fun h => absurd h (by simp)) (fun i h => absurd h (by simp))
theorem label_eq (k v : Int) (s : ByteArray) (n : LN) (args : List Tm) : labelB (.mk k v s n args) = if k = 1 then (⟨#[118]⟩ : ByteArray) ++ ⟨(dec v.toNat).toArray⟩ else if k = 2 then (⟨#[110]⟩ : ByteArray) ++ ⟨(fmtL n.neg n.x n.y).toArray⟩ else if k = 3 then (⟨#[97]⟩ : ByteArray) ++ s else if k = 4 then (⟨#[115]⟩ : ByteArray) ++ s else ((⟨#[99]⟩ : ByteArray) ++ Utf8.encode (48 + (args.length : Int))) ++ s := rfl
theorem var_label (n : Nat) : labelB (.var (n : Int)) = (⟨#[118]⟩ : ByteArray) ++ ⟨(dec n).toArray⟩ := by
  unfold Tm.var labelB
  dsimp only
  rw [if_pos rfl, Int.toNat_natCast]
theorem var_node {v : Int} (h0 : 0 ≤ v) (h1 : v ≤ 1073741824) (er : Int) : nodeE 1 v ⟨#[]⟩ false 0 0 er 0 = 0 := by
  unfold nodeE
  rw [if_pos rfl, if_pos ⟨h0, h1, by decide +kernel, rfl, rfl⟩]
theorem extract_tail (a : UInt8) (b : ByteArray) : ((⟨#[a]⟩ : ByteArray) ++ b).extract 1 ((⟨#[a]⟩ : ByteArray) ++ b).size = b := by
  apply ByteArray.ext
  have h1 : (⟨#[a]⟩ : ByteArray).size = 1 := rfl
  simp [ByteArray.data_extract, ByteArray.data_append]
  right
  omega
theorem text_any (n : Nat) (hn : n ≤ 1073741824) (w : World) : Calls Tryz.prog 128 #[.int .i64 (n : Int)] w fun e w' => e = .returned (.string ⟨(dec n).toArray⟩) ∧ Below w.heap.size w w' := by
  have HL : Hid (∀ W, Below w.heap.size w W → Calls Tryz.prog 127 #[.agg #[.int .i64 1, .int .i64 (n : Int), .string ⟨#[]⟩, .bool false, .slice none 0 0, .slice none 0 0, .slice none 0 0]] W fun e W' => e = .returned (.string ((⟨#[118]⟩ : ByteArray) ++ ⟨(dec n).toArray⟩)) ∧ Below W.heap.size W W') := fun W hb => by
    have := label_any (TC.var (n : Int) (by unfold i64ok; omega) w) (var_node (by omega) (by omega) _) W hb
    rw [← var_label]
    exact this
  have HX := Lib.hid (extract_tail 118 ⟨(dec n).toArray⟩)
  generalize (⟨(dec n).toArray⟩ : ByteArray) = dn at *
  have HS : Hid (((⟨#[118]⟩ : ByteArray) ++ dn).size = 1 + dn.size) := by unfold Hid; simp [ByteArray.size_append]; rfl
  generalize ((⟨#[118]⟩ : ByteArray) ++ dn) = ln at *
  have hs := HS.out
  clear hn
  go_enter Tryz.func128, Tryz.ntmps128
  go_wp2_with fail
  refine (rv_any _ _).mono ?_
  rintro e w1 ⟨rfl, hb1⟩
  have HB1 := Lib.hid hb1
  clear hb1
  go_wp2_with fail
  refine (HL.out _ HB1.out).mono ?_
  rintro e w2 ⟨rfl, hb2⟩
  have HB2 := Lib.hid (HB1.out.trans (hb2.mono HB1.out.size))
  clear hb2 HB1 HL
  go_wp2_with fail
  go_ret
  exact ⟨congrArg (fun x => Ending.returned (.string x)) (by rw [← hs]; exact HX.out), HB2.out⟩
mutual
def Tm.shapeL : Tm → List UInt8
  | .mk k v s n args => dec (labelB (.mk k v s n args)).size ++ (58 :: ((labelB (.mk k v s n args)).data.toList ++ shapesL args))
def shapesL : List Tm → List UInt8
  | [] => []
  | t :: l => t.shapeL ++ shapesL l
end
theorem shapesL_snoc (l : List Tm) (t : Tm) : shapesL (l ++ [t]) = shapesL l ++ t.shapeL := by
  induction l with
  | nil => simp [shapesL]
  | cons x l ih => simp [shapesL, ih]
theorem shapesL_take (l : List Tm) {j : Nat} (hj : j < l.length) : shapesL (l.take (j + 1)) = shapesL (l.take j) ++ (l[j]).shapeL := by rw [take_succ_get l hj, shapesL_snoc]
theorem dec_short {n : Nat} (h : n < 1000000000000) : (dec n).length ≤ 1300 := by
  have h1 : (digs W16 n).length ≤ 3 := digs_len_le W16_gt (by unfold W16; omega)
  exact dec_len16 (by omega)
theorem label_len {k v : Int} {s : ByteArray} {n : LN} {args : List Tm} (hn : n.ok) (hv : nodeE k v s n.neg n.num.length n.den.length n.err args.length = 0) : (labelB (.mk k v s n args)).size ≤ 5000 := by
  have hb : ∀ l : List UInt8, (⟨l.toArray⟩ : ByteArray).size = l.length := fun l => by simp [ByteArray.size]
  have h1 : ∀ c : UInt8, (⟨#[c]⟩ : ByteArray).size = 1 := fun c => rfl
  rw [label_eq]
  rcases node_parts hv with ⟨rfl, a1, a2, a3, a4⟩ | ⟨_, _, _, _, ⟨rfl, a1, a2, a3, a4⟩ | ⟨rfl, a1, a2, a3⟩ | ⟨rfl, a1, a2, a3⟩ | ⟨rfl, a1, a2, a3, a4⟩⟩
  · rw [if_neg (by decide), if_pos rfl, ByteArray.size_append, h1, hb]
    have hl := LN.len16 hn a3
    have hx := dec_len16 hl.1
    have hy := dec_len16 hl.2
    have hf : (fmtL n.neg n.x n.y).length ≤ 2700 := by
      unfold fmtL
      (repeat' split) <;> simp <;> omega
    omega
  · rw [if_pos rfl, ByteArray.size_append, h1, hb]
    have := dec_short (n := v.toNat) (by omega)
    omega
  · rw [if_neg (by decide), if_neg (by decide), if_pos rfl, ByteArray.size_append, h1]; omega
  · rw [if_neg (by decide), if_neg (by decide), if_neg (by decide), if_pos rfl, ByteArray.size_append, h1]; omega
  · rw [if_neg (by decide), if_neg (by decide), if_neg (by decide), if_neg (by decide), ByteArray.size_append, ByteArray.size_append, h1]
    have he : (Utf8.encode (48 + (args.length : Int))).size = 1 := by
      have : ∀ m : Fin 33, (Utf8.encode (48 + (m.val : Int))).size = 1 := by decide +kernel
      exact this ⟨args.length, by omega⟩
    omega
theorem shapesL_len {l : List Tm} (h : ∀ i (hi : i < l.length), (l[i]).shapeL.length ≤ 10000 * (l[i]).count) : (shapesL l).length ≤ 10000 * countL l := by
  induction l with
  | nil => simp [shapesL]
  | cons x l ih =>
    have h0 := h 0 (by simp)
    have h1 := ih fun i hi => h (i + 1) (Nat.succ_lt_succ hi)
    simp [shapesL, countL] at *
    omega
theorem TC.shape_len {w : World} {t : Tm} {cs : List Value} (h : TC w t cs) : t.err0 = 0 → t.shapeL.length ≤ 10000 * t.count := by
  induction h with
  | mk k v s n args A B Ar cap cs hk hv hs hA hB hn hcap hm hr ha ih =>
    intro he
    obtain ⟨h1, h2⟩ := err0_node he
    have h3 := label_len hn h1
    have h4 := shapesL_len fun i hi => ih i hi (errL_get h2 hi)
    have h5 := dec_short (n := (labelB (.mk k v s n args)).size) (by omega)
    have h6 : ∀ b : ByteArray, b.data.toList.length = b.size := fun b => Array.length_toList
    have h7 : (Tm.mk k v s n args).count = 1 + countL args := rfl
    rw [Tm.shapeL, h7]
    generalize labelB (.mk k v s n args) = lb at *
    simp only [List.length_append, List.length_cons, h6]
    omega
set_option maxHeartbeats 3200000 in
theorem shape_any (B : Nat) {w : World} (hBw : w.heap.size ≤ B) {t : Tm} {cs : List Value} (h : TC w t cs) : t.err0 = 0 → ∀ (ls : List UInt8) (ov : Value), ls.length + 10000 * t.count ≤ 1000000000 → ∀ (W : World), Below w.heap.size w W → B ≤ W.heap.size → RB W B ov ls →
    Calls Tryz.prog 81 #[ov, .agg cs.toArray] W fun e W' => ∃ ov', e = .returned ov' ∧ RB W' B ov' (ls ++ t.shapeL) ∧ AB B W W' := by
  have h' := h
  induction h with
  | mk k v s n args A C Ar cap cs hk hv hs hA hB hn hcap hm hr ha ih =>
    intro he ls ov hcn W hW hBW hF
    obtain ⟨hv1, hv2⟩ := err0_node he
    have HR := Lib.hid hr
    have HA := Lib.hid ha
    have IH : Hid (∀ i (hi : i < args.length) (ls : List UInt8) (ov : Value), ls.length + 10000 * (args[i]).count ≤ 1000000000 → ∀ (W : World), Below w.heap.size w W → B ≤ W.heap.size → RB W B ov ls →
      Calls Tryz.prog 81 #[ov, .agg (cs i).toArray] W fun e W' => ∃ ov', e = .returned ov' ∧ RB W' B ov' (ls ++ (args[i]).shapeL) ∧ AB B W W') := fun i hi => ih i hi (ha i hi) (errL_get hv2 hi)
    have HSH : Hid (∀ j, (hj : j ≤ args.length) → (shapesL (args.take j)).length ≤ 10000 * countL (args.take j)) := fun j hj => shapesL_len fun i hi => by
      rw [List.getElem_take]
      exact (ha i _).shape_len (errL_get hv2 _)
    have HCT : Hid ((Tm.mk k v s n args).count = 1 + countL args) := rfl
    have HLL := Lib.hid (label_len hn hv1)
    have HLA := Lib.hid (label_any h' hv1)
    have HFE : Hid ((Tm.mk k v s n args).shapeL = dec (labelB (.mk k v s n args)).size ++ (58 :: ((labelB (.mk k v s n args)).data.toList ++ shapesL args))) := by unfold Hid; rw [Tm.shapeL]
    have HCN := Lib.hid hcn
    unfold maxLen at hm
    have HWB := Lib.hid hW
    have HBS := Lib.hid hBW
    have HF0 := Lib.hid hF
    obtain ⟨A9, c9, rfl⟩ := hF.form
    generalize (Tm.mk k v s n args).count = ct at *
    generalize (Tm.mk k v s n args).shapeL = fe at *
    generalize (labelB (.mk k v s n args)) = lb at *
    obtain ⟨ln, HLN⟩ : ∃ m, Hid (lb.size = m) := ⟨_, rfl⟩
    have hln : ln ≤ 5000 := by rw [← HLN.out]; exact HLL.out
    generalize n.neg = ng at *
    obtain ⟨A1, q1, rfl, _⟩ := hA
    obtain ⟨B1, q2, rfl, _⟩ := hB
    generalize n.num.length = m1 at *
    generalize n.den.length = m2 at *
    clear hr ha ih hn hk hs hW hcn hBW hF h' he hv1 hv2 hv
    obtain ⟨l, hl⟩ : ∃ l, args.length = l := ⟨_, rfl⟩
    rw [hl] at hcap HLA ⊢
    have HL := Lib.hid hl
    clear hl
    have HBA : Hid (Below W.heap.size W (W.alloc (.cells #[.int .i64 k, .int .i64 v, .string s, .bool ng, .slice A1 m1 q1, .slice B1 m2 q2, .slice Ar l cap] 27))) := below_one W _
    have HT1 : Hid (Blk (W.alloc (.cells #[.int .i64 k, .int .i64 v, .string s, .bool ng, .slice A1 m1 q1, .slice B1 m2 q2, .slice Ar l cap] 27)) W.heap.size 27 #[.int .i64 k, .int .i64 v, .string s, .bool ng, .slice A1 m1 q1, .slice B1 m2 q2, .slice Ar l cap]) := Blk.new W _ _
    have HTX : Hid (∀ W', Calls Tryz.prog 128 #[.int .i64 (ln : Int)] W' fun e w' => e = .returned (.string ⟨(dec ln).toArray⟩) ∧ Below W'.heap.size W' w') := fun W' => text_any ln (by omega) W'
    obtain ⟨dl, HDL⟩ : ∃ d, Hid (dec ln = d) := ⟨_, rfl⟩
    have hdl : dl.length ≤ 1300 := by rw [← HDL.out]; exact dec_short (by omega)
    rw [HDL.out] at HTX
    have HDZ : Hid ((⟨dl.toArray⟩ : ByteArray).size ≤ 1300) := by show _ ≤ _; simpa [ByteArray.size] using hdl
    have HFE2 : Hid (fe = dl ++ (58 :: (lb.data.toList ++ shapesL args))) := by have := HFE.out; rw [HLN.out, HDL.out] at this; exact this
    have HS1 : Hid (ls.length ≤ 1000000000) := by have := HCN.out; show _ ≤ _; omega
    have HDD : Hid ((⟨dl.toArray⟩ : ByteArray).data.toList = dl) := by unfold Hid; simp
    have HBD := Lib.hid hdl
    have hlm : lb.size = ln := HLN.out
    clear HFE hdl
    go_enter Tryz.func81, Tryz.ntmps81
    go_wp2_with fail
    refine (HLA.out _ (by exact HWB.out.trans (HBA.out.mono HWB.out.size))).mono ?_
    rintro e w1 ⟨rfl, hb1⟩
    have HB1 := Lib.hid (HBA.out.trans (hb1.mono HBA.out.size))
    have HK1 := Lib.hid (HT1.out.to hb1)
    clear hb1 HBA HT1 HLA
    go_wp2_with fail
    refine (HTX.out _).mono ?_
    rintro e w2 ⟨rfl, hb2⟩
    have HB2 := Lib.hid (HB1.out.trans (hb2.mono HB1.out.size))
    have HF2 := Lib.hid ((HF0.out.below HB1.out).below hb2)
    have HK2 := Lib.hid (HK1.out.to hb2)
    clear hb2 HB1 HK1 HTX
    have H1 : Hid (ls.length + (⟨dl.toArray⟩ : ByteArray).size ≤ 100000000000) := by have := HS1.out; have := HDZ.out; show _ ≤ _; omega
    have H2 : Hid ((ls ++ dl).length + 1 ≤ 100000000000) := by have := HS1.out; have := HBD.out; show _ ≤ _; rw [List.length_append]; omega
    have H3 : Hid ((ls ++ dl ++ [58]).length + lb.size ≤ 100000000000) := by have := HS1.out; have := HBD.out; have := HCN.out; have := HLL.out; have := HCT.out; show _ ≤ _; simp only [List.length_append, List.length_cons, List.length_nil]; omega
    go_wp2_with (first
      | (at_builtin; refine wpB_str w2 rfl _ _ rfl B _ ls ⟨dl.toArray⟩ rfl rfl HF2.out H1.out (Nat.le_trans HBS.out HB2.out.size) ?_; intro A3 n3 c3 w3 hr3 hb3; have HF3 : Hid (RB w3 B (.slice A3 n3 c3) (ls ++ dl)) := hr3; have HB3 := Lib.hid hb3; clear hr3 hb3)
      | (at_builtin; refine wpB_byte w3 58 58 rfl _ _ rfl B (.slice A3 n3 c3) (ls ++ dl) (by rfl) (by rfl) HF3.out H2.out (Nat.le_trans HBS.out (Nat.le_trans HB2.out.size HB3.out.size)) rfl ?_; intro A4 n4 c4 w4 hr4 hb4; have HF4 := Lib.hid hr4; have HB4 := Lib.hid hb4; clear hr4 hb4)
      | (at_builtin; refine wpB_str w4 rfl _ _ rfl B (.slice A4 n4 c4) (ls ++ dl ++ [58]) lb (by rfl) (by rfl) HF4.out H3.out (Nat.le_trans HBS.out (Nat.le_trans HB2.out.size (Nat.le_trans HB3.out.size HB4.out.size))) ?_; intro A5 n5 c5 w5 hr5 hb5; have HF5 := Lib.hid hr5; have HB5 := Lib.hid ((HB3.out.trans HB4.out).trans hb5); have HK5 := Lib.hid (HK2.out.ab HB5.out (by decide)); have t6 := HK5.out.cell 6; simp only [List.getElem?_toArray, List.getElem?_cons_zero, List.getElem?_cons_succ] at t6; clear hr5 hb5))
    have HE : Hid (ls ++ fe = (ls ++ dl ++ [58] ++ lb.data.toList) ++ shapesL args) := by rw [HFE2.out]; simp [Hid]
    have HLS : Hid ((ls ++ dl ++ [58] ++ lb.data.toList).length + 10000 * countL args ≤ 1000000000) := by
      have := HCN.out; have := HCT.out; have := HLL.out; have := HBD.out
      have e : lb.data.toList.length = lb.size := Array.length_toList
      show _ ≤ _
      simp only [List.length_append, List.length_cons, List.length_nil, e]
      omega
    generalize hg : ls ++ dl ++ [58] ++ lb.data.toList = l5 at *
    have HB0 : Hid (AB B W w5) := (AB.of_below HB2.out HBS.out).trans HB5.out
    have HY : Hid (RB w5 B (.slice A5 n5 c5) (l5 ++ shapesL (args.take 0)) ∧ AB B W w5) := ⟨by rw [List.take_zero]; simpa [shapesL] using HF5.out, HB0.out⟩
    clear hg H1 H2 H3 HF2 HF3 HF4 HF5 HB2 HB3 HB4 HB5 HK2 HK5 HF0 HFE2 HDD HBD HDZ HDL HS1 hln HLN hlm HLL t6
    generalize (Value.slice A5 n5 c5) = v5 at *
    go_loopg [0, 24] l (fun gk s0 s24 wr => ∃ (j : Nat) (ow : Value), gk + j = l ∧ s24 = .int .i64 (j : Int) ∧ ow = s0 ∧ Hid (RB wr B ow (l5 ++ shapesL (args.take j)) ∧ AB B W wr))
    case atStart => exact ⟨0, _, by omega, rfl, rfl, HY⟩
    case round =>
      clear HY HB0
      obtain ⟨j, ow, hgj, rfl, rfl, HJ⟩ := hrel
      by_cases hj : j < l
      · have hja : j < args.length := by rw [HL.out]; exact hj
        have HBW : Below w.heap.size w wr := HWB.out.trans (HJ.out.2.1.mono hBw)
        obtain ⟨b, o, k', v', s', ng', A2, n2, c2, B2, m3, d2, Xr, xl, xc, hAr, hcs, hlt, e0, e1, e2, e3, e4, e5, e6⟩ := arg_cells HR.out HA.out HBW hja
        subst hAr
        have h1 := countL_take args hja
        have h5 := countL_le args (j + 1)
        have h6 := HSH.out j (by omega)
        have h7 := HLS.out
        have HCALL : Hid (∀ W', Below wr.heap.size wr W' → Calls Tryz.prog 81 #[ow, .agg #[.int .i64 k', .int .i64 v', .string s', .bool ng', .slice A2 n2 c2, .slice B2 m3 d2, .slice Xr xl xc]] W' fun e w' => ∃ ow', e = .returned ow' ∧ Hid (RB w' B ow' (l5 ++ shapesL (args.take (j + 1))) ∧ AB B W w')) := fun W' hb => by
          have hB' : B ≤ wr.heap.size := Nat.le_trans HBS.out HJ.out.2.size
          have hbB : AB B wr W' := AB.of_below hb hB'
          have := IH.out j hja (l5 ++ shapesL (args.take j)) ow (by rw [List.length_append]; omega) W' (HBW.trans (hb.mono HBW.size)) (Nat.le_trans hB' hb.size) (HJ.out.1.below hb)
          rw [hcs] at this
          refine this.mono ?_
          rintro e w' ⟨ow', rfl, q1, q2⟩
          rw [shapesL_take args hja]
          exact ⟨ow', rfl, by rw [← List.append_assoc]; exact q1, (HJ.out.2.trans hbB).trans q2⟩
        clear h1 h5 h6 h7
        go_wp2_with fail
        refine (HCALL.out _ (by exact below_one _ _)).mono ?_
        rintro e w3 ⟨ow', rfl, HJ3⟩
        clear e0 e1 e2 e3 e4 e5 e6 HCALL
        go_wp2_with fail
        go_roundg (gk - 1)
        case measure => omega
        case rel => exact ⟨j + 1, ow', by omega, by go_num, rfl, HJ3⟩
      · obtain rfl : j = l := by omega
        have h2 := HJ.out
        rw [List.take_of_length_le (by rw [HL.out]; exact Nat.le_refl _), ← HE.out] at h2
        have HJ2 := Lib.hid h2
        clear h2 HJ
        go_wp2_with fail
        go_ret
        exact ⟨ow, rfl, HJ2.out.1, HJ2.out.2⟩
theorem rShape_any {w : World} {t : Tm} {cs : List Value} (h : TC w t cs) (he : t.err0 = 0) (hc : t.count ≤ 10000) (W : World) (hW : Below w.heap.size w W) :
    Calls Tryz.prog 36 #[.agg cs.toArray] W fun e W' => e = .returned (.string ⟨t.shapeL.toArray⟩) ∧ Below W.heap.size W W' := by
  have HS : Hid (∀ W', Below W.heap.size W W' → Calls Tryz.prog 81 #[.slice none 0 0, .agg cs.toArray] W' fun e w' => ∃ ov, e = .returned ov ∧ (convert 109 9 ov).run Tryz.prog w' = .ok (.string ⟨t.shapeL.toArray⟩) w' ∧ Hid (Below W.heap.size W w')) := fun W' hb => by
    refine (shape_any W.heap.size hW.size h he [] (.slice none 0 0) (by simp; omega) W' (hW.trans (hb.mono hW.size)) hb.size (RB.nil _ _)).mono ?_
    rintro e w' ⟨ov, rfl, q1, q2⟩
    have h0 : 0 < ([] ++ t.shapeL).length := by cases t; rw [Tm.shapeL]; simp; omega
    exact ⟨ov, rfl, by simpa using q1.text h0, hb.trans q2.1⟩
  obtain ⟨k, v, s, ng, A1, n1, c1, B1, m1, d1, Ar, l, cap, hcs⟩ := h.form
  subst hcs
  generalize (⟨t.shapeL.toArray⟩ : ByteArray) = sh at *
  clear h he hc hW
  go_enter Tryz.func36, Tryz.ntmps36
  go_wp2_with fail
  refine (HS.out _ (by exact below_one _ _)).mono ?_
  rintro e w1 ⟨ov, rfl, hcv, HB⟩
  go_wp2_with fail
  go_ret
  exact ⟨rfl, HB.out⟩
theorem lawShape_any {w : World} {t : Tm} {cs : List Value} (h : TC w t cs) (he : t.err0 = 0) (hc : t.count ≤ 10000) (W : World) (hW : Below w.heap.size w W) :
    Calls Tryz.prog 10 #[.agg cs.toArray] W fun e W' => e = .returned (.string ⟨t.shapeL.toArray⟩) ∧ Below W.heap.size W W' := by
  have HS : Hid (∀ W', Below W.heap.size W W' → Calls Tryz.prog 36 #[.agg cs.toArray] W' fun e w' => e = .returned (.string ⟨t.shapeL.toArray⟩) ∧ Hid (Below W.heap.size W w')) := fun W' hb => by
    refine (rShape_any h he hc W' (hW.trans (hb.mono hW.size))).mono ?_
    rintro e w' ⟨rfl, q2⟩
    exact ⟨rfl, hb.trans (q2.mono hb.size)⟩
  have hk0 : ∀ k v s b A B C, cs = [.int .i64 k, .int .i64 v, .string s, .bool b, A, B, C] → (k == 0) = false := fun k v s b A B C e => by
    cases h with
    | mk k' v' s' n args A' B' Ar cap cs hk hv hs hA hB hn hcap hm hr ha =>
      simp only [List.cons.injEq, Value.int.injEq, true_and] at e
      obtain ⟨rfl, _⟩ := e
      rw [beq_eq_false_iff_ne]
      rcases node_parts (err0_node he).1 with ⟨rfl, _⟩ | ⟨_, _, _, _, ⟨rfl, _⟩ | ⟨rfl, _⟩ | ⟨rfl, _⟩ | ⟨rfl, _⟩⟩ <;> decide
  obtain ⟨k, v, s, ng, A1, n1, c1, B1, m1, d1, Ar, l, cap, hcs⟩ := h.form
  subst hcs
  have hk1 := hk0 _ _ _ _ _ _ _ rfl
  generalize (⟨t.shapeL.toArray⟩ : ByteArray) = sh at *
  clear h he hc hW hk0
  go_enter Tryz.func10, Tryz.ntmps10
  go_wp2_with fail
  refine (HS.out _ (by exact below_one _ _)).mono ?_
  rintro e w1 ⟨rfl, HB⟩
  go_wp2_with fail
  go_ret
  exact ⟨rfl, HB.out⟩
end Go.Proofs.YtkfnpcilanheiaaGreat
namespace Go.Proofs.YtkfnpcilanheiaaGreat
open Go.ChangeShapes Go.WideShapes Go.ChangeAt Go.RowKit Go.Joins Go.Deep NumB
def Tm.cell (x r : Tm) : Tm := .mk 5 0 ⟨#[46]⟩ ⟨false, [], []⟩ [x, r]
def ccell (b : Nat) : List Value := [.int .i64 5, .int .i64 0, .string ⟨#[46]⟩, .bool false, .slice none 0 0, .slice none 0 0, .slice (some ⟨b, 0, none⟩) 2 2]
theorem TC.cell {W : World} {b : Nat} {x r : Tm} {k0 v0 k1 v1 : Int} {s0 s1 : ByteArray} {n0 n1 : Bool} {p0 p1 p2 q0 q1 q2 : Value}
    (h : Blk W b 27 #[.int .i64 k0, .int .i64 v0, .string s0, .bool n0, p0, p1, p2, .int .i64 k1, .int .i64 v1, .string s1, .bool n1, q0, q1, q2])
    (hx : TC W x [.int .i64 k0, .int .i64 v0, .string s0, .bool n0, p0, p1, p2]) (hr : TC W r [.int .i64 k1, .int .i64 v1, .string s1, .bool n1, q0, q1, q2]) :
    TC W (.cell x r) (ccell b) :=
  .mk 5 0 ⟨#[46]⟩ ⟨false, [], []⟩ [x, r] (.slice none 0 0) (.slice none 0 0) (some ⟨b, 0, none⟩) 2 (fun i => if i = 0 then [.int .i64 k0, .int .i64 v0, .string s0, .bool n0, p0, p1, p2] else [.int .i64 k1, .int .i64 v1, .string s1, .bool n1, q0, q1, q2]) ⟨by decide, by decide⟩ ⟨by decide, by decide⟩ (by decide) (slk_nil W _) (slk_nil W _) ⟨Ok.nil, Ok.nil⟩ (Nat.le_refl _) (by decide)
    (fun _ => ⟨b, 0, rfl, h.lt, fun i hi j hj => by
      have hi : i < 2 := hi
      rw [h.cell]
      have h01 : i = 0 ∨ i = 1 := by omega
      have h07 : j = 0 ∨ j = 1 ∨ j = 2 ∨ j = 3 ∨ j = 4 ∨ j = 5 ∨ j = 6 := by omega
      rcases h01 with rfl | rfl <;> rcases h07 with rfl | rfl | rfl | rfl | rfl | rfl | rfl <;> rfl⟩)
    (fun i hi => by
      have hi : i < 2 := hi
      have : i = 0 ∨ i = 1 := by omega
      rcases this with rfl | rfl
      · exact hx
      · exact hr)
end Go.Proofs.YtkfnpcilanheiaaGreat
namespace Go.Proofs.YtkfnpcilanheiaaGreat
open Go.ChangeShapes Go.WideShapes Go.ChangeAt Go.RowKit Go.Joins Go.Deep NumB
def BC (w : World) (p : Int × Tm) (cs : List Value) : Prop := ∃ ct, cs = .int .i64 p.1 :: ct ∧ i64ok p.1 ∧ TC w p.2 ct
theorem BC.len {w : World} {p : Int × Tm} {cs : List Value} (h : BC w p cs) : cs.length = 8 := by
  obtain ⟨ct, rfl, _, ht⟩ := h
  rw [List.length_cons, ht.len]
def BL (w : World) (v : Value) (ts : List (Int × Tm)) : Prop := ∃ (Ar : Option Addr) (cap : Nat) (cs : Nat → List Value), v = .slice Ar ts.length cap ∧ ts.length ≤ cap ∧ cap ≤ maxLen ∧
  (0 < ts.length → ∃ b o, Ar = some ⟨b, o, none⟩ ∧ b < w.heap.size ∧ ∀ i, i < ts.length → ∀ j, j < 8 → w.cell? ⟨b, o + i * 8 + j, none⟩ = (cs i)[j]?) ∧ ∀ i (h : i < ts.length), BC w ts[i] (cs i)
theorem bind_cells {w W : World} {args : List (Int × Tm)} {Ar : Option Addr} {cs : Nat → List Value} (hr : 0 < args.length → ∃ b o, Ar = some ⟨b, o, none⟩ ∧ b < w.heap.size ∧ ∀ i, i < args.length → ∀ j, j < 8 → w.cell? ⟨b, o + i * 8 + j, none⟩ = (cs i)[j]?)
    (ha : ∀ i (h : i < args.length), BC w args[i] (cs i)) (hb : Below w.heap.size w W) {j : Nat} (hj : j < args.length) :
    ∃ b o k v s ng A1 n1 c1 B1 m1 d1 Xr l cap, Ar = some ⟨b, o, none⟩ ∧ TC w (args[j]).2 [.int .i64 k, .int .i64 v, .string s, .bool ng, .slice A1 n1 c1, .slice B1 m1 d1, .slice Xr l cap] ∧ b < w.heap.size ∧
      W.cell? ⟨b, o + j * 8, none⟩ = some (.int .i64 (args[j]).1) ∧ W.cell? ⟨b, o + j * 8 + 1, none⟩ = some (.int .i64 k) ∧ W.cell? ⟨b, o + j * 8 + 2, none⟩ = some (.int .i64 v) ∧ W.cell? ⟨b, o + j * 8 + 3, none⟩ = some (.string s) ∧ W.cell? ⟨b, o + j * 8 + 4, none⟩ = some (.bool ng) ∧
      W.cell? ⟨b, o + j * 8 + 5, none⟩ = some (.slice A1 n1 c1) ∧ W.cell? ⟨b, o + j * 8 + 6, none⟩ = some (.slice B1 m1 d1) ∧ W.cell? ⟨b, o + j * 8 + 7, none⟩ = some (.slice Xr l cap) := by
  obtain ⟨b, o, e, hlt, hc⟩ := hr (by omega)
  obtain ⟨ct, hcs, hi, ht⟩ := ha j hj
  obtain ⟨k, v, s, ng, A1, n1, c1, B1, m1, d1, Xr, l, cap, hf⟩ := ht.form
  subst hf
  have h := fun q (hq : q < 8) => (hb.cell (p := ⟨b, o + j * 8 + q, none⟩) hlt).trans (hc j hj q hq)
  rw [hcs] at h
  exact ⟨b, o, k, v, s, ng, A1, n1, c1, B1, m1, d1, Xr, l, cap, e, ht, hlt, h 0 (by omega), h 1 (by omega), h 2 (by omega), h 3 (by omega), h 4 (by omega), h 5 (by omega), h 6 (by omega), h 7 (by omega)⟩
end Go.Proofs.YtkfnpcilanheiaaGreat

/- term.check, term.Match and the reference's Match. -/
import Derived.Test.YtkfnpcilanheiaaGreatJo29
import Derived.Test.YtkfnpcilanheiaaGreatJo31
import Derived.Test.YtkfnpcilanheiaaGreatJo35
set_option linter.unusedVariables false
set_option linter.unusedSimpArgs false
set_option maxRecDepth 100000
namespace Go.Proofs.YtkfnpcilanheiaaGreat
open Go.RowKit NumB
def matE (p t : Tm) : Int := if p.check = 0 then t.check else p.check
def matO (p t : Tm) : Option (List (Int × Tm)) := if matE p t = 0 then p.mat t [] else none
def chkL : List Tm → Int
  | [] => 0
  | t :: l => if t.check = 0 then chkL l else t.check
theorem results_tmp3 {fn : Func} {a b c : Tmp} (h : fn.results = #[.tmp a, .tmp b, .tmp c]) (tmps : Array Value) (P : Program) (w : World) :
    (results fn tmps).run P w = .ok (.tuple #[tmps.getD a undef, tmps.getD b undef, tmps.getD c undef]) w := by
  simp only [results, h]
  simp [Sem.run_bind, Result.andThen, Sem.run_pure]
set_option maxHeartbeats 6400000 in
theorem checkL_any {w : World} {ts : List Tm} {v : Value} (h : TL w v ts) (W : World) (hW : Below w.heap.size w W) :
    Calls Tryz.prog 48 #[v] W fun e W' => e = .returned (.int .i64 (chkL ts)) ∧ Below W.heap.size W W' := by
  have HCK : Hid (∀ t cs, TC w t cs → ∀ W', Below w.heap.size w W' → Calls Tryz.prog 25 #[.agg cs.toArray] W' fun e w' => e = .returned (.int .i64 t.check) ∧ Below W'.heap.size W' w') := fun t cs ht W' hb => tmCheck_any ht W' hb
  obtain ⟨Ar, cap, cs, rfl, hcap, hm, hr, ha⟩ := h
  have HR := Lib.hid hr
  have HA := Lib.hid ha
  have HWB := Lib.hid hW
  unfold maxLen at hm
  obtain ⟨l, hl⟩ : ∃ l, ts.length = l := ⟨_, rfl⟩
  rw [hl] at hcap ⊢
  have HL := Lib.hid hl
  have HC0 : Hid (chkL ts = chkL (ts.drop 0)) := rfl
  generalize chkL ts = ck at *
  clear hr ha hW hl
  go_enter Tryz.func48, Tryz.ntmps48
  go_wp2_with fail
  go_loopg [8] l (fun gk s8 wr => ∃ j : Nat, gk + j = l ∧ s8 = .int .i64 (j : Int) ∧ Hid (ck = chkL (ts.drop j)) ∧ Hid (Below W.heap.size W wr))
  case atStart => exact ⟨0, by omega, rfl, HC0.out, Below.refl _ _⟩
  case round =>
    clear HC0
    obtain ⟨j, hgj, rfl, HC, HB⟩ := hrel
    by_cases hj : j < l
    · have hja : j < ts.length := by rw [HL.out]; exact hj
      have HBW := HWB.out.trans (HB.out.mono HWB.out.size)
      obtain ⟨b, o, k5, v5, st5, ng5, A5, n5, c5, B5, b5, d5, X5, l5, e5, hAr, hcs, hlt, y0, y1, y2, y3, y4, y5, y6⟩ := arg_cells HR.out HA.out HBW hja
      subst hAr
      have HCALL := Lib.hid (HCK.out (ts[j]) (cs j) (HA.out j hja))
      rw [hcs] at HCALL
      have HD : Hid (ck = if (ts[j]).check = 0 then chkL (ts.drop (j + 1)) else (ts[j]).check) := by have := HC.out; rw [List.drop_eq_getElem_cons hja, chkL] at this; exact this
      generalize (ts[j]).check = c at *
      have HB2 : Hid (Below W.heap.size W (wr.alloc (.cells #[.int .i64 k5, .int .i64 v5, .string st5, .bool ng5, .slice A5 n5 c5, .slice B5 b5 d5, .slice X5 l5 e5] 27))) := HB.out.trans ((below_one wr _).mono HB.out.size)
      clear hcs hlt HC
      go_wp2_with fail
      refine (HCALL.out _ (by exact HWB.out.trans (HB2.out.mono HWB.out.size))).mono ?_
      rintro e w3 ⟨rfl, hb3⟩
      have HB3 : Hid (Below W.heap.size W w3) := HB2.out.trans (hb3.mono HB2.out.size)
      clear hb3 HB2 y0 y1 y2 y3 y4 y5 y6 HCALL
      by_cases hc : c = 0
      · subst hc
        have HD2 : Hid (ck = chkL (ts.drop (j + 1))) := by have := HD.out; rw [if_pos rfl] at this; exact this
        clear HD
        go_wp2_with fail
        go_roundg (gk - 1)
        case measure => omega
        case rel => exact ⟨j + 1, by omega, by go_num, HD2.out, HB3.out⟩
      · have hcb : (c == 0) = false := beq_eq_false_iff_ne.2 hc
        have HD2 : Hid (ck = c) := by have := HD.out; rw [if_neg hc] at this; exact this
        clear HD hc
        go_wp2_with fail
        go_ret
        rw [HD2.out]
        exact ⟨rfl, HB3.out⟩
    · obtain rfl : l = j := by omega
      have HD2 : Hid (ck = 0) := by have := HC.out; rw [List.drop_eq_nil_of_le (by rw [HL.out]; exact Nat.le_refl _)] at this; exact this
      clear HC
      go_wp2_with fail
      go_ret
      rw [HD2.out]
      exact ⟨rfl, HB.out⟩
theorem tl_two {w W : World} {p t : Tm} {k1 v1 k2 v2 : Int} {st1 st2 : ByteArray} {ng1 ng2 : Bool} {a1 a2 a3 b1 b2 b3 : Value} (hp : TC w p [.int .i64 k1, .int .i64 v1, .string st1, .bool ng1, a1, a2, a3]) (ht : TC w t [.int .i64 k2, .int .i64 v2, .string st2, .bool ng2, b1, b2, b3]) (hW : Below w.heap.size w W) {g : Nat} (hk : Blk W g 27 #[.int .i64 k1, .int .i64 v1, .string st1, .bool ng1, a1, a2, a3, .int .i64 k2, .int .i64 v2, .string st2, .bool ng2, b1, b2, b3]) : TL W (.slice (some ⟨g, 0, none⟩) 2 2) [p, t] := by
  refine ⟨some ⟨g, 0, none⟩, 2, fun i => if i = 0 then [.int .i64 k1, .int .i64 v1, .string st1, .bool ng1, a1, a2, a3] else [.int .i64 k2, .int .i64 v2, .string st2, .bool ng2, b1, b2, b3], rfl, Nat.le_refl _, by decide, fun _ => ⟨g, 0, rfl, hk.lt, fun i hi j hj => ?_⟩, fun i hi => ?_⟩
  · have hi : i < 2 := hi
    rw [hk.cell]
    have h01 : i = 0 ∨ i = 1 := by omega
    have h07 : j = 0 ∨ j = 1 ∨ j = 2 ∨ j = 3 ∨ j = 4 ∨ j = 5 ∨ j = 6 := by omega
    rcases h01 with rfl | rfl <;> rcases h07 with rfl | rfl | rfl | rfl | rfl | rfl | rfl <;> rfl
  · have hi : i < 2 := hi
    have h01 : i = 0 ∨ i = 1 := by omega
    rcases h01 with rfl | rfl
    · exact hp.to hW
    · exact ht.to hW
set_option maxHeartbeats 6400000 in
theorem tmatch_any {w : World} {p t : Tm} {cp ct : List Value} (hp : TC w p cp) (ht : TC w t ct) (W : World) (hW : Below w.heap.size w W) :
    Calls Tryz.prog 14 #[.agg cp.toArray, .agg ct.toArray] W fun e W' => ∃ lv, e = .returned (.tuple #[lv, .bool (matO p t).isSome, .int .i64 (matE p t)]) ∧ BL W' lv ((matO p t).getD []) ∧ Below W.heap.size W W' := by
  have HMA : p.check = 0 ∧ t.check = 0 → Hid (∀ ms W', w.heap.size ≤ ms → Below w.heap.size w W' → MapT w W' ms [] → Calls Tryz.prog 49 #[.agg cp.toArray, .agg ct.toArray, .map (some ms)] W' fun e w' => e = .returned (.bool (p.mat t []).isSome) ∧ Hid (∀ bs', p.mat t [] = some bs' → MapT w w' ms bs' ∧ Vld bs' ∧ bs'.length ≤ ([] : List (Int × Tm)).length + p.count) ∧ Kept (fun k => k = ms) W' w') := fun hc ms W' h1 h2 h3 => match_any ms h1 hp t ct ht (check_err0 hc.1).2 (check_err0 hc.2).2 [] .nil (by have := (check_err0 hc.1).1; simp; omega) W' h2 h3
  have HIN : p.check = 0 ∧ t.check = 0 → Hid (∀ bs', p.mat t [] = some bs' → Incr bs') := fun hc bs' h => (p.mat_law t [] bs' (hp.fine (check_err0 hc.1).2) (ht.fine (check_err0 hc.2).2) (fun v x h => by simp [fnd] at h) h).1 (fun i j hi => by simp at hi)
  have HCN : p.check = 0 ∧ t.check = 0 → Hid (p.count ≤ 10000) := fun hc => (check_err0 hc.1).1
  have HPC := Lib.hid hp
  have HTC := Lib.hid ht
  obtain ⟨k1, v1, st1, ng1, A1, n1, c1, B1, b1, d1, X1, l1, e1, hf1⟩ := hp.form
  obtain ⟨k2, v2, st2, ng2, A2, n2, c2, B2, b2, d2, X2, l2, e2, hf2⟩ := ht.form
  subst hf1 hf2
  have HWB := Lib.hid hW
  have HB0 : Hid (Below W.heap.size W ((W.alloc (.cells #[.int .i64 k1, .int .i64 v1, .string st1, .bool ng1, .slice A1 n1 c1, .slice B1 b1 d1, .slice X1 l1 e1] 27)).alloc (.cells #[.int .i64 k2, .int .i64 v2, .string st2, .bool ng2, .slice A2 n2 c2, .slice B2 b2 d2, .slice X2 l2 e2] 27))) := below_pair W _ _
  have HKP : Hid (Blk ((W.alloc (.cells #[.int .i64 k1, .int .i64 v1, .string st1, .bool ng1, .slice A1 n1 c1, .slice B1 b1 d1, .slice X1 l1 e1] 27)).alloc (.cells #[.int .i64 k2, .int .i64 v2, .string st2, .bool ng2, .slice A2 n2 c2, .slice B2 b2 d2, .slice X2 l2 e2] 27)) W.heap.size 27 #[.int .i64 k1, .int .i64 v1, .string st1, .bool ng1, .slice A1 n1 c1, .slice B1 b1 d1, .slice X1 l1 e1]) := (Blk.new W _ _).alloc _
  have HKT : Hid (Blk ((W.alloc (.cells #[.int .i64 k1, .int .i64 v1, .string st1, .bool ng1, .slice A1 n1 c1, .slice B1 b1 d1, .slice X1 l1 e1] 27)).alloc (.cells #[.int .i64 k2, .int .i64 v2, .string st2, .bool ng2, .slice A2 n2 c2, .slice B2 b2 d2, .slice X2 l2 e2] 27)) (W.heap.size + 1) 27 #[.int .i64 k2, .int .i64 v2, .string st2, .bool ng2, .slice A2 n2 c2, .slice B2 b2 d2, .slice X2 l2 e2]) := blk_2nd W _ _
  have HB1 : Hid (Below W.heap.size W (((W.alloc (.cells #[.int .i64 k1, .int .i64 v1, .string st1, .bool ng1, .slice A1 n1 c1, .slice B1 b1 d1, .slice X1 l1 e1] 27)).alloc (.cells #[.int .i64 k2, .int .i64 v2, .string st2, .bool ng2, .slice A2 n2 c2, .slice B2 b2 d2, .slice X2 l2 e2] 27)).alloc (.cells #[.int .i64 k1, .int .i64 v1, .string st1, .bool ng1, .slice A1 n1 c1, .slice B1 b1 d1, .slice X1 l1 e1, .int .i64 k2, .int .i64 v2, .string st2, .bool ng2, .slice A2 n2 c2, .slice B2 b2 d2, .slice X2 l2 e2] 27))) := HB0.out.trans ((below_one _ _).mono HB0.out.size)
  have HE : Hid (matE p t = chkL [p, t]) := by show _ = _; simp only [matE, chkL]; by_cases h : t.check = 0 <;> simp [h]
  have HO : Hid (matO p t = if matE p t = 0 then p.mat t [] else none) := rfl
  have HZ : Hid (matE p t = 0 → p.check = 0 ∧ t.check = 0) := fun h => by
    unfold matE at h
    by_cases h1 : p.check = 0
    · rw [if_pos h1] at h; exact ⟨h1, h⟩
    · rw [if_neg h1] at h; exact absurd h h1
  have HSO : Hid (∀ (ms : Nat) (bs : List (Int × Tm)), Incr bs → Vld bs → bs.length ≤ 1000000 → ∀ W', Below w.heap.size w W' → MapT w W' ms bs → Calls Tryz.prog 50 #[.map (some ms)] W' fun e W2 => ∃ ov, e = .returned ov ∧ BL W2 ov bs ∧ Below W'.heap.size W' W2) := fun ms bs h1 h2 h3 W' h4 h5 => tsorted_any ms h1 h2 h3 W' h4 h5
  have HCH : Hid (Calls Tryz.prog 48 #[.slice (some ⟨W.heap.size + 2, 0, none⟩) 2 2] (((W.alloc (.cells #[.int .i64 k1, .int .i64 v1, .string st1, .bool ng1, .slice A1 n1 c1, .slice B1 b1 d1, .slice X1 l1 e1] 27)).alloc (.cells #[.int .i64 k2, .int .i64 v2, .string st2, .bool ng2, .slice A2 n2 c2, .slice B2 b2 d2, .slice X2 l2 e2] 27)).alloc (.cells #[.int .i64 k1, .int .i64 v1, .string st1, .bool ng1, .slice A1 n1 c1, .slice B1 b1 d1, .slice X1 l1 e1, .int .i64 k2, .int .i64 v2, .string st2, .bool ng2, .slice A2 n2 c2, .slice B2 b2 d2, .slice X2 l2 e2] 27)) fun e w' => e = .returned (.int .i64 (matE p t)) ∧ Below (((W.alloc (.cells #[.int .i64 k1, .int .i64 v1, .string st1, .bool ng1, .slice A1 n1 c1, .slice B1 b1 d1, .slice X1 l1 e1] 27)).alloc (.cells #[.int .i64 k2, .int .i64 v2, .string st2, .bool ng2, .slice A2 n2 c2, .slice B2 b2 d2, .slice X2 l2 e2] 27)).alloc (.cells #[.int .i64 k1, .int .i64 v1, .string st1, .bool ng1, .slice A1 n1 c1, .slice B1 b1 d1, .slice X1 l1 e1, .int .i64 k2, .int .i64 v2, .string st2, .bool ng2, .slice A2 n2 c2, .slice B2 b2 d2, .slice X2 l2 e2] 27)).heap.size (((W.alloc (.cells #[.int .i64 k1, .int .i64 v1, .string st1, .bool ng1, .slice A1 n1 c1, .slice B1 b1 d1, .slice X1 l1 e1] 27)).alloc (.cells #[.int .i64 k2, .int .i64 v2, .string st2, .bool ng2, .slice A2 n2 c2, .slice B2 b2 d2, .slice X2 l2 e2] 27)).alloc (.cells #[.int .i64 k1, .int .i64 v1, .string st1, .bool ng1, .slice A1 n1 c1, .slice B1 b1 d1, .slice X1 l1 e1, .int .i64 k2, .int .i64 v2, .string st2, .bool ng2, .slice A2 n2 c2, .slice B2 b2 d2, .slice X2 l2 e2] 27)) w') := by
    have hk : Blk (((W.alloc (.cells #[.int .i64 k1, .int .i64 v1, .string st1, .bool ng1, .slice A1 n1 c1, .slice B1 b1 d1, .slice X1 l1 e1] 27)).alloc (.cells #[.int .i64 k2, .int .i64 v2, .string st2, .bool ng2, .slice A2 n2 c2, .slice B2 b2 d2, .slice X2 l2 e2] 27)).alloc (.cells #[.int .i64 k1, .int .i64 v1, .string st1, .bool ng1, .slice A1 n1 c1, .slice B1 b1 d1, .slice X1 l1 e1, .int .i64 k2, .int .i64 v2, .string st2, .bool ng2, .slice A2 n2 c2, .slice B2 b2 d2, .slice X2 l2 e2] 27)) (W.heap.size + 2) 27 #[.int .i64 k1, .int .i64 v1, .string st1, .bool ng1, .slice A1 n1 c1, .slice B1 b1 d1, .slice X1 l1 e1, .int .i64 k2, .int .i64 v2, .string st2, .bool ng2, .slice A2 n2 c2, .slice B2 b2 d2, .slice X2 l2 e2] := by
      have := Blk.new ((W.alloc (.cells #[.int .i64 k1, .int .i64 v1, .string st1, .bool ng1, .slice A1 n1 c1, .slice B1 b1 d1, .slice X1 l1 e1] 27)).alloc (.cells #[.int .i64 k2, .int .i64 v2, .string st2, .bool ng2, .slice A2 n2 c2, .slice B2 b2 d2, .slice X2 l2 e2] 27)) 27 #[.int .i64 k1, .int .i64 v1, .string st1, .bool ng1, .slice A1 n1 c1, .slice B1 b1 d1, .slice X1 l1 e1, .int .i64 k2, .int .i64 v2, .string st2, .bool ng2, .slice A2 n2 c2, .slice B2 b2 d2, .slice X2 l2 e2]
      rw [show ((W.alloc (.cells #[.int .i64 k1, .int .i64 v1, .string st1, .bool ng1, .slice A1 n1 c1, .slice B1 b1 d1, .slice X1 l1 e1] 27)).alloc (.cells #[.int .i64 k2, .int .i64 v2, .string st2, .bool ng2, .slice A2 n2 c2, .slice B2 b2 d2, .slice X2 l2 e2] 27)).heap.size = W.heap.size + 2 by simp] at this
      exact this
    have := checkL_any (tl_two HPC.out HTC.out (HWB.out.trans (HB1.out.mono HWB.out.size)) hk) (((W.alloc (.cells #[.int .i64 k1, .int .i64 v1, .string st1, .bool ng1, .slice A1 n1 c1, .slice B1 b1 d1, .slice X1 l1 e1] 27)).alloc (.cells #[.int .i64 k2, .int .i64 v2, .string st2, .bool ng2, .slice A2 n2 c2, .slice B2 b2 d2, .slice X2 l2 e2] 27)).alloc (.cells #[.int .i64 k1, .int .i64 v1, .string st1, .bool ng1, .slice A1 n1 c1, .slice B1 b1 d1, .slice X1 l1 e1, .int .i64 k2, .int .i64 v2, .string st2, .bool ng2, .slice A2 n2 c2, .slice B2 b2 d2, .slice X2 l2 e2] 27)) (Below.refl _ _)
    rw [HE.out]
    exact this
  generalize p.mat t [] = mo at *
  generalize matO p t = mr at *
  generalize matE p t = me at *
  generalize p.count = pc at *
  have hmm := @run_makeMap Tryz.prog
  clear hp ht hW HE
  go_enter Tryz.func14, Tryz.ntmps14
  go_wp2_with fail
  refine HCH.out.mono ?_
  rintro e w1 ⟨rfl, hb1⟩
  have HJ1 : Hid (Below W.heap.size W w1 ∧ Blk w1 W.heap.size 27 #[.int .i64 k1, .int .i64 v1, .string st1, .bool ng1, .slice A1 n1 c1, .slice B1 b1 d1, .slice X1 l1 e1] ∧ Blk w1 (W.heap.size + 1) 27 #[.int .i64 k2, .int .i64 v2, .string st2, .bool ng2, .slice A2 n2 c2, .slice B2 b2 d2, .slice X2 l2 e2]) := ⟨HB1.out.trans (hb1.mono HB1.out.size), (HKP.out.to (below_one _ _)).to hb1, (HKT.out.to (below_one _ _)).to hb1⟩
  clear hb1 HB0 HB1 HKP HKT HCH
  by_cases hme : me = 0
  rotate_left
  · have hb : (me == 0) = false := beq_eq_false_iff_ne.2 hme
    have HR : Hid (mr = none) := by have := HO.out; rw [if_neg hme] at this; exact this
    clear HMA HIN HO HZ hme HCN
    go_wp2_with fail
    refine bodyPost_ret (v := .tuple #[.slice none 0 0, .bool false, .int .i64 me]) (by rw [results_tmp3 rfl]; rfl) rfl ?_
    rw [HR.out]
    exact ⟨.slice none 0 0, rfl, ⟨none, 0, fun _ => [], rfl, Nat.le_refl _, by unfold maxLen; omega, fun h => absurd h (by simp), fun i h => absurd h (by simp)⟩, HJ1.out.1⟩
  subst hme
  have hc := HZ.out rfl
  have HMA := HMA hc
  have HIN := HIN hc
  have HCN := HCN hc
  have HR : Hid (mr = mo) := by have := HO.out; rw [if_pos rfl] at this; exact this
  have HJ2 : Hid (Below W.heap.size W (w1.alloc (.map #[] 0)) ∧ Blk (w1.alloc (.map #[] 0)) W.heap.size 27 #[.int .i64 k1, .int .i64 v1, .string st1, .bool ng1, .slice A1 n1 c1, .slice B1 b1 d1, .slice X1 l1 e1] ∧ Blk (w1.alloc (.map #[] 0)) (W.heap.size + 1) 27 #[.int .i64 k2, .int .i64 v2, .string st2, .bool ng2, .slice A2 n2 c2, .slice B2 b2 d2, .slice X2 l2 e2]) := ⟨HJ1.out.1.trans ((below_one _ _).mono HJ1.out.1.size), HJ1.out.2.1.to (below_one _ _), HJ1.out.2.2.to (below_one _ _)⟩
  have HM1 : Hid (MapT w (w1.alloc (.map #[] 0)) w1.heap.size []) := MapT.made w w1
  have HCM := Lib.hid (HMA.out w1.heap.size _ (Nat.le_trans HWB.out.size HJ1.out.1.size) (HWB.out.trans (HJ2.out.1.mono HWB.out.size)) HM1.out)
  have y0 := HJ2.out.2.1.cell 0
  have y1 := HJ2.out.2.1.cell 1
  have y2 := HJ2.out.2.1.cell 2
  have y3 := HJ2.out.2.1.cell 3
  have y4 := HJ2.out.2.1.cell 4
  have y5 := HJ2.out.2.1.cell 5
  have y6 := HJ2.out.2.1.cell 6
  simp only [List.getElem?_toArray, List.getElem?_cons_zero, List.getElem?_cons_succ] at y0 y1 y2 y3 y4 y5 y6
  have z0 := HJ2.out.2.2.cell 0
  have z1 := HJ2.out.2.2.cell 1
  have z2 := HJ2.out.2.2.cell 2
  have z3 := HJ2.out.2.2.cell 3
  have z4 := HJ2.out.2.2.cell 4
  have z5 := HJ2.out.2.2.cell 5
  have z6 := HJ2.out.2.2.cell 6
  simp only [List.getElem?_toArray, List.getElem?_cons_zero, List.getElem?_cons_succ] at z0 z1 z2 z3 z4 z5 z6
  clear HO HZ hc HMA HM1
  go_wp2_with fail
  refine HCM.out.mono ?_
  rintro e w2 ⟨rfl, hq, hk2⟩
  have HQ := Lib.hid hq
  have HB2 : Hid (Below W.heap.size W w2) := HJ2.out.1.trans (hk2.below (B := W.heap.size) HJ2.out.1.size (fun k hk => by subst hk; exact HJ1.out.1.size))
  clear hq hk2 HCM y0 y1 y2 y3 y4 y5 y6 z0 z1 z2 z3 z4 z5 z6 HJ1 HJ2
  cases mo with
  | none =>
    go_wp2_with fail
    refine bodyPost_ret (v := .tuple #[.slice none 0 0, .bool false, .int .i64 0]) (by rw [results_tmp3 rfl]; rfl) rfl ?_
    rw [HR.out]
    exact ⟨.slice none 0 0, rfl, ⟨none, 0, fun _ => [], rfl, Nat.le_refl _, by unfold maxLen; omega, fun h => absurd h (by simp), fun i h => absurd h (by simp)⟩, HB2.out⟩
  | some bs =>
    have HQ2 := Lib.hid (HQ.out bs rfl)
    have HCS := Lib.hid (HSO.out w1.heap.size bs (HIN.out bs rfl) HQ2.out.2.1 (by have := HQ2.out.2.2; have := HCN.out; simp at *; omega) w2 (HWB.out.trans (HB2.out.mono HWB.out.size)) HQ2.out.1)
    clear HQ HIN HSO
    go_wp2_with fail
    refine HCS.out.mono ?_
    rintro e w3 ⟨ov, rfl, hbl, hb3⟩
    have HB3 : Hid (Below W.heap.size W w3) := HB2.out.trans (hb3.mono HB2.out.size)
    have HBL := Lib.hid hbl
    clear hbl hb3 HCS
    go_wp2_with fail
    refine bodyPost_ret (v := .tuple #[ov, .bool true, .int .i64 0]) (by rw [results_tmp3 rfl]; rfl) rfl ?_
    rw [HR.out]
    exact ⟨ov, rfl, HBL.out, HB3.out⟩
set_option maxHeartbeats 6400000 in
theorem rmatch_any {w : World} {p t : Tm} {cp ct : List Value} (hp : TC w p cp) (ht : TC w t ct) (W : World) (hW : Below w.heap.size w W) :
    Calls Tryz.prog 15 #[.agg cp.toArray, .agg ct.toArray] W fun e W' => ∃ lv, e = .returned (.tuple #[lv, .bool (matO p t).isSome, .int .i64 (matE p t)]) ∧ BL W' lv ((matO p t).getD []) ∧ Below W.heap.size W W' := by
  have HMA : p.check = 0 ∧ t.check = 0 → Hid (∀ W', Below w.heap.size w W' → Calls Tryz.prog 51 #[.agg cp.toArray, .agg ct.toArray, .slice none 0 0] W' fun e w' => ∃ lv', e = .returned (.tuple #[lv', .bool (p.mat t []).isSome]) ∧ Hid (∀ bs', p.mat t [] = some bs' → BL w' lv' bs' ∧ Vld bs' ∧ bs'.length ≤ ([] : List (Int × Tm)).length + p.count) ∧ Below W'.heap.size W' w') := fun hc W' h2 => matched_any hp t ct ht (check_err0 hc.1).2 (check_err0 hc.2).2 [] _ W' h2 ⟨none, 0, fun _ => [], rfl, Nat.le_refl _, by unfold maxLen; omega, fun h => absurd h (by simp), fun i h => absurd h (by simp)⟩ .nil (by have := (check_err0 hc.1).1; simp; omega)
  have HC1 : Hid (∀ W', Below w.heap.size w W' → Calls Tryz.prog 33 #[.agg cp.toArray] W' fun e w' => e = .returned (.int .i64 p.check) ∧ Below W'.heap.size W' w') := fun W' hb => tmFault_any hp W' hb
  have HC2 : Hid (∀ W', Below w.heap.size w W' → Calls Tryz.prog 33 #[.agg ct.toArray] W' fun e w' => e = .returned (.int .i64 t.check) ∧ Below W'.heap.size W' w') := fun W' hb => tmFault_any ht W' hb
  have HPC := Lib.hid hp
  have HTC := Lib.hid ht
  obtain ⟨k1, v1, st1, ng1, A1, n1, c1, B1, b1, d1, X1, l1, e1, hf1⟩ := hp.form
  obtain ⟨k2, v2, st2, ng2, A2, n2, c2, B2, b2, d2, X2, l2, e2, hf2⟩ := ht.form
  subst hf1 hf2
  have HWB := Lib.hid hW
  have HB0 : Hid (Below W.heap.size W ((W.alloc (.cells #[.int .i64 k1, .int .i64 v1, .string st1, .bool ng1, .slice A1 n1 c1, .slice B1 b1 d1, .slice X1 l1 e1] 27)).alloc (.cells #[.int .i64 k2, .int .i64 v2, .string st2, .bool ng2, .slice A2 n2 c2, .slice B2 b2 d2, .slice X2 l2 e2] 27))) := below_pair W _ _
  have HKP : Hid (Blk ((W.alloc (.cells #[.int .i64 k1, .int .i64 v1, .string st1, .bool ng1, .slice A1 n1 c1, .slice B1 b1 d1, .slice X1 l1 e1] 27)).alloc (.cells #[.int .i64 k2, .int .i64 v2, .string st2, .bool ng2, .slice A2 n2 c2, .slice B2 b2 d2, .slice X2 l2 e2] 27)) W.heap.size 27 #[.int .i64 k1, .int .i64 v1, .string st1, .bool ng1, .slice A1 n1 c1, .slice B1 b1 d1, .slice X1 l1 e1]) := (Blk.new W _ _).alloc _
  have HKT : Hid (Blk ((W.alloc (.cells #[.int .i64 k1, .int .i64 v1, .string st1, .bool ng1, .slice A1 n1 c1, .slice B1 b1 d1, .slice X1 l1 e1] 27)).alloc (.cells #[.int .i64 k2, .int .i64 v2, .string st2, .bool ng2, .slice A2 n2 c2, .slice B2 b2 d2, .slice X2 l2 e2] 27)) (W.heap.size + 1) 27 #[.int .i64 k2, .int .i64 v2, .string st2, .bool ng2, .slice A2 n2 c2, .slice B2 b2 d2, .slice X2 l2 e2]) := blk_2nd W _ _
  have HB1 : Hid (Below W.heap.size W (((W.alloc (.cells #[.int .i64 k1, .int .i64 v1, .string st1, .bool ng1, .slice A1 n1 c1, .slice B1 b1 d1, .slice X1 l1 e1] 27)).alloc (.cells #[.int .i64 k2, .int .i64 v2, .string st2, .bool ng2, .slice A2 n2 c2, .slice B2 b2 d2, .slice X2 l2 e2] 27)).alloc (.cells #[.int .i64 k1, .int .i64 v1, .string st1, .bool ng1, .slice A1 n1 c1, .slice B1 b1 d1, .slice X1 l1 e1, .int .i64 k2, .int .i64 v2, .string st2, .bool ng2, .slice A2 n2 c2, .slice B2 b2 d2, .slice X2 l2 e2] 27))) := HB0.out.trans ((below_one _ _).mono HB0.out.size)
  have HE : Hid (matE p t = chkL [p, t]) := by show _ = _; simp only [matE, chkL]; by_cases h : t.check = 0 <;> simp [h]
  have HO : Hid (matO p t = if matE p t = 0 then p.mat t [] else none) := rfl
  have HZ : Hid (matE p t = 0 → p.check = 0 ∧ t.check = 0) := fun h => by
    unfold matE at h
    by_cases h1 : p.check = 0
    · rw [if_pos h1] at h; exact ⟨h1, h⟩
    · rw [if_neg h1] at h; exact absurd h h1
  have HE0 : Hid (matE p t = if p.check = 0 then t.check else p.check) := rfl
  have HKL : Hid (Blk (((W.alloc (.cells #[.int .i64 k1, .int .i64 v1, .string st1, .bool ng1, .slice A1 n1 c1, .slice B1 b1 d1, .slice X1 l1 e1] 27)).alloc (.cells #[.int .i64 k2, .int .i64 v2, .string st2, .bool ng2, .slice A2 n2 c2, .slice B2 b2 d2, .slice X2 l2 e2] 27)).alloc (.cells #[.int .i64 k1, .int .i64 v1, .string st1, .bool ng1, .slice A1 n1 c1, .slice B1 b1 d1, .slice X1 l1 e1, .int .i64 k2, .int .i64 v2, .string st2, .bool ng2, .slice A2 n2 c2, .slice B2 b2 d2, .slice X2 l2 e2] 27)) (W.heap.size + 2) 27 #[.int .i64 k1, .int .i64 v1, .string st1, .bool ng1, .slice A1 n1 c1, .slice B1 b1 d1, .slice X1 l1 e1, .int .i64 k2, .int .i64 v2, .string st2, .bool ng2, .slice A2 n2 c2, .slice B2 b2 d2, .slice X2 l2 e2]) := by
    have := Blk.new ((W.alloc (.cells #[.int .i64 k1, .int .i64 v1, .string st1, .bool ng1, .slice A1 n1 c1, .slice B1 b1 d1, .slice X1 l1 e1] 27)).alloc (.cells #[.int .i64 k2, .int .i64 v2, .string st2, .bool ng2, .slice A2 n2 c2, .slice B2 b2 d2, .slice X2 l2 e2] 27)) 27 #[.int .i64 k1, .int .i64 v1, .string st1, .bool ng1, .slice A1 n1 c1, .slice B1 b1 d1, .slice X1 l1 e1, .int .i64 k2, .int .i64 v2, .string st2, .bool ng2, .slice A2 n2 c2, .slice B2 b2 d2, .slice X2 l2 e2]
    rw [show ((W.alloc (.cells #[.int .i64 k1, .int .i64 v1, .string st1, .bool ng1, .slice A1 n1 c1, .slice B1 b1 d1, .slice X1 l1 e1] 27)).alloc (.cells #[.int .i64 k2, .int .i64 v2, .string st2, .bool ng2, .slice A2 n2 c2, .slice B2 b2 d2, .slice X2 l2 e2] 27)).heap.size = W.heap.size + 2 by simp] at this
    exact this
  have HKP1 := Lib.hid (HKP.out.to (below_one ((W.alloc (.cells #[.int .i64 k1, .int .i64 v1, .string st1, .bool ng1, .slice A1 n1 c1, .slice B1 b1 d1, .slice X1 l1 e1] 27)).alloc (.cells #[.int .i64 k2, .int .i64 v2, .string st2, .bool ng2, .slice A2 n2 c2, .slice B2 b2 d2, .slice X2 l2 e2] 27)) (.cells #[.int .i64 k1, .int .i64 v1, .string st1, .bool ng1, .slice A1 n1 c1, .slice B1 b1 d1, .slice X1 l1 e1, .int .i64 k2, .int .i64 v2, .string st2, .bool ng2, .slice A2 n2 c2, .slice B2 b2 d2, .slice X2 l2 e2] 27)))
  have HKT1 := Lib.hid (HKT.out.to (below_one ((W.alloc (.cells #[.int .i64 k1, .int .i64 v1, .string st1, .bool ng1, .slice A1 n1 c1, .slice B1 b1 d1, .slice X1 l1 e1] 27)).alloc (.cells #[.int .i64 k2, .int .i64 v2, .string st2, .bool ng2, .slice A2 n2 c2, .slice B2 b2 d2, .slice X2 l2 e2] 27)) (.cells #[.int .i64 k1, .int .i64 v1, .string st1, .bool ng1, .slice A1 n1 c1, .slice B1 b1 d1, .slice X1 l1 e1, .int .i64 k2, .int .i64 v2, .string st2, .bool ng2, .slice A2 n2 c2, .slice B2 b2 d2, .slice X2 l2 e2] 27)))
  generalize p.mat t [] = mo at *
  generalize matO p t = mr at *
  generalize matE p t = me at *
  generalize p.check = pk at *
  generalize t.check = tk at *
  clear hp ht hW HE HKP HKT HB0 HPC HTC
  go_enter Tryz.func15, Tryz.ntmps15
  go_wp2_with fail
  go_loopg [16] 2 (fun gk s16 wr => ∃ j : Nat, gk + j = 2 ∧ s16 = .int .i64 (j : Int) ∧ Hid ((1 ≤ j → pk = 0) ∧ (2 ≤ j → tk = 0)) ∧ Hid ((Below W.heap.size W wr ∧ Blk wr W.heap.size 27 #[.int .i64 k1, .int .i64 v1, .string st1, .bool ng1, .slice A1 n1 c1, .slice B1 b1 d1, .slice X1 l1 e1] ∧ Blk wr (W.heap.size + 1) 27 #[.int .i64 k2, .int .i64 v2, .string st2, .bool ng2, .slice A2 n2 c2, .slice B2 b2 d2, .slice X2 l2 e2]) ∧ Blk wr (W.heap.size + 2) 27 #[.int .i64 k1, .int .i64 v1, .string st1, .bool ng1, .slice A1 n1 c1, .slice B1 b1 d1, .slice X1 l1 e1, .int .i64 k2, .int .i64 v2, .string st2, .bool ng2, .slice A2 n2 c2, .slice B2 b2 d2, .slice X2 l2 e2]))
  case atStart => exact ⟨0, by omega, rfl, ⟨fun h => by omega, fun h => by omega⟩, ⟨HB1.out, HKP1.out, HKT1.out⟩, HKL.out⟩
  case round =>
    clear HB1 HKP1 HKT1 HKL
    obtain ⟨j, hgj, rfl, HC, HJ⟩ := hrel
    have h3 : j = 0 ∨ j = 1 ∨ j = 2 := by omega
    have hx := HJ.out.2
    have x0 := hx.cell 0
    have x1 := hx.cell 1
    have x2 := hx.cell 2
    have x3 := hx.cell 3
    have x4 := hx.cell 4
    have x5 := hx.cell 5
    have x6 := hx.cell 6
    have x7 := hx.cell 7
    have x8 := hx.cell 8
    have x9 := hx.cell 9
    have x10 := hx.cell 10
    have x11 := hx.cell 11
    have x12 := hx.cell 12
    have x13 := hx.cell 13
    simp only [List.getElem?_toArray, List.getElem?_cons_zero, List.getElem?_cons_succ] at x0 x1 x2 x3 x4 x5 x6 x7 x8 x9 x10 x11 x12 x13
    clear hx
    rcases h3 with rfl | rfl | rfl
    · clear HC2 HMA
      have HB2 : Hid (Below W.heap.size W (wr.alloc (.cells #[.int .i64 k1, .int .i64 v1, .string st1, .bool ng1, .slice A1 n1 c1, .slice B1 b1 d1, .slice X1 l1 e1] 27))) := HJ.out.1.1.trans ((below_one wr _).mono HJ.out.1.1.size)
      go_wp2_with fail
      refine (HC1.out _ (by exact HWB.out.trans (HB2.out.mono HWB.out.size))).mono ?_
      rintro e w3 ⟨rfl, hb3⟩
      have hbb := (below_one wr (.cells #[.int .i64 k1, .int .i64 v1, .string st1, .bool ng1, .slice A1 n1 c1, .slice B1 b1 d1, .slice X1 l1 e1] 27)).trans (hb3.mono (below_one wr (.cells #[.int .i64 k1, .int .i64 v1, .string st1, .bool ng1, .slice A1 n1 c1, .slice B1 b1 d1, .slice X1 l1 e1] 27)).size)
      have HJ3 : Hid ((Below W.heap.size W w3 ∧ Blk w3 W.heap.size 27 #[.int .i64 k1, .int .i64 v1, .string st1, .bool ng1, .slice A1 n1 c1, .slice B1 b1 d1, .slice X1 l1 e1] ∧ Blk w3 (W.heap.size + 1) 27 #[.int .i64 k2, .int .i64 v2, .string st2, .bool ng2, .slice A2 n2 c2, .slice B2 b2 d2, .slice X2 l2 e2]) ∧ Blk w3 (W.heap.size + 2) 27 #[.int .i64 k1, .int .i64 v1, .string st1, .bool ng1, .slice A1 n1 c1, .slice B1 b1 d1, .slice X1 l1 e1, .int .i64 k2, .int .i64 v2, .string st2, .bool ng2, .slice A2 n2 c2, .slice B2 b2 d2, .slice X2 l2 e2]) := ⟨⟨HJ.out.1.1.trans (hbb.mono HJ.out.1.1.size), HJ.out.1.2.1.to hbb, HJ.out.1.2.2.to hbb⟩, HJ.out.2.to hbb⟩
      clear hb3 hbb HB2 HJ HC1 x0 x1 x2 x3 x4 x5 x6 x7 x8 x9 x10 x11 x12 x13
      by_cases hc : pk = 0
      · subst hc
        go_wp2_with fail
        go_roundg (gk - 1)
        case measure => omega
        case rel => exact ⟨1, by omega, rfl, ⟨fun _ => by trivial, fun h => by omega⟩, HJ3.out⟩
      · have hb : (pk == 0) = false := beq_eq_false_iff_ne.2 hc
        have hme : me = pk := by have := HE0.out; rw [if_neg hc] at this; exact this
        have HR : Hid (mr = none) := by have := HO.out; rw [if_neg (by rw [hme]; exact hc)] at this; exact this
        have HM := Lib.hid hme
        clear HO HZ hme hc HE0
        go_wp2_with fail
        refine bodyPost_ret (v := .tuple #[.slice none 0 0, .bool false, .int .i64 pk]) (by rw [results_tmp3 rfl]; rfl) rfl ?_
        rw [HR.out, HM.out]
        exact ⟨.slice none 0 0, rfl, ⟨none, 0, fun _ => [], rfl, Nat.le_refl _, by unfold maxLen; omega, fun h => absurd h (by simp), fun i h => absurd h (by simp)⟩, HJ3.out.1.1⟩
    · clear HC1 HMA
      have hp0 := HC.out.1 (Nat.le_refl _)
      have HB2 : Hid (Below W.heap.size W (wr.alloc (.cells #[.int .i64 k2, .int .i64 v2, .string st2, .bool ng2, .slice A2 n2 c2, .slice B2 b2 d2, .slice X2 l2 e2] 27))) := HJ.out.1.1.trans ((below_one wr _).mono HJ.out.1.1.size)
      have HP0 := Lib.hid hp0
      clear hp0
      go_wp2_with fail
      refine (HC2.out _ (by exact HWB.out.trans (HB2.out.mono HWB.out.size))).mono ?_
      rintro e w3 ⟨rfl, hb3⟩
      have hbb := (below_one wr (.cells #[.int .i64 k2, .int .i64 v2, .string st2, .bool ng2, .slice A2 n2 c2, .slice B2 b2 d2, .slice X2 l2 e2] 27)).trans (hb3.mono (below_one wr (.cells #[.int .i64 k2, .int .i64 v2, .string st2, .bool ng2, .slice A2 n2 c2, .slice B2 b2 d2, .slice X2 l2 e2] 27)).size)
      have HJ3 : Hid ((Below W.heap.size W w3 ∧ Blk w3 W.heap.size 27 #[.int .i64 k1, .int .i64 v1, .string st1, .bool ng1, .slice A1 n1 c1, .slice B1 b1 d1, .slice X1 l1 e1] ∧ Blk w3 (W.heap.size + 1) 27 #[.int .i64 k2, .int .i64 v2, .string st2, .bool ng2, .slice A2 n2 c2, .slice B2 b2 d2, .slice X2 l2 e2]) ∧ Blk w3 (W.heap.size + 2) 27 #[.int .i64 k1, .int .i64 v1, .string st1, .bool ng1, .slice A1 n1 c1, .slice B1 b1 d1, .slice X1 l1 e1, .int .i64 k2, .int .i64 v2, .string st2, .bool ng2, .slice A2 n2 c2, .slice B2 b2 d2, .slice X2 l2 e2]) := ⟨⟨HJ.out.1.1.trans (hbb.mono HJ.out.1.1.size), HJ.out.1.2.1.to hbb, HJ.out.1.2.2.to hbb⟩, HJ.out.2.to hbb⟩
      clear hb3 hbb HB2 HJ HC2 x0 x1 x2 x3 x4 x5 x6 x7 x8 x9 x10 x11 x12 x13
      by_cases hc : tk = 0
      · subst hc
        go_wp2_with fail
        go_roundg (gk - 1)
        case measure => omega
        case rel => exact ⟨2, by omega, rfl, ⟨fun _ => HP0.out, fun _ => by trivial⟩, HJ3.out⟩
      · have hb : (tk == 0) = false := beq_eq_false_iff_ne.2 hc
        have hme : me = tk := by have := HE0.out; rw [if_pos HP0.out] at this; exact this
        have HR : Hid (mr = none) := by have := HO.out; rw [if_neg (by rw [hme]; exact hc)] at this; exact this
        have HM := Lib.hid hme
        clear HO HZ hme hc HE0
        go_wp2_with fail
        refine bodyPost_ret (v := .tuple #[.slice none 0 0, .bool false, .int .i64 tk]) (by rw [results_tmp3 rfl]; rfl) rfl ?_
        rw [HR.out, HM.out]
        exact ⟨.slice none 0 0, rfl, ⟨none, 0, fun _ => [], rfl, Nat.le_refl _, by unfold maxLen; omega, fun h => absurd h (by simp), fun i h => absurd h (by simp)⟩, HJ3.out.1.1⟩
    · have hp0 := HC.out.1 (by omega)
      have ht0 := HC.out.2 (Nat.le_refl _)
      have hme : me = 0 := by have := HE0.out; rw [if_pos hp0] at this; exact this.trans ht0
      have HMA := HMA ⟨hp0, ht0⟩
      have HR : Hid (mr = mo) := by have := HO.out; rw [if_pos hme] at this; exact this
      have HM := Lib.hid hme
      have HCM := Lib.hid (HMA.out wr (HWB.out.trans (HJ.out.1.1.mono HWB.out.size)))
      have y0 := HJ.out.1.2.1.cell 0
      have y1 := HJ.out.1.2.1.cell 1
      have y2 := HJ.out.1.2.1.cell 2
      have y3 := HJ.out.1.2.1.cell 3
      have y4 := HJ.out.1.2.1.cell 4
      have y5 := HJ.out.1.2.1.cell 5
      have y6 := HJ.out.1.2.1.cell 6
      simp only [List.getElem?_toArray, List.getElem?_cons_zero, List.getElem?_cons_succ] at y0 y1 y2 y3 y4 y5 y6
      have z0 := HJ.out.1.2.2.cell 0
      have z1 := HJ.out.1.2.2.cell 1
      have z2 := HJ.out.1.2.2.cell 2
      have z3 := HJ.out.1.2.2.cell 3
      have z4 := HJ.out.1.2.2.cell 4
      have z5 := HJ.out.1.2.2.cell 5
      have z6 := HJ.out.1.2.2.cell 6
      simp only [List.getElem?_toArray, List.getElem?_cons_zero, List.getElem?_cons_succ] at z0 z1 z2 z3 z4 z5 z6
      clear HO HZ HE0 hp0 ht0 hme HMA HC1 HC2 HC
      go_wp2_with fail
      refine HCM.out.mono ?_
      rintro e w2 ⟨lv', rfl, hq, hb2⟩
      have HQ := Lib.hid hq
      have HB2 : Hid (Below W.heap.size W w2) := HJ.out.1.1.trans (hb2.mono HJ.out.1.1.size)
      clear hq hb2 HCM y0 y1 y2 y3 y4 y5 y6 z0 z1 z2 z3 z4 z5 z6 HJ x0 x1 x2 x3 x4 x5 x6 x7 x8 x9 x10 x11 x12 x13
      cases mo with
      | none =>
        go_wp2_with fail
        refine bodyPost_ret (v := .tuple #[.slice none 0 0, .bool false, .int .i64 0]) (by rw [results_tmp3 rfl]; rfl) rfl ?_
        rw [HR.out, HM.out]
        exact ⟨.slice none 0 0, rfl, ⟨none, 0, fun _ => [], rfl, Nat.le_refl _, by unfold maxLen; omega, fun h => absurd h (by simp), fun i h => absurd h (by simp)⟩, HB2.out⟩
      | some bs =>
        have HQ2 := Lib.hid (HQ.out bs rfl)
        clear HQ
        go_wp2_with fail
        refine bodyPost_ret (v := .tuple #[lv', .bool true, .int .i64 0]) (by rw [results_tmp3 rfl]; rfl) rfl ?_
        rw [HR.out, HM.out]
        exact ⟨lv', rfl, HQ2.out.1, HB2.out⟩
end Go.Proofs.YtkfnpcilanheiaaGreat

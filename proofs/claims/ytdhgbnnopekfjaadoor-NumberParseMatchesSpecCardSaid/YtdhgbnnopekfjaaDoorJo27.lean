/- number.floored. Conditions: at most 40000 limbs. fetterlockref1.Floor. Conditions: at most 50000 digits. number.integers, at one number. -/
import Derived.Test.YtdhgbnnopekfjaaDoorJo11
import Derived.Test.YtdhgbnnopekfjaaDoorJo12
import Derived.Test.YtdhgbnnopekfjaaDoorJo13
import Derived.Test.YtdhgbnnopekfjaaDoorJo23
import Derived.Test.YtdhgbnnopekfjaaDoorJo24
import Derived.Test.YtdhgbnnopekfjaaDoorJo26
set_option linter.unusedVariables false
set_option linter.unusedSimpArgs false
namespace Go.Proofs.YtdhgbnnopekfjaaDoor
open Go.RowKit NumB
set_option linter.unusedVariables false
set_option linter.unusedSimpArgs false

/-- A quotient, rounded away from 0 where told and where something is left. -/
def flo (up : Bool) (x y : Nat) : Nat := x / y + (if up && decide (0 < x % y) then 1 else 0)
theorem flo_true {x y : Nat} (h : 0 < x % y) : flo true x y = x / y + 1 := by unfold flo; simp [h]
theorem flo_rest {up : Bool} {x y : Nat} (h : x % y = 0) : flo up x y = x / y := by unfold flo; simp [h]
theorem flo_false {x y : Nat} : flo false x y = x / y := by unfold flo; simp

theorem nats_two' {w : World} {A B : Value} {x y g : Nat} (hg : w.heap.size = g) (ha : Nat32 w A x) (hb : Nat32 w B y) (t : TypeId) : Nats (w.alloc (.cells #[A, B] t)) g 0 [x, y] := by subst hg; exact nats_two ha hb t

set_option maxRecDepth 100000 in
set_option maxHeartbeats 3200000 in
theorem floored_any (neg floor : Bool) (x y : Nat) (va vb : Value) (w : World) (ha : Nat32 w va x) (hb : Nat32 w vb y) (hx : (digs W32 x).length ≤ 40000) (hy : 0 < y) :
    Calls Tryd.prog 69 #[.bool neg, va, vb, .bool floor] w fun e w' => ∃ v, e = .returned v ∧ Nat32 w' v (flo (neg && floor) x y) ∧ Below w.heap.size w w' := by
  have HD : Hid (Calls Tryd.prog 87 #[va, vb] w (DMPost w (x / y) (x % y))) := divMod_any x y va vb w ha hb (by omega) hy
  have HL : Hid ((digs W32 (x / y)).length ≤ 40000) := Nat.le_trans (digs_len_mono W32_gt (Nat.div_le_self _ _)) hx
  obtain ⟨A, n, c, rfl, hn⟩ := ha.form
  obtain ⟨A', m, d, rfl, hm⟩ := hb.form
  have HS : Hid ((digs W32 [x / y, 1].sum).length ≤ 100000) := Nat.le_trans (by simpa using digs_len_add (n := 40000) HL.out (by rw [digs_one32]; decide)) (by omega)
  have HT : Hid (0 < x % y → flo true x y = x / y + 1) := fun h => flo_true h
  have HZ : Hid (x % y = 0 → ∀ up, flo up x y = x / y) := fun h up => flo_rest h
  have HF : Hid (flo false x y = x / y) := flo_false
  generalize x / y = q at *
  generalize x % y = r at *
  clear ha hb hn hm hx hy
  cases neg with
  | false =>
    rw [Bool.false_and, HF.out]
    go_enter Tryd.func69, Tryd.ntmps69
    go_wp2_with fail
    refine HD.out.mono ?_
    rintro e w1 ⟨v1, v2, rfl, hq, hr, hb⟩
    go_wp2_with fail
    go_ret
    exact ⟨_, rfl, hq, hb⟩
  | true =>
    rw [Bool.true_and]
    cases floor with
    | false =>
      rw [HF.out]
      go_enter Tryd.func69, Tryd.ntmps69
      go_wp2_with fail
      refine HD.out.mono ?_
      rintro e w1 ⟨v1, v2, rfl, hq, hr, hb⟩
      go_wp2_with fail
      go_ret
      exact ⟨_, rfl, hq, hb⟩
    | true =>
      rcases Nat.eq_zero_or_pos r with h | h
      · rw [HZ.out h]
        go_enter Tryd.func69, Tryd.ntmps69
        go_wp2_with fail
        refine HD.out.mono ?_
        rintro e w1 ⟨v1, v2, rfl, hq, hr, hb⟩
        have HQ := Lib.hid hq
        have HBB := Lib.hid hb
        obtain ⟨A2, n2, c2, rfl, hn2⟩ := hr.form
        obtain rfl : n2 = 0 := by have := len_pos32 hn2; omega
        clear hq hr hb hn2
        go_wp2_with fail
        go_ret
        exact ⟨_, rfl, HQ.out, HBB.out⟩
      · rw [HT.out h]
        have HR := Lib.hid h
        clear h
        go_enter Tryd.func69, Tryd.ntmps69
        go_wp2_with fail
        refine HD.out.mono ?_
        rintro e w1 ⟨v1, v2, rfl, hq, hr, hb⟩
        have HQ := Lib.hid hq
        have HBB := Lib.hid hb
        obtain ⟨A2, n2, c2, rfl, hn2⟩ := hr.form
        have hn0 : 0 < n2 := (len_pos32 hn2).2 HR.out
        obtain ⟨A3, n3, c3, rfl, hn3⟩ := hq.form
        clear hq hr hb hn2 hn3
        go_wp2_with fail
        refine (add_any [q, 1] _ 0 2 2 _ rfl (by exact nats_two' (by simp) (HQ.out.to (below_one _ _)) (one32' _ _ rfl) _) HS.out (by omega)).mono ?_
        rintro e w2 ⟨v3, rfl, hn1, hb1⟩
        go_wp2
        go_ret
        have h2 : Below w1.heap.size w1 w2 := ((below_one w1 _).alloc (by simp) _).trans (hb1.mono (((below_one w1 _).alloc (by simp) _).size))
        exact ⟨_, rfl, by simpa using hn1, HBB.out.trans (h2.mono HBB.out.size)⟩
end Go.Proofs.YtdhgbnnopekfjaaDoor
namespace Go.Proofs.YtdhgbnnopekfjaaDoor
open Go.RowKit NumB
set_option linter.unusedVariables false
set_option linter.unusedSimpArgs false

theorem results_cellA {fn : Func} {p : Tmp} {ty : TypeId} (h : fn.results = #[.cell p ty]) (tmps : Array Value) (P : Program) (w : World) :
    (results fn tmps).run P w = ((asAddr (tmps.getD p undef)).run P w).andThen fun a w₁ => (loadVar ty a).run P w₁ := by
  simp only [results, h]
  simp [Sem.run_bind, Result.andThen]
theorem one16' (w : World) (g : Nat) (hg : w.heap.size = g) : Nat16 (w.alloc (.cells #[.int .i64 1] 3)) (.slice (some ⟨g, 0, none⟩) 1 1) 1 := by subst hg; exact one16 w

set_option maxRecDepth 100000 in
set_option maxHeartbeats 3200000 in
theorem rfloor_any (neg : Bool) (x y : Nat) (v : Value) (w : World) (h : RV w v neg x y) (hy0 : 0 < y) (hx : (digs W16 x).length ≤ 50000) (hy : (digs W16 y).length ≤ 50000) :
    Calls Tryd.prog 65 #[v] w (RVPost w (neg && decide (0 < flo neg x y)) (flo neg x y) 1) := by
  have HR0 := Lib.hid h
  obtain ⟨A, n, c, B, m, d, rfl, hq1, hq2⟩ := h.form
  clear hq1 hq2 h
  have HD : Hid (∀ (W : World) (va vb : Value), Nat16 W va x → Nat16 W vb y → Calls Tryd.prog 66 #[va, vb] W (RPost2 W (x / y) (x % y))) := fun W va vb h1 h2 => rdiv_any x y va vb W h1 h2 hy0 hx hy
  have HL : Hid ((digs W16 (x / y)).length ≤ 50000) := Nat.le_trans (digs_len_mono W16_gt (Nat.div_le_self _ _)) hx
  have HT : Hid (0 < x % y → flo true x y = x / y + 1) := fun h => flo_true h
  have HZ : Hid (x % y = 0 → ∀ up, flo up x y = x / y) := fun h up => flo_rest h
  have HF : Hid (flo false x y = x / y) := flo_false
  have KA := Lib.hid ((blk2 w 38 38 #[.bool neg, .slice A n c, .slice B m d] #[.bool false, .slice none 0 0, .slice none 0 0]).1)
  have KB := Lib.hid ((blk2 w 38 38 #[.bool neg, .slice A n c, .slice B m d] #[.bool false, .slice none 0 0, .slice none 0 0]).2)
  have HR := Lib.hid (HR0.out.to (below_two w (.cells #[.bool neg, .slice A n c, .slice B m d] 38) (.cells #[.bool false, .slice none 0 0, .slice none 0 0] 38)))
  have HBE := Lib.hid (below_two w (.cells #[.bool neg, .slice A n c, .slice B m d] 38) (.cells #[.bool false, .slice none 0 0, .slice none 0 0] 38))
  have FIN : Hid (∀ (W : World) (q : Nat) (vq : Value), Nat16 W vq q → Calls Tryd.prog 43 #[.bool neg, vq] W (RVPost W (neg && decide (0 < q)) q 1)) := fun W q vq h => rwhole_any neg q vq W h
  generalize x / y = q at *
  generalize x % y = r at *
  clear hx hy hy0
  by_cases hup : neg = true ∧ 0 < r
  · obtain ⟨rfl, h0⟩ := hup
    rw [HT.out h0]
    have HR0 := Lib.hid h0
    clear h0
    go_enter Tryd.func65, Tryd.ntmps65
    go_wp2_with fail
    refine (HD.out _ _ _ (by exact HR.out.parts.2.1) (by exact HR.out.parts.2.2)).mono ?_
    rintro e w1 ⟨vq, vr, rfl, hq, hr, hb⟩
    have KA := Lib.hid (KA.out.to hb)
    have KB := Lib.hid (KB.out.to hb)
    have HBE : Hid (Below w.heap.size w w1) := HBE.out.trans (hb.mono HBE.out.size)
    have HQ := Lib.hid hq
    obtain ⟨A2, n2, c2, rfl, hn2⟩ := hr.form
    have hn0 : 0 < n2 := (len_pos16 hn2).2 HR0.out
    obtain ⟨A3, n3, c3, rfl, hn3⟩ := hq.form
    clear hq hr hb hn2 hn3
    have ca0 := KA.out.cell 0
    simp only [List.getElem?_toArray, List.getElem?_cons_zero, List.getElem?_cons_succ] at ca0
    go_wp2_with fail
    refine (radd_any q 1 _ _ _ (by exact HQ.out.to (below_one _ _)) (by exact one16' _ _ rfl) (by have := HL.out; omega) (by rw [digs_one16]; decide)).mono ?_
    rintro e w2 ⟨v2, rfl, hn2, hb2⟩
    have hb : Below w1.heap.size w1 w2 := (below_one w1 _).trans (hb2.mono (below_one w1 _).size)
    have KA := Lib.hid (KA.out.to hb)
    have KB := Lib.hid (KB.out.to hb)
    have HBE : Hid (Below w.heap.size w w2) := HBE.out.trans (hb.mono HBE.out.size)
    have N2 := Lib.hid hn2
    clear hb hb2 hn2 ca0
    have ca0 := KA.out.cell 0
    simp only [List.getElem?_toArray, List.getElem?_cons_zero, List.getElem?_cons_succ] at ca0
    go_wp2_with fail
    refine (FIN.out _ _ _ (by exact N2.out)).mono ?_
    rintro e w3 ⟨v3, rfl, hr3, hb⟩
    have KB := Lib.hid (KB.out.to hb)
    have HBE : Hid (Below w.heap.size w w3) := HBE.out.trans (hb.mono HBE.out.size)
    have R3 := Lib.hid hr3
    obtain ⟨C1, q1, r1, C2, q2, r2, rfl, hz1, hz2⟩ := hr3.form
    clear hb hr3 hz1 hz2 ca0
    have cc0 := KB.out.cell 0
    have cc1 := KB.out.cell 1
    have cc2 := KB.out.cell 2
    simp only [List.getElem?_toArray, List.getElem?_cons_zero, List.getElem?_cons_succ] at cc0 cc1 cc2
    have fc0 := KB.out.frozen 0
    have fc1 := KB.out.frozen 1
    have fc2 := KB.out.frozen 2
    generalize (true && decide (0 < q + 1)) = s at *
    go_wp2_with fail
    refine bodyPost_ret (v := .agg #[.bool s, .slice C1 q1 r1, .slice C2 q2 r2]) (by rw [results_cellA rfl]; go_simp) rfl ?_
    exact ⟨_, rfl, R3.out.put3 KB.out _ _ _, put3_below HBE.out (by omega) _ _ _⟩
  · have HE : Hid (flo neg x y = q) := by
      rcases Nat.eq_zero_or_pos r with h | h
      · exact HZ.out h neg
      · have : neg = false := by cases neg with
          | false => rfl
          | true => exact absurd ⟨rfl, h⟩ hup
        rw [this]; exact HF.out
    rw [HE.out]
    have hcase : neg = false ∨ (neg = true ∧ r = 0) := by
      cases neg with
      | false => exact .inl rfl
      | true => exact .inr ⟨rfl, Nat.eq_zero_of_not_pos fun h0 => hup ⟨rfl, h0⟩⟩
    clear hup HE HT HZ HF HR0
    generalize hs : (neg && decide (0 < q)) = s at *
    have FINQ : Hid (∀ (W : World) (vq : Value), Nat16 W vq q → Calls Tryd.prog 43 #[.bool neg, vq] W (RVPost W s q 1)) := fun W vq h => by rw [← hs]; exact FIN.out W q vq h
    clear hs FIN
    have KA1 := KA
    have KB1 := KB
    have HBE1 := HBE
    clear KA KB HBE
    rcases hcase with rfl | ⟨rfl, rfl⟩
    · go_enter Tryd.func65, Tryd.ntmps65
      go_wp2_with fail
      refine (HD.out _ _ _ (by exact HR.out.parts.2.1) (by exact HR.out.parts.2.2)).mono ?_
      rintro e w1 ⟨vq, vr, rfl, hq, hr, hb⟩
      have KA := Lib.hid (KA1.out.to hb)
      have KB := Lib.hid (KB1.out.to hb)
      have HBE : Hid (Below w.heap.size w w1) := HBE1.out.trans (hb.mono HBE1.out.size)
      have HQ := Lib.hid hq
      obtain ⟨A2, n2, c2, rfl, hn2⟩ := hr.form
      obtain ⟨A3, n3, c3, rfl, hn3⟩ := hq.form
      have ca0 := KA.out.cell 0
      simp only [List.getElem?_toArray, List.getElem?_cons_zero, List.getElem?_cons_succ] at ca0
      clear hq hr hb hn2 hn3
      go_wp2_with fail
      refine (FINQ.out _ _ (by exact HQ.out)).mono ?_
      rintro e w3 ⟨v3, rfl, hr3, hb3⟩
      have KB3 := Lib.hid (KB.out.to hb3)
      have HBE3 : Hid (Below w.heap.size w w3) := HBE.out.trans (hb3.mono HBE.out.size)
      have R3 := Lib.hid hr3
      obtain ⟨C1, q1, r1, C2, q2, r2, rfl, hz1, hz2⟩ := hr3.form
      clear hb3 hr3 hz1 hz2 ca0
      have cc0 := KB3.out.cell 0
      have cc1 := KB3.out.cell 1
      have cc2 := KB3.out.cell 2
      simp only [List.getElem?_toArray, List.getElem?_cons_zero, List.getElem?_cons_succ] at cc0 cc1 cc2
      have fc0 := KB3.out.frozen 0
      have fc1 := KB3.out.frozen 1
      have fc2 := KB3.out.frozen 2
      go_wp2_with fail
      refine bodyPost_ret (v := .agg #[.bool s, .slice C1 q1 r1, .slice C2 q2 r2]) (by rw [results_cellA rfl]; go_simp) rfl ?_
      exact ⟨_, rfl, R3.out.put3 KB3.out _ _ _, put3_below HBE3.out (by omega) _ _ _⟩
    · go_enter Tryd.func65, Tryd.ntmps65
      go_wp2_with fail
      refine (HD.out _ _ _ (by exact HR.out.parts.2.1) (by exact HR.out.parts.2.2)).mono ?_
      rintro e w1 ⟨vq, vr, rfl, hq, hr, hb⟩
      have KA := Lib.hid (KA1.out.to hb)
      have KB := Lib.hid (KB1.out.to hb)
      have HBE : Hid (Below w.heap.size w w1) := HBE1.out.trans (hb.mono HBE1.out.size)
      have HQ := Lib.hid hq
      obtain ⟨A2, n2, c2, rfl, hn2⟩ := hr.form
      obtain ⟨A3, n3, c3, rfl, hn3⟩ := hq.form
      obtain rfl : n2 = 0 := by have := len_pos16 hn2; omega
      have ca0 := KA.out.cell 0
      simp only [List.getElem?_toArray, List.getElem?_cons_zero, List.getElem?_cons_succ] at ca0
      clear hq hr hb hn2 hn3
      go_wp2_with fail
      refine (FINQ.out _ _ (by exact HQ.out)).mono ?_
      rintro e w3 ⟨v3, rfl, hr3, hb3⟩
      have KB3 := Lib.hid (KB.out.to hb3)
      have HBE3 : Hid (Below w.heap.size w w3) := HBE.out.trans (hb3.mono HBE.out.size)
      have R3 := Lib.hid hr3
      obtain ⟨C1, q1, r1, C2, q2, r2, rfl, hz1, hz2⟩ := hr3.form
      clear hb3 hr3 hz1 hz2 ca0
      have cc0 := KB3.out.cell 0
      have cc1 := KB3.out.cell 1
      have cc2 := KB3.out.cell 2
      simp only [List.getElem?_toArray, List.getElem?_cons_zero, List.getElem?_cons_succ] at cc0 cc1 cc2
      have fc0 := KB3.out.frozen 0
      have fc1 := KB3.out.frozen 1
      have fc2 := KB3.out.frozen 2
      go_wp2_with fail
      refine bodyPost_ret (v := .agg #[.bool s, .slice C1 q1 r1, .slice C2 q2 r2]) (by rw [results_cellA rfl]; go_simp) rfl ?_
      exact ⟨_, rfl, R3.out.put3 KB3.out _ _ _, put3_below HBE3.out (by omega) _ _ _⟩
end Go.Proofs.YtdhgbnnopekfjaaDoor
namespace Go.Proofs.YtdhgbnnopekfjaaDoor
open Go.RowKit NumB
set_option linter.unusedVariables false
set_option linter.unusedSimpArgs false

/-- What integers answers at one number. -/
def intErr (a : LN) : Int := if a.err = 0 then (if a.y = 1 then 0 else 7) else a.err

set_option maxRecDepth 100000 in
set_option maxHeartbeats 3200000 in
theorem integers_one (a : LN) (b cap : Nat) (A1 A2 : Value) (w : World) (t : TypeId) (hg : Blk w b t #[.bool a.neg, A1, A2]) (h : GV w (.agg #[.bool a.neg, A1, A2]) a) :
    Calls Tryd.prog 41 #[.slice (some ⟨b, 0, none⟩) 1 cap] w fun e w' => e = .returned (.int .i64 (intErr a)) ∧ Below w.heap.size w w' := by
  obtain ⟨_, g1, g2, gok⟩ := h.parts
  have HC : Hid (Calls Tryd.prog 56 #[.slice (some ⟨b, 0, none⟩) 1 cap] w fun e w' => e = .returned (.int .i64 a.err) ∧ Below w.heap.size w w') := checks_one b cap a.neg a.num a.den A1 A2 w t hg g1 g2 gok.1 gok.2
  have HBK := Lib.hid hg
  have hbd : 0 ≤ a.err ∧ a.err ≤ 3 := checkL_bd _ _ _
  obtain ⟨B1, n1, d1, B2, n2, d2, he, hq1, hq2⟩ := h.form
  clear hq1 hq2
  simp only [Value.agg.injEq, Array.mk.injEq, List.cons.injEq, and_true, true_and] at he
  obtain ⟨rfl, rfl⟩ := he
  by_cases e0 : a.err = 0
  · have HY : Hid (Nat32 w (.slice B2 n2 d2) a.y) := by
      have h2 := (LN.good gok e0).2.1
      unfold Hid Nat32
      rw [h2]; exact g2
    have HI : Hid (intErr a = if a.y = 1 then 0 else 7) := by unfold Hid intErr; rw [if_pos e0]
    rw [e0] at HC
    generalize intErr a = r at *
    generalize a.y = y at *
    generalize a.neg = ng at *
    clear h g1 g2 gok hg hbd e0
    go_enter Tryd.func41, Tryd.ntmps41
    go_wp2_with fail
    refine HC.out.mono ?_
    rintro e w1 ⟨rfl, hb1⟩
    have HB1 := Lib.hid hb1
    clear hb1
    go_wp2_with fail
    go_loopg [13, 5] 1 (fun gk s13 s5 wr => ∃ j : Nat, gk + j = 1 ∧ s13 = .int .i64 (j : Int) ∧ Hid (0 < j → y = 1) ∧ Hid (Below w.heap.size w wr))
    case atStart => exact ⟨0, by omega, rfl, by unfold Hid; omega, HB1.out⟩
    case round =>
      obtain ⟨j, hgj, rfl, HE, HB⟩ := hrel
      by_cases hj : j = 0
      · subst hj
        obtain rfl : gk = 1 := by omega
        have hk := HBK.out.to HB.out
        have c0 := hk.cell 0
        have c1 := hk.cell 1
        have c2 := hk.cell 2
        simp only [List.getElem?_toArray, List.getElem?_cons_zero, List.getElem?_cons_succ] at c0 c1 c2
        clear hk hgj
        by_cases hy : y = 1
        · have HO := Lib.hid (oneB_true hy)
          have HY1 := Lib.hid hy
          clear hy
          go_wp2_with fail
          refine (isOne_any y _ _ (by exact (HY.out.to HB.out).to (below_one _ _))).mono ?_
          rintro e w3 ⟨he, rfl⟩
          rw [HO.out] at he
          subst he
          go_wp2_with fail
          go_roundg 0
          case measure => omega
          case rel => exact ⟨1, by omega, by go_num, fun _ => HY1.out, HB.out.alloc HB.out.size _⟩
        · have HO := Lib.hid (oneB_false hy)
          have HY1 := Lib.hid hy
          clear hy
          go_wp2_with fail
          refine (isOne_any y _ _ (by exact (HY.out.to HB.out).to (below_one _ _))).mono ?_
          rintro e w3 ⟨he, rfl⟩
          rw [HO.out] at he
          subst he
          go_wp2_with fail
          go_ret
          rw [HI.out, if_neg HY1.out]
          exact ⟨rfl, HB.out.alloc HB.out.size _⟩
      · obtain rfl : j = 1 := by omega
        obtain rfl : gk = 0 := by omega
        have HY1 := Lib.hid (HE.out (by omega))
        clear hgj hj
        go_wp2_with fail
        go_ret
        rw [HI.out, if_pos HY1.out]
        exact ⟨rfl, HB.out⟩
  · have b0 : (a.err != 0) = true := by rw [bne_iff_ne]; exact e0
    have HI : Hid (intErr a = a.err) := by unfold Hid intErr; rw [if_neg e0]
    generalize intErr a = r at *
    generalize a.err = z at *
    clear h g1 g2 gok hg e0
    go_enter Tryd.func41, Tryd.ntmps41
    go_wp2_with fail
    refine HC.out.mono ?_
    rintro e w1 ⟨rfl, hb1⟩
    have HB1 := Lib.hid hb1
    clear hb1
    go_wp2_with fail
    go_ret
    rw [HI.out]
    exact ⟨rfl, HB1.out⟩
end Go.Proofs.YtdhgbnnopekfjaaDoor

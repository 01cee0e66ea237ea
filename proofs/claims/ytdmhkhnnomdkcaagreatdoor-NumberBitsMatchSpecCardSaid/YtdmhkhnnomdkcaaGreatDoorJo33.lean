/-  -/
import Derived.Test.YtdmhkhnnomdkcaaGreatDoorJo25
import Derived.Test.YtdmhkhnnomdkcaaGreatDoorJo26
import Derived.Test.YtdmhkhnnomdkcaaGreatDoorJo32
set_option linter.unusedVariables false
set_option linter.unusedSimpArgs false
/- fetterlockref1.Floor. Conditions: at most 50000 digits. -/
namespace Go.Proofs.YtdmhkhnnomdkcaaGreatDoor
open Go.RowKit NumB
set_option linter.unusedVariables false
set_option linter.unusedSimpArgs false

theorem results_cellA {fn : Func} {p : Tmp} {ty : TypeId} (h : fn.results = #[.cell p ty]) (tmps : Array Value) (P : Program) (w : World) :
    (results fn tmps).run P w = ((asAddr (tmps.getD p undef)).run P w).andThen fun a w₁ => (loadVar ty a).run P w₁ := by
  simp only [results, h]
  simp [Sem.run_bind, Result.andThen]
theorem one16' (w : World) (g : Nat) (hg : w.heap.size = g) : Nat16 (w.alloc (.cells #[.int .i64 1] 3)) (.slice (some ⟨g, 0, none⟩) 1 1) 1 := by subst hg; exact one16 w

set_option maxRecDepth 100000 in
set_option maxHeartbeats 3200000 in
theorem rfloor_any (neg : Bool) (x y : Nat) (v : Value) (w : World) (h : RV w v neg x y) (hy0 : 0 < y) (hx : (digs W16 x).length ≤ 50000) (hy : (digs W16 y).length ≤ 50000) :
    Calls Tryz.prog 28 #[v] w (RVPost w (neg && decide (0 < flo neg x y)) (flo neg x y) 1) := by
  have HR0 := Lib.hid h
  obtain ⟨A, n, c, B, m, d, rfl, hq1, hq2⟩ := h.form
  clear hq1 hq2 h
  have HD : Hid (∀ (W : World) (va vb : Value), Nat16 W va x → Nat16 W vb y → Calls Tryz.prog 29 #[va, vb] W (RPost2 W (x / y) (x % y))) := fun W va vb h1 h2 => rdiv_any x y va vb W h1 h2 hy0 hx hy
  have HL : Hid ((digs W16 (x / y)).length ≤ 50000) := Nat.le_trans (digs_len_mono W16_gt (Nat.div_le_self _ _)) hx
  have HT : Hid (0 < x % y → flo true x y = x / y + 1) := fun h => flo_true h
  have HZ : Hid (x % y = 0 → ∀ up, flo up x y = x / y) := fun h up => flo_rest h
  have HF : Hid (flo false x y = x / y) := flo_false
  have KA := Lib.hid ((blk2 w 43 43 #[.bool neg, .slice A n c, .slice B m d] #[.bool false, .slice none 0 0, .slice none 0 0]).1)
  have KB := Lib.hid ((blk2 w 43 43 #[.bool neg, .slice A n c, .slice B m d] #[.bool false, .slice none 0 0, .slice none 0 0]).2)
  have HR := Lib.hid (HR0.out.to (below_two w (.cells #[.bool neg, .slice A n c, .slice B m d] 43) (.cells #[.bool false, .slice none 0 0, .slice none 0 0] 43)))
  have HBE := Lib.hid (below_two w (.cells #[.bool neg, .slice A n c, .slice B m d] 43) (.cells #[.bool false, .slice none 0 0, .slice none 0 0] 43))
  have FIN : Hid (∀ (W : World) (q : Nat) (vq : Value), Nat16 W vq q → Calls Tryz.prog 23 #[.bool neg, vq] W (RVPost W (neg && decide (0 < q)) q 1)) := fun W q vq h => rwhole_any neg q vq W h
  generalize x / y = q at *
  generalize x % y = r at *
  clear hx hy hy0
  by_cases hup : neg = true ∧ 0 < r
  · obtain ⟨rfl, h0⟩ := hup
    rw [HT.out h0]
    have HR0 := Lib.hid h0
    clear h0
    go_enter Tryz.func28, Tryz.ntmps28
    go_wp2_with fail
    refine (HD.out _ _ _ (by exact HR.out.parts.2.1) (by exact HR.out.parts.2.2)).mono ?_
    rintro e w1 ⟨vq, vr, rfl, hq, hr, hb⟩
    have KA := Lib.hid (KA.out.to hb)
    have KB := Lib.hid (KB.out.to hb)
    have HBE : Hid (Below w.heap.size w w1) := HBE.out.trans (hb.mono HBE.out.size)
    have HQ := Lib.hid hq
    obtain ⟨A2, n2, c2, rfl, hn2⟩ := hr.form
    have hn0 : 0 < n2 := (len_pos16 hn2).2 HR0.out
    obtain ⟨A3, n3, c3, rfl, hn3⟩ := hq.form
    clear hq hr hb hn2 hn3
    have ca0 := KA.out.cell 0
    simp only [List.getElem?_toArray, List.getElem?_cons_zero, List.getElem?_cons_succ] at ca0
    go_wp2_with fail
    refine (radd_any q 1 _ _ _ (by exact HQ.out.to (below_one _ _)) (by exact one16' _ _ rfl) (by have := HL.out; omega) (by rw [digs_one16]; decide)).mono ?_
    rintro e w2 ⟨v2, rfl, hn2, hb2⟩
    have hb : Below w1.heap.size w1 w2 := (below_one w1 _).trans (hb2.mono (below_one w1 _).size)
    have KA := Lib.hid (KA.out.to hb)
    have KB := Lib.hid (KB.out.to hb)
    have HBE : Hid (Below w.heap.size w w2) := HBE.out.trans (hb.mono HBE.out.size)
    have N2 := Lib.hid hn2
    clear hb hb2 hn2 ca0
    have ca0 := KA.out.cell 0
    simp only [List.getElem?_toArray, List.getElem?_cons_zero, List.getElem?_cons_succ] at ca0
    go_wp2_with fail
    refine (FIN.out _ _ _ (by exact N2.out)).mono ?_
    rintro e w3 ⟨v3, rfl, hr3, hb⟩
    have KB := Lib.hid (KB.out.to hb)
    have HBE : Hid (Below w.heap.size w w3) := HBE.out.trans (hb.mono HBE.out.size)
    have R3 := Lib.hid hr3
    obtain ⟨C1, q1, r1, C2, q2, r2, rfl, hz1, hz2⟩ := hr3.form
    clear hb hr3 hz1 hz2 ca0
    have cc0 := KB.out.cell 0
    have cc1 := KB.out.cell 1
    have cc2 := KB.out.cell 2
    simp only [List.getElem?_toArray, List.getElem?_cons_zero, List.getElem?_cons_succ] at cc0 cc1 cc2
    have fc0 := KB.out.frozen 0
    have fc1 := KB.out.frozen 1
    have fc2 := KB.out.frozen 2
    generalize (true && decide (0 < q + 1)) = s at *
    go_wp2_with fail
    refine bodyPost_ret (v := .agg #[.bool s, .slice C1 q1 r1, .slice C2 q2 r2]) (by rw [results_cellA rfl]; go_simp) rfl ?_
    exact ⟨_, rfl, R3.out.put3 KB.out _ _ _, put3_below HBE.out (by omega) _ _ _⟩
  · have HE : Hid (flo neg x y = q) := by
      rcases Nat.eq_zero_or_pos r with h | h
      · exact HZ.out h neg
      · have : neg = false := by cases neg with
          | false => rfl
          | true => exact absurd ⟨rfl, h⟩ hup
        rw [this]; exact HF.out
    rw [HE.out]
    have hcase : neg = false ∨ (neg = true ∧ r = 0) := by
      cases neg with
      | false => exact .inl rfl
      | true => exact .inr ⟨rfl, Nat.eq_zero_of_not_pos fun h0 => hup ⟨rfl, h0⟩⟩
    clear hup HE HT HZ HF HR0
    generalize hs : (neg && decide (0 < q)) = s at *
    have FINQ : Hid (∀ (W : World) (vq : Value), Nat16 W vq q → Calls Tryz.prog 23 #[.bool neg, vq] W (RVPost W s q 1)) := fun W vq h => by rw [← hs]; exact FIN.out W q vq h
    clear hs FIN
    have KA1 := KA
    have KB1 := KB
    have HBE1 := HBE
    clear KA KB HBE
    rcases hcase with rfl | ⟨rfl, rfl⟩
    · go_enter Tryz.func28, Tryz.ntmps28
      go_wp2_with fail
      refine (HD.out _ _ _ (by exact HR.out.parts.2.1) (by exact HR.out.parts.2.2)).mono ?_
      rintro e w1 ⟨vq, vr, rfl, hq, hr, hb⟩
      have KA := Lib.hid (KA1.out.to hb)
      have KB := Lib.hid (KB1.out.to hb)
      have HBE : Hid (Below w.heap.size w w1) := HBE1.out.trans (hb.mono HBE1.out.size)
      have HQ := Lib.hid hq
      obtain ⟨A2, n2, c2, rfl, hn2⟩ := hr.form
      obtain ⟨A3, n3, c3, rfl, hn3⟩ := hq.form
      have ca0 := KA.out.cell 0
      simp only [List.getElem?_toArray, List.getElem?_cons_zero, List.getElem?_cons_succ] at ca0
      clear hq hr hb hn2 hn3
      go_wp2_with fail
      refine (FINQ.out _ _ (by exact HQ.out)).mono ?_
      rintro e w3 ⟨v3, rfl, hr3, hb3⟩
      have KB3 := Lib.hid (KB.out.to hb3)
      have HBE3 : Hid (Below w.heap.size w w3) := HBE.out.trans (hb3.mono HBE.out.size)
      have R3 := Lib.hid hr3
      obtain ⟨C1, q1, r1, C2, q2, r2, rfl, hz1, hz2⟩ := hr3.form
      clear hb3 hr3 hz1 hz2 ca0
      have cc0 := KB3.out.cell 0
      have cc1 := KB3.out.cell 1
      have cc2 := KB3.out.cell 2
      simp only [List.getElem?_toArray, List.getElem?_cons_zero, List.getElem?_cons_succ] at cc0 cc1 cc2
      have fc0 := KB3.out.frozen 0
      have fc1 := KB3.out.frozen 1
      have fc2 := KB3.out.frozen 2
      go_wp2_with fail
      refine bodyPost_ret (v := .agg #[.bool s, .slice C1 q1 r1, .slice C2 q2 r2]) (by rw [results_cellA rfl]; go_simp) rfl ?_
      exact ⟨_, rfl, R3.out.put3 KB3.out _ _ _, put3_below HBE3.out (by omega) _ _ _⟩
    · go_enter Tryz.func28, Tryz.ntmps28
      go_wp2_with fail
      refine (HD.out _ _ _ (by exact HR.out.parts.2.1) (by exact HR.out.parts.2.2)).mono ?_
      rintro e w1 ⟨vq, vr, rfl, hq, hr, hb⟩
      have KA := Lib.hid (KA1.out.to hb)
      have KB := Lib.hid (KB1.out.to hb)
      have HBE : Hid (Below w.heap.size w w1) := HBE1.out.trans (hb.mono HBE1.out.size)
      have HQ := Lib.hid hq
      obtain ⟨A2, n2, c2, rfl, hn2⟩ := hr.form
      obtain ⟨A3, n3, c3, rfl, hn3⟩ := hq.form
      obtain rfl : n2 = 0 := by have := len_pos16 hn2; omega
      have ca0 := KA.out.cell 0
      simp only [List.getElem?_toArray, List.getElem?_cons_zero, List.getElem?_cons_succ] at ca0
      clear hq hr hb hn2 hn3
      go_wp2_with fail
      refine (FINQ.out _ _ (by exact HQ.out)).mono ?_
      rintro e w3 ⟨v3, rfl, hr3, hb3⟩
      have KB3 := Lib.hid (KB.out.to hb3)
      have HBE3 : Hid (Below w.heap.size w w3) := HBE.out.trans (hb3.mono HBE.out.size)
      have R3 := Lib.hid hr3
      obtain ⟨C1, q1, r1, C2, q2, r2, rfl, hz1, hz2⟩ := hr3.form
      clear hb3 hr3 hz1 hz2 ca0
      have cc0 := KB3.out.cell 0
      have cc1 := KB3.out.cell 1
      have cc2 := KB3.out.cell 2
      simp only [List.getElem?_toArray, List.getElem?_cons_zero, List.getElem?_cons_succ] at cc0 cc1 cc2
      have fc0 := KB3.out.frozen 0
      have fc1 := KB3.out.frozen 1
      have fc2 := KB3.out.frozen 2
      go_wp2_with fail
      refine bodyPost_ret (v := .agg #[.bool s, .slice C1 q1 r1, .slice C2 q2 r2]) (by rw [results_cellA rfl]; go_simp) rfl ?_
      exact ⟨_, rfl, R3.out.put3 KB3.out _ _ _, put3_below HBE3.out (by omega) _ _ _⟩
end Go.Proofs.YtdmhkhnnomdkcaaGreatDoor

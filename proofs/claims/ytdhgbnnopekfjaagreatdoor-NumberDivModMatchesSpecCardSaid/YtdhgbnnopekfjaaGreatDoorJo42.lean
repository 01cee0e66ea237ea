/- fetterlockref1.Floor. Conditions: at most 50000 digits. fetterlockref1.Two at q, r, Q, R: what holds within the region that makes the quotient; plain facts. -/
import Derived.Test.YtdhgbnnopekfjaaGreatDoorJo23
import Derived.Test.YtdhgbnnopekfjaaGreatDoorJo27
import Derived.Test.YtdhgbnnopekfjaaGreatDoorJo33
import Derived.Test.YtdhgbnnopekfjaaGreatDoorJo34
import Derived.Test.YtdhgbnnopekfjaaGreatDoorJo40
set_option linter.unusedVariables false
set_option linter.unusedSimpArgs false
namespace Go.Proofs.YtdhgbnnopekfjaaGreatDoor
open Go.RowKit NumB
set_option linter.unusedVariables false
set_option linter.unusedSimpArgs false

theorem results_cellA {fn : Func} {p : Tmp} {ty : TypeId} (h : fn.results = #[.cell p ty]) (tmps : Array Value) (P : Program) (w : World) :
    (results fn tmps).run P w = ((asAddr (tmps.getD p undef)).run P w).andThen fun a w₁ => (loadVar ty a).run P w₁ := by
  simp only [results, h]
  simp [Sem.run_bind, Result.andThen]
theorem one16' (w : World) (g : Nat) (hg : w.heap.size = g) : Nat16 (w.alloc (.cells #[.int .i64 1] 3)) (.slice (some ⟨g, 0, none⟩) 1 1) 1 := by subst hg; exact one16 w

set_option maxRecDepth 100000 in
set_option maxHeartbeats 3200000 in
theorem rfloor_any (neg : Bool) (x y : Nat) (v : Value) (w : World) (h : RV w v neg x y) (hy0 : 0 < y) (hx : (digs W16 x).length ≤ 50000) (hy : (digs W16 y).length ≤ 50000) :
    Calls Tryz.prog 43 #[v] w (RVPost w (neg && decide (0 < flo neg x y)) (flo neg x y) 1) := by
  have HR0 := Lib.hid h
  obtain ⟨A, n, c, B, m, d, rfl, hq1, hq2⟩ := h.form
  clear hq1 hq2 h
  have HD : Hid (∀ (W : World) (va vb : Value), Nat16 W va x → Nat16 W vb y → Calls Tryz.prog 44 #[va, vb] W (RPost2 W (x / y) (x % y))) := fun W va vb h1 h2 => rdiv_any x y va vb W h1 h2 hy0 hx hy
  have HL : Hid ((digs W16 (x / y)).length ≤ 50000) := Nat.le_trans (digs_len_mono W16_gt (Nat.div_le_self _ _)) hx
  have HT : Hid (0 < x % y → flo true x y = x / y + 1) := fun h => flo_true h
  have HZ : Hid (x % y = 0 → ∀ up, flo up x y = x / y) := fun h up => flo_rest h
  have HF : Hid (flo false x y = x / y) := flo_false
  have KA := Lib.hid ((blk2 w 42 42 #[.bool neg, .slice A n c, .slice B m d] #[.bool false, .slice none 0 0, .slice none 0 0]).1)
  have KB := Lib.hid ((blk2 w 42 42 #[.bool neg, .slice A n c, .slice B m d] #[.bool false, .slice none 0 0, .slice none 0 0]).2)
  have HR := Lib.hid (HR0.out.to (below_two w (.cells #[.bool neg, .slice A n c, .slice B m d] 42) (.cells #[.bool false, .slice none 0 0, .slice none 0 0] 42)))
  have HBE := Lib.hid (below_two w (.cells #[.bool neg, .slice A n c, .slice B m d] 42) (.cells #[.bool false, .slice none 0 0, .slice none 0 0] 42))
  have FIN : Hid (∀ (W : World) (q : Nat) (vq : Value), Nat16 W vq q → Calls Tryz.prog 38 #[.bool neg, vq] W (RVPost W (neg && decide (0 < q)) q 1)) := fun W q vq h => rwhole_any neg q vq W h
  generalize x / y = q at *
  generalize x % y = r at *
  clear hx hy hy0
  by_cases hup : neg = true ∧ 0 < r
  · obtain ⟨rfl, h0⟩ := hup
    rw [HT.out h0]
    have HR0 := Lib.hid h0
    clear h0
    go_enter Tryz.func43, Tryz.ntmps43
    go_wp2_with fail
    refine (HD.out _ _ _ (by exact HR.out.parts.2.1) (by exact HR.out.parts.2.2)).mono ?_
    rintro e w1 ⟨vq, vr, rfl, hq, hr, hb⟩
    have KA := Lib.hid (KA.out.to hb)
    have KB := Lib.hid (KB.out.to hb)
    have HBE : Hid (Below w.heap.size w w1) := HBE.out.trans (hb.mono HBE.out.size)
    have HQ := Lib.hid hq
    obtain ⟨A2, n2, c2, rfl, hn2⟩ := hr.form
    have hn0 : 0 < n2 := (len_pos16 hn2).2 HR0.out
    obtain ⟨A3, n3, c3, rfl, hn3⟩ := hq.form
    clear hq hr hb hn2 hn3
    have ca0 := KA.out.cell 0
    simp only [List.getElem?_toArray, List.getElem?_cons_zero, List.getElem?_cons_succ] at ca0
    go_wp2_with fail
    refine (radd_any q 1 _ _ _ (by exact HQ.out.to (below_one _ _)) (by exact one16' _ _ rfl) (by have := HL.out; omega) (by rw [digs_one16]; decide)).mono ?_
    rintro e w2 ⟨v2, rfl, hn2, hb2⟩
    have hb : Below w1.heap.size w1 w2 := (below_one w1 _).trans (hb2.mono (below_one w1 _).size)
    have KA := Lib.hid (KA.out.to hb)
    have KB := Lib.hid (KB.out.to hb)
    have HBE : Hid (Below w.heap.size w w2) := HBE.out.trans (hb.mono HBE.out.size)
    have N2 := Lib.hid hn2
    clear hb hb2 hn2 ca0
    have ca0 := KA.out.cell 0
    simp only [List.getElem?_toArray, List.getElem?_cons_zero, List.getElem?_cons_succ] at ca0
    go_wp2_with fail
    refine (FIN.out _ _ _ (by exact N2.out)).mono ?_
    rintro e w3 ⟨v3, rfl, hr3, hb⟩
    have KB := Lib.hid (KB.out.to hb)
    have HBE : Hid (Below w.heap.size w w3) := HBE.out.trans (hb.mono HBE.out.size)
    have R3 := Lib.hid hr3
    obtain ⟨C1, q1, r1, C2, q2, r2, rfl, hz1, hz2⟩ := hr3.form
    clear hb hr3 hz1 hz2 ca0
    have cc0 := KB.out.cell 0
    have cc1 := KB.out.cell 1
    have cc2 := KB.out.cell 2
    simp only [List.getElem?_toArray, List.getElem?_cons_zero, List.getElem?_cons_succ] at cc0 cc1 cc2
    have fc0 := KB.out.frozen 0
    have fc1 := KB.out.frozen 1
    have fc2 := KB.out.frozen 2
    generalize (true && decide (0 < q + 1)) = s at *
    go_wp2_with fail
    refine bodyPost_ret (v := .agg #[.bool s, .slice C1 q1 r1, .slice C2 q2 r2]) (by rw [results_cellA rfl]; go_simp) rfl ?_
    exact ⟨_, rfl, R3.out.put3 KB.out _ _ _, put3_below HBE.out (by omega) _ _ _⟩
  · have HE : Hid (flo neg x y = q) := by
      rcases Nat.eq_zero_or_pos r with h | h
      · exact HZ.out h neg
      · have : neg = false := by cases neg with
          | false => rfl
          | true => exact absurd ⟨rfl, h⟩ hup
        rw [this]; exact HF.out
    rw [HE.out]
    have hcase : neg = false ∨ (neg = true ∧ r = 0) := by
      cases neg with
      | false => exact .inl rfl
      | true => exact .inr ⟨rfl, Nat.eq_zero_of_not_pos fun h0 => hup ⟨rfl, h0⟩⟩
    clear hup HE HT HZ HF HR0
    generalize hs : (neg && decide (0 < q)) = s at *
    have FINQ : Hid (∀ (W : World) (vq : Value), Nat16 W vq q → Calls Tryz.prog 38 #[.bool neg, vq] W (RVPost W s q 1)) := fun W vq h => by rw [← hs]; exact FIN.out W q vq h
    clear hs FIN
    have KA1 := KA
    have KB1 := KB
    have HBE1 := HBE
    clear KA KB HBE
    rcases hcase with rfl | ⟨rfl, rfl⟩
    · go_enter Tryz.func43, Tryz.ntmps43
      go_wp2_with fail
      refine (HD.out _ _ _ (by exact HR.out.parts.2.1) (by exact HR.out.parts.2.2)).mono ?_
      rintro e w1 ⟨vq, vr, rfl, hq, hr, hb⟩
      have KA := Lib.hid (KA1.out.to hb)
      have KB := Lib.hid (KB1.out.to hb)
      have HBE : Hid (Below w.heap.size w w1) := HBE1.out.trans (hb.mono HBE1.out.size)
      have HQ := Lib.hid hq
      obtain ⟨A2, n2, c2, rfl, hn2⟩ := hr.form
      obtain ⟨A3, n3, c3, rfl, hn3⟩ := hq.form
      have ca0 := KA.out.cell 0
      simp only [List.getElem?_toArray, List.getElem?_cons_zero, List.getElem?_cons_succ] at ca0
      clear hq hr hb hn2 hn3
      go_wp2_with fail
      refine (FINQ.out _ _ (by exact HQ.out)).mono ?_
      rintro e w3 ⟨v3, rfl, hr3, hb3⟩
      have KB3 := Lib.hid (KB.out.to hb3)
      have HBE3 : Hid (Below w.heap.size w w3) := HBE.out.trans (hb3.mono HBE.out.size)
      have R3 := Lib.hid hr3
      obtain ⟨C1, q1, r1, C2, q2, r2, rfl, hz1, hz2⟩ := hr3.form
      clear hb3 hr3 hz1 hz2 ca0
      have cc0 := KB3.out.cell 0
      have cc1 := KB3.out.cell 1
      have cc2 := KB3.out.cell 2
      simp only [List.getElem?_toArray, List.getElem?_cons_zero, List.getElem?_cons_succ] at cc0 cc1 cc2
      have fc0 := KB3.out.frozen 0
      have fc1 := KB3.out.frozen 1
      have fc2 := KB3.out.frozen 2
      go_wp2_with fail
      refine bodyPost_ret (v := .agg #[.bool s, .slice C1 q1 r1, .slice C2 q2 r2]) (by rw [results_cellA rfl]; go_simp) rfl ?_
      exact ⟨_, rfl, R3.out.put3 KB3.out _ _ _, put3_below HBE3.out (by omega) _ _ _⟩
    · go_enter Tryz.func43, Tryz.ntmps43
      go_wp2_with fail
      refine (HD.out _ _ _ (by exact HR.out.parts.2.1) (by exact HR.out.parts.2.2)).mono ?_
      rintro e w1 ⟨vq, vr, rfl, hq, hr, hb⟩
      have KA := Lib.hid (KA1.out.to hb)
      have KB := Lib.hid (KB1.out.to hb)
      have HBE : Hid (Below w.heap.size w w1) := HBE1.out.trans (hb.mono HBE1.out.size)
      have HQ := Lib.hid hq
      obtain ⟨A2, n2, c2, rfl, hn2⟩ := hr.form
      obtain ⟨A3, n3, c3, rfl, hn3⟩ := hq.form
      obtain rfl : n2 = 0 := by have := len_pos16 hn2; omega
      have ca0 := KA.out.cell 0
      simp only [List.getElem?_toArray, List.getElem?_cons_zero, List.getElem?_cons_succ] at ca0
      clear hq hr hb hn2 hn3
      go_wp2_with fail
      refine (FINQ.out _ _ (by exact HQ.out)).mono ?_
      rintro e w3 ⟨v3, rfl, hr3, hb3⟩
      have KB3 := Lib.hid (KB.out.to hb3)
      have HBE3 : Hid (Below w.heap.size w w3) := HBE.out.trans (hb3.mono HBE.out.size)
      have R3 := Lib.hid hr3
      obtain ⟨C1, q1, r1, C2, q2, r2, rfl, hz1, hz2⟩ := hr3.form
      clear hb3 hr3 hz1 hz2 ca0
      have cc0 := KB3.out.cell 0
      have cc1 := KB3.out.cell 1
      have cc2 := KB3.out.cell 2
      simp only [List.getElem?_toArray, List.getElem?_cons_zero, List.getElem?_cons_succ] at cc0 cc1 cc2
      have fc0 := KB3.out.frozen 0
      have fc1 := KB3.out.frozen 1
      have fc2 := KB3.out.frozen 2
      go_wp2_with fail
      refine bodyPost_ret (v := .agg #[.bool s, .slice C1 q1 r1, .slice C2 q2 r2]) (by rw [results_cellA rfl]; go_simp) rfl ?_
      exact ⟨_, rfl, R3.out.put3 KB3.out _ _ _, put3_below HBE3.out (by omega) _ _ _⟩
end Go.Proofs.YtdhgbnnopekfjaaGreatDoor
namespace Go.Proofs.YtdhgbnnopekfjaaGreatDoor
open Go.RowKit NumB
set_option linter.unusedVariables false
set_option linter.unusedSimpArgs false

theorem fit16 {k : Nat} (h : fitB k 1 = true) : (digs W16 k).length ≤ 256 := by
  have := digs16_val_le (ok_digs W32_gt k) (fit_len.1 h)
  rw [val_digs W32_gt] at this
  exact this
/-- What holds within the region: which operations have come up, and what they left. -/
def QInv (w : World) (a b : LN) (ps : Bool) (px py : Nat) (fs : Bool) (fx : Nat) (ca cb : Array Value) (g1 g2 : Nat) (L : Nat → Bool) (s2 s3 s4 s5 : Value) (W : World) : Prop :=
  (Below w.heap.size w W ∧ Blk W g1 42 ca ∧ Blk W g2 42 cb ∧ Blk W (w.heap.size + 1 + 1) 24 numZ ∧ RV W (.agg ca) a.neg a.x a.y ∧ RV W (.agg cb) b.neg b.x b.y) ∧
  (L 2 = true → RV W s2 b.neg b.y b.x) ∧ (L 3 = true → RV W s3 ps px py) ∧ (L 4 = true → RV W s4 fs fx 1) ∧
  (L 5 = true → ∃ g, s5 = .pointer (some ⟨g, 0, none⟩) ∧ (g ≠ g1 ∧ g ≠ g2 ∧ w.heap.size + 1 + 1 < g) ∧ (L 6 = false → Blk W g 42 numZ) ∧ (L 6 = true → Blk W g 42 (cellsOf s4))) ∧
  (L 6 = true → L 4 = true ∧ L 5 = true)
section
variable {w W W' : World} {a b : LN} {ps fs : Bool} {px py fx g1 g2 : Nat} {ca cb : Array Value} {L : Nat → Bool} {s2 s3 s4 s5 v : Value}
theorem QInv.base (h : QInv w a b ps px py fs fx ca cb g1 g2 L s2 s3 s4 s5 W) (hb : Below W.heap.size W W') : (Below w.heap.size w W' ∧ Blk W' g1 42 ca ∧ Blk W' g2 42 cb ∧ Blk W' (w.heap.size + 1 + 1) 24 numZ ∧ RV W' (.agg ca) a.neg a.x a.y ∧ RV W' (.agg cb) b.neg b.x b.y) :=
  ⟨h.1.1.trans (hb.mono h.1.1.size), h.1.2.1.to hb, h.1.2.2.1.to hb, h.1.2.2.2.1.to hb, h.1.2.2.2.2.1.to hb, h.1.2.2.2.2.2.to hb⟩
theorem QInv.blk (h : QInv w a b ps px py fs fx ca cb g1 g2 L s2 s3 s4 s5 W) (hb : Below W.heap.size W W') (h5 : L 5 = true) : ∃ g, s5 = .pointer (some ⟨g, 0, none⟩) ∧ (g ≠ g1 ∧ g ≠ g2 ∧ w.heap.size + 1 + 1 < g) ∧ (L 6 = false → Blk W' g 42 numZ) ∧ (L 6 = true → Blk W' g 42 (cellsOf s4)) := by
  obtain ⟨g, e1, e2, e3, e4⟩ := h.2.2.2.2.1 h5
  exact ⟨g, e1, e2, fun h => (e3 h).to hb, fun h => (e4 h).to hb⟩
theorem QInv.call2 (h : QInv w a b ps px py fs fx ca cb g1 g2 L s2 s3 s4 s5 W) (hb : Below W.heap.size W W') (hv : RV W' v b.neg b.y b.x) : QInv w a b ps px py fs fx ca cb g1 g2 (fun j => j == 2 || L j) v s3 s4 s5 W' :=
  ⟨h.base hb, fun _ => hv, fun h' => (h.2.2.1 h').to hb, fun h' => (h.2.2.2.1 h').to hb, fun h' => h.blk hb h', h.2.2.2.2.2⟩
theorem QInv.call3 (h : QInv w a b ps px py fs fx ca cb g1 g2 L s2 s3 s4 s5 W) (hb : Below W.heap.size W W') (hv : RV W' v ps px py) : QInv w a b ps px py fs fx ca cb g1 g2 (fun j => j == 3 || L j) s2 v s4 s5 W' :=
  ⟨h.base hb, fun h' => (h.2.1 h').to hb, fun _ => hv, fun h' => (h.2.2.2.1 h').to hb, fun h' => h.blk hb h', h.2.2.2.2.2⟩
theorem QInv.call4 (h : QInv w a b ps px py fs fx ca cb g1 g2 L s2 s3 s4 s5 W) (hL : L 4 = false) (hb : Below W.heap.size W W') (hv : RV W' v fs fx 1) : QInv w a b ps px py fs fx ca cb g1 g2 (fun j => j == 4 || L j) s2 s3 v s5 W' := by
  have no6 : L 6 = true → False := fun h6 => by have := (h.2.2.2.2.2 h6).1; rw [hL] at this; cases this
  refine ⟨h.base hb, fun h' => (h.2.1 h').to hb, fun h' => (h.2.2.1 h').to hb, fun _ => hv, fun h' => ?_, fun h' => (no6 h').elim⟩
  obtain ⟨g, e1, e2, e3, e4⟩ := h.blk hb h'
  exact ⟨g, e1, e2, e3, fun h6 => (no6 h6).elim⟩
theorem QInv.alloc5 (h : QInv w a b ps px py fs fx ca cb g1 g2 L s2 s3 s4 s5 W) (hL : L 5 = false) : QInv w a b ps px py fs fx ca cb g1 g2 (fun j => j == 5 || L j) s2 s3 s4 (.pointer (some ⟨W.heap.size, 0, none⟩)) (W.alloc (.cells numZ 42)) := by
  have hb := below_one W (.cells numZ 42)
  have no6 : L 6 = true → False := fun h6 => by have := (h.2.2.2.2.2 h6).2; rw [hL] at this; cases this
  have l1 := h.1.2.1.lt
  have l2 := h.1.2.2.1.lt
  have l3 := h.1.2.2.2.1.lt
  exact ⟨h.base hb, fun h' => (h.2.1 h').to hb, fun h' => (h.2.2.1 h').to hb, fun h' => (h.2.2.2.1 h').to hb, fun _ => ⟨_, rfl, ⟨by omega, by omega, l3⟩, fun _ => Blk.new _ _ _, fun h6 => (no6 h6).elim⟩, fun h' => (no6 h').elim⟩
theorem QInv.store6 {g : Nat} {x y z : Value} (h : QInv w a b ps px py fs fx ca cb g1 g2 L s2 s3 (.agg #[x, y, z]) (.pointer (some ⟨g, 0, none⟩)) W) (hL : L 6 = false) (h4' : L 4 = true) (h5' : L 5 = true) : QInv w a b ps px py fs fx ca cb g1 g2 (fun j => j == 6 || L j) s2 s3 (.agg #[x, y, z]) (.pointer (some ⟨g, 0, none⟩)) (put3 W g x y z) := by
  obtain ⟨g0, e1, e2, e3, e4⟩ := h.2.2.2.2.1 h5'
  simp only [Value.pointer.injEq, Option.some.injEq, Addr.mk.injEq, and_true] at e1
  subst e1
  have hk : Blk W g 42 numZ := e3 hL
  unfold numZ at hk
  exact ⟨⟨put3_below h.1.1 (by omega) _ _ _, h.1.2.1.put3_far (Ne.symm e2.1) _ _ _, h.1.2.2.1.put3_far (Ne.symm e2.2.1) _ _ _, h.1.2.2.2.1.put3_far (by omega) _ _ _, h.1.2.2.2.2.1.put3 hk _ _ _, h.1.2.2.2.2.2.put3 hk _ _ _⟩, fun h' => (h.2.1 h').put3 hk _ _ _, fun h' => (h.2.2.1 h').put3 hk _ _ _, fun h' => (h.2.2.2.1 h').put3 hk _ _ _, fun _ => ⟨g, rfl, e2, fun h' => absurd h' (by simp), fun _ => hk.put3_at _ _ _⟩, fun _ => ⟨h4', h5'⟩⟩
end
/-- The fraction of two integers, rounded down: the quotient. -/
theorem q_flo {a b : LN} (ya : a.y = 1) (yb : b.y = 1) (hb : 0 < b.x) : flo ((a.neg != b.neg) && decide (0 < a.x * b.y)) (a.x * b.y / Nat.gcd (a.x * b.y) (a.y * b.x)) (a.y * b.x / Nat.gcd (a.x * b.y) (a.y * b.x)) = dmq a b true ∧ (((a.neg != b.neg) && decide (0 < a.x * b.y)) && decide (0 < dmq a b true)) = ((a.neg != b.neg) && decide (0 < dmq a b true)) ∧ 0 < a.y * b.x / Nat.gcd (a.x * b.y) (a.y * b.x) := by
  rw [ya, yb, Nat.mul_one, Nat.one_mul]
  have e : dmq a b true = flo (a.neg != b.neg) a.x b.x := by unfold dmq; rw [Bool.and_true]
  have e2 : flo ((a.neg != b.neg) && decide (0 < a.x)) (a.x / Nat.gcd a.x b.x) (b.x / Nat.gcd a.x b.x) = dmq a b true := by rw [flo_red hb, flo_and, e]
  refine ⟨e2, ?_, Nat.div_pos (Nat.gcd_le_right _ hb) (Nat.gcd_pos_of_pos_right _ hb)⟩
  rcases Nat.eq_zero_or_pos a.x with h | h
  · rw [e, h, flo_zero]; simp
  · simp [h]
/-- What Two answers at q, r, Q, R for integers. -/
def rtwoQSI (k : Int) (a b : LN) : LN × Int := if b.x = 0 then (zeroL, 10) else if k = 113 ∨ k = 81 then (intL (a.neg != b.neg) (dmq a b (decide (96 < k))), 0) else (intL (dmr a b (decide (96 < k))).1 (dmr a b (decide (96 < k))).2, 0)
/-- What Two answers at q, r, Q, R. -/
def rtwoQS (k : Int) (a b : LN) : LN × Int := if err2 a.err b.err = 0 then (if a.y = 1 ∧ b.y = 1 then rtwoQSI k a b else (zeroL, 7)) else (zeroL, err2 a.err b.err)
theorem sumN_zero' (na nb : Bool) (x : Nat) : sumN na x nb 0 = (na, x) := by
  unfold sumN
  split <;> simp
/-- The remainder, as the document has it. -/
theorem rest_eq {a b : LN} {fl : Bool} (ya : a.y = 1) (yb : b.y = 1) : ∀ q : Nat, q = dmq a b fl → ∀ s2 : Bool, s2 = ((((a.neg != b.neg) && decide (0 < q)) != b.neg) && decide (0 < q * b.x)) → ∀ x2 y2 : Nat, x2 = q * b.x / Nat.gcd (q * b.x) (1 * b.y) → y2 = 1 * b.y / Nat.gcd (q * b.x) (1 * b.y) → y2 = 1 ∧ x2 = q * b.x ∧ sumN a.neg (a.x * y2) (!s2 && decide (0 < x2)) (x2 * a.y) = dmr a b fl := by
  rintro q hq s2 hs2 x2 y2 hx hy
  rw [yb, Nat.mul_one, Nat.gcd_one_right, Nat.div_one] at hx hy
  refine ⟨hy, hx, ?_⟩
  subst hy hx
  rw [Nat.mul_one, ya, Nat.mul_one]
  unfold dmr
  rw [← hq]
  rcases Nat.eq_zero_or_pos (q * b.x) with h | h
  · rw [h, sumN_zero', sumN_zero']
  · have hq0 : 0 < q := Nat.pos_of_mul_pos_right h
    have e : (!s2 && decide (0 < q * b.x)) = ((a.neg != b.neg) == b.neg) := by
      rw [hs2]; simp only [h, hq0, decide_true, Bool.and_true]
      cases a.neg <;> cases b.neg <;> rfl
    rw [e]
end Go.Proofs.YtdhgbnnopekfjaaGreatDoor

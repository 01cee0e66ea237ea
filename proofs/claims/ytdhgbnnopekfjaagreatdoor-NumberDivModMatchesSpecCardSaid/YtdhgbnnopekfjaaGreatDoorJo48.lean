/- NumberDivModMatchesSpec: for all numbers, DivMod returns the specified quotient and remainder, and quotient times divisor plus remainder is the dividend. -/
import Derived.Test.YtdhgbnnopekfjaaGreatDoorJo19
import Derived.Test.YtdhgbnnopekfjaaGreatDoorJo24
import Derived.Test.YtdhgbnnopekfjaaGreatDoorJo36
import Derived.Test.YtdhgbnnopekfjaaGreatDoorJo41
import Derived.Test.YtdhgbnnopekfjaaGreatDoorJo43
import Derived.Test.YtdhgbnnopekfjaaGreatDoorJo44
import Derived.Test.YtdhgbnnopekfjaaGreatDoorJo45
import Derived.Test.YtdhgbnnopekfjaaGreatDoorJo46
import Derived.Test.YtdhgbnnopekfjaaGreatDoorJo47
set_option linter.unusedVariables false
set_option linter.unusedSimpArgs false
namespace Go.Proofs.YtdhgbnnopekfjaaGreatDoor
open Go.RowKit NumB
set_option linter.unusedVariables false
set_option linter.unusedSimpArgs false

theorem rtwoQS_eq (k : Int) (hk : k = 113 ∨ k = 81) (a b : LN) : rtwoQS k a b = ((divModS a b (decide (96 < k))).1.1, (divModS a b (decide (96 < k))).2) := by
  unfold rtwoQS rtwoQSI divModS intErr2
  rw [if_pos hk]
  by_cases h : err2 a.err b.err = 0
  · by_cases h2 : a.y = 1 ∧ b.y = 1
    · by_cases h3 : b.x = 0 <;> simp [h, h2, h3]
    · simp [h, h2]
  · simp [h]
theorem rtwoQS_rest (k : Int) (hk : k = 114 ∨ k = 82) (a b : LN) (h0 : (divModS a b (decide (96 < k))).2 = 0) : rtwoQS k a b = ((divModS a b (decide (96 < k))).1.2, 0) := by
  have hk2 : ¬ (k = 113 ∨ k = 81) := by omega
  unfold rtwoQS rtwoQSI divModS intErr2 at *
  rw [if_neg hk2]
  by_cases h : err2 a.err b.err = 0
  · by_cases h2 : a.y = 1 ∧ b.y = 1
    · by_cases h3 : b.x = 0
      · simp [h, h2, h3] at h0
      · simp [h, h2, h3]
    · simp [h, h2] at h0
  · simp [h] at h0
theorem divModS_zero {a b : LN} {fl : Bool} (h : (divModS a b fl).2 ≠ 0) : divModS a b fl = ((zeroL, zeroL), (divModS a b fl).2) := by
  unfold divModS at *
  by_cases h1 : intErr2 a b = 0
  · by_cases h2 : b.x = 0
    · simp [h1, h2]
    · simp [h1, h2] at h
  · simp [h1]
theorem divModS_ok {a b : LN} {fl : Bool} (ha : a.ok) (hb : b.ok) (h : (divModS a b fl).2 = 0) : (divModS a b fl).1.1.ok ∧ (divModS a b fl).1.2.ok := by
  unfold divModS at *
  by_cases h1 : intErr2 a b = 0
  · by_cases h2 : b.x = 0
    · simp [h1, h2] at h
    · rw [if_pos h1, if_neg h2]
      exact ⟨⟨ok_digs W32_gt _, ok_digs W32_gt _⟩, ⟨ok_digs W32_gt _, ok_digs W32_gt _⟩⟩
  · rw [if_neg h1] at h; exact absurd h h1

set_option maxRecDepth 1000000 in
set_option maxHeartbeats 25600000 in
theorem law_divMod : LawDivMod.Walk := by
  intro a0 v0 a1 v1 b2 w g0 g1
  obtain ⟨A0, n0, c0, B0, m0, d0, rfl, hq1, hq2⟩ := g0.form
  clear hq1 hq2
  obtain ⟨A1, n1, c1, B1, m1, d1, rfl, hq1, hq2⟩ := g1.form
  clear hq1 hq2
  have HO := Lib.hid (And.intro g0.ok g1.ok)
  have HSM : Hid (∀ (W : World) (u v : Value) (a : LN), GV W u a → GV W v a → Calls Tryz.prog 10 #[u, v] W fun e w' => e = .returned (.bool true) ∧ Below W.heap.size W w') := fun W u v a h1 h2 => by
    have := same_S a a u v W h1 h2
    rw [sameB_true rfl] at this
    exact this
  obtain ⟨p, y, kq, kr, hkq, HF, HQ, HR, hz, hlaw⟩ : ∃ (p : (LN × LN) × Int) (y : LN × Int) (kq kr : Int), (kq = (if b2 then 113 else 81) ∧ kr = (if b2 then 114 else 82)) ∧ Hid (∀ (W : World) (u v : Value), GV W u a0 → GV W v a1 → Calls Tryz.prog 8 #[u, v, .bool b2] W (SPost2 W p)) ∧ Hid (∀ (W : World) (u v : Value), GV W u a0 → GV W v a1 → Calls Tryz.prog 9 #[.int .u8 kq, u, v] W (SPost W (p.1.1, p.2))) ∧ Hid (∀ (W : World) (u v : Value), GV W u a0 → GV W v a1 → Calls Tryz.prog 9 #[.int .u8 kr, u, v] W (SPost W y)) ∧ ((p.2 = 0 ∧ y.1 = p.1.2) ∨ (p.2 ≠ 0 ∧ p.1.2 = zeroL)) ∧ (p.2 = 0 → (mulS p.1.1 a1).2 ≠ 0 ∨ addS (mulS p.1.1 a1).1 p.1.2 = (a0, 0)) := by
    cases b2 with
    | true =>
      refine ⟨divModS a0 a1 true, rtwoQS 114 a0 a1, 113, 114, ⟨rfl, rfl⟩, fun W u v h1 h2 => divModNum_S a0 a1 true u v W h1 h2, fun W u v h1 h2 => ?_, fun W u v h1 h2 => rtwoQ2 114 rfl a0 a1 u v W h1 h2, ?_, dm_law true HO.out.1 HO.out.2⟩
      · have := rtwoQ1 113 rfl a0 a1 u v W h1 h2
        rw [rtwoQS_eq 113 (.inl rfl)] at this
        exact this
      · by_cases h : (divModS a0 a1 true).2 = 0
        · exact .inl ⟨h, by rw [rtwoQS_rest 114 (.inl rfl) a0 a1 h]; rfl⟩
        · exact .inr ⟨h, by rw [divModS_zero h]⟩
    | false =>
      refine ⟨divModS a0 a1 false, rtwoQS 82 a0 a1, 81, 82, ⟨rfl, rfl⟩, fun W u v h1 h2 => divModNum_S a0 a1 false u v W h1 h2, fun W u v h1 h2 => ?_, fun W u v h1 h2 => rtwoQ4 82 rfl a0 a1 u v W h1 h2, ?_, dm_law false HO.out.1 HO.out.2⟩
      · have := rtwoQ3 81 rfl a0 a1 u v W h1 h2
        rw [rtwoQS_eq 81 (.inr rfl)] at this
        exact this
      · by_cases h : (divModS a0 a1 false).2 = 0
        · exact .inl ⟨h, by rw [rtwoQS_rest 82 (.inr rfl) a0 a1 h]; rfl⟩
        · exact .inr ⟨h, by rw [divModS_zero h]⟩
  obtain ⟨⟨q, r⟩, z⟩ := p
  obtain ⟨y, yz⟩ := y
  dsimp only at HF HQ hz hlaw
  have hee : (z != z) = false := by simp
  have HMU := Lib.hid (fun (W : World) (u v : Value) (h1 : GV W u q) (h2 : GV W v a1) => mulNum_S q a1 u v W h1 h2)
  have HAD := Lib.hid (fun (W : World) (u v : Value) (h1 : GV W u (mulS q a1).1) (h2 : GV W v r) => addNum_S (mulS q a1).1 r u v W h1 h2)
  have HZR : Hid (∀ W : World, GV W zeroNum zeroL) := fun W => GV.zero W
  have KA := Lib.hid ((blk2 w 24 24 #[.bool a0.neg, .slice A0 n0 c0, .slice B0 m0 d0] #[.bool a1.neg, .slice A1 n1 c1, .slice B1 m1 d1]).1)
  have KB := Lib.hid ((blk2 w 24 24 #[.bool a0.neg, .slice A0 n0 c0, .slice B0 m0 d0] #[.bool a1.neg, .slice A1 n1 c1, .slice B1 m1 d1]).2)
  have GA := Lib.hid (g0.to (below_two w (.cells #[.bool a0.neg, .slice A0 n0 c0, .slice B0 m0 d0] 24) (.cells #[.bool a1.neg, .slice A1 n1 c1, .slice B1 m1 d1] 24)))
  have GB := Lib.hid (g1.to (below_two w (.cells #[.bool a0.neg, .slice A0 n0 c0, .slice B0 m0 d0] 24) (.cells #[.bool a1.neg, .slice A1 n1 c1, .slice B1 m1 d1] 24)))
  have HBE := Lib.hid (below_two w (.cells #[.bool a0.neg, .slice A0 n0 c0, .slice B0 m0 d0] 24) (.cells #[.bool a1.neg, .slice A1 n1 c1, .slice B1 m1 d1] 24))
  clear g0 g1 HO
  rcases hz with ⟨rfl, hy⟩ | ⟨hz0, hr0⟩
  rotate_left
  · have b0 : (z != 0) = true := by rw [bne_iff_ne]; exact hz0
    have b1 : (z == 0) = false := beq_eq_false_iff_ne.2 hz0
    have HZ1 : Hid (r = zeroL) := hr0
    clear hz0 hr0 hlaw HMU HAD
    cases b2 with
    | true =>
      obtain ⟨rfl, rfl⟩ := hkq
      simp only [if_true] at HQ HR
      go_enter Tryz.func3, Tryz.ntmps3
      go_wp2_with fail
      refine (HF.out _ _ _ (by exact GA.out) (by exact GB.out)).mono ?_
      rintro e w1 ⟨v, u, rfl, hg, hg2, hb⟩
      have KA := Lib.hid (KA.out.to hb)
      have KB := Lib.hid (KB.out.to hb)
      have GA := Lib.hid (GA.out.to hb)
      have GB := Lib.hid (GB.out.to hb)
      have HBE : Hid (Below w.heap.size w w1) := HBE.out.trans ((hb).mono HBE.out.size)
      clear hb
      obtain ⟨Aq, nq, cq, Bq, mq, dq, rfl, hq1, hq2⟩ := hg.form
      have Gq := Lib.hid hg
      clear hq1 hq2 hg
      obtain ⟨Ar, nr, cr, Br, mr, dr, rfl, hq1, hq2⟩ := hg2.form
      have Gr := Lib.hid hg2
      clear hq1 hq2 hg2
      have ka0 := KA.out.cell 0
      have ka1 := KA.out.cell 1
      have ka2 := KA.out.cell 2
      have kb0 := KB.out.cell 0
      have kb1 := KB.out.cell 1
      have kb2 := KB.out.cell 2
      simp only [List.getElem?_toArray, List.getElem?_cons_zero, List.getElem?_cons_succ] at ka0 ka1 ka2 kb0 kb1 kb2
      have ltKAKQ := KA.out.lt
      have ltKBKQ := KB.out.lt
      have KQN := Lib.hid (Blk.new w1 24 #[.bool q.neg, .slice Aq nq cq, .slice Bq mq dq])
      have KA := Lib.hid (KA.out.to (below_one w1 (.cells #[.bool q.neg, .slice Aq nq cq, .slice Bq mq dq] 24)))
      have KB := Lib.hid (KB.out.to (below_one w1 (.cells #[.bool q.neg, .slice Aq nq cq, .slice Bq mq dq] 24)))
      have GA := Lib.hid (GA.out.to (below_one w1 (.cells #[.bool q.neg, .slice Aq nq cq, .slice Bq mq dq] 24)))
      have GB := Lib.hid (GB.out.to (below_one w1 (.cells #[.bool q.neg, .slice Aq nq cq, .slice Bq mq dq] 24)))
      have Gq := Lib.hid (Gq.out.to (below_one w1 (.cells #[.bool q.neg, .slice Aq nq cq, .slice Bq mq dq] 24)))
      have Gr := Lib.hid (Gr.out.to (below_one w1 (.cells #[.bool q.neg, .slice Aq nq cq, .slice Bq mq dq] 24)))
      have HBE : Hid (Below w.heap.size w (w1.alloc (.cells #[.bool q.neg, .slice Aq nq cq, .slice Bq mq dq] 24))) := HBE.out.trans (((below_one w1 (.cells #[.bool q.neg, .slice Aq nq cq, .slice Bq mq dq] 24))).mono HBE.out.size)
      have KQ := KQN
      clear KQN
      have neKAKQ : (w.heap.size = w1.heap.size) = False := eq_false (by omega)
      have neKQKA : (w1.heap.size = w.heap.size) = False := eq_false (by omega)
      have neKBKQ : (w.heap.size + 1 = w1.heap.size) = False := eq_false (by omega)
      have neKQKB : (w1.heap.size = w.heap.size + 1) = False := eq_false (by omega)
      have ltKAKR := KA.out.lt
      have ltKBKR := KB.out.lt
      have ltKQKR := KQ.out.lt
      have KRN := Lib.hid (Blk.new (w1.alloc (.cells #[.bool q.neg, .slice Aq nq cq, .slice Bq mq dq] 24)) 24 #[.bool r.neg, .slice Ar nr cr, .slice Br mr dr])
      have KA := Lib.hid (KA.out.to (below_one (w1.alloc (.cells #[.bool q.neg, .slice Aq nq cq, .slice Bq mq dq] 24)) (.cells #[.bool r.neg, .slice Ar nr cr, .slice Br mr dr] 24)))
      have KB := Lib.hid (KB.out.to (below_one (w1.alloc (.cells #[.bool q.neg, .slice Aq nq cq, .slice Bq mq dq] 24)) (.cells #[.bool r.neg, .slice Ar nr cr, .slice Br mr dr] 24)))
      have KQ := Lib.hid (KQ.out.to (below_one (w1.alloc (.cells #[.bool q.neg, .slice Aq nq cq, .slice Bq mq dq] 24)) (.cells #[.bool r.neg, .slice Ar nr cr, .slice Br mr dr] 24)))
      have GA := Lib.hid (GA.out.to (below_one (w1.alloc (.cells #[.bool q.neg, .slice Aq nq cq, .slice Bq mq dq] 24)) (.cells #[.bool r.neg, .slice Ar nr cr, .slice Br mr dr] 24)))
      have GB := Lib.hid (GB.out.to (below_one (w1.alloc (.cells #[.bool q.neg, .slice Aq nq cq, .slice Bq mq dq] 24)) (.cells #[.bool r.neg, .slice Ar nr cr, .slice Br mr dr] 24)))
      have Gq := Lib.hid (Gq.out.to (below_one (w1.alloc (.cells #[.bool q.neg, .slice Aq nq cq, .slice Bq mq dq] 24)) (.cells #[.bool r.neg, .slice Ar nr cr, .slice Br mr dr] 24)))
      have Gr := Lib.hid (Gr.out.to (below_one (w1.alloc (.cells #[.bool q.neg, .slice Aq nq cq, .slice Bq mq dq] 24)) (.cells #[.bool r.neg, .slice Ar nr cr, .slice Br mr dr] 24)))
      have HBE : Hid (Below w.heap.size w ((w1.alloc (.cells #[.bool q.neg, .slice Aq nq cq, .slice Bq mq dq] 24)).alloc (.cells #[.bool r.neg, .slice Ar nr cr, .slice Br mr dr] 24))) := HBE.out.trans (((below_one (w1.alloc (.cells #[.bool q.neg, .slice Aq nq cq, .slice Bq mq dq] 24)) (.cells #[.bool r.neg, .slice Ar nr cr, .slice Br mr dr] 24))).mono HBE.out.size)
      have KR : Hid (Blk ((w1.alloc (.cells #[.bool q.neg, .slice Aq nq cq, .slice Bq mq dq] 24)).alloc (.cells #[.bool r.neg, .slice Ar nr cr, .slice Br mr dr] 24)) (w1.heap.size + 1) 24 #[.bool r.neg, .slice Ar nr cr, .slice Br mr dr]) := by have h := KRN.out; rw [show (w1.alloc (.cells #[.bool q.neg, .slice Aq nq cq, .slice Bq mq dq] 24)).heap.size = w1.heap.size + 1 by simp] at h; exact h
      clear KRN
      have neKAKR : (w.heap.size = w1.heap.size + 1) = False := eq_false (by omega)
      have neKRKA : (w1.heap.size + 1 = w.heap.size) = False := eq_false (by omega)
      have neKBKR : (w.heap.size + 1 = w1.heap.size + 1) = False := eq_false (by omega)
      have neKRKB : (w1.heap.size + 1 = w.heap.size + 1) = False := eq_false (by omega)
      have neKQKR : (w1.heap.size = w1.heap.size + 1) = False := eq_false (by omega)
      have neKRKQ : (w1.heap.size + 1 = w1.heap.size) = False := eq_false (by omega)
      go_wp2_with fail
      refine (HQ.out _ _ _ (by exact GA.out) (by exact GB.out)).mono ?_
      rintro e w2 ⟨v, rfl, hg, hb⟩
      clear ka0 ka1 ka2 kb0 kb1 kb2
      have KA := Lib.hid (KA.out.to hb)
      have KB := Lib.hid (KB.out.to hb)
      have KQ := Lib.hid (KQ.out.to hb)
      have KR := Lib.hid (KR.out.to hb)
      have GA := Lib.hid (GA.out.to hb)
      have GB := Lib.hid (GB.out.to hb)
      have Gq := Lib.hid (Gq.out.to hb)
      have Gr := Lib.hid (Gr.out.to hb)
      have HBE : Hid (Below w.heap.size w w2) := HBE.out.trans ((hb).mono HBE.out.size)
      clear hb
      obtain ⟨Ax, nx, cx, Bx, mx, dx, rfl, hq1, hq2⟩ := hg.form
      have Gx := Lib.hid hg
      clear hq1 hq2 hg
      have ka0 := KA.out.cell 0
      have ka1 := KA.out.cell 1
      have ka2 := KA.out.cell 2
      have kb0 := KB.out.cell 0
      have kb1 := KB.out.cell 1
      have kb2 := KB.out.cell 2
      simp only [List.getElem?_toArray, List.getElem?_cons_zero, List.getElem?_cons_succ] at ka0 ka1 ka2 kb0 kb1 kb2
      have ltKAKX := KA.out.lt
      have ltKBKX := KB.out.lt
      have ltKQKX := KQ.out.lt
      have ltKRKX := KR.out.lt
      have KXN := Lib.hid (Blk.new w2 24 #[.bool q.neg, .slice Ax nx cx, .slice Bx mx dx])
      have KA := Lib.hid (KA.out.to (below_one w2 (.cells #[.bool q.neg, .slice Ax nx cx, .slice Bx mx dx] 24)))
      have KB := Lib.hid (KB.out.to (below_one w2 (.cells #[.bool q.neg, .slice Ax nx cx, .slice Bx mx dx] 24)))
      have KQ := Lib.hid (KQ.out.to (below_one w2 (.cells #[.bool q.neg, .slice Ax nx cx, .slice Bx mx dx] 24)))
      have KR := Lib.hid (KR.out.to (below_one w2 (.cells #[.bool q.neg, .slice Ax nx cx, .slice Bx mx dx] 24)))
      have GA := Lib.hid (GA.out.to (below_one w2 (.cells #[.bool q.neg, .slice Ax nx cx, .slice Bx mx dx] 24)))
      have GB := Lib.hid (GB.out.to (below_one w2 (.cells #[.bool q.neg, .slice Ax nx cx, .slice Bx mx dx] 24)))
      have Gq := Lib.hid (Gq.out.to (below_one w2 (.cells #[.bool q.neg, .slice Ax nx cx, .slice Bx mx dx] 24)))
      have Gr := Lib.hid (Gr.out.to (below_one w2 (.cells #[.bool q.neg, .slice Ax nx cx, .slice Bx mx dx] 24)))
      have Gx := Lib.hid (Gx.out.to (below_one w2 (.cells #[.bool q.neg, .slice Ax nx cx, .slice Bx mx dx] 24)))
      have HBE : Hid (Below w.heap.size w (w2.alloc (.cells #[.bool q.neg, .slice Ax nx cx, .slice Bx mx dx] 24))) := HBE.out.trans (((below_one w2 (.cells #[.bool q.neg, .slice Ax nx cx, .slice Bx mx dx] 24))).mono HBE.out.size)
      have KX := KXN
      clear KXN
      have neKAKX : (w.heap.size = w2.heap.size) = False := eq_false (by omega)
      have neKXKA : (w2.heap.size = w.heap.size) = False := eq_false (by omega)
      have neKBKX : (w.heap.size + 1 = w2.heap.size) = False := eq_false (by omega)
      have neKXKB : (w2.heap.size = w.heap.size + 1) = False := eq_false (by omega)
      have neKQKX : (w1.heap.size = w2.heap.size) = False := eq_false (by omega)
      have neKXKQ : (w2.heap.size = w1.heap.size) = False := eq_false (by omega)
      have neKRKX : (w1.heap.size + 1 = w2.heap.size) = False := eq_false (by omega)
      have neKXKR : (w2.heap.size = w1.heap.size + 1) = False := eq_false (by omega)
      go_wp2_with fail
      refine (HR.out _ _ _ (by exact GA.out) (by exact GB.out)).mono ?_
      rintro e w3 ⟨v, rfl, hg, hb⟩
      clear ka0 ka1 ka2 kb0 kb1 kb2
      have KA := Lib.hid (KA.out.to hb)
      have KB := Lib.hid (KB.out.to hb)
      have KQ := Lib.hid (KQ.out.to hb)
      have KR := Lib.hid (KR.out.to hb)
      have KX := Lib.hid (KX.out.to hb)
      have GA := Lib.hid (GA.out.to hb)
      have GB := Lib.hid (GB.out.to hb)
      have Gq := Lib.hid (Gq.out.to hb)
      have Gr := Lib.hid (Gr.out.to hb)
      have Gx := Lib.hid (Gx.out.to hb)
      have HBE : Hid (Below w.heap.size w w3) := HBE.out.trans ((hb).mono HBE.out.size)
      clear hb
      obtain ⟨Ay, ny, cy, By, my, dy, rfl, hq1, hq2⟩ := hg.form
      have Gy := Lib.hid hg
      clear hq1 hq2 hg
      have kq0 := KQ.out.cell 0
      have kq1 := KQ.out.cell 1
      have kq2 := KQ.out.cell 2
      have kx0 := KX.out.cell 0
      have kx1 := KX.out.cell 1
      have kx2 := KX.out.cell 2
      simp only [List.getElem?_toArray, List.getElem?_cons_zero, List.getElem?_cons_succ] at kq0 kq1 kq2 kx0 kx1 kx2
      have ltKAKY := KA.out.lt
      have ltKBKY := KB.out.lt
      have ltKQKY := KQ.out.lt
      have ltKRKY := KR.out.lt
      have ltKXKY := KX.out.lt
      have KYN := Lib.hid (Blk.new w3 24 #[.bool y.neg, .slice Ay ny cy, .slice By my dy])
      have KA := Lib.hid (KA.out.to (below_one w3 (.cells #[.bool y.neg, .slice Ay ny cy, .slice By my dy] 24)))
      have KB := Lib.hid (KB.out.to (below_one w3 (.cells #[.bool y.neg, .slice Ay ny cy, .slice By my dy] 24)))
      have KQ := Lib.hid (KQ.out.to (below_one w3 (.cells #[.bool y.neg, .slice Ay ny cy, .slice By my dy] 24)))
      have KR := Lib.hid (KR.out.to (below_one w3 (.cells #[.bool y.neg, .slice Ay ny cy, .slice By my dy] 24)))
      have KX := Lib.hid (KX.out.to (below_one w3 (.cells #[.bool y.neg, .slice Ay ny cy, .slice By my dy] 24)))
      have GA := Lib.hid (GA.out.to (below_one w3 (.cells #[.bool y.neg, .slice Ay ny cy, .slice By my dy] 24)))
      have GB := Lib.hid (GB.out.to (below_one w3 (.cells #[.bool y.neg, .slice Ay ny cy, .slice By my dy] 24)))
      have Gq := Lib.hid (Gq.out.to (below_one w3 (.cells #[.bool y.neg, .slice Ay ny cy, .slice By my dy] 24)))
      have Gr := Lib.hid (Gr.out.to (below_one w3 (.cells #[.bool y.neg, .slice Ay ny cy, .slice By my dy] 24)))
      have Gx := Lib.hid (Gx.out.to (below_one w3 (.cells #[.bool y.neg, .slice Ay ny cy, .slice By my dy] 24)))
      have Gy := Lib.hid (Gy.out.to (below_one w3 (.cells #[.bool y.neg, .slice Ay ny cy, .slice By my dy] 24)))
      have HBE : Hid (Below w.heap.size w (w3.alloc (.cells #[.bool y.neg, .slice Ay ny cy, .slice By my dy] 24))) := HBE.out.trans (((below_one w3 (.cells #[.bool y.neg, .slice Ay ny cy, .slice By my dy] 24))).mono HBE.out.size)
      have KY := KYN
      clear KYN
      have neKAKY : (w.heap.size = w3.heap.size) = False := eq_false (by omega)
      have neKYKA : (w3.heap.size = w.heap.size) = False := eq_false (by omega)
      have neKBKY : (w.heap.size + 1 = w3.heap.size) = False := eq_false (by omega)
      have neKYKB : (w3.heap.size = w.heap.size + 1) = False := eq_false (by omega)
      have neKQKY : (w1.heap.size = w3.heap.size) = False := eq_false (by omega)
      have neKYKQ : (w3.heap.size = w1.heap.size) = False := eq_false (by omega)
      have neKRKY : (w1.heap.size + 1 = w3.heap.size) = False := eq_false (by omega)
      have neKYKR : (w3.heap.size = w1.heap.size + 1) = False := eq_false (by omega)
      have neKXKY : (w2.heap.size = w3.heap.size) = False := eq_false (by omega)
      have neKYKX : (w3.heap.size = w2.heap.size) = False := eq_false (by omega)
      go_wp2_with fail
      refine (HSM.out _ _ _ _ (by exact Gq.out) (by exact Gx.out)).mono ?_
      rintro e w4 ⟨rfl, hb⟩
      clear kq0 kq1 kq2 kx0 kx1 kx2
      have KA := Lib.hid (KA.out.to hb)
      have KB := Lib.hid (KB.out.to hb)
      have KQ := Lib.hid (KQ.out.to hb)
      have KR := Lib.hid (KR.out.to hb)
      have KX := Lib.hid (KX.out.to hb)
      have KY := Lib.hid (KY.out.to hb)
      have GA := Lib.hid (GA.out.to hb)
      have GB := Lib.hid (GB.out.to hb)
      have Gq := Lib.hid (Gq.out.to hb)
      have Gr := Lib.hid (Gr.out.to hb)
      have Gx := Lib.hid (Gx.out.to hb)
      have Gy := Lib.hid (Gy.out.to hb)
      have HBE : Hid (Below w.heap.size w w4) := HBE.out.trans ((hb).mono HBE.out.size)
      clear hb
      have kr0 := KR.out.cell 0
      have kr1 := KR.out.cell 1
      have kr2 := KR.out.cell 2
      simp only [List.getElem?_toArray, List.getElem?_cons_zero, List.getElem?_cons_succ] at kr0 kr1 kr2
      go_wp2_with fail
      refine (HSM.out _ _ _ _ (by exact Gr.out) (by rw [HZ1.out]; exact HZR.out _)).mono ?_
      rintro e w5 ⟨rfl, hb⟩
      clear kr0 kr1 kr2
      have KA := Lib.hid (KA.out.to hb)
      have KB := Lib.hid (KB.out.to hb)
      have KQ := Lib.hid (KQ.out.to hb)
      have KR := Lib.hid (KR.out.to hb)
      have KX := Lib.hid (KX.out.to hb)
      have KY := Lib.hid (KY.out.to hb)
      have GA := Lib.hid (GA.out.to hb)
      have GB := Lib.hid (GB.out.to hb)
      have Gq := Lib.hid (Gq.out.to hb)
      have Gr := Lib.hid (Gr.out.to hb)
      have Gx := Lib.hid (Gx.out.to hb)
      have Gy := Lib.hid (Gy.out.to hb)
      have HBE : Hid (Below w.heap.size w w5) := HBE.out.trans ((hb).mono HBE.out.size)
      clear hb
      go_wp2_with fail
      refine (counted_any _).mono ?_
      rintro e wz ⟨rfl, hb⟩
      go_wp2_with fail
      go_ret
      exact ⟨rfl, HBE.out.trans (hb.mono HBE.out.size)⟩
    | false =>
      obtain ⟨rfl, rfl⟩ := hkq
      simp only [Bool.false_eq_true, if_false] at HQ HR
      go_enter Tryz.func3, Tryz.ntmps3
      go_wp2_with fail
      refine (HF.out _ _ _ (by exact GA.out) (by exact GB.out)).mono ?_
      rintro e w1 ⟨v, u, rfl, hg, hg2, hb⟩
      have KA := Lib.hid (KA.out.to hb)
      have KB := Lib.hid (KB.out.to hb)
      have GA := Lib.hid (GA.out.to hb)
      have GB := Lib.hid (GB.out.to hb)
      have HBE : Hid (Below w.heap.size w w1) := HBE.out.trans ((hb).mono HBE.out.size)
      clear hb
      obtain ⟨Aq, nq, cq, Bq, mq, dq, rfl, hq1, hq2⟩ := hg.form
      have Gq := Lib.hid hg
      clear hq1 hq2 hg
      obtain ⟨Ar, nr, cr, Br, mr, dr, rfl, hq1, hq2⟩ := hg2.form
      have Gr := Lib.hid hg2
      clear hq1 hq2 hg2
      have ka0 := KA.out.cell 0
      have ka1 := KA.out.cell 1
      have ka2 := KA.out.cell 2
      have kb0 := KB.out.cell 0
      have kb1 := KB.out.cell 1
      have kb2 := KB.out.cell 2
      simp only [List.getElem?_toArray, List.getElem?_cons_zero, List.getElem?_cons_succ] at ka0 ka1 ka2 kb0 kb1 kb2
      have ltKAKQ := KA.out.lt
      have ltKBKQ := KB.out.lt
      have KQN := Lib.hid (Blk.new w1 24 #[.bool q.neg, .slice Aq nq cq, .slice Bq mq dq])
      have KA := Lib.hid (KA.out.to (below_one w1 (.cells #[.bool q.neg, .slice Aq nq cq, .slice Bq mq dq] 24)))
      have KB := Lib.hid (KB.out.to (below_one w1 (.cells #[.bool q.neg, .slice Aq nq cq, .slice Bq mq dq] 24)))
      have GA := Lib.hid (GA.out.to (below_one w1 (.cells #[.bool q.neg, .slice Aq nq cq, .slice Bq mq dq] 24)))
      have GB := Lib.hid (GB.out.to (below_one w1 (.cells #[.bool q.neg, .slice Aq nq cq, .slice Bq mq dq] 24)))
      have Gq := Lib.hid (Gq.out.to (below_one w1 (.cells #[.bool q.neg, .slice Aq nq cq, .slice Bq mq dq] 24)))
      have Gr := Lib.hid (Gr.out.to (below_one w1 (.cells #[.bool q.neg, .slice Aq nq cq, .slice Bq mq dq] 24)))
      have HBE : Hid (Below w.heap.size w (w1.alloc (.cells #[.bool q.neg, .slice Aq nq cq, .slice Bq mq dq] 24))) := HBE.out.trans (((below_one w1 (.cells #[.bool q.neg, .slice Aq nq cq, .slice Bq mq dq] 24))).mono HBE.out.size)
      have KQ := KQN
      clear KQN
      have neKAKQ : (w.heap.size = w1.heap.size) = False := eq_false (by omega)
      have neKQKA : (w1.heap.size = w.heap.size) = False := eq_false (by omega)
      have neKBKQ : (w.heap.size + 1 = w1.heap.size) = False := eq_false (by omega)
      have neKQKB : (w1.heap.size = w.heap.size + 1) = False := eq_false (by omega)
      have ltKAKR := KA.out.lt
      have ltKBKR := KB.out.lt
      have ltKQKR := KQ.out.lt
      have KRN := Lib.hid (Blk.new (w1.alloc (.cells #[.bool q.neg, .slice Aq nq cq, .slice Bq mq dq] 24)) 24 #[.bool r.neg, .slice Ar nr cr, .slice Br mr dr])
      have KA := Lib.hid (KA.out.to (below_one (w1.alloc (.cells #[.bool q.neg, .slice Aq nq cq, .slice Bq mq dq] 24)) (.cells #[.bool r.neg, .slice Ar nr cr, .slice Br mr dr] 24)))
      have KB := Lib.hid (KB.out.to (below_one (w1.alloc (.cells #[.bool q.neg, .slice Aq nq cq, .slice Bq mq dq] 24)) (.cells #[.bool r.neg, .slice Ar nr cr, .slice Br mr dr] 24)))
      have KQ := Lib.hid (KQ.out.to (below_one (w1.alloc (.cells #[.bool q.neg, .slice Aq nq cq, .slice Bq mq dq] 24)) (.cells #[.bool r.neg, .slice Ar nr cr, .slice Br mr dr] 24)))
      have GA := Lib.hid (GA.out.to (below_one (w1.alloc (.cells #[.bool q.neg, .slice Aq nq cq, .slice Bq mq dq] 24)) (.cells #[.bool r.neg, .slice Ar nr cr, .slice Br mr dr] 24)))
      have GB := Lib.hid (GB.out.to (below_one (w1.alloc (.cells #[.bool q.neg, .slice Aq nq cq, .slice Bq mq dq] 24)) (.cells #[.bool r.neg, .slice Ar nr cr, .slice Br mr dr] 24)))
      have Gq := Lib.hid (Gq.out.to (below_one (w1.alloc (.cells #[.bool q.neg, .slice Aq nq cq, .slice Bq mq dq] 24)) (.cells #[.bool r.neg, .slice Ar nr cr, .slice Br mr dr] 24)))
      have Gr := Lib.hid (Gr.out.to (below_one (w1.alloc (.cells #[.bool q.neg, .slice Aq nq cq, .slice Bq mq dq] 24)) (.cells #[.bool r.neg, .slice Ar nr cr, .slice Br mr dr] 24)))
      have HBE : Hid (Below w.heap.size w ((w1.alloc (.cells #[.bool q.neg, .slice Aq nq cq, .slice Bq mq dq] 24)).alloc (.cells #[.bool r.neg, .slice Ar nr cr, .slice Br mr dr] 24))) := HBE.out.trans (((below_one (w1.alloc (.cells #[.bool q.neg, .slice Aq nq cq, .slice Bq mq dq] 24)) (.cells #[.bool r.neg, .slice Ar nr cr, .slice Br mr dr] 24))).mono HBE.out.size)
      have KR : Hid (Blk ((w1.alloc (.cells #[.bool q.neg, .slice Aq nq cq, .slice Bq mq dq] 24)).alloc (.cells #[.bool r.neg, .slice Ar nr cr, .slice Br mr dr] 24)) (w1.heap.size + 1) 24 #[.bool r.neg, .slice Ar nr cr, .slice Br mr dr]) := by have h := KRN.out; rw [show (w1.alloc (.cells #[.bool q.neg, .slice Aq nq cq, .slice Bq mq dq] 24)).heap.size = w1.heap.size + 1 by simp] at h; exact h
      clear KRN
      have neKAKR : (w.heap.size = w1.heap.size + 1) = False := eq_false (by omega)
      have neKRKA : (w1.heap.size + 1 = w.heap.size) = False := eq_false (by omega)
      have neKBKR : (w.heap.size + 1 = w1.heap.size + 1) = False := eq_false (by omega)
      have neKRKB : (w1.heap.size + 1 = w.heap.size + 1) = False := eq_false (by omega)
      have neKQKR : (w1.heap.size = w1.heap.size + 1) = False := eq_false (by omega)
      have neKRKQ : (w1.heap.size + 1 = w1.heap.size) = False := eq_false (by omega)
      go_wp2_with fail
      refine (HQ.out _ _ _ (by exact GA.out) (by exact GB.out)).mono ?_
      rintro e w2 ⟨v, rfl, hg, hb⟩
      clear ka0 ka1 ka2 kb0 kb1 kb2
      have KA := Lib.hid (KA.out.to hb)
      have KB := Lib.hid (KB.out.to hb)
      have KQ := Lib.hid (KQ.out.to hb)
      have KR := Lib.hid (KR.out.to hb)
      have GA := Lib.hid (GA.out.to hb)
      have GB := Lib.hid (GB.out.to hb)
      have Gq := Lib.hid (Gq.out.to hb)
      have Gr := Lib.hid (Gr.out.to hb)
      have HBE : Hid (Below w.heap.size w w2) := HBE.out.trans ((hb).mono HBE.out.size)
      clear hb
      obtain ⟨Ax, nx, cx, Bx, mx, dx, rfl, hq1, hq2⟩ := hg.form
      have Gx := Lib.hid hg
      clear hq1 hq2 hg
      have ka0 := KA.out.cell 0
      have ka1 := KA.out.cell 1
      have ka2 := KA.out.cell 2
      have kb0 := KB.out.cell 0
      have kb1 := KB.out.cell 1
      have kb2 := KB.out.cell 2
      simp only [List.getElem?_toArray, List.getElem?_cons_zero, List.getElem?_cons_succ] at ka0 ka1 ka2 kb0 kb1 kb2
      have ltKAKX := KA.out.lt
      have ltKBKX := KB.out.lt
      have ltKQKX := KQ.out.lt
      have ltKRKX := KR.out.lt
      have KXN := Lib.hid (Blk.new w2 24 #[.bool q.neg, .slice Ax nx cx, .slice Bx mx dx])
      have KA := Lib.hid (KA.out.to (below_one w2 (.cells #[.bool q.neg, .slice Ax nx cx, .slice Bx mx dx] 24)))
      have KB := Lib.hid (KB.out.to (below_one w2 (.cells #[.bool q.neg, .slice Ax nx cx, .slice Bx mx dx] 24)))
      have KQ := Lib.hid (KQ.out.to (below_one w2 (.cells #[.bool q.neg, .slice Ax nx cx, .slice Bx mx dx] 24)))
      have KR := Lib.hid (KR.out.to (below_one w2 (.cells #[.bool q.neg, .slice Ax nx cx, .slice Bx mx dx] 24)))
      have GA := Lib.hid (GA.out.to (below_one w2 (.cells #[.bool q.neg, .slice Ax nx cx, .slice Bx mx dx] 24)))
      have GB := Lib.hid (GB.out.to (below_one w2 (.cells #[.bool q.neg, .slice Ax nx cx, .slice Bx mx dx] 24)))
      have Gq := Lib.hid (Gq.out.to (below_one w2 (.cells #[.bool q.neg, .slice Ax nx cx, .slice Bx mx dx] 24)))
      have Gr := Lib.hid (Gr.out.to (below_one w2 (.cells #[.bool q.neg, .slice Ax nx cx, .slice Bx mx dx] 24)))
      have Gx := Lib.hid (Gx.out.to (below_one w2 (.cells #[.bool q.neg, .slice Ax nx cx, .slice Bx mx dx] 24)))
      have HBE : Hid (Below w.heap.size w (w2.alloc (.cells #[.bool q.neg, .slice Ax nx cx, .slice Bx mx dx] 24))) := HBE.out.trans (((below_one w2 (.cells #[.bool q.neg, .slice Ax nx cx, .slice Bx mx dx] 24))).mono HBE.out.size)
      have KX := KXN
      clear KXN
      have neKAKX : (w.heap.size = w2.heap.size) = False := eq_false (by omega)
      have neKXKA : (w2.heap.size = w.heap.size) = False := eq_false (by omega)
      have neKBKX : (w.heap.size + 1 = w2.heap.size) = False := eq_false (by omega)
      have neKXKB : (w2.heap.size = w.heap.size + 1) = False := eq_false (by omega)
      have neKQKX : (w1.heap.size = w2.heap.size) = False := eq_false (by omega)
      have neKXKQ : (w2.heap.size = w1.heap.size) = False := eq_false (by omega)
      have neKRKX : (w1.heap.size + 1 = w2.heap.size) = False := eq_false (by omega)
      have neKXKR : (w2.heap.size = w1.heap.size + 1) = False := eq_false (by omega)
      go_wp2_with fail
      refine (HR.out _ _ _ (by exact GA.out) (by exact GB.out)).mono ?_
      rintro e w3 ⟨v, rfl, hg, hb⟩
      clear ka0 ka1 ka2 kb0 kb1 kb2
      have KA := Lib.hid (KA.out.to hb)
      have KB := Lib.hid (KB.out.to hb)
      have KQ := Lib.hid (KQ.out.to hb)
      have KR := Lib.hid (KR.out.to hb)
      have KX := Lib.hid (KX.out.to hb)
      have GA := Lib.hid (GA.out.to hb)
      have GB := Lib.hid (GB.out.to hb)
      have Gq := Lib.hid (Gq.out.to hb)
      have Gr := Lib.hid (Gr.out.to hb)
      have Gx := Lib.hid (Gx.out.to hb)
      have HBE : Hid (Below w.heap.size w w3) := HBE.out.trans ((hb).mono HBE.out.size)
      clear hb
      obtain ⟨Ay, ny, cy, By, my, dy, rfl, hq1, hq2⟩ := hg.form
      have Gy := Lib.hid hg
      clear hq1 hq2 hg
      have kq0 := KQ.out.cell 0
      have kq1 := KQ.out.cell 1
      have kq2 := KQ.out.cell 2
      have kx0 := KX.out.cell 0
      have kx1 := KX.out.cell 1
      have kx2 := KX.out.cell 2
      simp only [List.getElem?_toArray, List.getElem?_cons_zero, List.getElem?_cons_succ] at kq0 kq1 kq2 kx0 kx1 kx2
      have ltKAKY := KA.out.lt
      have ltKBKY := KB.out.lt
      have ltKQKY := KQ.out.lt
      have ltKRKY := KR.out.lt
      have ltKXKY := KX.out.lt
      have KYN := Lib.hid (Blk.new w3 24 #[.bool y.neg, .slice Ay ny cy, .slice By my dy])
      have KA := Lib.hid (KA.out.to (below_one w3 (.cells #[.bool y.neg, .slice Ay ny cy, .slice By my dy] 24)))
      have KB := Lib.hid (KB.out.to (below_one w3 (.cells #[.bool y.neg, .slice Ay ny cy, .slice By my dy] 24)))
      have KQ := Lib.hid (KQ.out.to (below_one w3 (.cells #[.bool y.neg, .slice Ay ny cy, .slice By my dy] 24)))
      have KR := Lib.hid (KR.out.to (below_one w3 (.cells #[.bool y.neg, .slice Ay ny cy, .slice By my dy] 24)))
      have KX := Lib.hid (KX.out.to (below_one w3 (.cells #[.bool y.neg, .slice Ay ny cy, .slice By my dy] 24)))
      have GA := Lib.hid (GA.out.to (below_one w3 (.cells #[.bool y.neg, .slice Ay ny cy, .slice By my dy] 24)))
      have GB := Lib.hid (GB.out.to (below_one w3 (.cells #[.bool y.neg, .slice Ay ny cy, .slice By my dy] 24)))
      have Gq := Lib.hid (Gq.out.to (below_one w3 (.cells #[.bool y.neg, .slice Ay ny cy, .slice By my dy] 24)))
      have Gr := Lib.hid (Gr.out.to (below_one w3 (.cells #[.bool y.neg, .slice Ay ny cy, .slice By my dy] 24)))
      have Gx := Lib.hid (Gx.out.to (below_one w3 (.cells #[.bool y.neg, .slice Ay ny cy, .slice By my dy] 24)))
      have Gy := Lib.hid (Gy.out.to (below_one w3 (.cells #[.bool y.neg, .slice Ay ny cy, .slice By my dy] 24)))
      have HBE : Hid (Below w.heap.size w (w3.alloc (.cells #[.bool y.neg, .slice Ay ny cy, .slice By my dy] 24))) := HBE.out.trans (((below_one w3 (.cells #[.bool y.neg, .slice Ay ny cy, .slice By my dy] 24))).mono HBE.out.size)
      have KY := KYN
      clear KYN
      have neKAKY : (w.heap.size = w3.heap.size) = False := eq_false (by omega)
      have neKYKA : (w3.heap.size = w.heap.size) = False := eq_false (by omega)
      have neKBKY : (w.heap.size + 1 = w3.heap.size) = False := eq_false (by omega)
      have neKYKB : (w3.heap.size = w.heap.size + 1) = False := eq_false (by omega)
      have neKQKY : (w1.heap.size = w3.heap.size) = False := eq_false (by omega)
      have neKYKQ : (w3.heap.size = w1.heap.size) = False := eq_false (by omega)
      have neKRKY : (w1.heap.size + 1 = w3.heap.size) = False := eq_false (by omega)
      have neKYKR : (w3.heap.size = w1.heap.size + 1) = False := eq_false (by omega)
      have neKXKY : (w2.heap.size = w3.heap.size) = False := eq_false (by omega)
      have neKYKX : (w3.heap.size = w2.heap.size) = False := eq_false (by omega)
      go_wp2_with fail
      refine (HSM.out _ _ _ _ (by exact Gq.out) (by exact Gx.out)).mono ?_
      rintro e w4 ⟨rfl, hb⟩
      clear kq0 kq1 kq2 kx0 kx1 kx2
      have KA := Lib.hid (KA.out.to hb)
      have KB := Lib.hid (KB.out.to hb)
      have KQ := Lib.hid (KQ.out.to hb)
      have KR := Lib.hid (KR.out.to hb)
      have KX := Lib.hid (KX.out.to hb)
      have KY := Lib.hid (KY.out.to hb)
      have GA := Lib.hid (GA.out.to hb)
      have GB := Lib.hid (GB.out.to hb)
      have Gq := Lib.hid (Gq.out.to hb)
      have Gr := Lib.hid (Gr.out.to hb)
      have Gx := Lib.hid (Gx.out.to hb)
      have Gy := Lib.hid (Gy.out.to hb)
      have HBE : Hid (Below w.heap.size w w4) := HBE.out.trans ((hb).mono HBE.out.size)
      clear hb
      have kr0 := KR.out.cell 0
      have kr1 := KR.out.cell 1
      have kr2 := KR.out.cell 2
      simp only [List.getElem?_toArray, List.getElem?_cons_zero, List.getElem?_cons_succ] at kr0 kr1 kr2
      go_wp2_with fail
      refine (HSM.out _ _ _ _ (by exact Gr.out) (by rw [HZ1.out]; exact HZR.out _)).mono ?_
      rintro e w5 ⟨rfl, hb⟩
      clear kr0 kr1 kr2
      have KA := Lib.hid (KA.out.to hb)
      have KB := Lib.hid (KB.out.to hb)
      have KQ := Lib.hid (KQ.out.to hb)
      have KR := Lib.hid (KR.out.to hb)
      have KX := Lib.hid (KX.out.to hb)
      have KY := Lib.hid (KY.out.to hb)
      have GA := Lib.hid (GA.out.to hb)
      have GB := Lib.hid (GB.out.to hb)
      have Gq := Lib.hid (Gq.out.to hb)
      have Gr := Lib.hid (Gr.out.to hb)
      have Gx := Lib.hid (Gx.out.to hb)
      have Gy := Lib.hid (Gy.out.to hb)
      have HBE : Hid (Below w.heap.size w w5) := HBE.out.trans ((hb).mono HBE.out.size)
      clear hb
      go_wp2_with fail
      refine (counted_any _).mono ?_
      rintro e wz ⟨rfl, hb⟩
      go_wp2_with fail
      go_ret
      exact ⟨rfl, HBE.out.trans (hb.mono HBE.out.size)⟩
  · have HYR : Hid (y = r) := hy
    have hlaw := hlaw rfl
    generalize hm : mulS q a1 = m at *
    obtain ⟨m, mz⟩ := m
    dsimp only at HAD hlaw
    clear hm hy
    by_cases hmz : mz = 0
    rotate_left
    · have b0 : (mz != 0) = true := by rw [bne_iff_ne]; exact hmz
      generalize hs : addS m r = s at *
      obtain ⟨s, sz⟩ := s
      clear hlaw hs hmz
      cases b2 with
      | true =>
        obtain ⟨rfl, rfl⟩ := hkq
        simp only [if_true] at HQ HR
        go_enter Tryz.func3, Tryz.ntmps3
        go_wp2_with fail
        refine (HF.out _ _ _ (by exact GA.out) (by exact GB.out)).mono ?_
        rintro e w1 ⟨v, u, rfl, hg, hg2, hb⟩
        have KA := Lib.hid (KA.out.to hb)
        have KB := Lib.hid (KB.out.to hb)
        have GA := Lib.hid (GA.out.to hb)
        have GB := Lib.hid (GB.out.to hb)
        have HBE : Hid (Below w.heap.size w w1) := HBE.out.trans ((hb).mono HBE.out.size)
        clear hb
        obtain ⟨Aq, nq, cq, Bq, mq, dq, rfl, hq1, hq2⟩ := hg.form
        have Gq := Lib.hid hg
        clear hq1 hq2 hg
        obtain ⟨Ar, nr, cr, Br, mr, dr, rfl, hq1, hq2⟩ := hg2.form
        have Gr := Lib.hid hg2
        clear hq1 hq2 hg2
        have ka0 := KA.out.cell 0
        have ka1 := KA.out.cell 1
        have ka2 := KA.out.cell 2
        have kb0 := KB.out.cell 0
        have kb1 := KB.out.cell 1
        have kb2 := KB.out.cell 2
        simp only [List.getElem?_toArray, List.getElem?_cons_zero, List.getElem?_cons_succ] at ka0 ka1 ka2 kb0 kb1 kb2
        have ltKAKQ := KA.out.lt
        have ltKBKQ := KB.out.lt
        have KQN := Lib.hid (Blk.new w1 24 #[.bool q.neg, .slice Aq nq cq, .slice Bq mq dq])
        have KA := Lib.hid (KA.out.to (below_one w1 (.cells #[.bool q.neg, .slice Aq nq cq, .slice Bq mq dq] 24)))
        have KB := Lib.hid (KB.out.to (below_one w1 (.cells #[.bool q.neg, .slice Aq nq cq, .slice Bq mq dq] 24)))
        have GA := Lib.hid (GA.out.to (below_one w1 (.cells #[.bool q.neg, .slice Aq nq cq, .slice Bq mq dq] 24)))
        have GB := Lib.hid (GB.out.to (below_one w1 (.cells #[.bool q.neg, .slice Aq nq cq, .slice Bq mq dq] 24)))
        have Gq := Lib.hid (Gq.out.to (below_one w1 (.cells #[.bool q.neg, .slice Aq nq cq, .slice Bq mq dq] 24)))
        have Gr := Lib.hid (Gr.out.to (below_one w1 (.cells #[.bool q.neg, .slice Aq nq cq, .slice Bq mq dq] 24)))
        have HBE : Hid (Below w.heap.size w (w1.alloc (.cells #[.bool q.neg, .slice Aq nq cq, .slice Bq mq dq] 24))) := HBE.out.trans (((below_one w1 (.cells #[.bool q.neg, .slice Aq nq cq, .slice Bq mq dq] 24))).mono HBE.out.size)
        have KQ := KQN
        clear KQN
        have neKAKQ : (w.heap.size = w1.heap.size) = False := eq_false (by omega)
        have neKQKA : (w1.heap.size = w.heap.size) = False := eq_false (by omega)
        have neKBKQ : (w.heap.size + 1 = w1.heap.size) = False := eq_false (by omega)
        have neKQKB : (w1.heap.size = w.heap.size + 1) = False := eq_false (by omega)
        have ltKAKR := KA.out.lt
        have ltKBKR := KB.out.lt
        have ltKQKR := KQ.out.lt
        have KRN := Lib.hid (Blk.new (w1.alloc (.cells #[.bool q.neg, .slice Aq nq cq, .slice Bq mq dq] 24)) 24 #[.bool r.neg, .slice Ar nr cr, .slice Br mr dr])
        have KA := Lib.hid (KA.out.to (below_one (w1.alloc (.cells #[.bool q.neg, .slice Aq nq cq, .slice Bq mq dq] 24)) (.cells #[.bool r.neg, .slice Ar nr cr, .slice Br mr dr] 24)))
        have KB := Lib.hid (KB.out.to (below_one (w1.alloc (.cells #[.bool q.neg, .slice Aq nq cq, .slice Bq mq dq] 24)) (.cells #[.bool r.neg, .slice Ar nr cr, .slice Br mr dr] 24)))
        have KQ := Lib.hid (KQ.out.to (below_one (w1.alloc (.cells #[.bool q.neg, .slice Aq nq cq, .slice Bq mq dq] 24)) (.cells #[.bool r.neg, .slice Ar nr cr, .slice Br mr dr] 24)))
        have GA := Lib.hid (GA.out.to (below_one (w1.alloc (.cells #[.bool q.neg, .slice Aq nq cq, .slice Bq mq dq] 24)) (.cells #[.bool r.neg, .slice Ar nr cr, .slice Br mr dr] 24)))
        have GB := Lib.hid (GB.out.to (below_one (w1.alloc (.cells #[.bool q.neg, .slice Aq nq cq, .slice Bq mq dq] 24)) (.cells #[.bool r.neg, .slice Ar nr cr, .slice Br mr dr] 24)))
        have Gq := Lib.hid (Gq.out.to (below_one (w1.alloc (.cells #[.bool q.neg, .slice Aq nq cq, .slice Bq mq dq] 24)) (.cells #[.bool r.neg, .slice Ar nr cr, .slice Br mr dr] 24)))
        have Gr := Lib.hid (Gr.out.to (below_one (w1.alloc (.cells #[.bool q.neg, .slice Aq nq cq, .slice Bq mq dq] 24)) (.cells #[.bool r.neg, .slice Ar nr cr, .slice Br mr dr] 24)))
        have HBE : Hid (Below w.heap.size w ((w1.alloc (.cells #[.bool q.neg, .slice Aq nq cq, .slice Bq mq dq] 24)).alloc (.cells #[.bool r.neg, .slice Ar nr cr, .slice Br mr dr] 24))) := HBE.out.trans (((below_one (w1.alloc (.cells #[.bool q.neg, .slice Aq nq cq, .slice Bq mq dq] 24)) (.cells #[.bool r.neg, .slice Ar nr cr, .slice Br mr dr] 24))).mono HBE.out.size)
        have KR : Hid (Blk ((w1.alloc (.cells #[.bool q.neg, .slice Aq nq cq, .slice Bq mq dq] 24)).alloc (.cells #[.bool r.neg, .slice Ar nr cr, .slice Br mr dr] 24)) (w1.heap.size + 1) 24 #[.bool r.neg, .slice Ar nr cr, .slice Br mr dr]) := by have h := KRN.out; rw [show (w1.alloc (.cells #[.bool q.neg, .slice Aq nq cq, .slice Bq mq dq] 24)).heap.size = w1.heap.size + 1 by simp] at h; exact h
        clear KRN
        have neKAKR : (w.heap.size = w1.heap.size + 1) = False := eq_false (by omega)
        have neKRKA : (w1.heap.size + 1 = w.heap.size) = False := eq_false (by omega)
        have neKBKR : (w.heap.size + 1 = w1.heap.size + 1) = False := eq_false (by omega)
        have neKRKB : (w1.heap.size + 1 = w.heap.size + 1) = False := eq_false (by omega)
        have neKQKR : (w1.heap.size = w1.heap.size + 1) = False := eq_false (by omega)
        have neKRKQ : (w1.heap.size + 1 = w1.heap.size) = False := eq_false (by omega)
        go_wp2_with fail
        refine (HQ.out _ _ _ (by exact GA.out) (by exact GB.out)).mono ?_
        rintro e w2 ⟨v, rfl, hg, hb⟩
        clear ka0 ka1 ka2 kb0 kb1 kb2
        have KA := Lib.hid (KA.out.to hb)
        have KB := Lib.hid (KB.out.to hb)
        have KQ := Lib.hid (KQ.out.to hb)
        have KR := Lib.hid (KR.out.to hb)
        have GA := Lib.hid (GA.out.to hb)
        have GB := Lib.hid (GB.out.to hb)
        have Gq := Lib.hid (Gq.out.to hb)
        have Gr := Lib.hid (Gr.out.to hb)
        have HBE : Hid (Below w.heap.size w w2) := HBE.out.trans ((hb).mono HBE.out.size)
        clear hb
        obtain ⟨Ax, nx, cx, Bx, mx, dx, rfl, hq1, hq2⟩ := hg.form
        have Gx := Lib.hid hg
        clear hq1 hq2 hg
        have ka0 := KA.out.cell 0
        have ka1 := KA.out.cell 1
        have ka2 := KA.out.cell 2
        have kb0 := KB.out.cell 0
        have kb1 := KB.out.cell 1
        have kb2 := KB.out.cell 2
        simp only [List.getElem?_toArray, List.getElem?_cons_zero, List.getElem?_cons_succ] at ka0 ka1 ka2 kb0 kb1 kb2
        have ltKAKX := KA.out.lt
        have ltKBKX := KB.out.lt
        have ltKQKX := KQ.out.lt
        have ltKRKX := KR.out.lt
        have KXN := Lib.hid (Blk.new w2 24 #[.bool q.neg, .slice Ax nx cx, .slice Bx mx dx])
        have KA := Lib.hid (KA.out.to (below_one w2 (.cells #[.bool q.neg, .slice Ax nx cx, .slice Bx mx dx] 24)))
        have KB := Lib.hid (KB.out.to (below_one w2 (.cells #[.bool q.neg, .slice Ax nx cx, .slice Bx mx dx] 24)))
        have KQ := Lib.hid (KQ.out.to (below_one w2 (.cells #[.bool q.neg, .slice Ax nx cx, .slice Bx mx dx] 24)))
        have KR := Lib.hid (KR.out.to (below_one w2 (.cells #[.bool q.neg, .slice Ax nx cx, .slice Bx mx dx] 24)))
        have GA := Lib.hid (GA.out.to (below_one w2 (.cells #[.bool q.neg, .slice Ax nx cx, .slice Bx mx dx] 24)))
        have GB := Lib.hid (GB.out.to (below_one w2 (.cells #[.bool q.neg, .slice Ax nx cx, .slice Bx mx dx] 24)))
        have Gq := Lib.hid (Gq.out.to (below_one w2 (.cells #[.bool q.neg, .slice Ax nx cx, .slice Bx mx dx] 24)))
        have Gr := Lib.hid (Gr.out.to (below_one w2 (.cells #[.bool q.neg, .slice Ax nx cx, .slice Bx mx dx] 24)))
        have Gx := Lib.hid (Gx.out.to (below_one w2 (.cells #[.bool q.neg, .slice Ax nx cx, .slice Bx mx dx] 24)))
        have HBE : Hid (Below w.heap.size w (w2.alloc (.cells #[.bool q.neg, .slice Ax nx cx, .slice Bx mx dx] 24))) := HBE.out.trans (((below_one w2 (.cells #[.bool q.neg, .slice Ax nx cx, .slice Bx mx dx] 24))).mono HBE.out.size)
        have KX := KXN
        clear KXN
        have neKAKX : (w.heap.size = w2.heap.size) = False := eq_false (by omega)
        have neKXKA : (w2.heap.size = w.heap.size) = False := eq_false (by omega)
        have neKBKX : (w.heap.size + 1 = w2.heap.size) = False := eq_false (by omega)
        have neKXKB : (w2.heap.size = w.heap.size + 1) = False := eq_false (by omega)
        have neKQKX : (w1.heap.size = w2.heap.size) = False := eq_false (by omega)
        have neKXKQ : (w2.heap.size = w1.heap.size) = False := eq_false (by omega)
        have neKRKX : (w1.heap.size + 1 = w2.heap.size) = False := eq_false (by omega)
        have neKXKR : (w2.heap.size = w1.heap.size + 1) = False := eq_false (by omega)
        go_wp2_with fail
        refine (HR.out _ _ _ (by exact GA.out) (by exact GB.out)).mono ?_
        rintro e w3 ⟨v, rfl, hg, hb⟩
        clear ka0 ka1 ka2 kb0 kb1 kb2
        have KA := Lib.hid (KA.out.to hb)
        have KB := Lib.hid (KB.out.to hb)
        have KQ := Lib.hid (KQ.out.to hb)
        have KR := Lib.hid (KR.out.to hb)
        have KX := Lib.hid (KX.out.to hb)
        have GA := Lib.hid (GA.out.to hb)
        have GB := Lib.hid (GB.out.to hb)
        have Gq := Lib.hid (Gq.out.to hb)
        have Gr := Lib.hid (Gr.out.to hb)
        have Gx := Lib.hid (Gx.out.to hb)
        have HBE : Hid (Below w.heap.size w w3) := HBE.out.trans ((hb).mono HBE.out.size)
        clear hb
        obtain ⟨Ay, ny, cy, By, my, dy, rfl, hq1, hq2⟩ := hg.form
        have Gy := Lib.hid hg
        clear hq1 hq2 hg
        have kq0 := KQ.out.cell 0
        have kq1 := KQ.out.cell 1
        have kq2 := KQ.out.cell 2
        have kx0 := KX.out.cell 0
        have kx1 := KX.out.cell 1
        have kx2 := KX.out.cell 2
        simp only [List.getElem?_toArray, List.getElem?_cons_zero, List.getElem?_cons_succ] at kq0 kq1 kq2 kx0 kx1 kx2
        have ltKAKY := KA.out.lt
        have ltKBKY := KB.out.lt
        have ltKQKY := KQ.out.lt
        have ltKRKY := KR.out.lt
        have ltKXKY := KX.out.lt
        have KYN := Lib.hid (Blk.new w3 24 #[.bool y.neg, .slice Ay ny cy, .slice By my dy])
        have KA := Lib.hid (KA.out.to (below_one w3 (.cells #[.bool y.neg, .slice Ay ny cy, .slice By my dy] 24)))
        have KB := Lib.hid (KB.out.to (below_one w3 (.cells #[.bool y.neg, .slice Ay ny cy, .slice By my dy] 24)))
        have KQ := Lib.hid (KQ.out.to (below_one w3 (.cells #[.bool y.neg, .slice Ay ny cy, .slice By my dy] 24)))
        have KR := Lib.hid (KR.out.to (below_one w3 (.cells #[.bool y.neg, .slice Ay ny cy, .slice By my dy] 24)))
        have KX := Lib.hid (KX.out.to (below_one w3 (.cells #[.bool y.neg, .slice Ay ny cy, .slice By my dy] 24)))
        have GA := Lib.hid (GA.out.to (below_one w3 (.cells #[.bool y.neg, .slice Ay ny cy, .slice By my dy] 24)))
        have GB := Lib.hid (GB.out.to (below_one w3 (.cells #[.bool y.neg, .slice Ay ny cy, .slice By my dy] 24)))
        have Gq := Lib.hid (Gq.out.to (below_one w3 (.cells #[.bool y.neg, .slice Ay ny cy, .slice By my dy] 24)))
        have Gr := Lib.hid (Gr.out.to (below_one w3 (.cells #[.bool y.neg, .slice Ay ny cy, .slice By my dy] 24)))
        have Gx := Lib.hid (Gx.out.to (below_one w3 (.cells #[.bool y.neg, .slice Ay ny cy, .slice By my dy] 24)))
        have Gy := Lib.hid (Gy.out.to (below_one w3 (.cells #[.bool y.neg, .slice Ay ny cy, .slice By my dy] 24)))
        have HBE : Hid (Below w.heap.size w (w3.alloc (.cells #[.bool y.neg, .slice Ay ny cy, .slice By my dy] 24))) := HBE.out.trans (((below_one w3 (.cells #[.bool y.neg, .slice Ay ny cy, .slice By my dy] 24))).mono HBE.out.size)
        have KY := KYN
        clear KYN
        have neKAKY : (w.heap.size = w3.heap.size) = False := eq_false (by omega)
        have neKYKA : (w3.heap.size = w.heap.size) = False := eq_false (by omega)
        have neKBKY : (w.heap.size + 1 = w3.heap.size) = False := eq_false (by omega)
        have neKYKB : (w3.heap.size = w.heap.size + 1) = False := eq_false (by omega)
        have neKQKY : (w1.heap.size = w3.heap.size) = False := eq_false (by omega)
        have neKYKQ : (w3.heap.size = w1.heap.size) = False := eq_false (by omega)
        have neKRKY : (w1.heap.size + 1 = w3.heap.size) = False := eq_false (by omega)
        have neKYKR : (w3.heap.size = w1.heap.size + 1) = False := eq_false (by omega)
        have neKXKY : (w2.heap.size = w3.heap.size) = False := eq_false (by omega)
        have neKYKX : (w3.heap.size = w2.heap.size) = False := eq_false (by omega)
        go_wp2_with fail
        refine (HSM.out _ _ _ _ (by exact Gq.out) (by exact Gx.out)).mono ?_
        rintro e w4 ⟨rfl, hb⟩
        clear kq0 kq1 kq2 kx0 kx1 kx2
        have KA := Lib.hid (KA.out.to hb)
        have KB := Lib.hid (KB.out.to hb)
        have KQ := Lib.hid (KQ.out.to hb)
        have KR := Lib.hid (KR.out.to hb)
        have KX := Lib.hid (KX.out.to hb)
        have KY := Lib.hid (KY.out.to hb)
        have GA := Lib.hid (GA.out.to hb)
        have GB := Lib.hid (GB.out.to hb)
        have Gq := Lib.hid (Gq.out.to hb)
        have Gr := Lib.hid (Gr.out.to hb)
        have Gx := Lib.hid (Gx.out.to hb)
        have Gy := Lib.hid (Gy.out.to hb)
        have HBE : Hid (Below w.heap.size w w4) := HBE.out.trans ((hb).mono HBE.out.size)
        clear hb
        have kr0 := KR.out.cell 0
        have kr1 := KR.out.cell 1
        have kr2 := KR.out.cell 2
        have ky0 := KY.out.cell 0
        have ky1 := KY.out.cell 1
        have ky2 := KY.out.cell 2
        simp only [List.getElem?_toArray, List.getElem?_cons_zero, List.getElem?_cons_succ] at kr0 kr1 kr2 ky0 ky1 ky2
        go_wp2_with fail
        refine (HSM.out _ _ _ r (by exact Gr.out) (by rw [← HYR.out]; exact Gy.out)).mono ?_
        rintro e w5 ⟨rfl, hb⟩
        clear kr0 kr1 kr2 ky0 ky1 ky2
        have KA := Lib.hid (KA.out.to hb)
        have KB := Lib.hid (KB.out.to hb)
        have KQ := Lib.hid (KQ.out.to hb)
        have KR := Lib.hid (KR.out.to hb)
        have KX := Lib.hid (KX.out.to hb)
        have KY := Lib.hid (KY.out.to hb)
        have GA := Lib.hid (GA.out.to hb)
        have GB := Lib.hid (GB.out.to hb)
        have Gq := Lib.hid (Gq.out.to hb)
        have Gr := Lib.hid (Gr.out.to hb)
        have Gx := Lib.hid (Gx.out.to hb)
        have Gy := Lib.hid (Gy.out.to hb)
        have HBE : Hid (Below w.heap.size w w5) := HBE.out.trans ((hb).mono HBE.out.size)
        clear hb
        have kq0 := KQ.out.cell 0
        have kq1 := KQ.out.cell 1
        have kq2 := KQ.out.cell 2
        have kb0 := KB.out.cell 0
        have kb1 := KB.out.cell 1
        have kb2 := KB.out.cell 2
        simp only [List.getElem?_toArray, List.getElem?_cons_zero, List.getElem?_cons_succ] at kq0 kq1 kq2 kb0 kb1 kb2
        go_wp2_with fail
        refine (HMU.out _ _ _ (by exact Gq.out) (by exact GB.out)).mono ?_
        rintro e w6 ⟨v, rfl, hg, hb⟩
        clear kq0 kq1 kq2 kb0 kb1 kb2
        have KA := Lib.hid (KA.out.to hb)
        have KB := Lib.hid (KB.out.to hb)
        have KQ := Lib.hid (KQ.out.to hb)
        have KR := Lib.hid (KR.out.to hb)
        have KX := Lib.hid (KX.out.to hb)
        have KY := Lib.hid (KY.out.to hb)
        have GA := Lib.hid (GA.out.to hb)
        have GB := Lib.hid (GB.out.to hb)
        have Gq := Lib.hid (Gq.out.to hb)
        have Gr := Lib.hid (Gr.out.to hb)
        have Gx := Lib.hid (Gx.out.to hb)
        have Gy := Lib.hid (Gy.out.to hb)
        have HBE : Hid (Below w.heap.size w w6) := HBE.out.trans ((hb).mono HBE.out.size)
        clear hb
        obtain ⟨Am, nm, cm, Bm, mm, dm, rfl, hq1, hq2⟩ := hg.form
        have Gm := Lib.hid hg
        clear hq1 hq2 hg
        have kr0 := KR.out.cell 0
        have kr1 := KR.out.cell 1
        have kr2 := KR.out.cell 2
        simp only [List.getElem?_toArray, List.getElem?_cons_zero, List.getElem?_cons_succ] at kr0 kr1 kr2
        have ltKAKM := KA.out.lt
        have ltKBKM := KB.out.lt
        have ltKQKM := KQ.out.lt
        have ltKRKM := KR.out.lt
        have ltKXKM := KX.out.lt
        have ltKYKM := KY.out.lt
        have KMN := Lib.hid (Blk.new w6 24 #[.bool m.neg, .slice Am nm cm, .slice Bm mm dm])
        have KA := Lib.hid (KA.out.to (below_one w6 (.cells #[.bool m.neg, .slice Am nm cm, .slice Bm mm dm] 24)))
        have KB := Lib.hid (KB.out.to (below_one w6 (.cells #[.bool m.neg, .slice Am nm cm, .slice Bm mm dm] 24)))
        have KQ := Lib.hid (KQ.out.to (below_one w6 (.cells #[.bool m.neg, .slice Am nm cm, .slice Bm mm dm] 24)))
        have KR := Lib.hid (KR.out.to (below_one w6 (.cells #[.bool m.neg, .slice Am nm cm, .slice Bm mm dm] 24)))
        have KX := Lib.hid (KX.out.to (below_one w6 (.cells #[.bool m.neg, .slice Am nm cm, .slice Bm mm dm] 24)))
        have KY := Lib.hid (KY.out.to (below_one w6 (.cells #[.bool m.neg, .slice Am nm cm, .slice Bm mm dm] 24)))
        have GA := Lib.hid (GA.out.to (below_one w6 (.cells #[.bool m.neg, .slice Am nm cm, .slice Bm mm dm] 24)))
        have GB := Lib.hid (GB.out.to (below_one w6 (.cells #[.bool m.neg, .slice Am nm cm, .slice Bm mm dm] 24)))
        have Gq := Lib.hid (Gq.out.to (below_one w6 (.cells #[.bool m.neg, .slice Am nm cm, .slice Bm mm dm] 24)))
        have Gr := Lib.hid (Gr.out.to (below_one w6 (.cells #[.bool m.neg, .slice Am nm cm, .slice Bm mm dm] 24)))
        have Gx := Lib.hid (Gx.out.to (below_one w6 (.cells #[.bool m.neg, .slice Am nm cm, .slice Bm mm dm] 24)))
        have Gy := Lib.hid (Gy.out.to (below_one w6 (.cells #[.bool m.neg, .slice Am nm cm, .slice Bm mm dm] 24)))
        have Gm := Lib.hid (Gm.out.to (below_one w6 (.cells #[.bool m.neg, .slice Am nm cm, .slice Bm mm dm] 24)))
        have HBE : Hid (Below w.heap.size w (w6.alloc (.cells #[.bool m.neg, .slice Am nm cm, .slice Bm mm dm] 24))) := HBE.out.trans (((below_one w6 (.cells #[.bool m.neg, .slice Am nm cm, .slice Bm mm dm] 24))).mono HBE.out.size)
        have KM := KMN
        clear KMN
        have neKAKM : (w.heap.size = w6.heap.size) = False := eq_false (by omega)
        have neKMKA : (w6.heap.size = w.heap.size) = False := eq_false (by omega)
        have neKBKM : (w.heap.size + 1 = w6.heap.size) = False := eq_false (by omega)
        have neKMKB : (w6.heap.size = w.heap.size + 1) = False := eq_false (by omega)
        have neKQKM : (w1.heap.size = w6.heap.size) = False := eq_false (by omega)
        have neKMKQ : (w6.heap.size = w1.heap.size) = False := eq_false (by omega)
        have neKRKM : (w1.heap.size + 1 = w6.heap.size) = False := eq_false (by omega)
        have neKMKR : (w6.heap.size = w1.heap.size + 1) = False := eq_false (by omega)
        have neKXKM : (w2.heap.size = w6.heap.size) = False := eq_false (by omega)
        have neKMKX : (w6.heap.size = w2.heap.size) = False := eq_false (by omega)
        have neKYKM : (w3.heap.size = w6.heap.size) = False := eq_false (by omega)
        have neKMKY : (w6.heap.size = w3.heap.size) = False := eq_false (by omega)
        go_wp2_with fail
        refine (HAD.out _ _ _ (by exact Gm.out) (by exact Gr.out)).mono ?_
        rintro e w7 ⟨v, rfl, hg, hb⟩
        clear kr0 kr1 kr2
        have KA := Lib.hid (KA.out.to hb)
        have KB := Lib.hid (KB.out.to hb)
        have KQ := Lib.hid (KQ.out.to hb)
        have KR := Lib.hid (KR.out.to hb)
        have KX := Lib.hid (KX.out.to hb)
        have KY := Lib.hid (KY.out.to hb)
        have KM := Lib.hid (KM.out.to hb)
        have GA := Lib.hid (GA.out.to hb)
        have GB := Lib.hid (GB.out.to hb)
        have Gq := Lib.hid (Gq.out.to hb)
        have Gr := Lib.hid (Gr.out.to hb)
        have Gx := Lib.hid (Gx.out.to hb)
        have Gy := Lib.hid (Gy.out.to hb)
        have Gm := Lib.hid (Gm.out.to hb)
        have HBE : Hid (Below w.heap.size w w7) := HBE.out.trans ((hb).mono HBE.out.size)
        clear hb
        obtain ⟨As, ns, cs, Bs, ms, ds, rfl, hq1, hq2⟩ := hg.form
        have Gs := Lib.hid hg
        clear hq1 hq2 hg
        have ltKAKS := KA.out.lt
        have ltKBKS := KB.out.lt
        have ltKQKS := KQ.out.lt
        have ltKRKS := KR.out.lt
        have ltKXKS := KX.out.lt
        have ltKYKS := KY.out.lt
        have ltKMKS := KM.out.lt
        have KSN := Lib.hid (Blk.new w7 24 #[.bool s.neg, .slice As ns cs, .slice Bs ms ds])
        have KA := Lib.hid (KA.out.to (below_one w7 (.cells #[.bool s.neg, .slice As ns cs, .slice Bs ms ds] 24)))
        have KB := Lib.hid (KB.out.to (below_one w7 (.cells #[.bool s.neg, .slice As ns cs, .slice Bs ms ds] 24)))
        have KQ := Lib.hid (KQ.out.to (below_one w7 (.cells #[.bool s.neg, .slice As ns cs, .slice Bs ms ds] 24)))
        have KR := Lib.hid (KR.out.to (below_one w7 (.cells #[.bool s.neg, .slice As ns cs, .slice Bs ms ds] 24)))
        have KX := Lib.hid (KX.out.to (below_one w7 (.cells #[.bool s.neg, .slice As ns cs, .slice Bs ms ds] 24)))
        have KY := Lib.hid (KY.out.to (below_one w7 (.cells #[.bool s.neg, .slice As ns cs, .slice Bs ms ds] 24)))
        have KM := Lib.hid (KM.out.to (below_one w7 (.cells #[.bool s.neg, .slice As ns cs, .slice Bs ms ds] 24)))
        have GA := Lib.hid (GA.out.to (below_one w7 (.cells #[.bool s.neg, .slice As ns cs, .slice Bs ms ds] 24)))
        have GB := Lib.hid (GB.out.to (below_one w7 (.cells #[.bool s.neg, .slice As ns cs, .slice Bs ms ds] 24)))
        have Gq := Lib.hid (Gq.out.to (below_one w7 (.cells #[.bool s.neg, .slice As ns cs, .slice Bs ms ds] 24)))
        have Gr := Lib.hid (Gr.out.to (below_one w7 (.cells #[.bool s.neg, .slice As ns cs, .slice Bs ms ds] 24)))
        have Gx := Lib.hid (Gx.out.to (below_one w7 (.cells #[.bool s.neg, .slice As ns cs, .slice Bs ms ds] 24)))
        have Gy := Lib.hid (Gy.out.to (below_one w7 (.cells #[.bool s.neg, .slice As ns cs, .slice Bs ms ds] 24)))
        have Gm := Lib.hid (Gm.out.to (below_one w7 (.cells #[.bool s.neg, .slice As ns cs, .slice Bs ms ds] 24)))
        have Gs := Lib.hid (Gs.out.to (below_one w7 (.cells #[.bool s.neg, .slice As ns cs, .slice Bs ms ds] 24)))
        have HBE : Hid (Below w.heap.size w (w7.alloc (.cells #[.bool s.neg, .slice As ns cs, .slice Bs ms ds] 24))) := HBE.out.trans (((below_one w7 (.cells #[.bool s.neg, .slice As ns cs, .slice Bs ms ds] 24))).mono HBE.out.size)
        have KS := KSN
        clear KSN
        have neKAKS : (w.heap.size = w7.heap.size) = False := eq_false (by omega)
        have neKSKA : (w7.heap.size = w.heap.size) = False := eq_false (by omega)
        have neKBKS : (w.heap.size + 1 = w7.heap.size) = False := eq_false (by omega)
        have neKSKB : (w7.heap.size = w.heap.size + 1) = False := eq_false (by omega)
        have neKQKS : (w1.heap.size = w7.heap.size) = False := eq_false (by omega)
        have neKSKQ : (w7.heap.size = w1.heap.size) = False := eq_false (by omega)
        have neKRKS : (w1.heap.size + 1 = w7.heap.size) = False := eq_false (by omega)
        have neKSKR : (w7.heap.size = w1.heap.size + 1) = False := eq_false (by omega)
        have neKXKS : (w2.heap.size = w7.heap.size) = False := eq_false (by omega)
        have neKSKX : (w7.heap.size = w2.heap.size) = False := eq_false (by omega)
        have neKYKS : (w3.heap.size = w7.heap.size) = False := eq_false (by omega)
        have neKSKY : (w7.heap.size = w3.heap.size) = False := eq_false (by omega)
        have neKMKS : (w6.heap.size = w7.heap.size) = False := eq_false (by omega)
        have neKSKM : (w7.heap.size = w6.heap.size) = False := eq_false (by omega)
        go_wp2_with fail
        refine (counted_any _).mono ?_
        rintro e wz ⟨rfl, hb⟩
        go_wp2_with fail
        go_ret
        exact ⟨rfl, HBE.out.trans (hb.mono HBE.out.size)⟩
      | false =>
        obtain ⟨rfl, rfl⟩ := hkq
        simp only [Bool.false_eq_true, if_false] at HQ HR
        go_enter Tryz.func3, Tryz.ntmps3
        go_wp2_with fail
        refine (HF.out _ _ _ (by exact GA.out) (by exact GB.out)).mono ?_
        rintro e w1 ⟨v, u, rfl, hg, hg2, hb⟩
        have KA := Lib.hid (KA.out.to hb)
        have KB := Lib.hid (KB.out.to hb)
        have GA := Lib.hid (GA.out.to hb)
        have GB := Lib.hid (GB.out.to hb)
        have HBE : Hid (Below w.heap.size w w1) := HBE.out.trans ((hb).mono HBE.out.size)
        clear hb
        obtain ⟨Aq, nq, cq, Bq, mq, dq, rfl, hq1, hq2⟩ := hg.form
        have Gq := Lib.hid hg
        clear hq1 hq2 hg
        obtain ⟨Ar, nr, cr, Br, mr, dr, rfl, hq1, hq2⟩ := hg2.form
        have Gr := Lib.hid hg2
        clear hq1 hq2 hg2
        have ka0 := KA.out.cell 0
        have ka1 := KA.out.cell 1
        have ka2 := KA.out.cell 2
        have kb0 := KB.out.cell 0
        have kb1 := KB.out.cell 1
        have kb2 := KB.out.cell 2
        simp only [List.getElem?_toArray, List.getElem?_cons_zero, List.getElem?_cons_succ] at ka0 ka1 ka2 kb0 kb1 kb2
        have ltKAKQ := KA.out.lt
        have ltKBKQ := KB.out.lt
        have KQN := Lib.hid (Blk.new w1 24 #[.bool q.neg, .slice Aq nq cq, .slice Bq mq dq])
        have KA := Lib.hid (KA.out.to (below_one w1 (.cells #[.bool q.neg, .slice Aq nq cq, .slice Bq mq dq] 24)))
        have KB := Lib.hid (KB.out.to (below_one w1 (.cells #[.bool q.neg, .slice Aq nq cq, .slice Bq mq dq] 24)))
        have GA := Lib.hid (GA.out.to (below_one w1 (.cells #[.bool q.neg, .slice Aq nq cq, .slice Bq mq dq] 24)))
        have GB := Lib.hid (GB.out.to (below_one w1 (.cells #[.bool q.neg, .slice Aq nq cq, .slice Bq mq dq] 24)))
        have Gq := Lib.hid (Gq.out.to (below_one w1 (.cells #[.bool q.neg, .slice Aq nq cq, .slice Bq mq dq] 24)))
        have Gr := Lib.hid (Gr.out.to (below_one w1 (.cells #[.bool q.neg, .slice Aq nq cq, .slice Bq mq dq] 24)))
        have HBE : Hid (Below w.heap.size w (w1.alloc (.cells #[.bool q.neg, .slice Aq nq cq, .slice Bq mq dq] 24))) := HBE.out.trans (((below_one w1 (.cells #[.bool q.neg, .slice Aq nq cq, .slice Bq mq dq] 24))).mono HBE.out.size)
        have KQ := KQN
        clear KQN
        have neKAKQ : (w.heap.size = w1.heap.size) = False := eq_false (by omega)
        have neKQKA : (w1.heap.size = w.heap.size) = False := eq_false (by omega)
        have neKBKQ : (w.heap.size + 1 = w1.heap.size) = False := eq_false (by omega)
        have neKQKB : (w1.heap.size = w.heap.size + 1) = False := eq_false (by omega)
        have ltKAKR := KA.out.lt
        have ltKBKR := KB.out.lt
        have ltKQKR := KQ.out.lt
        have KRN := Lib.hid (Blk.new (w1.alloc (.cells #[.bool q.neg, .slice Aq nq cq, .slice Bq mq dq] 24)) 24 #[.bool r.neg, .slice Ar nr cr, .slice Br mr dr])
        have KA := Lib.hid (KA.out.to (below_one (w1.alloc (.cells #[.bool q.neg, .slice Aq nq cq, .slice Bq mq dq] 24)) (.cells #[.bool r.neg, .slice Ar nr cr, .slice Br mr dr] 24)))
        have KB := Lib.hid (KB.out.to (below_one (w1.alloc (.cells #[.bool q.neg, .slice Aq nq cq, .slice Bq mq dq] 24)) (.cells #[.bool r.neg, .slice Ar nr cr, .slice Br mr dr] 24)))
        have KQ := Lib.hid (KQ.out.to (below_one (w1.alloc (.cells #[.bool q.neg, .slice Aq nq cq, .slice Bq mq dq] 24)) (.cells #[.bool r.neg, .slice Ar nr cr, .slice Br mr dr] 24)))
        have GA := Lib.hid (GA.out.to (below_one (w1.alloc (.cells #[.bool q.neg, .slice Aq nq cq, .slice Bq mq dq] 24)) (.cells #[.bool r.neg, .slice Ar nr cr, .slice Br mr dr] 24)))
        have GB := Lib.hid (GB.out.to (below_one (w1.alloc (.cells #[.bool q.neg, .slice Aq nq cq, .slice Bq mq dq] 24)) (.cells #[.bool r.neg, .slice Ar nr cr, .slice Br mr dr] 24)))
        have Gq := Lib.hid (Gq.out.to (below_one (w1.alloc (.cells #[.bool q.neg, .slice Aq nq cq, .slice Bq mq dq] 24)) (.cells #[.bool r.neg, .slice Ar nr cr, .slice Br mr dr] 24)))
        have Gr := Lib.hid (Gr.out.to (below_one (w1.alloc (.cells #[.bool q.neg, .slice Aq nq cq, .slice Bq mq dq] 24)) (.cells #[.bool r.neg, .slice Ar nr cr, .slice Br mr dr] 24)))
        have HBE : Hid (Below w.heap.size w ((w1.alloc (.cells #[.bool q.neg, .slice Aq nq cq, .slice Bq mq dq] 24)).alloc (.cells #[.bool r.neg, .slice Ar nr cr, .slice Br mr dr] 24))) := HBE.out.trans (((below_one (w1.alloc (.cells #[.bool q.neg, .slice Aq nq cq, .slice Bq mq dq] 24)) (.cells #[.bool r.neg, .slice Ar nr cr, .slice Br mr dr] 24))).mono HBE.out.size)
        have KR : Hid (Blk ((w1.alloc (.cells #[.bool q.neg, .slice Aq nq cq, .slice Bq mq dq] 24)).alloc (.cells #[.bool r.neg, .slice Ar nr cr, .slice Br mr dr] 24)) (w1.heap.size + 1) 24 #[.bool r.neg, .slice Ar nr cr, .slice Br mr dr]) := by have h := KRN.out; rw [show (w1.alloc (.cells #[.bool q.neg, .slice Aq nq cq, .slice Bq mq dq] 24)).heap.size = w1.heap.size + 1 by simp] at h; exact h
        clear KRN
        have neKAKR : (w.heap.size = w1.heap.size + 1) = False := eq_false (by omega)
        have neKRKA : (w1.heap.size + 1 = w.heap.size) = False := eq_false (by omega)
        have neKBKR : (w.heap.size + 1 = w1.heap.size + 1) = False := eq_false (by omega)
        have neKRKB : (w1.heap.size + 1 = w.heap.size + 1) = False := eq_false (by omega)
        have neKQKR : (w1.heap.size = w1.heap.size + 1) = False := eq_false (by omega)
        have neKRKQ : (w1.heap.size + 1 = w1.heap.size) = False := eq_false (by omega)
        go_wp2_with fail
        refine (HQ.out _ _ _ (by exact GA.out) (by exact GB.out)).mono ?_
        rintro e w2 ⟨v, rfl, hg, hb⟩
        clear ka0 ka1 ka2 kb0 kb1 kb2
        have KA := Lib.hid (KA.out.to hb)
        have KB := Lib.hid (KB.out.to hb)
        have KQ := Lib.hid (KQ.out.to hb)
        have KR := Lib.hid (KR.out.to hb)
        have GA := Lib.hid (GA.out.to hb)
        have GB := Lib.hid (GB.out.to hb)
        have Gq := Lib.hid (Gq.out.to hb)
        have Gr := Lib.hid (Gr.out.to hb)
        have HBE : Hid (Below w.heap.size w w2) := HBE.out.trans ((hb).mono HBE.out.size)
        clear hb
        obtain ⟨Ax, nx, cx, Bx, mx, dx, rfl, hq1, hq2⟩ := hg.form
        have Gx := Lib.hid hg
        clear hq1 hq2 hg
        have ka0 := KA.out.cell 0
        have ka1 := KA.out.cell 1
        have ka2 := KA.out.cell 2
        have kb0 := KB.out.cell 0
        have kb1 := KB.out.cell 1
        have kb2 := KB.out.cell 2
        simp only [List.getElem?_toArray, List.getElem?_cons_zero, List.getElem?_cons_succ] at ka0 ka1 ka2 kb0 kb1 kb2
        have ltKAKX := KA.out.lt
        have ltKBKX := KB.out.lt
        have ltKQKX := KQ.out.lt
        have ltKRKX := KR.out.lt
        have KXN := Lib.hid (Blk.new w2 24 #[.bool q.neg, .slice Ax nx cx, .slice Bx mx dx])
        have KA := Lib.hid (KA.out.to (below_one w2 (.cells #[.bool q.neg, .slice Ax nx cx, .slice Bx mx dx] 24)))
        have KB := Lib.hid (KB.out.to (below_one w2 (.cells #[.bool q.neg, .slice Ax nx cx, .slice Bx mx dx] 24)))
        have KQ := Lib.hid (KQ.out.to (below_one w2 (.cells #[.bool q.neg, .slice Ax nx cx, .slice Bx mx dx] 24)))
        have KR := Lib.hid (KR.out.to (below_one w2 (.cells #[.bool q.neg, .slice Ax nx cx, .slice Bx mx dx] 24)))
        have GA := Lib.hid (GA.out.to (below_one w2 (.cells #[.bool q.neg, .slice Ax nx cx, .slice Bx mx dx] 24)))
        have GB := Lib.hid (GB.out.to (below_one w2 (.cells #[.bool q.neg, .slice Ax nx cx, .slice Bx mx dx] 24)))
        have Gq := Lib.hid (Gq.out.to (below_one w2 (.cells #[.bool q.neg, .slice Ax nx cx, .slice Bx mx dx] 24)))
        have Gr := Lib.hid (Gr.out.to (below_one w2 (.cells #[.bool q.neg, .slice Ax nx cx, .slice Bx mx dx] 24)))
        have Gx := Lib.hid (Gx.out.to (below_one w2 (.cells #[.bool q.neg, .slice Ax nx cx, .slice Bx mx dx] 24)))
        have HBE : Hid (Below w.heap.size w (w2.alloc (.cells #[.bool q.neg, .slice Ax nx cx, .slice Bx mx dx] 24))) := HBE.out.trans (((below_one w2 (.cells #[.bool q.neg, .slice Ax nx cx, .slice Bx mx dx] 24))).mono HBE.out.size)
        have KX := KXN
        clear KXN
        have neKAKX : (w.heap.size = w2.heap.size) = False := eq_false (by omega)
        have neKXKA : (w2.heap.size = w.heap.size) = False := eq_false (by omega)
        have neKBKX : (w.heap.size + 1 = w2.heap.size) = False := eq_false (by omega)
        have neKXKB : (w2.heap.size = w.heap.size + 1) = False := eq_false (by omega)
        have neKQKX : (w1.heap.size = w2.heap.size) = False := eq_false (by omega)
        have neKXKQ : (w2.heap.size = w1.heap.size) = False := eq_false (by omega)
        have neKRKX : (w1.heap.size + 1 = w2.heap.size) = False := eq_false (by omega)
        have neKXKR : (w2.heap.size = w1.heap.size + 1) = False := eq_false (by omega)
        go_wp2_with fail
        refine (HR.out _ _ _ (by exact GA.out) (by exact GB.out)).mono ?_
        rintro e w3 ⟨v, rfl, hg, hb⟩
        clear ka0 ka1 ka2 kb0 kb1 kb2
        have KA := Lib.hid (KA.out.to hb)
        have KB := Lib.hid (KB.out.to hb)
        have KQ := Lib.hid (KQ.out.to hb)
        have KR := Lib.hid (KR.out.to hb)
        have KX := Lib.hid (KX.out.to hb)
        have GA := Lib.hid (GA.out.to hb)
        have GB := Lib.hid (GB.out.to hb)
        have Gq := Lib.hid (Gq.out.to hb)
        have Gr := Lib.hid (Gr.out.to hb)
        have Gx := Lib.hid (Gx.out.to hb)
        have HBE : Hid (Below w.heap.size w w3) := HBE.out.trans ((hb).mono HBE.out.size)
        clear hb
        obtain ⟨Ay, ny, cy, By, my, dy, rfl, hq1, hq2⟩ := hg.form
        have Gy := Lib.hid hg
        clear hq1 hq2 hg
        have kq0 := KQ.out.cell 0
        have kq1 := KQ.out.cell 1
        have kq2 := KQ.out.cell 2
        have kx0 := KX.out.cell 0
        have kx1 := KX.out.cell 1
        have kx2 := KX.out.cell 2
        simp only [List.getElem?_toArray, List.getElem?_cons_zero, List.getElem?_cons_succ] at kq0 kq1 kq2 kx0 kx1 kx2
        have ltKAKY := KA.out.lt
        have ltKBKY := KB.out.lt
        have ltKQKY := KQ.out.lt
        have ltKRKY := KR.out.lt
        have ltKXKY := KX.out.lt
        have KYN := Lib.hid (Blk.new w3 24 #[.bool y.neg, .slice Ay ny cy, .slice By my dy])
        have KA := Lib.hid (KA.out.to (below_one w3 (.cells #[.bool y.neg, .slice Ay ny cy, .slice By my dy] 24)))
        have KB := Lib.hid (KB.out.to (below_one w3 (.cells #[.bool y.neg, .slice Ay ny cy, .slice By my dy] 24)))
        have KQ := Lib.hid (KQ.out.to (below_one w3 (.cells #[.bool y.neg, .slice Ay ny cy, .slice By my dy] 24)))
        have KR := Lib.hid (KR.out.to (below_one w3 (.cells #[.bool y.neg, .slice Ay ny cy, .slice By my dy] 24)))
        have KX := Lib.hid (KX.out.to (below_one w3 (.cells #[.bool y.neg, .slice Ay ny cy, .slice By my dy] 24)))
        have GA := Lib.hid (GA.out.to (below_one w3 (.cells #[.bool y.neg, .slice Ay ny cy, .slice By my dy] 24)))
        have GB := Lib.hid (GB.out.to (below_one w3 (.cells #[.bool y.neg, .slice Ay ny cy, .slice By my dy] 24)))
        have Gq := Lib.hid (Gq.out.to (below_one w3 (.cells #[.bool y.neg, .slice Ay ny cy, .slice By my dy] 24)))
        have Gr := Lib.hid (Gr.out.to (below_one w3 (.cells #[.bool y.neg, .slice Ay ny cy, .slice By my dy] 24)))
        have Gx := Lib.hid (Gx.out.to (below_one w3 (.cells #[.bool y.neg, .slice Ay ny cy, .slice By my dy] 24)))
        have Gy := Lib.hid (Gy.out.to (below_one w3 (.cells #[.bool y.neg, .slice Ay ny cy, .slice By my dy] 24)))
        have HBE : Hid (Below w.heap.size w (w3.alloc (.cells #[.bool y.neg, .slice Ay ny cy, .slice By my dy] 24))) := HBE.out.trans (((below_one w3 (.cells #[.bool y.neg, .slice Ay ny cy, .slice By my dy] 24))).mono HBE.out.size)
        have KY := KYN
        clear KYN
        have neKAKY : (w.heap.size = w3.heap.size) = False := eq_false (by omega)
        have neKYKA : (w3.heap.size = w.heap.size) = False := eq_false (by omega)
        have neKBKY : (w.heap.size + 1 = w3.heap.size) = False := eq_false (by omega)
        have neKYKB : (w3.heap.size = w.heap.size + 1) = False := eq_false (by omega)
        have neKQKY : (w1.heap.size = w3.heap.size) = False := eq_false (by omega)
        have neKYKQ : (w3.heap.size = w1.heap.size) = False := eq_false (by omega)
        have neKRKY : (w1.heap.size + 1 = w3.heap.size) = False := eq_false (by omega)
        have neKYKR : (w3.heap.size = w1.heap.size + 1) = False := eq_false (by omega)
        have neKXKY : (w2.heap.size = w3.heap.size) = False := eq_false (by omega)
        have neKYKX : (w3.heap.size = w2.heap.size) = False := eq_false (by omega)
        go_wp2_with fail
        refine (HSM.out _ _ _ _ (by exact Gq.out) (by exact Gx.out)).mono ?_
        rintro e w4 ⟨rfl, hb⟩
        clear kq0 kq1 kq2 kx0 kx1 kx2
        have KA := Lib.hid (KA.out.to hb)
        have KB := Lib.hid (KB.out.to hb)
        have KQ := Lib.hid (KQ.out.to hb)
        have KR := Lib.hid (KR.out.to hb)
        have KX := Lib.hid (KX.out.to hb)
        have KY := Lib.hid (KY.out.to hb)
        have GA := Lib.hid (GA.out.to hb)
        have GB := Lib.hid (GB.out.to hb)
        have Gq := Lib.hid (Gq.out.to hb)
        have Gr := Lib.hid (Gr.out.to hb)
        have Gx := Lib.hid (Gx.out.to hb)
        have Gy := Lib.hid (Gy.out.to hb)
        have HBE : Hid (Below w.heap.size w w4) := HBE.out.trans ((hb).mono HBE.out.size)
        clear hb
        have kr0 := KR.out.cell 0
        have kr1 := KR.out.cell 1
        have kr2 := KR.out.cell 2
        have ky0 := KY.out.cell 0
        have ky1 := KY.out.cell 1
        have ky2 := KY.out.cell 2
        simp only [List.getElem?_toArray, List.getElem?_cons_zero, List.getElem?_cons_succ] at kr0 kr1 kr2 ky0 ky1 ky2
        go_wp2_with fail
        refine (HSM.out _ _ _ r (by exact Gr.out) (by rw [← HYR.out]; exact Gy.out)).mono ?_
        rintro e w5 ⟨rfl, hb⟩
        clear kr0 kr1 kr2 ky0 ky1 ky2
        have KA := Lib.hid (KA.out.to hb)
        have KB := Lib.hid (KB.out.to hb)
        have KQ := Lib.hid (KQ.out.to hb)
        have KR := Lib.hid (KR.out.to hb)
        have KX := Lib.hid (KX.out.to hb)
        have KY := Lib.hid (KY.out.to hb)
        have GA := Lib.hid (GA.out.to hb)
        have GB := Lib.hid (GB.out.to hb)
        have Gq := Lib.hid (Gq.out.to hb)
        have Gr := Lib.hid (Gr.out.to hb)
        have Gx := Lib.hid (Gx.out.to hb)
        have Gy := Lib.hid (Gy.out.to hb)
        have HBE : Hid (Below w.heap.size w w5) := HBE.out.trans ((hb).mono HBE.out.size)
        clear hb
        have kq0 := KQ.out.cell 0
        have kq1 := KQ.out.cell 1
        have kq2 := KQ.out.cell 2
        have kb0 := KB.out.cell 0
        have kb1 := KB.out.cell 1
        have kb2 := KB.out.cell 2
        simp only [List.getElem?_toArray, List.getElem?_cons_zero, List.getElem?_cons_succ] at kq0 kq1 kq2 kb0 kb1 kb2
        go_wp2_with fail
        refine (HMU.out _ _ _ (by exact Gq.out) (by exact GB.out)).mono ?_
        rintro e w6 ⟨v, rfl, hg, hb⟩
        clear kq0 kq1 kq2 kb0 kb1 kb2
        have KA := Lib.hid (KA.out.to hb)
        have KB := Lib.hid (KB.out.to hb)
        have KQ := Lib.hid (KQ.out.to hb)
        have KR := Lib.hid (KR.out.to hb)
        have KX := Lib.hid (KX.out.to hb)
        have KY := Lib.hid (KY.out.to hb)
        have GA := Lib.hid (GA.out.to hb)
        have GB := Lib.hid (GB.out.to hb)
        have Gq := Lib.hid (Gq.out.to hb)
        have Gr := Lib.hid (Gr.out.to hb)
        have Gx := Lib.hid (Gx.out.to hb)
        have Gy := Lib.hid (Gy.out.to hb)
        have HBE : Hid (Below w.heap.size w w6) := HBE.out.trans ((hb).mono HBE.out.size)
        clear hb
        obtain ⟨Am, nm, cm, Bm, mm, dm, rfl, hq1, hq2⟩ := hg.form
        have Gm := Lib.hid hg
        clear hq1 hq2 hg
        have kr0 := KR.out.cell 0
        have kr1 := KR.out.cell 1
        have kr2 := KR.out.cell 2
        simp only [List.getElem?_toArray, List.getElem?_cons_zero, List.getElem?_cons_succ] at kr0 kr1 kr2
        have ltKAKM := KA.out.lt
        have ltKBKM := KB.out.lt
        have ltKQKM := KQ.out.lt
        have ltKRKM := KR.out.lt
        have ltKXKM := KX.out.lt
        have ltKYKM := KY.out.lt
        have KMN := Lib.hid (Blk.new w6 24 #[.bool m.neg, .slice Am nm cm, .slice Bm mm dm])
        have KA := Lib.hid (KA.out.to (below_one w6 (.cells #[.bool m.neg, .slice Am nm cm, .slice Bm mm dm] 24)))
        have KB := Lib.hid (KB.out.to (below_one w6 (.cells #[.bool m.neg, .slice Am nm cm, .slice Bm mm dm] 24)))
        have KQ := Lib.hid (KQ.out.to (below_one w6 (.cells #[.bool m.neg, .slice Am nm cm, .slice Bm mm dm] 24)))
        have KR := Lib.hid (KR.out.to (below_one w6 (.cells #[.bool m.neg, .slice Am nm cm, .slice Bm mm dm] 24)))
        have KX := Lib.hid (KX.out.to (below_one w6 (.cells #[.bool m.neg, .slice Am nm cm, .slice Bm mm dm] 24)))
        have KY := Lib.hid (KY.out.to (below_one w6 (.cells #[.bool m.neg, .slice Am nm cm, .slice Bm mm dm] 24)))
        have GA := Lib.hid (GA.out.to (below_one w6 (.cells #[.bool m.neg, .slice Am nm cm, .slice Bm mm dm] 24)))
        have GB := Lib.hid (GB.out.to (below_one w6 (.cells #[.bool m.neg, .slice Am nm cm, .slice Bm mm dm] 24)))
        have Gq := Lib.hid (Gq.out.to (below_one w6 (.cells #[.bool m.neg, .slice Am nm cm, .slice Bm mm dm] 24)))
        have Gr := Lib.hid (Gr.out.to (below_one w6 (.cells #[.bool m.neg, .slice Am nm cm, .slice Bm mm dm] 24)))
        have Gx := Lib.hid (Gx.out.to (below_one w6 (.cells #[.bool m.neg, .slice Am nm cm, .slice Bm mm dm] 24)))
        have Gy := Lib.hid (Gy.out.to (below_one w6 (.cells #[.bool m.neg, .slice Am nm cm, .slice Bm mm dm] 24)))
        have Gm := Lib.hid (Gm.out.to (below_one w6 (.cells #[.bool m.neg, .slice Am nm cm, .slice Bm mm dm] 24)))
        have HBE : Hid (Below w.heap.size w (w6.alloc (.cells #[.bool m.neg, .slice Am nm cm, .slice Bm mm dm] 24))) := HBE.out.trans (((below_one w6 (.cells #[.bool m.neg, .slice Am nm cm, .slice Bm mm dm] 24))).mono HBE.out.size)
        have KM := KMN
        clear KMN
        have neKAKM : (w.heap.size = w6.heap.size) = False := eq_false (by omega)
        have neKMKA : (w6.heap.size = w.heap.size) = False := eq_false (by omega)
        have neKBKM : (w.heap.size + 1 = w6.heap.size) = False := eq_false (by omega)
        have neKMKB : (w6.heap.size = w.heap.size + 1) = False := eq_false (by omega)
        have neKQKM : (w1.heap.size = w6.heap.size) = False := eq_false (by omega)
        have neKMKQ : (w6.heap.size = w1.heap.size) = False := eq_false (by omega)
        have neKRKM : (w1.heap.size + 1 = w6.heap.size) = False := eq_false (by omega)
        have neKMKR : (w6.heap.size = w1.heap.size + 1) = False := eq_false (by omega)
        have neKXKM : (w2.heap.size = w6.heap.size) = False := eq_false (by omega)
        have neKMKX : (w6.heap.size = w2.heap.size) = False := eq_false (by omega)
        have neKYKM : (w3.heap.size = w6.heap.size) = False := eq_false (by omega)
        have neKMKY : (w6.heap.size = w3.heap.size) = False := eq_false (by omega)
        go_wp2_with fail
        refine (HAD.out _ _ _ (by exact Gm.out) (by exact Gr.out)).mono ?_
        rintro e w7 ⟨v, rfl, hg, hb⟩
        clear kr0 kr1 kr2
        have KA := Lib.hid (KA.out.to hb)
        have KB := Lib.hid (KB.out.to hb)
        have KQ := Lib.hid (KQ.out.to hb)
        have KR := Lib.hid (KR.out.to hb)
        have KX := Lib.hid (KX.out.to hb)
        have KY := Lib.hid (KY.out.to hb)
        have KM := Lib.hid (KM.out.to hb)
        have GA := Lib.hid (GA.out.to hb)
        have GB := Lib.hid (GB.out.to hb)
        have Gq := Lib.hid (Gq.out.to hb)
        have Gr := Lib.hid (Gr.out.to hb)
        have Gx := Lib.hid (Gx.out.to hb)
        have Gy := Lib.hid (Gy.out.to hb)
        have Gm := Lib.hid (Gm.out.to hb)
        have HBE : Hid (Below w.heap.size w w7) := HBE.out.trans ((hb).mono HBE.out.size)
        clear hb
        obtain ⟨As, ns, cs, Bs, ms, ds, rfl, hq1, hq2⟩ := hg.form
        have Gs := Lib.hid hg
        clear hq1 hq2 hg
        have ltKAKS := KA.out.lt
        have ltKBKS := KB.out.lt
        have ltKQKS := KQ.out.lt
        have ltKRKS := KR.out.lt
        have ltKXKS := KX.out.lt
        have ltKYKS := KY.out.lt
        have ltKMKS := KM.out.lt
        have KSN := Lib.hid (Blk.new w7 24 #[.bool s.neg, .slice As ns cs, .slice Bs ms ds])
        have KA := Lib.hid (KA.out.to (below_one w7 (.cells #[.bool s.neg, .slice As ns cs, .slice Bs ms ds] 24)))
        have KB := Lib.hid (KB.out.to (below_one w7 (.cells #[.bool s.neg, .slice As ns cs, .slice Bs ms ds] 24)))
        have KQ := Lib.hid (KQ.out.to (below_one w7 (.cells #[.bool s.neg, .slice As ns cs, .slice Bs ms ds] 24)))
        have KR := Lib.hid (KR.out.to (below_one w7 (.cells #[.bool s.neg, .slice As ns cs, .slice Bs ms ds] 24)))
        have KX := Lib.hid (KX.out.to (below_one w7 (.cells #[.bool s.neg, .slice As ns cs, .slice Bs ms ds] 24)))
        have KY := Lib.hid (KY.out.to (below_one w7 (.cells #[.bool s.neg, .slice As ns cs, .slice Bs ms ds] 24)))
        have KM := Lib.hid (KM.out.to (below_one w7 (.cells #[.bool s.neg, .slice As ns cs, .slice Bs ms ds] 24)))
        have GA := Lib.hid (GA.out.to (below_one w7 (.cells #[.bool s.neg, .slice As ns cs, .slice Bs ms ds] 24)))
        have GB := Lib.hid (GB.out.to (below_one w7 (.cells #[.bool s.neg, .slice As ns cs, .slice Bs ms ds] 24)))
        have Gq := Lib.hid (Gq.out.to (below_one w7 (.cells #[.bool s.neg, .slice As ns cs, .slice Bs ms ds] 24)))
        have Gr := Lib.hid (Gr.out.to (below_one w7 (.cells #[.bool s.neg, .slice As ns cs, .slice Bs ms ds] 24)))
        have Gx := Lib.hid (Gx.out.to (below_one w7 (.cells #[.bool s.neg, .slice As ns cs, .slice Bs ms ds] 24)))
        have Gy := Lib.hid (Gy.out.to (below_one w7 (.cells #[.bool s.neg, .slice As ns cs, .slice Bs ms ds] 24)))
        have Gm := Lib.hid (Gm.out.to (below_one w7 (.cells #[.bool s.neg, .slice As ns cs, .slice Bs ms ds] 24)))
        have Gs := Lib.hid (Gs.out.to (below_one w7 (.cells #[.bool s.neg, .slice As ns cs, .slice Bs ms ds] 24)))
        have HBE : Hid (Below w.heap.size w (w7.alloc (.cells #[.bool s.neg, .slice As ns cs, .slice Bs ms ds] 24))) := HBE.out.trans (((below_one w7 (.cells #[.bool s.neg, .slice As ns cs, .slice Bs ms ds] 24))).mono HBE.out.size)
        have KS := KSN
        clear KSN
        have neKAKS : (w.heap.size = w7.heap.size) = False := eq_false (by omega)
        have neKSKA : (w7.heap.size = w.heap.size) = False := eq_false (by omega)
        have neKBKS : (w.heap.size + 1 = w7.heap.size) = False := eq_false (by omega)
        have neKSKB : (w7.heap.size = w.heap.size + 1) = False := eq_false (by omega)
        have neKQKS : (w1.heap.size = w7.heap.size) = False := eq_false (by omega)
        have neKSKQ : (w7.heap.size = w1.heap.size) = False := eq_false (by omega)
        have neKRKS : (w1.heap.size + 1 = w7.heap.size) = False := eq_false (by omega)
        have neKSKR : (w7.heap.size = w1.heap.size + 1) = False := eq_false (by omega)
        have neKXKS : (w2.heap.size = w7.heap.size) = False := eq_false (by omega)
        have neKSKX : (w7.heap.size = w2.heap.size) = False := eq_false (by omega)
        have neKYKS : (w3.heap.size = w7.heap.size) = False := eq_false (by omega)
        have neKSKY : (w7.heap.size = w3.heap.size) = False := eq_false (by omega)
        have neKMKS : (w6.heap.size = w7.heap.size) = False := eq_false (by omega)
        have neKSKM : (w7.heap.size = w6.heap.size) = False := eq_false (by omega)
        go_wp2_with fail
        refine (counted_any _).mono ?_
        rintro e wz ⟨rfl, hb⟩
        go_wp2_with fail
        go_ret
        exact ⟨rfl, HBE.out.trans (hb.mono HBE.out.size)⟩
    · subst hmz
      have hadd : addS m r = (a0, 0) := by
        rcases hlaw with h | h
        · exact absurd rfl h
        · exact h
      rw [hadd] at HAD
      clear hlaw hadd
      cases b2 with
      | true =>
        obtain ⟨rfl, rfl⟩ := hkq
        simp only [if_true] at HQ HR
        go_enter Tryz.func3, Tryz.ntmps3
        go_wp2_with fail
        refine (HF.out _ _ _ (by exact GA.out) (by exact GB.out)).mono ?_
        rintro e w1 ⟨v, u, rfl, hg, hg2, hb⟩
        have KA := Lib.hid (KA.out.to hb)
        have KB := Lib.hid (KB.out.to hb)
        have GA := Lib.hid (GA.out.to hb)
        have GB := Lib.hid (GB.out.to hb)
        have HBE : Hid (Below w.heap.size w w1) := HBE.out.trans ((hb).mono HBE.out.size)
        clear hb
        obtain ⟨Aq, nq, cq, Bq, mq, dq, rfl, hq1, hq2⟩ := hg.form
        have Gq := Lib.hid hg
        clear hq1 hq2 hg
        obtain ⟨Ar, nr, cr, Br, mr, dr, rfl, hq1, hq2⟩ := hg2.form
        have Gr := Lib.hid hg2
        clear hq1 hq2 hg2
        have ka0 := KA.out.cell 0
        have ka1 := KA.out.cell 1
        have ka2 := KA.out.cell 2
        have kb0 := KB.out.cell 0
        have kb1 := KB.out.cell 1
        have kb2 := KB.out.cell 2
        simp only [List.getElem?_toArray, List.getElem?_cons_zero, List.getElem?_cons_succ] at ka0 ka1 ka2 kb0 kb1 kb2
        have ltKAKQ := KA.out.lt
        have ltKBKQ := KB.out.lt
        have KQN := Lib.hid (Blk.new w1 24 #[.bool q.neg, .slice Aq nq cq, .slice Bq mq dq])
        have KA := Lib.hid (KA.out.to (below_one w1 (.cells #[.bool q.neg, .slice Aq nq cq, .slice Bq mq dq] 24)))
        have KB := Lib.hid (KB.out.to (below_one w1 (.cells #[.bool q.neg, .slice Aq nq cq, .slice Bq mq dq] 24)))
        have GA := Lib.hid (GA.out.to (below_one w1 (.cells #[.bool q.neg, .slice Aq nq cq, .slice Bq mq dq] 24)))
        have GB := Lib.hid (GB.out.to (below_one w1 (.cells #[.bool q.neg, .slice Aq nq cq, .slice Bq mq dq] 24)))
        have Gq := Lib.hid (Gq.out.to (below_one w1 (.cells #[.bool q.neg, .slice Aq nq cq, .slice Bq mq dq] 24)))
        have Gr := Lib.hid (Gr.out.to (below_one w1 (.cells #[.bool q.neg, .slice Aq nq cq, .slice Bq mq dq] 24)))
        have HBE : Hid (Below w.heap.size w (w1.alloc (.cells #[.bool q.neg, .slice Aq nq cq, .slice Bq mq dq] 24))) := HBE.out.trans (((below_one w1 (.cells #[.bool q.neg, .slice Aq nq cq, .slice Bq mq dq] 24))).mono HBE.out.size)
        have KQ := KQN
        clear KQN
        have neKAKQ : (w.heap.size = w1.heap.size) = False := eq_false (by omega)
        have neKQKA : (w1.heap.size = w.heap.size) = False := eq_false (by omega)
        have neKBKQ : (w.heap.size + 1 = w1.heap.size) = False := eq_false (by omega)
        have neKQKB : (w1.heap.size = w.heap.size + 1) = False := eq_false (by omega)
        have ltKAKR := KA.out.lt
        have ltKBKR := KB.out.lt
        have ltKQKR := KQ.out.lt
        have KRN := Lib.hid (Blk.new (w1.alloc (.cells #[.bool q.neg, .slice Aq nq cq, .slice Bq mq dq] 24)) 24 #[.bool r.neg, .slice Ar nr cr, .slice Br mr dr])
        have KA := Lib.hid (KA.out.to (below_one (w1.alloc (.cells #[.bool q.neg, .slice Aq nq cq, .slice Bq mq dq] 24)) (.cells #[.bool r.neg, .slice Ar nr cr, .slice Br mr dr] 24)))
        have KB := Lib.hid (KB.out.to (below_one (w1.alloc (.cells #[.bool q.neg, .slice Aq nq cq, .slice Bq mq dq] 24)) (.cells #[.bool r.neg, .slice Ar nr cr, .slice Br mr dr] 24)))
        have KQ := Lib.hid (KQ.out.to (below_one (w1.alloc (.cells #[.bool q.neg, .slice Aq nq cq, .slice Bq mq dq] 24)) (.cells #[.bool r.neg, .slice Ar nr cr, .slice Br mr dr] 24)))
        have GA := Lib.hid (GA.out.to (below_one (w1.alloc (.cells #[.bool q.neg, .slice Aq nq cq, .slice Bq mq dq] 24)) (.cells #[.bool r.neg, .slice Ar nr cr, .slice Br mr dr] 24)))
        have GB := Lib.hid (GB.out.to (below_one (w1.alloc (.cells #[.bool q.neg, .slice Aq nq cq, .slice Bq mq dq] 24)) (.cells #[.bool r.neg, .slice Ar nr cr, .slice Br mr dr] 24)))
        have Gq := Lib.hid (Gq.out.to (below_one (w1.alloc (.cells #[.bool q.neg, .slice Aq nq cq, .slice Bq mq dq] 24)) (.cells #[.bool r.neg, .slice Ar nr cr, .slice Br mr dr] 24)))
        have Gr := Lib.hid (Gr.out.to (below_one (w1.alloc (.cells #[.bool q.neg, .slice Aq nq cq, .slice Bq mq dq] 24)) (.cells #[.bool r.neg, .slice Ar nr cr, .slice Br mr dr] 24)))
        have HBE : Hid (Below w.heap.size w ((w1.alloc (.cells #[.bool q.neg, .slice Aq nq cq, .slice Bq mq dq] 24)).alloc (.cells #[.bool r.neg, .slice Ar nr cr, .slice Br mr dr] 24))) := HBE.out.trans (((below_one (w1.alloc (.cells #[.bool q.neg, .slice Aq nq cq, .slice Bq mq dq] 24)) (.cells #[.bool r.neg, .slice Ar nr cr, .slice Br mr dr] 24))).mono HBE.out.size)
        have KR : Hid (Blk ((w1.alloc (.cells #[.bool q.neg, .slice Aq nq cq, .slice Bq mq dq] 24)).alloc (.cells #[.bool r.neg, .slice Ar nr cr, .slice Br mr dr] 24)) (w1.heap.size + 1) 24 #[.bool r.neg, .slice Ar nr cr, .slice Br mr dr]) := by have h := KRN.out; rw [show (w1.alloc (.cells #[.bool q.neg, .slice Aq nq cq, .slice Bq mq dq] 24)).heap.size = w1.heap.size + 1 by simp] at h; exact h
        clear KRN
        have neKAKR : (w.heap.size = w1.heap.size + 1) = False := eq_false (by omega)
        have neKRKA : (w1.heap.size + 1 = w.heap.size) = False := eq_false (by omega)
        have neKBKR : (w.heap.size + 1 = w1.heap.size + 1) = False := eq_false (by omega)
        have neKRKB : (w1.heap.size + 1 = w.heap.size + 1) = False := eq_false (by omega)
        have neKQKR : (w1.heap.size = w1.heap.size + 1) = False := eq_false (by omega)
        have neKRKQ : (w1.heap.size + 1 = w1.heap.size) = False := eq_false (by omega)
        go_wp2_with fail
        refine (HQ.out _ _ _ (by exact GA.out) (by exact GB.out)).mono ?_
        rintro e w2 ⟨v, rfl, hg, hb⟩
        clear ka0 ka1 ka2 kb0 kb1 kb2
        have KA := Lib.hid (KA.out.to hb)
        have KB := Lib.hid (KB.out.to hb)
        have KQ := Lib.hid (KQ.out.to hb)
        have KR := Lib.hid (KR.out.to hb)
        have GA := Lib.hid (GA.out.to hb)
        have GB := Lib.hid (GB.out.to hb)
        have Gq := Lib.hid (Gq.out.to hb)
        have Gr := Lib.hid (Gr.out.to hb)
        have HBE : Hid (Below w.heap.size w w2) := HBE.out.trans ((hb).mono HBE.out.size)
        clear hb
        obtain ⟨Ax, nx, cx, Bx, mx, dx, rfl, hq1, hq2⟩ := hg.form
        have Gx := Lib.hid hg
        clear hq1 hq2 hg
        have ka0 := KA.out.cell 0
        have ka1 := KA.out.cell 1
        have ka2 := KA.out.cell 2
        have kb0 := KB.out.cell 0
        have kb1 := KB.out.cell 1
        have kb2 := KB.out.cell 2
        simp only [List.getElem?_toArray, List.getElem?_cons_zero, List.getElem?_cons_succ] at ka0 ka1 ka2 kb0 kb1 kb2
        have ltKAKX := KA.out.lt
        have ltKBKX := KB.out.lt
        have ltKQKX := KQ.out.lt
        have ltKRKX := KR.out.lt
        have KXN := Lib.hid (Blk.new w2 24 #[.bool q.neg, .slice Ax nx cx, .slice Bx mx dx])
        have KA := Lib.hid (KA.out.to (below_one w2 (.cells #[.bool q.neg, .slice Ax nx cx, .slice Bx mx dx] 24)))
        have KB := Lib.hid (KB.out.to (below_one w2 (.cells #[.bool q.neg, .slice Ax nx cx, .slice Bx mx dx] 24)))
        have KQ := Lib.hid (KQ.out.to (below_one w2 (.cells #[.bool q.neg, .slice Ax nx cx, .slice Bx mx dx] 24)))
        have KR := Lib.hid (KR.out.to (below_one w2 (.cells #[.bool q.neg, .slice Ax nx cx, .slice Bx mx dx] 24)))
        have GA := Lib.hid (GA.out.to (below_one w2 (.cells #[.bool q.neg, .slice Ax nx cx, .slice Bx mx dx] 24)))
        have GB := Lib.hid (GB.out.to (below_one w2 (.cells #[.bool q.neg, .slice Ax nx cx, .slice Bx mx dx] 24)))
        have Gq := Lib.hid (Gq.out.to (below_one w2 (.cells #[.bool q.neg, .slice Ax nx cx, .slice Bx mx dx] 24)))
        have Gr := Lib.hid (Gr.out.to (below_one w2 (.cells #[.bool q.neg, .slice Ax nx cx, .slice Bx mx dx] 24)))
        have Gx := Lib.hid (Gx.out.to (below_one w2 (.cells #[.bool q.neg, .slice Ax nx cx, .slice Bx mx dx] 24)))
        have HBE : Hid (Below w.heap.size w (w2.alloc (.cells #[.bool q.neg, .slice Ax nx cx, .slice Bx mx dx] 24))) := HBE.out.trans (((below_one w2 (.cells #[.bool q.neg, .slice Ax nx cx, .slice Bx mx dx] 24))).mono HBE.out.size)
        have KX := KXN
        clear KXN
        have neKAKX : (w.heap.size = w2.heap.size) = False := eq_false (by omega)
        have neKXKA : (w2.heap.size = w.heap.size) = False := eq_false (by omega)
        have neKBKX : (w.heap.size + 1 = w2.heap.size) = False := eq_false (by omega)
        have neKXKB : (w2.heap.size = w.heap.size + 1) = False := eq_false (by omega)
        have neKQKX : (w1.heap.size = w2.heap.size) = False := eq_false (by omega)
        have neKXKQ : (w2.heap.size = w1.heap.size) = False := eq_false (by omega)
        have neKRKX : (w1.heap.size + 1 = w2.heap.size) = False := eq_false (by omega)
        have neKXKR : (w2.heap.size = w1.heap.size + 1) = False := eq_false (by omega)
        go_wp2_with fail
        refine (HR.out _ _ _ (by exact GA.out) (by exact GB.out)).mono ?_
        rintro e w3 ⟨v, rfl, hg, hb⟩
        clear ka0 ka1 ka2 kb0 kb1 kb2
        have KA := Lib.hid (KA.out.to hb)
        have KB := Lib.hid (KB.out.to hb)
        have KQ := Lib.hid (KQ.out.to hb)
        have KR := Lib.hid (KR.out.to hb)
        have KX := Lib.hid (KX.out.to hb)
        have GA := Lib.hid (GA.out.to hb)
        have GB := Lib.hid (GB.out.to hb)
        have Gq := Lib.hid (Gq.out.to hb)
        have Gr := Lib.hid (Gr.out.to hb)
        have Gx := Lib.hid (Gx.out.to hb)
        have HBE : Hid (Below w.heap.size w w3) := HBE.out.trans ((hb).mono HBE.out.size)
        clear hb
        obtain ⟨Ay, ny, cy, By, my, dy, rfl, hq1, hq2⟩ := hg.form
        have Gy := Lib.hid hg
        clear hq1 hq2 hg
        have kq0 := KQ.out.cell 0
        have kq1 := KQ.out.cell 1
        have kq2 := KQ.out.cell 2
        have kx0 := KX.out.cell 0
        have kx1 := KX.out.cell 1
        have kx2 := KX.out.cell 2
        simp only [List.getElem?_toArray, List.getElem?_cons_zero, List.getElem?_cons_succ] at kq0 kq1 kq2 kx0 kx1 kx2
        have ltKAKY := KA.out.lt
        have ltKBKY := KB.out.lt
        have ltKQKY := KQ.out.lt
        have ltKRKY := KR.out.lt
        have ltKXKY := KX.out.lt
        have KYN := Lib.hid (Blk.new w3 24 #[.bool y.neg, .slice Ay ny cy, .slice By my dy])
        have KA := Lib.hid (KA.out.to (below_one w3 (.cells #[.bool y.neg, .slice Ay ny cy, .slice By my dy] 24)))
        have KB := Lib.hid (KB.out.to (below_one w3 (.cells #[.bool y.neg, .slice Ay ny cy, .slice By my dy] 24)))
        have KQ := Lib.hid (KQ.out.to (below_one w3 (.cells #[.bool y.neg, .slice Ay ny cy, .slice By my dy] 24)))
        have KR := Lib.hid (KR.out.to (below_one w3 (.cells #[.bool y.neg, .slice Ay ny cy, .slice By my dy] 24)))
        have KX := Lib.hid (KX.out.to (below_one w3 (.cells #[.bool y.neg, .slice Ay ny cy, .slice By my dy] 24)))
        have GA := Lib.hid (GA.out.to (below_one w3 (.cells #[.bool y.neg, .slice Ay ny cy, .slice By my dy] 24)))
        have GB := Lib.hid (GB.out.to (below_one w3 (.cells #[.bool y.neg, .slice Ay ny cy, .slice By my dy] 24)))
        have Gq := Lib.hid (Gq.out.to (below_one w3 (.cells #[.bool y.neg, .slice Ay ny cy, .slice By my dy] 24)))
        have Gr := Lib.hid (Gr.out.to (below_one w3 (.cells #[.bool y.neg, .slice Ay ny cy, .slice By my dy] 24)))
        have Gx := Lib.hid (Gx.out.to (below_one w3 (.cells #[.bool y.neg, .slice Ay ny cy, .slice By my dy] 24)))
        have Gy := Lib.hid (Gy.out.to (below_one w3 (.cells #[.bool y.neg, .slice Ay ny cy, .slice By my dy] 24)))
        have HBE : Hid (Below w.heap.size w (w3.alloc (.cells #[.bool y.neg, .slice Ay ny cy, .slice By my dy] 24))) := HBE.out.trans (((below_one w3 (.cells #[.bool y.neg, .slice Ay ny cy, .slice By my dy] 24))).mono HBE.out.size)
        have KY := KYN
        clear KYN
        have neKAKY : (w.heap.size = w3.heap.size) = False := eq_false (by omega)
        have neKYKA : (w3.heap.size = w.heap.size) = False := eq_false (by omega)
        have neKBKY : (w.heap.size + 1 = w3.heap.size) = False := eq_false (by omega)
        have neKYKB : (w3.heap.size = w.heap.size + 1) = False := eq_false (by omega)
        have neKQKY : (w1.heap.size = w3.heap.size) = False := eq_false (by omega)
        have neKYKQ : (w3.heap.size = w1.heap.size) = False := eq_false (by omega)
        have neKRKY : (w1.heap.size + 1 = w3.heap.size) = False := eq_false (by omega)
        have neKYKR : (w3.heap.size = w1.heap.size + 1) = False := eq_false (by omega)
        have neKXKY : (w2.heap.size = w3.heap.size) = False := eq_false (by omega)
        have neKYKX : (w3.heap.size = w2.heap.size) = False := eq_false (by omega)
        go_wp2_with fail
        refine (HSM.out _ _ _ _ (by exact Gq.out) (by exact Gx.out)).mono ?_
        rintro e w4 ⟨rfl, hb⟩
        clear kq0 kq1 kq2 kx0 kx1 kx2
        have KA := Lib.hid (KA.out.to hb)
        have KB := Lib.hid (KB.out.to hb)
        have KQ := Lib.hid (KQ.out.to hb)
        have KR := Lib.hid (KR.out.to hb)
        have KX := Lib.hid (KX.out.to hb)
        have KY := Lib.hid (KY.out.to hb)
        have GA := Lib.hid (GA.out.to hb)
        have GB := Lib.hid (GB.out.to hb)
        have Gq := Lib.hid (Gq.out.to hb)
        have Gr := Lib.hid (Gr.out.to hb)
        have Gx := Lib.hid (Gx.out.to hb)
        have Gy := Lib.hid (Gy.out.to hb)
        have HBE : Hid (Below w.heap.size w w4) := HBE.out.trans ((hb).mono HBE.out.size)
        clear hb
        have kr0 := KR.out.cell 0
        have kr1 := KR.out.cell 1
        have kr2 := KR.out.cell 2
        have ky0 := KY.out.cell 0
        have ky1 := KY.out.cell 1
        have ky2 := KY.out.cell 2
        simp only [List.getElem?_toArray, List.getElem?_cons_zero, List.getElem?_cons_succ] at kr0 kr1 kr2 ky0 ky1 ky2
        go_wp2_with fail
        refine (HSM.out _ _ _ r (by exact Gr.out) (by rw [← HYR.out]; exact Gy.out)).mono ?_
        rintro e w5 ⟨rfl, hb⟩
        clear kr0 kr1 kr2 ky0 ky1 ky2
        have KA := Lib.hid (KA.out.to hb)
        have KB := Lib.hid (KB.out.to hb)
        have KQ := Lib.hid (KQ.out.to hb)
        have KR := Lib.hid (KR.out.to hb)
        have KX := Lib.hid (KX.out.to hb)
        have KY := Lib.hid (KY.out.to hb)
        have GA := Lib.hid (GA.out.to hb)
        have GB := Lib.hid (GB.out.to hb)
        have Gq := Lib.hid (Gq.out.to hb)
        have Gr := Lib.hid (Gr.out.to hb)
        have Gx := Lib.hid (Gx.out.to hb)
        have Gy := Lib.hid (Gy.out.to hb)
        have HBE : Hid (Below w.heap.size w w5) := HBE.out.trans ((hb).mono HBE.out.size)
        clear hb
        have kq0 := KQ.out.cell 0
        have kq1 := KQ.out.cell 1
        have kq2 := KQ.out.cell 2
        have kb0 := KB.out.cell 0
        have kb1 := KB.out.cell 1
        have kb2 := KB.out.cell 2
        simp only [List.getElem?_toArray, List.getElem?_cons_zero, List.getElem?_cons_succ] at kq0 kq1 kq2 kb0 kb1 kb2
        go_wp2_with fail
        refine (HMU.out _ _ _ (by exact Gq.out) (by exact GB.out)).mono ?_
        rintro e w6 ⟨v, rfl, hg, hb⟩
        clear kq0 kq1 kq2 kb0 kb1 kb2
        have KA := Lib.hid (KA.out.to hb)
        have KB := Lib.hid (KB.out.to hb)
        have KQ := Lib.hid (KQ.out.to hb)
        have KR := Lib.hid (KR.out.to hb)
        have KX := Lib.hid (KX.out.to hb)
        have KY := Lib.hid (KY.out.to hb)
        have GA := Lib.hid (GA.out.to hb)
        have GB := Lib.hid (GB.out.to hb)
        have Gq := Lib.hid (Gq.out.to hb)
        have Gr := Lib.hid (Gr.out.to hb)
        have Gx := Lib.hid (Gx.out.to hb)
        have Gy := Lib.hid (Gy.out.to hb)
        have HBE : Hid (Below w.heap.size w w6) := HBE.out.trans ((hb).mono HBE.out.size)
        clear hb
        obtain ⟨Am, nm, cm, Bm, mm, dm, rfl, hq1, hq2⟩ := hg.form
        have Gm := Lib.hid hg
        clear hq1 hq2 hg
        have kr0 := KR.out.cell 0
        have kr1 := KR.out.cell 1
        have kr2 := KR.out.cell 2
        simp only [List.getElem?_toArray, List.getElem?_cons_zero, List.getElem?_cons_succ] at kr0 kr1 kr2
        have ltKAKM := KA.out.lt
        have ltKBKM := KB.out.lt
        have ltKQKM := KQ.out.lt
        have ltKRKM := KR.out.lt
        have ltKXKM := KX.out.lt
        have ltKYKM := KY.out.lt
        have KMN := Lib.hid (Blk.new w6 24 #[.bool m.neg, .slice Am nm cm, .slice Bm mm dm])
        have KA := Lib.hid (KA.out.to (below_one w6 (.cells #[.bool m.neg, .slice Am nm cm, .slice Bm mm dm] 24)))
        have KB := Lib.hid (KB.out.to (below_one w6 (.cells #[.bool m.neg, .slice Am nm cm, .slice Bm mm dm] 24)))
        have KQ := Lib.hid (KQ.out.to (below_one w6 (.cells #[.bool m.neg, .slice Am nm cm, .slice Bm mm dm] 24)))
        have KR := Lib.hid (KR.out.to (below_one w6 (.cells #[.bool m.neg, .slice Am nm cm, .slice Bm mm dm] 24)))
        have KX := Lib.hid (KX.out.to (below_one w6 (.cells #[.bool m.neg, .slice Am nm cm, .slice Bm mm dm] 24)))
        have KY := Lib.hid (KY.out.to (below_one w6 (.cells #[.bool m.neg, .slice Am nm cm, .slice Bm mm dm] 24)))
        have GA := Lib.hid (GA.out.to (below_one w6 (.cells #[.bool m.neg, .slice Am nm cm, .slice Bm mm dm] 24)))
        have GB := Lib.hid (GB.out.to (below_one w6 (.cells #[.bool m.neg, .slice Am nm cm, .slice Bm mm dm] 24)))
        have Gq := Lib.hid (Gq.out.to (below_one w6 (.cells #[.bool m.neg, .slice Am nm cm, .slice Bm mm dm] 24)))
        have Gr := Lib.hid (Gr.out.to (below_one w6 (.cells #[.bool m.neg, .slice Am nm cm, .slice Bm mm dm] 24)))
        have Gx := Lib.hid (Gx.out.to (below_one w6 (.cells #[.bool m.neg, .slice Am nm cm, .slice Bm mm dm] 24)))
        have Gy := Lib.hid (Gy.out.to (below_one w6 (.cells #[.bool m.neg, .slice Am nm cm, .slice Bm mm dm] 24)))
        have Gm := Lib.hid (Gm.out.to (below_one w6 (.cells #[.bool m.neg, .slice Am nm cm, .slice Bm mm dm] 24)))
        have HBE : Hid (Below w.heap.size w (w6.alloc (.cells #[.bool m.neg, .slice Am nm cm, .slice Bm mm dm] 24))) := HBE.out.trans (((below_one w6 (.cells #[.bool m.neg, .slice Am nm cm, .slice Bm mm dm] 24))).mono HBE.out.size)
        have KM := KMN
        clear KMN
        have neKAKM : (w.heap.size = w6.heap.size) = False := eq_false (by omega)
        have neKMKA : (w6.heap.size = w.heap.size) = False := eq_false (by omega)
        have neKBKM : (w.heap.size + 1 = w6.heap.size) = False := eq_false (by omega)
        have neKMKB : (w6.heap.size = w.heap.size + 1) = False := eq_false (by omega)
        have neKQKM : (w1.heap.size = w6.heap.size) = False := eq_false (by omega)
        have neKMKQ : (w6.heap.size = w1.heap.size) = False := eq_false (by omega)
        have neKRKM : (w1.heap.size + 1 = w6.heap.size) = False := eq_false (by omega)
        have neKMKR : (w6.heap.size = w1.heap.size + 1) = False := eq_false (by omega)
        have neKXKM : (w2.heap.size = w6.heap.size) = False := eq_false (by omega)
        have neKMKX : (w6.heap.size = w2.heap.size) = False := eq_false (by omega)
        have neKYKM : (w3.heap.size = w6.heap.size) = False := eq_false (by omega)
        have neKMKY : (w6.heap.size = w3.heap.size) = False := eq_false (by omega)
        go_wp2_with fail
        refine (HAD.out _ _ _ (by exact Gm.out) (by exact Gr.out)).mono ?_
        rintro e w7 ⟨v, rfl, hg, hb⟩
        clear kr0 kr1 kr2
        have KA := Lib.hid (KA.out.to hb)
        have KB := Lib.hid (KB.out.to hb)
        have KQ := Lib.hid (KQ.out.to hb)
        have KR := Lib.hid (KR.out.to hb)
        have KX := Lib.hid (KX.out.to hb)
        have KY := Lib.hid (KY.out.to hb)
        have KM := Lib.hid (KM.out.to hb)
        have GA := Lib.hid (GA.out.to hb)
        have GB := Lib.hid (GB.out.to hb)
        have Gq := Lib.hid (Gq.out.to hb)
        have Gr := Lib.hid (Gr.out.to hb)
        have Gx := Lib.hid (Gx.out.to hb)
        have Gy := Lib.hid (Gy.out.to hb)
        have Gm := Lib.hid (Gm.out.to hb)
        have HBE : Hid (Below w.heap.size w w7) := HBE.out.trans ((hb).mono HBE.out.size)
        clear hb
        obtain ⟨As, ns, cs, Bs, ms, ds, rfl, hq1, hq2⟩ := hg.form
        have Gs := Lib.hid hg
        clear hq1 hq2 hg
        have ka0 := KA.out.cell 0
        have ka1 := KA.out.cell 1
        have ka2 := KA.out.cell 2
        simp only [List.getElem?_toArray, List.getElem?_cons_zero, List.getElem?_cons_succ] at ka0 ka1 ka2
        have ltKAKS := KA.out.lt
        have ltKBKS := KB.out.lt
        have ltKQKS := KQ.out.lt
        have ltKRKS := KR.out.lt
        have ltKXKS := KX.out.lt
        have ltKYKS := KY.out.lt
        have ltKMKS := KM.out.lt
        have KSN := Lib.hid (Blk.new w7 24 #[.bool a0.neg, .slice As ns cs, .slice Bs ms ds])
        have KA := Lib.hid (KA.out.to (below_one w7 (.cells #[.bool a0.neg, .slice As ns cs, .slice Bs ms ds] 24)))
        have KB := Lib.hid (KB.out.to (below_one w7 (.cells #[.bool a0.neg, .slice As ns cs, .slice Bs ms ds] 24)))
        have KQ := Lib.hid (KQ.out.to (below_one w7 (.cells #[.bool a0.neg, .slice As ns cs, .slice Bs ms ds] 24)))
        have KR := Lib.hid (KR.out.to (below_one w7 (.cells #[.bool a0.neg, .slice As ns cs, .slice Bs ms ds] 24)))
        have KX := Lib.hid (KX.out.to (below_one w7 (.cells #[.bool a0.neg, .slice As ns cs, .slice Bs ms ds] 24)))
        have KY := Lib.hid (KY.out.to (below_one w7 (.cells #[.bool a0.neg, .slice As ns cs, .slice Bs ms ds] 24)))
        have KM := Lib.hid (KM.out.to (below_one w7 (.cells #[.bool a0.neg, .slice As ns cs, .slice Bs ms ds] 24)))
        have GA := Lib.hid (GA.out.to (below_one w7 (.cells #[.bool a0.neg, .slice As ns cs, .slice Bs ms ds] 24)))
        have GB := Lib.hid (GB.out.to (below_one w7 (.cells #[.bool a0.neg, .slice As ns cs, .slice Bs ms ds] 24)))
        have Gq := Lib.hid (Gq.out.to (below_one w7 (.cells #[.bool a0.neg, .slice As ns cs, .slice Bs ms ds] 24)))
        have Gr := Lib.hid (Gr.out.to (below_one w7 (.cells #[.bool a0.neg, .slice As ns cs, .slice Bs ms ds] 24)))
        have Gx := Lib.hid (Gx.out.to (below_one w7 (.cells #[.bool a0.neg, .slice As ns cs, .slice Bs ms ds] 24)))
        have Gy := Lib.hid (Gy.out.to (below_one w7 (.cells #[.bool a0.neg, .slice As ns cs, .slice Bs ms ds] 24)))
        have Gm := Lib.hid (Gm.out.to (below_one w7 (.cells #[.bool a0.neg, .slice As ns cs, .slice Bs ms ds] 24)))
        have Gs := Lib.hid (Gs.out.to (below_one w7 (.cells #[.bool a0.neg, .slice As ns cs, .slice Bs ms ds] 24)))
        have HBE : Hid (Below w.heap.size w (w7.alloc (.cells #[.bool a0.neg, .slice As ns cs, .slice Bs ms ds] 24))) := HBE.out.trans (((below_one w7 (.cells #[.bool a0.neg, .slice As ns cs, .slice Bs ms ds] 24))).mono HBE.out.size)
        have KS := KSN
        clear KSN
        have neKAKS : (w.heap.size = w7.heap.size) = False := eq_false (by omega)
        have neKSKA : (w7.heap.size = w.heap.size) = False := eq_false (by omega)
        have neKBKS : (w.heap.size + 1 = w7.heap.size) = False := eq_false (by omega)
        have neKSKB : (w7.heap.size = w.heap.size + 1) = False := eq_false (by omega)
        have neKQKS : (w1.heap.size = w7.heap.size) = False := eq_false (by omega)
        have neKSKQ : (w7.heap.size = w1.heap.size) = False := eq_false (by omega)
        have neKRKS : (w1.heap.size + 1 = w7.heap.size) = False := eq_false (by omega)
        have neKSKR : (w7.heap.size = w1.heap.size + 1) = False := eq_false (by omega)
        have neKXKS : (w2.heap.size = w7.heap.size) = False := eq_false (by omega)
        have neKSKX : (w7.heap.size = w2.heap.size) = False := eq_false (by omega)
        have neKYKS : (w3.heap.size = w7.heap.size) = False := eq_false (by omega)
        have neKSKY : (w7.heap.size = w3.heap.size) = False := eq_false (by omega)
        have neKMKS : (w6.heap.size = w7.heap.size) = False := eq_false (by omega)
        have neKSKM : (w7.heap.size = w6.heap.size) = False := eq_false (by omega)
        go_wp2_with fail
        refine (HSM.out _ _ _ _ (by exact Gs.out) (by exact GA.out)).mono ?_
        rintro e w8 ⟨rfl, hb⟩
        clear ka0 ka1 ka2
        have KA := Lib.hid (KA.out.to hb)
        have KB := Lib.hid (KB.out.to hb)
        have KQ := Lib.hid (KQ.out.to hb)
        have KR := Lib.hid (KR.out.to hb)
        have KX := Lib.hid (KX.out.to hb)
        have KY := Lib.hid (KY.out.to hb)
        have KM := Lib.hid (KM.out.to hb)
        have KS := Lib.hid (KS.out.to hb)
        have GA := Lib.hid (GA.out.to hb)
        have GB := Lib.hid (GB.out.to hb)
        have Gq := Lib.hid (Gq.out.to hb)
        have Gr := Lib.hid (Gr.out.to hb)
        have Gx := Lib.hid (Gx.out.to hb)
        have Gy := Lib.hid (Gy.out.to hb)
        have Gm := Lib.hid (Gm.out.to hb)
        have Gs := Lib.hid (Gs.out.to hb)
        have HBE : Hid (Below w.heap.size w w8) := HBE.out.trans ((hb).mono HBE.out.size)
        clear hb
        go_wp2_with fail
        refine (counted_any _).mono ?_
        rintro e wz ⟨rfl, hb⟩
        go_wp2_with fail
        go_ret
        exact ⟨rfl, HBE.out.trans (hb.mono HBE.out.size)⟩
      | false =>
        obtain ⟨rfl, rfl⟩ := hkq
        simp only [Bool.false_eq_true, if_false] at HQ HR
        go_enter Tryz.func3, Tryz.ntmps3
        go_wp2_with fail
        refine (HF.out _ _ _ (by exact GA.out) (by exact GB.out)).mono ?_
        rintro e w1 ⟨v, u, rfl, hg, hg2, hb⟩
        have KA := Lib.hid (KA.out.to hb)
        have KB := Lib.hid (KB.out.to hb)
        have GA := Lib.hid (GA.out.to hb)
        have GB := Lib.hid (GB.out.to hb)
        have HBE : Hid (Below w.heap.size w w1) := HBE.out.trans ((hb).mono HBE.out.size)
        clear hb
        obtain ⟨Aq, nq, cq, Bq, mq, dq, rfl, hq1, hq2⟩ := hg.form
        have Gq := Lib.hid hg
        clear hq1 hq2 hg
        obtain ⟨Ar, nr, cr, Br, mr, dr, rfl, hq1, hq2⟩ := hg2.form
        have Gr := Lib.hid hg2
        clear hq1 hq2 hg2
        have ka0 := KA.out.cell 0
        have ka1 := KA.out.cell 1
        have ka2 := KA.out.cell 2
        have kb0 := KB.out.cell 0
        have kb1 := KB.out.cell 1
        have kb2 := KB.out.cell 2
        simp only [List.getElem?_toArray, List.getElem?_cons_zero, List.getElem?_cons_succ] at ka0 ka1 ka2 kb0 kb1 kb2
        have ltKAKQ := KA.out.lt
        have ltKBKQ := KB.out.lt
        have KQN := Lib.hid (Blk.new w1 24 #[.bool q.neg, .slice Aq nq cq, .slice Bq mq dq])
        have KA := Lib.hid (KA.out.to (below_one w1 (.cells #[.bool q.neg, .slice Aq nq cq, .slice Bq mq dq] 24)))
        have KB := Lib.hid (KB.out.to (below_one w1 (.cells #[.bool q.neg, .slice Aq nq cq, .slice Bq mq dq] 24)))
        have GA := Lib.hid (GA.out.to (below_one w1 (.cells #[.bool q.neg, .slice Aq nq cq, .slice Bq mq dq] 24)))
        have GB := Lib.hid (GB.out.to (below_one w1 (.cells #[.bool q.neg, .slice Aq nq cq, .slice Bq mq dq] 24)))
        have Gq := Lib.hid (Gq.out.to (below_one w1 (.cells #[.bool q.neg, .slice Aq nq cq, .slice Bq mq dq] 24)))
        have Gr := Lib.hid (Gr.out.to (below_one w1 (.cells #[.bool q.neg, .slice Aq nq cq, .slice Bq mq dq] 24)))
        have HBE : Hid (Below w.heap.size w (w1.alloc (.cells #[.bool q.neg, .slice Aq nq cq, .slice Bq mq dq] 24))) := HBE.out.trans (((below_one w1 (.cells #[.bool q.neg, .slice Aq nq cq, .slice Bq mq dq] 24))).mono HBE.out.size)
        have KQ := KQN
        clear KQN
        have neKAKQ : (w.heap.size = w1.heap.size) = False := eq_false (by omega)
        have neKQKA : (w1.heap.size = w.heap.size) = False := eq_false (by omega)
        have neKBKQ : (w.heap.size + 1 = w1.heap.size) = False := eq_false (by omega)
        have neKQKB : (w1.heap.size = w.heap.size + 1) = False := eq_false (by omega)
        have ltKAKR := KA.out.lt
        have ltKBKR := KB.out.lt
        have ltKQKR := KQ.out.lt
        have KRN := Lib.hid (Blk.new (w1.alloc (.cells #[.bool q.neg, .slice Aq nq cq, .slice Bq mq dq] 24)) 24 #[.bool r.neg, .slice Ar nr cr, .slice Br mr dr])
        have KA := Lib.hid (KA.out.to (below_one (w1.alloc (.cells #[.bool q.neg, .slice Aq nq cq, .slice Bq mq dq] 24)) (.cells #[.bool r.neg, .slice Ar nr cr, .slice Br mr dr] 24)))
        have KB := Lib.hid (KB.out.to (below_one (w1.alloc (.cells #[.bool q.neg, .slice Aq nq cq, .slice Bq mq dq] 24)) (.cells #[.bool r.neg, .slice Ar nr cr, .slice Br mr dr] 24)))
        have KQ := Lib.hid (KQ.out.to (below_one (w1.alloc (.cells #[.bool q.neg, .slice Aq nq cq, .slice Bq mq dq] 24)) (.cells #[.bool r.neg, .slice Ar nr cr, .slice Br mr dr] 24)))
        have GA := Lib.hid (GA.out.to (below_one (w1.alloc (.cells #[.bool q.neg, .slice Aq nq cq, .slice Bq mq dq] 24)) (.cells #[.bool r.neg, .slice Ar nr cr, .slice Br mr dr] 24)))
        have GB := Lib.hid (GB.out.to (below_one (w1.alloc (.cells #[.bool q.neg, .slice Aq nq cq, .slice Bq mq dq] 24)) (.cells #[.bool r.neg, .slice Ar nr cr, .slice Br mr dr] 24)))
        have Gq := Lib.hid (Gq.out.to (below_one (w1.alloc (.cells #[.bool q.neg, .slice Aq nq cq, .slice Bq mq dq] 24)) (.cells #[.bool r.neg, .slice Ar nr cr, .slice Br mr dr] 24)))
        have Gr := Lib.hid (Gr.out.to (below_one (w1.alloc (.cells #[.bool q.neg, .slice Aq nq cq, .slice Bq mq dq] 24)) (.cells #[.bool r.neg, .slice Ar nr cr, .slice Br mr dr] 24)))
        have HBE : Hid (Below w.heap.size w ((w1.alloc (.cells #[.bool q.neg, .slice Aq nq cq, .slice Bq mq dq] 24)).alloc (.cells #[.bool r.neg, .slice Ar nr cr, .slice Br mr dr] 24))) := HBE.out.trans (((below_one (w1.alloc (.cells #[.bool q.neg, .slice Aq nq cq, .slice Bq mq dq] 24)) (.cells #[.bool r.neg, .slice Ar nr cr, .slice Br mr dr] 24))).mono HBE.out.size)
        have KR : Hid (Blk ((w1.alloc (.cells #[.bool q.neg, .slice Aq nq cq, .slice Bq mq dq] 24)).alloc (.cells #[.bool r.neg, .slice Ar nr cr, .slice Br mr dr] 24)) (w1.heap.size + 1) 24 #[.bool r.neg, .slice Ar nr cr, .slice Br mr dr]) := by have h := KRN.out; rw [show (w1.alloc (.cells #[.bool q.neg, .slice Aq nq cq, .slice Bq mq dq] 24)).heap.size = w1.heap.size + 1 by simp] at h; exact h
        clear KRN
        have neKAKR : (w.heap.size = w1.heap.size + 1) = False := eq_false (by omega)
        have neKRKA : (w1.heap.size + 1 = w.heap.size) = False := eq_false (by omega)
        have neKBKR : (w.heap.size + 1 = w1.heap.size + 1) = False := eq_false (by omega)
        have neKRKB : (w1.heap.size + 1 = w.heap.size + 1) = False := eq_false (by omega)
        have neKQKR : (w1.heap.size = w1.heap.size + 1) = False := eq_false (by omega)
        have neKRKQ : (w1.heap.size + 1 = w1.heap.size) = False := eq_false (by omega)
        go_wp2_with fail
        refine (HQ.out _ _ _ (by exact GA.out) (by exact GB.out)).mono ?_
        rintro e w2 ⟨v, rfl, hg, hb⟩
        clear ka0 ka1 ka2 kb0 kb1 kb2
        have KA := Lib.hid (KA.out.to hb)
        have KB := Lib.hid (KB.out.to hb)
        have KQ := Lib.hid (KQ.out.to hb)
        have KR := Lib.hid (KR.out.to hb)
        have GA := Lib.hid (GA.out.to hb)
        have GB := Lib.hid (GB.out.to hb)
        have Gq := Lib.hid (Gq.out.to hb)
        have Gr := Lib.hid (Gr.out.to hb)
        have HBE : Hid (Below w.heap.size w w2) := HBE.out.trans ((hb).mono HBE.out.size)
        clear hb
        obtain ⟨Ax, nx, cx, Bx, mx, dx, rfl, hq1, hq2⟩ := hg.form
        have Gx := Lib.hid hg
        clear hq1 hq2 hg
        have ka0 := KA.out.cell 0
        have ka1 := KA.out.cell 1
        have ka2 := KA.out.cell 2
        have kb0 := KB.out.cell 0
        have kb1 := KB.out.cell 1
        have kb2 := KB.out.cell 2
        simp only [List.getElem?_toArray, List.getElem?_cons_zero, List.getElem?_cons_succ] at ka0 ka1 ka2 kb0 kb1 kb2
        have ltKAKX := KA.out.lt
        have ltKBKX := KB.out.lt
        have ltKQKX := KQ.out.lt
        have ltKRKX := KR.out.lt
        have KXN := Lib.hid (Blk.new w2 24 #[.bool q.neg, .slice Ax nx cx, .slice Bx mx dx])
        have KA := Lib.hid (KA.out.to (below_one w2 (.cells #[.bool q.neg, .slice Ax nx cx, .slice Bx mx dx] 24)))
        have KB := Lib.hid (KB.out.to (below_one w2 (.cells #[.bool q.neg, .slice Ax nx cx, .slice Bx mx dx] 24)))
        have KQ := Lib.hid (KQ.out.to (below_one w2 (.cells #[.bool q.neg, .slice Ax nx cx, .slice Bx mx dx] 24)))
        have KR := Lib.hid (KR.out.to (below_one w2 (.cells #[.bool q.neg, .slice Ax nx cx, .slice Bx mx dx] 24)))
        have GA := Lib.hid (GA.out.to (below_one w2 (.cells #[.bool q.neg, .slice Ax nx cx, .slice Bx mx dx] 24)))
        have GB := Lib.hid (GB.out.to (below_one w2 (.cells #[.bool q.neg, .slice Ax nx cx, .slice Bx mx dx] 24)))
        have Gq := Lib.hid (Gq.out.to (below_one w2 (.cells #[.bool q.neg, .slice Ax nx cx, .slice Bx mx dx] 24)))
        have Gr := Lib.hid (Gr.out.to (below_one w2 (.cells #[.bool q.neg, .slice Ax nx cx, .slice Bx mx dx] 24)))
        have Gx := Lib.hid (Gx.out.to (below_one w2 (.cells #[.bool q.neg, .slice Ax nx cx, .slice Bx mx dx] 24)))
        have HBE : Hid (Below w.heap.size w (w2.alloc (.cells #[.bool q.neg, .slice Ax nx cx, .slice Bx mx dx] 24))) := HBE.out.trans (((below_one w2 (.cells #[.bool q.neg, .slice Ax nx cx, .slice Bx mx dx] 24))).mono HBE.out.size)
        have KX := KXN
        clear KXN
        have neKAKX : (w.heap.size = w2.heap.size) = False := eq_false (by omega)
        have neKXKA : (w2.heap.size = w.heap.size) = False := eq_false (by omega)
        have neKBKX : (w.heap.size + 1 = w2.heap.size) = False := eq_false (by omega)
        have neKXKB : (w2.heap.size = w.heap.size + 1) = False := eq_false (by omega)
        have neKQKX : (w1.heap.size = w2.heap.size) = False := eq_false (by omega)
        have neKXKQ : (w2.heap.size = w1.heap.size) = False := eq_false (by omega)
        have neKRKX : (w1.heap.size + 1 = w2.heap.size) = False := eq_false (by omega)
        have neKXKR : (w2.heap.size = w1.heap.size + 1) = False := eq_false (by omega)
        go_wp2_with fail
        refine (HR.out _ _ _ (by exact GA.out) (by exact GB.out)).mono ?_
        rintro e w3 ⟨v, rfl, hg, hb⟩
        clear ka0 ka1 ka2 kb0 kb1 kb2
        have KA := Lib.hid (KA.out.to hb)
        have KB := Lib.hid (KB.out.to hb)
        have KQ := Lib.hid (KQ.out.to hb)
        have KR := Lib.hid (KR.out.to hb)
        have KX := Lib.hid (KX.out.to hb)
        have GA := Lib.hid (GA.out.to hb)
        have GB := Lib.hid (GB.out.to hb)
        have Gq := Lib.hid (Gq.out.to hb)
        have Gr := Lib.hid (Gr.out.to hb)
        have Gx := Lib.hid (Gx.out.to hb)
        have HBE : Hid (Below w.heap.size w w3) := HBE.out.trans ((hb).mono HBE.out.size)
        clear hb
        obtain ⟨Ay, ny, cy, By, my, dy, rfl, hq1, hq2⟩ := hg.form
        have Gy := Lib.hid hg
        clear hq1 hq2 hg
        have kq0 := KQ.out.cell 0
        have kq1 := KQ.out.cell 1
        have kq2 := KQ.out.cell 2
        have kx0 := KX.out.cell 0
        have kx1 := KX.out.cell 1
        have kx2 := KX.out.cell 2
        simp only [List.getElem?_toArray, List.getElem?_cons_zero, List.getElem?_cons_succ] at kq0 kq1 kq2 kx0 kx1 kx2
        have ltKAKY := KA.out.lt
        have ltKBKY := KB.out.lt
        have ltKQKY := KQ.out.lt
        have ltKRKY := KR.out.lt
        have ltKXKY := KX.out.lt
        have KYN := Lib.hid (Blk.new w3 24 #[.bool y.neg, .slice Ay ny cy, .slice By my dy])
        have KA := Lib.hid (KA.out.to (below_one w3 (.cells #[.bool y.neg, .slice Ay ny cy, .slice By my dy] 24)))
        have KB := Lib.hid (KB.out.to (below_one w3 (.cells #[.bool y.neg, .slice Ay ny cy, .slice By my dy] 24)))
        have KQ := Lib.hid (KQ.out.to (below_one w3 (.cells #[.bool y.neg, .slice Ay ny cy, .slice By my dy] 24)))
        have KR := Lib.hid (KR.out.to (below_one w3 (.cells #[.bool y.neg, .slice Ay ny cy, .slice By my dy] 24)))
        have KX := Lib.hid (KX.out.to (below_one w3 (.cells #[.bool y.neg, .slice Ay ny cy, .slice By my dy] 24)))
        have GA := Lib.hid (GA.out.to (below_one w3 (.cells #[.bool y.neg, .slice Ay ny cy, .slice By my dy] 24)))
        have GB := Lib.hid (GB.out.to (below_one w3 (.cells #[.bool y.neg, .slice Ay ny cy, .slice By my dy] 24)))
        have Gq := Lib.hid (Gq.out.to (below_one w3 (.cells #[.bool y.neg, .slice Ay ny cy, .slice By my dy] 24)))
        have Gr := Lib.hid (Gr.out.to (below_one w3 (.cells #[.bool y.neg, .slice Ay ny cy, .slice By my dy] 24)))
        have Gx := Lib.hid (Gx.out.to (below_one w3 (.cells #[.bool y.neg, .slice Ay ny cy, .slice By my dy] 24)))
        have Gy := Lib.hid (Gy.out.to (below_one w3 (.cells #[.bool y.neg, .slice Ay ny cy, .slice By my dy] 24)))
        have HBE : Hid (Below w.heap.size w (w3.alloc (.cells #[.bool y.neg, .slice Ay ny cy, .slice By my dy] 24))) := HBE.out.trans (((below_one w3 (.cells #[.bool y.neg, .slice Ay ny cy, .slice By my dy] 24))).mono HBE.out.size)
        have KY := KYN
        clear KYN
        have neKAKY : (w.heap.size = w3.heap.size) = False := eq_false (by omega)
        have neKYKA : (w3.heap.size = w.heap.size) = False := eq_false (by omega)
        have neKBKY : (w.heap.size + 1 = w3.heap.size) = False := eq_false (by omega)
        have neKYKB : (w3.heap.size = w.heap.size + 1) = False := eq_false (by omega)
        have neKQKY : (w1.heap.size = w3.heap.size) = False := eq_false (by omega)
        have neKYKQ : (w3.heap.size = w1.heap.size) = False := eq_false (by omega)
        have neKRKY : (w1.heap.size + 1 = w3.heap.size) = False := eq_false (by omega)
        have neKYKR : (w3.heap.size = w1.heap.size + 1) = False := eq_false (by omega)
        have neKXKY : (w2.heap.size = w3.heap.size) = False := eq_false (by omega)
        have neKYKX : (w3.heap.size = w2.heap.size) = False := eq_false (by omega)
        go_wp2_with fail
        refine (HSM.out _ _ _ _ (by exact Gq.out) (by exact Gx.out)).mono ?_
        rintro e w4 ⟨rfl, hb⟩
        clear kq0 kq1 kq2 kx0 kx1 kx2
        have KA := Lib.hid (KA.out.to hb)
        have KB := Lib.hid (KB.out.to hb)
        have KQ := Lib.hid (KQ.out.to hb)
        have KR := Lib.hid (KR.out.to hb)
        have KX := Lib.hid (KX.out.to hb)
        have KY := Lib.hid (KY.out.to hb)
        have GA := Lib.hid (GA.out.to hb)
        have GB := Lib.hid (GB.out.to hb)
        have Gq := Lib.hid (Gq.out.to hb)
        have Gr := Lib.hid (Gr.out.to hb)
        have Gx := Lib.hid (Gx.out.to hb)
        have Gy := Lib.hid (Gy.out.to hb)
        have HBE : Hid (Below w.heap.size w w4) := HBE.out.trans ((hb).mono HBE.out.size)
        clear hb
        have kr0 := KR.out.cell 0
        have kr1 := KR.out.cell 1
        have kr2 := KR.out.cell 2
        have ky0 := KY.out.cell 0
        have ky1 := KY.out.cell 1
        have ky2 := KY.out.cell 2
        simp only [List.getElem?_toArray, List.getElem?_cons_zero, List.getElem?_cons_succ] at kr0 kr1 kr2 ky0 ky1 ky2
        go_wp2_with fail
        refine (HSM.out _ _ _ r (by exact Gr.out) (by rw [← HYR.out]; exact Gy.out)).mono ?_
        rintro e w5 ⟨rfl, hb⟩
        clear kr0 kr1 kr2 ky0 ky1 ky2
        have KA := Lib.hid (KA.out.to hb)
        have KB := Lib.hid (KB.out.to hb)
        have KQ := Lib.hid (KQ.out.to hb)
        have KR := Lib.hid (KR.out.to hb)
        have KX := Lib.hid (KX.out.to hb)
        have KY := Lib.hid (KY.out.to hb)
        have GA := Lib.hid (GA.out.to hb)
        have GB := Lib.hid (GB.out.to hb)
        have Gq := Lib.hid (Gq.out.to hb)
        have Gr := Lib.hid (Gr.out.to hb)
        have Gx := Lib.hid (Gx.out.to hb)
        have Gy := Lib.hid (Gy.out.to hb)
        have HBE : Hid (Below w.heap.size w w5) := HBE.out.trans ((hb).mono HBE.out.size)
        clear hb
        have kq0 := KQ.out.cell 0
        have kq1 := KQ.out.cell 1
        have kq2 := KQ.out.cell 2
        have kb0 := KB.out.cell 0
        have kb1 := KB.out.cell 1
        have kb2 := KB.out.cell 2
        simp only [List.getElem?_toArray, List.getElem?_cons_zero, List.getElem?_cons_succ] at kq0 kq1 kq2 kb0 kb1 kb2
        go_wp2_with fail
        refine (HMU.out _ _ _ (by exact Gq.out) (by exact GB.out)).mono ?_
        rintro e w6 ⟨v, rfl, hg, hb⟩
        clear kq0 kq1 kq2 kb0 kb1 kb2
        have KA := Lib.hid (KA.out.to hb)
        have KB := Lib.hid (KB.out.to hb)
        have KQ := Lib.hid (KQ.out.to hb)
        have KR := Lib.hid (KR.out.to hb)
        have KX := Lib.hid (KX.out.to hb)
        have KY := Lib.hid (KY.out.to hb)
        have GA := Lib.hid (GA.out.to hb)
        have GB := Lib.hid (GB.out.to hb)
        have Gq := Lib.hid (Gq.out.to hb)
        have Gr := Lib.hid (Gr.out.to hb)
        have Gx := Lib.hid (Gx.out.to hb)
        have Gy := Lib.hid (Gy.out.to hb)
        have HBE : Hid (Below w.heap.size w w6) := HBE.out.trans ((hb).mono HBE.out.size)
        clear hb
        obtain ⟨Am, nm, cm, Bm, mm, dm, rfl, hq1, hq2⟩ := hg.form
        have Gm := Lib.hid hg
        clear hq1 hq2 hg
        have kr0 := KR.out.cell 0
        have kr1 := KR.out.cell 1
        have kr2 := KR.out.cell 2
        simp only [List.getElem?_toArray, List.getElem?_cons_zero, List.getElem?_cons_succ] at kr0 kr1 kr2
        have ltKAKM := KA.out.lt
        have ltKBKM := KB.out.lt
        have ltKQKM := KQ.out.lt
        have ltKRKM := KR.out.lt
        have ltKXKM := KX.out.lt
        have ltKYKM := KY.out.lt
        have KMN := Lib.hid (Blk.new w6 24 #[.bool m.neg, .slice Am nm cm, .slice Bm mm dm])
        have KA := Lib.hid (KA.out.to (below_one w6 (.cells #[.bool m.neg, .slice Am nm cm, .slice Bm mm dm] 24)))
        have KB := Lib.hid (KB.out.to (below_one w6 (.cells #[.bool m.neg, .slice Am nm cm, .slice Bm mm dm] 24)))
        have KQ := Lib.hid (KQ.out.to (below_one w6 (.cells #[.bool m.neg, .slice Am nm cm, .slice Bm mm dm] 24)))
        have KR := Lib.hid (KR.out.to (below_one w6 (.cells #[.bool m.neg, .slice Am nm cm, .slice Bm mm dm] 24)))
        have KX := Lib.hid (KX.out.to (below_one w6 (.cells #[.bool m.neg, .slice Am nm cm, .slice Bm mm dm] 24)))
        have KY := Lib.hid (KY.out.to (below_one w6 (.cells #[.bool m.neg, .slice Am nm cm, .slice Bm mm dm] 24)))
        have GA := Lib.hid (GA.out.to (below_one w6 (.cells #[.bool m.neg, .slice Am nm cm, .slice Bm mm dm] 24)))
        have GB := Lib.hid (GB.out.to (below_one w6 (.cells #[.bool m.neg, .slice Am nm cm, .slice Bm mm dm] 24)))
        have Gq := Lib.hid (Gq.out.to (below_one w6 (.cells #[.bool m.neg, .slice Am nm cm, .slice Bm mm dm] 24)))
        have Gr := Lib.hid (Gr.out.to (below_one w6 (.cells #[.bool m.neg, .slice Am nm cm, .slice Bm mm dm] 24)))
        have Gx := Lib.hid (Gx.out.to (below_one w6 (.cells #[.bool m.neg, .slice Am nm cm, .slice Bm mm dm] 24)))
        have Gy := Lib.hid (Gy.out.to (below_one w6 (.cells #[.bool m.neg, .slice Am nm cm, .slice Bm mm dm] 24)))
        have Gm := Lib.hid (Gm.out.to (below_one w6 (.cells #[.bool m.neg, .slice Am nm cm, .slice Bm mm dm] 24)))
        have HBE : Hid (Below w.heap.size w (w6.alloc (.cells #[.bool m.neg, .slice Am nm cm, .slice Bm mm dm] 24))) := HBE.out.trans (((below_one w6 (.cells #[.bool m.neg, .slice Am nm cm, .slice Bm mm dm] 24))).mono HBE.out.size)
        have KM := KMN
        clear KMN
        have neKAKM : (w.heap.size = w6.heap.size) = False := eq_false (by omega)
        have neKMKA : (w6.heap.size = w.heap.size) = False := eq_false (by omega)
        have neKBKM : (w.heap.size + 1 = w6.heap.size) = False := eq_false (by omega)
        have neKMKB : (w6.heap.size = w.heap.size + 1) = False := eq_false (by omega)
        have neKQKM : (w1.heap.size = w6.heap.size) = False := eq_false (by omega)
        have neKMKQ : (w6.heap.size = w1.heap.size) = False := eq_false (by omega)
        have neKRKM : (w1.heap.size + 1 = w6.heap.size) = False := eq_false (by omega)
        have neKMKR : (w6.heap.size = w1.heap.size + 1) = False := eq_false (by omega)
        have neKXKM : (w2.heap.size = w6.heap.size) = False := eq_false (by omega)
        have neKMKX : (w6.heap.size = w2.heap.size) = False := eq_false (by omega)
        have neKYKM : (w3.heap.size = w6.heap.size) = False := eq_false (by omega)
        have neKMKY : (w6.heap.size = w3.heap.size) = False := eq_false (by omega)
        go_wp2_with fail
        refine (HAD.out _ _ _ (by exact Gm.out) (by exact Gr.out)).mono ?_
        rintro e w7 ⟨v, rfl, hg, hb⟩
        clear kr0 kr1 kr2
        have KA := Lib.hid (KA.out.to hb)
        have KB := Lib.hid (KB.out.to hb)
        have KQ := Lib.hid (KQ.out.to hb)
        have KR := Lib.hid (KR.out.to hb)
        have KX := Lib.hid (KX.out.to hb)
        have KY := Lib.hid (KY.out.to hb)
        have KM := Lib.hid (KM.out.to hb)
        have GA := Lib.hid (GA.out.to hb)
        have GB := Lib.hid (GB.out.to hb)
        have Gq := Lib.hid (Gq.out.to hb)
        have Gr := Lib.hid (Gr.out.to hb)
        have Gx := Lib.hid (Gx.out.to hb)
        have Gy := Lib.hid (Gy.out.to hb)
        have Gm := Lib.hid (Gm.out.to hb)
        have HBE : Hid (Below w.heap.size w w7) := HBE.out.trans ((hb).mono HBE.out.size)
        clear hb
        obtain ⟨As, ns, cs, Bs, ms, ds, rfl, hq1, hq2⟩ := hg.form
        have Gs := Lib.hid hg
        clear hq1 hq2 hg
        have ka0 := KA.out.cell 0
        have ka1 := KA.out.cell 1
        have ka2 := KA.out.cell 2
        simp only [List.getElem?_toArray, List.getElem?_cons_zero, List.getElem?_cons_succ] at ka0 ka1 ka2
        have ltKAKS := KA.out.lt
        have ltKBKS := KB.out.lt
        have ltKQKS := KQ.out.lt
        have ltKRKS := KR.out.lt
        have ltKXKS := KX.out.lt
        have ltKYKS := KY.out.lt
        have ltKMKS := KM.out.lt
        have KSN := Lib.hid (Blk.new w7 24 #[.bool a0.neg, .slice As ns cs, .slice Bs ms ds])
        have KA := Lib.hid (KA.out.to (below_one w7 (.cells #[.bool a0.neg, .slice As ns cs, .slice Bs ms ds] 24)))
        have KB := Lib.hid (KB.out.to (below_one w7 (.cells #[.bool a0.neg, .slice As ns cs, .slice Bs ms ds] 24)))
        have KQ := Lib.hid (KQ.out.to (below_one w7 (.cells #[.bool a0.neg, .slice As ns cs, .slice Bs ms ds] 24)))
        have KR := Lib.hid (KR.out.to (below_one w7 (.cells #[.bool a0.neg, .slice As ns cs, .slice Bs ms ds] 24)))
        have KX := Lib.hid (KX.out.to (below_one w7 (.cells #[.bool a0.neg, .slice As ns cs, .slice Bs ms ds] 24)))
        have KY := Lib.hid (KY.out.to (below_one w7 (.cells #[.bool a0.neg, .slice As ns cs, .slice Bs ms ds] 24)))
        have KM := Lib.hid (KM.out.to (below_one w7 (.cells #[.bool a0.neg, .slice As ns cs, .slice Bs ms ds] 24)))
        have GA := Lib.hid (GA.out.to (below_one w7 (.cells #[.bool a0.neg, .slice As ns cs, .slice Bs ms ds] 24)))
        have GB := Lib.hid (GB.out.to (below_one w7 (.cells #[.bool a0.neg, .slice As ns cs, .slice Bs ms ds] 24)))
        have Gq := Lib.hid (Gq.out.to (below_one w7 (.cells #[.bool a0.neg, .slice As ns cs, .slice Bs ms ds] 24)))
        have Gr := Lib.hid (Gr.out.to (below_one w7 (.cells #[.bool a0.neg, .slice As ns cs, .slice Bs ms ds] 24)))
        have Gx := Lib.hid (Gx.out.to (below_one w7 (.cells #[.bool a0.neg, .slice As ns cs, .slice Bs ms ds] 24)))
        have Gy := Lib.hid (Gy.out.to (below_one w7 (.cells #[.bool a0.neg, .slice As ns cs, .slice Bs ms ds] 24)))
        have Gm := Lib.hid (Gm.out.to (below_one w7 (.cells #[.bool a0.neg, .slice As ns cs, .slice Bs ms ds] 24)))
        have Gs := Lib.hid (Gs.out.to (below_one w7 (.cells #[.bool a0.neg, .slice As ns cs, .slice Bs ms ds] 24)))
        have HBE : Hid (Below w.heap.size w (w7.alloc (.cells #[.bool a0.neg, .slice As ns cs, .slice Bs ms ds] 24))) := HBE.out.trans (((below_one w7 (.cells #[.bool a0.neg, .slice As ns cs, .slice Bs ms ds] 24))).mono HBE.out.size)
        have KS := KSN
        clear KSN
        have neKAKS : (w.heap.size = w7.heap.size) = False := eq_false (by omega)
        have neKSKA : (w7.heap.size = w.heap.size) = False := eq_false (by omega)
        have neKBKS : (w.heap.size + 1 = w7.heap.size) = False := eq_false (by omega)
        have neKSKB : (w7.heap.size = w.heap.size + 1) = False := eq_false (by omega)
        have neKQKS : (w1.heap.size = w7.heap.size) = False := eq_false (by omega)
        have neKSKQ : (w7.heap.size = w1.heap.size) = False := eq_false (by omega)
        have neKRKS : (w1.heap.size + 1 = w7.heap.size) = False := eq_false (by omega)
        have neKSKR : (w7.heap.size = w1.heap.size + 1) = False := eq_false (by omega)
        have neKXKS : (w2.heap.size = w7.heap.size) = False := eq_false (by omega)
        have neKSKX : (w7.heap.size = w2.heap.size) = False := eq_false (by omega)
        have neKYKS : (w3.heap.size = w7.heap.size) = False := eq_false (by omega)
        have neKSKY : (w7.heap.size = w3.heap.size) = False := eq_false (by omega)
        have neKMKS : (w6.heap.size = w7.heap.size) = False := eq_false (by omega)
        have neKSKM : (w7.heap.size = w6.heap.size) = False := eq_false (by omega)
        go_wp2_with fail
        refine (HSM.out _ _ _ _ (by exact Gs.out) (by exact GA.out)).mono ?_
        rintro e w8 ⟨rfl, hb⟩
        clear ka0 ka1 ka2
        have KA := Lib.hid (KA.out.to hb)
        have KB := Lib.hid (KB.out.to hb)
        have KQ := Lib.hid (KQ.out.to hb)
        have KR := Lib.hid (KR.out.to hb)
        have KX := Lib.hid (KX.out.to hb)
        have KY := Lib.hid (KY.out.to hb)
        have KM := Lib.hid (KM.out.to hb)
        have KS := Lib.hid (KS.out.to hb)
        have GA := Lib.hid (GA.out.to hb)
        have GB := Lib.hid (GB.out.to hb)
        have Gq := Lib.hid (Gq.out.to hb)
        have Gr := Lib.hid (Gr.out.to hb)
        have Gx := Lib.hid (Gx.out.to hb)
        have Gy := Lib.hid (Gy.out.to hb)
        have Gm := Lib.hid (Gm.out.to hb)
        have Gs := Lib.hid (Gs.out.to hb)
        have HBE : Hid (Below w.heap.size w w8) := HBE.out.trans ((hb).mono HBE.out.size)
        clear hb
        go_wp2_with fail
        refine (counted_any _).mono ?_
        rintro e wz ⟨rfl, hb⟩
        go_wp2_with fail
        go_ret
        exact ⟨rfl, HBE.out.trans (hb.mono HBE.out.size)⟩

theorem numberDivMod_holds : Rows.NumberDivModMatchesSpecCardSaid := LawDivMod.card law_divMod
#print axioms numberDivMod_holds
end Go.Proofs.YtdhgbnnopekfjaaGreatDoor

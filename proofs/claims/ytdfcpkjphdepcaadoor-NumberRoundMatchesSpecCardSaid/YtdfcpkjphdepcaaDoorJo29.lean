/- fetterlockref1.Floor. Conditions: at most 50000 digits. fetterlockref1.MulNat. Conditions: at most 50000 digits. number.compare, number.Compare; fetterlockref1.Cmp. fetterlockref1.Cmp. -/
import Derived.Deep.RegionHeld3
import Derived.Test.YtdfcpkjphdepcaaDoorJo13
import Derived.Test.YtdfcpkjphdepcaaDoorJo16
import Derived.Test.YtdfcpkjphdepcaaDoorJo23
import Derived.Test.YtdfcpkjphdepcaaDoorJo24
import Derived.Test.YtdfcpkjphdepcaaDoorJo26
import Derived.Test.YtdfcpkjphdepcaaDoorJo28
set_option linter.unusedVariables false
set_option linter.unusedSimpArgs false
namespace Go.Proofs.YtdfcpkjphdepcaaDoor
open Go.RowKit NumB
set_option linter.unusedVariables false
set_option linter.unusedSimpArgs false

theorem results_cellA {fn : Func} {p : Tmp} {ty : TypeId} (h : fn.results = #[.cell p ty]) (tmps : Array Value) (P : Program) (w : World) :
    (results fn tmps).run P w = ((asAddr (tmps.getD p undef)).run P w).andThen fun a w₁ => (loadVar ty a).run P w₁ := by
  simp only [results, h]
  simp [Sem.run_bind, Result.andThen]
theorem one16' (w : World) (g : Nat) (hg : w.heap.size = g) : Nat16 (w.alloc (.cells #[.int .i64 1] 3)) (.slice (some ⟨g, 0, none⟩) 1 1) 1 := by subst hg; exact one16 w

set_option maxRecDepth 100000 in
set_option maxHeartbeats 3200000 in
theorem rfloor_any (neg : Bool) (x y : Nat) (v : Value) (w : World) (h : RV w v neg x y) (hy0 : 0 < y) (hx : (digs W16 x).length ≤ 50000) (hy : (digs W16 y).length ≤ 50000) :
    Calls Tryd.prog 42 #[v] w (RVPost w (neg && decide (0 < flo neg x y)) (flo neg x y) 1) := by
  have HR0 := Lib.hid h
  obtain ⟨A, n, c, B, m, d, rfl, hq1, hq2⟩ := h.form
  clear hq1 hq2 h
  have HD : Hid (∀ (W : World) (va vb : Value), Nat16 W va x → Nat16 W vb y → Calls Tryd.prog 43 #[va, vb] W (RPost2 W (x / y) (x % y))) := fun W va vb h1 h2 => rdiv_any x y va vb W h1 h2 hy0 hx hy
  have HL : Hid ((digs W16 (x / y)).length ≤ 50000) := Nat.le_trans (digs_len_mono W16_gt (Nat.div_le_self _ _)) hx
  have HT : Hid (0 < x % y → flo true x y = x / y + 1) := fun h => flo_true h
  have HZ : Hid (x % y = 0 → ∀ up, flo up x y = x / y) := fun h up => flo_rest h
  have HF : Hid (flo false x y = x / y) := flo_false
  have KA := Lib.hid ((blk2 w 60 60 #[.bool neg, .slice A n c, .slice B m d] #[.bool false, .slice none 0 0, .slice none 0 0]).1)
  have KB := Lib.hid ((blk2 w 60 60 #[.bool neg, .slice A n c, .slice B m d] #[.bool false, .slice none 0 0, .slice none 0 0]).2)
  have HR := Lib.hid (HR0.out.to (below_two w (.cells #[.bool neg, .slice A n c, .slice B m d] 60) (.cells #[.bool false, .slice none 0 0, .slice none 0 0] 60)))
  have HBE := Lib.hid (below_two w (.cells #[.bool neg, .slice A n c, .slice B m d] 60) (.cells #[.bool false, .slice none 0 0, .slice none 0 0] 60))
  have FIN : Hid (∀ (W : World) (q : Nat) (vq : Value), Nat16 W vq q → Calls Tryd.prog 40 #[.bool neg, vq] W (RVPost W (neg && decide (0 < q)) q 1)) := fun W q vq h => rwhole_any neg q vq W h
  generalize x / y = q at *
  generalize x % y = r at *
  clear hx hy hy0
  by_cases hup : neg = true ∧ 0 < r
  · obtain ⟨rfl, h0⟩ := hup
    rw [HT.out h0]
    have HR0 := Lib.hid h0
    clear h0
    go_enter Tryd.func42, Tryd.ntmps42
    go_wp2_with fail
    refine (HD.out _ _ _ (by exact HR.out.parts.2.1) (by exact HR.out.parts.2.2)).mono ?_
    rintro e w1 ⟨vq, vr, rfl, hq, hr, hb⟩
    have KA := Lib.hid (KA.out.to hb)
    have KB := Lib.hid (KB.out.to hb)
    have HBE : Hid (Below w.heap.size w w1) := HBE.out.trans (hb.mono HBE.out.size)
    have HQ := Lib.hid hq
    obtain ⟨A2, n2, c2, rfl, hn2⟩ := hr.form
    have hn0 : 0 < n2 := (len_pos16 hn2).2 HR0.out
    obtain ⟨A3, n3, c3, rfl, hn3⟩ := hq.form
    clear hq hr hb hn2 hn3
    have ca0 := KA.out.cell 0
    simp only [List.getElem?_toArray, List.getElem?_cons_zero, List.getElem?_cons_succ] at ca0
    go_wp2_with fail
    refine (radd_any q 1 _ _ _ (by exact HQ.out.to (below_one _ _)) (by exact one16' _ _ rfl) (by have := HL.out; omega) (by rw [digs_one16]; decide)).mono ?_
    rintro e w2 ⟨v2, rfl, hn2, hb2⟩
    have hb : Below w1.heap.size w1 w2 := (below_one w1 _).trans (hb2.mono (below_one w1 _).size)
    have KA := Lib.hid (KA.out.to hb)
    have KB := Lib.hid (KB.out.to hb)
    have HBE : Hid (Below w.heap.size w w2) := HBE.out.trans (hb.mono HBE.out.size)
    have N2 := Lib.hid hn2
    clear hb hb2 hn2 ca0
    have ca0 := KA.out.cell 0
    simp only [List.getElem?_toArray, List.getElem?_cons_zero, List.getElem?_cons_succ] at ca0
    go_wp2_with fail
    refine (FIN.out _ _ _ (by exact N2.out)).mono ?_
    rintro e w3 ⟨v3, rfl, hr3, hb⟩
    have KB := Lib.hid (KB.out.to hb)
    have HBE : Hid (Below w.heap.size w w3) := HBE.out.trans (hb.mono HBE.out.size)
    have R3 := Lib.hid hr3
    obtain ⟨C1, q1, r1, C2, q2, r2, rfl, hz1, hz2⟩ := hr3.form
    clear hb hr3 hz1 hz2 ca0
    have cc0 := KB.out.cell 0
    have cc1 := KB.out.cell 1
    have cc2 := KB.out.cell 2
    simp only [List.getElem?_toArray, List.getElem?_cons_zero, List.getElem?_cons_succ] at cc0 cc1 cc2
    have fc0 := KB.out.frozen 0
    have fc1 := KB.out.frozen 1
    have fc2 := KB.out.frozen 2
    generalize (true && decide (0 < q + 1)) = s at *
    go_wp2_with fail
    refine bodyPost_ret (v := .agg #[.bool s, .slice C1 q1 r1, .slice C2 q2 r2]) (by rw [results_cellA rfl]; go_simp) rfl ?_
    exact ⟨_, rfl, R3.out.put3 KB.out _ _ _, put3_below HBE.out (by omega) _ _ _⟩
  · have HE : Hid (flo neg x y = q) := by
      rcases Nat.eq_zero_or_pos r with h | h
      · exact HZ.out h neg
      · have : neg = false := by cases neg with
          | false => rfl
          | true => exact absurd ⟨rfl, h⟩ hup
        rw [this]; exact HF.out
    rw [HE.out]
    have hcase : neg = false ∨ (neg = true ∧ r = 0) := by
      cases neg with
      | false => exact .inl rfl
      | true => exact .inr ⟨rfl, Nat.eq_zero_of_not_pos fun h0 => hup ⟨rfl, h0⟩⟩
    clear hup HE HT HZ HF HR0
    generalize hs : (neg && decide (0 < q)) = s at *
    have FINQ : Hid (∀ (W : World) (vq : Value), Nat16 W vq q → Calls Tryd.prog 40 #[.bool neg, vq] W (RVPost W s q 1)) := fun W vq h => by rw [← hs]; exact FIN.out W q vq h
    clear hs FIN
    have KA1 := KA
    have KB1 := KB
    have HBE1 := HBE
    clear KA KB HBE
    rcases hcase with rfl | ⟨rfl, rfl⟩
    · go_enter Tryd.func42, Tryd.ntmps42
      go_wp2_with fail
      refine (HD.out _ _ _ (by exact HR.out.parts.2.1) (by exact HR.out.parts.2.2)).mono ?_
      rintro e w1 ⟨vq, vr, rfl, hq, hr, hb⟩
      have KA := Lib.hid (KA1.out.to hb)
      have KB := Lib.hid (KB1.out.to hb)
      have HBE : Hid (Below w.heap.size w w1) := HBE1.out.trans (hb.mono HBE1.out.size)
      have HQ := Lib.hid hq
      obtain ⟨A2, n2, c2, rfl, hn2⟩ := hr.form
      obtain ⟨A3, n3, c3, rfl, hn3⟩ := hq.form
      have ca0 := KA.out.cell 0
      simp only [List.getElem?_toArray, List.getElem?_cons_zero, List.getElem?_cons_succ] at ca0
      clear hq hr hb hn2 hn3
      go_wp2_with fail
      refine (FINQ.out _ _ (by exact HQ.out)).mono ?_
      rintro e w3 ⟨v3, rfl, hr3, hb3⟩
      have KB3 := Lib.hid (KB.out.to hb3)
      have HBE3 : Hid (Below w.heap.size w w3) := HBE.out.trans (hb3.mono HBE.out.size)
      have R3 := Lib.hid hr3
      obtain ⟨C1, q1, r1, C2, q2, r2, rfl, hz1, hz2⟩ := hr3.form
      clear hb3 hr3 hz1 hz2 ca0
      have cc0 := KB3.out.cell 0
      have cc1 := KB3.out.cell 1
      have cc2 := KB3.out.cell 2
      simp only [List.getElem?_toArray, List.getElem?_cons_zero, List.getElem?_cons_succ] at cc0 cc1 cc2
      have fc0 := KB3.out.frozen 0
      have fc1 := KB3.out.frozen 1
      have fc2 := KB3.out.frozen 2
      go_wp2_with fail
      refine bodyPost_ret (v := .agg #[.bool s, .slice C1 q1 r1, .slice C2 q2 r2]) (by rw [results_cellA rfl]; go_simp) rfl ?_
      exact ⟨_, rfl, R3.out.put3 KB3.out _ _ _, put3_below HBE3.out (by omega) _ _ _⟩
    · go_enter Tryd.func42, Tryd.ntmps42
      go_wp2_with fail
      refine (HD.out _ _ _ (by exact HR.out.parts.2.1) (by exact HR.out.parts.2.2)).mono ?_
      rintro e w1 ⟨vq, vr, rfl, hq, hr, hb⟩
      have KA := Lib.hid (KA1.out.to hb)
      have KB := Lib.hid (KB1.out.to hb)
      have HBE : Hid (Below w.heap.size w w1) := HBE1.out.trans (hb.mono HBE1.out.size)
      have HQ := Lib.hid hq
      obtain ⟨A2, n2, c2, rfl, hn2⟩ := hr.form
      obtain ⟨A3, n3, c3, rfl, hn3⟩ := hq.form
      obtain rfl : n2 = 0 := by have := len_pos16 hn2; omega
      have ca0 := KA.out.cell 0
      simp only [List.getElem?_toArray, List.getElem?_cons_zero, List.getElem?_cons_succ] at ca0
      clear hq hr hb hn2 hn3
      go_wp2_with fail
      refine (FINQ.out _ _ (by exact HQ.out)).mono ?_
      rintro e w3 ⟨v3, rfl, hr3, hb3⟩
      have KB3 := Lib.hid (KB.out.to hb3)
      have HBE3 : Hid (Below w.heap.size w w3) := HBE.out.trans (hb3.mono HBE.out.size)
      have R3 := Lib.hid hr3
      obtain ⟨C1, q1, r1, C2, q2, r2, rfl, hz1, hz2⟩ := hr3.form
      clear hb3 hr3 hz1 hz2 ca0
      have cc0 := KB3.out.cell 0
      have cc1 := KB3.out.cell 1
      have cc2 := KB3.out.cell 2
      simp only [List.getElem?_toArray, List.getElem?_cons_zero, List.getElem?_cons_succ] at cc0 cc1 cc2
      have fc0 := KB3.out.frozen 0
      have fc1 := KB3.out.frozen 1
      have fc2 := KB3.out.frozen 2
      go_wp2_with fail
      refine bodyPost_ret (v := .agg #[.bool s, .slice C1 q1 r1, .slice C2 q2 r2]) (by rw [results_cellA rfl]; go_simp) rfl ?_
      exact ⟨_, rfl, R3.out.put3 KB3.out _ _ _, put3_below HBE3.out (by omega) _ _ _⟩
end Go.Proofs.YtdfcpkjphdepcaaDoor
namespace Go.Proofs.YtdfcpkjphdepcaaDoor
open Go.RowKit NumB
set_option linter.unusedVariables false
set_option linter.unusedSimpArgs false

theorem rmul_inner {out o2 ys : List Nat} {i k c x y o s : Nat} (hlen : i + k < o2.length) (ho : out.getD (i + k) 0 = o) (hy : ys.getD k 0 = y) (hs : s = c + (x * y + o))
    (h : val W16 (o2.take (i + k)) + W16 ^ (i + k) * c = val W16 (out.take (i + k)) + W16 ^ i * x * val W16 (ys.take k)) :
    val W16 ((o2.set (i + k) (s % 65536)).take (i + (k + 1))) + W16 ^ (i + (k + 1)) * (s / 65536) = val W16 (out.take (i + (k + 1))) + W16 ^ i * x * val W16 (ys.take (k + 1)) := by
  rw [← Nat.add_assoc, val_take_succ, val_take_succ, val_take_succ, take_set_lt _ _ _ _ (Nat.le_refl _), getD_set_self _ _ _ hlen, ho, hy, Nat.pow_succ]
  exact mul_alg hs (Nat.pow_add _ _ _) h W16
theorem rmul_outer {out o2 xs ys : List Nat} {i m k x Y : Nat} (hm : ys.length = m) (hY : val W16 ys = Y) (hx : xs.getD i 0 = x) (hk : k = m ∨ k = m + 1) (hz : ∀ q, i + m ≤ q → out.getD q 0 = 0) (hj : ∀ q, i + k ≤ q → o2.getD q 0 = out.getD q 0)
    (h : val W16 (o2.take (i + k)) + W16 ^ (i + k) * 0 = val W16 (out.take (i + k)) + W16 ^ i * x * val W16 (ys.take k)) (ho : val W16 (out.take (i + m)) = val W16 (xs.take i) * Y) :
    val W16 (o2.take (i + 1 + m)) = val W16 (xs.take (i + 1)) * Y := by
  rw [Nat.mul_zero, Nat.add_zero, val_take_all W16 ys (j := k) (by omega), hY] at h
  rw [val_take_succ W16 xs, hx, Nat.add_mul, ← ho]
  rcases hk with rfl | rfl
  · rw [show i + 1 + k = i + k + 1 from by omega, val_take_succ, hj _ (Nat.le_refl _), hz _ (Nat.le_refl _), Nat.mul_zero, Nat.add_zero]
    exact h
  · rw [show i + (m + 1) = i + m + 1 from by omega] at h
    rw [show i + 1 + m = i + m + 1 from by omega, h, val_take_succ, hz _ (Nat.le_refl _), Nat.mul_zero, Nat.add_zero]

set_option maxRecDepth 100000 in
set_option maxHeartbeats 6400000 in
theorem rmul_any (x y : Nat) (va vb : Value) (w : World) (ha : Nat16 w va x) (hb : Nat16 w vb y) (hx : (digs W16 x).length ≤ 50000) (hy : (digs W16 y).length ≤ 50000) :
    Calls Tryd.prog 66 #[va, vb] w (RPost w (x * y)) := by
  have HB0 := Lib.hid hb
  obtain ⟨A, ca, rfl, hca, hma, hra⟩ := ha
  obtain ⟨A', cb, rfl, hcb, hmb, hrb⟩ := hb
  unfold maxLen at hma hmb
  unfold Nat16 at HB0
  have HX := Lib.hid (And.intro (And.intro (val_digs W16_gt x) (val_digs W16_gt y)) (And.intro (ok_digs W16_gt x) (ok_digs W16_gt y)))
  generalize digs W16 x = xs at *
  generalize digs W16 y = ys at *
  generalize hn : xs.length = n at *
  generalize hm : ys.length = m at *
  have HRA := Lib.hid hra
  have HM := Lib.hid hm
  clear hra hrb hn hm
  obtain ⟨i0, hi0, hz0, hz1, hz2⟩ := info_parts info_i64
  have HI := Lib.hid hi0
  have HZ0 := Lib.hid hz0
  have HZ1 := Lib.hid hz1
  have HZ2 := Lib.hid hz2
  clear hi0 hz0 hz1 hz2
  go_enter Tryd.func66, Tryd.ntmps66
  go_wp2_with (at_make; refine wpList_make_full _ rfl _ _ 58 rfl w.heap.size 3 i0 (.int .i64 0) 1 Tryd.underlying58 HI.out HZ0.out HZ1.out .i64 .i64 _ _ (n + m + 1) rfl rfl (by omega) (by omega) (by rw [HZ2.out]; omega) (by unfold maxLen; omega) (Nat.le_refl _) ?_; intro w1 hown1 hg1)
  have HO1 := Lib.hid (Own.made hown1)
  have HB1 := Lib.hid ((Below.refl w.heap.size w).grown hg1 (Nat.le_refl _) (by simp))
  clear hown1 hg1
  go_loopg [19, 6, 7, 8, 9] n (fun gk si s6 s7 s8 s9 wr => ∃ (i : Nat) (out : List Nat), gk + i = n ∧ si = .int .i64 (i : Int) ∧ Hid (Own .i64 3 wr w.heap.size w.heap.size (n + m + 1) (n + m + 1) out) ∧ Hid (Ok W16 out) ∧ Hid (∀ q, i + m ≤ q → out.getD q 0 = 0) ∧ Hid (val W16 (out.take (i + m)) = val W16 (xs.take i) * y) ∧ Hid (Below w.heap.size w wr))
  case atStart => exact ⟨0, List.replicate (n + m + 1) 0, by omega, rfl, HO1.out, ok_replicate (by decide), fun q _ => getD_replicate _ _, by unfold Hid; rw [List.take_replicate, val_replicate]; simp, HB1.out⟩
  case round =>
    obtain ⟨i, out, hgi, rfl, HO, HOK, HZ, HE, HB⟩ := hrel
    obtain ⟨wo, rfl⟩ : ∃ wo : World, wo = wr := ⟨_, rfl⟩
    by_cases hi : i < n
    · obtain ⟨b, o, p, rfl, hb, hpe, hcp0⟩ := HRA.out.at_ (i := i) hi
      have hpb : p < 65536 := by rw [← hpe]; exact HX.out.2.1.getD (by decide) _
      have HP := Lib.hid hpe
      have HCP := Lib.hid hcp0
      clear hpe hcp0
      go_wp2_with fail
      go_loopg [7, 8, 9] (m + 2) (fun gk2 s7 s8 s9 wr => ∃ (k c : Nat) (o2 : List Nat), gk2 + k = m + 2 ∧ k ≤ m + 1 ∧ (k = m + 1 → c = 0) ∧ s8 = .int .i64 (k : Int) ∧ s7 = .int .i64 (c : Int) ∧ c < 65536 ∧ Hid (Own .i64 3 wr w.heap.size w.heap.size (n + m + 1) (n + m + 1) o2) ∧ Hid (Ok W16 o2) ∧ Hid (∀ q, i + k ≤ q → o2.getD q 0 = out.getD q 0) ∧ Hid (val W16 (o2.take (i + k)) + W16 ^ (i + k) * c = val W16 (out.take (i + k)) + W16 ^ i * p * val W16 (ys.take k)) ∧ Hid (Below w.heap.size w wr))
      case atStart => exact ⟨0, 0, out, by omega, by omega, fun _ => rfl, rfl, rfl, by omega, HO.out, HOK.out, fun _ _ => rfl, by unfold Hid; simp, HB.out⟩
      case round =>
        obtain ⟨k, c, o2, hgk, hkm, hkc, rfl, rfl, hc, HO2, HOK2, HJ2, HE2, HB2⟩ := hrel
        by_cases hex : m ≤ k ∧ c = 0
        · obtain ⟨hmk, rfl⟩ := hex
          have hnk : ¬ (k < m) := by omega
          clear hkc
          go_wp2
          go_roundg (n - (i + 1))
          case measure => omega
          case rel =>
            refine ⟨i + 1, o2, by omega, by go_num, HO2.out, HOK2.out, ?_, rmul_outer HM.out HX.out.1.2 HP.out (by omega) HZ.out HJ2.out HE2.out HE.out, HB2.out⟩
            intro q' hq'
            rw [HJ2.out q' (by omega)]
            exact HZ.out q' (by omega)
        · have hkm2 : k ≤ m := by
            rcases Nat.lt_or_ge m k with h | h
            · exact absurd ⟨by omega, hkc (by omega)⟩ hex
            · exact h
          have hcase : k < m ∨ (m ≤ k ∧ 0 < c) := by
            rcases Nat.lt_or_ge k m with h | h
            · exact .inl h
            · exact .inr ⟨h, Nat.pos_of_ne_zero fun h0 => hex ⟨h, h0⟩⟩
          obtain ⟨q, hqe⟩ : ∃ q, ys.getD k 0 = q := ⟨_, rfl⟩
          have hqb : q < 65536 := by rw [← hqe]; exact HX.out.2.2.getD (by decide) _
          have HQ0 : Hid (k = m → q = 0) := fun h => by rw [← hqe]; exact getD_ge (by rw [HM.out]; omega)
          have HQ := Lib.hid hqe
          clear hqe
          obtain ⟨r, hr⟩ : ∃ r, out.getD (i + k) 0 = r := ⟨_, rfl⟩
          have HR := Lib.hid hr
          have HR0 : Hid (k = m → r = 0) := fun h => by rw [← hr]; exact HZ.out _ (by omega)
          have hrb : r < 65536 := by rw [← hr]; exact HOK.out.getD (by decide) _
          have hcr : wr.cell? ⟨w.heap.size, i + k, none⟩ = some (.int .i64 (r : Int)) := by rw [← hr, ← HJ2.out _ (Nat.le_refl _)]; exact HO2.out.cell (by omega)
          have hcp : wr.cell? ⟨b, o + i, none⟩ = some (.int .i64 (p : Int)) := (HB2.out.cell (p := ⟨b, o + i, none⟩) hb).trans HCP.out
          clear hr hex hkc
          obtain ⟨pq, hpq⟩ : ∃ pq, pq = p * q := ⟨_, rfl⟩
          have HPQ := Lib.hid hpq
          have hpqb : pq ≤ 4294836225 := by rw [hpq]; exact Nat.mul_le_mul (show p ≤ 65535 by omega) (show q ≤ 65535 by omega)
          have hpqi : (p : Int) * (q : Int) = (pq : Int) := by rw [hpq, Int.natCast_mul]
          clear hpq
          have HSl : Hid (Sl .i64 wr (.slice A' m cb) ys) := HB0.out.to HB2.out
          have hi0 : (0 : Int) ≤ (i : Int) + (k : Int) := by omega
          have hi1 : (i : Int) + (k : Int) < ((n + m + 1 : Nat) : Int) := by omega
          have hi2 : (0 : Int) ≤ (i : Int) := by omega
          have hi3 : (i : Int) < (n : Int) := by omega
          have ht : ((i : Int) + (k : Int)).toNat = i + k := by omega
          have hw1 : IntKind.i64.wrap ((i : Int) + (k : Int)) = (i : Int) + (k : Int) := by rw [IntKind.wrap_i64]; omega
          have hw2 : IntKind.i64.wrap (pq : Int) = (pq : Int) := by rw [IntKind.wrap_i64]; omega
          have hw3 : IntKind.i64.wrap ((r : Int) + (pq : Int)) = (r : Int) + (pq : Int) := by rw [IntKind.wrap_i64]; omega
          have hw4 : IntKind.i64.wrap ((r : Int) + (pq : Int) + (c : Int)) = (r : Int) + (pq : Int) + (c : Int) := by rw [IntKind.wrap_i64]; omega
          rcases hcase with hlt | ⟨hkm3, hc0⟩
          all_goals
            try (have hnk : ¬ (k < m) := by omega)
            go_wp2
            go_quiet ((go_at_call 70; exact quietL (rdigit_eq ys _ k q _ (by exact HSl.out) (by omega) HQ.out)))
            clear hw2 hw3 hw4 hcp
            generalize hwq : wr.drewN nq = wq
            have HO3 : Hid (Own .i64 3 wq w.heap.size w.heap.size (n + m + 1) (n + m + 1) o2) := by rw [← hwq]; exact HO2.out
            have HB3 : Hid (Below w.heap.size w wq) := by rw [← hwq]; exact below_drewN HB2.out _
            have hcr2 : wq.cell? ⟨w.heap.size, i + k, none⟩ = some (.int .i64 (r : Int)) := by rw [← hwq]; exact hcr
            have hf := HO3.out.frozen (i + k)
            clear hwq hcr
            go_wp2
            go_roundg (gk - 1)
            case measure => omega
            case rel =>
              have el : ((r : Int) + (pq : Int) + (c : Int)) % 65536 = (((c + (pq + r)) % 65536 : Nat) : Int) := by omega
              have eh : ((r : Int) + (pq : Int) + (c : Int)) / 65536 = (((c + (pq + r)) / 65536 : Nat) : Int) := by omega
              rw [el, eh]
              refine ⟨k + 1, (c + (pq + r)) / 65536, o2.set (i + k) ((c + (pq + r)) % 65536), by omega, by omega, ?_, by go_num, rfl, by omega, HO3.out.stored _ _, HOK2.out.set (Nat.mod_lt _ (by decide)), ?_, rmul_inner (by rw [HO3.out.1]; omega) HR.out HQ.out (by rw [HPQ.out]) HE2.out, HB3.out.setCell (Nat.le_refl _) _⟩
              · intro hk1
                have hkm4 : k = m := by omega
                have h1 := HR0.out hkm4
                have h2 := HQ0.out hkm4
                have h3 := HPQ.out
                rw [h2, Nat.mul_zero] at h3
                omega
              · intro q' hq'
                rw [NumB.getD_set_ne _ _ _ _ (by omega)]
                exact HJ2.out q' (by omega)
    · obtain rfl : i = n := by omega
      clear hgi hi
      go_wp2_with (go_at_call 69; refine (rtrim_any out _ _ HO.out.sl HOK.out).mono ?_; rintro e w' ⟨v', rfl, hn', rfl⟩)
      go_ret
      have he := HE.out
      have hv : val W16 out = val W16 (out.take (i + m)) := by
        rw [← val_take_all W16 out (j := i + m + 1) (by rw [HO.out.1]; exact Nat.le_refl _), val_take_succ, HZ.out _ (Nat.le_refl _), Nat.mul_zero, Nat.add_zero]
      rw [hv, he, val_take_all W16 xs (by rw [HRA.out.1]; exact Nat.le_refl _), HX.out.1.1] at hn'
      exact ⟨_, rfl, hn', HB.out⟩
end Go.Proofs.YtdfcpkjphdepcaaDoor
namespace Go.Proofs.YtdfcpkjphdepcaaDoor
open Go.RowKit NumB
set_option linter.unusedVariables false
set_option linter.unusedSimpArgs false

/-- How two fractions compare. -/
def cmpQ (na : Bool) (xa ya : Nat) (nb : Bool) (xb yb : Nat) : Int := if na = nb then (if na then -cmpI (xa * yb) (xb * ya) else cmpI (xa * yb) (xb * ya)) else if na then -1 else 1
theorem cmpI_swap (x y : Nat) : cmpI y x = -cmpI x y := by unfold cmpI; split <;> split <;> (try split) <;> omega
theorem compare_B (x y : Nat) (va vb : Value) (w : World) (ha : Nat32 w va x) (hb : Nat32 w vb y) :
    Calls Tryd.prog 75 #[va, vb] w fun e w' => e = .returned (.int .i64 (cmpI x y)) ∧ Below w.heap.size w w' :=
  (compare_any x y va vb w ha hb).mono fun _ _ ⟨he, m, hm⟩ => ⟨he, by rw [hm]; exact below_of_drewN m⟩
theorem Two.drew2 {w : World} {na nb : Bool} {A1 A2 A3 A4 : Value} {xa ya xb yb : List Nat} (h : Two w na nb A1 A2 A3 A4 xa ya xb yb) (o1 o2 : Obj) : Two ((w.alloc o1).alloc o2).drew na nb A1 A2 A3 A4 xa ya xb yb := h.to (below_two w o1 o2).drew

end Go.Proofs.YtdfcpkjphdepcaaDoor
namespace Go.Proofs.YtdfcpkjphdepcaaDoor
open Go.RowKit NumB
set_option linter.unusedVariables false
set_option linter.unusedSimpArgs false

theorem digs16_len_mul (x y : Nat) : (digs W16 (x * y)).length ≤ (digs W16 x).length + (digs W16 y).length := by
  refine digs_len_le W16_gt ?_
  rw [Nat.pow_add]
  exact Nat.mul_lt_mul'' (digs_lt W16_gt) (digs_lt W16_gt)


/-- number.Compare at any two numbers. -/
def cmpS (a b : LN) : Int := cmpQ a.neg a.x a.y b.neg b.x b.y

end Go.Proofs.YtdfcpkjphdepcaaDoor

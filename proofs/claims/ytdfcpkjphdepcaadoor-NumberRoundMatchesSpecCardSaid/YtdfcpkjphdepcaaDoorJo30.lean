/- nat.Root; fetterlockref1.root. Conditions: at most 128 limbs, 256 digits. number.Mul, at any two numbers. -/
import Derived.Deep.RegionHeld3
import Derived.Test.YtdfcpkjphdepcaaDoorJo3
import Derived.Test.YtdfcpkjphdepcaaDoorJo4
import Derived.Test.YtdfcpkjphdepcaaDoorJo5
import Derived.Test.YtdfcpkjphdepcaaDoorJo8
import Derived.Test.YtdfcpkjphdepcaaDoorJo15
import Derived.Test.YtdfcpkjphdepcaaDoorJo16
import Derived.Test.YtdfcpkjphdepcaaDoorJo21
import Derived.Test.YtdfcpkjphdepcaaDoorJo26
import Derived.Test.YtdfcpkjphdepcaaDoorJo27
import Derived.Test.YtdfcpkjphdepcaaDoorJo29
set_option linter.unusedVariables false
set_option linter.unusedSimpArgs false
namespace Go.Proofs.YtdfcpkjphdepcaaDoor
open Go.RowKit NumB
set_option linter.unusedVariables false
set_option linter.unusedSimpArgs false

set_option maxRecDepth 100000 in
set_option maxHeartbeats 3200000 in
theorem nroot_any (x : Nat) (v : Value) (w : World) (h : Nat32 w v x) (hx : (digs W32 x).length ≤ 128) :
    Calls Tryd.prog 45 #[v] w (NPost w (isqrt x)) := by
  have HA := Lib.hid h
  obtain ⟨A, n, c, rfl, hn⟩ := h.form
  have hpos := len_pos32 hn
  have HBL : Hid (blen x ≤ 4096) := blen_digs32 hx
  rcases Nat.eq_zero_or_pos x with h0 | h0
  · obtain rfl : n = 0 := by omega
    have HI : Hid (isqrt x = 0) := isqrt_eq (by unfold IsRt; omega)
    clear h hn hpos h0
    go_enter Tryd.func45, Tryd.ntmps45
    go_wp2
    go_ret
    rw [HI.out]
    exact ⟨_, rfl, nat32_zero _, Below.refl _ _⟩
  · have hn0 : ((n : Int) == 0) = false := beq_eq_false_iff_ne.2 (by omega)
    have HR := Lib.hid (isqrt_spec x)
    have HRP := Lib.hid (isqrt_pos h0)
    have HST := Lib.hid (newton_start (a := x))
    have HXL := Lib.hid hx
    have HLEN : Hid (∀ (W : World), Nat32 W (.slice A n c) x → Calls Tryd.prog 72 #[.slice A n c] W fun e w' => e = .returned (.int .i64 (blen x : Int)) ∧ w' = W) := fun W hW => len_any x _ W hW (by omega)
    generalize isqrt x = r at *
    obtain ⟨l, hl⟩ : ∃ l, blen x = l := ⟨_, rfl⟩
    rw [hl] at HLEN HST HBL
    obtain ⟨k, hk, hkb, hks⟩ : ∃ k : Nat, ((l : Int) + 1) / 2 = (k : Int) ∧ k ≤ 3000 ∧ (l + 1) / 2 = k := ⟨(l + 1) / 2, by omega, by have := HBL.out; omega, rfl⟩
    rw [hks] at HST
    have HSH : Hid (∀ (W : World) (v : Value), Nat32 W v 1 → Calls Tryd.prog 71 #[v, .int .i64 (k : Int)] W fun e w' => ∃ v, e = .returned v ∧ Nat32 w' v (2 ^ k) ∧ Below W.heap.size W w') := fun W v hv => by
      have := shl_any 1 k v W hv (by rw [digs_one32]; decide) (by omega)
      rw [Nat.one_mul] at this
      exact this
    have HPL := Lib.hid (pow_len32 hkb)
    have hlb : l ≤ 4096 := HBL.out
    clear h hn hpos h0 hl hks hx
    go_enter Tryd.func45, Tryd.ntmps45
    go_wp2_with fail
    refine (HLEN.out _ (by exact HA.out.to (below_one _ _))).mono ?_
    rintro e w1 ⟨rfl, rfl⟩
    go_wp2_with fail
    refine (HSH.out _ _ (by exact one32' _ _ rfl)).mono ?_
    rintro e w1 ⟨v1, rfl, hn1, hb1⟩
    have HN1 := Lib.hid hn1
    have HB1 : Hid (Below w.heap.size w w1) := (below_one w _).trans (hb1.mono (below_one w _).size)
    clear hn1 hb1 hk
    generalize hp : 2 ^ k = p at *
    have HP : Hid (r ≤ p) := HST.out
    have HPP : Hid (0 < p) := by have := HRP.out; have := HP.out; unfold Hid; omega
    clear hp HST
    go_wp2_with fail
    go_loopg [3, 4, 5, 6, 7] p (fun gk s3 s4 s5 s6 s7 wr => Hid (Nat32 wr s3 gk ∧ r ≤ gk ∧ gk ≤ p ∧ Below w.heap.size w wr))
    case atStart => exact ⟨HN1.out, HP.out, Nat.le_refl _, HB1.out⟩
    case round =>
      obtain ⟨A3, n3, c3, hu3, hn3⟩ := hrel.out.1.form
      subst hu3
      clear hn3
      have HREL := Lib.hid hrel.out
      clear hrel
      have HG0 : Hid (0 < gk) := by have := HRP.out; have := HREL.out.2.1; unfold Hid; omega
      have HGL : Hid ((digs W32 gk).length ≤ 200) := Nat.le_trans (digs_len_mono W32_gt HREL.out.2.2.1) HPL.out
      have HDV : Hid (∀ (W : World) (u v : Value), Nat32 W u x → Nat32 W v gk → Calls Tryd.prog 60 #[u, v] W (DMPost W (x / gk) (x % gk))) := fun W u v h1 h2 => divMod_any x gk u v W h1 h2 (by have := HXL.out; omega) HG0.out
      have HQL : Hid ((digs W32 (x / gk)).length ≤ 128) := Nat.le_trans (digs_len_mono W32_gt (Nat.div_le_self _ _)) HXL.out
      have HPS : Hid (∀ (W : World) (u v : Value), Nat32 W u gk → Nat32 W v (x / gk) → Calls Tryd.prog 74 #[u, v] W (NPost W (gk + x / gk))) := fun W u v h1 h2 => plus_any _ _ u v W h1 h2 (by have := HGL.out; omega) (by have := HQL.out; omega)
      have HSL : Hid ((digs W32 (gk + x / gk)).length ≤ 201) := digs_len_add (n := 200) HGL.out (by have := HQL.out; omega)
      have HSR : Hid (∀ (W : World) (u : Value), Nat32 W u (gk + x / gk) → Calls Tryd.prog 73 #[u, .int .i64 1] W fun e w' => ∃ v b, e = .returned (.tuple #[v, .bool b]) ∧ Nat32 w' v ((gk + x / gk) / 2) ∧ Below W.heap.size W w') := fun W u h1 => (shr_any _ 1 u W h1 (by have := HSL.out; omega) (by omega)).mono fun e w' ⟨v, h1, h2, h3⟩ => ⟨v, _, h1, h2, h3⟩
      have HCM : Hid (∀ (W : World) (u v : Value), Nat32 W u ((gk + x / gk) / 2) → Nat32 W v gk → Calls Tryd.prog 75 #[u, v] W fun e w' => e = .returned (.int .i64 (cmpI ((gk + x / gk) / 2) gk)) ∧ ∃ m, w' = W.drewN m) := fun W u v h1 h2 => compare_any _ _ u v W h1 h2
      have HGE := Lib.hid (newton_ge HG0.out HR.out)
      have HEN : Hid (gk ≤ (gk + x / gk) / 2 → gk = r) := newton_end HG0.out HR.out HREL.out.2.1
      generalize (gk + x / gk) / 2 = nx at *
      generalize gk + x / gk = sm at *
      generalize x / gk = q at *
      generalize x % gk = rm at *
      have hcn := cmpI_nonneg (x := nx) (y := gk)
      generalize cmpI nx gk = z at *
      go_wp2_with fail
      refine (HDV.out _ _ _ (by exact HA.out.to HREL.out.2.2.2) (by exact HREL.out.1)).mono ?_
      rintro e w2 ⟨v2, u2, rfl, hq2, hr2, hb2⟩
      have HQ2 := Lib.hid hq2
      have HX2 := Lib.hid (HREL.out.1.to hb2)
      have HB2 : Hid (Below w.heap.size w w2) := HREL.out.2.2.2.trans (hb2.mono HREL.out.2.2.2.size)
      clear hq2 hr2 hb2
      go_wp2_with fail
      refine (HPS.out _ _ _ (by exact HX2.out) (by exact HQ2.out)).mono ?_
      rintro e w3 ⟨v3, rfl, hn3, hb3⟩
      have HN3 := Lib.hid hn3
      have HX3 := Lib.hid (HX2.out.to hb3)
      have HB3 : Hid (Below w.heap.size w w3) := HB2.out.trans (hb3.mono HB2.out.size)
      clear hn3 hb3 HX2 HB2
      go_wp2_with fail
      refine (HSR.out _ _ (by exact HN3.out)).mono ?_
      rintro e w4 ⟨v4, bb, rfl, hn4, hb4⟩
      have HN4 := Lib.hid hn4
      have HX4 := Lib.hid (HX3.out.to hb4)
      have HB4 : Hid (Below w.heap.size w w4) := HB3.out.trans (hb4.mono HB3.out.size)
      clear hn4 hb4 HX3 HB3
      go_wp2_with fail
      refine (HCM.out _ _ _ (by exact HN4.out) (by exact HX4.out)).mono ?_
      rintro e w5 ⟨rfl, m5, rfl⟩
      by_cases hz : 0 ≤ z
      · have HE : Hid (gk = r) := HEN.out (hcn.1 hz)
        clear hcn
        go_wp2
        go_ret
        exact ⟨_, rfl, by rw [← HE.out]; exact HX4.out.to (below_of_drewN m5), below_drewN HB4.out m5⟩
      · have hlt : nx < gk := by have := mt hcn.2 hz; omega
        clear hcn
        go_wp2
        go_roundg nx
        case measure => omega
        case rel => exact ⟨HN4.out.to (below_of_drewN m5), HGE.out, by have := HREL.out.2.2.1; omega, below_drewN HB4.out m5⟩
end Go.Proofs.YtdfcpkjphdepcaaDoor
namespace Go.Proofs.YtdfcpkjphdepcaaDoor
open Go.RowKit NumB
set_option linter.unusedVariables false
set_option linter.unusedSimpArgs false

theorem made_S (neg : Bool) (x y : Nat) (va vb : Value) (w : World) (ha : Nat32 w va x) (hb : Nat32 w vb y) (hy0 : 0 < y) (hx : (digs W32 x).length ≤ 50000) (hy : (digs W32 y).length ≤ 50000) :
    Calls Tryd.prog 30 #[.bool neg, va, vb] w (SPost w (fracS 0 neg x y)) := (made_any neg x y va vb w ha hb hy0 hx hy).mono fun _ _ h => FitPost.toS h
theorem GV.put3 {w : World} {v : Value} {a : LN} {s : Bool} {g : Nat} {t : TypeId} {A A' : Option Addr} {n m ca cb : Nat} (h : GV w v a) (hg : Blk w g t #[.bool s, .slice A n ca, .slice A' m cb]) (x y z : Value) : GV (put3 w g x y z) v a := by
  obtain ⟨A1, B1, e, h1, h2, h3⟩ := h
  exact ⟨A1, B1, e, Sl.boxed h1 hg noInts_num (Nat.le_of_eq (put3_size w g x y z).symm) (put3_far w g x y z), Sl.boxed h2 hg noInts_num (Nat.le_of_eq (put3_size w g x y z).symm) (put3_far w g x y z), h3⟩

set_option maxRecDepth 100000 in
set_option maxHeartbeats 6400000 in
theorem MulNum_ok (na nb : Bool) (xa ya xb yb : Nat) (A1 A2 A3 A4 : Value) (xsa ysa xsb ysb : List Nat) (w : World) (h : Two w na nb A1 A2 A3 A4 xsa ysa xsb ysb) (e1 : digs W32 xa = xsa) (e2 : digs W32 ya = ysa) (e3 : digs W32 xb = xsb) (e4 : digs W32 yb = ysb)
    (l1 : xsa.length ≤ 128) (l2 : ysa.length ≤ 128) (l3 : xsb.length ≤ 128) (l4 : ysb.length ≤ 128) (hya : 0 < ya) (hyb : 0 < yb)
    (HCK : Hid (∀ (W : World) (t : TypeId) (b cap : Nat), W.heap.size = b → Two W na nb A1 A2 A3 A4 xsa ysa xsb ysb → Calls Tryd.prog 26 #[.slice (some ⟨b, 0, none⟩) 2 cap] (W.alloc (.cells #[.bool na, A1, A2, .bool nb, A3, A4] t)) fun e w' => e = .returned (.int .i64 0) ∧ Below (W.alloc (.cells #[.bool na, A1, A2, .bool nb, A3, A4] t)).heap.size (W.alloc (.cells #[.bool na, A1, A2, .bool nb, A3, A4] t)) w')) :
    Calls Tryd.prog 12 #[.agg #[.bool na, A1, A2], .agg #[.bool nb, A3, A4]] w (SPost w (fracS 0 (na != nb) (xa * xb) (ya * yb))) := by
  have HT := Lib.hid h
  have hN : ∀ W : World, Two W na nb A1 A2 A3 A4 xsa ysa xsb ysb → Nat32 W A1 xa ∧ Nat32 W A2 ya ∧ Nat32 W A3 xb ∧ Nat32 W A4 yb := fun W hW => by
    unfold Nat32; rw [e1, e2, e3, e4]; exact hW
  have HN := Lib.hid hN
  have HL : Hid (((digs W32 xa).length ≤ 50000 ∧ (digs W32 ya).length ≤ 50000) ∧ ((digs W32 xb).length ≤ 50000 ∧ (digs W32 yb).length ≤ 50000)) := by rw [e1, e2, e3, e4]; exact ⟨⟨by omega, by omega⟩, by omega, by omega⟩
  have HM : Hid ((digs W32 (xa * xb)).length ≤ 50000 ∧ (digs W32 (ya * yb)).length ≤ 50000) := by
    have m1 := digs_len_mul xa xb
    have m2 := digs_len_mul ya yb
    rw [e1, e3] at m1
    rw [e2, e4] at m2
    exact ⟨by omega, by omega⟩
  have HD0 : Hid (0 < ya * yb) := Nat.mul_pos hya hyb
  obtain ⟨⟨B1, c1, rfl, _⟩, ⟨B2, c2, rfl, _⟩, ⟨B3, c3, rfl, _⟩, ⟨B4, c4, rfl, _⟩⟩ := h
  have HMD := Lib.hid (fun (u v : Value) (W : World) (a1 : Nat32 W u (xa * xb)) (a2 : Nat32 W v (ya * yb)) => made_S (na != nb) (xa * xb) (ya * yb) u v W a1 a2 HD0.out HM.out.1 HM.out.2)
  generalize hz1 : xsa.length = n1 at *
  generalize hz2 : ysa.length = n2 at *
  generalize hz3 : xsb.length = n3 at *
  generalize hz4 : ysb.length = n4 at *
  clear hz1 hz2 hz3 hz4 e1 e2 e3 e4 l1 l2 l3 l4 hya hyb hN
  have hkeep : ∀ W1 W' : World, Below W1.heap.size W1 W' → (W1.cell? ⟨w.heap.size, 0, none⟩ = some (.bool na) ∧ W1.cell? ⟨w.heap.size, 1, none⟩ = some (.slice B1 n1 c1) ∧ W1.cell? ⟨w.heap.size, 2, none⟩ = some (.slice B2 n2 c2) ∧ W1.cell? ⟨w.heap.size + 1, 0, none⟩ = some (.bool nb) ∧ W1.cell? ⟨w.heap.size + 1, 1, none⟩ = some (.slice B3 n3 c3) ∧ W1.cell? ⟨w.heap.size + 1, 2, none⟩ = some (.slice B4 n4 c4) ∧ w.heap.size + 2 < W1.heap.size) → (W'.cell? ⟨w.heap.size, 0, none⟩ = some (.bool na) ∧ W'.cell? ⟨w.heap.size, 1, none⟩ = some (.slice B1 n1 c1) ∧ W'.cell? ⟨w.heap.size, 2, none⟩ = some (.slice B2 n2 c2) ∧ W'.cell? ⟨w.heap.size + 1, 0, none⟩ = some (.bool nb) ∧ W'.cell? ⟨w.heap.size + 1, 1, none⟩ = some (.slice B3 n3 c3) ∧ W'.cell? ⟨w.heap.size + 1, 2, none⟩ = some (.slice B4 n4 c4) ∧ w.heap.size + 2 < W'.heap.size) := fun W1 W' h1 h2 => Box2.to (w := W1) (w' := W') (g := w.heap.size) h2 h1
  have HK := Lib.hid hkeep
  clear hkeep
  have HKP : Hid (∀ (W1 : World) (x y z : Value), (W1.cell? ⟨w.heap.size, 0, none⟩ = some (.bool na) ∧ W1.cell? ⟨w.heap.size, 1, none⟩ = some (.slice B1 n1 c1) ∧ W1.cell? ⟨w.heap.size, 2, none⟩ = some (.slice B2 n2 c2) ∧ W1.cell? ⟨w.heap.size + 1, 0, none⟩ = some (.bool nb) ∧ W1.cell? ⟨w.heap.size + 1, 1, none⟩ = some (.slice B3 n3 c3) ∧ W1.cell? ⟨w.heap.size + 1, 2, none⟩ = some (.slice B4 n4 c4) ∧ w.heap.size + 2 < W1.heap.size) → ((((W1.setCell ⟨w.heap.size + 1 + 1, 0, none⟩ x).setCell ⟨w.heap.size + 1 + 1, 1, none⟩ y).setCell ⟨w.heap.size + 1 + 1, 2, none⟩ z).cell? ⟨w.heap.size, 0, none⟩ = some (.bool na) ∧ (((W1.setCell ⟨w.heap.size + 1 + 1, 0, none⟩ x).setCell ⟨w.heap.size + 1 + 1, 1, none⟩ y).setCell ⟨w.heap.size + 1 + 1, 2, none⟩ z).cell? ⟨w.heap.size, 1, none⟩ = some (.slice B1 n1 c1) ∧ (((W1.setCell ⟨w.heap.size + 1 + 1, 0, none⟩ x).setCell ⟨w.heap.size + 1 + 1, 1, none⟩ y).setCell ⟨w.heap.size + 1 + 1, 2, none⟩ z).cell? ⟨w.heap.size, 2, none⟩ = some (.slice B2 n2 c2) ∧ (((W1.setCell ⟨w.heap.size + 1 + 1, 0, none⟩ x).setCell ⟨w.heap.size + 1 + 1, 1, none⟩ y).setCell ⟨w.heap.size + 1 + 1, 2, none⟩ z).cell? ⟨w.heap.size + 1, 0, none⟩ = some (.bool nb) ∧ (((W1.setCell ⟨w.heap.size + 1 + 1, 0, none⟩ x).setCell ⟨w.heap.size + 1 + 1, 1, none⟩ y).setCell ⟨w.heap.size + 1 + 1, 2, none⟩ z).cell? ⟨w.heap.size + 1, 1, none⟩ = some (.slice B3 n3 c3) ∧ (((W1.setCell ⟨w.heap.size + 1 + 1, 0, none⟩ x).setCell ⟨w.heap.size + 1 + 1, 1, none⟩ y).setCell ⟨w.heap.size + 1 + 1, 2, none⟩ z).cell? ⟨w.heap.size + 1, 2, none⟩ = some (.slice B4 n4 c4) ∧ w.heap.size + 2 < (((W1.setCell ⟨w.heap.size + 1 + 1, 0, none⟩ x).setCell ⟨w.heap.size + 1 + 1, 1, none⟩ y).setCell ⟨w.heap.size + 1 + 1, 2, none⟩ z).heap.size)) := fun W1 x y z ⟨h0, h1, h2, h3, h4, h5, h6⟩ =>
    ⟨(put3_far W1 (w.heap.size + 1 + 1) x y z ⟨w.heap.size, 0, none⟩ (by show w.heap.size ≠ _; omega)).trans h0, (put3_far W1 (w.heap.size + 1 + 1) x y z ⟨w.heap.size, 1, none⟩ (by show w.heap.size ≠ _; omega)).trans h1, (put3_far W1 (w.heap.size + 1 + 1) x y z ⟨w.heap.size, 2, none⟩ (by show w.heap.size ≠ _; omega)).trans h2, (put3_far W1 (w.heap.size + 1 + 1) x y z ⟨w.heap.size + 1, 0, none⟩ (by show w.heap.size + 1 ≠ _; omega)).trans h3, (put3_far W1 (w.heap.size + 1 + 1) x y z ⟨w.heap.size + 1, 1, none⟩ (by show w.heap.size + 1 ≠ _; omega)).trans h4, (put3_far W1 (w.heap.size + 1 + 1) x y z ⟨w.heap.size + 1, 2, none⟩ (by show w.heap.size + 1 ≠ _; omega)).trans h5, by rw [show ((W1.setCell ⟨w.heap.size + 1 + 1, 0, none⟩ x).setCell ⟨w.heap.size + 1 + 1, 1, none⟩ y).setCell ⟨w.heap.size + 1 + 1, 2, none⟩ z = put3 W1 (w.heap.size + 1 + 1) x y z from rfl, put3_size]; exact h6⟩
  generalize fracS 0 (na != nb) (xa * xb) (ya * yb) = r at *
  obtain ⟨rl, re⟩ := r
  go_enter Tryd.func12, Tryd.ntmps12
  go_wp2_with fail
  refine (HCK.out _ _ _ _ (by simp) (by exact HT.out.to (below_three w _ _ _))).mono ?_
  rintro e w1 ⟨rfl, hb1⟩
  have hb0 := (below_one _ _).trans (hb1.mono (below_one _ _).size)
  obtain ⟨k1, k2, k3⟩ := blk3 w 24 #[.bool na, .slice B1 n1 c1, .slice B2 n2 c2] #[.bool nb, .slice B3 n3 c3, .slice B4 n4 c4] #[.bool false, .slice none 0 0, .slice none 0 0]
  have hg1 := k1.to hb0
  have hg2 := k2.to hb0
  have HG3 := Lib.hid (k3.to hb0)
  have HT1 := Lib.hid ((HT.out.to (below_three w _ _ _)).to hb0)
  have HBL : Hid (Below w.heap.size w w1) := (below_three w _ _ _).trans (hb0.mono (below_three w _ _ _).size)
  have a0 := hg1.cell 0
  have a1 := hg1.cell 1
  have a2 := hg1.cell 2
  have b0 := hg2.cell 0
  have b1 := hg2.cell 1
  have b2 := hg2.cell 2
  have hsz : w.heap.size + 2 < w1.heap.size := HG3.out.lt
  clear k1 k2 k3 hg1 hg2 hb0 hb1 HT HCK
  simp only [List.getElem?_toArray, List.getElem?_cons_zero, List.getElem?_cons_succ] at a0 a1 a2 b0 b1 b2
  have HTD : Hid (Two w1.drew na nb (.slice B1 n1 c1) (.slice B2 n2 c2) (.slice B3 n3 c3) (.slice B4 n4 c4) xsa ysa xsb ysb) := HT1.out.to (Below.refl _ _).drew
  have hbne : (na != nb) = !(na == nb) := rfl
  rw [hbne] at HMD
  clear hbne
  have hne1 : (w.heap.size = w.heap.size + 1 + 1) = False := eq_false (by omega)
  have hne2 : (w.heap.size + 1 + 1 = w.heap.size) = False := eq_false (by omega)
  go_wp2_with fail
  go_region_held3 (fun w' => w'.cell? ⟨w.heap.size, 0, none⟩ = some (.bool na) ∧ w'.cell? ⟨w.heap.size, 1, none⟩ = some (.slice B1 n1 c1) ∧ w'.cell? ⟨w.heap.size, 2, none⟩ = some (.slice B2 n2 c2) ∧ w'.cell? ⟨w.heap.size + 1, 0, none⟩ = some (.bool nb) ∧ w'.cell? ⟨w.heap.size + 1, 1, none⟩ = some (.slice B3 n3 c3) ∧ w'.cell? ⟨w.heap.size + 1, 2, none⟩ = some (.slice B4 n4 c4) ∧ w.heap.size + 2 < w'.heap.size)
    (first | go_keep | (refine HKP.out _ _ _ _ ?_; go_keep) | (refine HK.out _ _ (by assumption) ?_; go_keep))
    (first
      | (go_at_call 34; ((with_reducible refine (mul_any xa xb (.slice B1 n1 c1) (.slice B3 n3 c3) _ (by exact (HN.out _ HTD.out).1) (by exact (HN.out _ HTD.out).2.2.1) HL.out.1.1 HL.out.2.1).mono ?_)); rintro e w2 ⟨v2, rfl, hn2, hb2⟩)
      | (go_at_call 34; ((with_reducible refine (mul_any ya yb (.slice B2 n2 c2) (.slice B4 n4 c4) _ (by exact (HN.out _ (HTD.out.to hb2)).2.1) (by exact (HN.out _ (HTD.out.to hb2)).2.2.2) HL.out.1.2 HL.out.2.2).mono ?_)); rintro e w3 ⟨v3, rfl, hn3, hb3⟩)
      | (go_at_call 30; ((with_reducible refine (HMD.out _ _ _ (by exact hn2.to hb3) (by exact hn3)).mono ?_)); rintro e w4 ⟨v4, rfl, hn4, hb4⟩; obtain ⟨A, _, c, B, _, d, rfl, rfl, rfl⟩ := hn4.form; have hblk := ((HG3.out.drew.to hb2).to hb3).to hb4; have hc0 := hblk.cell 0; have hc1 := hblk.cell 1; have hc2 := hblk.cell 2; have hf0 := hblk.frozen 0; have hf1 := hblk.frozen 1; have hf2 := hblk.frozen 2; simp only [List.getElem?_toArray, List.getElem?_cons_zero, List.getElem?_cons_succ] at hc0 hc1 hc2))
  all_goals
    go_wp2_with fail
    refine bodyPost_ret (v := .tuple #[.agg #[.bool rl.neg, .slice A rl.num.length c, .slice B rl.den.length d], .int .i64 re]) (by rw [results_cell_tmp rfl]; go_simp) rfl ⟨_, rfl, ?_, ?_⟩
    · exact hn4.put3 hblk _ _ _
    · exact put3_below ((((HBL.out.drew).trans (hb2.mono HBL.out.drew.size)).trans (hb3.mono (Nat.le_trans HBL.out.drew.size hb2.size))).trans (hb4.mono (Nat.le_trans (Nat.le_trans HBL.out.drew.size hb2.size) hb3.size))) (by omega) _ _ _

set_option maxRecDepth 100000 in
set_option maxHeartbeats 3200000 in
theorem MulNum_err (na nb : Bool) (xsa ysa xsb ysb : List Nat) (A1 A2 A3 A4 : Value) (w : World) (h : Two w na nb A1 A2 A3 A4 xsa ysa xsb ysb) (o1 : Ok W32 xsa) (o2 : Ok W32 ysa) (o3 : Ok W32 xsb) (o4 : Ok W32 ysb) (he : err2 (checkL na xsa ysa) (checkL nb xsb ysb) ≠ 0) :
    Calls Tryd.prog 12 #[.agg #[.bool na, A1, A2], .agg #[.bool nb, A3, A4]] w (SPost w (zeroL, err2 (checkL na xsa ysa) (checkL nb xsb ysb))) := by
  have HT := Lib.hid h
  obtain ⟨⟨B1, c1, rfl, _⟩, ⟨B2, c2, rfl, _⟩, ⟨B3, c3, rfl, _⟩, ⟨B4, c4, rfl, _⟩⟩ := h
  have hbd := err2_bd (checkL_bd na xsa ysa) (checkL_bd nb xsb ysb)
  have HCK := Lib.hid (fun (W : World) (t : TypeId) (b cap : Nat) (hb : W.heap.size = b) (hW : Two W na nb (.slice B1 xsa.length c1) (.slice B2 ysa.length c2) (.slice B3 xsb.length c3) (.slice B4 ysb.length c4) xsa ysa xsb ysb) => checks_two' hW o1 o2 o3 o4 t b cap hb)
  clear o1 o2 o3 o4
  generalize err2 (checkL na xsa ysa) (checkL nb xsb ysb) = er at *
  generalize hz1 : xsa.length = n1 at *
  generalize hz2 : ysa.length = n2 at *
  generalize hz3 : xsb.length = n3 at *
  generalize hz4 : ysb.length = n4 at *
  clear hz1 hz2 hz3 hz4
  have he1 : (er != 0) = true := by rw [bne_iff_ne]; exact he
  clear he
  go_enter Tryd.func12, Tryd.ntmps12
  go_wp2_with fail
  refine (HCK.out _ _ _ _ (by simp) (by exact HT.out.to (below_three w _ _ _))).mono ?_
  rintro e w1 ⟨rfl, hb1⟩
  have hb0 := (below_one _ _).trans (hb1.mono (below_one _ _).size)
  obtain ⟨k1, k2, k3⟩ := blk3 w 24 #[.bool na, .slice B1 n1 c1, .slice B2 n2 c2] #[.bool nb, .slice B3 n3 c3, .slice B4 n4 c4] #[.bool false, .slice none 0 0, .slice none 0 0]
  have hblk := k3.to hb0
  have HBE : Hid (Below w.heap.size w w1) := (below_three w _ _ _).trans (hb0.mono (below_three w _ _ _).size)
  clear k1 k2 k3 hb0 hb1
  have hc0 := hblk.cell 0
  have hc1 := hblk.cell 1
  have hc2 := hblk.cell 2
  have hf0 := hblk.frozen 0
  have hf1 := hblk.frozen 1
  have hf2 := hblk.frozen 2
  have HBLK := Lib.hid hblk
  clear hblk
  simp only [List.getElem?_toArray, List.getElem?_cons_zero, List.getElem?_cons_succ] at hc0 hc1 hc2
  go_wp2_with fail
  refine bodyPost_ret (v := .tuple #[zeroNum, .int .i64 er]) (by rw [results_cell_tmp rfl]; go_simp; rfl) rfl ⟨_, rfl, GV.zero _, ?_⟩
  exact put3_below HBE.out (by omega) _ _ _

theorem mulNum_S (a b : LN) (va vb : Value) (w : World) (ha : GV w va a) (hb : GV w vb b) : Calls Tryd.prog 12 #[va, vb] w (SPost w (mulS a b)) := by
  obtain ⟨A1, A2, rfl, h1, h2, o1, o2⟩ := ha
  obtain ⟨A3, A4, rfl, h3, h4, o3, o4⟩ := hb
  by_cases he : err2 a.err b.err = 0
  · obtain ⟨ea, eb⟩ := err2_zero.1 he
    obtain ⟨p1, p2, p3, p4, p5⟩ := LN.good ⟨o1, o2⟩ ea
    obtain ⟨q1, q2, q3, q4, q5⟩ := LN.good ⟨o3, o4⟩ eb
    have HCK : Hid (∀ (W : World) (t : TypeId) (b' cap : Nat), W.heap.size = b' → Two W a.neg b.neg A1 A2 A3 A4 a.num a.den b.num b.den → Calls Tryd.prog 26 #[.slice (some ⟨b', 0, none⟩) 2 cap] (W.alloc (.cells #[.bool a.neg, A1, A2, .bool b.neg, A3, A4] t)) fun e w' => e = .returned (.int .i64 0) ∧ Below (W.alloc (.cells #[.bool a.neg, A1, A2, .bool b.neg, A3, A4] t)).heap.size (W.alloc (.cells #[.bool a.neg, A1, A2, .bool b.neg, A3, A4] t)) w') := fun W t b' cap hb hW => by
      have h := checks_two' hW o1 o2 o3 o4 t b' cap hb
      rw [show err2 (checkL a.neg a.num a.den) (checkL b.neg b.num b.den) = 0 from he] at h
      exact h
    unfold mulS
    rw [he]
    exact MulNum_ok a.neg b.neg a.x a.y b.x b.y A1 A2 A3 A4 _ _ _ _ w ⟨h1, h2, h3, h4⟩ p1 p2 q1 q2 p3 p4 q3 q4 p5.1 q5.1 HCK
  · unfold mulS fracS opS
    rw [if_neg he]
    exact MulNum_err a.neg b.neg a.num a.den b.num b.den A1 A2 A3 A4 w ⟨h1, h2, h3, h4⟩ o1 o2 o3 o4 he
end Go.Proofs.YtdfcpkjphdepcaaDoor

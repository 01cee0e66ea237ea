/- nat.Power. Conditions: at most 128 limbs, not 0; an exponent of at most 5000; a limit of 128 limbs. fetterlockref1.Made, with the answer as a plain function. number.integers, at one number. number.Mul, at any two numbers. number.integers, at two numbers; number.whole. -/
import Derived.Deep.RegionHeld3
import Derived.Test.YtdfcpkjphdepcaaGreatDoorJo13
import Derived.Test.YtdfcpkjphdepcaaGreatDoorJo17
import Derived.Test.YtdfcpkjphdepcaaGreatDoorJo18
import Derived.Test.YtdfcpkjphdepcaaGreatDoorJo19
import Derived.Test.YtdfcpkjphdepcaaGreatDoorJo20
import Derived.Test.YtdfcpkjphdepcaaGreatDoorJo23
import Derived.Test.YtdfcpkjphdepcaaGreatDoorJo25
import Derived.Test.YtdfcpkjphdepcaaGreatDoorJo31
import Derived.Test.YtdfcpkjphdepcaaGreatDoorJo32
import Derived.Test.YtdfcpkjphdepcaaGreatDoorJo33
set_option linter.unusedVariables false
set_option linter.unusedSimpArgs false
namespace Go.Proofs.YtdfcpkjphdepcaaGreatDoor
open Go.RowKit NumB
set_option linter.unusedVariables false
set_option linter.unusedSimpArgs false

/-- Does the power have at most 128 limbs. -/
def powOk (x n : Nat) : Bool := decide ((digs W32 (x ^ n)).length ≤ 128)
/-- What nat.Power answers. -/
def PowPost (w : World) (x n : Nat) (e : Ending) (w' : World) : Prop := ∃ v, e = .returned (.tuple #[v, .bool (powOk x n)]) ∧ (powOk x n = true → Nat32 w' v (x ^ n)) ∧ Below w.heap.size w w'
theorem pow_bit (n j : Nat) (hn : n ≤ 5000) : bits .and .i64 ((n : Int) / 2 ^ j) 1 = ((n / 2 ^ j % 2 : Nat) : Int) := by
  have e : (n : Int) / 2 ^ j = ((n / 2 ^ j : Nat) : Int) := by rw [Int.natCast_ediv, Int.natCast_pow]; rfl
  rw [e]
  exact and_one_i64 _ (by have : n / 2 ^ j ≤ n := Nat.div_le_self _ _; omega)
theorem powOk_no {x n p : Nat} (h : p ≤ x ^ n) (hp : ¬ (digs W32 p).length ≤ 128) : powOk x n = false := by
  unfold powOk
  rw [decide_eq_false_iff_not]
  intro h2
  exact hp (Nat.le_trans (digs_len_mono W32_gt h) h2)

set_option maxRecDepth 100000 in
set_option maxHeartbeats 3200000 in
theorem npow_any (x n : Nat) (v : Value) (w : World) (h : Nat32 w v x) (hx : (digs W32 x).length ≤ 128) (hx0 : 0 < x) (hn : n ≤ 5000) :
    Calls Tryz.prog 50 #[v, .int .i64 (n : Int), .int .i64 128] w (PowPost w x n) := by
  have HA := Lib.hid h
  have HX := Lib.hid (And.intro hx hx0)
  have HH : Hid (∀ j, x ^ (n / 2 ^ j) = x ^ (n / 2 ^ (j + 1)) * x ^ (n / 2 ^ (j + 1)) * (if n / 2 ^ j % 2 = 1 then x else 1)) := fun j => pow_half x n j
  have HP : Hid (∀ j, x ^ (n / 2 ^ j) ≤ x ^ n) := fun j => pow_part hx0
  have HB : Hid (∀ j, bits .and .i64 ((n : Int) / 2 ^ j) 1 = ((n / 2 ^ j % 2 : Nat) : Int)) := fun j => pow_bit n j hn
  have HOK : Hid (∀ p, p ≤ x ^ n → ¬ (digs W32 p).length ≤ 128 → powOk x n = false) := fun p h1 h2 => powOk_no h1 h2
  have HYES : Hid ((digs W32 (x ^ n)).length ≤ 128 → powOk x n = true) := fun h => decide_eq_true h
  obtain ⟨l, hl, hlb, HL⟩ : ∃ l, blen n = l ∧ l ≤ 13 ∧ Hid (n < 2 ^ l) := ⟨_, rfl, blen_le (by omega), blen_lt n⟩
  have HLEN : Hid (∀ W : World, Calls Tryz.prog 78 #[.int .u64 (n : Int)] W fun e w' => e = .returned (.int .i64 (l : Int)) ∧ w' = W) := fun W => by
    have := Tryz.bits_Len (n : Int) W (by omega) (by omega)
    rw [Int.toNat_natCast, bitLen_eq (by omega), hl] at this
    exact this
  have HXV : Hid (∀ W W' : World, True) := fun _ _ => trivial
  clear h hx hx0 hl HXV
  go_enter Tryz.func50, Tryz.ntmps50
  go_wp2_with fail
  refine (HLEN.out _).mono ?_
  rintro e w1 ⟨rfl, rfl⟩
  go_wp2_with fail
  go_loopg [8, 9] l (fun gk s8 s9 wr => s9 = .int .i64 ((gk : Int) - 1) ∧ gk ≤ l ∧ Hid (Nat32 wr s8 (x ^ (n / 2 ^ gk)) ∧ (digs W32 (x ^ (n / 2 ^ gk))).length ≤ 128) ∧ Hid (Below w.heap.size w wr))
  case atStart =>
    have e : n / 2 ^ l = 0 := Nat.div_eq_of_lt HL.out
    refine ⟨rfl, Nat.le_refl _, ⟨?_, ?_⟩, below_one _ _⟩
    · rw [e, Nat.pow_zero]; exact one32' _ _ rfl
    · rw [e, Nat.pow_zero, digs_one32]; decide
  case round =>
    obtain ⟨rfl, hgk, HN, HBW⟩ := hrel
    rcases gk with _ | j
    · have HT : Hid (powOk x n = true ∧ Nat32 wr u8 (x ^ n)) := by
        have h := HN.out
        rw [Nat.pow_zero, Nat.div_one] at h
        exact ⟨HYES.out h.2, h.1⟩
      clear HN
      go_wp2
      go_ret2
      exact ⟨u8, by rw [HT.out.1]; rfl, fun _ => HT.out.2, HBW.out⟩
    · have hj : ((j + 1 : Nat) : Int) - 1 = (j : Int) := by omega
      rw [hj]
      have hjb : j < 13 := by omega
      have HHJ := Lib.hid (HH.out j)
      have HPJ := Lib.hid (HP.out j)
      have hand := HB.out j
      have hb2 : n / 2 ^ j % 2 = 0 ∨ n / 2 ^ j % 2 = 1 := by omega
      obtain ⟨q, HQ⟩ : ∃ q, Hid (x ^ (n / 2 ^ j) = q) := ⟨_, rfl⟩
      have HND : Hid (x ^ (n / 2 ^ j) = q → (digs W32 q).length ≤ 128 → ∀ (W : World) (u : Value), Nat32 W u q → Nat32 W u (x ^ (n / 2 ^ j)) ∧ (digs W32 (x ^ (n / 2 ^ j))).length ≤ 128) := fun h h1 W u h2 => by rw [h]; exact ⟨h2, h1⟩
      rw [HQ.out] at HHJ HPJ
      generalize x ^ (n / 2 ^ (j + 1)) = p at *
      have HMU : Hid (∀ (W : World) (u : Value), Nat32 W u p → Calls Tryz.prog 79 #[u, u] W (NPost W (p * p))) := fun W u h1 => mul_any p p u u W h1 h1 (by have := HN.out.2; omega) (by have := HN.out.2; omega)
      have HPP : Hid ((digs W32 (p * p)).length ≤ 256) := Nat.le_trans (digs_len_mul _ _) (by have := HN.out.2; omega)
      have HMX : Hid (∀ (W : World) (u v : Value), Nat32 W u (p * p) → Nat32 W v x → Calls Tryz.prog 79 #[u, v] W (NPost W (p * p * x))) := fun W u v h1 h2 => mul_any _ _ u v W h1 h2 (by have := HPP.out; omega) (by have := HX.out.1; omega)
      have HPX : Hid ((digs W32 (p * p * x)).length ≤ 384) := Nat.le_trans (digs_len_mul _ _) (by have := HPP.out; have := HX.out.1; omega)
      rcases hb2 with hb2 | hb2
      · rw [hb2] at hand HHJ
        have HE : Hid (q = p * p) := by have := HHJ.out; rw [if_neg (by decide), Nat.mul_one] at this; exact this
        clear hb2 HHJ
        go_wp2_with fail
        refine (HMU.out _ _ (by exact HN.out.1)).mono ?_
        rintro e w2 ⟨v2, rfl, hn2, hb⟩
        obtain ⟨A2, n2, c2, rfl, hl2⟩ := hn2.form
        have HN2 : Hid (Nat32 w2 (.slice A2 n2 c2) q) := by unfold Hid; rw [HE.out]; exact hn2
        have hl3 : n2 = (digs W32 q).length := by rw [HE.out]; exact hl2
        have HB2 : Hid (Below w.heap.size w w2) := HBW.out.trans (hb.mono HBW.out.size)
        have hlm : n2 ≤ 256 := by rw [hl2]; exact HPP.out
        clear hn2 hb hl2
        by_cases hfit : n2 ≤ 128
        · have HF : Hid ((digs W32 q).length ≤ 128) := by rw [← hl3]; exact hfit
          clear hl3
          go_wp2
          go_roundg j
          case measure => exact Nat.lt_succ_self _
          case rel => exact ⟨rfl, by omega, HND.out HQ.out HF.out _ _ HN2.out, HB2.out⟩
        · have HF : Hid (powOk x n = false) := HOK.out q HPJ.out (by rw [← hl3]; exact hfit)
          clear hl3
          go_wp2
          go_ret2
          exact ⟨.slice none 0 0, by rw [HF.out]; rfl, (fun h => by rw [HF.out] at h; cases h), HB2.out⟩
      · rw [hb2] at hand HHJ
        have HE : Hid (q = p * p * x) := by have := HHJ.out; rw [if_pos rfl] at this; exact this
        clear hb2 HHJ
        go_wp2_with fail
        refine (HMU.out _ _ (by exact HN.out.1)).mono ?_
        rintro e w2 ⟨v2, rfl, hn2, hb⟩
        have HN2 := Lib.hid hn2
        have HB2 : Hid (Below w.heap.size w w2) := HBW.out.trans (hb.mono HBW.out.size)
        clear hn2 hb
        go_wp2_with fail
        refine (HMX.out _ _ _ (by exact HN2.out) (by exact HA.out.to HB2.out)).mono ?_
        rintro e w3 ⟨v3, rfl, hn3, hb⟩
        obtain ⟨A2, n2, c2, rfl, hl2⟩ := hn3.form
        have HN3 : Hid (Nat32 w3 (.slice A2 n2 c2) q) := by unfold Hid; rw [HE.out]; exact hn3
        have hl3 : n2 = (digs W32 q).length := by rw [HE.out]; exact hl2
        have HB3 : Hid (Below w.heap.size w w3) := HB2.out.trans (hb.mono HB2.out.size)
        have hlm : n2 ≤ 384 := by rw [hl2]; exact HPX.out
        clear hn3 hb hl2
        by_cases hfit : n2 ≤ 128
        · have HF : Hid ((digs W32 q).length ≤ 128) := by rw [← hl3]; exact hfit
          clear hl3
          go_wp2
          go_roundg j
          case measure => exact Nat.lt_succ_self _
          case rel => exact ⟨rfl, by omega, HND.out HQ.out HF.out _ _ HN3.out, HB3.out⟩
        · have HF : Hid (powOk x n = false) := HOK.out q HPJ.out (by rw [← hl3]; exact hfit)
          clear hl3
          go_wp2
          go_ret2
          exact ⟨.slice none 0 0, by rw [HF.out]; rfl, (fun h => by rw [HF.out] at h; cases h), HB3.out⟩
end Go.Proofs.YtdfcpkjphdepcaaGreatDoor
namespace Go.Proofs.YtdfcpkjphdepcaaGreatDoor
open Go.RowKit NumB
set_option linter.unusedVariables false
set_option linter.unusedSimpArgs false

theorem GV.putM {w : World} {v : Value} {a : LN} {g : Nat} {t : TypeId} {s : Bool} {A A' : Option Addr} {n m ca cb : Nat} (h : GV w v a) (hg : Blk w g t #[.bool s, .slice A n ca, .slice A' m cb]) (x y z : Value) : GV (Go.Proofs.YtdfcpkjphdepcaaGreatDoor.put3 w g x y z) v a := by
  obtain ⟨p, q, e, h1, h2, h3⟩ := h
  exact ⟨p, q, e, Sl.boxed h1 hg noInts_num (Nat.le_of_eq (put3_size w g x y z).symm) (put3_far w g x y z), Sl.boxed h2 hg noInts_num (Nat.le_of_eq (put3_size w g x y z).symm) (put3_far w g x y z), h3⟩
theorem rmade_S2 (s : Bool) (x y : Nat) (v : Value) (w : World) (h : RV w v s x y) (hl1 : (digs W16 x).length ≤ 100000) (hl2 : (digs W16 y).length ≤ 100000) : Calls Tryz.prog 24 #[v] w (SPost w (opS 0 s x y)) := (rmade_any s x y v w h hl1 hl2).mono fun _ _ h => FitPost.toS h
end Go.Proofs.YtdfcpkjphdepcaaGreatDoor
namespace Go.Proofs.YtdfcpkjphdepcaaGreatDoor
open Go.RowKit NumB
set_option linter.unusedVariables false
set_option linter.unusedSimpArgs false

/-- What integers answers at one number. -/
def intErr (a : LN) : Int := if a.err = 0 then (if a.y = 1 then 0 else 7) else a.err

set_option maxRecDepth 100000 in
set_option maxHeartbeats 3200000 in
theorem integers_one (a : LN) (b cap : Nat) (A1 A2 : Value) (w : World) (t : TypeId) (hg : Blk w b t #[.bool a.neg, A1, A2]) (h : GV w (.agg #[.bool a.neg, A1, A2]) a) :
    Calls Tryz.prog 18 #[.slice (some ⟨b, 0, none⟩) 1 cap] w fun e w' => e = .returned (.int .i64 (intErr a)) ∧ Below w.heap.size w w' := by
  obtain ⟨_, g1, g2, gok⟩ := h.parts
  have HC : Hid (Calls Tryz.prog 46 #[.slice (some ⟨b, 0, none⟩) 1 cap] w fun e w' => e = .returned (.int .i64 a.err) ∧ Below w.heap.size w w') := checks_one b cap a.neg a.num a.den A1 A2 w t hg g1 g2 gok.1 gok.2
  have HBK := Lib.hid hg
  have hbd : 0 ≤ a.err ∧ a.err ≤ 3 := checkL_bd _ _ _
  obtain ⟨B1, n1, d1, B2, n2, d2, he, hq1, hq2⟩ := h.form
  clear hq1 hq2
  simp only [Value.agg.injEq, Array.mk.injEq, List.cons.injEq, and_true, true_and] at he
  obtain ⟨rfl, rfl⟩ := he
  by_cases e0 : a.err = 0
  · have HY : Hid (Nat32 w (.slice B2 n2 d2) a.y) := by
      have h2 := (LN.good gok e0).2.1
      unfold Hid Nat32
      rw [h2]; exact g2
    have HI : Hid (intErr a = if a.y = 1 then 0 else 7) := by unfold Hid intErr; rw [if_pos e0]
    rw [e0] at HC
    generalize intErr a = r at *
    generalize a.y = y at *
    generalize a.neg = ng at *
    clear h g1 g2 gok hg hbd e0
    go_enter Tryz.func18, Tryz.ntmps18
    go_wp2_with fail
    refine HC.out.mono ?_
    rintro e w1 ⟨rfl, hb1⟩
    have HB1 := Lib.hid hb1
    clear hb1
    go_wp2_with fail
    go_loopg [13, 5] 1 (fun gk s13 s5 wr => ∃ j : Nat, gk + j = 1 ∧ s13 = .int .i64 (j : Int) ∧ Hid (0 < j → y = 1) ∧ Hid (Below w.heap.size w wr))
    case atStart => exact ⟨0, by omega, rfl, by unfold Hid; omega, HB1.out⟩
    case round =>
      obtain ⟨j, hgj, rfl, HE, HB⟩ := hrel
      by_cases hj : j = 0
      · subst hj
        obtain rfl : gk = 1 := by omega
        have hk := HBK.out.to HB.out
        have c0 := hk.cell 0
        have c1 := hk.cell 1
        have c2 := hk.cell 2
        simp only [List.getElem?_toArray, List.getElem?_cons_zero, List.getElem?_cons_succ] at c0 c1 c2
        clear hk hgj
        by_cases hy : y = 1
        · have HO := Lib.hid (oneB_true hy)
          have HY1 := Lib.hid hy
          clear hy
          go_wp2_with fail
          refine (isOne_any y _ _ (by exact (HY.out.to HB.out).to (below_one _ _))).mono ?_
          rintro e w3 ⟨he, rfl⟩
          rw [HO.out] at he
          subst he
          go_wp2_with fail
          go_roundg 0
          case measure => omega
          case rel => exact ⟨1, by omega, by go_num, fun _ => HY1.out, HB.out.alloc HB.out.size _⟩
        · have HO := Lib.hid (oneB_false hy)
          have HY1 := Lib.hid hy
          clear hy
          go_wp2_with fail
          refine (isOne_any y _ _ (by exact (HY.out.to HB.out).to (below_one _ _))).mono ?_
          rintro e w3 ⟨he, rfl⟩
          rw [HO.out] at he
          subst he
          go_wp2_with fail
          go_ret
          rw [HI.out, if_neg HY1.out]
          exact ⟨rfl, HB.out.alloc HB.out.size _⟩
      · obtain rfl : j = 1 := by omega
        obtain rfl : gk = 0 := by omega
        have HY1 := Lib.hid (HE.out (by omega))
        clear hgj hj
        go_wp2_with fail
        go_ret
        rw [HI.out, if_pos HY1.out]
        exact ⟨rfl, HB.out⟩
  · have b0 : (a.err != 0) = true := by rw [bne_iff_ne]; exact e0
    have HI : Hid (intErr a = a.err) := by unfold Hid intErr; rw [if_neg e0]
    generalize intErr a = r at *
    generalize a.err = z at *
    clear h g1 g2 gok hg e0
    go_enter Tryz.func18, Tryz.ntmps18
    go_wp2_with fail
    refine HC.out.mono ?_
    rintro e w1 ⟨rfl, hb1⟩
    have HB1 := Lib.hid hb1
    clear hb1
    go_wp2_with fail
    go_ret
    rw [HI.out]
    exact ⟨rfl, HB1.out⟩
end Go.Proofs.YtdfcpkjphdepcaaGreatDoor
namespace Go.Proofs.YtdfcpkjphdepcaaGreatDoor
open Go.RowKit NumB
set_option linter.unusedVariables false
set_option linter.unusedSimpArgs false

theorem made_S (neg : Bool) (x y : Nat) (va vb : Value) (w : World) (ha : Nat32 w va x) (hb : Nat32 w vb y) (hy0 : 0 < y) (hx : (digs W32 x).length ≤ 50000) (hy : (digs W32 y).length ≤ 50000) :
    Calls Tryz.prog 49 #[.bool neg, va, vb] w (SPost w (fracS 0 neg x y)) := (made_any neg x y va vb w ha hb hy0 hx hy).mono fun _ _ h => FitPost.toS h
theorem GV.put3 {w : World} {v : Value} {a : LN} {s : Bool} {g : Nat} {t : TypeId} {A A' : Option Addr} {n m ca cb : Nat} (h : GV w v a) (hg : Blk w g t #[.bool s, .slice A n ca, .slice A' m cb]) (x y z : Value) : GV (put3 w g x y z) v a := by
  obtain ⟨A1, B1, e, h1, h2, h3⟩ := h
  exact ⟨A1, B1, e, Sl.boxed h1 hg noInts_num (Nat.le_of_eq (put3_size w g x y z).symm) (put3_far w g x y z), Sl.boxed h2 hg noInts_num (Nat.le_of_eq (put3_size w g x y z).symm) (put3_far w g x y z), h3⟩

end Go.Proofs.YtdfcpkjphdepcaaGreatDoor
namespace Go.Proofs.YtdfcpkjphdepcaaGreatDoor
open Go.RowKit NumB
set_option linter.unusedVariables false
set_option linter.unusedSimpArgs false

/-- What integers answers at two numbers. -/
def intErr2 (a b : LN) : Int := if err2 a.err b.err = 0 then (if a.y = 1 ∧ b.y = 1 then 0 else 7) else err2 a.err b.err
theorem intErr2_bd (a b : LN) : 0 ≤ intErr2 a b ∧ intErr2 a b ≤ 7 := by
  have h : 0 ≤ err2 a.err b.err ∧ err2 a.err b.err ≤ 3 := err2_bd (checkL_bd _ _ _) (checkL_bd _ _ _)
  unfold intErr2
  split
  · split <;> omega
  · omega

set_option maxRecDepth 100000 in
set_option maxHeartbeats 3200000 in
theorem integers_two (a a' : LN) (b cap : Nat) (A1 A2 A3 A4 : Value) (w : World) (t : TypeId) (hg : Blk w b t #[.bool a.neg, A1, A2, .bool a'.neg, A3, A4]) (h : GV w (.agg #[.bool a.neg, A1, A2]) a) (h' : GV w (.agg #[.bool a'.neg, A3, A4]) a') :
    Calls Tryz.prog 18 #[.slice (some ⟨b, 0, none⟩) 2 cap] w fun e w' => e = .returned (.int .i64 (intErr2 a a')) ∧ Below w.heap.size w w' := by
  obtain ⟨_, g1, g2, gok⟩ := h.parts
  obtain ⟨_, g3, g4, gok'⟩ := h'.parts
  have HC : Hid (Calls Tryz.prog 46 #[.slice (some ⟨b, 0, none⟩) 2 cap] w fun e w' => e = .returned (.int .i64 (err2 a.err a'.err)) ∧ Below w.heap.size w w') := checks_two b cap a.neg a'.neg a.num a.den a'.num a'.den A1 A2 A3 A4 w t hg g1 g2 g3 g4 gok.1 gok.2 gok'.1 gok'.2
  have HBK := Lib.hid hg
  have hbd : 0 ≤ err2 a.err a'.err ∧ err2 a.err a'.err ≤ 3 := err2_bd (checkL_bd _ _ _) (checkL_bd _ _ _)
  obtain ⟨B1, n1, d1, B2, n2, d2, he, hq1, hq2⟩ := h.form
  clear hq1 hq2
  simp only [Value.agg.injEq, Array.mk.injEq, List.cons.injEq, and_true, true_and] at he
  obtain ⟨rfl, rfl⟩ := he
  obtain ⟨B3, n3, d3, B4, n4, d4, he, hq1, hq2⟩ := h'.form
  clear hq1 hq2
  simp only [Value.agg.injEq, Array.mk.injEq, List.cons.injEq, and_true, true_and] at he
  obtain ⟨rfl, rfl⟩ := he
  by_cases e0 : err2 a.err a'.err = 0
  · have HY : Hid (Nat32 w (.slice B2 n2 d2) a.y ∧ Nat32 w (.slice B4 n4 d4) a'.y) := by
      have h2 := (LN.good gok (err2_zero.1 e0).1).2.1
      have h4 := (LN.good gok' (err2_zero.1 e0).2).2.1
      refine ⟨?_, ?_⟩
      · unfold Nat32; rw [h2]; exact g2
      · unfold Nat32; rw [h4]; exact g4
    have HI : Hid (intErr2 a a' = if a.y = 1 ∧ a'.y = 1 then 0 else 7) := by unfold Hid intErr2; rw [if_pos e0]
    rw [e0] at HC
    generalize intErr2 a a' = r at *
    generalize a.y = y at *
    generalize a'.y = y' at *
    generalize a.neg = ng at *
    generalize a'.neg = ng' at *
    clear h h' g1 g2 g3 g4 gok gok' hg hbd e0
    go_enter Tryz.func18, Tryz.ntmps18
    go_wp2_with fail
    refine HC.out.mono ?_
    rintro e w1 ⟨rfl, hb1⟩
    have HB1 := Lib.hid hb1
    clear hb1
    go_wp2_with fail
    go_loopg [13, 5] 2 (fun gk s13 s5 wr => ∃ j : Nat, gk + j = 2 ∧ s13 = .int .i64 (j : Int) ∧ Hid ((0 < j → y = 1) ∧ (1 < j → y' = 1)) ∧ Hid (Below w.heap.size w wr))
    case atStart => exact ⟨0, by omega, rfl, ⟨by omega, by omega⟩, HB1.out⟩
    case round =>
      obtain ⟨j, hgj, rfl, HE, HB⟩ := hrel
      have hk := HBK.out.to HB.out
      have c0 := hk.cell 0
      have c1 := hk.cell 1
      have c2 := hk.cell 2
      have c3 := hk.cell 3
      have c4 := hk.cell 4
      have c5 := hk.cell 5
      simp only [List.getElem?_toArray, List.getElem?_cons_zero, List.getElem?_cons_succ] at c0 c1 c2 c3 c4 c5
      clear hk
      by_cases hj : j = 0
      · subst hj
        obtain rfl : gk = 2 := by omega
        clear hgj c3 c4 c5
        by_cases hy : y = 1
        · have HO := Lib.hid (oneB_true hy)
          have HY1 := Lib.hid hy
          clear hy
          go_wp2_with fail
          refine (isOne_any y _ _ (by exact (HY.out.1.to HB.out).to (below_one _ _))).mono ?_
          rintro e w3 ⟨he, rfl⟩
          rw [HO.out] at he
          subst he
          go_wp2_with fail
          go_roundg 1
          case measure => omega
          case rel => exact ⟨1, by omega, by go_num, ⟨fun _ => HY1.out, fun h => absurd h (by omega)⟩, HB.out.alloc HB.out.size _⟩
        · have HO := Lib.hid (oneB_false hy)
          have HY1 := Lib.hid hy
          clear hy
          go_wp2_with fail
          refine (isOne_any y _ _ (by exact (HY.out.1.to HB.out).to (below_one _ _))).mono ?_
          rintro e w3 ⟨he, rfl⟩
          rw [HO.out] at he
          subst he
          go_wp2_with fail
          go_ret
          rw [HI.out, if_neg (fun h => HY1.out h.1)]
          exact ⟨rfl, HB.out.alloc HB.out.size _⟩
      · by_cases hj1 : j = 1
        · subst hj1
          obtain rfl : gk = 1 := by omega
          clear hgj c0 c1 c2 hj
          by_cases hy : y' = 1
          · have HO := Lib.hid (oneB_true hy)
            have HY1 := Lib.hid hy
            clear hy
            go_wp2_with fail
            refine (isOne_any y' _ _ (by exact (HY.out.2.to HB.out).to (below_one _ _))).mono ?_
            rintro e w3 ⟨he, rfl⟩
            rw [HO.out] at he
            subst he
            go_wp2_with fail
            go_roundg 0
            case measure => omega
            case rel => exact ⟨2, by omega, by go_num, ⟨fun _ => HE.out.1 (by omega), fun _ => HY1.out⟩, HB.out.alloc HB.out.size _⟩
          · have HO := Lib.hid (oneB_false hy)
            have HY1 := Lib.hid hy
            clear hy
            go_wp2_with fail
            refine (isOne_any y' _ _ (by exact (HY.out.2.to HB.out).to (below_one _ _))).mono ?_
            rintro e w3 ⟨he, rfl⟩
            rw [HO.out] at he
            subst he
            go_wp2_with fail
            go_ret
            rw [HI.out, if_neg (fun h => HY1.out h.2)]
            exact ⟨rfl, HB.out.alloc HB.out.size _⟩
        · obtain rfl : j = 2 := by omega
          obtain rfl : gk = 0 := by omega
          have HY1 : Hid (y = 1 ∧ y' = 1) := ⟨HE.out.1 (by omega), HE.out.2 (by omega)⟩
          clear hgj hj hj1 c0 c1 c2 c3 c4 c5
          go_wp2_with fail
          go_ret
          rw [HI.out, if_pos HY1.out]
          exact ⟨rfl, HB.out⟩
  · have b0 : (err2 a.err a'.err != 0) = true := by rw [bne_iff_ne]; exact e0
    have HI : Hid (intErr2 a a' = err2 a.err a'.err) := by unfold Hid intErr2; rw [if_neg e0]
    generalize intErr2 a a' = r at *
    generalize err2 a.err a'.err = z at *
    clear h h' g1 g2 g3 g4 gok gok' hg e0
    go_enter Tryz.func18, Tryz.ntmps18
    go_wp2_with fail
    refine HC.out.mono ?_
    rintro e w1 ⟨rfl, hb1⟩
    have HB1 := Lib.hid hb1
    clear hb1
    go_wp2_with fail
    go_ret
    rw [HI.out]
    exact ⟨rfl, HB1.out⟩

set_option maxRecDepth 100000 in
set_option maxHeartbeats 3200000 in
theorem whole_S (neg : Bool) (x : Nat) (va : Value) (w : World) (ha : Nat32 w va x) (hx : (digs W32 x).length ≤ 50000) :
    Calls Tryz.prog 19 #[.bool neg, va] w (SPost w (fracS 0 neg x 1)) := by
  have HN := Lib.hid ha
  have HBK := Lib.hid (nilBlk w)
  have HM : Hid (∀ (W : World) (va vb : Value), Nat32 W va x → Nat32 W vb 1 → Calls Tryz.prog 49 #[.bool neg, va, vb] W (SPost W (fracS 0 neg x 1))) := fun W va vb h1 h2 => (made_any neg x 1 va vb W h1 h2 (by omega) hx (by rw [digs_one32]; decide)).mono fun _ _ h => FitPost.toS h
  generalize fracS 0 neg x 1 = r at *
  clear ha hx
  go_enter Tryz.func19, Tryz.ntmps19
  go_wp2_with fail
  refine (HM.out _ _ _ (by exact HN.out.to (below_two w _ _)) (by exact one32' _ _ (by simp))).mono ?_
  rintro e w1 ⟨v, rfl, hg, hb⟩
  have KC := Lib.hid ((HBK.out.alloc (.cells #[.int .u32 1] 45)).to hb)
  have HBE : Hid (Below w.heap.size w w1) := (below_two w _ _).trans (hb.mono (below_two w _ _).size)
  have HG := Lib.hid hg
  obtain ⟨C1, q1, r1, C2, q2, r2, rfl, hq1, hq2⟩ := hg.form
  have cc0 := KC.out.cell 0
  have cc1 := KC.out.cell 1
  have cc2 := KC.out.cell 2
  simp only [List.getElem?_toArray, List.getElem?_cons_zero, List.getElem?_cons_succ] at cc0 cc1 cc2
  have fc0 := KC.out.frozen 0
  have fc1 := KC.out.frozen 1
  have fc2 := KC.out.frozen 2
  clear hb hg hq1 hq2
  go_wp2_with fail
  refine bodyPost_ret (v := .tuple #[.agg #[.bool r.1.neg, .slice C1 q1 r1, .slice C2 q2 r2], .int .i64 r.2]) (by rw [results_cell_tmp rfl]; go_simp) rfl ?_
  exact ⟨_, rfl, HG.out.put3 KC.out _ _ _, put3_below HBE.out (Nat.le_refl _) _ _ _⟩
end Go.Proofs.YtdfcpkjphdepcaaGreatDoor

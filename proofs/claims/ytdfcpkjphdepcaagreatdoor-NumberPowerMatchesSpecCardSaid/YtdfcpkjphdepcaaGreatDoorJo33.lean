/- fetterlockref1.ShrNat, small. Conditions: at most 256 digits, at most 5000 binary digits. nat.Len. Conditions: at most 1000000 limbs. -/
import Derived.Test.YtdfcpkjphdepcaaGreatDoorShelf
import Derived.Test.YtdfcpkjphdepcaaGreatDoorJo2
import Derived.Test.YtdfcpkjphdepcaaGreatDoorJo5
import Derived.Test.YtdfcpkjphdepcaaGreatDoorJo10
import Derived.Test.YtdfcpkjphdepcaaGreatDoorJo14
import Derived.Test.YtdfcpkjphdepcaaGreatDoorJo25
set_option linter.unusedVariables false
set_option linter.unusedSimpArgs false
namespace Go.Proofs.YtdfcpkjphdepcaaGreatDoor
open Go.RowKit NumB
set_option linter.unusedVariables false
set_option linter.unusedSimpArgs false

theorem low_step (x i : Nat) : x % 2 ^ (i + 1) = x % 2 ^ i + 2 ^ i * (x / 2 ^ i % 2) := Nat.mod_pow_succ
theorem lost_yes {x i : Nat} (h : x / 2 ^ i % 2 = 1) : decide (x % 2 ^ (i + 1) ≠ 0) = true := by
  have := Nat.pow_pos (n := i) (show 0 < 2 by omega)
  rw [low_step, h]; simp
theorem lost_no {x i : Nat} (h : x / 2 ^ i % 2 = 0) : decide (x % 2 ^ (i + 1) ≠ 0) = decide (x % 2 ^ i ≠ 0) := by rw [low_step, h, Nat.mul_zero, Nat.add_zero]
theorem lost_more {x i : Nat} (h : decide (x % 2 ^ i ≠ 0) = true) : decide (x % 2 ^ (i + 1) ≠ 0) = true := by
  have h := of_decide_eq_true h
  rw [low_step]
  exact decide_eq_true (by omega)
theorem lost_end {x i n m : Nat} (hx : x < 2 ^ (16 * m)) (hi : i ≤ n) (hm : i ≤ 16 * m) (h : i = n ∨ i = 16 * m) : decide (x % 2 ^ i ≠ 0) = !exactB x n := by
  have e : x % 2 ^ i = x % 2 ^ n := by
    rcases h with rfl | rfl
    · rfl
    · rw [Nat.mod_eq_of_lt hx, Nat.mod_eq_of_lt (Nat.lt_of_lt_of_le hx (Nat.pow_le_pow_right (by omega) hi))]
  unfold exactB
  rw [e]; simp
theorem or_step (d b k : Nat) (hd : d < 2 ^ k) (hk : k < 16) (hb : b < 2) : bits .or .i64 (d : Int) (wrap64 ((b : Int) * 2 ^ k)) = ((d + b * 2 ^ k : Nat) : Int) := by
  have h3 : (2 : Nat) ^ k ≤ 2 ^ 15 := Nat.pow_le_pow_right (by omega) (by omega)
  have e : (b : Int) * 2 ^ k = ((b * 2 ^ k : Nat) : Int) := by rw [← pow32, ← Int.natCast_mul]
  have hlt : b * 2 ^ k ≤ 2 ^ 15 := Nat.le_trans (Nat.mul_le_mul (show b ≤ 1 by omega) h3) (by omega)
  have e2 : wrap64 ((b * 2 ^ k : Nat) : Int) = ((b * 2 ^ k : Nat) : Int) := by
    generalize b * 2 ^ k = z at *
    unfold wrap64; omega
  have e3 : d ||| b * 2 ^ k = d + b * 2 ^ k := by rw [Nat.or_comm, ← Nat.shiftLeft_eq, ← Nat.shiftLeft_add_eq_or_of_lt hd, Nat.add_comm]
  rw [e, e2, or_i64 _ _ (by omega) (by omega), e3]
theorem shr_part (x i k : Nat) : x / 2 ^ i % 2 ^ k + x / 2 ^ (i + k) % 2 * 2 ^ k = x / 2 ^ i % 2 ^ (k + 1) := by
  rw [low_step (x / 2 ^ i) k, Nat.div_div_eq_div_mul, ← Nat.pow_add, Nat.mul_comm]
theorem shr_more {x n m V : Nat} (hv : V = x / 2 ^ n % 2 ^ (16 * m)) : V + W16 ^ m * (x / 2 ^ (n + 16 * m) % 2 ^ 16) = x / 2 ^ n % 2 ^ (16 * (m + 1)) := by
  have e : W16 ^ m = 2 ^ (16 * m) := by rw [Nat.pow_mul]; rfl
  rw [hv, e, show 16 * (m + 1) = 16 * m + 16 from by omega, Nat.pow_add 2 (16 * m), Nat.mod_mul, Nat.div_div_eq_div_mul, ← Nat.pow_add]
theorem shr_all {x n m : Nat} (h : blen x ≤ n + 16 * m) : x / 2 ^ n % 2 ^ (16 * m) = x / 2 ^ n := by
  refine Nat.mod_eq_of_lt ((Nat.div_lt_iff_lt_mul (Nat.pow_pos (by omega))).2 ?_)
  rw [← Nat.pow_add]
  exact Nat.lt_of_lt_of_le (blen_lt x) (Nat.pow_le_pow_right (by omega) (by omega))
/-- A natural and a Bool. -/
def RShrPost (w : World) (x n : Nat) (e : Ending) (w' : World) : Prop := ∃ v, e = .returned (.tuple #[v, .bool (!exactB x n)]) ∧ Nat16 w' v (x / 2 ^ n) ∧ Below w.heap.size w w'

set_option maxRecDepth 100000 in
set_option maxHeartbeats 6400000 in
theorem rshr_any (x n : Nat) (v : Value) (w : World) (h : Nat16 w v x) (hx : (digs W16 x).length ≤ 256) (hn : n ≤ 5000) :
    Calls Tryz.prog 63 #[v, .int .i64 (n : Int)] w (RShrPost w x n) := by
  have HA := Lib.hid h
  obtain ⟨A, m, c, rfl, hm⟩ := h.form
  have hmb : m ≤ 256 := by rw [hm]; exact hx
  have HXM : Hid (x < 2 ^ (16 * m)) := by
    unfold Hid
    rw [Nat.pow_mul, hm]
    exact digs_lt W16_gt
  have hbl : blen x ≤ 16 * m := blen_le HXM.out
  have HLE : Hid (∀ (W : World), Nat16 W (.slice A m c) x → Calls Tryz.prog 13 #[.slice A m c] W fun e w' => e = .returned (.int .i64 (blen x : Int)) ∧ W = w') := fun W hW => rlen_any x _ W hW (by omega)
  have HBI : Hid (∀ (W : World) (i : Nat), Nat16 W (.slice A m c) x → i < 100000 → Calls Tryz.prog 59 #[.slice A m c, .int .i64 (i : Int)] W fun e w' => e = .returned (.int .i64 ((x / 2 ^ i % 2 : Nat) : Int)) ∧ W = w') := fun W i hW hi => rbit_any x i _ W hW (by omega)
  have HSA : Hid (∀ j, blen x ≤ n + 16 * j → x / 2 ^ n % 2 ^ (16 * j) = x / 2 ^ n) := fun j hj => shr_all hj
  generalize hbe : blen x = bl at *
  clear h hm hx hbe
  go_enter Tryz.func63, Tryz.ntmps63
  go_wp2
  go_loopg [6, 7] n (fun gk s6 s7 wr => ∃ i : Nat, gk + i = n ∧ s7 = .int .i64 (i : Int) ∧ i ≤ 16 * m ∧ Hid (s6 = .bool (decide (x % 2 ^ i ≠ 0))) ∧ w = wr)
  case atStart => exact ⟨0, by omega, rfl, by omega, by rw [Nat.pow_zero, Nat.mod_one]; rfl, rfl⟩
  case round =>
    obtain ⟨i, hgi, rfl, him, HS, rfl⟩ := hrel
    obtain ⟨lo, HLO⟩ : ∃ lo, Hid (decide (x % 2 ^ i ≠ 0) = lo) := ⟨_, rfl⟩
    have hs6 := HS.out
    rw [HLO.out] at hs6
    subst hs6
    clear HS
    by_cases hc : i < n ∧ i < 16 * m
    · obtain ⟨hc1, hc2⟩ := hc
      cases lo with
      | true =>
        go_wp2
        go_roundg (gk - 1)
        case measure => omega
        case rel => exact ⟨i + 1, by omega, by go_num, by omega, by rw [lost_more HLO.out]; rfl, rfl⟩
      | false =>
        have hb2 : x / 2 ^ i % 2 = 0 ∨ x / 2 ^ i % 2 = 1 := by omega
        have HBJ := Lib.hid (HBI.out w i HA.out (by omega))
        rcases hb2 with hb2 | hb2
        · rw [hb2] at HBJ
          have HL := Lib.hid (lost_no hb2)
          clear hb2
          go_wp2_with fail
          refine (HBJ.out).mono ?_
          rintro e w1 ⟨rfl, rfl⟩
          go_wp2
          go_roundg (gk - 1)
          case measure => omega
          case rel => exact ⟨i + 1, by omega, by go_num, by omega, by rw [HL.out, HLO.out]; rfl, rfl⟩
        · rw [hb2] at HBJ
          have HL := Lib.hid (lost_yes hb2)
          clear hb2
          go_wp2_with fail
          refine (HBJ.out).mono ?_
          rintro e w1 ⟨rfl, rfl⟩
          go_wp2
          go_roundg (gk - 1)
          case measure => omega
          case rel => exact ⟨i + 1, by omega, by go_num, by omega, by rw [HL.out]; rfl, rfl⟩
    · have HE : Hid (lo = !exactB x n) := by
        have h := lost_end (x := x) (i := i) (n := n) (m := m) HXM.out (by omega) him (by omega)
        rw [HLO.out] at h
        exact h
      clear HLO
      have hcc : (i < n ∧ 16 * m ≤ i) ∨ n ≤ i := by omega
      clear hc
      rcases hcc with ⟨hc1, hc2⟩ | hc1
      all_goals
        go_wp2
        clear him
        go_loopg [8, 9, 10, 11] (bl - n) (fun gj s8 s9 s10 s11 wr => ∃ (j : Nat) (out : List Nat), gj = bl - (n + 16 * j) ∧ s9 = .int .i64 ((n + 16 * j : Nat) : Int) ∧ j ≤ 300 ∧ Hid (OwnV .i64 3 wr w.heap.size s8 out) ∧ Hid (out.length = j ∧ Ok W16 out ∧ val W16 out = x / 2 ^ n % 2 ^ (16 * j)) ∧ Hid (Below w.heap.size w wr))
        case atStart => exact ⟨0, [], by omega, by rw [Nat.mul_zero, Nat.add_zero], by omega, OwnV.nil_ _, ⟨rfl, Ok.nil, by rw [Nat.mul_zero, Nat.pow_zero, Nat.mod_one]; rfl⟩, Below.refl _ _⟩
        case round =>
          obtain ⟨j, out, hgj, rfl, hj3, HOW, HV, HB⟩ := hrel
          have HAW := Lib.hid (HA.out.to HB.out)
          obtain ⟨i', hi', hib⟩ : ∃ i', n + 16 * j = i' ∧ i' ≤ 10000 := ⟨_, rfl, by omega⟩
          rw [hi'] at hgj ⊢
          by_cases hlt : i' < bl
          · have hjb : j ≤ 256 := by omega
            obtain ⟨wo, hwo⟩ : ∃ wo : World, wo = wr := ⟨_, rfl⟩
            subst hwo
            have HI := Lib.hid hi'
            clear hi'
            go_wp2_with fail
            refine (HLE.out _ (by exact HAW.out)).mono ?_
            rintro e w1 ⟨rfl, rfl⟩
            go_wp2
            go_loopg [10, 11] 16 (fun gq s10 s11 wq => ∃ (k d : Nat), gq + k = 16 ∧ s11 = .int .i64 (k : Int) ∧ s10 = .int .i64 (d : Int) ∧ Hid (d = x / 2 ^ i' % 2 ^ k) ∧ wo = wq)
            case atStart => exact ⟨0, 0, rfl, rfl, rfl, by unfold Hid; rw [Nat.pow_zero, Nat.mod_one], rfl⟩
            case round =>
              obtain ⟨k, d, hgk, rfl, rfl, HD, rfl⟩ := hrel
              by_cases hk : k < 16
              · have hdk : d < 2 ^ k := by rw [HD.out]; exact Nat.mod_lt _ (Nat.pow_pos (by omega))
                have HBK : Hid (Calls Tryz.prog 59 #[.slice A m c, .int .i64 ((i' : Int) + (k : Int))] wo fun e w' => e = .returned (.int .i64 ((x / 2 ^ (i' + k) % 2 : Nat) : Int)) ∧ wo = w') := by
                  have := HBI.out wo (i' + k) HAW.out (by omega)
                  rw [Int.natCast_add] at this
                  exact this
                have HST := Lib.hid (shr_part x i' k)
                have hbb : x / 2 ^ (i' + k) % 2 < 2 := by omega
                generalize x / 2 ^ (i' + k) % 2 = b at *
                have HOR := Lib.hid (or_step d b k hdk hk hbb)
                go_wp2_with fail
                refine (HBK.out).mono ?_
                rintro e w1 ⟨rfl, rfl⟩
                go_wp2
                go_roundg (gk - 1)
                case measure => omega
                case rel => exact ⟨k + 1, d + b * 2 ^ k, by omega, by go_num, congrArg (Value.int .i64) HOR.out, by unfold Hid; rw [← HST.out, ← HD.out], rfl⟩
              · obtain rfl : k = 16 := by omega
                have hdb : d < 65536 := by rw [HD.out]; exact Nat.mod_lt _ (by decide)
                have HLEN : Hid (out.length + [d].length ≤ 1000000) := by have := HV.out.1; simp [Hid]; omega
                have hw9 : IntKind.i64.wrap ((i' : Int) + 16) = (i' : Int) + 16 := by rw [IntKind.wrap_i64]; omega
                go_wp2_with (at_builtin; go_must (refine wpList_push wo rfl _ _ 35 rfl .i64 3 8 Tryz.underlying35 info_i64 (by decide) w.heap.size _ out [d] (by rfl) (by rfl) HOW.out HLEN.out HB.out.size _ rfl ?_); intro v1 w1 hown1 hb1)
                go_roundg (bl - (n + 16 * (j + 1)))
                case measure => have := HI.out; omega
                case rel =>
                  obtain ⟨e1, e2, e3⟩ := HV.out
                  refine ⟨j + 1, out ++ [d], rfl, ?_, by omega, hown1, ⟨by simp; omega, e2.append (Ok.cons hdb Ok.nil), ?_⟩, HB.out.trans hb1⟩
                  · have := HI.out
                    exact congrArg (Value.int .i64) (by omega)
                  · rw [val_append, e1, ← shr_more e3, HD.out, HI.out]; simp
          · have HSAJ := Lib.hid (HSA.out j (by omega))
            clear hgj
            go_wp2_with fail
            refine (HLE.out _ (by exact HAW.out)).mono ?_
            rintro e w1 ⟨rfl, rfl⟩
            go_wp2_with (go_at_call 65; refine (rtrim_any out _ _ HOW.out.sl HV.out.2.1).mono ?_; rintro e w' ⟨v', rfl, hn', rfl⟩)
            go_ret2
            rw [HV.out.2.2, HSAJ.out] at hn'
            exact ⟨v', by rw [HE.out]; rfl, hn', HB.out⟩

/-- What small answers. -/
def smallI (x : Nat) : Int := if blen x ≤ 20 then (x : Int) else 0
def smallB (x : Nat) : Bool := decide (blen x ≤ 20)
set_option maxRecDepth 100000 in
set_option maxHeartbeats 3200000 in
theorem rsmall_any (neg : Bool) (x y : Nat) (v : Value) (w : World) (h : RV w v neg x y) (hx : (digs W16 x).length ≤ 256) :
    Calls Tryz.prog 62 #[v] w fun e w' => e = .returned (.tuple #[.int .i64 (smallI x), .bool (smallB x)]) ∧ Below w.heap.size w w' := by
  obtain ⟨B1, m1, d1, B2, m2, d2, rfl, hq1, hq2⟩ := h.form
  have HN := Lib.hid h.parts.2.1
  have KA := Lib.hid (Blk.new w 37 #[.bool neg, .slice B1 m1 d1, .slice B2 m2 d2])
  have HLE : Hid (∀ (W : World), Nat16 W (.slice B1 m1 d1) x → Calls Tryz.prog 13 #[.slice B1 m1 d1] W fun e w' => e = .returned (.int .i64 (blen x : Int)) ∧ W = w') := fun W hW => rlen_any x _ W hW (by omega)
  have hbb : blen x ≤ 4096 := blen_digs hx
  have HDG : Hid (∀ (W : World) (i : Nat), Nat16 W (.slice B1 m1 d1) x → i < 100 → Calls Tryz.prog 67 #[.slice B1 m1 d1, .int .i64 (i : Int)] W fun e w' => e = .returned (.int .i64 (((digs W16 x).getD i 0 : Nat) : Int)) ∧ W = w') := fun W i hW hi => rdigit_any _ _ i W hW (by omega)
  by_cases hs : blen x ≤ 20
  · have HSI : Hid (smallI x = (x : Int)) := if_pos hs
    have HSB : Hid (smallB x = true) := decide_eq_true hs
    have hd0 : (digs W16 x).getD 0 0 = x % 65536 := by
      rcases Nat.eq_zero_or_pos x with h0 | h0
      · subst h0; rw [digs_zero]; rfl
      · rw [digs_step W16_gt (by omega)]; rfl
    have hd1 : (digs W16 x).getD 1 0 = x / 65536 := by
      have hx20 : x < 2 ^ 20 := Nat.lt_of_lt_of_le (blen_lt x) (Nat.pow_le_pow_right (by omega) hs)
      rcases Nat.eq_zero_or_pos x with h0 | h0
      · subst h0; rw [digs_zero]; rfl
      · rw [digs_step W16_gt (by omega)]
        show (digs W16 (x / 65536)).getD 0 0 = _
        rcases Nat.eq_zero_or_pos (x / 65536) with h1 | h1
        · rw [h1, digs_zero]; rfl
        · rw [digs_step W16_gt (by omega)]
          show x / 65536 % 65536 = x / 65536
          omega
    have hx20 : x < 2 ^ 20 := Nat.lt_of_lt_of_le (blen_lt x) (Nat.pow_le_pow_right (by omega) hs)
    have HDD : Hid (∃ dg : Int → Int, dg 0 = ((x % 65536 : Nat) : Int) ∧ dg 1 = ((x / 65536 : Nat) : Int) ∧ ∀ (W : World) (i : Int), i = 0 ∨ i = 1 → Nat16 W (.slice B1 m1 d1) x → Calls Tryz.prog 67 #[.slice B1 m1 d1, .int .i64 i] W fun e w' => e = .returned (.int .i64 (dg i)) ∧ W = w') := by
      refine ⟨fun i => if i = 0 then ((x % 65536 : Nat) : Int) else ((x / 65536 : Nat) : Int), rfl, rfl, fun W i hi hW => ?_⟩
      rcases hi with rfl | rfl
      · have := HDG.out W 0 hW (by omega)
        rw [hd0] at this
        exact this
      · have := HDG.out W 1 hW (by omega)
        rw [hd1] at this
        exact this
    obtain ⟨dg, hg0, hg1, hdd⟩ := HDD.out
    have HDQ := Lib.hid hdd
    clear hdd HDD
    generalize hbe : blen x = bl at *
    obtain ⟨d0, e0, HX0⟩ : ∃ d0, x % 65536 = d0 ∧ d0 < 65536 := ⟨_, rfl, Nat.mod_lt _ (by omega)⟩
    obtain ⟨d1', e1, HX1⟩ : ∃ d1, x / 65536 = d1 ∧ d1 < 16 := ⟨_, rfl, by omega⟩
    have HXE : Hid ((x : Int) = (d0 : Int) + (d1' : Int) * 65536) := by unfold Hid; omega
    rw [e0] at hg0
    rw [e1] at hg1
    have hw1 : IntKind.i64.wrap ((d1' : Int) * 65536) = (d1' : Int) * 65536 := by rw [IntKind.wrap_i64]; omega
    have hw2 : IntKind.i64.wrap ((d0 : Int) + (d1' : Int) * 65536) = (d0 : Int) + (d1' : Int) * 65536 := by rw [IntKind.wrap_i64]; omega
    clear h hq1 hq2 hx hd0 hd1 hx20 e0 e1 HDG hbe
    have ka1 := KA.out.cell 1
    simp only [List.getElem?_toArray, List.getElem?_cons_zero, List.getElem?_cons_succ] at ka1
    go_enter Tryz.func62, Tryz.ntmps62
    go_wp2_with fail
    refine (HLE.out _ (by exact HN.out.to (below_one _ _))).mono ?_
    rintro e w1 ⟨rfl, rfl⟩
    go_wp2_with fail
    have HND : Hid (Nat16 (w.alloc (.cells #[.bool neg, .slice B1 m1 d1, .slice B2 m2 d2] 37)).drew (.slice B1 m1 d1) x) := HN.out.to (below_one _ _).drew
    go_region_held3 (fun w' => w'.cell? ⟨w.heap.size, 1, none⟩ = some (.slice B1 m1 d1)) (first | assumption | (go_keep; done))
      (first | (go_at_call 67; ((with_reducible refine (HDQ.out _ _ (by first | exact Or.inl rfl | exact Or.inr rfl) (by exact HND.out)).mono ?_)); rintro e w' ⟨rfl, rfl⟩))
    all_goals
      go_wp2
      go_ret2
      rw [HSI.out, HSB.out, HXE.out]
      exact ⟨rfl, (below_one _ _).drew⟩
  · have HSI : Hid (smallI x = 0) := if_neg hs
    have HSB : Hid (smallB x = false) := decide_eq_false hs
    generalize hbe : blen x = bl at *
    have ka1 := KA.out.cell 1
    simp only [List.getElem?_toArray, List.getElem?_cons_zero, List.getElem?_cons_succ] at ka1
    clear h hq1 hq2 hx hbe
    go_enter Tryz.func62, Tryz.ntmps62
    go_wp2_with fail
    refine (HLE.out _ (by exact HN.out.to (below_one _ _))).mono ?_
    rintro e w1 ⟨rfl, rfl⟩
    go_wp2
    go_ret2
    rw [HSI.out, HSB.out]
    exact ⟨rfl, below_one _ _⟩
end Go.Proofs.YtdfcpkjphdepcaaGreatDoor
namespace Go.Proofs.YtdfcpkjphdepcaaGreatDoor
open Go.RowKit NumB
set_option linter.unusedVariables false
set_option linter.unusedSimpArgs false

theorem bitLenAux_eq : ∀ (f x : Nat), x < 2 ^ f → Lib.bitLenAux f x = blen x
  | 0, x, h => by
    have : x = 0 := by simpa using h
    subst this; rfl
  | f + 1, x, h => by
    unfold Lib.bitLenAux
    rcases Nat.eq_zero_or_pos x with h0 | h0
    · subst h0; rfl
    · rw [if_neg (by omega), bitLenAux_eq f (x / 2) (by rw [Nat.pow_succ] at h; omega), blen_step h0]; omega
theorem bitLen_eq {x : Nat} (h : x < 18446744073709551616) : Lib.bitLen x = blen x := bitLenAux_eq 64 x h
theorem blen_top32 {x n t : Nat} (hn : (digs W32 x).length = n + 1) (ht : (digs W32 x).getD n 0 = t) : blen x = 32 * n + blen t := by
  have h1 := val_take_succ W32 (digs W32 x) n
  rw [val_take_all W32 _ (by omega), val_digs W32_gt, ht] at h1
  have h2 := val_take_lt (ok_digs W32_gt x) (j := n) (by omega)
  have ht0 : 0 < t := by
    rcases Nat.eq_zero_or_pos t with h | h
    · subst h
      have h3 := digs_ge W32_gt (n := x) (by intro h; subst h; rw [digs_zero] at hn; cases hn)
      rw [hn, Nat.add_sub_cancel] at h3
      omega
    · exact h
  have e : W32 ^ n = 2 ^ (32 * n) := by rw [Nat.pow_mul]; rfl
  rw [e] at h1 h2
  rw [h1]
  exact blen_shift ht0 h2

theorem blen_digs32 {x n : Nat} (h : (digs W32 x).length ≤ n) : blen x ≤ 32 * n := by
  refine blen_le (Nat.lt_of_lt_of_le (digs_lt W32_gt) ?_)
  rw [Nat.pow_mul]
  exact Nat.pow_le_pow_right (by decide) h
theorem pow_lenG {k m : Nat} (h : k < 32 * m) : (digs W32 (2 ^ k)).length ≤ m := by
  refine digs_len_le (k := m) W32_gt ?_
  have e : W32 ^ m = 2 ^ (32 * m) := by rw [Nat.pow_mul]; rfl
  rw [e]
  exact Nat.pow_lt_pow_right (by decide) h
theorem pow_len32 {k : Nat} (h : k ≤ 3000) : (digs W32 (2 ^ k)).length ≤ 200 := pow_lenG (by omega)

set_option maxRecDepth 100000 in
set_option maxHeartbeats 1600000 in
theorem len_any (x : Nat) (v : Value) (w : World) (h : Nat32 w v x) (hx : (digs W32 x).length ≤ 1000000) :
    Calls Tryz.prog 37 #[v] w fun e w' => e = .returned (.int .i64 (blen x : Int)) ∧ w' = w := by
  obtain ⟨A, c, rfl, hc, hm, hr⟩ := h
  unfold maxLen at hm
  have HT := Lib.hid (fun n t (hn : (digs W32 x).length = n + 1) (ht : (digs W32 x).getD n 0 = t) => blen_top32 hn ht)
  have HZ := Lib.hid (len_pos32 (x := x) rfl)
  have HO := Lib.hid (ok_digs W32_gt x)
  generalize digs W32 x = xs at *
  generalize hn : xs.length = n at *
  have HN := Lib.hid hn
  have HR := Lib.hid hr
  clear hn hr
  rcases Nat.eq_zero_or_pos n with h0 | h0
  · subst h0
    have HX0 : Hid (blen x = 0) := by
      have : ¬ 0 < x := fun h => absurd (HZ.out.2 h) (by omega)
      have e : x = 0 := by omega
      subst e; rfl
    go_enter Tryz.func37, Tryz.ntmps37
    go_wp2
    go_ret
    rw [HX0.out]
    exact ⟨rfl, rfl⟩
  · obtain ⟨b, o, t, rfl, hb, hte, hcell⟩ := HR.out.at_ (i := n - 1) (by omega)
    have htb : t < 4294967296 := by rw [← hte]; exact HO.out.getD (by decide) _
    have HB : Hid (blen x = 32 * (n - 1) + blen t) := HT.out (n - 1) t (by omega) hte
    have hn0 : ((n : Int) == 0) = false := beq_eq_false_iff_ne.2 (by omega)
    have htl : blen t ≤ 32 := blen_le (by omega)
    have HC : Hid (∀ W : World, Calls Tryz.prog 66 #[.int .u32 (t : Int)] W fun e w' => e = .returned (.int .i64 (blen t : Int)) ∧ w' = W) := fun W => by
      have := Tryz.bits_Len32 (t : Int) W (by omega) (by omega)
      rw [Int.toNat_natCast, bitLen_eq (by omega)] at this
      exact this
    obtain ⟨l, hl⟩ : ∃ l, blen t = l := ⟨_, rfl⟩
    rw [hl] at HB HC htl
    have hix : ((n : Int) - 1).toNat = n - 1 := by omega
    clear hte hl
    go_enter Tryz.func37, Tryz.ntmps37
    go_wp2_with fail
    refine (HC.out _).mono ?_
    rintro e w1 ⟨rfl, rfl⟩
    go_wp2
    go_ret
    have := HB.out
    have e1 : (32 * ((n : Int) - 1) + (l : Int)) = ((blen x : Nat) : Int) := by omega
    rw [← e1]
    exact ⟨rfl, rfl⟩
end Go.Proofs.YtdfcpkjphdepcaaGreatDoor

/-  -/
import Derived.Test.YtkamkaehlofgpaaJo13
import Derived.Test.YtkamkaehlofgpaaJo17
set_option linter.unusedVariables false
set_option linter.unusedSimpArgs false
/- term.below: are all variables below a number. -/
namespace Go.Proofs.Ytkamkaehlofgpaa
open Go.RowKit NumB
set_option linter.unusedVariables false
set_option linter.unusedSimpArgs false

mutual
/-- Are all variables below n. -/
def Tm.lt (n : Int) : Tm → Bool
  | .mk k v _ _ args => if k = 1 then decide (v < n) else ltL n args
def ltL (n : Int) : List Tm → Bool
  | [] => true
  | t :: l => t.lt n && ltL n l
end
theorem ltL_get {n : Int} {l : List Tm} : ltL n l = true ↔ ∀ j (h : j < l.length), (l[j]).lt n = true := by
  induction l with
  | nil => simp [ltL]
  | cons x l ih =>
    simp only [ltL, Bool.and_eq_true, ih]
    constructor
    · rintro ⟨h1, h2⟩ j hj
      cases j with
      | zero => exact h1
      | succ j => exact h2 j (by simpa using hj)
    · intro h
      exact ⟨h 0 (by simp), fun j hj => h (j + 1) (by simpa using hj)⟩

set_option maxRecDepth 100000 in
set_option maxHeartbeats 3200000 in
/-- slices.IndexFunc at a closure that only makes new memory. -/
theorem indexFunc_any {w : World} {args : List Tm} {Ar : Option Addr} {cs : Nat → List Value} (hr : 0 < args.length → ∃ b o, Ar = some ⟨b, o, none⟩ ∧ b < w.heap.size ∧ ∀ i, i < args.length → ∀ j, j < 7 → w.cell? ⟨b, o + i * 7 + j, none⟩ = (cs i)[j]?)
    (ha : ∀ i (h : i < args.length), TC w args[i] (cs i)) (cap b0 : Nat) (hcap : args.length ≤ cap) (hm : cap ≤ maxLen) (q : Nat → Bool) (W : World) (hW : Below w.heap.size w W)
    (hc : ∀ j, j < args.length → ∀ W', Below W.heap.size W W' → Calls Try.prog 68 #[.agg (cs j).toArray, .pointer (some ⟨b0, 0, none⟩)] W' fun e w' => e = .returned (.bool (q j)) ∧ Below W'.heap.size W' w') :
    Calls Try.prog 76 #[.slice Ar args.length cap, .func (.func 68) #[] #[.pointer (some ⟨b0, 0, none⟩)]] W fun e W' => ∃ z : Int, e = .returned (.int .i64 z) ∧ Below W.heap.size W W' ∧ ((z = -1 ∧ ∀ j, j < args.length → q j = false) ∨ (0 ≤ z ∧ ∃ j, j < args.length ∧ q j = true)) := by
  have HR := Lib.hid hr
  have HA := Lib.hid ha
  have HC := Lib.hid hc
  have HWB := Lib.hid hW
  unfold maxLen at hm
  clear hr ha hc hW
  obtain ⟨l, hl⟩ : ∃ l, args.length = l := ⟨_, rfl⟩
  rw [hl] at hcap ⊢
  have HL := Lib.hid hl
  clear hl
  go_enter Try.func76, Try.ntmps76
  go_wp2_with fail
  go_loopg [8] l (fun gk s8 wr => ∃ j : Nat, gk + j = l ∧ s8 = .int .i64 (j : Int) ∧ Hid (∀ i, i < j → q i = false) ∧ Hid (Below W.heap.size W wr))
  case atStart => exact ⟨0, by omega, rfl, fun i hi => absurd hi (by omega), Below.refl _ _⟩
  case round =>
    obtain ⟨j, hgj, rfl, HQ, HB⟩ := hrel
    by_cases hj : j < l
    · have hja : j < args.length := by rw [HL.out]; exact hj
      have HBW := HWB.out.trans (HB.out.mono HWB.out.size)
      obtain ⟨b, o, k', v', s', ng', A2, n2, c2, B2, m3, d2, Xr, xl, xc, hAr, hcs, hlt, e0, e1, e2, e3, e4, e5, e6⟩ := arg_cells HR.out HA.out HBW hja
      subst hAr
      have HCALL := HC.out j hja wr HB.out
      rw [hcs] at HCALL
      have HCALL := Lib.hid HCALL
      go_wp2_with fail
      refine HCALL.out.mono ?_
      rintro e w3 ⟨rfl, hb⟩
      have HB3 := Lib.hid (HB.out.trans (hb.mono HB.out.size))
      clear hb e0 e1 e2 e3 e4 e5 e6 HCALL
      cases hq : q j with
      | true =>
        go_wp2_with fail
        go_ret
        exact ⟨_, rfl, HB3.out, .inr ⟨by omega, j, by rw [HL.out] at hja; exact hja, hq⟩⟩
      | false =>
        have HQ2 : Hid (∀ i, i < j + 1 → q i = false) := fun i hi => by
          by_cases h : i = j
          · rw [h]; exact hq
          · exact HQ.out i (by omega)
        go_wp2_with fail
        go_roundg (gk - 1)
        case measure => omega
        case rel => exact ⟨j + 1, by omega, by go_num, HQ2, HB3.out⟩
    · obtain rfl : j = l := by omega
      go_wp2_with fail
      go_ret
      exact ⟨_, rfl, HB.out, .inl ⟨rfl, HQ.out⟩⟩

theorem below_pairC (w : World) (o1 o2 : Obj) : Below w.heap.size w ((w.alloc o1).alloc o2) := (below_one w o1).alloc (by simp) o2
set_option maxRecDepth 100000 in
set_option maxHeartbeats 3200000 in
theorem below_any (n : Int) {w : World} {t : Tm} {cs : List Value} (h : TC w t cs) : ∀ (W : World), Below w.heap.size w W →
    Calls Try.prog 51 #[.agg cs.toArray, .int .i64 n] W fun e W' => e = .returned (.bool (t.lt n)) ∧ Below W.heap.size W W' := by
  induction h with
  | mk k v s nn args A B Ar cap cs hk hv hs hA hB hn hcap hm hr ha ih =>
    intro W hW
    obtain ⟨A1, q1, rfl, _⟩ := hA
    obtain ⟨B1, q2, rfl, _⟩ := hB
    have HT1 : Hid (k = 1 → (Tm.mk k v s nn args).lt n = decide (v < n)) := fun h => by rw [Tm.lt, if_pos h]
    have HT2 : Hid (k ≠ 1 → (Tm.mk k v s nn args).lt n = ltL n args) := fun h => by rw [Tm.lt, if_neg h]
    have HWB := Lib.hid hW
    have HCLO : Hid (∀ (b0 : Nat) (W1 : World), Below w.heap.size w W1 → W1.cell? ⟨b0, 0, none⟩ = some (.int .i64 n) → b0 < W1.heap.size → ∀ j (hj : j < args.length) (W' : World), Below W1.heap.size W1 W' → Calls Try.prog 68 #[.agg (cs j).toArray, .pointer (some ⟨b0, 0, none⟩)] W' fun e w' => e = .returned (.bool (!(args[j].lt n))) ∧ Below W'.heap.size W' w') := by
      intro b0 W1 h1 hb0 hlt j hj W' h2
      have hcell := (h2.cell (p := ⟨b0, 0, none⟩) hlt).trans hb0
      have hltw : b0 < W'.heap.size := Nat.lt_of_lt_of_le hlt h2.size
      have IHJ := ih j hj
      obtain ⟨k', v', s', ng', A2, n2, c2, B2, m3, d2, Xr, xl, xc, hf⟩ := (ha j hj).form
      rw [hf] at IHJ ⊢
      have HI : Hid (∀ W2, Below W'.heap.size W' W2 → Calls Try.prog 51 #[.agg #[.int .i64 k', .int .i64 v', .string s', .bool ng', .slice A2 n2 c2, .slice B2 m3 d2, .slice Xr xl xc], .int .i64 n] W2 fun e w' => e = .returned (.bool (args[j].lt n)) ∧ Below W2.heap.size W2 w') := fun W2 h3 => IHJ W2 (h1.trans ((h2.trans (h3.mono h2.size)).mono h1.size))
      generalize (args[j]).lt n = z at *
      clear ih ha hr HT1 HT2 IHJ hf
      go_enter Try.func68, Try.ntmps68
      go_wp2_with fail
      refine (HI.out _ (by exact below_one _ _)).mono ?_
      rintro e w3 ⟨rfl, hb⟩
      go_wp2_with fail
      go_ret
      exact ⟨rfl, (below_one W' _).trans (hb.mono (below_one W' _).size)⟩
    have HIX : Hid (∀ (b0 : Nat) (W1 : World), Below w.heap.size w W1 → W1.cell? ⟨b0, 0, none⟩ = some (.int .i64 n) → b0 < W1.heap.size → Calls Try.prog 67 #[.slice Ar args.length cap, .func (.func 68) #[] #[.pointer (some ⟨b0, 0, none⟩)]] W1 fun e W' => e = .returned (.bool (!(ltL n args))) ∧ Below W1.heap.size W1 W') := by
      intro b0 W1 h1 hb0 hlt
      have HF := Lib.hid (indexFunc_any hr ha cap b0 hcap hm (fun j => if hj : j < args.length then !((args[j]).lt n) else false) W1 h1 (fun j hj W' h2 => by simp only [dif_pos hj]; exact HCLO.out b0 W1 h1 hb0 hlt j hj W' h2))
      have HLT : Hid (∀ z : Int, ((z = -1 ∧ ∀ j, j < args.length → (if hj : j < args.length then !((args[j]).lt n) else false) = false) ∨ (0 ≤ z ∧ ∃ j, j < args.length ∧ (if hj : j < args.length then !((args[j]).lt n) else false) = true)) → decide (0 ≤ z) = !(ltL n args)) := fun z hz => by
        rcases hz with ⟨rfl, h⟩ | ⟨h0, j, hj, h⟩
        · have : ltL n args = true := ltL_get.2 fun j hj => by have := h j hj; simpa [hj] using this
          rw [this]; rfl
        · have : ltL n args = false := by
            cases hb : ltL n args with
            | false => rfl
            | true => have := ltL_get.1 hb j hj; simp [hj, this] at h
          rw [this, decide_eq_true h0]; rfl
      generalize ltL n args = z0 at *
      clear ih ha hr HT1 HT2 HCLO
      go_enter Try.func67, Try.ntmps67
      go_wp2_with fail
      refine HF.out.mono ?_
      rintro e w3 ⟨z, rfl, hb, hz⟩
      have hd := HLT.out z hz
      clear hz HF HLT
      go_wp2_with fail
      go_ret
      exact ⟨rfl, hb⟩
    clear ih ha hr HCLO hk hv hs hn hW
    generalize (Tm.mk k v s nn args).lt n = tl at *
    generalize nn.neg = ng at *
    generalize nn.num.length = m1 at *
    generalize nn.den.length = m2 at *
    generalize ltL n args = zl at *
    generalize args.length = l at *
    have HBA := Lib.hid (below_pairC W (.cells #[.int .i64 k, .int .i64 v, .string s, .bool ng, .slice A1 m1 q1, .slice B1 m2 q2, .slice Ar l cap] 27) (.cells #[.int .i64 n] 3))
    have HBX := Lib.hid (Blk.new (W.alloc (.cells #[.int .i64 k, .int .i64 v, .string s, .bool ng, .slice A1 m1 q1, .slice B1 m2 q2, .slice Ar l cap] 27)) 3 #[.int .i64 n])
    by_cases h1 : k = 1
    · obtain rfl := HT1.out h1
      subst h1
      go_enter Try.func51, Try.ntmps51
      go_wp2_with fail
      go_ret
      exact ⟨rfl, HBA.out⟩
    · obtain rfl := HT2.out h1
      have hk1 : (k == 1) = false := beq_eq_false_iff_ne.2 h1
      go_enter Try.func51, Try.ntmps51
      go_wp2_with fail
      refine (HIX.out (W.heap.size + 1) _ (by exact HWB.out.trans (HBA.out.mono HWB.out.size)) (by simp) (by simp)).mono ?_
      rintro e w3 ⟨rfl, hb⟩
      go_wp2_with fail
      go_ret
      exact ⟨by simp, HBA.out.trans (hb.mono HBA.out.size)⟩
end Go.Proofs.Ytkamkaehlofgpaa
/- term.within, (*term.Store).known, at terms that are valid and known. -/
namespace Go.Proofs.Ytkamkaehlofgpaa
open Go.RowKit NumB
set_option linter.unusedVariables false
set_option linter.unusedSimpArgs false

set_option maxRecDepth 100000 in
set_option maxHeartbeats 3200000 in
theorem within_ok (n : Int) {w : World} {args : List Tm} {Ar : Option Addr} {cs : Nat → List Value} (hr : 0 < args.length → ∃ b o, Ar = some ⟨b, o, none⟩ ∧ b < w.heap.size ∧ ∀ i, i < args.length → ∀ j, j < 7 → w.cell? ⟨b, o + i * 7 + j, none⟩ = (cs i)[j]?)
    (ha : ∀ i (h : i < args.length), TC w args[i] (cs i)) (cap : Nat) (hcap : args.length ≤ cap) (hm : cap ≤ maxLen) (hok : ∀ i (h : i < args.length), args[i].check = 0 ∧ args[i].lt n = true) (W : World) (hW : Below w.heap.size w W) :
    Calls Try.prog 34 #[.int .i64 n, .slice Ar args.length cap] W fun e W' => e = .returned (.int .i64 0) ∧ Below W.heap.size W W' := by
  have HR := Lib.hid hr
  have HA := Lib.hid ha
  have HOK := Lib.hid hok
  have HWB := Lib.hid hW
  unfold maxLen at hm
  clear hr ha hok hW
  obtain ⟨l, hl⟩ : ∃ l, args.length = l := ⟨_, rfl⟩
  rw [hl] at hcap ⊢
  have HL := Lib.hid hl
  clear hl
  go_enter Try.func34, Try.ntmps34
  go_wp2_with fail
  go_loopg [10] l (fun gk s10 wr => ∃ j : Nat, gk + j = l ∧ s10 = .int .i64 (j : Int) ∧ Hid (Below W.heap.size W wr))
  case atStart => exact ⟨0, by omega, rfl, Below.refl _ _⟩
  case round =>
    obtain ⟨j, hgj, rfl, HB⟩ := hrel
    by_cases hj : j < l
    · have hja : j < args.length := by rw [HL.out]; exact hj
      have HBW := HWB.out.trans (HB.out.mono HWB.out.size)
      obtain ⟨b, o, k', v', s', ng', A2, n2, c2, B2, m3, d2, Xr, xl, xc, hAr, hcs, hlt, e0, e1, e2, e3, e4, e5, e6⟩ := arg_cells HR.out HA.out HBW hja
      subst hAr
      have HT : Hid (TC w args[j] [.int .i64 k', .int .i64 v', .string s', .bool ng', .slice A2 n2 c2, .slice B2 m3 d2, .slice Xr xl xc]) := by have := HA.out j hja; rw [hcs] at this; exact this
      obtain ⟨hc0, hl0⟩ := HOK.out j hja
      have HC1 : Hid (∀ W', Below w.heap.size w W' → Calls Try.prog 50 #[.agg #[.int .i64 k', .int .i64 v', .string s', .bool ng', .slice A2 n2 c2, .slice B2 m3 d2, .slice Xr xl xc]] W' fun e w' => e = .returned (.int .i64 0) ∧ Below W'.heap.size W' w') := fun W' hb => by
        have := tmCheck_any HT.out W' hb
        rw [hc0] at this
        exact this
      have HC2 : Hid (∀ W', Below w.heap.size w W' → Calls Try.prog 51 #[.agg #[.int .i64 k', .int .i64 v', .string s', .bool ng', .slice A2 n2 c2, .slice B2 m3 d2, .slice Xr xl xc], .int .i64 n] W' fun e w' => e = .returned (.bool true) ∧ Below W'.heap.size W' w') := fun W' hb => by
        have := below_any n HT.out W' hb
        rw [hl0] at this
        exact this
      have KX := Lib.hid (Blk.new wr 27 #[.int .i64 k', .int .i64 v', .string s', .bool ng', .slice A2 n2 c2, .slice B2 m3 d2, .slice Xr xl xc])
      clear HT hc0 hl0 hcs
      go_wp2_with fail
      refine (HC1.out _ (by exact HBW.trans ((below_one wr (.cells #[.int .i64 k', .int .i64 v', .string s', .bool ng', .slice A2 n2 c2, .slice B2 m3 d2, .slice Xr xl xc] 27)).mono HBW.size))).mono ?_
      rintro e w3 ⟨rfl, hb⟩
      have hx := KX.out.to hb
      have x0 := hx.cell 0
      have x1 := hx.cell 1
      have x2 := hx.cell 2
      have x3 := hx.cell 3
      have x4 := hx.cell 4
      have x5 := hx.cell 5
      have x6 := hx.cell 6
      simp only [List.getElem?_toArray, List.getElem?_cons_zero, List.getElem?_cons_succ] at x0 x1 x2 x3 x4 x5 x6
      have HB3 := Lib.hid (HB.out.trans (((below_one wr (.cells #[.int .i64 k', .int .i64 v', .string s', .bool ng', .slice A2 n2 c2, .slice B2 m3 d2, .slice Xr xl xc] 27)).trans (hb.mono (below_one wr _).size)).mono HB.out.size))
      clear hb hx e0 e1 e2 e3 e4 e5 e6
      go_wp2_with fail
      refine (HC2.out _ (by exact HWB.out.trans (HB3.out.mono HWB.out.size))).mono ?_
      rintro e w4 ⟨rfl, hb⟩
      have HB4 := Lib.hid (HB3.out.trans (hb.mono HB3.out.size))
      clear hb x0 x1 x2 x3 x4 x5 x6
      go_wp2_with fail
      go_roundg (gk - 1)
      case measure => omega
      case rel => exact ⟨j + 1, by omega, by go_num, HB4.out⟩
    · obtain rfl : j = l := by omega
      go_wp2_with fail
      go_ret
      exact ⟨rfl, HB.out⟩

set_option maxRecDepth 100000 in
set_option maxHeartbeats 3200000 in
theorem known_ok (g h : Nat) (A : Option Addr) (n c : Nat) (tv : Value) (B : Nat) (xs : List Value) {w : World} {args : List Tm} {Ar : Option Addr} {cs : Nat → List Value} (hr : 0 < args.length → ∃ b o, Ar = some ⟨b, o, none⟩ ∧ b < w.heap.size ∧ ∀ i, i < args.length → ∀ j, j < 7 → w.cell? ⟨b, o + i * 7 + j, none⟩ = (cs i)[j]?)
    (ha : ∀ i (h : i < args.length), TC w args[i] (cs i)) (cap : Nat) (hcap : args.length ≤ cap) (hm : cap ≤ maxLen) (hok : ∀ i (h : i < args.length), args[i].check = 0 ∧ args[i].lt n = true) (W : World) (hW : Below w.heap.size w W)
    (hs : Blk W g 54 #[.pointer (some ⟨h, 0, none⟩)]) (hS : HeapS W B h A n c tv xs) :
    Calls Try.prog 25 #[.pointer (some ⟨g, 0, none⟩), .slice Ar args.length cap] W fun e W' => e = .returned (.int .i64 0) ∧ Below W.heap.size W W' := by
  have c0 := hs.cell 0
  simp only [List.getElem?_toArray, List.getElem?_cons_zero, List.getElem?_cons_succ] at c0
  have HWI := Lib.hid (within_ok (n : Int) hr ha cap hcap hm hok W hW)
  have q0 := hS.1.cell 0
  simp only [List.getElem?_toArray, List.getElem?_cons_zero, List.getElem?_cons_succ] at q0
  have HLN : Hid (Calls Try.prog 28 #[.pointer (some ⟨h, 0, none⟩)] W fun e w' => e = .returned (.int .i64 (n : Int)) ∧ w' = W) := by
    unfold Hid
    go_enter Try.func28, Try.ntmps28
    go_wp2_with fail
    go_ret
    exact ⟨rfl, rfl⟩
  clear hs hS q0 hr ha hcap hok
  generalize args.length = l at *
  go_enter Try.func25, Try.ntmps25
  go_wp2_with fail
  refine HLN.out.mono ?_
  rintro e w1 ⟨rfl, rfl⟩
  go_wp2_with fail
  refine HWI.out.mono ?_
  rintro e w2 ⟨rfl, hb⟩
  go_wp2_with fail
  go_ret
  exact ⟨rfl, hb⟩
end Go.Proofs.Ytkamkaehlofgpaa

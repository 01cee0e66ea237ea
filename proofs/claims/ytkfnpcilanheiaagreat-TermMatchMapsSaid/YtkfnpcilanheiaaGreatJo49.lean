/- term.within, (*term.Store).known, at terms that are valid and known. -/
import Derived.Test.YtkfnpcilanheiaaGreatJo8
import Derived.Test.YtkfnpcilanheiaaGreatJo48
set_option linter.unusedVariables false
set_option linter.unusedSimpArgs false
set_option maxRecDepth 100000
namespace Go.Proofs.YtkfnpcilanheiaaGreat
open Go.RowKit NumB
set_option maxHeartbeats 3200000 in
theorem within_ok (n : Int) {w : World} {args : List Tm} {Ar : Option Addr} {cs : Nat → List Value} (hr : 0 < args.length → ∃ b o, Ar = some ⟨b, o, none⟩ ∧ b < w.heap.size ∧ ∀ i, i < args.length → ∀ j, j < 7 → w.cell? ⟨b, o + i * 7 + j, none⟩ = (cs i)[j]?)
    (ha : ∀ i (h : i < args.length), TC w args[i] (cs i)) (cap : Nat) (hcap : args.length ≤ cap) (hm : cap ≤ maxLen) (hok : ∀ i (h : i < args.length), args[i].check = 0 ∧ args[i].lt n = true) (W : World) (hW : Below w.heap.size w W) :
    Calls Tryz.prog 129 #[.int .i64 n, .slice Ar args.length cap] W fun e W' => e = .returned (.int .i64 0) ∧ Below W.heap.size W W' := by
  have HR := Lib.hid hr
  have HA := Lib.hid ha
  have HOK := Lib.hid hok
  have HWB := Lib.hid hW
  unfold maxLen at hm
  clear hr ha hok hW
  obtain ⟨l, hl⟩ : ∃ l, args.length = l := ⟨_, rfl⟩
  rw [hl] at hcap ⊢
  have HL := Lib.hid hl
  clear hl
  go_enter Tryz.func129, Tryz.ntmps129
  go_wp2_with fail
  go_loopg [10] l (fun gk s10 wr => ∃ j : Nat, gk + j = l ∧ s10 = .int .i64 (j : Int) ∧ Hid (Below W.heap.size W wr))
  case atStart => exact ⟨0, by omega, rfl, Below.refl _ _⟩
  case round =>
    obtain ⟨j, hgj, rfl, HB⟩ := hrel
    by_cases hj : j < l
    · have hja : j < args.length := by rw [HL.out]; exact hj
      have HBW := HWB.out.trans (HB.out.mono HWB.out.size)
      obtain ⟨b, o, k', v', s', ng', A2, n2, c2, B2, m3, d2, Xr, xl, xc, hAr, hcs, hlt, e0, e1, e2, e3, e4, e5, e6⟩ := arg_cells HR.out HA.out HBW hja
      subst hAr
      have HT : Hid (TC w args[j] [.int .i64 k', .int .i64 v', .string s', .bool ng', .slice A2 n2 c2, .slice B2 m3 d2, .slice Xr xl xc]) := by have := HA.out j hja; rw [hcs] at this; exact this
      obtain ⟨hc0, hl0⟩ := HOK.out j hja
      have HC1 : Hid (∀ W', Below w.heap.size w W' → Calls Tryz.prog 25 #[.agg #[.int .i64 k', .int .i64 v', .string s', .bool ng', .slice A2 n2 c2, .slice B2 m3 d2, .slice Xr xl xc]] W' fun e w' => e = .returned (.int .i64 0) ∧ Below W'.heap.size W' w') := fun W' hb => by
        have := tmCheck_any HT.out W' hb
        rw [hc0] at this
        exact this
      have HC2 : Hid (∀ W', Below w.heap.size w W' → Calls Tryz.prog 187 #[.agg #[.int .i64 k', .int .i64 v', .string s', .bool ng', .slice A2 n2 c2, .slice B2 m3 d2, .slice Xr xl xc], .int .i64 n] W' fun e w' => e = .returned (.bool true) ∧ Below W'.heap.size W' w') := fun W' hb => by
        have := below_any n HT.out W' hb
        rw [hl0] at this
        exact this
      have KX := Lib.hid (Blk.new wr 27 #[.int .i64 k', .int .i64 v', .string s', .bool ng', .slice A2 n2 c2, .slice B2 m3 d2, .slice Xr xl xc])
      clear HT hc0 hl0 hcs
      go_wp2_with fail
      refine (HC1.out _ (by exact HBW.trans ((below_one wr (.cells #[.int .i64 k', .int .i64 v', .string s', .bool ng', .slice A2 n2 c2, .slice B2 m3 d2, .slice Xr xl xc] 27)).mono HBW.size))).mono ?_
      rintro e w3 ⟨rfl, hb⟩
      have hx := KX.out.to hb
      have x0 := hx.cell 0
      have x1 := hx.cell 1
      have x2 := hx.cell 2
      have x3 := hx.cell 3
      have x4 := hx.cell 4
      have x5 := hx.cell 5
      have x6 := hx.cell 6
      simp only [List.getElem?_toArray, List.getElem?_cons_zero, List.getElem?_cons_succ] at x0 x1 x2 x3 x4 x5 x6
      have HB3 := Lib.hid (HB.out.trans (((below_one wr (.cells #[.int .i64 k', .int .i64 v', .string s', .bool ng', .slice A2 n2 c2, .slice B2 m3 d2, .slice Xr xl xc] 27)).trans (hb.mono (below_one wr _).size)).mono HB.out.size))
      clear hb hx e0 e1 e2 e3 e4 e5 e6
      go_wp2_with fail
      refine (HC2.out _ (by exact HWB.out.trans (HB3.out.mono HWB.out.size))).mono ?_
      rintro e w4 ⟨rfl, hb⟩
      have HB4 := Lib.hid (HB3.out.trans (hb.mono HB3.out.size))
      clear hb x0 x1 x2 x3 x4 x5 x6
      go_wp2_with fail
      go_roundg (gk - 1)
      case measure => omega
      case rel => exact ⟨j + 1, by omega, by go_num, HB4.out⟩
    · obtain rfl : j = l := by omega
      go_wp2_with fail
      go_ret
      exact ⟨rfl, HB.out⟩
set_option maxHeartbeats 3200000 in
theorem known_ok (g h : Nat) (A : Option Addr) (n c : Nat) (tv : Value) (B : Nat) (xs : List Value) {w : World} {args : List Tm} {Ar : Option Addr} {cs : Nat → List Value} (hr : 0 < args.length → ∃ b o, Ar = some ⟨b, o, none⟩ ∧ b < w.heap.size ∧ ∀ i, i < args.length → ∀ j, j < 7 → w.cell? ⟨b, o + i * 7 + j, none⟩ = (cs i)[j]?)
    (ha : ∀ i (h : i < args.length), TC w args[i] (cs i)) (cap : Nat) (hcap : args.length ≤ cap) (hm : cap ≤ maxLen) (hok : ∀ i (h : i < args.length), args[i].check = 0 ∧ args[i].lt n = true) (W : World) (hW : Below w.heap.size w W)
    (hs : Blk W g 115 #[.pointer (some ⟨h, 0, none⟩)]) (hS : HeapS W B h A n c tv xs) :
    Calls Tryz.prog 84 #[.pointer (some ⟨g, 0, none⟩), .slice Ar args.length cap] W fun e W' => e = .returned (.int .i64 0) ∧ Below W.heap.size W W' := by
  have c0 := hs.cell 0
  simp only [List.getElem?_toArray, List.getElem?_cons_zero, List.getElem?_cons_succ] at c0
  have HWI := Lib.hid (within_ok (n : Int) hr ha cap hcap hm hok W hW)
  have q0 := hS.1.cell 0
  simp only [List.getElem?_toArray, List.getElem?_cons_zero, List.getElem?_cons_succ] at q0
  have HLN : Hid (Calls Tryz.prog 86 #[.pointer (some ⟨h, 0, none⟩)] W fun e w' => e = .returned (.int .i64 (n : Int)) ∧ w' = W) := by
    unfold Hid
    go_enter Tryz.func86, Tryz.ntmps86
    go_wp2_with fail
    go_ret
    exact ⟨rfl, rfl⟩
  clear hs hS q0 hr ha hcap hok
  generalize args.length = l at *
  go_enter Tryz.func84, Tryz.ntmps84
  go_wp2_with fail
  refine HLN.out.mono ?_
  rintro e w1 ⟨rfl, rfl⟩
  go_wp2_with fail
  refine HWI.out.mono ?_
  rintro e w2 ⟨rfl, hb⟩
  go_wp2_with fail
  go_ret
  exact ⟨rfl, hb⟩
end Go.Proofs.YtkfnpcilanheiaaGreat

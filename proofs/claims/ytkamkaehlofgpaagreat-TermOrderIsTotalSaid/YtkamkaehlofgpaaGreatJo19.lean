/-  -/
import Derived.Test.YtkamkaehlofgpaaGreatJo13
set_option linter.unusedVariables false
set_option linter.unusedSimpArgs false
/- fetterlockref2.sized: the number of nodes, up to a million. -/
namespace Go.Proofs.YtkamkaehlofgpaaGreat
open Go.RowKit NumB
set_option linter.unusedVariables false
set_option linter.unusedSimpArgs false

set_option maxRecDepth 100000 in
set_option maxHeartbeats 3200000 in
theorem sized_any {w : World} {t : Tm} {cs : List Value} (h : TC w t cs) : ∀ (W : World) (n0 : Nat), Below w.heap.size w W → n0 < 1000000 →
    Calls Tryz.prog 50 #[.agg cs.toArray, .int .i64 (n0 : Int)] W fun e W' => e = .returned (.int .i64 ((min (n0 + t.count) 1000000 : Nat) : Int)) ∧ Below W.heap.size W W' := by
  induction h with
  | mk k v s n args A B Ar cap cs hk hv hs hA hB hn hcap hm hr ha ih =>
    intro W n0 hW hn0
    have HR := Lib.hid hr
    have HA := Lib.hid ha
    have IH := Lib.hid ih
    have HCT : Hid ((Tm.mk k v s n args).count = 1 + countL args) := rfl
    unfold maxLen at hm
    have HWB := Lib.hid hW
    generalize (Tm.mk k v s n args).count = ct at *
    generalize n.neg = ng at *
    obtain ⟨A1, q1, rfl, _⟩ := hA
    obtain ⟨B1, q2, rfl, _⟩ := hB
    generalize n.num.length = m1 at *
    generalize n.den.length = m2 at *
    clear hr ha ih hn hk hv hs hW
    obtain ⟨l, hl⟩ : ∃ l, args.length = l := ⟨_, rfl⟩
    rw [hl] at hcap ⊢
    have HL := Lib.hid hl
    clear hl
    have HBA := Lib.hid (below_one W (.cells #[.int .i64 k, .int .i64 v, .string s, .bool ng, .slice A1 m1 q1, .slice B1 m2 q2, .slice Ar l cap] 27))
    go_enter Tryz.func50, Tryz.ntmps50
    go_wp2_with fail
    go_loopg [1, 12] l (fun gk s1 s12 wr => ∃ j c : Nat, gk + j = l ∧ s12 = .int .i64 (j : Int) ∧ s1 = .int .i64 (c : Int) ∧ c ≤ 1000000 ∧ Hid (c = min (n0 + 1 + countL (args.take j)) 1000000) ∧ Hid (Below W.heap.size W wr))
    case atStart => exact ⟨0, n0 + 1, by omega, rfl, rfl, by omega, by unfold Hid; rw [List.take_zero]; simp only [countL]; omega, HBA.out⟩
    case round =>
      obtain ⟨j, c, hgj, rfl, rfl, hcm, HC, HB⟩ := hrel
      by_cases hj : j < l
      · have hja : j < args.length := by rw [HL.out]; exact hj
        have HBW := HWB.out.trans (HB.out.mono HWB.out.size)
        obtain ⟨b, o, k', v', s', ng', A2, n2, c2, B2, m3, d2, Xr, xl, xc, hAr, hcs, hlt, e0, e1, e2, e3, e4, e5, e6⟩ := arg_cells HR.out HA.out HBW hja
        subst hAr
        by_cases hc : (1000000 : Int) ≤ (c : Int)
        · have HCM := Lib.hid hcm
          clear hcm
          go_wp2_with fail
          go_ret
          have hcm := HCM.out
          have h1 := countL_le args j
          have h2 := HC.out
          have h3 := HCT.out
          refine ⟨?_, HB.out.alloc HB.out.size _⟩
          have e : min (n0 + ct) 1000000 = 1000000 := by omega
          rw [e]; rfl
        ·
          have HCALL : Hid (∀ W', Below wr.heap.size wr W' → Calls Tryz.prog 50 #[.agg #[.int .i64 k', .int .i64 v', .string s', .bool ng', .slice A2 n2 c2, .slice B2 m3 d2, .slice Xr xl xc], .int .i64 (c : Int)] W' fun e w' => e = .returned (.int .i64 ((min (c + (args[j]).count) 1000000 : Nat) : Int)) ∧ Below W'.heap.size W' w') := fun W' hb => by
            have := IH.out j hja W' c (HBW.trans (hb.mono HBW.size)) (by omega)
            rw [hcs] at this
            exact this
          go_wp2_with fail
          refine (HCALL.out _ (by exact below_one _ _)).mono ?_
          rintro e w3 ⟨rfl, hb⟩
          have HB3 := Lib.hid (HB.out.trans (((below_one wr (.cells #[.int .i64 k', .int .i64 v', .string s', .bool ng', .slice A2 n2 c2, .slice B2 m3 d2, .slice Xr xl xc] 27)).trans (hb.mono (below_one wr _).size)).mono HB.out.size))
          have h1 := countL_take args hja
          generalize (args[j]).count = cj at *
          have h2 := HC.out
          obtain ⟨z, hz, HZ⟩ : ∃ z : Nat, (min (c + cj) 1000000 : Nat) = z ∧ Hid (z = min (n0 + 1 + countL (args.take (j + 1))) 1000000) ∧ z ≤ 1000000 := ⟨_, rfl, by show _ = _; rw [h1]; omega, by omega⟩
          have hzb := HZ.2
          have HZ := HZ.1
          rw [hz]
          clear hz h1 h2 hb e0 e1 e2 e3 e4 e5 e6 HCALL
          go_wp2_with fail
          go_roundg (gk - 1)
          case measure => omega
          case rel => exact ⟨j + 1, z, by omega, by go_num, rfl, hzb, HZ, HB3.out⟩
      · obtain rfl : j = l := by omega
        have h2 := HC.out
        rw [List.take_of_length_le (by rw [HL.out]; exact Nat.le_refl _), Nat.add_assoc, ← HCT.out] at h2
        subst h2
        go_wp2_with fail
        go_ret
        exact ⟨rfl, HB.out⟩
end Go.Proofs.YtkamkaehlofgpaaGreat

/-  -/
import Derived.Deep.RegionHeld3
import Derived.Test.YtcdgnipmfalhiaaJo20
import Derived.Test.YtcdgnipmfalhiaaJo45
import Derived.Test.YtcdgnipmfalhiaaJo47
import Derived.Test.YtcdgnipmfalhiaaJo50
set_option linter.unusedVariables false
set_option linter.unusedSimpArgs false
/- TermSizeAndFree: for all valid terms, Size and Free return what is specified. -/
namespace Go.Proofs.Ytcdgnipmfalhiaa
open Go.RowKit NumB
set_option linter.unusedVariables false
set_option linter.unusedSimpArgs false

set_option maxRecDepth 100000 in
set_option maxHeartbeats 3200000 in
theorem law_tmSF : LawTmSF.Walk := by
  intro t c0 w h
  have HFA : ∀ W, Below w.heap.size w W → Calls Try.prog 7 #[.agg c0.toArray] W fun e w' => e = .returned (.int .i64 t.check) ∧ Hid (Below W.heap.size W w') := fun W hb => tmFault_any h W hb
  have HSP : t.count ≤ 1000000 → ∀ W, Below w.heap.size w W → Calls Try.prog 12 #[.agg c0.toArray] W fun e w' => e = .returned (.int .i64 (t.count : Int)) ∧ Hid (Below W.heap.size W w') := fun hc W hb => sizeP_any h hc W hb
  have HSR : t.count ≤ 1000000 → ∀ W, Below w.heap.size w W → Calls Try.prog 13 #[.agg c0.toArray] W fun e w' => e = .returned (.int .i64 (t.count : Int)) ∧ Hid (Below W.heap.size W w') := fun hc W hb => (rsize_any h W hb).mono fun e w' q => ⟨by rw [q.1, Nat.min_eq_left hc], q.2⟩
  have HF1 : t.count ≤ 1000000 → ∀ W, Below w.heap.size w W → Calls Try.prog 15 #[.agg c0.toArray] W fun e w' => ∃ ov, e = .returned ov ∧ Hid (w'.ownsRow W.heap.size 3 1 ov (t.free []).length (ints (t.free [])) ∧ Below W.heap.size W w') := fun hc W hb => free_any h hc W hb
  have HF2 : t.count ≤ 1000000 → ∀ W, Below w.heap.size w W → Calls Try.prog 16 #[.agg c0.toArray] W fun e w' => ∃ ov, e = .returned ov ∧ Hid (w'.ownsRow W.heap.size 3 1 ov (t.free []).length (ints (t.free [])) ∧ Below W.heap.size W w') := fun hc W hb => rfree_any h hc W hb
  have HBN : Hid (∀ W : World, Calls Try.prog 8 #[] W fun e w' => e = .returned (.bool true) ∧ Hid (Below W.heap.size W w')) := fun W => bound_any W
  have hcc : t.check = 0 → t.count ≤ 10000 := fun q => by
    unfold Tm.check at q
    by_cases hn : 10000 < t.count
    · rw [if_pos hn] at q; omega
    · omega
  have hfl := free_len t []
  obtain ⟨k, v, s, ng, A1, n1, c1, B1, m1, d1, Ar, l, cap, hcs⟩ := h.form
  subst hcs
  generalize t.check = tc at *
  generalize t.count = ct at *
  generalize t.free [] = ls at *
  clear h
  have HCC := Lib.hid hcc
  have HFL := Lib.hid hfl
  have HFA := Lib.hid HFA
  have HSP := Lib.hid HSP
  have HSR := Lib.hid HSR
  have HF1 := Lib.hid HF1
  have HF2 := Lib.hid HF2
  clear hcc hfl
  have HBA : Hid (Below w.heap.size w (w.alloc (.cells #[.int .i64 k, .int .i64 v, .string s, .bool ng, .slice A1 n1 c1, .slice B1 m1 d1, .slice Ar l cap] 27))) := below_one w _
  have HKA : Hid (Blk (w.alloc (.cells #[.int .i64 k, .int .i64 v, .string s, .bool ng, .slice A1 n1 c1, .slice B1 m1 d1, .slice Ar l cap] 27)) w.heap.size 27 #[.int .i64 k, .int .i64 v, .string s, .bool ng, .slice A1 n1 c1, .slice B1 m1 d1, .slice Ar l cap]) := Blk.new w _ _
  go_enter Try.func5, Try.ntmps5
  go_wp2_with fail
  refine (HFA.out _ HBA.out).mono ?_
  rintro e w1 ⟨rfl, HB1⟩
  have HW1 : Hid (Below w.heap.size w w1) := HBA.out.trans (HB1.out.mono HBA.out.size)
  have HK1 := Lib.hid (HKA.out.to HB1.out)
  clear HBA HKA HB1
  by_cases htc : tc = 0
  · have HC : Hid (ct ≤ 1000000) := Nat.le_trans (HCC.out htc) (by omega)
    have HLN : Hid (ls.length ≤ 1000000) := by have := HFL.out; have := HCC.out htc; simp at *; show _ ≤ _; omega
    subst htc
    clear HCC HFL HFA
    have hee : ((ct : Int) == (ct : Int)) = true := by simp
    have HSS : Hid (∀ W, Below w.heap.size w W ∧ Blk W w.heap.size 27 #[.int .i64 k, .int .i64 v, .string s, .bool ng, .slice A1 n1 c1, .slice B1 m1 d1, .slice Ar l cap] → W.cell? ⟨w.heap.size, 0, none⟩ = some (.int .i64 k) ∧ W.cell? ⟨w.heap.size, 1, none⟩ = some (.int .i64 v) ∧ W.cell? ⟨w.heap.size, 2, none⟩ = some (.string s) ∧ W.cell? ⟨w.heap.size, 3, none⟩ = some (.bool ng) ∧ W.cell? ⟨w.heap.size, 4, none⟩ = some (.slice A1 n1 c1) ∧ W.cell? ⟨w.heap.size, 5, none⟩ = some (.slice B1 m1 d1) ∧ W.cell? ⟨w.heap.size, 6, none⟩ = some (.slice Ar l cap)) := fun W j => ⟨j.2.cell 0, j.2.cell 1, j.2.cell 2, j.2.cell 3, j.2.cell 4, j.2.cell 5, j.2.cell 6⟩
    have HJ0 : Hid (Below w.heap.size w w1.drew ∧ Blk w1.drew w.heap.size 27 #[.int .i64 k, .int .i64 v, .string s, .bool ng, .slice A1 n1 c1, .slice B1 m1 d1, .slice Ar l cap]) := ⟨HW1.out.drew, HK1.out.drew⟩
    have HQ1 : Hid (∀ W, Hid (Below w.heap.size w W ∧ Blk W w.heap.size 27 #[.int .i64 k, .int .i64 v, .string s, .bool ng, .slice A1 n1 c1, .slice B1 m1 d1, .slice Ar l cap]) → Calls Try.prog 12 #[.agg #[.int .i64 k, .int .i64 v, .string s, .bool ng, .slice A1 n1 c1, .slice B1 m1 d1, .slice Ar l cap]] W fun e w' => e = .returned (.int .i64 (ct : Int)) ∧ Hid (Below w.heap.size w w' ∧ Blk w' w.heap.size 27 #[.int .i64 k, .int .i64 v, .string s, .bool ng, .slice A1 n1 c1, .slice B1 m1 d1, .slice Ar l cap]) ∧ (w'.cell? ⟨w.heap.size, 0, none⟩ = some (.int .i64 k) ∧ w'.cell? ⟨w.heap.size, 1, none⟩ = some (.int .i64 v) ∧ w'.cell? ⟨w.heap.size, 2, none⟩ = some (.string s) ∧ w'.cell? ⟨w.heap.size, 3, none⟩ = some (.bool ng) ∧ w'.cell? ⟨w.heap.size, 4, none⟩ = some (.slice A1 n1 c1) ∧ w'.cell? ⟨w.heap.size, 5, none⟩ = some (.slice B1 m1 d1) ∧ w'.cell? ⟨w.heap.size, 6, none⟩ = some (.slice Ar l cap))) := fun W j => (HSP.out HC.out W j.out.1).mono fun e w' q => by
      have j' : Below w.heap.size w w' ∧ Blk w' w.heap.size 27 #[.int .i64 k, .int .i64 v, .string s, .bool ng, .slice A1 n1 c1, .slice B1 m1 d1, .slice Ar l cap] := ⟨j.out.1.trans (q.2.out.mono j.out.1.size), j.out.2.to q.2.out⟩
      exact ⟨q.1, j', HSS.out _ j'⟩
    have HQ2 : Hid (∀ W, Hid (Below w.heap.size w W ∧ Blk W w.heap.size 27 #[.int .i64 k, .int .i64 v, .string s, .bool ng, .slice A1 n1 c1, .slice B1 m1 d1, .slice Ar l cap]) → Calls Try.prog 13 #[.agg #[.int .i64 k, .int .i64 v, .string s, .bool ng, .slice A1 n1 c1, .slice B1 m1 d1, .slice Ar l cap]] W fun e w' => e = .returned (.int .i64 (ct : Int)) ∧ Hid (Below w.heap.size w w' ∧ Blk w' w.heap.size 27 #[.int .i64 k, .int .i64 v, .string s, .bool ng, .slice A1 n1 c1, .slice B1 m1 d1, .slice Ar l cap]) ∧ (w'.cell? ⟨w.heap.size, 0, none⟩ = some (.int .i64 k) ∧ w'.cell? ⟨w.heap.size, 1, none⟩ = some (.int .i64 v) ∧ w'.cell? ⟨w.heap.size, 2, none⟩ = some (.string s) ∧ w'.cell? ⟨w.heap.size, 3, none⟩ = some (.bool ng) ∧ w'.cell? ⟨w.heap.size, 4, none⟩ = some (.slice A1 n1 c1) ∧ w'.cell? ⟨w.heap.size, 5, none⟩ = some (.slice B1 m1 d1) ∧ w'.cell? ⟨w.heap.size, 6, none⟩ = some (.slice Ar l cap))) := fun W j => (HSR.out HC.out W j.out.1).mono fun e w' q => by
      have j' : Below w.heap.size w w' ∧ Blk w' w.heap.size 27 #[.int .i64 k, .int .i64 v, .string s, .bool ng, .slice A1 n1 c1, .slice B1 m1 d1, .slice Ar l cap] := ⟨j.out.1.trans (q.2.out.mono j.out.1.size), j.out.2.to q.2.out⟩
      exact ⟨q.1, j', HSS.out _ j'⟩
    have HQ3 : Hid (∀ W, Hid (Below w.heap.size w W ∧ Blk W w.heap.size 27 #[.int .i64 k, .int .i64 v, .string s, .bool ng, .slice A1 n1 c1, .slice B1 m1 d1, .slice Ar l cap]) → Calls Try.prog 15 #[.agg #[.int .i64 k, .int .i64 v, .string s, .bool ng, .slice A1 n1 c1, .slice B1 m1 d1, .slice Ar l cap]] W fun e w' => ∃ ov, e = .returned ov ∧ Hid ((Below w.heap.size w w' ∧ Blk w' w.heap.size 27 #[.int .i64 k, .int .i64 v, .string s, .bool ng, .slice A1 n1 c1, .slice B1 m1 d1, .slice Ar l cap]) ∧ ∃ B, w'.ownsRow B 3 1 ov ls.length (ints ls)) ∧ (w'.cell? ⟨w.heap.size, 0, none⟩ = some (.int .i64 k) ∧ w'.cell? ⟨w.heap.size, 1, none⟩ = some (.int .i64 v) ∧ w'.cell? ⟨w.heap.size, 2, none⟩ = some (.string s) ∧ w'.cell? ⟨w.heap.size, 3, none⟩ = some (.bool ng) ∧ w'.cell? ⟨w.heap.size, 4, none⟩ = some (.slice A1 n1 c1) ∧ w'.cell? ⟨w.heap.size, 5, none⟩ = some (.slice B1 m1 d1) ∧ w'.cell? ⟨w.heap.size, 6, none⟩ = some (.slice Ar l cap))) := fun W j => (HF1.out HC.out W j.out.1).mono fun e w' q => by
      obtain ⟨ov, rfl, q⟩ := q
      have j' : Below w.heap.size w w' ∧ Blk w' w.heap.size 27 #[.int .i64 k, .int .i64 v, .string s, .bool ng, .slice A1 n1 c1, .slice B1 m1 d1, .slice Ar l cap] := ⟨j.out.1.trans (q.out.2.mono j.out.1.size), j.out.2.to q.out.2⟩
      exact ⟨ov, rfl, ⟨j', _, q.out.1⟩, HSS.out _ j'⟩
    have HQ4 : Hid (∀ W ov1, Hid ((Below w.heap.size w W ∧ Blk W w.heap.size 27 #[.int .i64 k, .int .i64 v, .string s, .bool ng, .slice A1 n1 c1, .slice B1 m1 d1, .slice Ar l cap]) ∧ ∃ B, W.ownsRow B 3 1 ov1 ls.length (ints ls)) → Calls Try.prog 16 #[.agg #[.int .i64 k, .int .i64 v, .string s, .bool ng, .slice A1 n1 c1, .slice B1 m1 d1, .slice Ar l cap]] W fun e w' => ∃ ov, e = .returned ov ∧ Hid ((Below w.heap.size w w' ∧ Blk w' w.heap.size 27 #[.int .i64 k, .int .i64 v, .string s, .bool ng, .slice A1 n1 c1, .slice B1 m1 d1, .slice Ar l cap]) ∧ SlI w' ov1 ls ∧ SlI w' ov ls) ∧ (w'.cell? ⟨w.heap.size, 0, none⟩ = some (.int .i64 k) ∧ w'.cell? ⟨w.heap.size, 1, none⟩ = some (.int .i64 v) ∧ w'.cell? ⟨w.heap.size, 2, none⟩ = some (.string s) ∧ w'.cell? ⟨w.heap.size, 3, none⟩ = some (.bool ng) ∧ w'.cell? ⟨w.heap.size, 4, none⟩ = some (.slice A1 n1 c1) ∧ w'.cell? ⟨w.heap.size, 5, none⟩ = some (.slice B1 m1 d1) ∧ w'.cell? ⟨w.heap.size, 6, none⟩ = some (.slice Ar l cap))) := fun W ov1 j => (HF2.out HC.out W j.out.1.1).mono fun e w' q => by
      obtain ⟨ov, rfl, q⟩ := q
      obtain ⟨B, hr⟩ := j.out.2
      have j' : Below w.heap.size w w' ∧ Blk w' w.heap.size 27 #[.int .i64 k, .int .i64 v, .string s, .bool ng, .slice A1 n1 c1, .slice B1 m1 d1, .slice Ar l cap] := ⟨j.out.1.1.trans (q.out.2.mono j.out.1.1.size), j.out.1.2.to q.out.2⟩
      exact ⟨ov, rfl, ⟨j', SlI.of (row_frT (ts := []) hr (FrT.of_below q.out.2) (by simp)), SlI.of q.out.1⟩, HSS.out _ j'⟩
    have HQ5 : Hid (∀ W a b, Hid ((Below w.heap.size w W ∧ Blk W w.heap.size 27 #[.int .i64 k, .int .i64 v, .string s, .bool ng, .slice A1 n1 c1, .slice B1 m1 d1, .slice Ar l cap]) ∧ SlI W a ls ∧ SlI W b ls) → Calls Try.prog 14 #[a, b] W fun e w' => e = .returned (.bool true) ∧ Hid (Below w.heap.size w w' ∧ Blk w' w.heap.size 27 #[.int .i64 k, .int .i64 v, .string s, .bool ng, .slice A1 n1 c1, .slice B1 m1 d1, .slice Ar l cap]) ∧ (w'.cell? ⟨w.heap.size, 0, none⟩ = some (.int .i64 k) ∧ w'.cell? ⟨w.heap.size, 1, none⟩ = some (.int .i64 v) ∧ w'.cell? ⟨w.heap.size, 2, none⟩ = some (.string s) ∧ w'.cell? ⟨w.heap.size, 3, none⟩ = some (.bool ng) ∧ w'.cell? ⟨w.heap.size, 4, none⟩ = some (.slice A1 n1 c1) ∧ w'.cell? ⟨w.heap.size, 5, none⟩ = some (.slice B1 m1 d1) ∧ w'.cell? ⟨w.heap.size, 6, none⟩ = some (.slice Ar l cap))) := fun W a b j => (sameInts_any ls HLN.out a b W j.out.2.1 j.out.2.2).mono fun e w' q => by
      have j' : Below w.heap.size w w' ∧ Blk w' w.heap.size 27 #[.int .i64 k, .int .i64 v, .string s, .bool ng, .slice A1 n1 c1, .slice B1 m1 d1, .slice Ar l cap] := ⟨j.out.1.1.trans (q.2.mono j.out.1.1.size), j.out.1.2.to q.2⟩
      exact ⟨q.1, j', HSS.out _ j'⟩
    have HQ6 : Hid (∀ W, Hid (Below w.heap.size w W ∧ Blk W w.heap.size 27 #[.int .i64 k, .int .i64 v, .string s, .bool ng, .slice A1 n1 c1, .slice B1 m1 d1, .slice Ar l cap]) → Calls Try.prog 8 #[] W fun e w' => e = .returned (.bool true) ∧ Hid (Below w.heap.size w w' ∧ Blk w' w.heap.size 27 #[.int .i64 k, .int .i64 v, .string s, .bool ng, .slice A1 n1 c1, .slice B1 m1 d1, .slice Ar l cap]) ∧ (w'.cell? ⟨w.heap.size, 0, none⟩ = some (.int .i64 k) ∧ w'.cell? ⟨w.heap.size, 1, none⟩ = some (.int .i64 v) ∧ w'.cell? ⟨w.heap.size, 2, none⟩ = some (.string s) ∧ w'.cell? ⟨w.heap.size, 3, none⟩ = some (.bool ng) ∧ w'.cell? ⟨w.heap.size, 4, none⟩ = some (.slice A1 n1 c1) ∧ w'.cell? ⟨w.heap.size, 5, none⟩ = some (.slice B1 m1 d1) ∧ w'.cell? ⟨w.heap.size, 6, none⟩ = some (.slice Ar l cap))) := fun W j => (HBN.out W).mono fun e w' q => by
      have j' : Below w.heap.size w w' ∧ Blk w' w.heap.size 27 #[.int .i64 k, .int .i64 v, .string s, .bool ng, .slice A1 n1 c1, .slice B1 m1 d1, .slice Ar l cap] := ⟨j.out.1.trans (q.2.out.mono j.out.1.size), j.out.2.to q.2.out⟩
      exact ⟨q.1, j', HSS.out _ j'⟩
    have hS0 := HSS.out _ HJ0.out
    clear HSS HSP HSR HF1 HF2 HBN HC HLN HW1 HK1
    go_wp2_with fail
    go_region_held3 (fun w' => w'.cell? ⟨w.heap.size, 0, none⟩ = some (.int .i64 k) ∧ w'.cell? ⟨w.heap.size, 1, none⟩ = some (.int .i64 v) ∧ w'.cell? ⟨w.heap.size, 2, none⟩ = some (.string s) ∧ w'.cell? ⟨w.heap.size, 3, none⟩ = some (.bool ng) ∧ w'.cell? ⟨w.heap.size, 4, none⟩ = some (.slice A1 n1 c1) ∧ w'.cell? ⟨w.heap.size, 5, none⟩ = some (.slice B1 m1 d1) ∧ w'.cell? ⟨w.heap.size, 6, none⟩ = some (.slice Ar l cap))
      (with_reducible assumption)
      (first
        | (go_at_call 12; (with_reducible refine (HQ1.out _ HJ0).mono ?_); rintro e y1 ⟨rfl, HJ1, hS1⟩)
        | (go_at_call 13; (with_reducible refine (HQ2.out _ HJ1).mono ?_); rintro e y2 ⟨rfl, HJ2, hS2⟩)
        | (go_at_call 15; (with_reducible refine (HQ3.out _ HJ2).mono ?_); rintro e y3 ⟨ov1, rfl, HJ3, hS3⟩)
        | (go_at_call 16; (with_reducible refine (HQ4.out _ _ HJ3).mono ?_); rintro e y4 ⟨ov2, rfl, HJ4, hS4⟩)
        | (go_at_call 14; (with_reducible refine (HQ5.out _ _ _ HJ4).mono ?_); rintro e y5 ⟨rfl, HJ5, hS5⟩)
        | (go_at_call 8; (with_reducible refine (HQ6.out _ HJ5).mono ?_); rintro e y6 ⟨rfl, HJ6, hS6⟩))
    go_wp2_with fail
    go_ret
    exact ⟨rfl, HJ6.out.1⟩
  · have hb : (tc == 0) = false := beq_eq_false_iff_ne.2 htc
    clear htc HCC HFL HFA HSP HSR HF1 HF2 HK1
    go_wp2_with fail
    refine (HBN.out _).mono ?_
    rintro e w2 ⟨rfl, hb2⟩
    have HW2 : Hid (Below w.heap.size w w2) := HW1.out.trans (hb2.out.mono HW1.out.size)
    clear hb2
    go_wp2_with fail
    go_ret
    exact ⟨rfl, HW2.out⟩

/-- TermSizeAndFree. -/
theorem termSizeAndFree_holds : Rows.TermSizeAndFreeSaid := LawTmSF.said law_tmSF
end Go.Proofs.Ytcdgnipmfalhiaa

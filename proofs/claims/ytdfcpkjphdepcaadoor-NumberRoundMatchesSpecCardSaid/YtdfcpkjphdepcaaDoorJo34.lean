/- fetterlockref1.Minus, Inverse. fetterlockref1.IsInt; Fault at any number. -/
import Derived.Test.YtdfcpkjphdepcaaDoorJo24
import Derived.Test.YtdfcpkjphdepcaaDoorJo28
set_option linter.unusedVariables false
set_option linter.unusedSimpArgs false
namespace Go.Proofs.YtdfcpkjphdepcaaDoor
open Go.RowKit NumB
set_option linter.unusedVariables false
set_option linter.unusedSimpArgs false

set_option maxRecDepth 100000 in
set_option maxHeartbeats 1600000 in
theorem rminus_any (neg : Bool) (x y : Nat) (v : Value) (w : World) (h : RV w v neg x y) : Calls Tryd.prog 38 #[v] w (RVPost w (!neg && decide (0 < x)) x y) := by
  have HR := Lib.hid h
  obtain ⟨A, n, c, B, m, d, rfl, hn, hm⟩ := h.form
  have hpos := len_pos16 hn
  have HGT : Hid (decide (0 < n) = decide (0 < x)) := by
    unfold Hid
    by_cases h : 0 < n
    · rw [decide_eq_true (hpos.1 h), decide_eq_true h]
    · rw [decide_eq_false (fun hh => h (hpos.2 hh)), decide_eq_false h]
  obtain ⟨_, h1, h2⟩ := h.parts
  have HN1 := Lib.hid h1
  have HN2 := Lib.hid h2
  clear h hn hm hpos h1 h2 HR
  cases neg with
  | true =>
    go_enter Tryd.func38, Tryd.ntmps38
    go_wp2_with fail
    refine bodyPost_ret (v := .agg #[.bool false, .slice A n c, .slice B m d]) (by simp [results, Tryd.results38, go_sem]) rfl ⟨_, rfl, ?_, below_two w _ _⟩
    exact ⟨_, _, rfl, HN1.out.to (below_two w _ _), HN2.out.to (below_two w _ _)⟩
  | false =>
    go_enter Tryd.func38, Tryd.ntmps38
    go_wp2_with fail
    refine bodyPost_ret (v := .agg #[.bool (decide (0 < n)), .slice A n c, .slice B m d]) (by simp [results, Tryd.results38, go_sem]) rfl ⟨_, rfl, ?_, below_two w _ _⟩
    rw [HGT.out]
    exact ⟨_, _, rfl, HN1.out.to (below_two w _ _), HN2.out.to (below_two w _ _)⟩

end Go.Proofs.YtdfcpkjphdepcaaDoor
namespace Go.Proofs.YtdfcpkjphdepcaaDoor
open Go.RowKit NumB
set_option linter.unusedVariables false
set_option linter.unusedSimpArgs false

theorem fault_S (a : LN) (v : Value) (w : World) (h : GV w v a) : Calls Tryd.prog 18 #[v] w fun e w' => e = .returned (.int .i64 a.err) ∧ Below w.heap.size w w' := by
  obtain ⟨A, B, rfl, ha, hb, ox, oy⟩ := h
  exact fault_any a.neg a.num a.den A B w ha hb ox oy
theorem LN.len16 {a : LN} (ho : a.ok) (h : a.err = 0) : (digs W16 a.x).length ≤ 256 ∧ (digs W16 a.y).length ≤ 256 := by
  obtain ⟨_, _, h3, h4, _⟩ := LN.good ho h
  exact ⟨digs16_val_le ho.1 h3, digs16_val_le ho.2 h4⟩

set_option maxRecDepth 100000 in
set_option maxHeartbeats 1600000 in
theorem risInt_any (neg : Bool) (x y : Nat) (v : Value) (w : World) (h : RV w v neg x y) (hy : (digs W16 y).length ≤ 1000000) :
    Calls Tryd.prog 39 #[v] w fun e w' => e = .returned (.bool (cmpI y 1 == 0)) ∧ Below w.heap.size w w' := by
  obtain ⟨A1, A2, rfl, h1, h2⟩ := h
  obtain ⟨B1, n1, c1, rfl, e1⟩ := h1.form
  obtain ⟨B2, n2, c2, rfl, e2⟩ := h2.form
  have HN := Lib.hid h2
  have HL := Lib.hid hy
  have HOne : ∀ o : Obj, Nat16 ((w.alloc o).alloc (.cells #[.int .i64 1] 3)) (.slice (some ⟨w.heap.size + 1, 0, none⟩) 1 1) 1 := fun o => by
    have h := one16 (w.alloc o)
    rw [show (w.alloc o).heap.size = w.heap.size + 1 from by simp] at h
    exact h
  clear h1 h2 e1 e2 hy
  go_enter Tryd.func39, Tryd.ntmps39
  go_wp2_with fail
  refine (rcmp_any y 1 _ _ _ (by exact HN.out.to (below_two w _ _)) (HOne _) HL.out (by rw [digs_one16]; decide)).mono ?_
  rintro e w1 ⟨rfl, rfl⟩
  go_wp2_with fail
  go_ret
  exact ⟨rfl, below_two w _ _⟩

theorem cmpI_one_true {y : Nat} (h : y = 1) : (cmpI y 1 == 0) = true := by subst h; decide
theorem cmpI_one_false {y : Nat} (h : y ≠ 1) : (cmpI y 1 == 0) = false := by
  rcases Nat.lt_trichotomy y 1 with h1 | h1 | h1
  · rw [cmpI_lt h1]; rfl
  · exact absurd h1 h
  · rw [cmpI_gt h1]; rfl
end Go.Proofs.YtdfcpkjphdepcaaDoor

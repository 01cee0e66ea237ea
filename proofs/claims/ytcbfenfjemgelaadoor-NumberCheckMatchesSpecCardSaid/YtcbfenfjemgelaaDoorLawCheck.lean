/- NumberCheckMatchesSpec: for every number, Check returns what the reference's Fault returns, and the small sum is counted right. -/
import Derived.Test.YtcbfenfjemgelaaDoorCounted
import Derived.Test.YtcbfenfjemgelaaDoorFault3
import Derived.Test.YtcbfenfjemgelaaDoorCardCheck
import Derived.Deep.RegionHeld3
namespace Go.Proofs.YtcbfenfjemgelaaDoor
open Go.RowKit NumB
set_option linter.unusedVariables false

set_option maxRecDepth 100000 in
set_option maxHeartbeats 3200000 in
theorem law_check : LawCheck.Walk := by
  intro neg xs ys va vb w ha hb ox oy
  have hbo : ∀ o : Obj, Below w.heap.size w (w.alloc o).drew := fun o => (below_one w o).drew
  have HC : Hid (∀ o : Obj, Calls Tryd.prog 4 #[.agg #[.bool neg, va, vb]] (w.alloc o).drew fun e w' => e = .returned (.int .i64 (checkL neg xs ys)) ∧ Below (w.alloc o).drew.heap.size (w.alloc o).drew w') := fun o => check_any neg xs ys va vb _ (ha.to (hbo o)) (hb.to (hbo o)) ox oy
  have HF : Hid (∀ (o : Obj) (W : World), Below (w.alloc o).drew.heap.size (w.alloc o).drew W → Calls Tryd.prog 5 #[.agg #[.bool neg, va, vb]] W fun e w' => e = .returned (.int .i64 (checkL neg xs ys)) ∧ Below W.heap.size W w') := fun o W hW => fault_any neg xs ys va vb _ ((ha.to (hbo o)).to hW) ((hb.to (hbo o)).to hW) ox oy
  have HBO := Lib.hid hbo
  clear hbo
  obtain ⟨A, ca, rfl, _⟩ := ha
  obtain ⟨A', cb, rfl, _⟩ := hb
  have hbd := checkL_bd neg xs ys
  generalize checkL neg xs ys = er at *
  generalize hz1 : xs.length = n at *
  generalize hz2 : ys.length = m at *
  clear hz1 hz2 ox oy
  have hee : (er == er) = true := by simp
  have hk : ∀ W1 W' : World, Below W1.heap.size W1 W' → (W1.cell? ⟨w.heap.size, 0, none⟩ = some (.bool neg) ∧ W1.cell? ⟨w.heap.size, 1, none⟩ = some (.slice A n ca) ∧ W1.cell? ⟨w.heap.size, 2, none⟩ = some (.slice A' m cb) ∧ w.heap.size < W1.heap.size) → (W'.cell? ⟨w.heap.size, 0, none⟩ = some (.bool neg) ∧ W'.cell? ⟨w.heap.size, 1, none⟩ = some (.slice A n ca) ∧ W'.cell? ⟨w.heap.size, 2, none⟩ = some (.slice A' m cb) ∧ w.heap.size < W'.heap.size) :=
    fun W1 W' h1 ⟨h3, h4, h5, h2⟩ => ⟨(h1.cell (p := ⟨w.heap.size, 0, none⟩) h2).trans h3, (h1.cell (p := ⟨w.heap.size, 1, none⟩) h2).trans h4, (h1.cell (p := ⟨w.heap.size, 2, none⟩) h2).trans h5, Nat.lt_of_lt_of_le h2 h1.size⟩
  have HK := Lib.hid hk
  clear hk
  go_enter Tryd.func3, Tryd.ntmps3
  go_wp2_with fail
  go_region_held3 (fun w' => w'.cell? ⟨w.heap.size, 0, none⟩ = some (.bool neg) ∧ w'.cell? ⟨w.heap.size, 1, none⟩ = some (.slice A n ca) ∧ w'.cell? ⟨w.heap.size, 2, none⟩ = some (.slice A' m cb) ∧ w.heap.size < w'.heap.size)
    (first | go_keep | (refine HK.out _ _ (by assumption) ?_; go_keep))
    (first
      | (go_at_call 4; ((with_reducible refine (HC.out _).mono ?_)); rintro e w1 ⟨rfl, hb1⟩)
      | (go_at_call 5; ((with_reducible refine (HF.out _ _ (by exact hb1)).mono ?_)); rintro e w2 ⟨rfl, hb2⟩)
      | (go_at_call 6; ((with_reducible refine (counted_any _).mono ?_)); rintro e w3 ⟨rfl, hb3⟩))
  go_wp2_with fail
  go_ret
  exact ⟨rfl, ((HBO.out _).trans (hb1.mono (HBO.out _).size)).trans ((hb2.trans (hb3.mono hb2.size)).mono (Nat.le_trans (HBO.out _).size hb1.size))⟩

theorem numberCheck_holds : Rows.NumberCheckMatchesSpecCardSaid := LawCheck.card law_check
#print axioms numberCheck_holds
end Go.Proofs.YtcbfenfjemgelaaDoor

/-  -/
import Derived.Deep.RegionHeld3
import Derived.Test.YtcdgnipmfalhiaaJo20
import Derived.Test.YtcdgnipmfalhiaaJo45
set_option linter.unusedVariables false
set_option linter.unusedSimpArgs false
/- TermCheckMatchesSpec: for all terms, Check returns the specified error. -/
namespace Go.Proofs.Ytcdgnipmfalhiaa
open Go.RowKit NumB
set_option linter.unusedVariables false
set_option linter.unusedSimpArgs false

/-- What bound answers. -/
def BoundOk : Prop := ∀ W : World, Calls Try.prog 8 #[] W fun e w' => e = .returned (.bool true) ∧ Below W.heap.size W w'

set_option maxRecDepth 100000 in
set_option maxHeartbeats 3200000 in
theorem law_tmCheck (HBO : BoundOk) : LawTmCheck.Walk := by
  intro t c0 w h
  have HCK : Hid (∀ W', Below w.heap.size w W' → Calls Try.prog 6 #[.agg c0.toArray] W' fun e w' => e = .returned (.int .i64 t.check) ∧ Below W'.heap.size W' w') := fun W' hb => tmCheck_any h W' hb
  have HFA : Hid (∀ W', Below w.heap.size w W' → Calls Try.prog 7 #[.agg c0.toArray] W' fun e w' => e = .returned (.int .i64 t.check) ∧ Below W'.heap.size W' w') := fun W' hb => tmFault_any h W' hb
  obtain ⟨k, v, s, ng, A1, n1, c1, B1, m1, d1, Ar, l, cap, hcs⟩ := h.form
  subst hcs
  have HBN : Hid (∀ W : World, Calls Try.prog 8 #[] W fun e w' => e = .returned (.bool true) ∧ Below W.heap.size W w') := HBO
  generalize t.check = tc at *
  clear h HBO
  have hee : (tc == tc) = true := by simp
  have HBA := Lib.hid (below_one w (.cells #[.int .i64 k, .int .i64 v, .string s, .bool ng, .slice A1 n1 c1, .slice B1 m1 d1, .slice Ar l cap] 27))
  have HKA := Lib.hid (Blk.new w 27 #[.int .i64 k, .int .i64 v, .string s, .bool ng, .slice A1 n1 c1, .slice B1 m1 d1, .slice Ar l cap])
  have HKW : Hid (∀ w' : World, Below (w.alloc (.cells #[.int .i64 k, .int .i64 v, .string s, .bool ng, .slice A1 n1 c1, .slice B1 m1 d1, .slice Ar l cap] 27)).drew.heap.size (w.alloc (.cells #[.int .i64 k, .int .i64 v, .string s, .bool ng, .slice A1 n1 c1, .slice B1 m1 d1, .slice Ar l cap] 27)).drew w' → (w'.cell? ⟨w.heap.size, 0, none⟩ = some (.int .i64 k) ∧ w'.cell? ⟨w.heap.size, 1, none⟩ = some (.int .i64 v) ∧ w'.cell? ⟨w.heap.size, 2, none⟩ = some (.string s) ∧ w'.cell? ⟨w.heap.size, 3, none⟩ = some (.bool ng) ∧ w'.cell? ⟨w.heap.size, 4, none⟩ = some (.slice A1 n1 c1) ∧ w'.cell? ⟨w.heap.size, 5, none⟩ = some (.slice B1 m1 d1) ∧ w'.cell? ⟨w.heap.size, 6, none⟩ = some (.slice Ar l cap))) := fun w' hb => by
    have ka := HKA.out.drew.to hb
    exact ⟨ka.cell 0, ka.cell 1, ka.cell 2, ka.cell 3, ka.cell 4, ka.cell 5, ka.cell 6⟩
  have HD0 : Hid (Below (w.alloc (.cells #[.int .i64 k, .int .i64 v, .string s, .bool ng, .slice A1 n1 c1, .slice B1 m1 d1, .slice Ar l cap] 27)).drew.heap.size (w.alloc (.cells #[.int .i64 k, .int .i64 v, .string s, .bool ng, .slice A1 n1 c1, .slice B1 m1 d1, .slice Ar l cap] 27)).drew (w.alloc (.cells #[.int .i64 k, .int .i64 v, .string s, .bool ng, .slice A1 n1 c1, .slice B1 m1 d1, .slice Ar l cap] 27)).drew) := Below.refl _ _
  have HBD : Hid (Below w.heap.size w (w.alloc (.cells #[.int .i64 k, .int .i64 v, .string s, .bool ng, .slice A1 n1 c1, .slice B1 m1 d1, .slice Ar l cap] 27)).drew) := HBA.out.drew
  go_enter Try.func3, Try.ntmps3
  go_wp2_with fail
  go_region_held3 (fun w' => w'.cell? ⟨w.heap.size, 0, none⟩ = some (.int .i64 k) ∧ w'.cell? ⟨w.heap.size, 1, none⟩ = some (.int .i64 v) ∧ w'.cell? ⟨w.heap.size, 2, none⟩ = some (.string s) ∧ w'.cell? ⟨w.heap.size, 3, none⟩ = some (.bool ng) ∧ w'.cell? ⟨w.heap.size, 4, none⟩ = some (.slice A1 n1 c1) ∧ w'.cell? ⟨w.heap.size, 5, none⟩ = some (.slice B1 m1 d1) ∧ w'.cell? ⟨w.heap.size, 6, none⟩ = some (.slice Ar l cap))
    (first | (with_reducible exact HKW.out _ (Hid.out (by assumption))) | (go_keep; done))
    (first
      | (go_at_call 6; ((with_reducible refine (HCK.out _ (by exact HBD.out)).mono ?_)); rintro e y1 ⟨rfl, hb1⟩; have HD1 : Hid (Below (w.alloc (.cells #[.int .i64 k, .int .i64 v, .string s, .bool ng, .slice A1 n1 c1, .slice B1 m1 d1, .slice Ar l cap] 27)).drew.heap.size (w.alloc (.cells #[.int .i64 k, .int .i64 v, .string s, .bool ng, .slice A1 n1 c1, .slice B1 m1 d1, .slice Ar l cap] 27)).drew y1) := hb1)
      | (go_at_call 7; ((with_reducible refine (HFA.out _ (by exact HBD.out.trans (HD1.out.mono HBD.out.size))).mono ?_)); rintro e y2 ⟨rfl, hb2⟩; have HD2 : Hid (Below (w.alloc (.cells #[.int .i64 k, .int .i64 v, .string s, .bool ng, .slice A1 n1 c1, .slice B1 m1 d1, .slice Ar l cap] 27)).drew.heap.size (w.alloc (.cells #[.int .i64 k, .int .i64 v, .string s, .bool ng, .slice A1 n1 c1, .slice B1 m1 d1, .slice Ar l cap] 27)).drew y2) := hb1.trans (hb2.mono hb1.size))
      | (go_at_call 8; ((with_reducible refine (HBN.out _).mono ?_)); rintro e y3 ⟨rfl, hb3⟩; have HD3 : Hid (Below (w.alloc (.cells #[.int .i64 k, .int .i64 v, .string s, .bool ng, .slice A1 n1 c1, .slice B1 m1 d1, .slice Ar l cap] 27)).drew.heap.size (w.alloc (.cells #[.int .i64 k, .int .i64 v, .string s, .bool ng, .slice A1 n1 c1, .slice B1 m1 d1, .slice Ar l cap] 27)).drew y3) := HD2.out.trans (hb3.mono HD2.out.size)))
  all_goals
    go_wp2_with fail
    go_ret
    exact ⟨rfl, HBD.out.trans (HD3.out.mono HBD.out.size)⟩

theorem termCheck_of (HBO : BoundOk) : Rows.TermCheckMatchesSpecSaid := LawTmCheck.said (law_tmCheck HBO)
/-- TermCheckMatchesSpec. -/
theorem termCheck_holds : Rows.TermCheckMatchesSpecSaid := termCheck_of bound_any
end Go.Proofs.Ytcdgnipmfalhiaa

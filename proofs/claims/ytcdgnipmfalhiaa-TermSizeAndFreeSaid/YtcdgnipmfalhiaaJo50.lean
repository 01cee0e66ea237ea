/-  -/
import Derived.BigQuiet
import Derived.Deep.QuietTactic
import Derived.Test.YtcdgnipmfalhiaaJo48
import Derived.Test.YtcdgnipmfalhiaaJo49
set_option linter.unusedVariables false
set_option linter.unusedSimpArgs false
/- term.Free. -/
namespace Go.Proofs.Ytcdgnipmfalhiaa
open Go.RowKit NumB
set_option linter.unusedVariables false
set_option linter.unusedSimpArgs false

set_option maxRecDepth 100000 in
set_option maxHeartbeats 3200000 in
theorem free_any {w : World} {t : Tm} {cs : List Value} (h : TC w t cs) (hc : t.count ≤ 1000000) (W : World) (hW : Below w.heap.size w W) :
    Calls Try.prog 15 #[.agg cs.toArray] W fun e W' => ∃ ov, e = .returned ov ∧ W'.ownsRow W.heap.size 3 1 ov (t.free []).length (ints (t.free [])) ∧ Below W.heap.size W W' := by
  obtain ⟨k, v, s, ng, A1, n1, c1, B1, m1, d1, Ar, l, cap, hcs⟩ := h.form
  subst hcs
  have hb4 : Blk (((((W.alloc (.cells #[.int .i64 k, .int .i64 v, .string s, .bool ng, .slice A1 n1 c1, .slice B1 m1 d1, .slice Ar l cap] 27)).alloc (.cells #[.slice none 0 0] 39)).alloc (.map #[] 0)).alloc (.cells #[.map (some (W.heap.size + 1 + 1))] 52)).alloc (.cells #[.nilFunc] 53)) (W.heap.size + 1 + 1 + 1 + 1) 53 #[.nilFunc] := by
    have := Blk.new ((((W.alloc (.cells #[.int .i64 k, .int .i64 v, .string s, .bool ng, .slice A1 n1 c1, .slice B1 m1 d1, .slice Ar l cap] 27)).alloc (.cells #[.slice none 0 0] 39)).alloc (.map #[] 0)).alloc (.cells #[.map (some (W.heap.size + 1 + 1))] 52)) 53 #[.nilFunc]
    rw [show ((((W.alloc (.cells #[.int .i64 k, .int .i64 v, .string s, .bool ng, .slice A1 n1 c1, .slice B1 m1 d1, .slice Ar l cap] 27)).alloc (.cells #[.slice none 0 0] 39)).alloc (.map #[] 0)).alloc (.cells #[.map (some (W.heap.size + 1 + 1))] 52)).heap.size = W.heap.size + 1 + 1 + 1 + 1 by simp] at this
    exact this
  have fz := hb4.frozen 0
  have a4 := hb4.cell 0
  have hst : (store ⟨W.heap.size + 1 + 1 + 1 + 1, 0, none⟩ (.func (.func 29) #[] #[.pointer (some ⟨W.heap.size + 1 + 1 + 1, 0, none⟩), .pointer (some ⟨W.heap.size + 1, 0, none⟩), .pointer (some ⟨W.heap.size + 1 + 1 + 1 + 1, 0, none⟩)])).run Try.prog (((((W.alloc (.cells #[.int .i64 k, .int .i64 v, .string s, .bool ng, .slice A1 n1 c1, .slice B1 m1 d1, .slice Ar l cap] 27)).alloc (.cells #[.slice none 0 0] 39)).alloc (.map #[] 0)).alloc (.cells #[.map (some (W.heap.size + 1 + 1))] 52)).alloc (.cells #[.nilFunc] 53)) = .ok () ((((((W.alloc (.cells #[.int .i64 k, .int .i64 v, .string s, .bool ng, .slice A1 n1 c1, .slice B1 m1 d1, .slice Ar l cap] 27)).alloc (.cells #[.slice none 0 0] 39)).alloc (.map #[] 0)).alloc (.cells #[.map (some (W.heap.size + 1 + 1))] 52)).alloc (.cells #[.nilFunc] 53)).setCell ⟨W.heap.size + 1 + 1 + 1 + 1, 0, none⟩ (.func (.func 29) #[] #[.pointer (some ⟨W.heap.size + 1 + 1 + 1, 0, none⟩), .pointer (some ⟨W.heap.size + 1, 0, none⟩), .pointer (some ⟨W.heap.size + 1 + 1 + 1 + 1, 0, none⟩)])) := by
    rw [run_store _ _ _ _ _ rfl, a4, fz]
    rfl
  clear hb4 fz a4
  have HRUN : Hid (Calls Try.prog 29 #[.agg #[.int .i64 k, .int .i64 v, .string s, .bool ng, .slice A1 n1 c1, .slice B1 m1 d1, .slice Ar l cap], .pointer (some ⟨W.heap.size + 1 + 1 + 1, 0, none⟩), .pointer (some ⟨W.heap.size + 1, 0, none⟩), .pointer (some ⟨W.heap.size + 1 + 1 + 1 + 1, 0, none⟩)] (((((W.alloc (.cells #[.int .i64 k, .int .i64 v, .string s, .bool ng, .slice A1 n1 c1, .slice B1 m1 d1, .slice Ar l cap] 27)).alloc (.cells #[.slice none 0 0] 39)).alloc (.map #[] 0)).alloc (.cells #[.map (some (W.heap.size + 1 + 1))] 52)).alloc (.cells #[.func (.func 29) #[] #[.pointer (some ⟨W.heap.size + 1 + 1 + 1, 0, none⟩), .pointer (some ⟨W.heap.size + 1, 0, none⟩), .pointer (some ⟨W.heap.size + 1 + 1 + 1 + 1, 0, none⟩)]] 53)) fun e w' => e = .returned (.tuple #[]) ∧ Hid (FV W.heap.size (W.heap.size + 1 + 1 + 1) (W.heap.size + 1) (W.heap.size + 1 + 1 + 1 + 1) (W.heap.size + 1 + 1) (t.free []) w' ∧ Below W.heap.size W w')) := by
    have hb1 : Blk ((W.alloc (.cells #[.int .i64 k, .int .i64 v, .string s, .bool ng, .slice A1 n1 c1, .slice B1 m1 d1, .slice Ar l cap] 27)).alloc (.cells #[.slice none 0 0] 39)) (W.heap.size + 1) 39 #[.slice none 0 0] := by
      have := Blk.new (W.alloc (.cells #[.int .i64 k, .int .i64 v, .string s, .bool ng, .slice A1 n1 c1, .slice B1 m1 d1, .slice Ar l cap] 27)) 39 #[.slice none 0 0]
      rw [show (W.alloc (.cells #[.int .i64 k, .int .i64 v, .string s, .bool ng, .slice A1 n1 c1, .slice B1 m1 d1, .slice Ar l cap] 27)).heap.size = W.heap.size + 1 by simp] at this
      exact this
    have hb3 : Blk ((((W.alloc (.cells #[.int .i64 k, .int .i64 v, .string s, .bool ng, .slice A1 n1 c1, .slice B1 m1 d1, .slice Ar l cap] 27)).alloc (.cells #[.slice none 0 0] 39)).alloc (.map #[] 0)).alloc (.cells #[.map (some (W.heap.size + 1 + 1))] 52)) (W.heap.size + 1 + 1 + 1) 52 #[.map (some (W.heap.size + 1 + 1))] := by
      have := Blk.new (((W.alloc (.cells #[.int .i64 k, .int .i64 v, .string s, .bool ng, .slice A1 n1 c1, .slice B1 m1 d1, .slice Ar l cap] 27)).alloc (.cells #[.slice none 0 0] 39)).alloc (.map #[] 0)) 52 #[.map (some (W.heap.size + 1 + 1))]
      rw [show (((W.alloc (.cells #[.int .i64 k, .int .i64 v, .string s, .bool ng, .slice A1 n1 c1, .slice B1 m1 d1, .slice Ar l cap] 27)).alloc (.cells #[.slice none 0 0] 39)).alloc (.map #[] 0)).heap.size = W.heap.size + 1 + 1 + 1 by simp] at this
      exact this
    have hb4 : Blk (((((W.alloc (.cells #[.int .i64 k, .int .i64 v, .string s, .bool ng, .slice A1 n1 c1, .slice B1 m1 d1, .slice Ar l cap] 27)).alloc (.cells #[.slice none 0 0] 39)).alloc (.map #[] 0)).alloc (.cells #[.map (some (W.heap.size + 1 + 1))] 52)).alloc (.cells #[.func (.func 29) #[] #[.pointer (some ⟨W.heap.size + 1 + 1 + 1, 0, none⟩), .pointer (some ⟨W.heap.size + 1, 0, none⟩), .pointer (some ⟨W.heap.size + 1 + 1 + 1 + 1, 0, none⟩)]] 53)) (W.heap.size + 1 + 1 + 1 + 1) 53 #[.func (.func 29) #[] #[.pointer (some ⟨W.heap.size + 1 + 1 + 1, 0, none⟩), .pointer (some ⟨W.heap.size + 1, 0, none⟩), .pointer (some ⟨W.heap.size + 1 + 1 + 1 + 1, 0, none⟩)]] := by
      have := Blk.new ((((W.alloc (.cells #[.int .i64 k, .int .i64 v, .string s, .bool ng, .slice A1 n1 c1, .slice B1 m1 d1, .slice Ar l cap] 27)).alloc (.cells #[.slice none 0 0] 39)).alloc (.map #[] 0)).alloc (.cells #[.map (some (W.heap.size + 1 + 1))] 52)) 53 #[.func (.func 29) #[] #[.pointer (some ⟨W.heap.size + 1 + 1 + 1, 0, none⟩), .pointer (some ⟨W.heap.size + 1, 0, none⟩), .pointer (some ⟨W.heap.size + 1 + 1 + 1 + 1, 0, none⟩)]]
      rw [show ((((W.alloc (.cells #[.int .i64 k, .int .i64 v, .string s, .bool ng, .slice A1 n1 c1, .slice B1 m1 d1, .slice Ar l cap] 27)).alloc (.cells #[.slice none 0 0] 39)).alloc (.map #[] 0)).alloc (.cells #[.map (some (W.heap.size + 1 + 1))] 52)).heap.size = W.heap.size + 1 + 1 + 1 + 1 by simp] at this
      exact this
    have hbw : Below W.heap.size W (((((W.alloc (.cells #[.int .i64 k, .int .i64 v, .string s, .bool ng, .slice A1 n1 c1, .slice B1 m1 d1, .slice Ar l cap] 27)).alloc (.cells #[.slice none 0 0] 39)).alloc (.map #[] 0)).alloc (.cells #[.map (some (W.heap.size + 1 + 1))] 52)).alloc (.cells #[.func (.func 29) #[] #[.pointer (some ⟨W.heap.size + 1 + 1 + 1, 0, none⟩), .pointer (some ⟨W.heap.size + 1, 0, none⟩), .pointer (some ⟨W.heap.size + 1 + 1 + 1 + 1, 0, none⟩)]] 53)) := (((((Below.refl _ W).alloc (Nat.le_refl _) _).alloc (by simp) _).alloc (by simp; omega) _).alloc (by simp; omega) _).alloc (by simp; omega) _
    have hm0 : (((((W.alloc (.cells #[.int .i64 k, .int .i64 v, .string s, .bool ng, .slice A1 n1 c1, .slice B1 m1 d1, .slice Ar l cap] 27)).alloc (.cells #[.slice none 0 0] 39)).alloc (.map #[] 0)).alloc (.cells #[.map (some (W.heap.size + 1 + 1))] 52)).alloc (.cells #[.func (.func 29) #[] #[.pointer (some ⟨W.heap.size + 1 + 1 + 1, 0, none⟩), .pointer (some ⟨W.heap.size + 1, 0, none⟩), .pointer (some ⟨W.heap.size + 1 + 1 + 1 + 1, 0, none⟩)]] 53)).heap[W.heap.size + 1 + 1]? = some (.map #[] 0) := by
      have := heap_alloc_new ((W.alloc (.cells #[.int .i64 k, .int .i64 v, .string s, .bool ng, .slice A1 n1 c1, .slice B1 m1 d1, .slice Ar l cap] 27)).alloc (.cells #[.slice none 0 0] 39)) (.map #[] 0)
      rw [show ((W.alloc (.cells #[.int .i64 k, .int .i64 v, .string s, .bool ng, .slice A1 n1 c1, .slice B1 m1 d1, .slice Ar l cap] 27)).alloc (.cells #[.slice none 0 0] 39)).heap.size = W.heap.size + 1 + 1 by simp] at this
      rw [Lib.alloc_old _ _ _ (by simp), Lib.alloc_old _ _ _ (by simp)]
      exact this
    have g1 := ((hb1.alloc (.map #[] 0)).alloc (.cells #[.map (some (W.heap.size + 1 + 1))] 52)).alloc (.cells #[.func (.func 29) #[] #[.pointer (some ⟨W.heap.size + 1 + 1 + 1, 0, none⟩), .pointer (some ⟨W.heap.size + 1, 0, none⟩), .pointer (some ⟨W.heap.size + 1 + 1 + 1 + 1, 0, none⟩)]] 53)
    have g3 := hb3.alloc (.cells #[.func (.func 29) #[] #[.pointer (some ⟨W.heap.size + 1 + 1 + 1, 0, none⟩), .pointer (some ⟨W.heap.size + 1, 0, none⟩), .pointer (some ⟨W.heap.size + 1 + 1 + 1 + 1, 0, none⟩)]] 53)
    have hset : (fun _ => none) = setF [] := by funext j; simp [setF]
    have hfv : FV W.heap.size (W.heap.size + 1 + 1 + 1) (W.heap.size + 1) (W.heap.size + 1 + 1 + 1 + 1) (W.heap.size + 1 + 1) [] (((((W.alloc (.cells #[.int .i64 k, .int .i64 v, .string s, .bool ng, .slice A1 n1 c1, .slice B1 m1 d1, .slice Ar l cap] 27)).alloc (.cells #[.slice none 0 0] 39)).alloc (.map #[] 0)).alloc (.cells #[.map (some (W.heap.size + 1 + 1))] 52)).alloc (.cells #[.func (.func 29) #[] #[.pointer (some ⟨W.heap.size + 1 + 1 + 1, 0, none⟩), .pointer (some ⟨W.heap.size + 1, 0, none⟩), .pointer (some ⟨W.heap.size + 1 + 1 + 1 + 1, 0, none⟩)]] 53)) := ⟨g3, ⟨_, g1, World.ownsRow_nil _ _ _ _⟩, hb4, ⟨0, hset ▸ MapI.empty hm0⟩, by omega, by omega⟩
    refine (free_visit W.heap.size (W.heap.size + 1 + 1 + 1) (W.heap.size + 1) (W.heap.size + 1 + 1 + 1 + 1) (W.heap.size + 1 + 1) hW.size h [] (by simpa using hc) (((((W.alloc (.cells #[.int .i64 k, .int .i64 v, .string s, .bool ng, .slice A1 n1 c1, .slice B1 m1 d1, .slice Ar l cap] 27)).alloc (.cells #[.slice none 0 0] 39)).alloc (.map #[] 0)).alloc (.cells #[.map (some (W.heap.size + 1 + 1))] 52)).alloc (.cells #[.func (.func 29) #[] #[.pointer (some ⟨W.heap.size + 1 + 1 + 1, 0, none⟩), .pointer (some ⟨W.heap.size + 1, 0, none⟩), .pointer (some ⟨W.heap.size + 1 + 1 + 1 + 1, 0, none⟩)]] 53)) (hW.trans (hbw.mono hW.size)) hbw.size hfv).mono ?_
    rintro e w' ⟨rfl, q1, _, q3⟩
    exact ⟨rfl, q1, hbw.trans q3⟩
  have hmm := @run_makeMap Try.prog
  generalize t.free [] = ls at *
  clear h hc hW
  go_enter Try.func15, Try.ntmps15
  go_wp2_with fail
  refine HRUN.out.mono ?_
  rintro e w2 ⟨rfl, HQ⟩
  obtain ⟨ov, h1, h2⟩ := HQ.out.1.h2
  have HR := Lib.hid h2
  have HB := Lib.hid HQ.out.2
  have o0 := h1.cell 0
  simp only [List.getElem?_toArray, List.getElem?_cons_zero, List.getElem?_cons_succ] at o0
  clear hst h1 h2 HQ HRUN
  go_wp2_with fail
  go_ret
  exact ⟨ov, rfl, HR.out, HB.out⟩
end Go.Proofs.Ytcdgnipmfalhiaa
/- fetterlocklaw2.sameInts at two slices of the same ints. -/
namespace Go.Proofs.Ytcdgnipmfalhiaa
open Go.RowKit NumB
set_option linter.unusedVariables false
set_option linter.unusedSimpArgs false

/-- A slice that reads as ints. -/
def SlI (w : World) (v : Value) (xs : List Int) : Prop := ∃ A c, v = .slice A xs.length c ∧ (0 < xs.length → ∃ b, A = some ⟨b, 0, none⟩ ∧ ∀ i (h : i < xs.length), w.cell? ⟨b, i, none⟩ = some (.int .i64 xs[i]))
theorem SlI.of {w : World} {B : Nat} {v : Value} {xs : List Int} (h : w.ownsRow B 3 1 v xs.length (ints xs)) : SlI w v xs := by
  rcases h.2 with ⟨h1, h2⟩ | ⟨g, cap, cur, h1, _⟩
  · exact ⟨none, 0, by rw [h1, h2], fun q => by omega⟩
  · subst h1
    refine ⟨_, _, rfl, fun _ => ⟨g, rfl, fun i hi => ?_⟩⟩
    have := h.cellAt i (by omega)
    rw [this]
    unfold ints
    simp [hi]
set_option maxRecDepth 100000 in
set_option maxHeartbeats 3200000 in
theorem sameInts_any (xs : List Int) (hx : xs.length ≤ 1000000) (a b : Value) (w : World) (ha : SlI w a xs) (hb : SlI w b xs) :
    Calls Try.prog 14 #[a, b] w fun e w' => e = .returned (.bool true) ∧ Below w.heap.size w w' := by
  obtain ⟨A, c, rfl, hA⟩ := ha
  obtain ⟨B, d, rfl, hB⟩ := hb
  have HA := Lib.hid hA
  have HB := Lib.hid hB
  clear hA hB
  obtain ⟨l, hl⟩ : ∃ l, xs.length = l := ⟨_, rfl⟩
  rw [hl] at hx ⊢
  have HL := Lib.hid hl
  clear hl
  go_enter Try.func14, Try.ntmps14
  go_wp2_with fail
  go_loopg [5] l (fun gk s5 wr => ∃ j : Nat, gk + j = l ∧ s5 = .int .i64 (j : Int) ∧ Hid (Below w.heap.size w wr ∧ ∀ b : Nat, ∀ i v, w.cell? ⟨b, i, none⟩ = some v → wr.cell? ⟨b, i, none⟩ = some v))
  case atStart => exact ⟨0, by omega, rfl, Below.refl _ _, fun _ _ _ h => h⟩
  case round =>
    obtain ⟨j, hgj, rfl, HJ⟩ := hrel
    by_cases hj : j < l
    · have hja : j < xs.length := by rw [HL.out]; exact hj
      obtain ⟨b1, rfl, h1⟩ := HA.out (by omega)
      obtain ⟨b2, rfl, h2⟩ := HB.out (by omega)
      have e1 := HJ.out.2 _ _ _ (h1 j hja)
      have e2 := HJ.out.2 _ _ _ (h2 j hja)
      generalize xs[j] = z at e1 e2
      have hi1 : (0 : Int) ≤ (j : Int) := by omega
      have hi2 : (j : Int) < (l : Int) := by omega
      have hzz : (z == z) = true := by simp
      clear h1 h2
      go_wp2_with fail
      go_quiet (fail)
      go_wp2_with fail
      go_roundg (gk - 1)
      case measure => omega
      case rel => exact ⟨j + 1, by omega, by go_num, below_drewN HJ.out.1 _, fun b i v h => HJ.out.2 b i v h⟩
    · obtain rfl : j = l := by omega
      go_wp2_with fail
      go_ret
      exact ⟨rfl, HJ.out.1⟩
end Go.Proofs.Ytcdgnipmfalhiaa

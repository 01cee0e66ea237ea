/-  -/
import Derived.BigQuiet
import Derived.Deep.QuietTactic
import Derived.Test.YtkamkaehlofgpaaJo42
set_option linter.unusedVariables false
set_option linter.unusedSimpArgs false
/- The closure of (*heap.Heap).Size at a term without arguments, at a bound variable. -/
namespace Go.Proofs.Ytkamkaehlofgpaa
open Go.RowKit NumB
set_option linter.unusedVariables false
set_option linter.unusedSimpArgs false

set_option maxHeartbeats 6400000 in
set_option maxRecDepth 100000 in
theorem sizeC_leaf (b1 b2 b3 b4 b5 : Nat) (k v : Int) (s : ByteArray) (n : Bool) (A : Option Addr) (na nc : Nat) (C : Option Addr) (nd ne : Nat) (X : Option Addr) (nl nz : Nat) (h1 : k ≠ 1) (h5 : k ≠ 5) (w : World) :
    Calls Try.prog 59 #[.agg #[.int .i64 k, .int .i64 v, .string s, .bool n, .slice A na nc, .slice C nd ne, .slice X nl nz], .pointer (some ⟨b1, 0, none⟩), .pointer (some ⟨b2, 0, none⟩), .pointer (some ⟨b3, 0, none⟩), .pointer (some ⟨b4, 0, none⟩), .pointer (some ⟨b5, 0, none⟩)] w fun e w' => e = .returned (.int .i64 1) ∧ Below w.heap.size w w' := by
  have k1 : (k == 1) = false := beq_eq_false_iff_ne.2 h1
  have k5 : (k == 5) = false := beq_eq_false_iff_ne.2 h5
  have k15 : (k == 1 && false) = false := by simp
  have HB1 := Lib.hid (below_one w (.cells #[.int .i64 k, .int .i64 v, .string s, .bool n, .slice A na nc, .slice C nd ne, .slice X nl nz] 27))
  have HBT := Lib.hid (Blk.new w 27 #[.int .i64 k, .int .i64 v, .string s, .bool n, .slice A na nc, .slice C nd ne, .slice X nl nz])
  clear h1 h5
  go_enter Try.func59, Try.ntmps59
  go_wp2_with fail
  go_quiet (fail)
  generalize hy0 : World.drewN _ _ = y0
  have HY : Hid (Below w.heap.size w y0) := by rw [← hy0]; exact below_drewN HB1.out _
  have HTY : Hid (Blk y0 w.heap.size 27 #[.int .i64 k, .int .i64 v, .string s, .bool n, .slice A na nc, .slice C nd ne, .slice X nl nz]) := by rw [← hy0]; exact HBT.out
  clear hy0 HB1 HBT
  have t0 := HTY.out.cell 0
  simp only [List.getElem?_toArray, List.getElem?_cons_zero, List.getElem?_cons_succ] at t0
  go_wp2_with fail
  go_ret
  exact ⟨rfl, HY.out⟩

/-- What the closure holds: the boxes of h, sizes, size, most; the heap; the frame. -/
structure ZB (B h G c m : Nat) (tv : Value) (xs ys : List Value) (b1 b2 b3 b4 b5 ms : Nat) (w W : World) : Prop where
  h1 : ∃ T, Blk W b1 T #[.pointer (some ⟨h, 0, none⟩)]
  h2 : ∃ T, Blk W b2 T #[.map (some ms)]
  h3 : ∃ T, Blk W b3 T #[.func (.func 59) #[] #[.pointer (some ⟨b1, 0, none⟩), .pointer (some ⟨b2, 0, none⟩), .pointer (some ⟨b3, 0, none⟩), .pointer (some ⟨b4, 0, none⟩), .pointer (some ⟨b5, 0, none⟩)]]
  s : HS W B h G c tv xs m ys
  k : Kept (fun k => k = ms) w W
theorem ZB.below {B h G c m : Nat} {tv : Value} {xs ys : List Value} {b1 b2 b3 b4 b5 ms : Nat} {w W W' : World} (g : ZB B h G c m tv xs ys b1 b2 b3 b4 b5 ms w W) (hb : Below W.heap.size W W') : ZB B h G c m tv xs ys b1 b2 b3 b4 b5 ms w W' :=
  ⟨g.h1.imp fun T h => h.to hb, g.h2.imp fun T h => h.to hb, g.h3.imp fun T h => h.to hb, g.s.below hb, g.k.trans (Kept.of_below hb)⟩
theorem ZB.next {B h G c m : Nat} {tv : Value} {xs ys : List Value} {b1 b2 b3 b4 b5 ms : Nat} {w W W' : World} {n : Nat} {f : Int → Option Value} (g : ZB B h G c m tv xs ys b1 b2 b3 b4 b5 ms w W) (hM : MapI W ms n f) (hk : Kept (fun k => k = ms) W W') : ZB B h G c m tv xs ys b1 b2 b3 b4 b5 ms w W' := by
  have hp : ∀ k, (fun k => k = ms) k → ∃ es c, W.heap[k]? = some (.map es c) := fun k e => by
    have e : k = ms := e
    rw [e]; exact hM.is
  exact ⟨g.h1.imp fun T h => hk.blk h (h.notmap hp), g.h2.imp fun T h => hk.blk h (h.notmap hp), g.h3.imp fun T h => hk.blk h (h.notmap hp), g.s.kept hk hp, g.k.trans hk⟩
theorem ZB.c1 {B h G c m : Nat} {tv : Value} {xs ys : List Value} {b1 b2 b3 b4 b5 ms : Nat} {w W : World} (g : ZB B h G c m tv xs ys b1 b2 b3 b4 b5 ms w W) : W.cell? ⟨b1, 0, none⟩ = some (.pointer (some ⟨h, 0, none⟩)) := by obtain ⟨T, h⟩ := g.h1; exact h.cell 0
theorem ZB.c2 {B h G c m : Nat} {tv : Value} {xs ys : List Value} {b1 b2 b3 b4 b5 ms : Nat} {w W : World} (g : ZB B h G c m tv xs ys b1 b2 b3 b4 b5 ms w W) : W.cell? ⟨b2, 0, none⟩ = some (.map (some ms)) := by obtain ⟨T, h⟩ := g.h2; exact h.cell 0
theorem ZB.c3 {B h G c m : Nat} {tv : Value} {xs ys : List Value} {b1 b2 b3 b4 b5 ms : Nat} {w W : World} (g : ZB B h G c m tv xs ys b1 b2 b3 b4 b5 ms w W) : W.cell? ⟨b3, 0, none⟩ = some (.func (.func 59) #[] #[.pointer (some ⟨b1, 0, none⟩), .pointer (some ⟨b2, 0, none⟩), .pointer (some ⟨b3, 0, none⟩), .pointer (some ⟨b4, 0, none⟩), .pointer (some ⟨b5, 0, none⟩)]) := by obtain ⟨T, h⟩ := g.h3; exact h.cell 0

set_option maxHeartbeats 6400000 in
set_option maxRecDepth 100000 in
theorem sizeC_bound (B h G c m b1 b2 b3 b4 b5 ms n : Nat) (tv : Value) (xs ys : List Value) (f : Int → Option Value) (i : Nat) (hi : i < 2) (pk pv : Int) (ps : ByteArray) (pn : Bool) (pA : Option Addr) (pa pc : Nat) (pB : Option Addr) (pd pe : Nat) (pX : Option Addr) (pl pq : Nat)
    (hx : ∀ q u, [Value.bool true, Value.int .i64 pk, Value.int .i64 pv, Value.string ps, Value.bool pn, Value.slice pA pa pc, Value.slice pB pd pe, Value.slice pX pl pq, Value.slice none 0 0][q]? = some u → xs[i * 9 + q]? = some u)
    (w : World) (hZ : ZB B h G c m tv xs ys b1 b2 b3 b4 b5 ms w w) (hM : MapI w ms n f) (hf : f (i : Int) = none)
    (hc : ∀ W, ZB B h G c m tv xs ys b1 b2 b3 b4 b5 ms w W → MapI W ms n f → Calls Try.prog 59 #[.agg #[.int .i64 pk, .int .i64 pv, .string ps, .bool pn, .slice pA pa pc, .slice pB pd pe, .slice pX pl pq], .pointer (some ⟨b1, 0, none⟩), .pointer (some ⟨b2, 0, none⟩), .pointer (some ⟨b3, 0, none⟩), .pointer (some ⟨b4, 0, none⟩), .pointer (some ⟨b5, 0, none⟩)] W fun e W' => e = .returned (.int .i64 1) ∧ (∃ n'' f'', MapI W' ms n'' f'') ∧ Kept (fun k => k = ms) W W') :
    Calls Try.prog 59 #[.agg #[.int .i64 1, .int .i64 (i : Int), .string ⟨#[]⟩, .bool false, .slice none 0 0, .slice none 0 0, .slice none 0 0], .pointer (some ⟨b1, 0, none⟩), .pointer (some ⟨b2, 0, none⟩), .pointer (some ⟨b3, 0, none⟩), .pointer (some ⟨b4, 0, none⟩), .pointer (some ⟨b5, 0, none⟩)] w fun e w' => e = .returned (.int .i64 1) ∧ (∃ n'' f'', MapI w' ms n'' f'') ∧ Kept (fun k => k = ms) w w' := by
  have HZ0 := Lib.hid hZ
  have HM0 := Lib.hid hM
  have HC := Lib.hid hc
  have HX := Lib.hid hx
  have HFI := Lib.hid hf
  have HBT := Lib.hid (Blk.new w 27 #[.int .i64 1, .int .i64 (i : Int), .string ⟨#[]⟩, .bool false, .slice none 0 0, .slice none 0 0, .slice none 0 0])
  have HW1 : Hid (Below w.heap.size w (w.alloc (.cells #[.int .i64 1, .int .i64 (i : Int), .string ⟨#[]⟩, .bool false, .slice none 0 0, .slice none 0 0, .slice none 0 0] 27))) := below_one w _
  have hi1 : (0 : Int) ≤ (i : Int) := by omega
  have hi2 : (i : Int) < ((2 : Nat) : Int) := by omega
  have hi3 : (i : Int) < 2 := by omega
  have HZ1 := Lib.hid (HZ0.out.below HW1.out)
  have c1 := HZ1.out.c1
  have b0 := HZ1.out.s.blk.cell 0
  have g0 := HZ1.out.s.cell (HX.out 0 _ rfl)
  simp only [List.getElem?_toArray, List.getElem?_cons_zero, List.getElem?_cons_succ, Nat.add_zero] at b0 g0
  clear hZ hM hc hx hf
  go_enter Try.func59, Try.ntmps59
  go_wp2_with fail
  go_quiet (fail)
  generalize hy0 : World.drewN _ _ = y0
  have HY : Hid (Below w.heap.size w y0) := by rw [← hy0]; exact below_drewN HW1.out _
  have HTY : Hid (Blk y0 w.heap.size 27 #[.int .i64 1, .int .i64 (i : Int), .string ⟨#[]⟩, .bool false, .slice none 0 0, .slice none 0 0, .slice none 0 0]) := by rw [← hy0]; exact HBT.out
  clear hy0 c1 b0 g0 HBT HZ1 HW1
  have HZ1 := Lib.hid (HZ0.out.below HY.out)
  have HM1 : Hid (MapI y0 ms n f) := HM0.out.keep (HY.out.block _ (heap_lt HM0.out.is.choose_spec.choose_spec))
  have c2 := HZ1.out.c2
  have t1 := HTY.out.cell 1
  simp only [List.getElem?_toArray, List.getElem?_cons_zero, List.getElem?_cons_succ] at t1
  have l1 := (mapI_look (w := y0) (et := 3) (mt := 103) (by kernel_rfl) (z := .int .i64 0) (Try.zeroValue3 y0) HM1.out (i : Int)).1
  rw [HFI.out] at l1
  simp only [Option.getD_none, Option.isSome_none] at l1
  go_wp2_with fail
  clear l1 c2 t1
  have hZd : ZB B h G c m tv xs ys b1 b2 b3 b4 b5 ms w y0.drew := HZ1.out.below (Below.refl _ _).drew
  have hr1 : y0.drew.cell? ⟨b3, 0, none⟩ = some (.func (.func 59) #[] #[.pointer (some ⟨b1, 0, none⟩), .pointer (some ⟨b2, 0, none⟩), .pointer (some ⟨b3, 0, none⟩), .pointer (some ⟨b4, 0, none⟩), .pointer (some ⟨b5, 0, none⟩)]) ∧ y0.drew.cell? ⟨b1, 0, none⟩ = some (.pointer (some ⟨h, 0, none⟩)) ∧ y0.drew.cell? ⟨h, 0, none⟩ = some (.slice (some ⟨G, 0, none⟩) 2 c) ∧ y0.drew.cell? ⟨w.heap.size, 1, none⟩ = some (.int .i64 (i : Int)) ∧ y0.drew.cell? ⟨G, i * 9 + 1, none⟩ = some (.int .i64 pk) ∧ y0.drew.cell? ⟨G, i * 9 + 2, none⟩ = some (.int .i64 pv) ∧ y0.drew.cell? ⟨G, i * 9 + 3, none⟩ = some (.string ps) ∧ y0.drew.cell? ⟨G, i * 9 + 4, none⟩ = some (.bool pn) ∧ y0.drew.cell? ⟨G, i * 9 + 5, none⟩ = some (.slice pA pa pc) ∧ y0.drew.cell? ⟨G, i * 9 + 6, none⟩ = some (.slice pB pd pe) ∧ y0.drew.cell? ⟨G, i * 9 + 7, none⟩ = some (.slice pX pl pq) := ⟨hZd.c3, hZd.c1, hZd.s.blk.cell 0, HTY.out.drew.cell 1, hZd.s.cell (HX.out 1 _ rfl), hZd.s.cell (HX.out 2 _ rfl), hZd.s.cell (HX.out 3 _ rfl), hZd.s.cell (HX.out 4 _ rfl), hZd.s.cell (HX.out 5 _ rfl), hZd.s.cell (HX.out 6 _ rfl), hZd.s.cell (HX.out 7 _ rfl)⟩
  have HCL : Hid (Calls Try.prog 59 #[.agg #[.int .i64 pk, .int .i64 pv, .string ps, .bool pn, .slice pA pa pc, .slice pB pd pe, .slice pX pl pq], .pointer (some ⟨b1, 0, none⟩), .pointer (some ⟨b2, 0, none⟩), .pointer (some ⟨b3, 0, none⟩), .pointer (some ⟨b4, 0, none⟩), .pointer (some ⟨b5, 0, none⟩)] y0.drew fun e W' => e = .returned (.int .i64 1) ∧ Hid (∃ n'' f'', MapI W' ms n'' f'' ∧ ZB B h G c m tv xs ys b1 b2 b3 b4 b5 ms w W' ∧ Blk W' w.heap.size 27 #[.int .i64 1, .int .i64 (i : Int), .string ⟨#[]⟩, .bool false, .slice none 0 0, .slice none 0 0, .slice none 0 0]) ∧ (W'.cell? ⟨b3, 0, none⟩ = some (.func (.func 59) #[] #[.pointer (some ⟨b1, 0, none⟩), .pointer (some ⟨b2, 0, none⟩), .pointer (some ⟨b3, 0, none⟩), .pointer (some ⟨b4, 0, none⟩), .pointer (some ⟨b5, 0, none⟩)]) ∧ W'.cell? ⟨b1, 0, none⟩ = some (.pointer (some ⟨h, 0, none⟩)) ∧ W'.cell? ⟨h, 0, none⟩ = some (.slice (some ⟨G, 0, none⟩) 2 c) ∧ W'.cell? ⟨w.heap.size, 1, none⟩ = some (.int .i64 (i : Int)) ∧ W'.cell? ⟨G, i * 9 + 1, none⟩ = some (.int .i64 pk) ∧ W'.cell? ⟨G, i * 9 + 2, none⟩ = some (.int .i64 pv) ∧ W'.cell? ⟨G, i * 9 + 3, none⟩ = some (.string ps) ∧ W'.cell? ⟨G, i * 9 + 4, none⟩ = some (.bool pn) ∧ W'.cell? ⟨G, i * 9 + 5, none⟩ = some (.slice pA pa pc) ∧ W'.cell? ⟨G, i * 9 + 6, none⟩ = some (.slice pB pd pe) ∧ W'.cell? ⟨G, i * 9 + 7, none⟩ = some (.slice pX pl pq))) := by
    have hMd := HM1.out.keep (w' := y0.drew) rfl
    refine (HC.out y0.drew hZd hMd).mono ?_
    rintro e W' ⟨rfl, ⟨n2, f2, hM2⟩, hk2⟩
    have g := hZd.next hMd hk2
    have t := hk2.blk HTY.out.drew (HTY.out.drew.notmap (fun k e => by
      have e : k = ms := e
      rw [e]; exact hMd.is))
    exact ⟨rfl, ⟨n2, f2, hM2, g, t⟩, ⟨g.c3, g.c1, g.s.blk.cell 0, t.cell 1, g.s.cell (HX.out 1 _ rfl), g.s.cell (HX.out 2 _ rfl), g.s.cell (HX.out 3 _ rfl), g.s.cell (HX.out 4 _ rfl), g.s.cell (HX.out 5 _ rfl), g.s.cell (HX.out 6 _ rfl), g.s.cell (HX.out 7 _ rfl)⟩⟩
  clear hZd
  go_region_held3 (fun w' => w'.cell? ⟨b3, 0, none⟩ = some (.func (.func 59) #[] #[.pointer (some ⟨b1, 0, none⟩), .pointer (some ⟨b2, 0, none⟩), .pointer (some ⟨b3, 0, none⟩), .pointer (some ⟨b4, 0, none⟩), .pointer (some ⟨b5, 0, none⟩)]) ∧ w'.cell? ⟨b1, 0, none⟩ = some (.pointer (some ⟨h, 0, none⟩)) ∧ w'.cell? ⟨h, 0, none⟩ = some (.slice (some ⟨G, 0, none⟩) 2 c) ∧ w'.cell? ⟨w.heap.size, 1, none⟩ = some (.int .i64 (i : Int)) ∧ w'.cell? ⟨G, i * 9 + 1, none⟩ = some (.int .i64 pk) ∧ w'.cell? ⟨G, i * 9 + 2, none⟩ = some (.int .i64 pv) ∧ w'.cell? ⟨G, i * 9 + 3, none⟩ = some (.string ps) ∧ w'.cell? ⟨G, i * 9 + 4, none⟩ = some (.bool pn) ∧ w'.cell? ⟨G, i * 9 + 5, none⟩ = some (.slice pA pa pc) ∧ w'.cell? ⟨G, i * 9 + 6, none⟩ = some (.slice pB pd pe) ∧ w'.cell? ⟨G, i * 9 + 7, none⟩ = some (.slice pX pl pq))
    (with_reducible assumption)
    (first
      | (go_at_call 59; (with_reducible refine HCL.out.mono ?_); rintro e y2 ⟨rfl, HG2, hr2⟩))
  clear HCL hr1 hr2 HM1 HZ1 HTY HY
  obtain ⟨n2, f2, hM2, hZ2, hT2⟩ := HG2.out
  have HM2 := Lib.hid hM2
  have HZ2 := Lib.hid hZ2
  have HT2 := Lib.hid hT2
  clear hM2 hZ2 hT2 HG2
  have c2 := HZ2.out.c2
  have t1 := HT2.out.cell 1
  simp only [List.getElem?_toArray, List.getElem?_cons_zero, List.getElem?_cons_succ] at t1
  obtain ⟨z, hz, hMz, hKz⟩ := mapI_put (w := y2) (et := 3) (mt := 103) (by kernel_rfl) HM2.out (i : Int) (.int .i64 1)
  have HMz := Lib.hid hMz
  have HKz := Lib.hid (HZ2.out.k.trans hKz)
  clear hMz hKz
  go_wp2_with fail
  go_ret
  exact ⟨rfl, ⟨_, _, HMz.out⟩, HKz.out⟩
end Go.Proofs.Ytkamkaehlofgpaa

/- (*heap.finder).finite at a term without arguments, at a bound variable. -/
import Derived.Deep.RegionHeld3
import Derived.Test.YtkfnpcilanheiaaGreatJo18
import Derived.Test.YtkfnpcilanheiaaGreatJo24
import Derived.Test.YtkfnpcilanheiaaGreatJo43
set_option linter.unusedVariables false
set_option linter.unusedSimpArgs false
set_option maxRecDepth 100000
namespace Go.Proofs.YtkfnpcilanheiaaGreat
open Go.RowKit NumB
set_option maxHeartbeats 6400000 in
theorem finite_leaf (F : Addr) (k v : Int) (s : ByteArray) (n : Bool) (A : Option Addr) (na nc : Nat) (C : Option Addr) (nd ne : Nat) (X : Option Addr) (nl nz : Nat) (h1 : k ≠ 1) (h5 : k ≠ 5) (w : World) :
    Calls Tryz.prog 189 #[.pointer (some F), .agg #[.int .i64 k, .int .i64 v, .string s, .bool n, .slice A na nc, .slice C nd ne, .slice X nl nz]] w fun e w' => e = .returned (.bool true) ∧ Below w.heap.size w w' := by
  have k1 : (k == 1) = false := beq_eq_false_iff_ne.2 h1
  have k5 : (k == 5) = false := beq_eq_false_iff_ne.2 h5
  clear h1 h5
  go_enter Tryz.func189, Tryz.ntmps189
  go_wp2_with fail
  go_ret
  exact ⟨rfl, below_one w _⟩
def FS (w : World) (F h ms mk : Nat) : Prop := Blk w F 250 #[.pointer (some ⟨h, 0, none⟩), .map (some ms), .map (some mk)]
theorem HS.kept {p : Nat → Prop} {w w' : World} {B h G c m : Nat} {tv : Value} {xs ys : List Value} (hh : HS w B h G c tv xs m ys) (hk : Kept p w w') (hp : ∀ k, p k → ∃ es c, w.heap[k]? = some (.map es c)) : HS w' B h G c tv xs m ys :=
  hh.frT (ts := [none]) ((FrT.refl _ w).kept hk fun k e o ho hno => by
    obtain ⟨es, cl, hm⟩ := hp k e
    rw [hm] at ho
    exact hno.2 (by simp) _ _ (Option.some.inj ho).symm) (by decide) (by decide) (by decide)
theorem Blk.notmap {p : Nat → Prop} {w : World} {g : Nat} {T : TypeId} {cs : Array Value} (hk : Blk w g T cs) (hp : ∀ k, p k → ∃ es c, w.heap[k]? = some (.map es c)) : ¬ p g := fun h => by
  obtain ⟨es, cl, hm⟩ := hp g h
  have : w.heap[g]? = some (.cells cs T (0, 0)) := hk
  rw [hm] at this; cases this
structure FB (B h G c m : Nat) (tv : Value) (xs ys : List Value) (F ms mk : Nat) (w : World) (T C : Array Value) (W : World) : Prop where
  t : Blk W w.heap.size 27 T
  cb : Blk W (w.heap.size + 1) 144 C
  f : Blk W F 250 #[.pointer (some ⟨h, 0, none⟩), .map (some ms), .map (some mk)]
  s : HS W B h G c tv xs m ys
  k : Kept (fun k => k = ms) w W
theorem FB.drew {B h G c m : Nat} {tv : Value} {xs ys : List Value} {F ms mk : Nat} {w : World} {T C : Array Value} {W : World} (g : FB B h G c m tv xs ys F ms mk w T C W) : FB B h G c m tv xs ys F ms mk w T C W.drew := ⟨g.t.drew, g.cb.drew, g.f.drew, g.s.drew, g.k.drew⟩
theorem FB.next {B h G c m : Nat} {tv : Value} {xs ys : List Value} {F ms mk n : Nat} {w : World} {T C : Array Value} {W W' : World} {f : Int → Option Value} (g : FB B h G c m tv xs ys F ms mk w T C W) (hM : MapI W ms n f) (hk : Kept (fun k => k = ms) W W') : FB B h G c m tv xs ys F ms mk w T C W' := by
  have hp : ∀ k, (fun k => k = ms) k → ∃ es c, W.heap[k]? = some (.map es c) := fun k e => by
    have e : k = ms := e
    rw [e]; exact hM.is
  exact ⟨hk.blk g.t (g.t.notmap hp), hk.blk g.cb (g.cb.notmap hp), hk.blk g.f (g.f.notmap hp), g.s.kept hk hp, g.k.trans hk⟩
set_option maxHeartbeats 6400000 in
theorem finite_bound (B h G c m F ms mk n : Nat) (tv : Value) (xs ys : List Value) (f : Int → Option Value) (i : Nat) (hi : i < 2) (pk pv : Int) (ps : ByteArray) (pn : Bool) (pA : Option Addr) (pa pc : Nat) (pB : Option Addr) (pd pe : Nat) (pX : Option Addr) (pl pq : Nat)
    (hx : ∀ q u, [Value.bool true, Value.int .i64 pk, Value.int .i64 pv, Value.string ps, Value.bool pn, Value.slice pA pa pc, Value.slice pB pd pe, Value.slice pX pl pq, Value.slice none 0 0][q]? = some u → xs[i * 9 + q]? = some u)
    (w : World) (hS : HS w B h G c tv xs m ys) (hF : FS w F h ms mk) (hM : MapI w ms n f) (hf : f (i : Int) = none)
    (hc : ∀ W n' f', HS W B h G c tv xs m ys → FS W F h ms mk → MapI W ms n' f' → (∀ j : Int, j ≠ (i : Int) → f' j = f j) → Calls Tryz.prog 189 #[.pointer (some ⟨F, 0, none⟩), .agg #[.int .i64 pk, .int .i64 pv, .string ps, .bool pn, .slice pA pa pc, .slice pB pd pe, .slice pX pl pq]] W fun e W' => e = .returned (.bool true) ∧ (∃ n'' f'', MapI W' ms n'' f'') ∧ Kept (fun k => k = ms) W W') :
    Calls Tryz.prog 189 #[.pointer (some ⟨F, 0, none⟩), .agg #[.int .i64 1, .int .i64 (i : Int), .string ⟨#[]⟩, .bool false, .slice none 0 0, .slice none 0 0, .slice none 0 0]] w fun e w' => e = .returned (.bool true) ∧ (∃ n'' f'', MapI w' ms n'' f'') ∧ Kept (fun k => k = ms) w w' := by
  have HS0 := Lib.hid hS
  have HF0 : Hid (Blk w F 250 #[.pointer (some ⟨h, 0, none⟩), .map (some ms), .map (some mk)]) := hF
  have HM0 := Lib.hid hM
  have HC := Lib.hid hc
  have HX := Lib.hid hx
  have HFI := Lib.hid hf
  have HBT := Lib.hid (Blk.new w 27 #[.int .i64 1, .int .i64 (i : Int), .string ⟨#[]⟩, .bool false, .slice none 0 0, .slice none 0 0, .slice none 0 0])
  have HW1 : Hid (Below w.heap.size w (w.alloc (.cells #[.int .i64 1, .int .i64 (i : Int), .string ⟨#[]⟩, .bool false, .slice none 0 0, .slice none 0 0, .slice none 0 0] 27))) := below_one w _
  have hi1 : (0 : Int) ≤ (i : Int) := by omega
  have hi2 : (i : Int) < ((2 : Nat) : Int) := by omega
  have hi3 : (i : Int) < 2 := by omega
  clear hS hF hM hc hx hf
  have hS1 : (w.alloc (.cells #[.int .i64 1, .int .i64 (i : Int), .string ⟨#[]⟩, .bool false, .slice none 0 0, .slice none 0 0, .slice none 0 0] 27)).drew.cell? ⟨F, 0, none⟩ = some (.pointer (some ⟨h, 0, none⟩)) ∧ (w.alloc (.cells #[.int .i64 1, .int .i64 (i : Int), .string ⟨#[]⟩, .bool false, .slice none 0 0, .slice none 0 0, .slice none 0 0] 27)).drew.cell? ⟨h, 0, none⟩ = some (.slice (some ⟨G, 0, none⟩) 2 c) ∧ (w.alloc (.cells #[.int .i64 1, .int .i64 (i : Int), .string ⟨#[]⟩, .bool false, .slice none 0 0, .slice none 0 0, .slice none 0 0] 27)).drew.cell? ⟨w.heap.size, 1, none⟩ = some (.int .i64 (i : Int)) ∧ (w.alloc (.cells #[.int .i64 1, .int .i64 (i : Int), .string ⟨#[]⟩, .bool false, .slice none 0 0, .slice none 0 0, .slice none 0 0] 27)).drew.cell? ⟨G, i * 9, none⟩ = some (.bool true) ∧ (w.alloc (.cells #[.int .i64 1, .int .i64 (i : Int), .string ⟨#[]⟩, .bool false, .slice none 0 0, .slice none 0 0, .slice none 0 0] 27)).drew.cell? ⟨G, i * 9 + 1, none⟩ = some (.int .i64 pk) ∧ (w.alloc (.cells #[.int .i64 1, .int .i64 (i : Int), .string ⟨#[]⟩, .bool false, .slice none 0 0, .slice none 0 0, .slice none 0 0] 27)).drew.cell? ⟨G, i * 9 + 2, none⟩ = some (.int .i64 pv) ∧ (w.alloc (.cells #[.int .i64 1, .int .i64 (i : Int), .string ⟨#[]⟩, .bool false, .slice none 0 0, .slice none 0 0, .slice none 0 0] 27)).drew.cell? ⟨G, i * 9 + 3, none⟩ = some (.string ps) ∧ (w.alloc (.cells #[.int .i64 1, .int .i64 (i : Int), .string ⟨#[]⟩, .bool false, .slice none 0 0, .slice none 0 0, .slice none 0 0] 27)).drew.cell? ⟨G, i * 9 + 4, none⟩ = some (.bool pn) ∧ (w.alloc (.cells #[.int .i64 1, .int .i64 (i : Int), .string ⟨#[]⟩, .bool false, .slice none 0 0, .slice none 0 0, .slice none 0 0] 27)).drew.cell? ⟨G, i * 9 + 5, none⟩ = some (.slice pA pa pc) ∧ (w.alloc (.cells #[.int .i64 1, .int .i64 (i : Int), .string ⟨#[]⟩, .bool false, .slice none 0 0, .slice none 0 0, .slice none 0 0] 27)).drew.cell? ⟨G, i * 9 + 6, none⟩ = some (.slice pB pd pe) ∧ (w.alloc (.cells #[.int .i64 1, .int .i64 (i : Int), .string ⟨#[]⟩, .bool false, .slice none 0 0, .slice none 0 0, .slice none 0 0] 27)).drew.cell? ⟨G, i * 9 + 7, none⟩ = some (.slice pX pl pq) ∧ (w.alloc (.cells #[.int .i64 1, .int .i64 (i : Int), .string ⟨#[]⟩, .bool false, .slice none 0 0, .slice none 0 0, .slice none 0 0] 27)).drew.cell? ⟨G, i * 9 + 8, none⟩ = some (.slice none 0 0) := by
    have a := HS0.out.below HW1.out
    have b := HF0.out.to HW1.out
    exact ⟨b.cell 0, a.blk.cell 0, HBT.out.cell 1, a.cell (HX.out 0 _ rfl), a.cell (HX.out 1 _ rfl), a.cell (HX.out 2 _ rfl), a.cell (HX.out 3 _ rfl), a.cell (HX.out 4 _ rfl), a.cell (HX.out 5 _ rfl), a.cell (HX.out 6 _ rfl), a.cell (HX.out 7 _ rfl), a.cell (HX.out 8 _ rfl)⟩
  have HW2 : Hid (Below w.heap.size w ((w.alloc (.cells #[.int .i64 1, .int .i64 (i : Int), .string ⟨#[]⟩, .bool false, .slice none 0 0, .slice none 0 0, .slice none 0 0] 27)).alloc (.cells #[.bool false, .int .i64 0, .int .i64 0, .string ⟨#[]⟩, .bool false, .slice none 0 0, .slice none 0 0, .slice none 0 0, .slice none 0 0] 144))) := below_pair w _ _
  have hS2 : ((w.alloc (.cells #[.int .i64 1, .int .i64 (i : Int), .string ⟨#[]⟩, .bool false, .slice none 0 0, .slice none 0 0, .slice none 0 0] 27)).alloc (.cells #[.bool false, .int .i64 0, .int .i64 0, .string ⟨#[]⟩, .bool false, .slice none 0 0, .slice none 0 0, .slice none 0 0, .slice none 0 0] 144)).drew.cell? ⟨F, 0, none⟩ = some (.pointer (some ⟨h, 0, none⟩)) ∧ ((w.alloc (.cells #[.int .i64 1, .int .i64 (i : Int), .string ⟨#[]⟩, .bool false, .slice none 0 0, .slice none 0 0, .slice none 0 0] 27)).alloc (.cells #[.bool false, .int .i64 0, .int .i64 0, .string ⟨#[]⟩, .bool false, .slice none 0 0, .slice none 0 0, .slice none 0 0, .slice none 0 0] 144)).drew.cell? ⟨h, 0, none⟩ = some (.slice (some ⟨G, 0, none⟩) 2 c) ∧ ((w.alloc (.cells #[.int .i64 1, .int .i64 (i : Int), .string ⟨#[]⟩, .bool false, .slice none 0 0, .slice none 0 0, .slice none 0 0] 27)).alloc (.cells #[.bool false, .int .i64 0, .int .i64 0, .string ⟨#[]⟩, .bool false, .slice none 0 0, .slice none 0 0, .slice none 0 0, .slice none 0 0] 144)).drew.cell? ⟨w.heap.size, 1, none⟩ = some (.int .i64 (i : Int)) ∧ ((w.alloc (.cells #[.int .i64 1, .int .i64 (i : Int), .string ⟨#[]⟩, .bool false, .slice none 0 0, .slice none 0 0, .slice none 0 0] 27)).alloc (.cells #[.bool false, .int .i64 0, .int .i64 0, .string ⟨#[]⟩, .bool false, .slice none 0 0, .slice none 0 0, .slice none 0 0, .slice none 0 0] 144)).drew.cell? ⟨G, i * 9, none⟩ = some (.bool true) ∧ ((w.alloc (.cells #[.int .i64 1, .int .i64 (i : Int), .string ⟨#[]⟩, .bool false, .slice none 0 0, .slice none 0 0, .slice none 0 0] 27)).alloc (.cells #[.bool false, .int .i64 0, .int .i64 0, .string ⟨#[]⟩, .bool false, .slice none 0 0, .slice none 0 0, .slice none 0 0, .slice none 0 0] 144)).drew.cell? ⟨G, i * 9 + 1, none⟩ = some (.int .i64 pk) ∧ ((w.alloc (.cells #[.int .i64 1, .int .i64 (i : Int), .string ⟨#[]⟩, .bool false, .slice none 0 0, .slice none 0 0, .slice none 0 0] 27)).alloc (.cells #[.bool false, .int .i64 0, .int .i64 0, .string ⟨#[]⟩, .bool false, .slice none 0 0, .slice none 0 0, .slice none 0 0, .slice none 0 0] 144)).drew.cell? ⟨G, i * 9 + 2, none⟩ = some (.int .i64 pv) ∧ ((w.alloc (.cells #[.int .i64 1, .int .i64 (i : Int), .string ⟨#[]⟩, .bool false, .slice none 0 0, .slice none 0 0, .slice none 0 0] 27)).alloc (.cells #[.bool false, .int .i64 0, .int .i64 0, .string ⟨#[]⟩, .bool false, .slice none 0 0, .slice none 0 0, .slice none 0 0, .slice none 0 0] 144)).drew.cell? ⟨G, i * 9 + 3, none⟩ = some (.string ps) ∧ ((w.alloc (.cells #[.int .i64 1, .int .i64 (i : Int), .string ⟨#[]⟩, .bool false, .slice none 0 0, .slice none 0 0, .slice none 0 0] 27)).alloc (.cells #[.bool false, .int .i64 0, .int .i64 0, .string ⟨#[]⟩, .bool false, .slice none 0 0, .slice none 0 0, .slice none 0 0, .slice none 0 0] 144)).drew.cell? ⟨G, i * 9 + 4, none⟩ = some (.bool pn) ∧ ((w.alloc (.cells #[.int .i64 1, .int .i64 (i : Int), .string ⟨#[]⟩, .bool false, .slice none 0 0, .slice none 0 0, .slice none 0 0] 27)).alloc (.cells #[.bool false, .int .i64 0, .int .i64 0, .string ⟨#[]⟩, .bool false, .slice none 0 0, .slice none 0 0, .slice none 0 0, .slice none 0 0] 144)).drew.cell? ⟨G, i * 9 + 5, none⟩ = some (.slice pA pa pc) ∧ ((w.alloc (.cells #[.int .i64 1, .int .i64 (i : Int), .string ⟨#[]⟩, .bool false, .slice none 0 0, .slice none 0 0, .slice none 0 0] 27)).alloc (.cells #[.bool false, .int .i64 0, .int .i64 0, .string ⟨#[]⟩, .bool false, .slice none 0 0, .slice none 0 0, .slice none 0 0, .slice none 0 0] 144)).drew.cell? ⟨G, i * 9 + 6, none⟩ = some (.slice pB pd pe) ∧ ((w.alloc (.cells #[.int .i64 1, .int .i64 (i : Int), .string ⟨#[]⟩, .bool false, .slice none 0 0, .slice none 0 0, .slice none 0 0] 27)).alloc (.cells #[.bool false, .int .i64 0, .int .i64 0, .string ⟨#[]⟩, .bool false, .slice none 0 0, .slice none 0 0, .slice none 0 0, .slice none 0 0] 144)).drew.cell? ⟨G, i * 9 + 7, none⟩ = some (.slice pX pl pq) ∧ ((w.alloc (.cells #[.int .i64 1, .int .i64 (i : Int), .string ⟨#[]⟩, .bool false, .slice none 0 0, .slice none 0 0, .slice none 0 0] 27)).alloc (.cells #[.bool false, .int .i64 0, .int .i64 0, .string ⟨#[]⟩, .bool false, .slice none 0 0, .slice none 0 0, .slice none 0 0, .slice none 0 0] 144)).drew.cell? ⟨G, i * 9 + 8, none⟩ = some (.slice none 0 0) := by
    have a := HS0.out.below HW2.out
    have b := HF0.out.to HW2.out
    exact ⟨b.cell 0, a.blk.cell 0, (HBT.out.alloc _).cell 1, a.cell (HX.out 0 _ rfl), a.cell (HX.out 1 _ rfl), a.cell (HX.out 2 _ rfl), a.cell (HX.out 3 _ rfl), a.cell (HX.out 4 _ rfl), a.cell (HX.out 5 _ rfl), a.cell (HX.out 6 _ rfl), a.cell (HX.out 7 _ rfl), a.cell (HX.out 8 _ rfl)⟩
  have HW3 : Hid (Below w.heap.size w ((w.alloc (.cells #[.int .i64 1, .int .i64 (i : Int), .string ⟨#[]⟩, .bool false, .slice none 0 0, .slice none 0 0, .slice none 0 0] 27)).alloc (.cells #[.bool true, .int .i64 pk, .int .i64 pv, .string ps, .bool pn, .slice pA pa pc, .slice pB pd pe, .slice pX pl pq, .slice none 0 0] 144)).drew) := (below_pair w _ _).drew
  have hS3 : ((w.alloc (.cells #[.int .i64 1, .int .i64 (i : Int), .string ⟨#[]⟩, .bool false, .slice none 0 0, .slice none 0 0, .slice none 0 0] 27)).alloc (.cells #[.bool true, .int .i64 pk, .int .i64 pv, .string ps, .bool pn, .slice pA pa pc, .slice pB pd pe, .slice pX pl pq, .slice none 0 0] 144)).drew.cell? ⟨F, 0, none⟩ = some (.pointer (some ⟨h, 0, none⟩)) ∧ ((w.alloc (.cells #[.int .i64 1, .int .i64 (i : Int), .string ⟨#[]⟩, .bool false, .slice none 0 0, .slice none 0 0, .slice none 0 0] 27)).alloc (.cells #[.bool true, .int .i64 pk, .int .i64 pv, .string ps, .bool pn, .slice pA pa pc, .slice pB pd pe, .slice pX pl pq, .slice none 0 0] 144)).drew.cell? ⟨h, 0, none⟩ = some (.slice (some ⟨G, 0, none⟩) 2 c) ∧ ((w.alloc (.cells #[.int .i64 1, .int .i64 (i : Int), .string ⟨#[]⟩, .bool false, .slice none 0 0, .slice none 0 0, .slice none 0 0] 27)).alloc (.cells #[.bool true, .int .i64 pk, .int .i64 pv, .string ps, .bool pn, .slice pA pa pc, .slice pB pd pe, .slice pX pl pq, .slice none 0 0] 144)).drew.cell? ⟨w.heap.size, 1, none⟩ = some (.int .i64 (i : Int)) ∧ ((w.alloc (.cells #[.int .i64 1, .int .i64 (i : Int), .string ⟨#[]⟩, .bool false, .slice none 0 0, .slice none 0 0, .slice none 0 0] 27)).alloc (.cells #[.bool true, .int .i64 pk, .int .i64 pv, .string ps, .bool pn, .slice pA pa pc, .slice pB pd pe, .slice pX pl pq, .slice none 0 0] 144)).drew.cell? ⟨G, i * 9, none⟩ = some (.bool true) ∧ ((w.alloc (.cells #[.int .i64 1, .int .i64 (i : Int), .string ⟨#[]⟩, .bool false, .slice none 0 0, .slice none 0 0, .slice none 0 0] 27)).alloc (.cells #[.bool true, .int .i64 pk, .int .i64 pv, .string ps, .bool pn, .slice pA pa pc, .slice pB pd pe, .slice pX pl pq, .slice none 0 0] 144)).drew.cell? ⟨G, i * 9 + 1, none⟩ = some (.int .i64 pk) ∧ ((w.alloc (.cells #[.int .i64 1, .int .i64 (i : Int), .string ⟨#[]⟩, .bool false, .slice none 0 0, .slice none 0 0, .slice none 0 0] 27)).alloc (.cells #[.bool true, .int .i64 pk, .int .i64 pv, .string ps, .bool pn, .slice pA pa pc, .slice pB pd pe, .slice pX pl pq, .slice none 0 0] 144)).drew.cell? ⟨G, i * 9 + 2, none⟩ = some (.int .i64 pv) ∧ ((w.alloc (.cells #[.int .i64 1, .int .i64 (i : Int), .string ⟨#[]⟩, .bool false, .slice none 0 0, .slice none 0 0, .slice none 0 0] 27)).alloc (.cells #[.bool true, .int .i64 pk, .int .i64 pv, .string ps, .bool pn, .slice pA pa pc, .slice pB pd pe, .slice pX pl pq, .slice none 0 0] 144)).drew.cell? ⟨G, i * 9 + 3, none⟩ = some (.string ps) ∧ ((w.alloc (.cells #[.int .i64 1, .int .i64 (i : Int), .string ⟨#[]⟩, .bool false, .slice none 0 0, .slice none 0 0, .slice none 0 0] 27)).alloc (.cells #[.bool true, .int .i64 pk, .int .i64 pv, .string ps, .bool pn, .slice pA pa pc, .slice pB pd pe, .slice pX pl pq, .slice none 0 0] 144)).drew.cell? ⟨G, i * 9 + 4, none⟩ = some (.bool pn) ∧ ((w.alloc (.cells #[.int .i64 1, .int .i64 (i : Int), .string ⟨#[]⟩, .bool false, .slice none 0 0, .slice none 0 0, .slice none 0 0] 27)).alloc (.cells #[.bool true, .int .i64 pk, .int .i64 pv, .string ps, .bool pn, .slice pA pa pc, .slice pB pd pe, .slice pX pl pq, .slice none 0 0] 144)).drew.cell? ⟨G, i * 9 + 5, none⟩ = some (.slice pA pa pc) ∧ ((w.alloc (.cells #[.int .i64 1, .int .i64 (i : Int), .string ⟨#[]⟩, .bool false, .slice none 0 0, .slice none 0 0, .slice none 0 0] 27)).alloc (.cells #[.bool true, .int .i64 pk, .int .i64 pv, .string ps, .bool pn, .slice pA pa pc, .slice pB pd pe, .slice pX pl pq, .slice none 0 0] 144)).drew.cell? ⟨G, i * 9 + 6, none⟩ = some (.slice pB pd pe) ∧ ((w.alloc (.cells #[.int .i64 1, .int .i64 (i : Int), .string ⟨#[]⟩, .bool false, .slice none 0 0, .slice none 0 0, .slice none 0 0] 27)).alloc (.cells #[.bool true, .int .i64 pk, .int .i64 pv, .string ps, .bool pn, .slice pA pa pc, .slice pB pd pe, .slice pX pl pq, .slice none 0 0] 144)).drew.cell? ⟨G, i * 9 + 7, none⟩ = some (.slice pX pl pq) ∧ ((w.alloc (.cells #[.int .i64 1, .int .i64 (i : Int), .string ⟨#[]⟩, .bool false, .slice none 0 0, .slice none 0 0, .slice none 0 0] 27)).alloc (.cells #[.bool true, .int .i64 pk, .int .i64 pv, .string ps, .bool pn, .slice pA pa pc, .slice pB pd pe, .slice pX pl pq, .slice none 0 0] 144)).drew.cell? ⟨G, i * 9 + 8, none⟩ = some (.slice none 0 0) := by
    have a := HS0.out.below HW3.out
    have b := HF0.out.to HW3.out
    exact ⟨b.cell 0, a.blk.cell 0, (HBT.out.alloc _).cell 1, a.cell (HX.out 0 _ rfl), a.cell (HX.out 1 _ rfl), a.cell (HX.out 2 _ rfl), a.cell (HX.out 3 _ rfl), a.cell (HX.out 4 _ rfl), a.cell (HX.out 5 _ rfl), a.cell (HX.out 6 _ rfl), a.cell (HX.out 7 _ rfl), a.cell (HX.out 8 _ rfl)⟩
  go_enter Tryz.func189, Tryz.ntmps189
  go_wp2_with fail
  go_region_held3 (fun w' => w'.cell? ⟨F, 0, none⟩ = some (.pointer (some ⟨h, 0, none⟩)) ∧ w'.cell? ⟨h, 0, none⟩ = some (.slice (some ⟨G, 0, none⟩) 2 c) ∧ w'.cell? ⟨w.heap.size, 1, none⟩ = some (.int .i64 (i : Int)) ∧ w'.cell? ⟨G, i * 9, none⟩ = some (.bool true) ∧ w'.cell? ⟨G, i * 9 + 1, none⟩ = some (.int .i64 pk) ∧ w'.cell? ⟨G, i * 9 + 2, none⟩ = some (.int .i64 pv) ∧ w'.cell? ⟨G, i * 9 + 3, none⟩ = some (.string ps) ∧ w'.cell? ⟨G, i * 9 + 4, none⟩ = some (.bool pn) ∧ w'.cell? ⟨G, i * 9 + 5, none⟩ = some (.slice pA pa pc) ∧ w'.cell? ⟨G, i * 9 + 6, none⟩ = some (.slice pB pd pe) ∧ w'.cell? ⟨G, i * 9 + 7, none⟩ = some (.slice pX pl pq) ∧ w'.cell? ⟨G, i * 9 + 8, none⟩ = some (.slice none 0 0))
    (first | assumption | (go_keep; done))
    (fail)
  have HBC : Hid (Blk ((w.alloc (.cells #[.int .i64 1, .int .i64 (i : Int), .string ⟨#[]⟩, .bool false, .slice none 0 0, .slice none 0 0, .slice none 0 0] 27)).alloc (.cells #[.bool true, .int .i64 pk, .int .i64 pv, .string ps, .bool pn, .slice pA pa pc, .slice pB pd pe, .slice pX pl pq, .slice none 0 0] 144)).drew (w.heap.size + 1) 144 #[.bool true, .int .i64 pk, .int .i64 pv, .string ps, .bool pn, .slice pA pa pc, .slice pB pd pe, .slice pX pl pq, .slice none 0 0]) := by
    have := (Blk.new (w.alloc (.cells #[.int .i64 1, .int .i64 (i : Int), .string ⟨#[]⟩, .bool false, .slice none 0 0, .slice none 0 0, .slice none 0 0] 27)) 144 #[.bool true, .int .i64 pk, .int .i64 pv, .string ps, .bool pn, .slice pA pa pc, .slice pB pd pe, .slice pX pl pq, .slice none 0 0]).drew
    rw [show (w.alloc (.cells #[.int .i64 1, .int .i64 (i : Int), .string ⟨#[]⟩, .bool false, .slice none 0 0, .slice none 0 0, .slice none 0 0] 27)).heap.size = w.heap.size + 1 by simp] at this
    exact this
  have HBT3 : Hid (Blk ((w.alloc (.cells #[.int .i64 1, .int .i64 (i : Int), .string ⟨#[]⟩, .bool false, .slice none 0 0, .slice none 0 0, .slice none 0 0] 27)).alloc (.cells #[.bool true, .int .i64 pk, .int .i64 pv, .string ps, .bool pn, .slice pA pa pc, .slice pB pd pe, .slice pX pl pq, .slice none 0 0] 144)).drew w.heap.size 27 #[.int .i64 1, .int .i64 (i : Int), .string ⟨#[]⟩, .bool false, .slice none 0 0, .slice none 0 0, .slice none 0 0]) := (HBT.out.alloc _).drew
  have HG : Hid (FB B h G c m tv xs ys F ms mk w #[.int .i64 1, .int .i64 (i : Int), .string ⟨#[]⟩, .bool false, .slice none 0 0, .slice none 0 0, .slice none 0 0] #[.bool true, .int .i64 pk, .int .i64 pv, .string ps, .bool pn, .slice pA pa pc, .slice pB pd pe, .slice pX pl pq, .slice none 0 0] ((w.alloc (.cells #[.int .i64 1, .int .i64 (i : Int), .string ⟨#[]⟩, .bool false, .slice none 0 0, .slice none 0 0, .slice none 0 0] 27)).alloc (.cells #[.bool true, .int .i64 pk, .int .i64 pv, .string ps, .bool pn, .slice pA pa pc, .slice pB pd pe, .slice pX pl pq, .slice none 0 0] 144)).drew) := ⟨HBT3.out, HBC.out, HF0.out.to HW3.out, HS0.out.below HW3.out, Kept.of_below HW3.out⟩
  have HM1 : Hid (MapI ((w.alloc (.cells #[.int .i64 1, .int .i64 (i : Int), .string ⟨#[]⟩, .bool false, .slice none 0 0, .slice none 0 0, .slice none 0 0] 27)).alloc (.cells #[.bool true, .int .i64 pk, .int .i64 pv, .string ps, .bool pn, .slice pA pa pc, .slice pB pd pe, .slice pX pl pq, .slice none 0 0] 144)).drew ms n f) := HM0.out.keep (HW3.out.block _ (heap_lt HM0.out.is.choose_spec.choose_spec))
  clear hS1 hS2 hS3 HW1 HW2 HBT HBC HBT3 HW3
  generalize hy : World.drew _ = y at HG HM1 ⊢
  clear hy
  have c0 := HG.out.cb.cell 0
  simp only [List.getElem?_toArray, List.getElem?_cons_zero, List.getElem?_cons_succ] at c0
  go_wp2_with fail
  have hy1 : y.drew.cell? ⟨F, 1, none⟩ = some (.map (some ms)) ∧ y.drew.cell? ⟨w.heap.size, 1, none⟩ = some (.int .i64 (i : Int)) := ⟨HG.out.f.cell 1, HG.out.t.cell 1⟩
  have l1 := (mapI_look (w := y.drew) (et := 3) (mt := 97) (by kernel_rfl) (z := .int .i64 0) (Tryz.zeroValue3 y.drew) (HM1.out.keep rfl) (i : Int)).2
  rw [HFI.out] at l1
  simp only [Option.getD_none] at l1
  go_region_held3 (fun w' => w'.cell? ⟨F, 1, none⟩ = some (.map (some ms)) ∧ w'.cell? ⟨w.heap.size, 1, none⟩ = some (.int .i64 (i : Int)))
    (first | assumption | (go_keep; done))
    (fail)
  clear l1 hy1 c0
  go_wp2_with fail
  obtain ⟨z, hz1, hMm1, hK1⟩ := mapI_put (w := y.drew.drew) (et := 3) (mt := 97) (by kernel_rfl) (HM1.out.keep rfl) (i : Int) (.int .i64 1)
  have HMz := Lib.hid hMm1
  have HGz := Lib.hid ((HG.out.drew.drew).next (HM1.out.keep rfl) hK1)
  have hu1 : y.drew.drew.cell? ⟨F, 1, none⟩ = some (.map (some ms)) ∧ y.drew.drew.cell? ⟨w.heap.size, 1, none⟩ = some (.int .i64 (i : Int)) := ⟨(HG.out.drew.drew).f.cell 1, (HG.out.drew.drew).t.cell 1⟩
  have hv1 : z.cell? ⟨F, 1, none⟩ = some (.map (some ms)) ∧ z.cell? ⟨w.heap.size, 1, none⟩ = some (.int .i64 (i : Int)) := ⟨HGz.out.f.cell 1, HGz.out.t.cell 1⟩
  clear hMm1 hK1
  go_region_held3 (fun w' => w'.cell? ⟨F, 1, none⟩ = some (.map (some ms)) ∧ w'.cell? ⟨w.heap.size, 1, none⟩ = some (.int .i64 (i : Int)))
    (first | assumption | (go_keep; done))
    (fail)
  clear hz1 hu1 hv1
  have HF1 : Hid (∀ j : Int, j ≠ (i : Int) → (fun j => if j = (i : Int) then some (Value.int .i64 1) else f j) j = f j) := fun j hj => by simp [hj]
  have e1 := HGz.out.cb.cell 1
  have e2 := HGz.out.cb.cell 2
  have e3 := HGz.out.cb.cell 3
  have e4 := HGz.out.cb.cell 4
  have e5 := HGz.out.cb.cell 5
  have e6 := HGz.out.cb.cell 6
  have e7 := HGz.out.cb.cell 7
  simp only [List.getElem?_toArray, List.getElem?_cons_zero, List.getElem?_cons_succ] at e1 e2 e3 e4 e5 e6 e7
  have HCL : Hid (Calls Tryz.prog 189 #[.pointer (some ⟨F, 0, none⟩), .agg #[.int .i64 pk, .int .i64 pv, .string ps, .bool pn, .slice pA pa pc, .slice pB pd pe, .slice pX pl pq]] z fun e W' => e = .returned (.bool true) ∧ Hid (∃ n'' f'', MapI W' ms n'' f'' ∧ FB B h G c m tv xs ys F ms mk w #[.int .i64 1, .int .i64 (i : Int), .string ⟨#[]⟩, .bool false, .slice none 0 0, .slice none 0 0, .slice none 0 0] #[.bool true, .int .i64 pk, .int .i64 pv, .string ps, .bool pn, .slice pA pa pc, .slice pB pd pe, .slice pX pl pq, .slice none 0 0] W')) := by
    refine (HC.out z _ _ HGz.out.s HGz.out.f HMz.out HF1.out).mono ?_
    rintro e W' ⟨rfl, ⟨n2, f2, hM2⟩, hk2⟩
    have g := HGz.out.next HMz.out hk2
    exact ⟨rfl, n2, f2, hM2, g⟩
  go_wp2_with fail
  refine HCL.out.mono ?_
  rintro e y2 ⟨rfl, HG2⟩
  clear HCL HF1 HMz HGz e1 e2 e3 e4 e5 e6 e7
  obtain ⟨n2, f2, hM2, hg2⟩ := HG2.out
  have HM2 := Lib.hid hM2
  have HGy2 := Lib.hid hg2
  clear hM2 hg2 HG2
  go_wp2_with fail
  obtain ⟨z2, hz2, hMm2, hK2⟩ := mapI_put (w := y2.drew) (et := 3) (mt := 97) (by kernel_rfl) (HM2.out.keep rfl) (i : Int) (.int .i64 3)
  have HMz2 := Lib.hid hMm2
  have HGz2 := Lib.hid ((HGy2.out.drew).next (HM2.out.keep rfl) hK2)
  have hu2 : y2.drew.cell? ⟨F, 1, none⟩ = some (.map (some ms)) ∧ y2.drew.cell? ⟨w.heap.size, 1, none⟩ = some (.int .i64 (i : Int)) := ⟨(HGy2.out.drew).f.cell 1, (HGy2.out.drew).t.cell 1⟩
  have hv2 : z2.cell? ⟨F, 1, none⟩ = some (.map (some ms)) ∧ z2.cell? ⟨w.heap.size, 1, none⟩ = some (.int .i64 (i : Int)) := ⟨HGz2.out.f.cell 1, HGz2.out.t.cell 1⟩
  clear hMm2 hK2
  go_region_held3 (fun w' => w'.cell? ⟨F, 1, none⟩ = some (.map (some ms)) ∧ w'.cell? ⟨w.heap.size, 1, none⟩ = some (.int .i64 (i : Int)))
    (first | assumption | (go_keep; done))
    (fail)
  clear hz2 hu2 hv2
  go_wp2_with fail
  obtain ⟨z3, hz3, hMm3, hK3⟩ := mapI_put (w := z2.drew) (et := 3) (mt := 97) (by kernel_rfl) (HMz2.out.keep rfl) (i : Int) (.int .i64 2)
  have HMz3 := Lib.hid hMm3
  have HGz3 := Lib.hid ((HGz2.out.drew).next (HMz2.out.keep rfl) hK3)
  have hu3 : z2.drew.cell? ⟨F, 1, none⟩ = some (.map (some ms)) ∧ z2.drew.cell? ⟨w.heap.size, 1, none⟩ = some (.int .i64 (i : Int)) := ⟨(HGz2.out.drew).f.cell 1, (HGz2.out.drew).t.cell 1⟩
  have hv3 : z3.cell? ⟨F, 1, none⟩ = some (.map (some ms)) ∧ z3.cell? ⟨w.heap.size, 1, none⟩ = some (.int .i64 (i : Int)) := ⟨HGz3.out.f.cell 1, HGz3.out.t.cell 1⟩
  clear hMm3 hK3
  go_region_held3 (fun w' => w'.cell? ⟨F, 1, none⟩ = some (.map (some ms)) ∧ w'.cell? ⟨w.heap.size, 1, none⟩ = some (.int .i64 (i : Int)))
    (first | assumption | (go_keep; done))
    (fail)
  clear hz3 hu3 hv3
  go_wp2_with fail
  go_ret
  exact ⟨rfl, ⟨_, _, HMz3.out⟩, HGz3.out.k⟩
end Go.Proofs.YtkfnpcilanheiaaGreat

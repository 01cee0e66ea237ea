/-  -/
import Derived.Test.YtkamkaehlofgpaaJo42
import Derived.Test.YtkamkaehlofgpaaJo43
set_option linter.unusedVariables false
set_option linter.unusedSimpArgs false
/- (*heap.Heap).Size at the variable 1, behind both bindings. -/
namespace Go.Proofs.Ytkamkaehlofgpaa
open Go.RowKit NumB
set_option linter.unusedVariables false
set_option linter.unusedSimpArgs false

set_option maxHeartbeats 6400000 in
set_option maxRecDepth 100000 in
theorem sizeC_run (B h G c m b1 b2 b3 b4 b5 ms : Nat) (tv : Value) (ys : List Value) (pk pv : Int) (ps : ByteArray) (pn : Bool) (pA : Option Addr) (pa pc : Nat) (pB : Option Addr) (pd pe : Nat) (pX : Option Addr) (pl pq : Nat) (h1 : pk ≠ 1) (h5 : pk ≠ 5) (w : World) (hZ : ZB B h G c m tv (xs2 pk pv ps pn (.slice pA pa pc) (.slice pB pd pe) (.slice pX pl pq)) ys b1 b2 b3 b4 b5 ms w w) (hM : MapI w ms 0 (fun _ => none)) :
    Calls Try.prog 59 #[.agg #[.int .i64 1, .int .i64 1, .string ⟨#[]⟩, .bool false, .slice none 0 0, .slice none 0 0, .slice none 0 0], .pointer (some ⟨b1, 0, none⟩), .pointer (some ⟨b2, 0, none⟩), .pointer (some ⟨b3, 0, none⟩), .pointer (some ⟨b4, 0, none⟩), .pointer (some ⟨b5, 0, none⟩)] w fun e w' => e = .returned (.int .i64 1) ∧ Kept (fun k => k = ms) w w' := by
  refine (sizeC_bound B h G c m b1 b2 b3 b4 b5 ms 0 tv _ ys (fun _ => none) 1 (by omega) 1 0 ⟨#[]⟩ false none 0 0 none 0 0 none 0 0 xs2_one w hZ hM rfl (fun W hZ' hM' => ?_)).mono ?_
  · have hZ2 : ZB B h G c m tv (xs2 pk pv ps pn (.slice pA pa pc) (.slice pB pd pe) (.slice pX pl pq)) ys b1 b2 b3 b4 b5 ms W W := ⟨hZ'.h1, hZ'.h2, hZ'.h3, hZ'.s, Kept.refl _ _⟩
    refine sizeC_bound B h G c m b1 b2 b3 b4 b5 ms 0 tv _ ys (fun _ => none) 0 (by omega) pk pv ps pn pA pa pc pB pd pe pX pl pq xs2_zero W hZ2 hM' rfl (fun W2 hZ3 hM3 => ?_)
    refine (sizeC_leaf b1 b2 b3 b4 b5 pk pv ps pn pA pa pc pB pd pe pX pl pq h1 h5 W2).mono ?_
    rintro e W' ⟨rfl, hb'⟩
    exact ⟨rfl, ⟨0, _, hM3.keep (hb'.block _ (heap_lt hM3.is.choose_spec.choose_spec))⟩, Kept.of_below hb'⟩
  · rintro e w' ⟨rfl, _, hk⟩
    exact ⟨rfl, hk⟩

set_option maxHeartbeats 6400000 in
set_option maxRecDepth 100000 in
theorem sizeH_any (B h G c m : Nat) (tv : Value) (ys : List Value) (pk pv : Int) (ps : ByteArray) (pn : Bool) (pA : Option Addr) (pa pc : Nat) (pB : Option Addr) (pd pe : Nat) (pX : Option Addr) (pl pq : Nat) (h1 : pk ≠ 1) (h5 : pk ≠ 5) (most : Int) (w : World) (hS : HS w B h G c tv (xs2 pk pv ps pn (.slice pA pa pc) (.slice pB pd pe) (.slice pX pl pq)) m ys) :
    Calls Try.prog 40 #[.pointer (some ⟨h, 0, none⟩), .agg #[.int .i64 1, .int .i64 1, .string ⟨#[]⟩, .bool false, .slice none 0 0, .slice none 0 0, .slice none 0 0], .int .i64 most] w fun e w' => e = .returned (.int .i64 1) ∧ Below w.heap.size w w' := by
  have hmm := @run_makeMap Try.prog
  have hb7 : Blk ((((((((w.alloc (.cells #[.pointer (some ⟨h, 0, none⟩)] 51)).alloc (.cells #[.int .i64 1, .int .i64 1, .string ⟨#[]⟩, .bool false, .slice none 0 0, .slice none 0 0, .slice none 0 0] 27)).alloc (.cells #[.int .i64 most] 3)).alloc (.map #[] 0)).alloc (.map #[] 0)).alloc (.cells #[.map (some (w.heap.size + 1 + 1 + 1))] 103)).alloc (.cells #[.map (some (w.heap.size + 1 + 1 + 1 + 1))] 104)).alloc (.cells #[.nilFunc] 36)) (w.heap.size + 1 + 1 + 1 + 1 + 1 + 1 + 1) 36 #[.nilFunc] := by
    have := Blk.new (((((((w.alloc (.cells #[.pointer (some ⟨h, 0, none⟩)] 51)).alloc (.cells #[.int .i64 1, .int .i64 1, .string ⟨#[]⟩, .bool false, .slice none 0 0, .slice none 0 0, .slice none 0 0] 27)).alloc (.cells #[.int .i64 most] 3)).alloc (.map #[] 0)).alloc (.map #[] 0)).alloc (.cells #[.map (some (w.heap.size + 1 + 1 + 1))] 103)).alloc (.cells #[.map (some (w.heap.size + 1 + 1 + 1 + 1))] 104)) 36 #[.nilFunc]
    rw [show (((((((w.alloc (.cells #[.pointer (some ⟨h, 0, none⟩)] 51)).alloc (.cells #[.int .i64 1, .int .i64 1, .string ⟨#[]⟩, .bool false, .slice none 0 0, .slice none 0 0, .slice none 0 0] 27)).alloc (.cells #[.int .i64 most] 3)).alloc (.map #[] 0)).alloc (.map #[] 0)).alloc (.cells #[.map (some (w.heap.size + 1 + 1 + 1))] 103)).alloc (.cells #[.map (some (w.heap.size + 1 + 1 + 1 + 1))] 104)).heap.size = w.heap.size + 1 + 1 + 1 + 1 + 1 + 1 + 1 by simp] at this
    exact this
  have fz := hb7.frozen 0
  have a7 := hb7.cell 0
  have hst : (store ⟨w.heap.size + 1 + 1 + 1 + 1 + 1 + 1 + 1, 0, none⟩ (.func (.func 59) #[] #[.pointer (some ⟨w.heap.size, 0, none⟩), .pointer (some ⟨w.heap.size + 1 + 1 + 1 + 1 + 1, 0, none⟩), .pointer (some ⟨w.heap.size + 1 + 1 + 1 + 1 + 1 + 1 + 1, 0, none⟩), .pointer (some ⟨w.heap.size + 1 + 1 + 1 + 1 + 1 + 1, 0, none⟩), .pointer (some ⟨w.heap.size + 1 + 1, 0, none⟩)])).run Try.prog ((((((((w.alloc (.cells #[.pointer (some ⟨h, 0, none⟩)] 51)).alloc (.cells #[.int .i64 1, .int .i64 1, .string ⟨#[]⟩, .bool false, .slice none 0 0, .slice none 0 0, .slice none 0 0] 27)).alloc (.cells #[.int .i64 most] 3)).alloc (.map #[] 0)).alloc (.map #[] 0)).alloc (.cells #[.map (some (w.heap.size + 1 + 1 + 1))] 103)).alloc (.cells #[.map (some (w.heap.size + 1 + 1 + 1 + 1))] 104)).alloc (.cells #[.nilFunc] 36)) = .ok () (((((((((w.alloc (.cells #[.pointer (some ⟨h, 0, none⟩)] 51)).alloc (.cells #[.int .i64 1, .int .i64 1, .string ⟨#[]⟩, .bool false, .slice none 0 0, .slice none 0 0, .slice none 0 0] 27)).alloc (.cells #[.int .i64 most] 3)).alloc (.map #[] 0)).alloc (.map #[] 0)).alloc (.cells #[.map (some (w.heap.size + 1 + 1 + 1))] 103)).alloc (.cells #[.map (some (w.heap.size + 1 + 1 + 1 + 1))] 104)).alloc (.cells #[.nilFunc] 36)).setCell ⟨w.heap.size + 1 + 1 + 1 + 1 + 1 + 1 + 1, 0, none⟩ (.func (.func 59) #[] #[.pointer (some ⟨w.heap.size, 0, none⟩), .pointer (some ⟨w.heap.size + 1 + 1 + 1 + 1 + 1, 0, none⟩), .pointer (some ⟨w.heap.size + 1 + 1 + 1 + 1 + 1 + 1 + 1, 0, none⟩), .pointer (some ⟨w.heap.size + 1 + 1 + 1 + 1 + 1 + 1, 0, none⟩), .pointer (some ⟨w.heap.size + 1 + 1, 0, none⟩)])) := by
    rw [run_store _ _ _ _ _ rfl, a7, fz]
    rfl
  clear hb7 fz a7
  have HRUN : Hid (Calls Try.prog 59 #[.agg #[.int .i64 1, .int .i64 1, .string ⟨#[]⟩, .bool false, .slice none 0 0, .slice none 0 0, .slice none 0 0], .pointer (some ⟨w.heap.size, 0, none⟩), .pointer (some ⟨w.heap.size + 1 + 1 + 1 + 1 + 1, 0, none⟩), .pointer (some ⟨w.heap.size + 1 + 1 + 1 + 1 + 1 + 1 + 1, 0, none⟩), .pointer (some ⟨w.heap.size + 1 + 1 + 1 + 1 + 1 + 1, 0, none⟩), .pointer (some ⟨w.heap.size + 1 + 1, 0, none⟩)] ((((((((w.alloc (.cells #[.pointer (some ⟨h, 0, none⟩)] 51)).alloc (.cells #[.int .i64 1, .int .i64 1, .string ⟨#[]⟩, .bool false, .slice none 0 0, .slice none 0 0, .slice none 0 0] 27)).alloc (.cells #[.int .i64 most] 3)).alloc (.map #[] 0)).alloc (.map #[] 0)).alloc (.cells #[.map (some (w.heap.size + 1 + 1 + 1))] 103)).alloc (.cells #[.map (some (w.heap.size + 1 + 1 + 1 + 1))] 104)).alloc (.cells #[.func (.func 59) #[] #[.pointer (some ⟨w.heap.size, 0, none⟩), .pointer (some ⟨w.heap.size + 1 + 1 + 1 + 1 + 1, 0, none⟩), .pointer (some ⟨w.heap.size + 1 + 1 + 1 + 1 + 1 + 1 + 1, 0, none⟩), .pointer (some ⟨w.heap.size + 1 + 1 + 1 + 1 + 1 + 1, 0, none⟩), .pointer (some ⟨w.heap.size + 1 + 1, 0, none⟩)]] 36)) fun e w' => e = .returned (.int .i64 1) ∧ Below w.heap.size w w') := by
    have hb0 : Blk (w.alloc (.cells #[.pointer (some ⟨h, 0, none⟩)] 51)) (w.heap.size) 51 #[.pointer (some ⟨h, 0, none⟩)] := by
      have := Blk.new w 51 #[.pointer (some ⟨h, 0, none⟩)]
      rw [show w.heap.size = w.heap.size by simp] at this
      exact this
    have hb5 : Blk ((((((w.alloc (.cells #[.pointer (some ⟨h, 0, none⟩)] 51)).alloc (.cells #[.int .i64 1, .int .i64 1, .string ⟨#[]⟩, .bool false, .slice none 0 0, .slice none 0 0, .slice none 0 0] 27)).alloc (.cells #[.int .i64 most] 3)).alloc (.map #[] 0)).alloc (.map #[] 0)).alloc (.cells #[.map (some (w.heap.size + 1 + 1 + 1))] 103)) (w.heap.size + 1 + 1 + 1 + 1 + 1) 103 #[.map (some (w.heap.size + 1 + 1 + 1))] := by
      have := Blk.new (((((w.alloc (.cells #[.pointer (some ⟨h, 0, none⟩)] 51)).alloc (.cells #[.int .i64 1, .int .i64 1, .string ⟨#[]⟩, .bool false, .slice none 0 0, .slice none 0 0, .slice none 0 0] 27)).alloc (.cells #[.int .i64 most] 3)).alloc (.map #[] 0)).alloc (.map #[] 0)) 103 #[.map (some (w.heap.size + 1 + 1 + 1))]
      rw [show (((((w.alloc (.cells #[.pointer (some ⟨h, 0, none⟩)] 51)).alloc (.cells #[.int .i64 1, .int .i64 1, .string ⟨#[]⟩, .bool false, .slice none 0 0, .slice none 0 0, .slice none 0 0] 27)).alloc (.cells #[.int .i64 most] 3)).alloc (.map #[] 0)).alloc (.map #[] 0)).heap.size = w.heap.size + 1 + 1 + 1 + 1 + 1 by simp] at this
      exact this
    have hb8 : Blk ((((((((w.alloc (.cells #[.pointer (some ⟨h, 0, none⟩)] 51)).alloc (.cells #[.int .i64 1, .int .i64 1, .string ⟨#[]⟩, .bool false, .slice none 0 0, .slice none 0 0, .slice none 0 0] 27)).alloc (.cells #[.int .i64 most] 3)).alloc (.map #[] 0)).alloc (.map #[] 0)).alloc (.cells #[.map (some (w.heap.size + 1 + 1 + 1))] 103)).alloc (.cells #[.map (some (w.heap.size + 1 + 1 + 1 + 1))] 104)).alloc (.cells #[.func (.func 59) #[] #[.pointer (some ⟨w.heap.size, 0, none⟩), .pointer (some ⟨w.heap.size + 1 + 1 + 1 + 1 + 1, 0, none⟩), .pointer (some ⟨w.heap.size + 1 + 1 + 1 + 1 + 1 + 1 + 1, 0, none⟩), .pointer (some ⟨w.heap.size + 1 + 1 + 1 + 1 + 1 + 1, 0, none⟩), .pointer (some ⟨w.heap.size + 1 + 1, 0, none⟩)]] 36)) (w.heap.size + 1 + 1 + 1 + 1 + 1 + 1 + 1) 36 #[.func (.func 59) #[] #[.pointer (some ⟨w.heap.size, 0, none⟩), .pointer (some ⟨w.heap.size + 1 + 1 + 1 + 1 + 1, 0, none⟩), .pointer (some ⟨w.heap.size + 1 + 1 + 1 + 1 + 1 + 1 + 1, 0, none⟩), .pointer (some ⟨w.heap.size + 1 + 1 + 1 + 1 + 1 + 1, 0, none⟩), .pointer (some ⟨w.heap.size + 1 + 1, 0, none⟩)]] := by
      have := Blk.new (((((((w.alloc (.cells #[.pointer (some ⟨h, 0, none⟩)] 51)).alloc (.cells #[.int .i64 1, .int .i64 1, .string ⟨#[]⟩, .bool false, .slice none 0 0, .slice none 0 0, .slice none 0 0] 27)).alloc (.cells #[.int .i64 most] 3)).alloc (.map #[] 0)).alloc (.map #[] 0)).alloc (.cells #[.map (some (w.heap.size + 1 + 1 + 1))] 103)).alloc (.cells #[.map (some (w.heap.size + 1 + 1 + 1 + 1))] 104)) 36 #[.func (.func 59) #[] #[.pointer (some ⟨w.heap.size, 0, none⟩), .pointer (some ⟨w.heap.size + 1 + 1 + 1 + 1 + 1, 0, none⟩), .pointer (some ⟨w.heap.size + 1 + 1 + 1 + 1 + 1 + 1 + 1, 0, none⟩), .pointer (some ⟨w.heap.size + 1 + 1 + 1 + 1 + 1 + 1, 0, none⟩), .pointer (some ⟨w.heap.size + 1 + 1, 0, none⟩)]]
      rw [show (((((((w.alloc (.cells #[.pointer (some ⟨h, 0, none⟩)] 51)).alloc (.cells #[.int .i64 1, .int .i64 1, .string ⟨#[]⟩, .bool false, .slice none 0 0, .slice none 0 0, .slice none 0 0] 27)).alloc (.cells #[.int .i64 most] 3)).alloc (.map #[] 0)).alloc (.map #[] 0)).alloc (.cells #[.map (some (w.heap.size + 1 + 1 + 1))] 103)).alloc (.cells #[.map (some (w.heap.size + 1 + 1 + 1 + 1))] 104)).heap.size = w.heap.size + 1 + 1 + 1 + 1 + 1 + 1 + 1 by simp] at this
      exact this
    have hbw : Below w.heap.size w ((((((((w.alloc (.cells #[.pointer (some ⟨h, 0, none⟩)] 51)).alloc (.cells #[.int .i64 1, .int .i64 1, .string ⟨#[]⟩, .bool false, .slice none 0 0, .slice none 0 0, .slice none 0 0] 27)).alloc (.cells #[.int .i64 most] 3)).alloc (.map #[] 0)).alloc (.map #[] 0)).alloc (.cells #[.map (some (w.heap.size + 1 + 1 + 1))] 103)).alloc (.cells #[.map (some (w.heap.size + 1 + 1 + 1 + 1))] 104)).alloc (.cells #[.func (.func 59) #[] #[.pointer (some ⟨w.heap.size, 0, none⟩), .pointer (some ⟨w.heap.size + 1 + 1 + 1 + 1 + 1, 0, none⟩), .pointer (some ⟨w.heap.size + 1 + 1 + 1 + 1 + 1 + 1 + 1, 0, none⟩), .pointer (some ⟨w.heap.size + 1 + 1 + 1 + 1 + 1 + 1, 0, none⟩), .pointer (some ⟨w.heap.size + 1 + 1, 0, none⟩)]] 36)) := ((((((((Below.refl _ w).alloc (Nat.le_refl _) _).alloc (by simp) _).alloc (by simp; omega) _).alloc (by simp; omega) _).alloc (by simp; omega) _).alloc (by simp; omega) _).alloc (by simp; omega) _).alloc (by simp; omega) _
    have hm0 : ((((((((w.alloc (.cells #[.pointer (some ⟨h, 0, none⟩)] 51)).alloc (.cells #[.int .i64 1, .int .i64 1, .string ⟨#[]⟩, .bool false, .slice none 0 0, .slice none 0 0, .slice none 0 0] 27)).alloc (.cells #[.int .i64 most] 3)).alloc (.map #[] 0)).alloc (.map #[] 0)).alloc (.cells #[.map (some (w.heap.size + 1 + 1 + 1))] 103)).alloc (.cells #[.map (some (w.heap.size + 1 + 1 + 1 + 1))] 104)).alloc (.cells #[.func (.func 59) #[] #[.pointer (some ⟨w.heap.size, 0, none⟩), .pointer (some ⟨w.heap.size + 1 + 1 + 1 + 1 + 1, 0, none⟩), .pointer (some ⟨w.heap.size + 1 + 1 + 1 + 1 + 1 + 1 + 1, 0, none⟩), .pointer (some ⟨w.heap.size + 1 + 1 + 1 + 1 + 1 + 1, 0, none⟩), .pointer (some ⟨w.heap.size + 1 + 1, 0, none⟩)]] 36)).heap[w.heap.size + 1 + 1 + 1]? = some (.map #[] 0) := by
      have := heap_alloc_new (((w.alloc (.cells #[.pointer (some ⟨h, 0, none⟩)] 51)).alloc (.cells #[.int .i64 1, .int .i64 1, .string ⟨#[]⟩, .bool false, .slice none 0 0, .slice none 0 0, .slice none 0 0] 27)).alloc (.cells #[.int .i64 most] 3)) (.map #[] 0)
      rw [show (((w.alloc (.cells #[.pointer (some ⟨h, 0, none⟩)] 51)).alloc (.cells #[.int .i64 1, .int .i64 1, .string ⟨#[]⟩, .bool false, .slice none 0 0, .slice none 0 0, .slice none 0 0] 27)).alloc (.cells #[.int .i64 most] 3)).heap.size = w.heap.size + 1 + 1 + 1 by simp] at this
      rw [Lib.alloc_old _ _ _ (by simp), Lib.alloc_old _ _ _ (by simp), Lib.alloc_old _ _ _ (by simp), Lib.alloc_old _ _ _ (by simp)]
      exact this
    have g0 := (((((((hb0.alloc (.cells #[.int .i64 1, .int .i64 1, .string ⟨#[]⟩, .bool false, .slice none 0 0, .slice none 0 0, .slice none 0 0] 27)).alloc (.cells #[.int .i64 most] 3)).alloc (.map #[] 0)).alloc (.map #[] 0)).alloc (.cells #[.map (some (w.heap.size + 1 + 1 + 1))] 103)).alloc (.cells #[.map (some (w.heap.size + 1 + 1 + 1 + 1))] 104)).alloc (.cells #[.func (.func 59) #[] #[.pointer (some ⟨w.heap.size, 0, none⟩), .pointer (some ⟨w.heap.size + 1 + 1 + 1 + 1 + 1, 0, none⟩), .pointer (some ⟨w.heap.size + 1 + 1 + 1 + 1 + 1 + 1 + 1, 0, none⟩), .pointer (some ⟨w.heap.size + 1 + 1 + 1 + 1 + 1 + 1, 0, none⟩), .pointer (some ⟨w.heap.size + 1 + 1, 0, none⟩)]] 36))
    have g5 := ((hb5.alloc (.cells #[.map (some (w.heap.size + 1 + 1 + 1 + 1))] 104)).alloc (.cells #[.func (.func 59) #[] #[.pointer (some ⟨w.heap.size, 0, none⟩), .pointer (some ⟨w.heap.size + 1 + 1 + 1 + 1 + 1, 0, none⟩), .pointer (some ⟨w.heap.size + 1 + 1 + 1 + 1 + 1 + 1 + 1, 0, none⟩), .pointer (some ⟨w.heap.size + 1 + 1 + 1 + 1 + 1 + 1, 0, none⟩), .pointer (some ⟨w.heap.size + 1 + 1, 0, none⟩)]] 36))
    refine (sizeC_run B h G c m (w.heap.size) (w.heap.size + 1 + 1 + 1 + 1 + 1) (w.heap.size + 1 + 1 + 1 + 1 + 1 + 1 + 1) (w.heap.size + 1 + 1 + 1 + 1 + 1 + 1) (w.heap.size + 1 + 1) (w.heap.size + 1 + 1 + 1) tv ys pk pv ps pn pA pa pc pB pd pe pX pl pq h1 h5 ((((((((w.alloc (.cells #[.pointer (some ⟨h, 0, none⟩)] 51)).alloc (.cells #[.int .i64 1, .int .i64 1, .string ⟨#[]⟩, .bool false, .slice none 0 0, .slice none 0 0, .slice none 0 0] 27)).alloc (.cells #[.int .i64 most] 3)).alloc (.map #[] 0)).alloc (.map #[] 0)).alloc (.cells #[.map (some (w.heap.size + 1 + 1 + 1))] 103)).alloc (.cells #[.map (some (w.heap.size + 1 + 1 + 1 + 1))] 104)).alloc (.cells #[.func (.func 59) #[] #[.pointer (some ⟨w.heap.size, 0, none⟩), .pointer (some ⟨w.heap.size + 1 + 1 + 1 + 1 + 1, 0, none⟩), .pointer (some ⟨w.heap.size + 1 + 1 + 1 + 1 + 1 + 1 + 1, 0, none⟩), .pointer (some ⟨w.heap.size + 1 + 1 + 1 + 1 + 1 + 1, 0, none⟩), .pointer (some ⟨w.heap.size + 1 + 1, 0, none⟩)]] 36)) ⟨⟨_, g0⟩, ⟨_, g5⟩, ⟨_, hb8⟩, hS.below hbw, Kept.refl _ _⟩ (MapI.empty hm0)).mono ?_
    rintro e w' ⟨rfl, hk⟩
    exact ⟨rfl, hbw.trans (hk.below hbw.size (fun k e => by
      have e : k = w.heap.size + 1 + 1 + 1 := e
      omega))⟩
  clear hS h1 h5
  go_enter Try.func40, Try.ntmps40
  go_wp2_with fail
  refine HRUN.out.mono ?_
  rintro e w2 ⟨rfl, hb⟩
  have HB := Lib.hid hb
  clear hb hst
  go_wp2_with fail
  go_ret
  exact ⟨rfl, HB.out⟩
end Go.Proofs.Ytkamkaehlofgpaa
/- (*heap.Heap).Resolved at the variable 1, bound to a term without arguments. -/
namespace Go.Proofs.Ytkamkaehlofgpaa
open Go.RowKit NumB
set_option linter.unusedVariables false
set_option linter.unusedSimpArgs false

set_option maxHeartbeats 6400000 in
set_option maxRecDepth 100000 in
theorem resolved_any (B h G c m : Nat) (tv : Value) (ys : List Value) (pk pv : Int) (ps : ByteArray) (pn : Bool) (pA : Option Addr) (pa pc : Nat) (pB : Option Addr) (pd pe : Nat) (pX : Option Addr) (pl pq : Nat) (h1 : pk ≠ 1) (h5 : pk ≠ 5) (w : World) (hS : HS w B h G c tv (xs2 pk pv ps pn (.slice pA pa pc) (.slice pB pd pe) (.slice pX pl pq)) m ys) :
    Calls Try.prog 27 #[.pointer (some ⟨h, 0, none⟩), .agg #[.int .i64 1, .int .i64 1, .string ⟨#[]⟩, .bool false, .slice none 0 0, .slice none 0 0, .slice none 0 0], .int .i64 10000] w fun e w' => e = .returned (.tuple #[.agg #[.int .i64 pk, .int .i64 pv, .string ps, .bool pn, .slice pA pa pc, .slice pB pd pe, .slice pX pl pq], .int .i64 0]) ∧ Below w.heap.size w w' := by
  have HF : Hid (∀ W, Below w.heap.size w W → Calls Try.prog 39 #[.pointer (some ⟨h, 0, none⟩), .agg #[.int .i64 1, .int .i64 1, .string ⟨#[]⟩, .bool false, .slice none 0 0, .slice none 0 0, .slice none 0 0]] W fun e w' => e = .returned (.bool true) ∧ Hid (Below W.heap.size W w')) := fun W hW =>
    finiteH_any B h G c m tv ys pk pv ps pn pA pa pc pB pd pe pX pl pq h1 h5 W (hS.below hW)
  have HZ : Hid (∀ W, Below w.heap.size w W → Calls Try.prog 40 #[.pointer (some ⟨h, 0, none⟩), .agg #[.int .i64 1, .int .i64 1, .string ⟨#[]⟩, .bool false, .slice none 0 0, .slice none 0 0, .slice none 0 0], .int .i64 10000] W fun e w' => e = .returned (.int .i64 1) ∧ Hid (Below W.heap.size W w')) := fun W hW =>
    sizeH_any B h G c m tv ys pk pv ps pn pA pa pc pB pd pe pX pl pq h1 h5 10000 W (hS.below hW)
  have HTR : Hid (∀ W, Below w.heap.size w W → Calls Try.prog 41 #[.pointer (some ⟨h, 0, none⟩), .agg #[.int .i64 1, .int .i64 1, .string ⟨#[]⟩, .bool false, .slice none 0 0, .slice none 0 0, .slice none 0 0]] W fun e w' => e = .returned (.agg #[.int .i64 pk, .int .i64 pv, .string ps, .bool pn, .slice pA pa pc, .slice pB pd pe, .slice pX pl pq]) ∧ Hid (Below W.heap.size W w')) := fun W hW =>
    treeH_any B h G c m tv ys pk pv ps pn pA pa pc pB pd pe pX pl pq h1 h5 W (hS.below hW)
  clear hS h1 h5
  go_enter Try.func27, Try.ntmps27
  go_wp2_with fail
  have hbw := below_pair w (.cells #[.int .i64 1, .int .i64 1, .string ⟨#[]⟩, .bool false, .slice none 0 0, .slice none 0 0, .slice none 0 0] 27) (.cells #[.int .i64 0, .int .i64 0, .string ⟨#[]⟩, .bool false, .slice none 0 0, .slice none 0 0, .slice none 0 0] 27)
  have hbt : Blk ((w.alloc (.cells #[.int .i64 1, .int .i64 1, .string ⟨#[]⟩, .bool false, .slice none 0 0, .slice none 0 0, .slice none 0 0] 27)).alloc (.cells #[.int .i64 0, .int .i64 0, .string ⟨#[]⟩, .bool false, .slice none 0 0, .slice none 0 0, .slice none 0 0] 27)) w.heap.size 27 #[.int .i64 1, .int .i64 1, .string ⟨#[]⟩, .bool false, .slice none 0 0, .slice none 0 0, .slice none 0 0] := (Blk.new w _ _).alloc _
  have hbr : Blk ((w.alloc (.cells #[.int .i64 1, .int .i64 1, .string ⟨#[]⟩, .bool false, .slice none 0 0, .slice none 0 0, .slice none 0 0] 27)).alloc (.cells #[.int .i64 0, .int .i64 0, .string ⟨#[]⟩, .bool false, .slice none 0 0, .slice none 0 0, .slice none 0 0] 27)) (w.heap.size + 1) 27 #[.int .i64 0, .int .i64 0, .string ⟨#[]⟩, .bool false, .slice none 0 0, .slice none 0 0, .slice none 0 0] := by
    have := Blk.new (w.alloc (.cells #[.int .i64 1, .int .i64 1, .string ⟨#[]⟩, .bool false, .slice none 0 0, .slice none 0 0, .slice none 0 0] 27)) 27 #[.int .i64 0, .int .i64 0, .string ⟨#[]⟩, .bool false, .slice none 0 0, .slice none 0 0, .slice none 0 0]
    rw [show (w.alloc (.cells #[.int .i64 1, .int .i64 1, .string ⟨#[]⟩, .bool false, .slice none 0 0, .slice none 0 0, .slice none 0 0] 27)).heap.size = w.heap.size + 1 by simp] at this
    exact this
  have HT0 := Lib.hid hbt
  have HR0 := Lib.hid hbr
  clear hbt hbr
  refine (HF.out _ hbw).mono ?_
  rintro e w1 ⟨rfl, hb1⟩
  have hw1 : Below w.heap.size w w1 := hbw.trans (hb1.out.mono hbw.size)
  have hbt1 := HT0.out.to hb1.out
  have hbr1 := HR0.out.to hb1.out
  have HT1 := Lib.hid hbt1
  have HR1 := Lib.hid hbr1
  have t0 := HT1.out.cell 0
  have t1 := HT1.out.cell 1
  have t2 := HT1.out.cell 2
  have t3 := HT1.out.cell 3
  have t4 := HT1.out.cell 4
  have t5 := HT1.out.cell 5
  have t6 := HT1.out.cell 6
  simp only [List.getElem?_toArray, List.getElem?_cons_zero, List.getElem?_cons_succ] at t0 t1 t2 t3 t4 t5 t6
  clear hbt1 hbr1
  go_wp2_with fail
  refine (HZ.out _ hw1).mono ?_
  rintro e w2 ⟨rfl, hb2⟩
  clear t0 t1 t2 t3 t4 t5 t6
  have hw2 : Below w.heap.size w w2 := hw1.trans (hb2.out.mono hw1.size)
  have hbt2 := HT1.out.to hb2.out
  have hbr2 := HR1.out.to hb2.out
  have HT2 := Lib.hid hbt2
  have HR2 := Lib.hid hbr2
  have t0 := HT2.out.cell 0
  have t1 := HT2.out.cell 1
  have t2 := HT2.out.cell 2
  have t3 := HT2.out.cell 3
  have t4 := HT2.out.cell 4
  have t5 := HT2.out.cell 5
  have t6 := HT2.out.cell 6
  simp only [List.getElem?_toArray, List.getElem?_cons_zero, List.getElem?_cons_succ] at t0 t1 t2 t3 t4 t5 t6
  clear hbt2 hbr2
  go_wp2_with fail
  refine (HTR.out _ hw2).mono ?_
  rintro e w3 ⟨rfl, hb3⟩
  clear t0 t1 t2 t3 t4 t5 t6
  have hbr3 := HR2.out.to hb3.out
  have HR := Lib.hid hbr3
  have r0 := HR.out.cell 0
  have r1 := HR.out.cell 1
  have r2 := HR.out.cell 2
  have r3 := HR.out.cell 3
  have r4 := HR.out.cell 4
  have r5 := HR.out.cell 5
  have r6 := HR.out.cell 6
  have z0 := HR.out.frozen 0
  have z1 := HR.out.frozen 1
  have z2 := HR.out.frozen 2
  have z3 := HR.out.frozen 3
  have z4 := HR.out.frozen 4
  have z5 := HR.out.frozen 5
  have z6 := HR.out.frozen 6
  simp only [List.getElem?_toArray, List.getElem?_cons_zero, List.getElem?_cons_succ] at r0 r1 r2 r3 r4 r5 r6
  have HW1 : Hid (Below w.heap.size w w3) := hw2.trans (hb3.out.mono hw2.size)
  clear hbw hb1 hb2 hb3 hw1 hw2 hbr3
  go_wp2_with fail
  refine bodyPost_ret (v := .tuple #[.agg #[.int .i64 pk, .int .i64 pv, .string ps, .bool pn, .slice pA pa pc, .slice pB pd pe, .slice pX pl pq], .int .i64 0]) (by rw [results_cell_tmp rfl]; go_simp) rfl ?_
  exact ⟨rfl, (((((((HW1.out.setCell (p := ⟨w.heap.size + 1, 0, none⟩) (by simp) _).setCell (p := ⟨w.heap.size + 1, 1, none⟩) (by simp) _).setCell (p := ⟨w.heap.size + 1, 2, none⟩) (by simp) _).setCell (p := ⟨w.heap.size + 1, 3, none⟩) (by simp) _).setCell (p := ⟨w.heap.size + 1, 4, none⟩) (by simp) _).setCell (p := ⟨w.heap.size + 1, 5, none⟩) (by simp) _).setCell (p := ⟨w.heap.size + 1, 6, none⟩) (by simp) _)⟩
end Go.Proofs.Ytkamkaehlofgpaa

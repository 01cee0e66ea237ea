/- (*heap.Heap).Size at the variable 1, behind both bindings. And 2 more texts. -/
import Derived.Test.YtkfnpcilanheiaaGreatJo11
import Derived.Test.YtkfnpcilanheiaaGreatJo47
set_option linter.unusedVariables false
set_option linter.unusedSimpArgs false
set_option maxRecDepth 100000
namespace Go.Proofs.YtkfnpcilanheiaaGreat
open Go.RowKit NumB
set_option maxHeartbeats 6400000 in
theorem sizeC_run (B h G c m b1 b2 b3 b4 b5 ms : Nat) (tv : Value) (ys : List Value) (pk pv : Int) (ps : ByteArray) (pn : Bool) (pA : Option Addr) (pa pc : Nat) (pB : Option Addr) (pd pe : Nat) (pX : Option Addr) (pl pq : Nat) (h1 : pk ≠ 1) (h5 : pk ≠ 5) (w : World) (hZ : ZB B h G c m tv (xs2 pk pv ps pn (.slice pA pa pc) (.slice pB pd pe) (.slice pX pl pq)) ys b1 b2 b3 b4 b5 ms w w) (hM : MapI w ms 0 (fun _ => none)) :
    Calls Tryz.prog 117 #[.agg #[.int .i64 1, .int .i64 1, .string ⟨#[]⟩, .bool false, .slice none 0 0, .slice none 0 0, .slice none 0 0], .pointer (some ⟨b1, 0, none⟩), .pointer (some ⟨b2, 0, none⟩), .pointer (some ⟨b3, 0, none⟩), .pointer (some ⟨b4, 0, none⟩), .pointer (some ⟨b5, 0, none⟩)] w fun e w' => e = .returned (.int .i64 1) ∧ Kept (fun k => k = ms) w w' := by
  refine (sizeC_bound B h G c m b1 b2 b3 b4 b5 ms 0 tv _ ys (fun _ => none) 1 (by omega) 1 0 ⟨#[]⟩ false none 0 0 none 0 0 none 0 0 xs2_one w hZ hM rfl (fun W hZ' hM' => ?_)).mono ?_
  · have hZ2 : ZB B h G c m tv (xs2 pk pv ps pn (.slice pA pa pc) (.slice pB pd pe) (.slice pX pl pq)) ys b1 b2 b3 b4 b5 ms W W := ⟨hZ'.h1, hZ'.h2, hZ'.h3, hZ'.s, Kept.refl _ _⟩
    refine sizeC_bound B h G c m b1 b2 b3 b4 b5 ms 0 tv _ ys (fun _ => none) 0 (by omega) pk pv ps pn pA pa pc pB pd pe pX pl pq xs2_zero W hZ2 hM' rfl (fun W2 hZ3 hM3 => ?_)
    refine (sizeC_leaf b1 b2 b3 b4 b5 pk pv ps pn pA pa pc pB pd pe pX pl pq h1 h5 W2).mono ?_
    rintro e W' ⟨rfl, hb'⟩
    exact ⟨rfl, ⟨0, _, hM3.keep (hb'.block _ (heap_lt hM3.is.choose_spec.choose_spec))⟩, Kept.of_below hb'⟩
  · rintro e w' ⟨rfl, _, hk⟩
    exact ⟨rfl, hk⟩
set_option maxHeartbeats 6400000 in
theorem sizeH_any (B h G c m : Nat) (tv : Value) (ys : List Value) (pk pv : Int) (ps : ByteArray) (pn : Bool) (pA : Option Addr) (pa pc : Nat) (pB : Option Addr) (pd pe : Nat) (pX : Option Addr) (pl pq : Nat) (h1 : pk ≠ 1) (h5 : pk ≠ 5) (most : Int) (w : World) (hS : HS w B h G c tv (xs2 pk pv ps pn (.slice pA pa pc) (.slice pB pd pe) (.slice pX pl pq)) m ys) :
    Calls Tryz.prog 70 #[.pointer (some ⟨h, 0, none⟩), .agg #[.int .i64 1, .int .i64 1, .string ⟨#[]⟩, .bool false, .slice none 0 0, .slice none 0 0, .slice none 0 0], .int .i64 most] w fun e w' => e = .returned (.int .i64 1) ∧ Below w.heap.size w w' := by
  have hmm := @run_makeMap Tryz.prog
  have hb7 : Blk ((((((((w.alloc (.cells #[.pointer (some ⟨h, 0, none⟩)] 98)).alloc (.cells #[.int .i64 1, .int .i64 1, .string ⟨#[]⟩, .bool false, .slice none 0 0, .slice none 0 0, .slice none 0 0] 27)).alloc (.cells #[.int .i64 most] 3)).alloc (.map #[] 0)).alloc (.map #[] 0)).alloc (.cells #[.map (some (w.heap.size + 1 + 1 + 1))] 97)).alloc (.cells #[.map (some (w.heap.size + 1 + 1 + 1 + 1))] 154)).alloc (.cells #[.nilFunc] 60)) (w.heap.size + 1 + 1 + 1 + 1 + 1 + 1 + 1) 60 #[.nilFunc] := by
    have := Blk.new (((((((w.alloc (.cells #[.pointer (some ⟨h, 0, none⟩)] 98)).alloc (.cells #[.int .i64 1, .int .i64 1, .string ⟨#[]⟩, .bool false, .slice none 0 0, .slice none 0 0, .slice none 0 0] 27)).alloc (.cells #[.int .i64 most] 3)).alloc (.map #[] 0)).alloc (.map #[] 0)).alloc (.cells #[.map (some (w.heap.size + 1 + 1 + 1))] 97)).alloc (.cells #[.map (some (w.heap.size + 1 + 1 + 1 + 1))] 154)) 60 #[.nilFunc]
    rw [show (((((((w.alloc (.cells #[.pointer (some ⟨h, 0, none⟩)] 98)).alloc (.cells #[.int .i64 1, .int .i64 1, .string ⟨#[]⟩, .bool false, .slice none 0 0, .slice none 0 0, .slice none 0 0] 27)).alloc (.cells #[.int .i64 most] 3)).alloc (.map #[] 0)).alloc (.map #[] 0)).alloc (.cells #[.map (some (w.heap.size + 1 + 1 + 1))] 97)).alloc (.cells #[.map (some (w.heap.size + 1 + 1 + 1 + 1))] 154)).heap.size = w.heap.size + 1 + 1 + 1 + 1 + 1 + 1 + 1 by simp] at this
    exact this
  have fz := hb7.frozen 0
  have a7 := hb7.cell 0
  have hst : (store ⟨w.heap.size + 1 + 1 + 1 + 1 + 1 + 1 + 1, 0, none⟩ (.func (.func 117) #[] #[.pointer (some ⟨w.heap.size, 0, none⟩), .pointer (some ⟨w.heap.size + 1 + 1 + 1 + 1 + 1, 0, none⟩), .pointer (some ⟨w.heap.size + 1 + 1 + 1 + 1 + 1 + 1 + 1, 0, none⟩), .pointer (some ⟨w.heap.size + 1 + 1 + 1 + 1 + 1 + 1, 0, none⟩), .pointer (some ⟨w.heap.size + 1 + 1, 0, none⟩)])).run Tryz.prog ((((((((w.alloc (.cells #[.pointer (some ⟨h, 0, none⟩)] 98)).alloc (.cells #[.int .i64 1, .int .i64 1, .string ⟨#[]⟩, .bool false, .slice none 0 0, .slice none 0 0, .slice none 0 0] 27)).alloc (.cells #[.int .i64 most] 3)).alloc (.map #[] 0)).alloc (.map #[] 0)).alloc (.cells #[.map (some (w.heap.size + 1 + 1 + 1))] 97)).alloc (.cells #[.map (some (w.heap.size + 1 + 1 + 1 + 1))] 154)).alloc (.cells #[.nilFunc] 60)) = .ok () (((((((((w.alloc (.cells #[.pointer (some ⟨h, 0, none⟩)] 98)).alloc (.cells #[.int .i64 1, .int .i64 1, .string ⟨#[]⟩, .bool false, .slice none 0 0, .slice none 0 0, .slice none 0 0] 27)).alloc (.cells #[.int .i64 most] 3)).alloc (.map #[] 0)).alloc (.map #[] 0)).alloc (.cells #[.map (some (w.heap.size + 1 + 1 + 1))] 97)).alloc (.cells #[.map (some (w.heap.size + 1 + 1 + 1 + 1))] 154)).alloc (.cells #[.nilFunc] 60)).setCell ⟨w.heap.size + 1 + 1 + 1 + 1 + 1 + 1 + 1, 0, none⟩ (.func (.func 117) #[] #[.pointer (some ⟨w.heap.size, 0, none⟩), .pointer (some ⟨w.heap.size + 1 + 1 + 1 + 1 + 1, 0, none⟩), .pointer (some ⟨w.heap.size + 1 + 1 + 1 + 1 + 1 + 1 + 1, 0, none⟩), .pointer (some ⟨w.heap.size + 1 + 1 + 1 + 1 + 1 + 1, 0, none⟩), .pointer (some ⟨w.heap.size + 1 + 1, 0, none⟩)])) := by
    rw [run_store _ _ _ _ _ rfl, a7, fz]
    rfl
  clear hb7 fz a7
  have HRUN : Hid (Calls Tryz.prog 117 #[.agg #[.int .i64 1, .int .i64 1, .string ⟨#[]⟩, .bool false, .slice none 0 0, .slice none 0 0, .slice none 0 0], .pointer (some ⟨w.heap.size, 0, none⟩), .pointer (some ⟨w.heap.size + 1 + 1 + 1 + 1 + 1, 0, none⟩), .pointer (some ⟨w.heap.size + 1 + 1 + 1 + 1 + 1 + 1 + 1, 0, none⟩), .pointer (some ⟨w.heap.size + 1 + 1 + 1 + 1 + 1 + 1, 0, none⟩), .pointer (some ⟨w.heap.size + 1 + 1, 0, none⟩)] ((((((((w.alloc (.cells #[.pointer (some ⟨h, 0, none⟩)] 98)).alloc (.cells #[.int .i64 1, .int .i64 1, .string ⟨#[]⟩, .bool false, .slice none 0 0, .slice none 0 0, .slice none 0 0] 27)).alloc (.cells #[.int .i64 most] 3)).alloc (.map #[] 0)).alloc (.map #[] 0)).alloc (.cells #[.map (some (w.heap.size + 1 + 1 + 1))] 97)).alloc (.cells #[.map (some (w.heap.size + 1 + 1 + 1 + 1))] 154)).alloc (.cells #[.func (.func 117) #[] #[.pointer (some ⟨w.heap.size, 0, none⟩), .pointer (some ⟨w.heap.size + 1 + 1 + 1 + 1 + 1, 0, none⟩), .pointer (some ⟨w.heap.size + 1 + 1 + 1 + 1 + 1 + 1 + 1, 0, none⟩), .pointer (some ⟨w.heap.size + 1 + 1 + 1 + 1 + 1 + 1, 0, none⟩), .pointer (some ⟨w.heap.size + 1 + 1, 0, none⟩)]] 60)) fun e w' => e = .returned (.int .i64 1) ∧ Below w.heap.size w w') := by
    have hb0 : Blk (w.alloc (.cells #[.pointer (some ⟨h, 0, none⟩)] 98)) (w.heap.size) 98 #[.pointer (some ⟨h, 0, none⟩)] := by
      have := Blk.new w 98 #[.pointer (some ⟨h, 0, none⟩)]
      rw [show w.heap.size = w.heap.size by simp] at this
      exact this
    have hb5 : Blk ((((((w.alloc (.cells #[.pointer (some ⟨h, 0, none⟩)] 98)).alloc (.cells #[.int .i64 1, .int .i64 1, .string ⟨#[]⟩, .bool false, .slice none 0 0, .slice none 0 0, .slice none 0 0] 27)).alloc (.cells #[.int .i64 most] 3)).alloc (.map #[] 0)).alloc (.map #[] 0)).alloc (.cells #[.map (some (w.heap.size + 1 + 1 + 1))] 97)) (w.heap.size + 1 + 1 + 1 + 1 + 1) 97 #[.map (some (w.heap.size + 1 + 1 + 1))] := by
      have := Blk.new (((((w.alloc (.cells #[.pointer (some ⟨h, 0, none⟩)] 98)).alloc (.cells #[.int .i64 1, .int .i64 1, .string ⟨#[]⟩, .bool false, .slice none 0 0, .slice none 0 0, .slice none 0 0] 27)).alloc (.cells #[.int .i64 most] 3)).alloc (.map #[] 0)).alloc (.map #[] 0)) 97 #[.map (some (w.heap.size + 1 + 1 + 1))]
      rw [show (((((w.alloc (.cells #[.pointer (some ⟨h, 0, none⟩)] 98)).alloc (.cells #[.int .i64 1, .int .i64 1, .string ⟨#[]⟩, .bool false, .slice none 0 0, .slice none 0 0, .slice none 0 0] 27)).alloc (.cells #[.int .i64 most] 3)).alloc (.map #[] 0)).alloc (.map #[] 0)).heap.size = w.heap.size + 1 + 1 + 1 + 1 + 1 by simp] at this
      exact this
    have hb8 : Blk ((((((((w.alloc (.cells #[.pointer (some ⟨h, 0, none⟩)] 98)).alloc (.cells #[.int .i64 1, .int .i64 1, .string ⟨#[]⟩, .bool false, .slice none 0 0, .slice none 0 0, .slice none 0 0] 27)).alloc (.cells #[.int .i64 most] 3)).alloc (.map #[] 0)).alloc (.map #[] 0)).alloc (.cells #[.map (some (w.heap.size + 1 + 1 + 1))] 97)).alloc (.cells #[.map (some (w.heap.size + 1 + 1 + 1 + 1))] 154)).alloc (.cells #[.func (.func 117) #[] #[.pointer (some ⟨w.heap.size, 0, none⟩), .pointer (some ⟨w.heap.size + 1 + 1 + 1 + 1 + 1, 0, none⟩), .pointer (some ⟨w.heap.size + 1 + 1 + 1 + 1 + 1 + 1 + 1, 0, none⟩), .pointer (some ⟨w.heap.size + 1 + 1 + 1 + 1 + 1 + 1, 0, none⟩), .pointer (some ⟨w.heap.size + 1 + 1, 0, none⟩)]] 60)) (w.heap.size + 1 + 1 + 1 + 1 + 1 + 1 + 1) 60 #[.func (.func 117) #[] #[.pointer (some ⟨w.heap.size, 0, none⟩), .pointer (some ⟨w.heap.size + 1 + 1 + 1 + 1 + 1, 0, none⟩), .pointer (some ⟨w.heap.size + 1 + 1 + 1 + 1 + 1 + 1 + 1, 0, none⟩), .pointer (some ⟨w.heap.size + 1 + 1 + 1 + 1 + 1 + 1, 0, none⟩), .pointer (some ⟨w.heap.size + 1 + 1, 0, none⟩)]] := by
      have := Blk.new (((((((w.alloc (.cells #[.pointer (some ⟨h, 0, none⟩)] 98)).alloc (.cells #[.int .i64 1, .int .i64 1, .string ⟨#[]⟩, .bool false, .slice none 0 0, .slice none 0 0, .slice none 0 0] 27)).alloc (.cells #[.int .i64 most] 3)).alloc (.map #[] 0)).alloc (.map #[] 0)).alloc (.cells #[.map (some (w.heap.size + 1 + 1 + 1))] 97)).alloc (.cells #[.map (some (w.heap.size + 1 + 1 + 1 + 1))] 154)) 60 #[.func (.func 117) #[] #[.pointer (some ⟨w.heap.size, 0, none⟩), .pointer (some ⟨w.heap.size + 1 + 1 + 1 + 1 + 1, 0, none⟩), .pointer (some ⟨w.heap.size + 1 + 1 + 1 + 1 + 1 + 1 + 1, 0, none⟩), .pointer (some ⟨w.heap.size + 1 + 1 + 1 + 1 + 1 + 1, 0, none⟩), .pointer (some ⟨w.heap.size + 1 + 1, 0, none⟩)]]
      rw [show (((((((w.alloc (.cells #[.pointer (some ⟨h, 0, none⟩)] 98)).alloc (.cells #[.int .i64 1, .int .i64 1, .string ⟨#[]⟩, .bool false, .slice none 0 0, .slice none 0 0, .slice none 0 0] 27)).alloc (.cells #[.int .i64 most] 3)).alloc (.map #[] 0)).alloc (.map #[] 0)).alloc (.cells #[.map (some (w.heap.size + 1 + 1 + 1))] 97)).alloc (.cells #[.map (some (w.heap.size + 1 + 1 + 1 + 1))] 154)).heap.size = w.heap.size + 1 + 1 + 1 + 1 + 1 + 1 + 1 by simp] at this
      exact this
    have hbw : Below w.heap.size w ((((((((w.alloc (.cells #[.pointer (some ⟨h, 0, none⟩)] 98)).alloc (.cells #[.int .i64 1, .int .i64 1, .string ⟨#[]⟩, .bool false, .slice none 0 0, .slice none 0 0, .slice none 0 0] 27)).alloc (.cells #[.int .i64 most] 3)).alloc (.map #[] 0)).alloc (.map #[] 0)).alloc (.cells #[.map (some (w.heap.size + 1 + 1 + 1))] 97)).alloc (.cells #[.map (some (w.heap.size + 1 + 1 + 1 + 1))] 154)).alloc (.cells #[.func (.func 117) #[] #[.pointer (some ⟨w.heap.size, 0, none⟩), .pointer (some ⟨w.heap.size + 1 + 1 + 1 + 1 + 1, 0, none⟩), .pointer (some ⟨w.heap.size + 1 + 1 + 1 + 1 + 1 + 1 + 1, 0, none⟩), .pointer (some ⟨w.heap.size + 1 + 1 + 1 + 1 + 1 + 1, 0, none⟩), .pointer (some ⟨w.heap.size + 1 + 1, 0, none⟩)]] 60)) := ((((((((Below.refl _ w).alloc (Nat.le_refl _) _).alloc (by simp) _).alloc (by simp; omega) _).alloc (by simp; omega) _).alloc (by simp; omega) _).alloc (by simp; omega) _).alloc (by simp; omega) _).alloc (by simp; omega) _
    have hm0 : ((((((((w.alloc (.cells #[.pointer (some ⟨h, 0, none⟩)] 98)).alloc (.cells #[.int .i64 1, .int .i64 1, .string ⟨#[]⟩, .bool false, .slice none 0 0, .slice none 0 0, .slice none 0 0] 27)).alloc (.cells #[.int .i64 most] 3)).alloc (.map #[] 0)).alloc (.map #[] 0)).alloc (.cells #[.map (some (w.heap.size + 1 + 1 + 1))] 97)).alloc (.cells #[.map (some (w.heap.size + 1 + 1 + 1 + 1))] 154)).alloc (.cells #[.func (.func 117) #[] #[.pointer (some ⟨w.heap.size, 0, none⟩), .pointer (some ⟨w.heap.size + 1 + 1 + 1 + 1 + 1, 0, none⟩), .pointer (some ⟨w.heap.size + 1 + 1 + 1 + 1 + 1 + 1 + 1, 0, none⟩), .pointer (some ⟨w.heap.size + 1 + 1 + 1 + 1 + 1 + 1, 0, none⟩), .pointer (some ⟨w.heap.size + 1 + 1, 0, none⟩)]] 60)).heap[w.heap.size + 1 + 1 + 1]? = some (.map #[] 0) := by
      have := heap_alloc_new (((w.alloc (.cells #[.pointer (some ⟨h, 0, none⟩)] 98)).alloc (.cells #[.int .i64 1, .int .i64 1, .string ⟨#[]⟩, .bool false, .slice none 0 0, .slice none 0 0, .slice none 0 0] 27)).alloc (.cells #[.int .i64 most] 3)) (.map #[] 0)
      rw [show (((w.alloc (.cells #[.pointer (some ⟨h, 0, none⟩)] 98)).alloc (.cells #[.int .i64 1, .int .i64 1, .string ⟨#[]⟩, .bool false, .slice none 0 0, .slice none 0 0, .slice none 0 0] 27)).alloc (.cells #[.int .i64 most] 3)).heap.size = w.heap.size + 1 + 1 + 1 by simp] at this
      rw [Lib.alloc_old _ _ _ (by simp), Lib.alloc_old _ _ _ (by simp), Lib.alloc_old _ _ _ (by simp), Lib.alloc_old _ _ _ (by simp)]
      exact this
    have g0 := (((((((hb0.alloc (.cells #[.int .i64 1, .int .i64 1, .string ⟨#[]⟩, .bool false, .slice none 0 0, .slice none 0 0, .slice none 0 0] 27)).alloc (.cells #[.int .i64 most] 3)).alloc (.map #[] 0)).alloc (.map #[] 0)).alloc (.cells #[.map (some (w.heap.size + 1 + 1 + 1))] 97)).alloc (.cells #[.map (some (w.heap.size + 1 + 1 + 1 + 1))] 154)).alloc (.cells #[.func (.func 117) #[] #[.pointer (some ⟨w.heap.size, 0, none⟩), .pointer (some ⟨w.heap.size + 1 + 1 + 1 + 1 + 1, 0, none⟩), .pointer (some ⟨w.heap.size + 1 + 1 + 1 + 1 + 1 + 1 + 1, 0, none⟩), .pointer (some ⟨w.heap.size + 1 + 1 + 1 + 1 + 1 + 1, 0, none⟩), .pointer (some ⟨w.heap.size + 1 + 1, 0, none⟩)]] 60))
    have g5 := ((hb5.alloc (.cells #[.map (some (w.heap.size + 1 + 1 + 1 + 1))] 154)).alloc (.cells #[.func (.func 117) #[] #[.pointer (some ⟨w.heap.size, 0, none⟩), .pointer (some ⟨w.heap.size + 1 + 1 + 1 + 1 + 1, 0, none⟩), .pointer (some ⟨w.heap.size + 1 + 1 + 1 + 1 + 1 + 1 + 1, 0, none⟩), .pointer (some ⟨w.heap.size + 1 + 1 + 1 + 1 + 1 + 1, 0, none⟩), .pointer (some ⟨w.heap.size + 1 + 1, 0, none⟩)]] 60))
    refine (sizeC_run B h G c m (w.heap.size) (w.heap.size + 1 + 1 + 1 + 1 + 1) (w.heap.size + 1 + 1 + 1 + 1 + 1 + 1 + 1) (w.heap.size + 1 + 1 + 1 + 1 + 1 + 1) (w.heap.size + 1 + 1) (w.heap.size + 1 + 1 + 1) tv ys pk pv ps pn pA pa pc pB pd pe pX pl pq h1 h5 ((((((((w.alloc (.cells #[.pointer (some ⟨h, 0, none⟩)] 98)).alloc (.cells #[.int .i64 1, .int .i64 1, .string ⟨#[]⟩, .bool false, .slice none 0 0, .slice none 0 0, .slice none 0 0] 27)).alloc (.cells #[.int .i64 most] 3)).alloc (.map #[] 0)).alloc (.map #[] 0)).alloc (.cells #[.map (some (w.heap.size + 1 + 1 + 1))] 97)).alloc (.cells #[.map (some (w.heap.size + 1 + 1 + 1 + 1))] 154)).alloc (.cells #[.func (.func 117) #[] #[.pointer (some ⟨w.heap.size, 0, none⟩), .pointer (some ⟨w.heap.size + 1 + 1 + 1 + 1 + 1, 0, none⟩), .pointer (some ⟨w.heap.size + 1 + 1 + 1 + 1 + 1 + 1 + 1, 0, none⟩), .pointer (some ⟨w.heap.size + 1 + 1 + 1 + 1 + 1 + 1, 0, none⟩), .pointer (some ⟨w.heap.size + 1 + 1, 0, none⟩)]] 60)) ⟨⟨_, g0⟩, ⟨_, g5⟩, ⟨_, hb8⟩, hS.below hbw, Kept.refl _ _⟩ (MapI.empty hm0)).mono ?_
    rintro e w' ⟨rfl, hk⟩
    exact ⟨rfl, hbw.trans (hk.below hbw.size (fun k e => by
      have e : k = w.heap.size + 1 + 1 + 1 := e
      omega))⟩
  clear hS h1 h5
  go_enter Tryz.func70, Tryz.ntmps70
  go_wp2_with fail
  refine HRUN.out.mono ?_
  rintro e w2 ⟨rfl, hb⟩
  have HB := Lib.hid hb
  clear hb hst
  go_wp2_with fail
  go_ret
  exact ⟨rfl, HB.out⟩
set_option maxHeartbeats 6400000 in
theorem resolved_any (B h G c m : Nat) (tv : Value) (ys : List Value) (pk pv : Int) (ps : ByteArray) (pn : Bool) (pA : Option Addr) (pa pc : Nat) (pB : Option Addr) (pd pe : Nat) (pX : Option Addr) (pl pq : Nat) (h1 : pk ≠ 1) (h5 : pk ≠ 5) (w : World) (hS : HS w B h G c tv (xs2 pk pv ps pn (.slice pA pa pc) (.slice pB pd pe) (.slice pX pl pq)) m ys) :
    Calls Tryz.prog 85 #[.pointer (some ⟨h, 0, none⟩), .agg #[.int .i64 1, .int .i64 1, .string ⟨#[]⟩, .bool false, .slice none 0 0, .slice none 0 0, .slice none 0 0], .int .i64 10000] w fun e w' => e = .returned (.tuple #[.agg #[.int .i64 pk, .int .i64 pv, .string ps, .bool pn, .slice pA pa pc, .slice pB pd pe, .slice pX pl pq], .int .i64 0]) ∧ Below w.heap.size w w' := by
  have HF : Hid (∀ W, Below w.heap.size w W → Calls Tryz.prog 130 #[.pointer (some ⟨h, 0, none⟩), .agg #[.int .i64 1, .int .i64 1, .string ⟨#[]⟩, .bool false, .slice none 0 0, .slice none 0 0, .slice none 0 0]] W fun e w' => e = .returned (.bool true) ∧ Hid (Below W.heap.size W w')) := fun W hW =>
    finiteH_any B h G c m tv ys pk pv ps pn pA pa pc pB pd pe pX pl pq h1 h5 W (hS.below hW)
  have HZ : Hid (∀ W, Below w.heap.size w W → Calls Tryz.prog 70 #[.pointer (some ⟨h, 0, none⟩), .agg #[.int .i64 1, .int .i64 1, .string ⟨#[]⟩, .bool false, .slice none 0 0, .slice none 0 0, .slice none 0 0], .int .i64 10000] W fun e w' => e = .returned (.int .i64 1) ∧ Hid (Below W.heap.size W w')) := fun W hW =>
    sizeH_any B h G c m tv ys pk pv ps pn pA pa pc pB pd pe pX pl pq h1 h5 10000 W (hS.below hW)
  have HTR : Hid (∀ W, Below w.heap.size w W → Calls Tryz.prog 71 #[.pointer (some ⟨h, 0, none⟩), .agg #[.int .i64 1, .int .i64 1, .string ⟨#[]⟩, .bool false, .slice none 0 0, .slice none 0 0, .slice none 0 0]] W fun e w' => e = .returned (.agg #[.int .i64 pk, .int .i64 pv, .string ps, .bool pn, .slice pA pa pc, .slice pB pd pe, .slice pX pl pq]) ∧ Hid (Below W.heap.size W w')) := fun W hW =>
    treeH_any B h G c m tv ys pk pv ps pn pA pa pc pB pd pe pX pl pq h1 h5 W (hS.below hW)
  clear hS h1 h5
  go_enter Tryz.func85, Tryz.ntmps85
  go_wp2_with fail
  have hbw := below_pair w (.cells #[.int .i64 1, .int .i64 1, .string ⟨#[]⟩, .bool false, .slice none 0 0, .slice none 0 0, .slice none 0 0] 27) (.cells #[.int .i64 0, .int .i64 0, .string ⟨#[]⟩, .bool false, .slice none 0 0, .slice none 0 0, .slice none 0 0] 27)
  have hbt : Blk ((w.alloc (.cells #[.int .i64 1, .int .i64 1, .string ⟨#[]⟩, .bool false, .slice none 0 0, .slice none 0 0, .slice none 0 0] 27)).alloc (.cells #[.int .i64 0, .int .i64 0, .string ⟨#[]⟩, .bool false, .slice none 0 0, .slice none 0 0, .slice none 0 0] 27)) w.heap.size 27 #[.int .i64 1, .int .i64 1, .string ⟨#[]⟩, .bool false, .slice none 0 0, .slice none 0 0, .slice none 0 0] := (Blk.new w _ _).alloc _
  have hbr : Blk ((w.alloc (.cells #[.int .i64 1, .int .i64 1, .string ⟨#[]⟩, .bool false, .slice none 0 0, .slice none 0 0, .slice none 0 0] 27)).alloc (.cells #[.int .i64 0, .int .i64 0, .string ⟨#[]⟩, .bool false, .slice none 0 0, .slice none 0 0, .slice none 0 0] 27)) (w.heap.size + 1) 27 #[.int .i64 0, .int .i64 0, .string ⟨#[]⟩, .bool false, .slice none 0 0, .slice none 0 0, .slice none 0 0] := by
    have := Blk.new (w.alloc (.cells #[.int .i64 1, .int .i64 1, .string ⟨#[]⟩, .bool false, .slice none 0 0, .slice none 0 0, .slice none 0 0] 27)) 27 #[.int .i64 0, .int .i64 0, .string ⟨#[]⟩, .bool false, .slice none 0 0, .slice none 0 0, .slice none 0 0]
    rw [show (w.alloc (.cells #[.int .i64 1, .int .i64 1, .string ⟨#[]⟩, .bool false, .slice none 0 0, .slice none 0 0, .slice none 0 0] 27)).heap.size = w.heap.size + 1 by simp] at this
    exact this
  have HT0 := Lib.hid hbt
  have HR0 := Lib.hid hbr
  clear hbt hbr
  refine (HF.out _ hbw).mono ?_
  rintro e w1 ⟨rfl, hb1⟩
  have hw1 : Below w.heap.size w w1 := hbw.trans (hb1.out.mono hbw.size)
  have hbt1 := HT0.out.to hb1.out
  have hbr1 := HR0.out.to hb1.out
  have HT1 := Lib.hid hbt1
  have HR1 := Lib.hid hbr1
  have t0 := HT1.out.cell 0
  have t1 := HT1.out.cell 1
  have t2 := HT1.out.cell 2
  have t3 := HT1.out.cell 3
  have t4 := HT1.out.cell 4
  have t5 := HT1.out.cell 5
  have t6 := HT1.out.cell 6
  simp only [List.getElem?_toArray, List.getElem?_cons_zero, List.getElem?_cons_succ] at t0 t1 t2 t3 t4 t5 t6
  clear hbt1 hbr1
  go_wp2_with fail
  refine (HZ.out _ hw1).mono ?_
  rintro e w2 ⟨rfl, hb2⟩
  clear t0 t1 t2 t3 t4 t5 t6
  have hw2 : Below w.heap.size w w2 := hw1.trans (hb2.out.mono hw1.size)
  have hbt2 := HT1.out.to hb2.out
  have hbr2 := HR1.out.to hb2.out
  have HT2 := Lib.hid hbt2
  have HR2 := Lib.hid hbr2
  have t0 := HT2.out.cell 0
  have t1 := HT2.out.cell 1
  have t2 := HT2.out.cell 2
  have t3 := HT2.out.cell 3
  have t4 := HT2.out.cell 4
  have t5 := HT2.out.cell 5
  have t6 := HT2.out.cell 6
  simp only [List.getElem?_toArray, List.getElem?_cons_zero, List.getElem?_cons_succ] at t0 t1 t2 t3 t4 t5 t6
  clear hbt2 hbr2
  go_wp2_with fail
  refine (HTR.out _ hw2).mono ?_
  rintro e w3 ⟨rfl, hb3⟩
  clear t0 t1 t2 t3 t4 t5 t6
  have hbr3 := HR2.out.to hb3.out
  have HR := Lib.hid hbr3
  have r0 := HR.out.cell 0
  have r1 := HR.out.cell 1
  have r2 := HR.out.cell 2
  have r3 := HR.out.cell 3
  have r4 := HR.out.cell 4
  have r5 := HR.out.cell 5
  have r6 := HR.out.cell 6
  have z0 := HR.out.frozen 0
  have z1 := HR.out.frozen 1
  have z2 := HR.out.frozen 2
  have z3 := HR.out.frozen 3
  have z4 := HR.out.frozen 4
  have z5 := HR.out.frozen 5
  have z6 := HR.out.frozen 6
  simp only [List.getElem?_toArray, List.getElem?_cons_zero, List.getElem?_cons_succ] at r0 r1 r2 r3 r4 r5 r6
  have HW1 : Hid (Below w.heap.size w w3) := hw2.trans (hb3.out.mono hw2.size)
  clear hbw hb1 hb2 hb3 hw1 hw2 hbr3
  go_wp2_with fail
  refine bodyPost_ret (v := .tuple #[.agg #[.int .i64 pk, .int .i64 pv, .string ps, .bool pn, .slice pA pa pc, .slice pB pd pe, .slice pX pl pq], .int .i64 0]) (by rw [results_cell_tmp rfl]; go_simp) rfl ?_
  exact ⟨rfl, (((((((HW1.out.setCell (p := ⟨w.heap.size + 1, 0, none⟩) (by simp) _).setCell (p := ⟨w.heap.size + 1, 1, none⟩) (by simp) _).setCell (p := ⟨w.heap.size + 1, 2, none⟩) (by simp) _).setCell (p := ⟨w.heap.size + 1, 3, none⟩) (by simp) _).setCell (p := ⟨w.heap.size + 1, 4, none⟩) (by simp) _).setCell (p := ⟨w.heap.size + 1, 5, none⟩) (by simp) _).setCell (p := ⟨w.heap.size + 1, 6, none⟩) (by simp) _)⟩
mutual
def Tm.lt (n : Int) : Tm → Bool
  | .mk k v _ _ args => if k = 1 then decide (v < n) else ltL n args
def ltL (n : Int) : List Tm → Bool
  | [] => true
  | t :: l => t.lt n && ltL n l
end
theorem ltL_get {n : Int} {l : List Tm} : ltL n l = true ↔ ∀ j (h : j < l.length), (l[j]).lt n = true := by
  induction l with
  | nil => simp [ltL]
  | cons x l ih =>
    simp only [ltL, Bool.and_eq_true, ih]
    constructor
    · rintro ⟨h1, h2⟩ j hj
      cases j with
      | zero => exact h1
      | succ j => exact h2 j (by simpa using hj)
    · intro h
      exact ⟨h 0 (by simp), fun j hj => h (j + 1) (by simpa using hj)⟩
set_option maxHeartbeats 3200000 in
theorem indexFunc_any {w : World} {args : List Tm} {Ar : Option Addr} {cs : Nat → List Value} (hr : 0 < args.length → ∃ b o, Ar = some ⟨b, o, none⟩ ∧ b < w.heap.size ∧ ∀ i, i < args.length → ∀ j, j < 7 → w.cell? ⟨b, o + i * 7 + j, none⟩ = (cs i)[j]?)
    (ha : ∀ i (h : i < args.length), TC w args[i] (cs i)) (cap b0 : Nat) (hcap : args.length ≤ cap) (hm : cap ≤ maxLen) (q : Nat → Bool) (W : World) (hW : Below w.heap.size w W)
    (hc : ∀ j, j < args.length → ∀ W', Below W.heap.size W W' → Calls Tryz.prog 258 #[.agg (cs j).toArray, .pointer (some ⟨b0, 0, none⟩)] W' fun e w' => e = .returned (.bool (q j)) ∧ Below W'.heap.size W' w') :
    Calls Tryz.prog 287 #[.slice Ar args.length cap, .func (.func 258) #[] #[.pointer (some ⟨b0, 0, none⟩)]] W fun e W' => ∃ z : Int, e = .returned (.int .i64 z) ∧ Below W.heap.size W W' ∧ ((z = -1 ∧ ∀ j, j < args.length → q j = false) ∨ (0 ≤ z ∧ ∃ j, j < args.length ∧ q j = true)) := by
  have HR := Lib.hid hr
  have HA := Lib.hid ha
  have HC := Lib.hid hc
  have HWB := Lib.hid hW
  unfold maxLen at hm
  clear hr ha hc hW
  obtain ⟨l, hl⟩ : ∃ l, args.length = l := ⟨_, rfl⟩
  rw [hl] at hcap ⊢
  have HL := Lib.hid hl
  clear hl
  go_enter Tryz.func287, Tryz.ntmps287
  go_wp2_with fail
  go_loopg [8] l (fun gk s8 wr => ∃ j : Nat, gk + j = l ∧ s8 = .int .i64 (j : Int) ∧ Hid (∀ i, i < j → q i = false) ∧ Hid (Below W.heap.size W wr))
  case atStart => exact ⟨0, by omega, rfl, fun i hi => absurd hi (by omega), Below.refl _ _⟩
  case round =>
    obtain ⟨j, hgj, rfl, HQ, HB⟩ := hrel
    by_cases hj : j < l
    · have hja : j < args.length := by rw [HL.out]; exact hj
      have HBW := HWB.out.trans (HB.out.mono HWB.out.size)
      obtain ⟨b, o, k', v', s', ng', A2, n2, c2, B2, m3, d2, Xr, xl, xc, hAr, hcs, hlt, e0, e1, e2, e3, e4, e5, e6⟩ := arg_cells HR.out HA.out HBW hja
      subst hAr
      have HCALL := HC.out j hja wr HB.out
      rw [hcs] at HCALL
      have HCALL := Lib.hid HCALL
      go_wp2_with fail
      refine HCALL.out.mono ?_
      rintro e w3 ⟨rfl, hb⟩
      have HB3 := Lib.hid (HB.out.trans (hb.mono HB.out.size))
      clear hb e0 e1 e2 e3 e4 e5 e6 HCALL
      cases hq : q j with
      | true =>
        go_wp2_with fail
        go_ret
        exact ⟨_, rfl, HB3.out, .inr ⟨by omega, j, by rw [HL.out] at hja; exact hja, hq⟩⟩
      | false =>
        have HQ2 : Hid (∀ i, i < j + 1 → q i = false) := fun i hi => by
          by_cases h : i = j
          · rw [h]; exact hq
          · exact HQ.out i (by omega)
        go_wp2_with fail
        go_roundg (gk - 1)
        case measure => omega
        case rel => exact ⟨j + 1, by omega, by go_num, HQ2, HB3.out⟩
    · obtain rfl : j = l := by omega
      go_wp2_with fail
      go_ret
      exact ⟨_, rfl, HB.out, .inl ⟨rfl, HQ.out⟩⟩
theorem below_pairC (w : World) (o1 o2 : Obj) : Below w.heap.size w ((w.alloc o1).alloc o2) := (below_one w o1).alloc (by simp) o2
set_option maxHeartbeats 3200000 in
theorem below_any (n : Int) {w : World} {t : Tm} {cs : List Value} (h : TC w t cs) : ∀ (W : World), Below w.heap.size w W →
    Calls Tryz.prog 187 #[.agg cs.toArray, .int .i64 n] W fun e W' => e = .returned (.bool (t.lt n)) ∧ Below W.heap.size W W' := by
  induction h with
  | mk k v s nn args A B Ar cap cs hk hv hs hA hB hn hcap hm hr ha ih =>
    intro W hW
    obtain ⟨A1, q1, rfl, _⟩ := hA
    obtain ⟨B1, q2, rfl, _⟩ := hB
    have HT1 : Hid (k = 1 → (Tm.mk k v s nn args).lt n = decide (v < n)) := fun h => by rw [Tm.lt, if_pos h]
    have HT2 : Hid (k ≠ 1 → (Tm.mk k v s nn args).lt n = ltL n args) := fun h => by rw [Tm.lt, if_neg h]
    have HWB := Lib.hid hW
    have HCLO : Hid (∀ (b0 : Nat) (W1 : World), Below w.heap.size w W1 → W1.cell? ⟨b0, 0, none⟩ = some (.int .i64 n) → b0 < W1.heap.size → ∀ j (hj : j < args.length) (W' : World), Below W1.heap.size W1 W' → Calls Tryz.prog 258 #[.agg (cs j).toArray, .pointer (some ⟨b0, 0, none⟩)] W' fun e w' => e = .returned (.bool (!(args[j].lt n))) ∧ Below W'.heap.size W' w') := by
      intro b0 W1 h1 hb0 hlt j hj W' h2
      have hcell := (h2.cell (p := ⟨b0, 0, none⟩) hlt).trans hb0
      have hltw : b0 < W'.heap.size := Nat.lt_of_lt_of_le hlt h2.size
      have IHJ := ih j hj
      obtain ⟨k', v', s', ng', A2, n2, c2, B2, m3, d2, Xr, xl, xc, hf⟩ := (ha j hj).form
      rw [hf] at IHJ ⊢
      have HI : Hid (∀ W2, Below W'.heap.size W' W2 → Calls Tryz.prog 187 #[.agg #[.int .i64 k', .int .i64 v', .string s', .bool ng', .slice A2 n2 c2, .slice B2 m3 d2, .slice Xr xl xc], .int .i64 n] W2 fun e w' => e = .returned (.bool (args[j].lt n)) ∧ Below W2.heap.size W2 w') := fun W2 h3 => IHJ W2 (h1.trans ((h2.trans (h3.mono h2.size)).mono h1.size))
      generalize (args[j]).lt n = z at *
      clear ih ha hr HT1 HT2 IHJ hf
      go_enter Tryz.func258, Tryz.ntmps258
      go_wp2_with fail
      refine (HI.out _ (by exact below_one _ _)).mono ?_
      rintro e w3 ⟨rfl, hb⟩
      go_wp2_with fail
      go_ret
      exact ⟨rfl, (below_one W' _).trans (hb.mono (below_one W' _).size)⟩
    have HIX : Hid (∀ (b0 : Nat) (W1 : World), Below w.heap.size w W1 → W1.cell? ⟨b0, 0, none⟩ = some (.int .i64 n) → b0 < W1.heap.size → Calls Tryz.prog 257 #[.slice Ar args.length cap, .func (.func 258) #[] #[.pointer (some ⟨b0, 0, none⟩)]] W1 fun e W' => e = .returned (.bool (!(ltL n args))) ∧ Below W1.heap.size W1 W') := by
      intro b0 W1 h1 hb0 hlt
      have HF := Lib.hid (indexFunc_any hr ha cap b0 hcap hm (fun j => if hj : j < args.length then !((args[j]).lt n) else false) W1 h1 (fun j hj W' h2 => by simp only [dif_pos hj]; exact HCLO.out b0 W1 h1 hb0 hlt j hj W' h2))
      have HLT : Hid (∀ z : Int, ((z = -1 ∧ ∀ j, j < args.length → (if hj : j < args.length then !((args[j]).lt n) else false) = false) ∨ (0 ≤ z ∧ ∃ j, j < args.length ∧ (if hj : j < args.length then !((args[j]).lt n) else false) = true)) → decide (0 ≤ z) = !(ltL n args)) := fun z hz => by
        rcases hz with ⟨rfl, h⟩ | ⟨h0, j, hj, h⟩
        · have : ltL n args = true := ltL_get.2 fun j hj => by have := h j hj; simpa [hj] using this
          rw [this]; rfl
        · have : ltL n args = false := by
            cases hb : ltL n args with
            | false => rfl
            | true => have := ltL_get.1 hb j hj; simp [hj, this] at h
          rw [this, decide_eq_true h0]; rfl
      generalize ltL n args = z0 at *
      clear ih ha hr HT1 HT2 HCLO
      go_enter Tryz.func257, Tryz.ntmps257
      go_wp2_with fail
      refine HF.out.mono ?_
      rintro e w3 ⟨z, rfl, hb, hz⟩
      have hd := HLT.out z hz
      clear hz HF HLT
      go_wp2_with fail
      go_ret
      exact ⟨rfl, hb⟩
    clear ih ha hr HCLO hk hv hs hn hW
    generalize (Tm.mk k v s nn args).lt n = tl at *
    generalize nn.neg = ng at *
    generalize nn.num.length = m1 at *
    generalize nn.den.length = m2 at *
    generalize ltL n args = zl at *
    generalize args.length = l at *
    have HBA := Lib.hid (below_pairC W (.cells #[.int .i64 k, .int .i64 v, .string s, .bool ng, .slice A1 m1 q1, .slice B1 m2 q2, .slice Ar l cap] 27) (.cells #[.int .i64 n] 3))
    have HBX := Lib.hid (Blk.new (W.alloc (.cells #[.int .i64 k, .int .i64 v, .string s, .bool ng, .slice A1 m1 q1, .slice B1 m2 q2, .slice Ar l cap] 27)) 3 #[.int .i64 n])
    by_cases h1 : k = 1
    · obtain rfl := HT1.out h1
      subst h1
      go_enter Tryz.func187, Tryz.ntmps187
      go_wp2_with fail
      go_ret
      exact ⟨rfl, HBA.out⟩
    · obtain rfl := HT2.out h1
      have hk1 : (k == 1) = false := beq_eq_false_iff_ne.2 h1
      go_enter Tryz.func187, Tryz.ntmps187
      go_wp2_with fail
      refine (HIX.out (W.heap.size + 1) _ (by exact HWB.out.trans (HBA.out.mono HWB.out.size)) (by simp) (by simp)).mono ?_
      rintro e w3 ⟨rfl, hb⟩
      go_wp2_with fail
      go_ret
      exact ⟨by simp, HBA.out.trans (hb.mono HBA.out.size)⟩
end Go.Proofs.YtkfnpcilanheiaaGreat

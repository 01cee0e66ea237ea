/- (*heap.Heap).Finite at the variable 1, behind both bindings. And 2 more texts. -/
import Derived.Deep.RegionHeld3
import Derived.BigQuiet
import Derived.Deep.QuietTactic
import Derived.Test.YtkfnpcilanheiaaGreatJo43
import Derived.Test.YtkfnpcilanheiaaGreatJo46
set_option linter.unusedVariables false
set_option linter.unusedSimpArgs false
set_option maxRecDepth 100000
namespace Go.Proofs.YtkfnpcilanheiaaGreat
open Go.RowKit NumB
theorem xs2_one {k v : Int} {s : ByteArray} {n : Bool} {A B X : Value} : ∀ (q : Nat) u, [Value.bool true, Value.int .i64 1, Value.int .i64 0, Value.string ⟨#[]⟩, Value.bool false, Value.slice none 0 0, Value.slice none 0 0, Value.slice none 0 0, Value.slice none 0 0][q]? = some u → (xs2 k v s n A B X)[1 * 9 + q]? = some u := fun q u hq => by
  match q, hq with
  | 0, hq => exact hq
  | 1, hq => exact hq
  | 2, hq => exact hq
  | 3, hq => exact hq
  | 4, hq => exact hq
  | 5, hq => exact hq
  | 6, hq => exact hq
  | 7, hq => exact hq
  | 8, hq => exact hq
  | q + 9, hq => simp at hq
theorem xs2_zero {k v : Int} {s : ByteArray} {n : Bool} {A B X : Value} : ∀ (q : Nat) u, [Value.bool true, Value.int .i64 k, Value.int .i64 v, Value.string s, Value.bool n, A, B, X, Value.slice none 0 0][q]? = some u → (xs2 k v s n A B X)[0 * 9 + q]? = some u := fun q u hq => by
  match q, hq with
  | 0, hq => exact hq
  | 1, hq => exact hq
  | 2, hq => exact hq
  | 3, hq => exact hq
  | 4, hq => exact hq
  | 5, hq => exact hq
  | 6, hq => exact hq
  | 7, hq => exact hq
  | 8, hq => exact hq
  | q + 9, hq => simp at hq
theorem finder_run (B h G c m : Nat) (tv : Value) (ys : List Value) (pk pv : Int) (ps : ByteArray) (pn : Bool) (pA : Option Addr) (pa pc : Nat) (pB : Option Addr) (pd pe : Nat) (pX : Option Addr) (pl pq : Nat) (h1 : pk ≠ 1) (h5 : pk ≠ 5) (w : World) (hS : HS w B h G c tv (xs2 pk pv ps pn (.slice pA pa pc) (.slice pB pd pe) (.slice pX pl pq)) m ys) :
    Calls Tryz.prog 188 #[.pointer (some ⟨h, 0, none⟩)] w fun e w1 => ∃ F, e = .returned (.pointer (some ⟨F, 0, none⟩)) ∧ Below w.heap.size w w1 ∧ Calls Tryz.prog 189 #[.pointer (some ⟨F, 0, none⟩), .agg #[.int .i64 1, .int .i64 1, .string ⟨#[]⟩, .bool false, .slice none 0 0, .slice none 0 0, .slice none 0 0]] w1 fun e w' => e = .returned (.bool true) ∧ Below w.heap.size w w' := by
  refine (newFinder_any h w).mono ?_
  rintro e w1 ⟨rfl, rfl⟩
  have hb : Below w.heap.size w (((w.alloc (.map #[] 0)).alloc (.map #[] 0)).alloc (.cells #[.pointer (some ⟨h, 0, none⟩), .map (some w.heap.size), .map (some (w.heap.size + 1))] 250)) := ((below_one w _).alloc (by simp) _).alloc (by simp; omega) _
  have hF : FS (((w.alloc (.map #[] 0)).alloc (.map #[] 0)).alloc (.cells #[.pointer (some ⟨h, 0, none⟩), .map (some w.heap.size), .map (some (w.heap.size + 1))] 250)) (w.heap.size + 2) h w.heap.size (w.heap.size + 1) := by
    have := Blk.new ((w.alloc (.map #[] 0)).alloc (.map #[] 0)) 250 #[.pointer (some ⟨h, 0, none⟩), .map (some w.heap.size), .map (some (w.heap.size + 1))]
    rw [show ((w.alloc (.map #[] 0)).alloc (.map #[] 0)).heap.size = w.heap.size + 2 by simp] at this
    exact this
  have hM : MapI (((w.alloc (.map #[] 0)).alloc (.map #[] 0)).alloc (.cells #[.pointer (some ⟨h, 0, none⟩), .map (some w.heap.size), .map (some (w.heap.size + 1))] 250)) w.heap.size 0 (fun _ => none) := by
    refine MapI.empty (c := 0) ?_
    rw [Lib.alloc_old _ _ _ (by simp; omega), Lib.alloc_old _ _ _ (by simp)]
    exact heap_alloc_new w _
  refine ⟨_, rfl, hb, ?_⟩
  refine (finite_bound B h G c m (w.heap.size + 2) w.heap.size (w.heap.size + 1) 0 tv _ ys (fun _ => none) 1 (by omega) 1 0 ⟨#[]⟩ false none 0 0 none 0 0 none 0 0 xs2_one _ (hS.below hb) hF hM rfl (fun W n' f' hS' hF' hM' hf' => ?_)).mono ?_
  · refine finite_bound B h G c m (w.heap.size + 2) w.heap.size (w.heap.size + 1) n' tv _ ys f' 0 (by omega) pk pv ps pn pA pa pc pB pd pe pX pl pq xs2_zero W hS' hF' hM' (hf' 0 (by decide)) (fun W2 n2 f2 hS2 hF2 hM2 hf2 => ?_)
    refine (finite_leaf ⟨w.heap.size + 2, 0, none⟩ pk pv ps pn pA pa pc pB pd pe pX pl pq h1 h5 W2).mono ?_
    rintro e W' ⟨rfl, hb'⟩
    exact ⟨rfl, ⟨n2, f2, hM2.keep (hb'.block _ (heap_lt hM2.is.choose_spec.choose_spec))⟩, Kept.of_below hb'⟩
  · rintro e w' ⟨rfl, _, hk⟩
    exact ⟨rfl, hb.trans (hk.below hb.size (fun k e => Nat.le_of_eq e.symm))⟩
set_option maxHeartbeats 6400000 in
theorem finiteH_any (B h G c m : Nat) (tv : Value) (ys : List Value) (pk pv : Int) (ps : ByteArray) (pn : Bool) (pA : Option Addr) (pa pc : Nat) (pB : Option Addr) (pd pe : Nat) (pX : Option Addr) (pl pq : Nat) (h1 : pk ≠ 1) (h5 : pk ≠ 5) (w : World) (hS : HS w B h G c tv (xs2 pk pv ps pn (.slice pA pa pc) (.slice pB pd pe) (.slice pX pl pq)) m ys) :
    Calls Tryz.prog 130 #[.pointer (some ⟨h, 0, none⟩), .agg #[.int .i64 1, .int .i64 1, .string ⟨#[]⟩, .bool false, .slice none 0 0, .slice none 0 0, .slice none 0 0]] w fun e w' => e = .returned (.bool true) ∧ Below w.heap.size w w' := by
  have hb1 : Below w.heap.size w (w.alloc (.cells #[.int .i64 1, .int .i64 1, .string ⟨#[]⟩, .bool false, .slice none 0 0, .slice none 0 0, .slice none 0 0] 27)).drew := (below_one w _).drew
  have hbt : Blk (w.alloc (.cells #[.int .i64 1, .int .i64 1, .string ⟨#[]⟩, .bool false, .slice none 0 0, .slice none 0 0, .slice none 0 0] 27)).drew w.heap.size 27 #[.int .i64 1, .int .i64 1, .string ⟨#[]⟩, .bool false, .slice none 0 0, .slice none 0 0, .slice none 0 0] := (Blk.new w _ _).drew
  have HNF : Hid (Calls Tryz.prog 188 #[.pointer (some ⟨h, 0, none⟩)] (w.alloc (.cells #[.int .i64 1, .int .i64 1, .string ⟨#[]⟩, .bool false, .slice none 0 0, .slice none 0 0, .slice none 0 0] 27)).drew fun e w1 => ∃ F, e = .returned (.pointer (some ⟨F, 0, none⟩)) ∧ Hid (Calls Tryz.prog 189 #[.pointer (some ⟨F, 0, none⟩), .agg #[.int .i64 1, .int .i64 1, .string ⟨#[]⟩, .bool false, .slice none 0 0, .slice none 0 0, .slice none 0 0]] w1 fun e w' => e = .returned (.bool true) ∧ Hid (Below w.heap.size w w') ∧ (w'.cell? ⟨w.heap.size, 0, none⟩ = some (.int .i64 1) ∧ w'.cell? ⟨w.heap.size, 1, none⟩ = some (.int .i64 1) ∧ w'.cell? ⟨w.heap.size, 2, none⟩ = some (.string ⟨#[]⟩) ∧ w'.cell? ⟨w.heap.size, 3, none⟩ = some (.bool false) ∧ w'.cell? ⟨w.heap.size, 4, none⟩ = some (.slice none 0 0) ∧ w'.cell? ⟨w.heap.size, 5, none⟩ = some (.slice none 0 0) ∧ w'.cell? ⟨w.heap.size, 6, none⟩ = some (.slice none 0 0))) ∧ (w1.cell? ⟨w.heap.size, 0, none⟩ = some (.int .i64 1) ∧ w1.cell? ⟨w.heap.size, 1, none⟩ = some (.int .i64 1) ∧ w1.cell? ⟨w.heap.size, 2, none⟩ = some (.string ⟨#[]⟩) ∧ w1.cell? ⟨w.heap.size, 3, none⟩ = some (.bool false) ∧ w1.cell? ⟨w.heap.size, 4, none⟩ = some (.slice none 0 0) ∧ w1.cell? ⟨w.heap.size, 5, none⟩ = some (.slice none 0 0) ∧ w1.cell? ⟨w.heap.size, 6, none⟩ = some (.slice none 0 0))) := by
    refine (finder_run B h G c m tv ys pk pv ps pn pA pa pc pB pd pe pX pl pq h1 h5 _ (hS.below hb1)).mono ?_
    rintro e w1 ⟨F, rfl, hb2, hc⟩
    have hbt2 := hbt.to hb2
    refine ⟨F, rfl, hc.mono ?_, hbt2.cell 0, hbt2.cell 1, hbt2.cell 2, hbt2.cell 3, hbt2.cell 4, hbt2.cell 5, hbt2.cell 6⟩
    rintro e w' ⟨rfl, hb3⟩
    have hbt3 := hbt.to hb3
    exact ⟨rfl, hb1.trans (hb3.mono hb1.size), hbt3.cell 0, hbt3.cell 1, hbt3.cell 2, hbt3.cell 3, hbt3.cell 4, hbt3.cell 5, hbt3.cell 6⟩
  have hS1 : (w.alloc (.cells #[.int .i64 1, .int .i64 1, .string ⟨#[]⟩, .bool false, .slice none 0 0, .slice none 0 0, .slice none 0 0] 27)).drew.cell? ⟨w.heap.size, 0, none⟩ = some (.int .i64 1) ∧ (w.alloc (.cells #[.int .i64 1, .int .i64 1, .string ⟨#[]⟩, .bool false, .slice none 0 0, .slice none 0 0, .slice none 0 0] 27)).drew.cell? ⟨w.heap.size, 1, none⟩ = some (.int .i64 1) ∧ (w.alloc (.cells #[.int .i64 1, .int .i64 1, .string ⟨#[]⟩, .bool false, .slice none 0 0, .slice none 0 0, .slice none 0 0] 27)).drew.cell? ⟨w.heap.size, 2, none⟩ = some (.string ⟨#[]⟩) ∧ (w.alloc (.cells #[.int .i64 1, .int .i64 1, .string ⟨#[]⟩, .bool false, .slice none 0 0, .slice none 0 0, .slice none 0 0] 27)).drew.cell? ⟨w.heap.size, 3, none⟩ = some (.bool false) ∧ (w.alloc (.cells #[.int .i64 1, .int .i64 1, .string ⟨#[]⟩, .bool false, .slice none 0 0, .slice none 0 0, .slice none 0 0] 27)).drew.cell? ⟨w.heap.size, 4, none⟩ = some (.slice none 0 0) ∧ (w.alloc (.cells #[.int .i64 1, .int .i64 1, .string ⟨#[]⟩, .bool false, .slice none 0 0, .slice none 0 0, .slice none 0 0] 27)).drew.cell? ⟨w.heap.size, 5, none⟩ = some (.slice none 0 0) ∧ (w.alloc (.cells #[.int .i64 1, .int .i64 1, .string ⟨#[]⟩, .bool false, .slice none 0 0, .slice none 0 0, .slice none 0 0] 27)).drew.cell? ⟨w.heap.size, 6, none⟩ = some (.slice none 0 0) := ⟨hbt.cell 0, hbt.cell 1, hbt.cell 2, hbt.cell 3, hbt.cell 4, hbt.cell 5, hbt.cell 6⟩
  clear hS h1 h5 hb1 hbt
  go_enter Tryz.func130, Tryz.ntmps130
  go_wp2_with fail
  go_region_held3 (fun w' => w'.cell? ⟨w.heap.size, 0, none⟩ = some (.int .i64 1) ∧ w'.cell? ⟨w.heap.size, 1, none⟩ = some (.int .i64 1) ∧ w'.cell? ⟨w.heap.size, 2, none⟩ = some (.string ⟨#[]⟩) ∧ w'.cell? ⟨w.heap.size, 3, none⟩ = some (.bool false) ∧ w'.cell? ⟨w.heap.size, 4, none⟩ = some (.slice none 0 0) ∧ w'.cell? ⟨w.heap.size, 5, none⟩ = some (.slice none 0 0) ∧ w'.cell? ⟨w.heap.size, 6, none⟩ = some (.slice none 0 0))
    (with_reducible assumption)
    (first
      | (go_at_call 188; (with_reducible refine HNF.out.mono ?_); rintro e y1 ⟨F, rfl, HC1, hS2⟩)
      | (go_at_call 189; (with_reducible refine HC1.out.mono ?_); rintro e y2 ⟨rfl, HB2, hS3⟩))
  go_wp2_with fail
  go_ret
  exact ⟨rfl, HB2.out⟩
theorem der_one (pk pv : Int) (ps : ByteArray) (pn : Bool) (pA : Option Addr) (pa pc : Nat) (pB : Option Addr) (pd pe : Nat) (pX : Option Addr) (pl pq : Nat) (h1 : pk ≠ 1) (h5 : pk ≠ 5) : Der (xs2 pk pv ps pn (.slice pA pa pc) (.slice pB pd pe) (.slice pX pl pq)) 2 [Value.int .i64 1, Value.int .i64 1, Value.string ⟨#[]⟩, Value.bool false, Value.slice none 0 0, Value.slice none 0 0, Value.slice none 0 0] [Value.int .i64 pk, Value.int .i64 pv, Value.string ps, Value.bool pn, Value.slice pA pa pc, Value.slice pB pd pe, Value.slice pX pl pq] :=
  .step 1 1 1 1 ⟨#[]⟩ false none 0 0 none 0 0 none 0 0 1 0 ⟨#[]⟩ false none 0 0 none 0 0 none 0 0 _ rfl rfl (by omega) rfl (fun q u hq => by
    match q, hq with
    | 0, hq => exact hq
    | 1, hq => exact hq
    | 2, hq => exact hq
    | 3, hq => exact hq
    | 4, hq => exact hq
    | 5, hq => exact hq
    | 6, hq => exact hq
    | q + 7, hq => simp at hq)
    (.step 0 0 1 0 ⟨#[]⟩ false none 0 0 none 0 0 none 0 0 pk pv ps pn pA pa pc pB pd pe pX pl pq _ rfl rfl (by omega) rfl (fun q u hq => by
      match q, hq with
      | 0, hq => exact hq
      | 1, hq => exact hq
      | 2, hq => exact hq
      | 3, hq => exact hq
      | 4, hq => exact hq
      | 5, hq => exact hq
      | 6, hq => exact hq
      | q + 7, hq => simp at hq)
      (.other pk pv ps pn pA pa pc pB pd pe pX pl pq h1))
set_option maxHeartbeats 6400000 in
theorem treeH_any (B h G c m : Nat) (tv : Value) (ys : List Value) (pk pv : Int) (ps : ByteArray) (pn : Bool) (pA : Option Addr) (pa pc : Nat) (pB : Option Addr) (pd pe : Nat) (pX : Option Addr) (pl pq : Nat) (h1 : pk ≠ 1) (h5 : pk ≠ 5) (w : World) (hS : HS w B h G c tv (xs2 pk pv ps pn (.slice pA pa pc) (.slice pB pd pe) (.slice pX pl pq)) m ys) :
    Calls Tryz.prog 71 #[.pointer (some ⟨h, 0, none⟩), .agg #[.int .i64 1, .int .i64 1, .string ⟨#[]⟩, .bool false, .slice none 0 0, .slice none 0 0, .slice none 0 0]] w fun e w' => e = .returned (.agg #[.int .i64 pk, .int .i64 pv, .string ps, .bool pn, .slice pA pa pc, .slice pB pd pe, .slice pX pl pq]) ∧ Below w.heap.size w w' := by
  have HD : Hid (∀ W, Below w.heap.size w W → Calls Tryz.prog 114 #[.pointer (some ⟨h, 0, none⟩), .agg #[.int .i64 1, .int .i64 1, .string ⟨#[]⟩, .bool false, .slice none 0 0, .slice none 0 0, .slice none 0 0]] W fun e w' => e = .returned (.agg #[.int .i64 pk, .int .i64 pv, .string ps, .bool pn, .slice pA pa pc, .slice pB pd pe, .slice pX pl pq]) ∧ Hid (Below W.heap.size W w')) := fun W hW =>
    deref_any B h G c m tv _ ys 2 1 1 ⟨#[]⟩ false none 0 0 none 0 0 none 0 0 pk pv ps pn pA pa pc pB pd pe pX pl pq W (der_one pk pv ps pn pA pa pc pB pd pe pX pl pq h1 h5) (hS.below hW)
  have k5 : (pk == 5) = false := beq_eq_false_iff_ne.2 h5
  clear hS h1 h5
  go_enter Tryz.func71, Tryz.ntmps71
  go_wp2_with fail
  have hbw := below_pair w (.cells #[.int .i64 1, .int .i64 1, .string ⟨#[]⟩, .bool false, .slice none 0 0, .slice none 0 0, .slice none 0 0] 27) (.cells #[.int .i64 0, .int .i64 0, .string ⟨#[]⟩, .bool false, .slice none 0 0, .slice none 0 0, .slice none 0 0] 27)
  have hbt : Blk ((w.alloc (.cells #[.int .i64 1, .int .i64 1, .string ⟨#[]⟩, .bool false, .slice none 0 0, .slice none 0 0, .slice none 0 0] 27)).alloc (.cells #[.int .i64 0, .int .i64 0, .string ⟨#[]⟩, .bool false, .slice none 0 0, .slice none 0 0, .slice none 0 0] 27)) w.heap.size 27 #[.int .i64 1, .int .i64 1, .string ⟨#[]⟩, .bool false, .slice none 0 0, .slice none 0 0, .slice none 0 0] := (Blk.new w _ _).alloc _
  have hbr : Blk ((w.alloc (.cells #[.int .i64 1, .int .i64 1, .string ⟨#[]⟩, .bool false, .slice none 0 0, .slice none 0 0, .slice none 0 0] 27)).alloc (.cells #[.int .i64 0, .int .i64 0, .string ⟨#[]⟩, .bool false, .slice none 0 0, .slice none 0 0, .slice none 0 0] 27)) (w.heap.size + 1) 27 #[.int .i64 0, .int .i64 0, .string ⟨#[]⟩, .bool false, .slice none 0 0, .slice none 0 0, .slice none 0 0] := by
    have := Blk.new (w.alloc (.cells #[.int .i64 1, .int .i64 1, .string ⟨#[]⟩, .bool false, .slice none 0 0, .slice none 0 0, .slice none 0 0] 27)) 27 #[.int .i64 0, .int .i64 0, .string ⟨#[]⟩, .bool false, .slice none 0 0, .slice none 0 0, .slice none 0 0]
    rw [show (w.alloc (.cells #[.int .i64 1, .int .i64 1, .string ⟨#[]⟩, .bool false, .slice none 0 0, .slice none 0 0, .slice none 0 0] 27)).heap.size = w.heap.size + 1 by simp] at this
    exact this
  refine (HD.out _ hbw).mono ?_
  rintro e w1 ⟨rfl, hb⟩
  have HW1 : Hid (Below w.heap.size w w1) := hbw.trans (hb.out.mono hbw.size)
  have hbt1 := hbt.to hb.out
  have hbr1 := hbr.to hb.out
  have HT := Lib.hid hbt1
  have HR := Lib.hid hbr1
  have t0 := HT.out.cell 0
  have t1 := HT.out.cell 1
  have t2 := HT.out.cell 2
  have t3 := HT.out.cell 3
  have t4 := HT.out.cell 4
  have t5 := HT.out.cell 5
  have t6 := HT.out.cell 6
  have y0 := HT.out.frozen 0
  have y1 := HT.out.frozen 1
  have y2 := HT.out.frozen 2
  have y3 := HT.out.frozen 3
  have y4 := HT.out.frozen 4
  have y5 := HT.out.frozen 5
  have y6 := HT.out.frozen 6
  have r0 := HR.out.cell 0
  have r1 := HR.out.cell 1
  have r2 := HR.out.cell 2
  have r3 := HR.out.cell 3
  have r4 := HR.out.cell 4
  have r5 := HR.out.cell 5
  have r6 := HR.out.cell 6
  have z0 := HR.out.frozen 0
  have z1 := HR.out.frozen 1
  have z2 := HR.out.frozen 2
  have z3 := HR.out.frozen 3
  have z4 := HR.out.frozen 4
  have z5 := HR.out.frozen 5
  have z6 := HR.out.frozen 6
  simp only [List.getElem?_toArray, List.getElem?_cons_zero, List.getElem?_cons_succ] at t0 t1 t2 t3 t4 t5 t6 r0 r1 r2 r3 r4 r5 r6
  clear hbt hbr hbt1 hbr1 hb hbw HD
  go_wp2_with fail
  refine bodyPost_ret (v := .agg #[.int .i64 pk, .int .i64 pv, .string ps, .bool pn, .slice pA pa pc, .slice pB pd pe, .slice pX pl pq]) (by rw [results_cellT rfl]; go_simp) rfl ?_
  refine ⟨rfl, ?_⟩
  exact ((((((((((((((HW1.out.setCell (p := ⟨w.heap.size, 0, none⟩) (by simp) _).setCell (p := ⟨w.heap.size, 1, none⟩) (by simp) _).setCell (p := ⟨w.heap.size, 2, none⟩) (by simp) _).setCell (p := ⟨w.heap.size, 3, none⟩) (by simp) _).setCell (p := ⟨w.heap.size, 4, none⟩) (by simp) _).setCell (p := ⟨w.heap.size, 5, none⟩) (by simp) _).setCell (p := ⟨w.heap.size, 6, none⟩) (by simp) _).setCell (p := ⟨w.heap.size + 1, 0, none⟩) (by simp) _).setCell (p := ⟨w.heap.size + 1, 1, none⟩) (by simp) _).setCell (p := ⟨w.heap.size + 1, 2, none⟩) (by simp) _).setCell (p := ⟨w.heap.size + 1, 3, none⟩) (by simp) _).setCell (p := ⟨w.heap.size + 1, 4, none⟩) (by simp) _).setCell (p := ⟨w.heap.size + 1, 5, none⟩) (by simp) _).setCell (p := ⟨w.heap.size + 1, 6, none⟩) (by simp) _)
set_option maxHeartbeats 6400000 in
theorem sizeC_leaf (b1 b2 b3 b4 b5 : Nat) (k v : Int) (s : ByteArray) (n : Bool) (A : Option Addr) (na nc : Nat) (C : Option Addr) (nd ne : Nat) (X : Option Addr) (nl nz : Nat) (h1 : k ≠ 1) (h5 : k ≠ 5) (w : World) :
    Calls Tryz.prog 117 #[.agg #[.int .i64 k, .int .i64 v, .string s, .bool n, .slice A na nc, .slice C nd ne, .slice X nl nz], .pointer (some ⟨b1, 0, none⟩), .pointer (some ⟨b2, 0, none⟩), .pointer (some ⟨b3, 0, none⟩), .pointer (some ⟨b4, 0, none⟩), .pointer (some ⟨b5, 0, none⟩)] w fun e w' => e = .returned (.int .i64 1) ∧ Below w.heap.size w w' := by
  have k1 : (k == 1) = false := beq_eq_false_iff_ne.2 h1
  have k5 : (k == 5) = false := beq_eq_false_iff_ne.2 h5
  have k15 : (k == 1 && false) = false := by simp
  have HB1 := Lib.hid (below_one w (.cells #[.int .i64 k, .int .i64 v, .string s, .bool n, .slice A na nc, .slice C nd ne, .slice X nl nz] 27))
  have HBT := Lib.hid (Blk.new w 27 #[.int .i64 k, .int .i64 v, .string s, .bool n, .slice A na nc, .slice C nd ne, .slice X nl nz])
  clear h1 h5
  go_enter Tryz.func117, Tryz.ntmps117
  go_wp2_with fail
  go_quiet (fail)
  generalize hy0 : World.drewN _ _ = y0
  have HY : Hid (Below w.heap.size w y0) := by rw [← hy0]; exact below_drewN HB1.out _
  have HTY : Hid (Blk y0 w.heap.size 27 #[.int .i64 k, .int .i64 v, .string s, .bool n, .slice A na nc, .slice C nd ne, .slice X nl nz]) := by rw [← hy0]; exact HBT.out
  clear hy0 HB1 HBT
  have t0 := HTY.out.cell 0
  simp only [List.getElem?_toArray, List.getElem?_cons_zero, List.getElem?_cons_succ] at t0
  go_wp2_with fail
  go_ret
  exact ⟨rfl, HY.out⟩
structure ZB (B h G c m : Nat) (tv : Value) (xs ys : List Value) (b1 b2 b3 b4 b5 ms : Nat) (w W : World) : Prop where
  h1 : ∃ T, Blk W b1 T #[.pointer (some ⟨h, 0, none⟩)]
  h2 : ∃ T, Blk W b2 T #[.map (some ms)]
  h3 : ∃ T, Blk W b3 T #[.func (.func 117) #[] #[.pointer (some ⟨b1, 0, none⟩), .pointer (some ⟨b2, 0, none⟩), .pointer (some ⟨b3, 0, none⟩), .pointer (some ⟨b4, 0, none⟩), .pointer (some ⟨b5, 0, none⟩)]]
  s : HS W B h G c tv xs m ys
  k : Kept (fun k => k = ms) w W
theorem ZB.below {B h G c m : Nat} {tv : Value} {xs ys : List Value} {b1 b2 b3 b4 b5 ms : Nat} {w W W' : World} (g : ZB B h G c m tv xs ys b1 b2 b3 b4 b5 ms w W) (hb : Below W.heap.size W W') : ZB B h G c m tv xs ys b1 b2 b3 b4 b5 ms w W' :=
  ⟨g.h1.imp fun T h => h.to hb, g.h2.imp fun T h => h.to hb, g.h3.imp fun T h => h.to hb, g.s.below hb, g.k.trans (Kept.of_below hb)⟩
theorem ZB.next {B h G c m : Nat} {tv : Value} {xs ys : List Value} {b1 b2 b3 b4 b5 ms : Nat} {w W W' : World} {n : Nat} {f : Int → Option Value} (g : ZB B h G c m tv xs ys b1 b2 b3 b4 b5 ms w W) (hM : MapI W ms n f) (hk : Kept (fun k => k = ms) W W') : ZB B h G c m tv xs ys b1 b2 b3 b4 b5 ms w W' := by
  have hp : ∀ k, (fun k => k = ms) k → ∃ es c, W.heap[k]? = some (.map es c) := fun k e => by
    have e : k = ms := e
    rw [e]; exact hM.is
  exact ⟨g.h1.imp fun T h => hk.blk h (h.notmap hp), g.h2.imp fun T h => hk.blk h (h.notmap hp), g.h3.imp fun T h => hk.blk h (h.notmap hp), g.s.kept hk hp, g.k.trans hk⟩
theorem ZB.c1 {B h G c m : Nat} {tv : Value} {xs ys : List Value} {b1 b2 b3 b4 b5 ms : Nat} {w W : World} (g : ZB B h G c m tv xs ys b1 b2 b3 b4 b5 ms w W) : W.cell? ⟨b1, 0, none⟩ = some (.pointer (some ⟨h, 0, none⟩)) := by obtain ⟨T, h⟩ := g.h1; exact h.cell 0
theorem ZB.c2 {B h G c m : Nat} {tv : Value} {xs ys : List Value} {b1 b2 b3 b4 b5 ms : Nat} {w W : World} (g : ZB B h G c m tv xs ys b1 b2 b3 b4 b5 ms w W) : W.cell? ⟨b2, 0, none⟩ = some (.map (some ms)) := by obtain ⟨T, h⟩ := g.h2; exact h.cell 0
theorem ZB.c3 {B h G c m : Nat} {tv : Value} {xs ys : List Value} {b1 b2 b3 b4 b5 ms : Nat} {w W : World} (g : ZB B h G c m tv xs ys b1 b2 b3 b4 b5 ms w W) : W.cell? ⟨b3, 0, none⟩ = some (.func (.func 117) #[] #[.pointer (some ⟨b1, 0, none⟩), .pointer (some ⟨b2, 0, none⟩), .pointer (some ⟨b3, 0, none⟩), .pointer (some ⟨b4, 0, none⟩), .pointer (some ⟨b5, 0, none⟩)]) := by obtain ⟨T, h⟩ := g.h3; exact h.cell 0
set_option maxHeartbeats 6400000 in
theorem sizeC_bound (B h G c m b1 b2 b3 b4 b5 ms n : Nat) (tv : Value) (xs ys : List Value) (f : Int → Option Value) (i : Nat) (hi : i < 2) (pk pv : Int) (ps : ByteArray) (pn : Bool) (pA : Option Addr) (pa pc : Nat) (pB : Option Addr) (pd pe : Nat) (pX : Option Addr) (pl pq : Nat)
    (hx : ∀ q u, [Value.bool true, Value.int .i64 pk, Value.int .i64 pv, Value.string ps, Value.bool pn, Value.slice pA pa pc, Value.slice pB pd pe, Value.slice pX pl pq, Value.slice none 0 0][q]? = some u → xs[i * 9 + q]? = some u)
    (w : World) (hZ : ZB B h G c m tv xs ys b1 b2 b3 b4 b5 ms w w) (hM : MapI w ms n f) (hf : f (i : Int) = none)
    (hc : ∀ W, ZB B h G c m tv xs ys b1 b2 b3 b4 b5 ms w W → MapI W ms n f → Calls Tryz.prog 117 #[.agg #[.int .i64 pk, .int .i64 pv, .string ps, .bool pn, .slice pA pa pc, .slice pB pd pe, .slice pX pl pq], .pointer (some ⟨b1, 0, none⟩), .pointer (some ⟨b2, 0, none⟩), .pointer (some ⟨b3, 0, none⟩), .pointer (some ⟨b4, 0, none⟩), .pointer (some ⟨b5, 0, none⟩)] W fun e W' => e = .returned (.int .i64 1) ∧ (∃ n'' f'', MapI W' ms n'' f'') ∧ Kept (fun k => k = ms) W W') :
    Calls Tryz.prog 117 #[.agg #[.int .i64 1, .int .i64 (i : Int), .string ⟨#[]⟩, .bool false, .slice none 0 0, .slice none 0 0, .slice none 0 0], .pointer (some ⟨b1, 0, none⟩), .pointer (some ⟨b2, 0, none⟩), .pointer (some ⟨b3, 0, none⟩), .pointer (some ⟨b4, 0, none⟩), .pointer (some ⟨b5, 0, none⟩)] w fun e w' => e = .returned (.int .i64 1) ∧ (∃ n'' f'', MapI w' ms n'' f'') ∧ Kept (fun k => k = ms) w w' := by
  have HZ0 := Lib.hid hZ
  have HM0 := Lib.hid hM
  have HC := Lib.hid hc
  have HX := Lib.hid hx
  have HFI := Lib.hid hf
  have HBT := Lib.hid (Blk.new w 27 #[.int .i64 1, .int .i64 (i : Int), .string ⟨#[]⟩, .bool false, .slice none 0 0, .slice none 0 0, .slice none 0 0])
  have HW1 : Hid (Below w.heap.size w (w.alloc (.cells #[.int .i64 1, .int .i64 (i : Int), .string ⟨#[]⟩, .bool false, .slice none 0 0, .slice none 0 0, .slice none 0 0] 27))) := below_one w _
  have hi1 : (0 : Int) ≤ (i : Int) := by omega
  have hi2 : (i : Int) < ((2 : Nat) : Int) := by omega
  have hi3 : (i : Int) < 2 := by omega
  have HZ1 := Lib.hid (HZ0.out.below HW1.out)
  have c1 := HZ1.out.c1
  have b0 := HZ1.out.s.blk.cell 0
  have g0 := HZ1.out.s.cell (HX.out 0 _ rfl)
  simp only [List.getElem?_toArray, List.getElem?_cons_zero, List.getElem?_cons_succ, Nat.add_zero] at b0 g0
  clear hZ hM hc hx hf
  go_enter Tryz.func117, Tryz.ntmps117
  go_wp2_with fail
  go_quiet (fail)
  generalize hy0 : World.drewN _ _ = y0
  have HY : Hid (Below w.heap.size w y0) := by rw [← hy0]; exact below_drewN HW1.out _
  have HTY : Hid (Blk y0 w.heap.size 27 #[.int .i64 1, .int .i64 (i : Int), .string ⟨#[]⟩, .bool false, .slice none 0 0, .slice none 0 0, .slice none 0 0]) := by rw [← hy0]; exact HBT.out
  clear hy0 c1 b0 g0 HBT HZ1 HW1
  have HZ1 := Lib.hid (HZ0.out.below HY.out)
  have HM1 : Hid (MapI y0 ms n f) := HM0.out.keep (HY.out.block _ (heap_lt HM0.out.is.choose_spec.choose_spec))
  have c2 := HZ1.out.c2
  have t1 := HTY.out.cell 1
  simp only [List.getElem?_toArray, List.getElem?_cons_zero, List.getElem?_cons_succ] at t1
  have l1 := (mapI_look (w := y0) (et := 3) (mt := 97) (by kernel_rfl) (z := .int .i64 0) (Tryz.zeroValue3 y0) HM1.out (i : Int)).1
  rw [HFI.out] at l1
  simp only [Option.getD_none, Option.isSome_none] at l1
  go_wp2_with fail
  clear l1 c2 t1
  have hZd : ZB B h G c m tv xs ys b1 b2 b3 b4 b5 ms w y0.drew := HZ1.out.below (Below.refl _ _).drew
  have hr1 : y0.drew.cell? ⟨b3, 0, none⟩ = some (.func (.func 117) #[] #[.pointer (some ⟨b1, 0, none⟩), .pointer (some ⟨b2, 0, none⟩), .pointer (some ⟨b3, 0, none⟩), .pointer (some ⟨b4, 0, none⟩), .pointer (some ⟨b5, 0, none⟩)]) ∧ y0.drew.cell? ⟨b1, 0, none⟩ = some (.pointer (some ⟨h, 0, none⟩)) ∧ y0.drew.cell? ⟨h, 0, none⟩ = some (.slice (some ⟨G, 0, none⟩) 2 c) ∧ y0.drew.cell? ⟨w.heap.size, 1, none⟩ = some (.int .i64 (i : Int)) ∧ y0.drew.cell? ⟨G, i * 9 + 1, none⟩ = some (.int .i64 pk) ∧ y0.drew.cell? ⟨G, i * 9 + 2, none⟩ = some (.int .i64 pv) ∧ y0.drew.cell? ⟨G, i * 9 + 3, none⟩ = some (.string ps) ∧ y0.drew.cell? ⟨G, i * 9 + 4, none⟩ = some (.bool pn) ∧ y0.drew.cell? ⟨G, i * 9 + 5, none⟩ = some (.slice pA pa pc) ∧ y0.drew.cell? ⟨G, i * 9 + 6, none⟩ = some (.slice pB pd pe) ∧ y0.drew.cell? ⟨G, i * 9 + 7, none⟩ = some (.slice pX pl pq) := ⟨hZd.c3, hZd.c1, hZd.s.blk.cell 0, HTY.out.drew.cell 1, hZd.s.cell (HX.out 1 _ rfl), hZd.s.cell (HX.out 2 _ rfl), hZd.s.cell (HX.out 3 _ rfl), hZd.s.cell (HX.out 4 _ rfl), hZd.s.cell (HX.out 5 _ rfl), hZd.s.cell (HX.out 6 _ rfl), hZd.s.cell (HX.out 7 _ rfl)⟩
  have HCL : Hid (Calls Tryz.prog 117 #[.agg #[.int .i64 pk, .int .i64 pv, .string ps, .bool pn, .slice pA pa pc, .slice pB pd pe, .slice pX pl pq], .pointer (some ⟨b1, 0, none⟩), .pointer (some ⟨b2, 0, none⟩), .pointer (some ⟨b3, 0, none⟩), .pointer (some ⟨b4, 0, none⟩), .pointer (some ⟨b5, 0, none⟩)] y0.drew fun e W' => e = .returned (.int .i64 1) ∧ Hid (∃ n'' f'', MapI W' ms n'' f'' ∧ ZB B h G c m tv xs ys b1 b2 b3 b4 b5 ms w W' ∧ Blk W' w.heap.size 27 #[.int .i64 1, .int .i64 (i : Int), .string ⟨#[]⟩, .bool false, .slice none 0 0, .slice none 0 0, .slice none 0 0]) ∧ (W'.cell? ⟨b3, 0, none⟩ = some (.func (.func 117) #[] #[.pointer (some ⟨b1, 0, none⟩), .pointer (some ⟨b2, 0, none⟩), .pointer (some ⟨b3, 0, none⟩), .pointer (some ⟨b4, 0, none⟩), .pointer (some ⟨b5, 0, none⟩)]) ∧ W'.cell? ⟨b1, 0, none⟩ = some (.pointer (some ⟨h, 0, none⟩)) ∧ W'.cell? ⟨h, 0, none⟩ = some (.slice (some ⟨G, 0, none⟩) 2 c) ∧ W'.cell? ⟨w.heap.size, 1, none⟩ = some (.int .i64 (i : Int)) ∧ W'.cell? ⟨G, i * 9 + 1, none⟩ = some (.int .i64 pk) ∧ W'.cell? ⟨G, i * 9 + 2, none⟩ = some (.int .i64 pv) ∧ W'.cell? ⟨G, i * 9 + 3, none⟩ = some (.string ps) ∧ W'.cell? ⟨G, i * 9 + 4, none⟩ = some (.bool pn) ∧ W'.cell? ⟨G, i * 9 + 5, none⟩ = some (.slice pA pa pc) ∧ W'.cell? ⟨G, i * 9 + 6, none⟩ = some (.slice pB pd pe) ∧ W'.cell? ⟨G, i * 9 + 7, none⟩ = some (.slice pX pl pq))) := by
    have hMd := HM1.out.keep (w' := y0.drew) rfl
    refine (HC.out y0.drew hZd hMd).mono ?_
    rintro e W' ⟨rfl, ⟨n2, f2, hM2⟩, hk2⟩
    have g := hZd.next hMd hk2
    have t := hk2.blk HTY.out.drew (HTY.out.drew.notmap (fun k e => by
      have e : k = ms := e
      rw [e]; exact hMd.is))
    exact ⟨rfl, ⟨n2, f2, hM2, g, t⟩, ⟨g.c3, g.c1, g.s.blk.cell 0, t.cell 1, g.s.cell (HX.out 1 _ rfl), g.s.cell (HX.out 2 _ rfl), g.s.cell (HX.out 3 _ rfl), g.s.cell (HX.out 4 _ rfl), g.s.cell (HX.out 5 _ rfl), g.s.cell (HX.out 6 _ rfl), g.s.cell (HX.out 7 _ rfl)⟩⟩
  clear hZd
  go_region_held3 (fun w' => w'.cell? ⟨b3, 0, none⟩ = some (.func (.func 117) #[] #[.pointer (some ⟨b1, 0, none⟩), .pointer (some ⟨b2, 0, none⟩), .pointer (some ⟨b3, 0, none⟩), .pointer (some ⟨b4, 0, none⟩), .pointer (some ⟨b5, 0, none⟩)]) ∧ w'.cell? ⟨b1, 0, none⟩ = some (.pointer (some ⟨h, 0, none⟩)) ∧ w'.cell? ⟨h, 0, none⟩ = some (.slice (some ⟨G, 0, none⟩) 2 c) ∧ w'.cell? ⟨w.heap.size, 1, none⟩ = some (.int .i64 (i : Int)) ∧ w'.cell? ⟨G, i * 9 + 1, none⟩ = some (.int .i64 pk) ∧ w'.cell? ⟨G, i * 9 + 2, none⟩ = some (.int .i64 pv) ∧ w'.cell? ⟨G, i * 9 + 3, none⟩ = some (.string ps) ∧ w'.cell? ⟨G, i * 9 + 4, none⟩ = some (.bool pn) ∧ w'.cell? ⟨G, i * 9 + 5, none⟩ = some (.slice pA pa pc) ∧ w'.cell? ⟨G, i * 9 + 6, none⟩ = some (.slice pB pd pe) ∧ w'.cell? ⟨G, i * 9 + 7, none⟩ = some (.slice pX pl pq))
    (with_reducible assumption)
    (first
      | (go_at_call 117; (with_reducible refine HCL.out.mono ?_); rintro e y2 ⟨rfl, HG2, hr2⟩))
  clear HCL hr1 hr2 HM1 HZ1 HTY HY
  obtain ⟨n2, f2, hM2, hZ2, hT2⟩ := HG2.out
  have HM2 := Lib.hid hM2
  have HZ2 := Lib.hid hZ2
  have HT2 := Lib.hid hT2
  clear hM2 hZ2 hT2 HG2
  have c2 := HZ2.out.c2
  have t1 := HT2.out.cell 1
  simp only [List.getElem?_toArray, List.getElem?_cons_zero, List.getElem?_cons_succ] at t1
  obtain ⟨z, hz, hMz, hKz⟩ := mapI_put (w := y2) (et := 3) (mt := 97) (by kernel_rfl) HM2.out (i : Int) (.int .i64 1)
  have HMz := Lib.hid hMz
  have HKz := Lib.hid (HZ2.out.k.trans hKz)
  clear hMz hKz
  go_wp2_with fail
  go_ret
  exact ⟨rfl, ⟨_, _, HMz.out⟩, HKz.out⟩
end Go.Proofs.YtkfnpcilanheiaaGreat

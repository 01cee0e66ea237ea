/- (*term.Store).Resolve at the variable 1, bound to a term without arguments. -/
import Derived.Test.YtkfnpcilanheiaaGreatJo10
import Derived.Test.YtkfnpcilanheiaaGreatJo48
import Derived.Test.YtkfnpcilanheiaaGreatJo49
set_option linter.unusedVariables false
set_option linter.unusedSimpArgs false
set_option maxRecDepth 100000
namespace Go.Proofs.YtkfnpcilanheiaaGreat
open Go.RowKit NumB
def Tm.v (n : Int) : Tm := .mk 1 n ⟨#[]⟩ ⟨false, [], []⟩ []
theorem sl_nil (w : World) : Sl .u32 w (.slice none 0 0) [] := ⟨none, 0, rfl, Nat.le_refl _, by decide, rfl, fun h => absurd h (by simp)⟩
theorem Sl.form {k : IntKind} {w : World} {v : Value} {xs : List Nat} (h : Sl k w v xs) : ∃ A n c, v = .slice A n c := by
  obtain ⟨A, c, e, _⟩ := h
  exact ⟨A, _, c, e⟩
theorem TC.seven {w : World} {k v : Int} {s : ByteArray} {n : LN} {args : List Tm} {cs : List Value} (h : TC w (.mk k v s n args) cs) : ∃ (cn : Bool) (cA : Option Addr) (ca cc : Nat) (cB : Option Addr) (cd ce : Nat) (cX : Option Addr) (cl cq : Nat), cs = [Value.int .i64 k, Value.int .i64 v, Value.string s, Value.bool cn, Value.slice cA ca cc, Value.slice cB cd ce, Value.slice cX cl cq] := by
  cases h with
  | mk k v s n args A B Ar cap cs hk hv hs hA hB hn hcap hm hr ha =>
    obtain ⟨A1, n1, c1, rfl⟩ := hA.form
    obtain ⟨A2, n2, c2, rfl⟩ := hB.form
    exact ⟨_, _, _, _, _, _, _, _, _, _, rfl⟩
theorem ok_nil : Ok W32 [] := by intro x hx; cases hx
theorem tc_v (w : World) (n : Int) (hn : i64ok n) : TC w (Tm.v n) (vt n) :=
  .mk 1 n ⟨#[]⟩ ⟨false, [], []⟩ [] (.slice none 0 0) (.slice none 0 0) none 0 (fun _ => []) ⟨by decide, by decide⟩ hn (by decide) (sl_nil w) (sl_nil w) ⟨ok_nil, ok_nil⟩ (Nat.le_refl _) (by decide) (fun h => by simp at h) (fun i h => by simp at h)
theorem tmv_ok : (Tm.v 1).check = 0 ∧ (Tm.v 1).lt ((2 : Nat) : Int) = true := by
  refine ⟨?_, by simp [Tm.v, Tm.lt]⟩
  have h1 : (Tm.v 1).count = 1 := by simp [Tm.v, Tm.count, countL]
  have h2 : (Tm.v 1).err0 = 0 := by simp [Tm.v, Tm.err0, errL, nodeE, zeroB]
  unfold Tm.check
  rw [h1, h2]; rfl
set_option maxHeartbeats 6400000 in
theorem resolve_any (B g h G c m : Nat) (tv : Value) (ys : List Value) (pk pv : Int) (ps : ByteArray) (pn : Bool) (pA : Option Addr) (pa pc : Nat) (pB : Option Addr) (pd pe : Nat) (pX : Option Addr) (pl pq : Nat) (h1 : pk ≠ 1) (h5 : pk ≠ 5) (k v : Int) (s : ByteArray) (nn : LN) (args : List Tm) (w : World) (hs : Blk w g 115 #[.pointer (some ⟨h, 0, none⟩)]) (hS : HS w B h G c tv (xs2 pk pv ps pn (.slice pA pa pc) (.slice pB pd pe) (.slice pX pl pq)) m ys) (ht : TC w (.mk k v s nn args) [Value.int .i64 pk, Value.int .i64 pv, Value.string ps, Value.bool pn, Value.slice pA pa pc, Value.slice pB pd pe, Value.slice pX pl pq]) (hsm : (Tm.mk k v s nn args).sm) :
    Calls Tryz.prog 46 #[.pointer (some ⟨g, 0, none⟩), .agg #[.int .i64 1, .int .i64 1, .string ⟨#[]⟩, .bool false, .slice none 0 0, .slice none 0 0, .slice none 0 0]] w fun e w' => (∃ (cn : Bool) (cA : Option Addr) (ca cc : Nat) (cB : Option Addr) (cd ce : Nat) (cX : Option Addr) (cl cq : Nat), e = .returned (.tuple #[.agg #[.int .i64 k, .int .i64 v, .string s, .bool cn, .slice cA ca cc, .slice cB cd ce, .slice cX cl cq], .int .i64 0])) ∧ Below w.heap.size w w' := by
  have HKN : Hid (∀ (W : World) (b : Nat) (c' : Nat), Below w.heap.size w W → Blk W b 27 #[.int .i64 1, .int .i64 1, .string ⟨#[]⟩, .bool false, .slice none 0 0, .slice none 0 0, .slice none 0 0] → Calls Tryz.prog 84 #[.pointer (some ⟨g, 0, none⟩), .slice (some ⟨b, 0, none⟩) 1 1] W fun e W' => e = .returned (.int .i64 0) ∧ Hid (Below W.heap.size W W')) := fun W b c' hW hb => by
    have hSW := hS.below hW
    refine known_ok g h (some ⟨G, 0, none⟩) 2 c tv B (xs2 pk pv ps pn (.slice pA pa pc) (.slice pB pd pe) (.slice pX pl pq)) (w := W) (args := [Tm.v 1]) (Ar := some ⟨b, 0, none⟩) (cs := fun _ => vt 1) (fun _ => ⟨b, 0, rfl, hb.lt, fun i hi j hj => ?_⟩) (fun i hi => ?_) 1 (Nat.le_refl _) (by decide) (fun i hi => ?_) W (Below.refl _ _) (hs.to hW) ⟨hSW.blk, hSW.le, hSW.row⟩
    · obtain rfl : i = 0 := by simpa using hi
      rw [Nat.zero_mul, Nat.add_zero, Nat.zero_add, hb.cell j]
      simp [vt]
    · obtain rfl : i = 0 := by simpa using hi
      exact tc_v W 1 ⟨by decide, by decide⟩
    · obtain rfl : i = 0 := by simpa using hi
      exact tmv_ok
  have HRS : Hid (∀ W, Below w.heap.size w W → Calls Tryz.prog 85 #[.pointer (some ⟨h, 0, none⟩), .agg #[.int .i64 1, .int .i64 1, .string ⟨#[]⟩, .bool false, .slice none 0 0, .slice none 0 0, .slice none 0 0], .int .i64 10000] W fun e w' => e = .returned (.tuple #[.agg #[.int .i64 pk, .int .i64 pv, .string ps, .bool pn, .slice pA pa pc, .slice pB pd pe, .slice pX pl pq], .int .i64 0]) ∧ Hid (Below W.heap.size W w')) := fun W hW =>
    resolved_any B h G c m tv ys pk pv ps pn pA pa pc pB pd pe pX pl pq h1 h5 W (hS.below hW)
  have HCL : Hid (∀ W, Below w.heap.size w W → Calls Tryz.prog 53 #[.agg #[.int .i64 pk, .int .i64 pv, .string ps, .bool pn, .slice pA pa pc, .slice pB pd pe, .slice pX pl pq]] W fun e W' => ∃ (cn : Bool) (cA : Option Addr) (ca cc : Nat) (cB : Option Addr) (cd ce : Nat) (cX : Option Addr) (cl cq : Nat), e = .returned (.agg #[.int .i64 k, .int .i64 v, .string s, .bool cn, .slice cA ca cc, .slice cB cd ce, .slice cX cl cq]) ∧ Hid (Below W.heap.size W W')) := fun W hW =>
    (clone_tm ht hsm W hW).mono (by
      rintro e w' ⟨cs', rfl, h1, h2⟩
      have h3 := h1.tc
      obtain ⟨cn, cA, ca, cc, cB, cd, ce, cX, cl, cq, rfl⟩ := h3.seven
      exact ⟨cn, cA, ca, cc, cB, cd, ce, cX, cl, cq, rfl, h2⟩)
  have HS0 := Lib.hid hs
  clear hs hS ht hsm h1 h5
  go_enter Tryz.func46, Tryz.ntmps46
  go_wp2_with fail
  have hw1 : Below w.heap.size w (((w.alloc (.cells #[.int .i64 1, .int .i64 1, .string ⟨#[]⟩, .bool false, .slice none 0 0, .slice none 0 0, .slice none 0 0] 27)).alloc (.cells #[.int .i64 0, .int .i64 0, .string ⟨#[]⟩, .bool false, .slice none 0 0, .slice none 0 0, .slice none 0 0] 27)).alloc (.cells #[.int .i64 1, .int .i64 1, .string ⟨#[]⟩, .bool false, .slice none 0 0, .slice none 0 0, .slice none 0 0] 27)) := (below_pair w _ _).alloc (by simp; omega) _
  have hb3 : Blk (((w.alloc (.cells #[.int .i64 1, .int .i64 1, .string ⟨#[]⟩, .bool false, .slice none 0 0, .slice none 0 0, .slice none 0 0] 27)).alloc (.cells #[.int .i64 0, .int .i64 0, .string ⟨#[]⟩, .bool false, .slice none 0 0, .slice none 0 0, .slice none 0 0] 27)).alloc (.cells #[.int .i64 1, .int .i64 1, .string ⟨#[]⟩, .bool false, .slice none 0 0, .slice none 0 0, .slice none 0 0] 27)) (w.heap.size + 1 + 1) 27 #[.int .i64 1, .int .i64 1, .string ⟨#[]⟩, .bool false, .slice none 0 0, .slice none 0 0, .slice none 0 0] := by
    have := Blk.new ((w.alloc (.cells #[.int .i64 1, .int .i64 1, .string ⟨#[]⟩, .bool false, .slice none 0 0, .slice none 0 0, .slice none 0 0] 27)).alloc (.cells #[.int .i64 0, .int .i64 0, .string ⟨#[]⟩, .bool false, .slice none 0 0, .slice none 0 0, .slice none 0 0] 27)) 27 #[.int .i64 1, .int .i64 1, .string ⟨#[]⟩, .bool false, .slice none 0 0, .slice none 0 0, .slice none 0 0]
    rw [show ((w.alloc (.cells #[.int .i64 1, .int .i64 1, .string ⟨#[]⟩, .bool false, .slice none 0 0, .slice none 0 0, .slice none 0 0] 27)).alloc (.cells #[.int .i64 0, .int .i64 0, .string ⟨#[]⟩, .bool false, .slice none 0 0, .slice none 0 0, .slice none 0 0] 27)).heap.size = w.heap.size + 1 + 1 by simp] at this
    exact this
  have hbt : Blk (((w.alloc (.cells #[.int .i64 1, .int .i64 1, .string ⟨#[]⟩, .bool false, .slice none 0 0, .slice none 0 0, .slice none 0 0] 27)).alloc (.cells #[.int .i64 0, .int .i64 0, .string ⟨#[]⟩, .bool false, .slice none 0 0, .slice none 0 0, .slice none 0 0] 27)).alloc (.cells #[.int .i64 1, .int .i64 1, .string ⟨#[]⟩, .bool false, .slice none 0 0, .slice none 0 0, .slice none 0 0] 27)) w.heap.size 27 #[.int .i64 1, .int .i64 1, .string ⟨#[]⟩, .bool false, .slice none 0 0, .slice none 0 0, .slice none 0 0] := ((Blk.new w _ _).alloc _).alloc _
  have hbr : Blk (((w.alloc (.cells #[.int .i64 1, .int .i64 1, .string ⟨#[]⟩, .bool false, .slice none 0 0, .slice none 0 0, .slice none 0 0] 27)).alloc (.cells #[.int .i64 0, .int .i64 0, .string ⟨#[]⟩, .bool false, .slice none 0 0, .slice none 0 0, .slice none 0 0] 27)).alloc (.cells #[.int .i64 1, .int .i64 1, .string ⟨#[]⟩, .bool false, .slice none 0 0, .slice none 0 0, .slice none 0 0] 27)) (w.heap.size + 1) 27 #[.int .i64 0, .int .i64 0, .string ⟨#[]⟩, .bool false, .slice none 0 0, .slice none 0 0, .slice none 0 0] := by
    have := (Blk.new (w.alloc (.cells #[.int .i64 1, .int .i64 1, .string ⟨#[]⟩, .bool false, .slice none 0 0, .slice none 0 0, .slice none 0 0] 27)) 27 #[.int .i64 0, .int .i64 0, .string ⟨#[]⟩, .bool false, .slice none 0 0, .slice none 0 0, .slice none 0 0]).alloc (.cells #[.int .i64 1, .int .i64 1, .string ⟨#[]⟩, .bool false, .slice none 0 0, .slice none 0 0, .slice none 0 0] 27)
    rw [show (w.alloc (.cells #[.int .i64 1, .int .i64 1, .string ⟨#[]⟩, .bool false, .slice none 0 0, .slice none 0 0, .slice none 0 0] 27)).heap.size = w.heap.size + 1 by simp] at this
    exact this
  have HT0 := Lib.hid hbt
  have HR0 := Lib.hid hbr
  refine (HKN.out _ _ 1 hw1 hb3).mono ?_
  rintro e w1 ⟨rfl, hb1⟩
  clear hbt hbr hb3 HKN
  have hw2 : Below w.heap.size w w1 := hw1.trans (hb1.out.mono hw1.size)
  have HT1 := Lib.hid (HT0.out.to hb1.out)
  have HR1 := Lib.hid (HR0.out.to hb1.out)
  have hwd : Below w.heap.size w w1.drew := hw2.drew
  have HSW : Hid (∀ W, Blk W w.heap.size 27 #[.int .i64 1, .int .i64 1, .string ⟨#[]⟩, .bool false, .slice none 0 0, .slice none 0 0, .slice none 0 0] → Blk W g 115 #[.pointer (some ⟨h, 0, none⟩)] → (W.cell? ⟨g, 0, none⟩ = some (.pointer (some ⟨h, 0, none⟩)) ∧ W.cell? ⟨w.heap.size, 0, none⟩ = some (.int .i64 1) ∧ W.cell? ⟨w.heap.size, 1, none⟩ = some (.int .i64 1) ∧ W.cell? ⟨w.heap.size, 2, none⟩ = some (.string ⟨#[]⟩) ∧ W.cell? ⟨w.heap.size, 3, none⟩ = some (.bool false) ∧ W.cell? ⟨w.heap.size, 4, none⟩ = some (.slice none 0 0) ∧ W.cell? ⟨w.heap.size, 5, none⟩ = some (.slice none 0 0) ∧ W.cell? ⟨w.heap.size, 6, none⟩ = some (.slice none 0 0))) := fun W h1 h2 => ⟨h2.cell 0, h1.cell 0, h1.cell 1, h1.cell 2, h1.cell 3, h1.cell 4, h1.cell 5, h1.cell 6⟩
  have hS1 := HSW.out _ HT1.out.drew (HS0.out.to hwd)
  go_wp2_with fail
  refine wp_region_held_drew (S := fun W => W.cell? ⟨g, 0, none⟩ = some (.pointer (some ⟨h, 0, none⟩)) ∧ W.cell? ⟨w.heap.size, 0, none⟩ = some (.int .i64 1) ∧ W.cell? ⟨w.heap.size, 1, none⟩ = some (.int .i64 1) ∧ W.cell? ⟨w.heap.size, 2, none⟩ = some (.string ⟨#[]⟩) ∧ W.cell? ⟨w.heap.size, 3, none⟩ = some (.bool false) ∧ W.cell? ⟨w.heap.size, 4, none⟩ = some (.slice none 0 0) ∧ W.cell? ⟨w.heap.size, 5, none⟩ = some (.slice none 0 0) ∧ W.cell? ⟨w.heap.size, 6, none⟩ = some (.slice none 0 0)) (by kernel_rfl) hS1 (fun hHeld => ?_)
  (refine wpAnyH_take (i := 0) (v := ?_) rfl (by kernel_rfl) (by kernel_rfl) (by kernel_rfl) (fun _ _ _ h => h) (Or.inl ⟨by kernel_rfl, ?_⟩) (by assumption) ?_; rotate_left; ((intro w hSw; (try dsimp only at hSw); go_simp) <;> (with_reducible rfl)); (try (simp only [Act.put, List.setIfInBounds_toArray, List.set_cons_succ, List.set_cons_zero, List.getElem_toArray, List.getElem_cons_succ, List.getElem_cons_zero])))
  (refine wpAnyH_take (i := 1) (v := ?_) rfl (by kernel_rfl) (by kernel_rfl) (by kernel_rfl) (fun _ _ _ h => h) (Or.inl ⟨by kernel_rfl, ?_⟩) (by assumption) ?_; rotate_left; ((intro w hSw; (try dsimp only at hSw); go_simp) <;> (with_reducible rfl)); (try (simp only [Act.put, List.setIfInBounds_toArray, List.set_cons_succ, List.set_cons_zero, List.getElem_toArray, List.getElem_cons_succ, List.getElem_cons_zero])))
  (refine wpAnyH_take (i := 2) (v := ?_) rfl (by kernel_rfl) (by kernel_rfl) (by kernel_rfl) (fun _ _ _ h => h) (Or.inl ⟨by kernel_rfl, ?_⟩) (by assumption) ?_; rotate_left; ((intro w hSw; (try dsimp only at hSw); go_simp) <;> (with_reducible rfl)); (try (simp only [Act.put, List.setIfInBounds_toArray, List.set_cons_succ, List.set_cons_zero, List.getElem_toArray, List.getElem_cons_succ, List.getElem_cons_zero])))
  (refine wpAnyH_take (i := 3) (v := ?_) rfl (by kernel_rfl) (by kernel_rfl) (by kernel_rfl) (fun _ _ _ h => h) (Or.inl ⟨by kernel_rfl, ?_⟩) (by assumption) ?_; rotate_left; ((intro w hSw; (try dsimp only at hSw); go_simp) <;> (with_reducible rfl)); (try (simp only [Act.put, List.setIfInBounds_toArray, List.set_cons_succ, List.set_cons_zero, List.getElem_toArray, List.getElem_cons_succ, List.getElem_cons_zero])))
  (refine wpAnyH_take (i := 4) (v := ?_) rfl (by kernel_rfl) (by kernel_rfl) (by kernel_rfl) (fun _ _ _ h => h) (Or.inl ⟨by kernel_rfl, ?_⟩) (by assumption) ?_; rotate_left; ((intro w hSw; (try dsimp only at hSw); go_simp) <;> (with_reducible rfl)); (try (simp only [Act.put, List.setIfInBounds_toArray, List.set_cons_succ, List.set_cons_zero, List.getElem_toArray, List.getElem_cons_succ, List.getElem_cons_zero])))
  (refine wpAnyH_ready (rs := [5, 9]) (by kernel_rfl) (by simp) ?_; refine AllReadyH.cons rfl (fun K hK => ?_) (AllReadyH.cons rfl (fun K hK => ?_) AllReadyH.nil))
  · go_simp
    refine (HRS.out _ hwd).mono ?_
    rintro e w2 ⟨rfl, hb2⟩
    have HW3 : Hid (Below w.heap.size w w2) := hwd.trans (hb2.out.mono hwd.size)
    have HR2 := Lib.hid (HR1.out.drew.to hb2.out)
    have HT2 := Lib.hid (HT1.out.drew.to hb2.out)
    have hS2 := HSW.out _ HT2.out (HS0.out.to HW3.out)
    have hS3 := HSW.out _ (HT2.out.alloc (.cells #[.int .i64 0, .int .i64 0, .string ⟨#[]⟩, .bool false, .slice none 0 0, .slice none 0 0, .slice none 0 0] 27)) ((HS0.out.to HW3.out).alloc (.cells #[.int .i64 0, .int .i64 0, .string ⟨#[]⟩, .bool false, .slice none 0 0, .slice none 0 0, .slice none 0 0] 27))
    have hS4 := HSW.out _ (HT2.out.alloc (.cells #[.int .i64 pk, .int .i64 pv, .string ps, .bool pn, .slice pA pa pc, .slice pB pd pe, .slice pX pl pq] 27)) ((HS0.out.to HW3.out).alloc (.cells #[.int .i64 pk, .int .i64 pv, .string ps, .bool pn, .slice pA pa pc, .slice pB pd pe, .slice pX pl pq] 27))
    refine hK.out _ _ hS2 (fun hHeld => ?_)
    clear hK K
    (try (simp only [Act.put, List.setIfInBounds_toArray, List.set_cons_succ, List.set_cons_zero, List.getElem_toArray, List.getElem_cons_succ, List.getElem_cons_zero]))
    (refine wpAnyH_take (i := 6) (v := ?_) rfl (by kernel_rfl) (by kernel_rfl) (by kernel_rfl) (fun _ _ _ h => h) (Or.inl ⟨by kernel_rfl, ?_⟩) (by assumption) ?_; rotate_left; ((intro w hSw; (try dsimp only at hSw); go_simp) <;> (with_reducible rfl)); (try (simp only [Act.put, List.setIfInBounds_toArray, List.set_cons_succ, List.set_cons_zero, List.getElem_toArray, List.getElem_cons_succ, List.getElem_cons_zero])))
    (refine wpAnyH_take (i := 7) (v := ?_) rfl (by kernel_rfl) (by kernel_rfl) (by kernel_rfl) (fun _ _ _ h => h) (Or.inl ⟨by kernel_rfl, ?_⟩) (by assumption) ?_; rotate_left; ((intro w hSw; (try dsimp only at hSw); go_simp) <;> (with_reducible rfl)); (try (simp only [Act.put, List.setIfInBounds_toArray, List.set_cons_succ, List.set_cons_zero, List.getElem_toArray, List.getElem_cons_succ, List.getElem_cons_zero])))
    (refine wpAnyH_take (i := 8) (v := ?_) rfl (by kernel_rfl) (by kernel_rfl) (by kernel_rfl) (fun _ _ _ h => h) (Or.inl ⟨by kernel_rfl, ?_⟩) (by assumption) ?_; rotate_left; ((intro w hSw; (try dsimp only at hSw); go_simp) <;> (with_reducible rfl)); (try (simp only [Act.put, List.setIfInBounds_toArray, List.set_cons_succ, List.set_cons_zero, List.getElem_toArray, List.getElem_cons_succ, List.getElem_cons_zero])))
    (refine wpAnyH_ready (rs := [9]) (by kernel_rfl) (by simp) ?_; refine AllReadyH.cons rfl (fun K hK => ?_) AllReadyH.nil)
    go_simp
    refine hK.out _ _ hS3 (fun hHeld => ?_)
    clear hK K
    (try (simp only [Act.put, List.setIfInBounds_toArray, List.set_cons_succ, List.set_cons_zero, List.getElem_toArray, List.getElem_cons_succ, List.getElem_cons_zero]))
    (refine wpAnyH_ready (rs := [10]) (by kernel_rfl) (by simp) ?_; refine AllReadyH.cons rfl (fun K hK => ?_) AllReadyH.nil)
    go_simp
    refine hK.out _ _ hS4 (fun hHeld => ?_)
    clear hK K
    (try (simp only [Act.put, List.setIfInBounds_toArray, List.set_cons_succ, List.set_cons_zero, List.getElem_toArray, List.getElem_cons_succ, List.getElem_cons_zero]))
    (refine wpAnyH_take (i := 11) (v := ?_) rfl (by kernel_rfl) (by kernel_rfl) (by kernel_rfl) (fun _ _ _ h => h) (Or.inl ⟨by kernel_rfl, ?_⟩) (by assumption) ?_; rotate_left; ((intro w hSw; (try dsimp only at hSw); go_simp) <;> (with_reducible rfl)); (try (simp only [Act.put, List.setIfInBounds_toArray, List.set_cons_succ, List.set_cons_zero, List.getElem_toArray, List.getElem_cons_succ, List.getElem_cons_zero])))
    (refine wpAnyH_done (by kernel_rfl) ?_ _)
    have HW4 : Hid (Below w.heap.size w (w2.alloc (.cells #[.int .i64 pk, .int .i64 pv, .string ps, .bool pn, .slice pA pa pc, .slice pB pd pe, .slice pX pl pq] 27))) := HW3.out.alloc HW3.out.size _
    have HR4 := Lib.hid (HR2.out.alloc (.cells #[.int .i64 pk, .int .i64 pv, .string ps, .bool pn, .slice pA pa pc, .slice pB pd pe, .slice pX pl pq] 27))
    clear hS2 hS3 hS4
    go_wp2_with fail
    refine (HCL.out _ HW4.out).mono ?_
    rintro e w5 ⟨cn, cA, ca, cc, cB, cd, ce, cX, cl, cq, rfl, hb5⟩
    have HW5 : Hid (Below w.heap.size w w5) := HW4.out.trans (hb5.out.mono HW4.out.size)
    have HR5 := Lib.hid (HR4.out.to hb5.out)
    have r0 := HR5.out.cell 0
    have r1 := HR5.out.cell 1
    have r2 := HR5.out.cell 2
    have r3 := HR5.out.cell 3
    have r4 := HR5.out.cell 4
    have r5 := HR5.out.cell 5
    have r6 := HR5.out.cell 6
    have z0 := HR5.out.frozen 0
    have z1 := HR5.out.frozen 1
    have z2 := HR5.out.frozen 2
    have z3 := HR5.out.frozen 3
    have z4 := HR5.out.frozen 4
    have z5 := HR5.out.frozen 5
    have z6 := HR5.out.frozen 6
    simp only [List.getElem?_toArray, List.getElem?_cons_zero, List.getElem?_cons_succ] at r0 r1 r2 r3 r4 r5 r6
    clear hb5 HCL HR4 HW4
    go_wp2_with fail
    refine bodyPost_ret (v := .tuple #[.agg #[.int .i64 k, .int .i64 v, .string s, .bool cn, .slice cA ca cc, .slice cB cd ce, .slice cX cl cq], .int .i64 0]) (by rw [results_cell_tmp rfl]; go_simp) rfl ?_
    exact ⟨⟨cn, cA, ca, cc, cB, cd, ce, cX, cl, cq, rfl⟩, (((((((HW5.out.setCell (p := ⟨w.heap.size + 1, 0, none⟩) (by simp) _).setCell (p := ⟨w.heap.size + 1, 1, none⟩) (by simp) _).setCell (p := ⟨w.heap.size + 1, 2, none⟩) (by simp) _).setCell (p := ⟨w.heap.size + 1, 3, none⟩) (by simp) _).setCell (p := ⟨w.heap.size + 1, 4, none⟩) (by simp) _).setCell (p := ⟨w.heap.size + 1, 5, none⟩) (by simp) _).setCell (p := ⟨w.heap.size + 1, 6, none⟩) (by simp) _)⟩
  · go_simp
    have hwa : Below w.heap.size w (w1.alloc (.cells #[.int .i64 0, .int .i64 0, .string ⟨#[]⟩, .bool false, .slice none 0 0, .slice none 0 0, .slice none 0 0] 27)).drew := (hw2.alloc hw2.size _).drew
    have HRA := Lib.hid (HR1.out.alloc (.cells #[.int .i64 0, .int .i64 0, .string ⟨#[]⟩, .bool false, .slice none 0 0, .slice none 0 0, .slice none 0 0] 27)).drew
    have HTA := Lib.hid (HT1.out.alloc (.cells #[.int .i64 0, .int .i64 0, .string ⟨#[]⟩, .bool false, .slice none 0 0, .slice none 0 0, .slice none 0 0] 27)).drew
    have HXA := Lib.hid (Blk.new w1 27 #[.int .i64 0, .int .i64 0, .string ⟨#[]⟩, .bool false, .slice none 0 0, .slice none 0 0, .slice none 0 0]).drew
    have hxr : w.heap.size + 1 < w1.heap.size := HR1.out.lt
    have hS5 := HSW.out _ HTA.out (HS0.out.to hwa)
    refine hK.out _ _ hS5 (fun hHeld => ?_)
    clear hK K
    (try (simp only [Act.put, List.setIfInBounds_toArray, List.set_cons_succ, List.set_cons_zero, List.getElem_toArray, List.getElem_cons_succ, List.getElem_cons_zero]))
    (refine wpAnyH_ready (rs := [5]) (by kernel_rfl) (by simp) ?_; refine AllReadyH.cons rfl (fun K hK => ?_) AllReadyH.nil)
    go_simp
    refine (HRS.out _ hwa).mono ?_
    rintro e w2 ⟨rfl, hb2⟩
    have HW3 : Hid (Below w.heap.size w w2) := hwa.trans (hb2.out.mono hwa.size)
    have HR2 := Lib.hid (HRA.out.to hb2.out)
    have HT2 := Lib.hid (HTA.out.to hb2.out)
    have HX2 := Lib.hid (HXA.out.to hb2.out)
    have hS6 := HSW.out _ HT2.out (HS0.out.to HW3.out)
    have x0 := HX2.out.cell 0
    have x1 := HX2.out.cell 1
    have x2 := HX2.out.cell 2
    have x3 := HX2.out.cell 3
    have x4 := HX2.out.cell 4
    have x5 := HX2.out.cell 5
    have x6 := HX2.out.cell 6
    have y0 := HX2.out.frozen 0
    have y1 := HX2.out.frozen 1
    have y2 := HX2.out.frozen 2
    have y3 := HX2.out.frozen 3
    have y4 := HX2.out.frozen 4
    have y5 := HX2.out.frozen 5
    have y6 := HX2.out.frozen 6
    simp only [List.getElem?_toArray, List.getElem?_cons_zero, List.getElem?_cons_succ] at x0 x1 x2 x3 x4 x5 x6
    have HK7 : Hid (Kept (fun k => k = w1.heap.size) w2 (((((((w2.setCell ⟨w1.heap.size, 0, none⟩ (.int .i64 pk)).setCell ⟨w1.heap.size, 1, none⟩ (.int .i64 pv)).setCell ⟨w1.heap.size, 2, none⟩ (.string ps)).setCell ⟨w1.heap.size, 3, none⟩ (.bool pn)).setCell ⟨w1.heap.size, 4, none⟩ (.slice pA pa pc)).setCell ⟨w1.heap.size, 5, none⟩ (.slice pB pd pe)).setCell ⟨w1.heap.size, 6, none⟩ (.slice pX pl pq))) := ((((((((Kept.refl _ _).trans (Kept.setCell _ ⟨w1.heap.size, 0, none⟩ (.int .i64 pk))).trans (Kept.setCell _ ⟨w1.heap.size, 1, none⟩ (.int .i64 pv))).trans (Kept.setCell _ ⟨w1.heap.size, 2, none⟩ (.string ps))).trans (Kept.setCell _ ⟨w1.heap.size, 3, none⟩ (.bool pn))).trans (Kept.setCell _ ⟨w1.heap.size, 4, none⟩ (.slice pA pa pc))).trans (Kept.setCell _ ⟨w1.heap.size, 5, none⟩ (.slice pB pd pe))).trans (Kept.setCell _ ⟨w1.heap.size, 6, none⟩ (.slice pX pl pq)))
    have hgx : g ≠ w1.heap.size := by
      have := HS0.out.lt
      have := hw2.size
      omega
    have HT7 := Lib.hid (HK7.out.blk HT2.out (by show ¬ _ = _; omega))
    have HR7 := Lib.hid (HK7.out.blk HR2.out (by show ¬ _ = _; omega))
    have hS7 := HSW.out _ HT7.out (HK7.out.blk (HS0.out.to HW3.out) hgx)
    refine hK.out _ _ hS6 (fun hHeld => ?_)
    clear hK K
    (try (simp only [Act.put, List.setIfInBounds_toArray, List.set_cons_succ, List.set_cons_zero, List.getElem_toArray, List.getElem_cons_succ, List.getElem_cons_zero]))
    (refine wpAnyH_take (i := 6) (v := ?_) rfl (by kernel_rfl) (by kernel_rfl) (by kernel_rfl) (fun _ _ _ h => h) (Or.inl ⟨by kernel_rfl, ?_⟩) (by assumption) ?_; rotate_left; ((intro w hSw; (try dsimp only at hSw); go_simp) <;> (with_reducible rfl)); (try (simp only [Act.put, List.setIfInBounds_toArray, List.set_cons_succ, List.set_cons_zero, List.getElem_toArray, List.getElem_cons_succ, List.getElem_cons_zero])))
    (refine wpAnyH_take (i := 7) (v := ?_) rfl (by kernel_rfl) (by kernel_rfl) (by kernel_rfl) (fun _ _ _ h => h) (Or.inl ⟨by kernel_rfl, ?_⟩) (by assumption) ?_; rotate_left; ((intro w hSw; (try dsimp only at hSw); go_simp) <;> (with_reducible rfl)); (try (simp only [Act.put, List.setIfInBounds_toArray, List.set_cons_succ, List.set_cons_zero, List.getElem_toArray, List.getElem_cons_succ, List.getElem_cons_zero])))
    (refine wpAnyH_take (i := 8) (v := ?_) rfl (by kernel_rfl) (by kernel_rfl) (by kernel_rfl) (fun _ _ _ h => h) (Or.inl ⟨by kernel_rfl, ?_⟩) (by assumption) ?_; rotate_left; ((intro w hSw; (try dsimp only at hSw); go_simp) <;> (with_reducible rfl)); (try (simp only [Act.put, List.setIfInBounds_toArray, List.set_cons_succ, List.set_cons_zero, List.getElem_toArray, List.getElem_cons_succ, List.getElem_cons_zero])))
    (refine wpAnyH_ready (rs := [10]) (by kernel_rfl) (by simp) ?_; refine AllReadyH.cons rfl (fun K hK => ?_) AllReadyH.nil)
    go_simp
    refine hK.out _ _ hS7 (fun hHeld => ?_)
    clear hK K
    (try (simp only [Act.put, List.setIfInBounds_toArray, List.set_cons_succ, List.set_cons_zero, List.getElem_toArray, List.getElem_cons_succ, List.getElem_cons_zero]))
    (refine wpAnyH_take (i := 11) (v := ?_) rfl (by kernel_rfl) (by kernel_rfl) (by kernel_rfl) (fun _ _ _ h => h) (Or.inl ⟨by kernel_rfl, ?_⟩) (by assumption) ?_; rotate_left; ((intro w hSw; (try dsimp only at hSw); go_simp) <;> (with_reducible rfl)); (try (simp only [Act.put, List.setIfInBounds_toArray, List.set_cons_succ, List.set_cons_zero, List.getElem_toArray, List.getElem_cons_succ, List.getElem_cons_zero])))
    (refine wpAnyH_done (by kernel_rfl) ?_ _)
    have HX7 : Hid (Blk (((((((w2.setCell ⟨w1.heap.size, 0, none⟩ (.int .i64 pk)).setCell ⟨w1.heap.size, 1, none⟩ (.int .i64 pv)).setCell ⟨w1.heap.size, 2, none⟩ (.string ps)).setCell ⟨w1.heap.size, 3, none⟩ (.bool pn)).setCell ⟨w1.heap.size, 4, none⟩ (.slice pA pa pc)).setCell ⟨w1.heap.size, 5, none⟩ (.slice pB pd pe)).setCell ⟨w1.heap.size, 6, none⟩ (.slice pX pl pq)) w1.heap.size 27 #[.int .i64 pk, .int .i64 pv, .string ps, .bool pn, .slice pA pa pc, .slice pB pd pe, .slice pX pl pq]) := by
      have := ((((((HX2.out.set_ 0 (.int .i64 pk)).set_ 1 (.int .i64 pv)).set_ 2 (.string ps)).set_ 3 (.bool pn)).set_ 4 (.slice pA pa pc)).set_ 5 (.slice pB pd pe)).set_ 6 (.slice pX pl pq)
      show Blk _ _ _ _
      simpa using this
    have HW4 : Hid (Below w.heap.size w (((((((w2.setCell ⟨w1.heap.size, 0, none⟩ (.int .i64 pk)).setCell ⟨w1.heap.size, 1, none⟩ (.int .i64 pv)).setCell ⟨w1.heap.size, 2, none⟩ (.string ps)).setCell ⟨w1.heap.size, 3, none⟩ (.bool pn)).setCell ⟨w1.heap.size, 4, none⟩ (.slice pA pa pc)).setCell ⟨w1.heap.size, 5, none⟩ (.slice pB pd pe)).setCell ⟨w1.heap.size, 6, none⟩ (.slice pX pl pq))) := HW3.out.trans (HK7.out.below (B := w.heap.size) HW3.out.size (fun k e => by
      have e : k = w1.heap.size := e
      have := hw2.size
      omega))
    have HR4 := HR7
    clear hS5 hS6 hS7 x0 x1 x2 x3 x4 x5 x6 y0 y1 y2 y3 y4 y5 y6
    generalize hyy : World.setCell _ _ _ = yy at HX7 HW4 HR4 ⊢
    clear hyy
    have x0 := HX7.out.cell 0
    have x1 := HX7.out.cell 1
    have x2 := HX7.out.cell 2
    have x3 := HX7.out.cell 3
    have x4 := HX7.out.cell 4
    have x5 := HX7.out.cell 5
    have x6 := HX7.out.cell 6
    simp only [List.getElem?_toArray, List.getElem?_cons_zero, List.getElem?_cons_succ] at x0 x1 x2 x3 x4 x5 x6
    go_wp2_with fail
    refine (HCL.out _ HW4.out).mono ?_
    rintro e w5 ⟨cn, cA, ca, cc, cB, cd, ce, cX, cl, cq, rfl, hb5⟩
    have HW5 : Hid (Below w.heap.size w w5) := HW4.out.trans (hb5.out.mono HW4.out.size)
    have HR5 := Lib.hid (HR4.out.to hb5.out)
    have r0 := HR5.out.cell 0
    have r1 := HR5.out.cell 1
    have r2 := HR5.out.cell 2
    have r3 := HR5.out.cell 3
    have r4 := HR5.out.cell 4
    have r5 := HR5.out.cell 5
    have r6 := HR5.out.cell 6
    have z0 := HR5.out.frozen 0
    have z1 := HR5.out.frozen 1
    have z2 := HR5.out.frozen 2
    have z3 := HR5.out.frozen 3
    have z4 := HR5.out.frozen 4
    have z5 := HR5.out.frozen 5
    have z6 := HR5.out.frozen 6
    simp only [List.getElem?_toArray, List.getElem?_cons_zero, List.getElem?_cons_succ] at r0 r1 r2 r3 r4 r5 r6
    clear hb5 HCL HR4 HW4
    go_wp2_with fail
    refine bodyPost_ret (v := .tuple #[.agg #[.int .i64 k, .int .i64 v, .string s, .bool cn, .slice cA ca cc, .slice cB cd ce, .slice cX cl cq], .int .i64 0]) (by rw [results_cell_tmp rfl]; go_simp) rfl ?_
    exact ⟨⟨cn, cA, ca, cc, cB, cd, ce, cX, cl, cq, rfl⟩, (((((((HW5.out.setCell (p := ⟨w.heap.size + 1, 0, none⟩) (by simp) _).setCell (p := ⟨w.heap.size + 1, 1, none⟩) (by simp) _).setCell (p := ⟨w.heap.size + 1, 2, none⟩) (by simp) _).setCell (p := ⟨w.heap.size + 1, 3, none⟩) (by simp) _).setCell (p := ⟨w.heap.size + 1, 4, none⟩) (by simp) _).setCell (p := ⟨w.heap.size + 1, 5, none⟩) (by simp) _).setCell (p := ⟨w.heap.size + 1, 6, none⟩) (by simp) _)⟩
end Go.Proofs.YtkfnpcilanheiaaGreat

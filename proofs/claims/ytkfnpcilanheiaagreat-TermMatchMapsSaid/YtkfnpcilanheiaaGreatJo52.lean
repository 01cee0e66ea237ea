/- fetterlocklaw2.bound. -/
import Derived.Test.YtkfnpcilanheiaaGreatJo51
set_option linter.unusedVariables false
set_option linter.unusedSimpArgs false
set_option maxRecDepth 100000
namespace Go.Proofs.YtkfnpcilanheiaaGreat
open Go.RowKit NumB
def SH (w : World) (B g h n : Nat) : Prop := ∃ A c, Blk w g 115 #[.pointer (some ⟨h, 0, none⟩)] ∧ HeapS w B h A n c (.slice none 0 0) (List.replicate n zc).flatten
theorem SH.below {w w' : World} {B g h n : Nat} (hs : SH w B g h n) (hb : Below w.heap.size w w') : SH w' B g h n := by
  obtain ⟨A, c, h1, h2⟩ := hs
  exact ⟨A, c, h1.to hb, h2.kept (p := fun _ => False) (Kept.of_below hb) (fun h => h) (fun _ _ h => h)⟩
theorem sh_new (w : World) : Calls Tryz.prog 42 #[] w fun e w' => e = .returned (.pointer (some ⟨w.heap.size + 1, 0, none⟩)) ∧ SH w' w.heap.size (w.heap.size + 1) w.heap.size 0 ∧ Below w.heap.size w w' := by
  refine (termNew_any w).mono ?_
  rintro e w' ⟨rfl, rfl⟩
  have h1 : Blk ((w.alloc (.cells #[.slice none 0 0, .slice none 0 0, .slice none 0 0] 141)).alloc (.cells #[.pointer (some ⟨w.heap.size, 0, none⟩)] 115)) w.heap.size 141 #[.slice none 0 0, .slice none 0 0, .slice none 0 0] := (Blk.new w _ _).alloc _
  have h2 : Blk ((w.alloc (.cells #[.slice none 0 0, .slice none 0 0, .slice none 0 0] 141)).alloc (.cells #[.pointer (some ⟨w.heap.size, 0, none⟩)] 115)) (w.heap.size + 1) 115 #[.pointer (some ⟨w.heap.size, 0, none⟩)] := by
    have := Blk.new (w.alloc (.cells #[.slice none 0 0, .slice none 0 0, .slice none 0 0] 141)) 115 #[.pointer (some ⟨w.heap.size, 0, none⟩)]
    rw [show (w.alloc (.cells #[.slice none 0 0, .slice none 0 0, .slice none 0 0] 141)).heap.size = w.heap.size + 1 by simp] at this
    exact this
  exact ⟨rfl, ⟨none, 0, h2, h1, Nat.le_refl _, World.ownsRow_nil _ _ _ _⟩, below_pair w _ _⟩
theorem sh_fresh (B g h n : Nat) (w : World) (hn : n ≤ 1000) (hB : B ≤ w.heap.size) (hs : SH w B g h n) : Calls Tryz.prog 43 #[.pointer (some ⟨g, 0, none⟩)] w fun e w' => e = .returned (.agg (vt n).toArray) ∧ SH w' B g h (n + 1) ∧ Below B w w' := by
  obtain ⟨A, c, h1, h2⟩ := hs
  refine (fresh_any B g h A n c _ _ w hn h1 h2).mono ?_
  rintro e w' ⟨A', c', rfl, h3, hk⟩
  refine ⟨rfl, ⟨A', c', hk.blk h1 ?_, ?_⟩, hk.below hB ?_⟩
  · rintro (e | ⟨a, ha, e⟩)
    · subst e
      have e1 : w.heap[g]? = some (.cells _ 115 (0, 0)) := h1
      have e2 : w.heap[g]? = some (.cells _ 141 (0, 0)) := h2.1
      rw [e1] at e2
      simp at e2
    · exact row_ne h1 h2.2.2 (by decide) ⟨a, ha, e⟩
  · rw [List.replicate_succ', List.flatten_append]
    simpa using h3
  · rintro k (rfl | ⟨a, ha, rfl⟩)
    · exact h2.2.1
    · exact (h2.row_lt ha).2
theorem SH.hs {w : World} {B g h : Nat} (hs : SH w B g h 2) : ∃ G c, Blk w g 115 #[.pointer (some ⟨h, 0, none⟩)] ∧ HS w B h G c (.slice none 0 0) (zc ++ zc) 0 [] := by
  obtain ⟨A, c, h1, h2, h3, h4⟩ := hs
  obtain ⟨G, cap, e⟩ := Joins.ownsRow_form h4 (by omega)
  cases e
  exact ⟨G, c, h1, h2, h3, h4, World.ownsRow_nil _ _ _ _⟩
def BJ (w : World) (z : Nat) (W : World) : Prop := SH W w.heap.size (w.heap.size + 1) w.heap.size 2 ∧ Blk W z 27 #[.int .i64 1, .int .i64 0, .string ⟨#[]⟩, .bool false, .slice none 0 0, .slice none 0 0, .slice none 0 0] ∧ Blk W (z + 1) 27 #[.int .i64 1, .int .i64 1, .string ⟨#[]⟩, .bool false, .slice none 0 0, .slice none 0 0, .slice none 0 0] ∧ Below w.heap.size w W
theorem BJ.below {w W W' : World} {z : Nat} (j : BJ w z W) (hb : Below W.heap.size W W') : BJ w z W' := ⟨j.1.below hb, j.2.1.to hb, j.2.2.1.to hb, j.2.2.2.trans (hb.mono j.2.2.2.size)⟩
theorem tc_fA {W : World} {b : Nat} (h : Blk W b 27 #[.int .i64 1, .int .i64 0, .string ⟨#[]⟩, .bool false, .slice none 0 0, .slice none 0 0, .slice none 0 0, .int .i64 3, .int .i64 0, .string ⟨#[97]⟩, .bool false, .slice none 0 0, .slice none 0 0, .slice none 0 0]) : TC W (Tm.mk 5 0 ⟨#[102]⟩ ⟨false, [], []⟩ [Tm.v 0, Tm.mk 3 0 ⟨#[97]⟩ ⟨false, [], []⟩ []]) [(Value.int .i64 5), (Value.int .i64 0), (Value.string ⟨#[102]⟩), (Value.bool false), (Value.slice none 0 0), (Value.slice none 0 0), (Value.slice (some ⟨b, 0, none⟩) 2 2)] :=
  .mk 5 0 ⟨#[102]⟩ ⟨false, [], []⟩ [Tm.v 0, (Tm.mk 3 0 ⟨#[97]⟩ ⟨false, [], []⟩ [])] (.slice none 0 0) (.slice none 0 0) (some ⟨b, 0, none⟩) 2 (fun i => if i = 0 then [(Value.int .i64 1), (Value.int .i64 0), (Value.string ⟨#[]⟩), (Value.bool false), (Value.slice none 0 0), (Value.slice none 0 0), (Value.slice none 0 0)] else [(Value.int .i64 3), (Value.int .i64 0), (Value.string ⟨#[97]⟩), (Value.bool false), (Value.slice none 0 0), (Value.slice none 0 0), (Value.slice none 0 0)]) ⟨by decide, by decide⟩ ⟨by decide, by decide⟩ (by decide) (sl_nil W) (sl_nil W) ⟨ok_nil, ok_nil⟩ (Nat.le_refl _) (by decide)
    (fun _ => ⟨b, 0, rfl, h.lt, fun i hi j hj => by
      have hi : i < 2 := hi
      rw [h.cell]
      have h01 : i = 0 ∨ i = 1 := by omega
      have h07 : j = 0 ∨ j = 1 ∨ j = 2 ∨ j = 3 ∨ j = 4 ∨ j = 5 ∨ j = 6 := by omega
      rcases h01 with rfl | rfl <;> rcases h07 with rfl | rfl | rfl | rfl | rfl | rfl | rfl <;> rfl⟩)
    (fun i hi => by
      have hi : i < 2 := hi
      have : i = 0 ∨ i = 1 := by omega
      rcases this with rfl | rfl
      · exact tc_v W 0 ⟨by decide, by decide⟩
      · exact .mk 3 0 ⟨#[97]⟩ ⟨false, [], []⟩ [] (.slice none 0 0) (.slice none 0 0) none 0 (fun _ => []) ⟨by decide, by decide⟩ ⟨by decide, by decide⟩ (by decide) (sl_nil W) (sl_nil W) ⟨ok_nil, ok_nil⟩ (Nat.le_refl _) (by decide) (fun h => by simp at h) (fun i h => by simp at h))
theorem tc_fB {W : World} {b : Nat} (h : Blk W b 27 #[.int .i64 1, .int .i64 1, .string ⟨#[]⟩, .bool false, .slice none 0 0, .slice none 0 0, .slice none 0 0, .int .i64 1, .int .i64 0, .string ⟨#[]⟩, .bool false, .slice none 0 0, .slice none 0 0, .slice none 0 0]) : TC W (Tm.mk 5 0 ⟨#[102]⟩ ⟨false, [], []⟩ [Tm.v 1, Tm.v 0]) [(Value.int .i64 5), (Value.int .i64 0), (Value.string ⟨#[102]⟩), (Value.bool false), (Value.slice none 0 0), (Value.slice none 0 0), (Value.slice (some ⟨b, 0, none⟩) 2 2)] :=
  .mk 5 0 ⟨#[102]⟩ ⟨false, [], []⟩ [Tm.v 1, Tm.v 0] (.slice none 0 0) (.slice none 0 0) (some ⟨b, 0, none⟩) 2 (fun i => if i = 0 then [(Value.int .i64 1), (Value.int .i64 1), (Value.string ⟨#[]⟩), (Value.bool false), (Value.slice none 0 0), (Value.slice none 0 0), (Value.slice none 0 0)] else [(Value.int .i64 1), (Value.int .i64 0), (Value.string ⟨#[]⟩), (Value.bool false), (Value.slice none 0 0), (Value.slice none 0 0), (Value.slice none 0 0)]) ⟨by decide, by decide⟩ ⟨by decide, by decide⟩ (by decide) (sl_nil W) (sl_nil W) ⟨ok_nil, ok_nil⟩ (Nat.le_refl _) (by decide)
    (fun _ => ⟨b, 0, rfl, h.lt, fun i hi j hj => by
      have hi : i < 2 := hi
      rw [h.cell]
      have h01 : i = 0 ∨ i = 1 := by omega
      have h07 : j = 0 ∨ j = 1 ∨ j = 2 ∨ j = 3 ∨ j = 4 ∨ j = 5 ∨ j = 6 := by omega
      rcases h01 with rfl | rfl <;> rcases h07 with rfl | rfl | rfl | rfl | rfl | rfl | rfl <;> rfl⟩)
    (fun i hi => by
      have hi : i < 2 := hi
      have : i = 0 ∨ i = 1 := by omega
      rcases this with rfl | rfl
      · exact tc_v W 1 ⟨by decide, by decide⟩
      · exact tc_v W 0 ⟨by decide, by decide⟩)
def BP (w : World) (z : Nat) (W : World) : Prop := (∃ (dk dv : Int) (ds : ByteArray) (dn : Bool) (dA : Option Addr) (da dc : Nat) (dB : Option Addr) (dd de : Nat) (dX : Option Addr) (dl dq : Nat) (G c : Nat) (tr : Value) (m : Nat) (ys : List Value), dk ≠ 1 ∧ dk ≠ 5 ∧ TC W (Tm.mk 3 0 ⟨#[97]⟩ ⟨false, [], []⟩ []) [(Value.int .i64 dk), (Value.int .i64 dv), (Value.string ds), (Value.bool dn), (Value.slice dA da dc), (Value.slice dB dd de), (Value.slice dX dl dq)] ∧ HS W w.heap.size w.heap.size G c tr (xs2 dk dv ds dn (.slice dA da dc) (.slice dB dd de) (.slice dX dl dq)) m ys) ∧ Blk W (w.heap.size + 1) 115 #[.pointer (some ⟨w.heap.size, 0, none⟩)] ∧ Blk W z 27 #[.int .i64 1, .int .i64 0, .string ⟨#[]⟩, .bool false, .slice none 0 0, .slice none 0 0, .slice none 0 0] ∧ Blk W (z + 1) 27 #[.int .i64 1, .int .i64 1, .string ⟨#[]⟩, .bool false, .slice none 0 0, .slice none 0 0, .slice none 0 0] ∧ Below w.heap.size w W
theorem BP.below {w W W' : World} {z : Nat} (j : BP w z W) (hb : Below W.heap.size W W') : BP w z W' := by
  obtain ⟨⟨dk, dv, ds, dn, dA, da, dc, dB, dd, de, dX, dl, dq, G, c, tr, m, ys, h1, h2, h3, h4⟩, h5, h6, h7, h8⟩ := j
  exact ⟨⟨dk, dv, ds, dn, dA, da, dc, dB, dd, de, dX, dl, dq, G, c, tr, m, ys, h1, h2, h3.to hb, h4.below hb⟩, h5.to hb, h6.to hb, h7.to hb, h8.trans (hb.mono h8.size)⟩
theorem bj_unify {w W : World} {z ba bb : Nat} (j : BJ w z W) (ha : Blk W ba 27 #[.int .i64 1, .int .i64 0, .string ⟨#[]⟩, .bool false, .slice none 0 0, .slice none 0 0, .slice none 0 0, .int .i64 3, .int .i64 0, .string ⟨#[97]⟩, .bool false, .slice none 0 0, .slice none 0 0, .slice none 0 0]) (hb : Blk W bb 27 #[.int .i64 1, .int .i64 1, .string ⟨#[]⟩, .bool false, .slice none 0 0, .slice none 0 0, .slice none 0 0, .int .i64 1, .int .i64 0, .string ⟨#[]⟩, .bool false, .slice none 0 0, .slice none 0 0, .slice none 0 0]) :
    Calls Tryz.prog 44 #[.pointer (some ⟨(w.heap.size + 1), 0, none⟩), .agg #[.int .i64 5, .int .i64 0, .string ⟨#[102]⟩, .bool false, .slice none 0 0, .slice none 0 0, .slice (some ⟨ba, 0, none⟩) 2 2], .agg #[.int .i64 5, .int .i64 0, .string ⟨#[102]⟩, .bool false, .slice none 0 0, .slice none 0 0, .slice (some ⟨bb, 0, none⟩) 2 2], .bool false] W fun e w' => e = .returned (.tuple #[.slice none 0 0, .bool true, .int .i64 0]) ∧ BP w z w' := by
  obtain ⟨G, c, hg, hs⟩ := j.1.hs
  refine (unifyT_any w.heap.size (w.heap.size + 1) w.heap.size G c ⟨#[102]⟩ ⟨#[97]⟩ (by decide) (by decide) false none 0 0 none 0 0 (some ⟨ba, 0, none⟩) 2 false none 0 0 none 0 0 (some ⟨bb, 0, none⟩) 2 W j.2.2.2.size hg hs (tc_fA ha) (tc_fB hb)).mono ?_
  rintro e w' ⟨rfl, ⟨dk, dv, ds, dn, dA, da, dc, dB, dd, de, dX, dl, dq, tr, m, ys, h1, h2, h3, h4⟩, h5, h6, h7⟩
  exact ⟨rfl, ⟨dk, dv, ds, dn, dA, da, dc, dB, dd, de, dX, dl, dq, G, c, tr, m, ys, h1, h2, h3, h4⟩, h5, j.2.1.frT h7 (by decide), j.2.2.1.frT h7 (by decide), j.2.2.2.trans h6⟩
set_option maxHeartbeats 6400000 in
theorem bound_any (w : World) : Calls Tryz.prog 13 #[] w fun e w' => e = .returned (.bool true) ∧ Below w.heap.size w w' := by
  go_enter Tryz.func13, Tryz.ntmps13
  go_wp2_with fail
  refine (sh_new _).mono ?_
  rintro e w1 ⟨rfl, hs1, hb1⟩
  have HS1 := Lib.hid hs1
  have HB1 := Lib.hid hb1
  clear hs1 hb1
  go_wp2_with fail
  refine (sh_fresh w.heap.size (w.heap.size + 1) w.heap.size 0 w1 (by omega) HB1.out.size HS1.out).mono ?_
  rintro e w2 ⟨rfl, hs2, hb2⟩
  have HS2 := Lib.hid hs2
  have HB2 := Lib.hid (HB1.out.trans hb2)
  clear hs2 hb2 HS1 HB1
  unfold vt
  go_wp2_with fail
  refine (sh_fresh w.heap.size (w.heap.size + 1) w.heap.size 1 w2 (by omega) HB2.out.size HS2.out).mono ?_
  rintro e w3 ⟨rfl, hs3, hb3⟩
  have HJ0 : Hid (BJ w w3.heap.size ((w3.alloc (.cells #[.int .i64 1, .int .i64 0, .string ⟨#[]⟩, .bool false, .slice none 0 0, .slice none 0 0, .slice none 0 0] 27)).alloc (.cells #[.int .i64 1, .int .i64 1, .string ⟨#[]⟩, .bool false, .slice none 0 0, .slice none 0 0, .slice none 0 0] 27)).drew) := by
    have hb := below_pair w3 (.cells #[.int .i64 1, .int .i64 0, .string ⟨#[]⟩, .bool false, .slice none 0 0, .slice none 0 0, .slice none 0 0] 27) (.cells #[.int .i64 1, .int .i64 1, .string ⟨#[]⟩, .bool false, .slice none 0 0, .slice none 0 0, .slice none 0 0] 27)
    have h2 : Blk ((w3.alloc (.cells #[.int .i64 1, .int .i64 0, .string ⟨#[]⟩, .bool false, .slice none 0 0, .slice none 0 0, .slice none 0 0] 27)).alloc (.cells #[.int .i64 1, .int .i64 1, .string ⟨#[]⟩, .bool false, .slice none 0 0, .slice none 0 0, .slice none 0 0] 27)).drew (w3.heap.size + 1) 27 #[.int .i64 1, .int .i64 1, .string ⟨#[]⟩, .bool false, .slice none 0 0, .slice none 0 0, .slice none 0 0] := by
      have := (Blk.new (w3.alloc (.cells #[.int .i64 1, .int .i64 0, .string ⟨#[]⟩, .bool false, .slice none 0 0, .slice none 0 0, .slice none 0 0] 27)) 27 #[.int .i64 1, .int .i64 1, .string ⟨#[]⟩, .bool false, .slice none 0 0, .slice none 0 0, .slice none 0 0]).drew
      rw [show (w3.alloc (.cells #[.int .i64 1, .int .i64 0, .string ⟨#[]⟩, .bool false, .slice none 0 0, .slice none 0 0, .slice none 0 0] 27)).heap.size = w3.heap.size + 1 by simp] at this
      exact this
    exact ⟨hs3.below hb.drew, ((Blk.new w3 _ _).alloc _).drew, h2, (HB2.out.trans hb3).trans (hb.drew.mono (HB2.out.trans hb3).size)⟩
  clear hs3 hb3 HS2 HB2
  unfold vt
  go_wp2_with fail
  generalize w3.heap.size = z at HJ0 ⊢
  have HSS : Hid (∀ W, BJ w z W → W.cell? ⟨z, 0, none⟩ = some (.int .i64 1) ∧ W.cell? ⟨z, 1, none⟩ = some (.int .i64 0) ∧ W.cell? ⟨z, 2, none⟩ = some (.string ⟨#[]⟩) ∧ W.cell? ⟨z, 3, none⟩ = some (.bool false) ∧ W.cell? ⟨z, 4, none⟩ = some (.slice none 0 0) ∧ W.cell? ⟨z, 5, none⟩ = some (.slice none 0 0) ∧ W.cell? ⟨z, 6, none⟩ = some (.slice none 0 0) ∧ W.cell? ⟨z + 1, 0, none⟩ = some (.int .i64 1) ∧ W.cell? ⟨z + 1, 1, none⟩ = some (.int .i64 1) ∧ W.cell? ⟨z + 1, 2, none⟩ = some (.string ⟨#[]⟩) ∧ W.cell? ⟨z + 1, 3, none⟩ = some (.bool false) ∧ W.cell? ⟨z + 1, 4, none⟩ = some (.slice none 0 0) ∧ W.cell? ⟨z + 1, 5, none⟩ = some (.slice none 0 0) ∧ W.cell? ⟨z + 1, 6, none⟩ = some (.slice none 0 0)) := fun W j => ⟨j.2.1.cell 0, j.2.1.cell 1, j.2.1.cell 2, j.2.1.cell 3, j.2.1.cell 4, j.2.1.cell 5, j.2.1.cell 6, j.2.2.1.cell 0, j.2.2.1.cell 1, j.2.2.1.cell 2, j.2.2.1.cell 3, j.2.2.1.cell 4, j.2.2.1.cell 5, j.2.2.1.cell 6⟩
  have HSP : Hid (∀ W, BP w z W → W.cell? ⟨z, 0, none⟩ = some (.int .i64 1) ∧ W.cell? ⟨z, 1, none⟩ = some (.int .i64 0) ∧ W.cell? ⟨z, 2, none⟩ = some (.string ⟨#[]⟩) ∧ W.cell? ⟨z, 3, none⟩ = some (.bool false) ∧ W.cell? ⟨z, 4, none⟩ = some (.slice none 0 0) ∧ W.cell? ⟨z, 5, none⟩ = some (.slice none 0 0) ∧ W.cell? ⟨z, 6, none⟩ = some (.slice none 0 0) ∧ W.cell? ⟨z + 1, 0, none⟩ = some (.int .i64 1) ∧ W.cell? ⟨z + 1, 1, none⟩ = some (.int .i64 1) ∧ W.cell? ⟨z + 1, 2, none⟩ = some (.string ⟨#[]⟩) ∧ W.cell? ⟨z + 1, 3, none⟩ = some (.bool false) ∧ W.cell? ⟨z + 1, 4, none⟩ = some (.slice none 0 0) ∧ W.cell? ⟨z + 1, 5, none⟩ = some (.slice none 0 0) ∧ W.cell? ⟨z + 1, 6, none⟩ = some (.slice none 0 0)) := fun W j => ⟨j.2.2.1.cell 0, j.2.2.1.cell 1, j.2.2.1.cell 2, j.2.2.1.cell 3, j.2.2.1.cell 4, j.2.2.1.cell 5, j.2.2.1.cell 6, j.2.2.2.1.cell 0, j.2.2.2.1.cell 1, j.2.2.2.1.cell 2, j.2.2.2.1.cell 3, j.2.2.2.1.cell 4, j.2.2.2.1.cell 5, j.2.2.2.1.cell 6⟩
  refine wp_region_held_drew (S := fun W => W.cell? ⟨z, 0, none⟩ = some (.int .i64 1) ∧ W.cell? ⟨z, 1, none⟩ = some (.int .i64 0) ∧ W.cell? ⟨z, 2, none⟩ = some (.string ⟨#[]⟩) ∧ W.cell? ⟨z, 3, none⟩ = some (.bool false) ∧ W.cell? ⟨z, 4, none⟩ = some (.slice none 0 0) ∧ W.cell? ⟨z, 5, none⟩ = some (.slice none 0 0) ∧ W.cell? ⟨z, 6, none⟩ = some (.slice none 0 0) ∧ W.cell? ⟨z + 1, 0, none⟩ = some (.int .i64 1) ∧ W.cell? ⟨z + 1, 1, none⟩ = some (.int .i64 1) ∧ W.cell? ⟨z + 1, 2, none⟩ = some (.string ⟨#[]⟩) ∧ W.cell? ⟨z + 1, 3, none⟩ = some (.bool false) ∧ W.cell? ⟨z + 1, 4, none⟩ = some (.slice none 0 0) ∧ W.cell? ⟨z + 1, 5, none⟩ = some (.slice none 0 0) ∧ W.cell? ⟨z + 1, 6, none⟩ = some (.slice none 0 0)) (by kernel_rfl) (HSS.out _ HJ0.out) (fun hHeld => ?_)
  generalize World.drew _ = y0 at HJ0 hHeld ⊢
  (refine wpAnyH_take (i := 0) (v := ?_) rfl (by kernel_rfl) (by kernel_rfl) (by kernel_rfl) (fun _ _ _ h => h) (Or.inl ⟨by kernel_rfl, ?_⟩) (by assumption) ?_; rotate_left; ((intro w hSw; (try dsimp only at hSw); go_simp) <;> (with_reducible rfl)); (try (simp only [Act.put, List.setIfInBounds_toArray, List.set_cons_succ, List.set_cons_zero, List.getElem_toArray, List.getElem_cons_succ, List.getElem_cons_zero])))
  (refine wpAnyH_take (i := 1) (v := ?_) rfl (by kernel_rfl) (by kernel_rfl) (by kernel_rfl) (fun _ _ _ h => h) (Or.inl ⟨by kernel_rfl, ?_⟩) (by assumption) ?_; rotate_left; ((intro w hSw; (try dsimp only at hSw); go_simp) <;> (with_reducible rfl)); (try (simp only [Act.put, List.setIfInBounds_toArray, List.set_cons_succ, List.set_cons_zero, List.getElem_toArray, List.getElem_cons_succ, List.getElem_cons_zero])))
  (refine wpAnyH_take (i := 2) (v := ?_) rfl (by kernel_rfl) (by kernel_rfl) (by kernel_rfl) (fun _ _ _ h => h) (Or.inl ⟨by kernel_rfl, ?_⟩) (by assumption) ?_; rotate_left; ((intro w hSw; (try dsimp only at hSw); go_simp) <;> (with_reducible rfl)); (try (simp only [Act.put, List.setIfInBounds_toArray, List.set_cons_succ, List.set_cons_zero, List.getElem_toArray, List.getElem_cons_succ, List.getElem_cons_zero])))
  (refine wpAnyH_take (i := 5) (v := ?_) rfl (by kernel_rfl) (by kernel_rfl) (by kernel_rfl) (fun _ _ _ h => h) (Or.inl ⟨by kernel_rfl, ?_⟩) (by assumption) ?_; rotate_left; ((intro w hSw; (try dsimp only at hSw); go_simp) <;> (with_reducible rfl)); (try (simp only [Act.put, List.setIfInBounds_toArray, List.set_cons_succ, List.set_cons_zero, List.getElem_toArray, List.getElem_cons_succ, List.getElem_cons_zero])))
  (refine wpAnyH_take (i := 6) (v := ?_) rfl (by kernel_rfl) (by kernel_rfl) (by kernel_rfl) (fun _ _ _ h => h) (Or.inl ⟨by kernel_rfl, ?_⟩) (by assumption) ?_; rotate_left; ((intro w hSw; (try dsimp only at hSw); go_simp) <;> (with_reducible rfl)); (try (simp only [Act.put, List.setIfInBounds_toArray, List.set_cons_succ, List.set_cons_zero, List.getElem_toArray, List.getElem_cons_succ, List.getElem_cons_zero])))
  (refine wpAnyH_ready (rs := [3, 7]) (by kernel_rfl) (by simp) ?_; refine AllReadyH.cons rfl (fun K hK => ?_) (AllReadyH.cons rfl (fun K hK => ?_) AllReadyH.nil))
  · go_simp
    have HJ1 := Lib.hid (HJ0.out.below (below_one y0 (.cells #[.int .i64 1, .int .i64 0, .string ⟨#[]⟩, .bool false, .slice none 0 0, .slice none 0 0, .slice none 0 0, .int .i64 3, .int .i64 0, .string ⟨#[97]⟩, .bool false, .slice none 0 0, .slice none 0 0, .slice none 0 0] 27)))
    have HA1 := Lib.hid (Blk.new y0 27 #[.int .i64 1, .int .i64 0, .string ⟨#[]⟩, .bool false, .slice none 0 0, .slice none 0 0, .slice none 0 0, .int .i64 3, .int .i64 0, .string ⟨#[97]⟩, .bool false, .slice none 0 0, .slice none 0 0, .slice none 0 0])
    refine hK.out _ _ (HSS.out _ HJ1.out) (fun hHeld => ?_)
    clear hK K
    (try (simp only [Act.put, List.setIfInBounds_toArray, List.set_cons_succ, List.set_cons_zero, List.getElem_toArray, List.getElem_cons_succ, List.getElem_cons_zero]))
    (refine wpAnyH_ready (rs := [4, 7]) (by kernel_rfl) (by simp) ?_; refine AllReadyH.cons rfl (fun K hK => ?_) (AllReadyH.cons rfl (fun K hK => ?_) AllReadyH.nil))
    · go_simp
      refine (lawF_any ⟨#[102]⟩ _ 2 2 _).mono ?_
      rintro e y4 ⟨rfl, hbb⟩
      have HJ2 := Lib.hid (HJ1.out.below hbb)
      have HA2 := Lib.hid (HA1.out.to hbb)
      clear hbb
      refine hK.out _ _ (HSS.out _ HJ2.out) (fun hHeld => ?_)
      clear hK K
      (try (simp only [Act.put, List.setIfInBounds_toArray, List.set_cons_succ, List.set_cons_zero, List.getElem_toArray, List.getElem_cons_succ, List.getElem_cons_zero]))
      (refine wpAnyH_ready (rs := [7]) (by kernel_rfl) (by simp) ?_; refine AllReadyH.cons rfl (fun K hK => ?_) AllReadyH.nil)
      go_simp
      have HJ3 := Lib.hid (HJ2.out.below (below_one y4 (.cells #[.int .i64 1, .int .i64 1, .string ⟨#[]⟩, .bool false, .slice none 0 0, .slice none 0 0, .slice none 0 0, .int .i64 1, .int .i64 0, .string ⟨#[]⟩, .bool false, .slice none 0 0, .slice none 0 0, .slice none 0 0] 27)))
      have HA3 := Lib.hid (HA2.out.alloc (.cells #[.int .i64 1, .int .i64 1, .string ⟨#[]⟩, .bool false, .slice none 0 0, .slice none 0 0, .slice none 0 0, .int .i64 1, .int .i64 0, .string ⟨#[]⟩, .bool false, .slice none 0 0, .slice none 0 0, .slice none 0 0] 27))
      have HQ3 := Lib.hid (Blk.new y4 27 #[.int .i64 1, .int .i64 1, .string ⟨#[]⟩, .bool false, .slice none 0 0, .slice none 0 0, .slice none 0 0, .int .i64 1, .int .i64 0, .string ⟨#[]⟩, .bool false, .slice none 0 0, .slice none 0 0, .slice none 0 0])
      refine hK.out _ _ (HSS.out _ HJ3.out) (fun hHeld => ?_)
      clear hK K
      (try (simp only [Act.put, List.setIfInBounds_toArray, List.set_cons_succ, List.set_cons_zero, List.getElem_toArray, List.getElem_cons_succ, List.getElem_cons_zero]))
      (refine wpAnyH_ready (rs := [8]) (by kernel_rfl) (by simp) ?_; refine AllReadyH.cons rfl (fun K hK => ?_) AllReadyH.nil)
      go_simp
      refine (lawF_any ⟨#[102]⟩ _ 2 2 _).mono ?_
      rintro e y5 ⟨rfl, hbb⟩
      have HJ4 := Lib.hid (HJ3.out.below hbb)
      have HA4 := Lib.hid (HA3.out.to hbb)
      have HQ4 := Lib.hid (HQ3.out.to hbb)
      clear hbb
      refine hK.out _ _ (HSS.out _ HJ4.out) (fun hHeld => ?_)
      clear hK K
      (try (simp only [Act.put, List.setIfInBounds_toArray, List.set_cons_succ, List.set_cons_zero, List.getElem_toArray, List.getElem_cons_succ, List.getElem_cons_zero]))
      (refine wpAnyH_ready (rs := [9]) (by kernel_rfl) (by simp) ?_; refine AllReadyH.cons rfl (fun K hK => ?_) AllReadyH.nil)
      go_simp
      with_reducible refine (bj_unify HJ4.out HA4.out HQ4.out).mono ?_
      rintro e y9 ⟨rfl, hp9⟩
      have HP := Lib.hid hp9
      clear hp9
      refine hK.out _ _ (HSP.out _ HP.out) (fun hHeld => ?_)
      clear hK K
      (try (simp only [Act.put, List.setIfInBounds_toArray, List.set_cons_succ, List.set_cons_zero, List.getElem_toArray, List.getElem_cons_succ, List.getElem_cons_zero]))
      (refine wpAnyH_take (i := 10) (v := ?_) rfl (by kernel_rfl) (by kernel_rfl) (by kernel_rfl) (fun _ _ _ h => h) (Or.inl ⟨by kernel_rfl, ?_⟩) (by assumption) ?_; rotate_left; ((intro w hSw; (try dsimp only at hSw); go_simp) <;> (with_reducible rfl)); (try (simp only [Act.put, List.setIfInBounds_toArray, List.set_cons_succ, List.set_cons_zero, List.getElem_toArray, List.getElem_cons_succ, List.getElem_cons_zero])))
      (refine wpAnyH_take (i := 11) (v := ?_) rfl (by kernel_rfl) (by kernel_rfl) (by kernel_rfl) (fun _ _ _ h => h) (Or.inl ⟨by kernel_rfl, ?_⟩) (by assumption) ?_; rotate_left; ((intro w hSw; (try dsimp only at hSw); go_simp) <;> (with_reducible rfl)); (try (simp only [Act.put, List.setIfInBounds_toArray, List.set_cons_succ, List.set_cons_zero, List.getElem_toArray, List.getElem_cons_succ, List.getElem_cons_zero])))
      (refine wpAnyH_take (i := 12) (v := ?_) rfl (by kernel_rfl) (by kernel_rfl) (by kernel_rfl) (fun _ _ _ h => h) (Or.inl ⟨by kernel_rfl, ?_⟩) (by assumption) ?_; rotate_left; ((intro w hSw; (try dsimp only at hSw); go_simp) <;> (with_reducible rfl)); (try (simp only [Act.put, List.setIfInBounds_toArray, List.set_cons_succ, List.set_cons_zero, List.getElem_toArray, List.getElem_cons_succ, List.getElem_cons_zero])))
      (refine wpAnyH_take (i := 13) (v := ?_) rfl (by kernel_rfl) (by kernel_rfl) (by kernel_rfl) (fun _ _ _ h => h) (Or.inl ⟨by kernel_rfl, ?_⟩) (by assumption) ?_; rotate_left; ((intro w hSw; (try dsimp only at hSw); go_simp) <;> (with_reducible rfl)); (try (simp only [Act.put, List.setIfInBounds_toArray, List.set_cons_succ, List.set_cons_zero, List.getElem_toArray, List.getElem_cons_succ, List.getElem_cons_zero])))
      (refine wpAnyH_take (i := 14) (v := ?_) rfl (by kernel_rfl) (by kernel_rfl) (by kernel_rfl) (fun _ _ _ h => h) (Or.inl ⟨by kernel_rfl, ?_⟩) (by assumption) ?_; rotate_left; ((intro w hSw; (try dsimp only at hSw); go_simp) <;> (with_reducible rfl)); (try (simp only [Act.put, List.setIfInBounds_toArray, List.set_cons_succ, List.set_cons_zero, List.getElem_toArray, List.getElem_cons_succ, List.getElem_cons_zero])))
      (refine wpAnyH_take (i := 15) (v := ?_) rfl (by kernel_rfl) (by kernel_rfl) (by kernel_rfl) (fun _ _ _ h => h) (Or.inl ⟨by kernel_rfl, ?_⟩) (by assumption) ?_; rotate_left; ((intro w hSw; (try dsimp only at hSw); go_simp) <;> (with_reducible rfl)); (try (simp only [Act.put, List.setIfInBounds_toArray, List.set_cons_succ, List.set_cons_zero, List.getElem_toArray, List.getElem_cons_succ, List.getElem_cons_zero])))
      (refine wpAnyH_take (i := 16) (v := ?_) rfl (by kernel_rfl) (by kernel_rfl) (by kernel_rfl) (fun _ _ _ h => h) (Or.inl ⟨by kernel_rfl, ?_⟩) (by assumption) ?_; rotate_left; ((intro w hSw; (try dsimp only at hSw); go_simp) <;> (with_reducible rfl)); (try (simp only [Act.put, List.setIfInBounds_toArray, List.set_cons_succ, List.set_cons_zero, List.getElem_toArray, List.getElem_cons_succ, List.getElem_cons_zero])))
      (refine wpAnyH_done (by kernel_rfl) ?_ _)
      clear hHeld HSS HSP
      have HRS : Hid (Calls Tryz.prog 46 #[.pointer (some ⟨(w.heap.size + 1), 0, none⟩), .agg #[.int .i64 1, .int .i64 1, .string ⟨#[]⟩, .bool false, .slice none 0 0, .slice none 0 0, .slice none 0 0]] y9 fun e w1 => ∃ (tn : Bool) (tA : Option Addr) (ta tc : Nat) (tB : Option Addr) (td te : Nat) (tX : Option Addr) (tl tq : Nat), e = .returned (.tuple #[.agg #[.int .i64 3, .int .i64 0, .string ⟨#[97]⟩, .bool tn, .slice tA ta tc, .slice tB td te, .slice tX tl tq], .int .i64 0]) ∧ Hid (BP w z w1)) := by
        obtain ⟨⟨dk, dv, ds, dn, dA, da, dc, dB, dd, de, dX, dl, dq, G, c, tr, m, ys, h1, h2, h3, h4⟩, h5, h6, h7, h8⟩ := HP.out
        refine (resolve_any w.heap.size _ w.heap.size G c m tr ys dk dv ds dn dA da dc dB dd de dX dl dq h1 h2 3 0 ⟨#[97]⟩ ⟨false, [], []⟩ [] y9 h5 h4 h3 (by simp [Tm.sm, smL])).mono ?_
        rintro e w1 ⟨⟨tn, tA, ta, tc, tB, td, te, tX, tl, tq, rfl⟩, hb⟩
        exact ⟨tn, tA, ta, tc, tB, td, te, tX, tl, tq, rfl, HP.out.below hb⟩
      have u0 := HP.out.2.2.2.1.cell 0
      have u1 := HP.out.2.2.2.1.cell 1
      have u2 := HP.out.2.2.2.1.cell 2
      have u3 := HP.out.2.2.2.1.cell 3
      have u4 := HP.out.2.2.2.1.cell 4
      have u5 := HP.out.2.2.2.1.cell 5
      have u6 := HP.out.2.2.2.1.cell 6
      simp only [List.getElem?_toArray, List.getElem?_cons_zero, List.getElem?_cons_succ] at u0 u1 u2 u3 u4 u5 u6
      go_wp2_with fail
      refine HRS.out.mono ?_
      rintro e y10 ⟨tn, tA, ta, tc, tB, td, te, tX, tl, tq, rfl, HP2⟩
      clear HRS u0 u1 u2 u3 u4 u5 u6
      go_wp2_with fail
      have HCN : Hid (Calls Tryz.prog 47 #[.pointer (some ⟨(w.heap.size + 1), 0, none⟩)] (y10.alloc (.cells #[.int .i64 3, .int .i64 0, .string ⟨#[97]⟩, .bool tn, .slice tA ta tc, .slice tB td te, .slice tX tl tq] 27)) fun e w1 => e = .returned (.int .i64 2) ∧ Hid (Below w.heap.size w w1)) := by
        obtain ⟨⟨dk, dv, ds, dn, dA, da, dc, dB, dd, de, dX, dl, dq, G, c, tr, m, ys, h1, h2, h3, h4⟩, h5, h6, h7, h8⟩ := HP2.out.below (below_one y10 (.cells #[.int .i64 3, .int .i64 0, .string ⟨#[97]⟩, .bool tn, .slice tA ta tc, .slice tB td te, .slice tX tl tq] 27))
        obtain ⟨At, nt, ct, rfl⟩ : ∃ A n c, tr = .slice A n c := by
          rcases h4.trail.2 with ⟨h, _⟩ | ⟨g, cap, _, h, _⟩
          · exact ⟨_, _, _, h⟩
          · exact ⟨_, _, _, h⟩
        refine (count_any _ _ _ _ _ 2 c nt ct 0 0 _ h5 h4.blk).mono ?_
        rintro e w1 ⟨rfl, rfl⟩
        exact ⟨rfl, h8⟩
      refine HCN.out.mono ?_
      rintro e y11 ⟨rfl, HBW⟩
      clear HCN HP2 HP
      go_wp2_with fail
      go_ret
      exact ⟨rfl, HBW.out⟩
    · go_simp
      have HJ2 := Lib.hid (HJ1.out.below (below_one (y0.alloc (.cells #[.int .i64 1, .int .i64 0, .string ⟨#[]⟩, .bool false, .slice none 0 0, .slice none 0 0, .slice none 0 0, .int .i64 3, .int .i64 0, .string ⟨#[97]⟩, .bool false, .slice none 0 0, .slice none 0 0, .slice none 0 0] 27)) (.cells #[.int .i64 1, .int .i64 1, .string ⟨#[]⟩, .bool false, .slice none 0 0, .slice none 0 0, .slice none 0 0, .int .i64 1, .int .i64 0, .string ⟨#[]⟩, .bool false, .slice none 0 0, .slice none 0 0, .slice none 0 0] 27)))
      have HA2 := Lib.hid (HA1.out.alloc (.cells #[.int .i64 1, .int .i64 1, .string ⟨#[]⟩, .bool false, .slice none 0 0, .slice none 0 0, .slice none 0 0, .int .i64 1, .int .i64 0, .string ⟨#[]⟩, .bool false, .slice none 0 0, .slice none 0 0, .slice none 0 0] 27))
      have hnb := Blk.new (y0.alloc (.cells #[.int .i64 1, .int .i64 0, .string ⟨#[]⟩, .bool false, .slice none 0 0, .slice none 0 0, .slice none 0 0, .int .i64 3, .int .i64 0, .string ⟨#[97]⟩, .bool false, .slice none 0 0, .slice none 0 0, .slice none 0 0] 27)) 27 #[.int .i64 1, .int .i64 1, .string ⟨#[]⟩, .bool false, .slice none 0 0, .slice none 0 0, .slice none 0 0, .int .i64 1, .int .i64 0, .string ⟨#[]⟩, .bool false, .slice none 0 0, .slice none 0 0, .slice none 0 0]
      rw [show (y0.alloc (.cells #[.int .i64 1, .int .i64 0, .string ⟨#[]⟩, .bool false, .slice none 0 0, .slice none 0 0, .slice none 0 0, .int .i64 3, .int .i64 0, .string ⟨#[97]⟩, .bool false, .slice none 0 0, .slice none 0 0, .slice none 0 0] 27)).heap.size = y0.heap.size + 1 by simp] at hnb
      have HQ2 := Lib.hid hnb
      clear hnb
      refine hK.out _ _ (HSS.out _ HJ2.out) (fun hHeld => ?_)
      clear hK K
      (try (simp only [Act.put, List.setIfInBounds_toArray, List.set_cons_succ, List.set_cons_zero, List.getElem_toArray, List.getElem_cons_succ, List.getElem_cons_zero]))
      (refine wpAnyH_ready (rs := [4]) (by kernel_rfl) (by simp) ?_; refine AllReadyH.cons rfl (fun K hK => ?_) AllReadyH.nil)
      go_simp
      refine (lawF_any ⟨#[102]⟩ _ 2 2 _).mono ?_
      rintro e y4 ⟨rfl, hbb⟩
      have HJ3 := Lib.hid (HJ2.out.below hbb)
      have HA3 := Lib.hid (HA2.out.to hbb)
      have HQ3 := Lib.hid (HQ2.out.to hbb)
      clear hbb
      refine hK.out _ _ (HSS.out _ HJ3.out) (fun hHeld => ?_)
      clear hK K
      (try (simp only [Act.put, List.setIfInBounds_toArray, List.set_cons_succ, List.set_cons_zero, List.getElem_toArray, List.getElem_cons_succ, List.getElem_cons_zero]))
      (refine wpAnyH_ready (rs := [8]) (by kernel_rfl) (by simp) ?_; refine AllReadyH.cons rfl (fun K hK => ?_) AllReadyH.nil)
      go_simp
      refine (lawF_any ⟨#[102]⟩ _ 2 2 _).mono ?_
      rintro e y5 ⟨rfl, hbb⟩
      have HJ4 := Lib.hid (HJ3.out.below hbb)
      have HA4 := Lib.hid (HA3.out.to hbb)
      have HQ4 := Lib.hid (HQ3.out.to hbb)
      clear hbb
      refine hK.out _ _ (HSS.out _ HJ4.out) (fun hHeld => ?_)
      clear hK K
      (try (simp only [Act.put, List.setIfInBounds_toArray, List.set_cons_succ, List.set_cons_zero, List.getElem_toArray, List.getElem_cons_succ, List.getElem_cons_zero]))
      (refine wpAnyH_ready (rs := [9]) (by kernel_rfl) (by simp) ?_; refine AllReadyH.cons rfl (fun K hK => ?_) AllReadyH.nil)
      go_simp
      with_reducible refine (bj_unify HJ4.out HA4.out HQ4.out).mono ?_
      rintro e y9 ⟨rfl, hp9⟩
      have HP := Lib.hid hp9
      clear hp9
      refine hK.out _ _ (HSP.out _ HP.out) (fun hHeld => ?_)
      clear hK K
      (try (simp only [Act.put, List.setIfInBounds_toArray, List.set_cons_succ, List.set_cons_zero, List.getElem_toArray, List.getElem_cons_succ, List.getElem_cons_zero]))
      (refine wpAnyH_take (i := 10) (v := ?_) rfl (by kernel_rfl) (by kernel_rfl) (by kernel_rfl) (fun _ _ _ h => h) (Or.inl ⟨by kernel_rfl, ?_⟩) (by assumption) ?_; rotate_left; ((intro w hSw; (try dsimp only at hSw); go_simp) <;> (with_reducible rfl)); (try (simp only [Act.put, List.setIfInBounds_toArray, List.set_cons_succ, List.set_cons_zero, List.getElem_toArray, List.getElem_cons_succ, List.getElem_cons_zero])))
      (refine wpAnyH_take (i := 11) (v := ?_) rfl (by kernel_rfl) (by kernel_rfl) (by kernel_rfl) (fun _ _ _ h => h) (Or.inl ⟨by kernel_rfl, ?_⟩) (by assumption) ?_; rotate_left; ((intro w hSw; (try dsimp only at hSw); go_simp) <;> (with_reducible rfl)); (try (simp only [Act.put, List.setIfInBounds_toArray, List.set_cons_succ, List.set_cons_zero, List.getElem_toArray, List.getElem_cons_succ, List.getElem_cons_zero])))
      (refine wpAnyH_take (i := 12) (v := ?_) rfl (by kernel_rfl) (by kernel_rfl) (by kernel_rfl) (fun _ _ _ h => h) (Or.inl ⟨by kernel_rfl, ?_⟩) (by assumption) ?_; rotate_left; ((intro w hSw; (try dsimp only at hSw); go_simp) <;> (with_reducible rfl)); (try (simp only [Act.put, List.setIfInBounds_toArray, List.set_cons_succ, List.set_cons_zero, List.getElem_toArray, List.getElem_cons_succ, List.getElem_cons_zero])))
      (refine wpAnyH_take (i := 13) (v := ?_) rfl (by kernel_rfl) (by kernel_rfl) (by kernel_rfl) (fun _ _ _ h => h) (Or.inl ⟨by kernel_rfl, ?_⟩) (by assumption) ?_; rotate_left; ((intro w hSw; (try dsimp only at hSw); go_simp) <;> (with_reducible rfl)); (try (simp only [Act.put, List.setIfInBounds_toArray, List.set_cons_succ, List.set_cons_zero, List.getElem_toArray, List.getElem_cons_succ, List.getElem_cons_zero])))
      (refine wpAnyH_take (i := 14) (v := ?_) rfl (by kernel_rfl) (by kernel_rfl) (by kernel_rfl) (fun _ _ _ h => h) (Or.inl ⟨by kernel_rfl, ?_⟩) (by assumption) ?_; rotate_left; ((intro w hSw; (try dsimp only at hSw); go_simp) <;> (with_reducible rfl)); (try (simp only [Act.put, List.setIfInBounds_toArray, List.set_cons_succ, List.set_cons_zero, List.getElem_toArray, List.getElem_cons_succ, List.getElem_cons_zero])))
      (refine wpAnyH_take (i := 15) (v := ?_) rfl (by kernel_rfl) (by kernel_rfl) (by kernel_rfl) (fun _ _ _ h => h) (Or.inl ⟨by kernel_rfl, ?_⟩) (by assumption) ?_; rotate_left; ((intro w hSw; (try dsimp only at hSw); go_simp) <;> (with_reducible rfl)); (try (simp only [Act.put, List.setIfInBounds_toArray, List.set_cons_succ, List.set_cons_zero, List.getElem_toArray, List.getElem_cons_succ, List.getElem_cons_zero])))
      (refine wpAnyH_take (i := 16) (v := ?_) rfl (by kernel_rfl) (by kernel_rfl) (by kernel_rfl) (fun _ _ _ h => h) (Or.inl ⟨by kernel_rfl, ?_⟩) (by assumption) ?_; rotate_left; ((intro w hSw; (try dsimp only at hSw); go_simp) <;> (with_reducible rfl)); (try (simp only [Act.put, List.setIfInBounds_toArray, List.set_cons_succ, List.set_cons_zero, List.getElem_toArray, List.getElem_cons_succ, List.getElem_cons_zero])))
      (refine wpAnyH_done (by kernel_rfl) ?_ _)
      clear hHeld HSS HSP
      have HRS : Hid (Calls Tryz.prog 46 #[.pointer (some ⟨(w.heap.size + 1), 0, none⟩), .agg #[.int .i64 1, .int .i64 1, .string ⟨#[]⟩, .bool false, .slice none 0 0, .slice none 0 0, .slice none 0 0]] y9 fun e w1 => ∃ (tn : Bool) (tA : Option Addr) (ta tc : Nat) (tB : Option Addr) (td te : Nat) (tX : Option Addr) (tl tq : Nat), e = .returned (.tuple #[.agg #[.int .i64 3, .int .i64 0, .string ⟨#[97]⟩, .bool tn, .slice tA ta tc, .slice tB td te, .slice tX tl tq], .int .i64 0]) ∧ Hid (BP w z w1)) := by
        obtain ⟨⟨dk, dv, ds, dn, dA, da, dc, dB, dd, de, dX, dl, dq, G, c, tr, m, ys, h1, h2, h3, h4⟩, h5, h6, h7, h8⟩ := HP.out
        refine (resolve_any w.heap.size _ w.heap.size G c m tr ys dk dv ds dn dA da dc dB dd de dX dl dq h1 h2 3 0 ⟨#[97]⟩ ⟨false, [], []⟩ [] y9 h5 h4 h3 (by simp [Tm.sm, smL])).mono ?_
        rintro e w1 ⟨⟨tn, tA, ta, tc, tB, td, te, tX, tl, tq, rfl⟩, hb⟩
        exact ⟨tn, tA, ta, tc, tB, td, te, tX, tl, tq, rfl, HP.out.below hb⟩
      have u0 := HP.out.2.2.2.1.cell 0
      have u1 := HP.out.2.2.2.1.cell 1
      have u2 := HP.out.2.2.2.1.cell 2
      have u3 := HP.out.2.2.2.1.cell 3
      have u4 := HP.out.2.2.2.1.cell 4
      have u5 := HP.out.2.2.2.1.cell 5
      have u6 := HP.out.2.2.2.1.cell 6
      simp only [List.getElem?_toArray, List.getElem?_cons_zero, List.getElem?_cons_succ] at u0 u1 u2 u3 u4 u5 u6
      go_wp2_with fail
      refine HRS.out.mono ?_
      rintro e y10 ⟨tn, tA, ta, tc, tB, td, te, tX, tl, tq, rfl, HP2⟩
      clear HRS u0 u1 u2 u3 u4 u5 u6
      go_wp2_with fail
      have HCN : Hid (Calls Tryz.prog 47 #[.pointer (some ⟨(w.heap.size + 1), 0, none⟩)] (y10.alloc (.cells #[.int .i64 3, .int .i64 0, .string ⟨#[97]⟩, .bool tn, .slice tA ta tc, .slice tB td te, .slice tX tl tq] 27)) fun e w1 => e = .returned (.int .i64 2) ∧ Hid (Below w.heap.size w w1)) := by
        obtain ⟨⟨dk, dv, ds, dn, dA, da, dc, dB, dd, de, dX, dl, dq, G, c, tr, m, ys, h1, h2, h3, h4⟩, h5, h6, h7, h8⟩ := HP2.out.below (below_one y10 (.cells #[.int .i64 3, .int .i64 0, .string ⟨#[97]⟩, .bool tn, .slice tA ta tc, .slice tB td te, .slice tX tl tq] 27))
        obtain ⟨At, nt, ct, rfl⟩ : ∃ A n c, tr = .slice A n c := by
          rcases h4.trail.2 with ⟨h, _⟩ | ⟨g, cap, _, h, _⟩
          · exact ⟨_, _, _, h⟩
          · exact ⟨_, _, _, h⟩
        refine (count_any _ _ _ _ _ 2 c nt ct 0 0 _ h5 h4.blk).mono ?_
        rintro e w1 ⟨rfl, rfl⟩
        exact ⟨rfl, h8⟩
      refine HCN.out.mono ?_
      rintro e y11 ⟨rfl, HBW⟩
      clear HCN HP2 HP
      go_wp2_with fail
      go_ret
      exact ⟨rfl, HBW.out⟩
  · go_simp
    have HJ1 := Lib.hid (HJ0.out.below (below_one y0 (.cells #[.int .i64 1, .int .i64 1, .string ⟨#[]⟩, .bool false, .slice none 0 0, .slice none 0 0, .slice none 0 0, .int .i64 1, .int .i64 0, .string ⟨#[]⟩, .bool false, .slice none 0 0, .slice none 0 0, .slice none 0 0] 27)))
    have HQ1 := Lib.hid (Blk.new y0 27 #[.int .i64 1, .int .i64 1, .string ⟨#[]⟩, .bool false, .slice none 0 0, .slice none 0 0, .slice none 0 0, .int .i64 1, .int .i64 0, .string ⟨#[]⟩, .bool false, .slice none 0 0, .slice none 0 0, .slice none 0 0])
    refine hK.out _ _ (HSS.out _ HJ1.out) (fun hHeld => ?_)
    clear hK K
    (try (simp only [Act.put, List.setIfInBounds_toArray, List.set_cons_succ, List.set_cons_zero, List.getElem_toArray, List.getElem_cons_succ, List.getElem_cons_zero]))
    (refine wpAnyH_ready (rs := [3]) (by kernel_rfl) (by simp) ?_; refine AllReadyH.cons rfl (fun K hK => ?_) AllReadyH.nil)
    go_simp
    have HJ2 := Lib.hid (HJ1.out.below (below_one (y0.alloc (.cells #[.int .i64 1, .int .i64 1, .string ⟨#[]⟩, .bool false, .slice none 0 0, .slice none 0 0, .slice none 0 0, .int .i64 1, .int .i64 0, .string ⟨#[]⟩, .bool false, .slice none 0 0, .slice none 0 0, .slice none 0 0] 27)) (.cells #[.int .i64 1, .int .i64 0, .string ⟨#[]⟩, .bool false, .slice none 0 0, .slice none 0 0, .slice none 0 0, .int .i64 3, .int .i64 0, .string ⟨#[97]⟩, .bool false, .slice none 0 0, .slice none 0 0, .slice none 0 0] 27)))
    have HQ2 := Lib.hid (HQ1.out.alloc (.cells #[.int .i64 1, .int .i64 0, .string ⟨#[]⟩, .bool false, .slice none 0 0, .slice none 0 0, .slice none 0 0, .int .i64 3, .int .i64 0, .string ⟨#[97]⟩, .bool false, .slice none 0 0, .slice none 0 0, .slice none 0 0] 27))
    have hnb := Blk.new (y0.alloc (.cells #[.int .i64 1, .int .i64 1, .string ⟨#[]⟩, .bool false, .slice none 0 0, .slice none 0 0, .slice none 0 0, .int .i64 1, .int .i64 0, .string ⟨#[]⟩, .bool false, .slice none 0 0, .slice none 0 0, .slice none 0 0] 27)) 27 #[.int .i64 1, .int .i64 0, .string ⟨#[]⟩, .bool false, .slice none 0 0, .slice none 0 0, .slice none 0 0, .int .i64 3, .int .i64 0, .string ⟨#[97]⟩, .bool false, .slice none 0 0, .slice none 0 0, .slice none 0 0]
    rw [show (y0.alloc (.cells #[.int .i64 1, .int .i64 1, .string ⟨#[]⟩, .bool false, .slice none 0 0, .slice none 0 0, .slice none 0 0, .int .i64 1, .int .i64 0, .string ⟨#[]⟩, .bool false, .slice none 0 0, .slice none 0 0, .slice none 0 0] 27)).heap.size = y0.heap.size + 1 by simp] at hnb
    have HA2 := Lib.hid hnb
    clear hnb
    refine hK.out _ _ (HSS.out _ HJ2.out) (fun hHeld => ?_)
    clear hK K
    (try (simp only [Act.put, List.setIfInBounds_toArray, List.set_cons_succ, List.set_cons_zero, List.getElem_toArray, List.getElem_cons_succ, List.getElem_cons_zero]))
    (refine wpAnyH_ready (rs := [4]) (by kernel_rfl) (by simp) ?_; refine AllReadyH.cons rfl (fun K hK => ?_) AllReadyH.nil)
    go_simp
    refine (lawF_any ⟨#[102]⟩ _ 2 2 _).mono ?_
    rintro e y4 ⟨rfl, hbb⟩
    have HJ3 := Lib.hid (HJ2.out.below hbb)
    have HA3 := Lib.hid (HA2.out.to hbb)
    have HQ3 := Lib.hid (HQ2.out.to hbb)
    clear hbb
    refine hK.out _ _ (HSS.out _ HJ3.out) (fun hHeld => ?_)
    clear hK K
    (try (simp only [Act.put, List.setIfInBounds_toArray, List.set_cons_succ, List.set_cons_zero, List.getElem_toArray, List.getElem_cons_succ, List.getElem_cons_zero]))
    (refine wpAnyH_ready (rs := [8]) (by kernel_rfl) (by simp) ?_; refine AllReadyH.cons rfl (fun K hK => ?_) AllReadyH.nil)
    go_simp
    refine (lawF_any ⟨#[102]⟩ _ 2 2 _).mono ?_
    rintro e y5 ⟨rfl, hbb⟩
    have HJ4 := Lib.hid (HJ3.out.below hbb)
    have HA4 := Lib.hid (HA3.out.to hbb)
    have HQ4 := Lib.hid (HQ3.out.to hbb)
    clear hbb
    refine hK.out _ _ (HSS.out _ HJ4.out) (fun hHeld => ?_)
    clear hK K
    (try (simp only [Act.put, List.setIfInBounds_toArray, List.set_cons_succ, List.set_cons_zero, List.getElem_toArray, List.getElem_cons_succ, List.getElem_cons_zero]))
    (refine wpAnyH_ready (rs := [9]) (by kernel_rfl) (by simp) ?_; refine AllReadyH.cons rfl (fun K hK => ?_) AllReadyH.nil)
    go_simp
    with_reducible refine (bj_unify HJ4.out HA4.out HQ4.out).mono ?_
    rintro e y9 ⟨rfl, hp9⟩
    have HP := Lib.hid hp9
    clear hp9
    refine hK.out _ _ (HSP.out _ HP.out) (fun hHeld => ?_)
    clear hK K
    (try (simp only [Act.put, List.setIfInBounds_toArray, List.set_cons_succ, List.set_cons_zero, List.getElem_toArray, List.getElem_cons_succ, List.getElem_cons_zero]))
    (refine wpAnyH_take (i := 10) (v := ?_) rfl (by kernel_rfl) (by kernel_rfl) (by kernel_rfl) (fun _ _ _ h => h) (Or.inl ⟨by kernel_rfl, ?_⟩) (by assumption) ?_; rotate_left; ((intro w hSw; (try dsimp only at hSw); go_simp) <;> (with_reducible rfl)); (try (simp only [Act.put, List.setIfInBounds_toArray, List.set_cons_succ, List.set_cons_zero, List.getElem_toArray, List.getElem_cons_succ, List.getElem_cons_zero])))
    (refine wpAnyH_take (i := 11) (v := ?_) rfl (by kernel_rfl) (by kernel_rfl) (by kernel_rfl) (fun _ _ _ h => h) (Or.inl ⟨by kernel_rfl, ?_⟩) (by assumption) ?_; rotate_left; ((intro w hSw; (try dsimp only at hSw); go_simp) <;> (with_reducible rfl)); (try (simp only [Act.put, List.setIfInBounds_toArray, List.set_cons_succ, List.set_cons_zero, List.getElem_toArray, List.getElem_cons_succ, List.getElem_cons_zero])))
    (refine wpAnyH_take (i := 12) (v := ?_) rfl (by kernel_rfl) (by kernel_rfl) (by kernel_rfl) (fun _ _ _ h => h) (Or.inl ⟨by kernel_rfl, ?_⟩) (by assumption) ?_; rotate_left; ((intro w hSw; (try dsimp only at hSw); go_simp) <;> (with_reducible rfl)); (try (simp only [Act.put, List.setIfInBounds_toArray, List.set_cons_succ, List.set_cons_zero, List.getElem_toArray, List.getElem_cons_succ, List.getElem_cons_zero])))
    (refine wpAnyH_take (i := 13) (v := ?_) rfl (by kernel_rfl) (by kernel_rfl) (by kernel_rfl) (fun _ _ _ h => h) (Or.inl ⟨by kernel_rfl, ?_⟩) (by assumption) ?_; rotate_left; ((intro w hSw; (try dsimp only at hSw); go_simp) <;> (with_reducible rfl)); (try (simp only [Act.put, List.setIfInBounds_toArray, List.set_cons_succ, List.set_cons_zero, List.getElem_toArray, List.getElem_cons_succ, List.getElem_cons_zero])))
    (refine wpAnyH_take (i := 14) (v := ?_) rfl (by kernel_rfl) (by kernel_rfl) (by kernel_rfl) (fun _ _ _ h => h) (Or.inl ⟨by kernel_rfl, ?_⟩) (by assumption) ?_; rotate_left; ((intro w hSw; (try dsimp only at hSw); go_simp) <;> (with_reducible rfl)); (try (simp only [Act.put, List.setIfInBounds_toArray, List.set_cons_succ, List.set_cons_zero, List.getElem_toArray, List.getElem_cons_succ, List.getElem_cons_zero])))
    (refine wpAnyH_take (i := 15) (v := ?_) rfl (by kernel_rfl) (by kernel_rfl) (by kernel_rfl) (fun _ _ _ h => h) (Or.inl ⟨by kernel_rfl, ?_⟩) (by assumption) ?_; rotate_left; ((intro w hSw; (try dsimp only at hSw); go_simp) <;> (with_reducible rfl)); (try (simp only [Act.put, List.setIfInBounds_toArray, List.set_cons_succ, List.set_cons_zero, List.getElem_toArray, List.getElem_cons_succ, List.getElem_cons_zero])))
    (refine wpAnyH_take (i := 16) (v := ?_) rfl (by kernel_rfl) (by kernel_rfl) (by kernel_rfl) (fun _ _ _ h => h) (Or.inl ⟨by kernel_rfl, ?_⟩) (by assumption) ?_; rotate_left; ((intro w hSw; (try dsimp only at hSw); go_simp) <;> (with_reducible rfl)); (try (simp only [Act.put, List.setIfInBounds_toArray, List.set_cons_succ, List.set_cons_zero, List.getElem_toArray, List.getElem_cons_succ, List.getElem_cons_zero])))
    (refine wpAnyH_done (by kernel_rfl) ?_ _)
    clear hHeld HSS HSP
    have HRS : Hid (Calls Tryz.prog 46 #[.pointer (some ⟨(w.heap.size + 1), 0, none⟩), .agg #[.int .i64 1, .int .i64 1, .string ⟨#[]⟩, .bool false, .slice none 0 0, .slice none 0 0, .slice none 0 0]] y9 fun e w1 => ∃ (tn : Bool) (tA : Option Addr) (ta tc : Nat) (tB : Option Addr) (td te : Nat) (tX : Option Addr) (tl tq : Nat), e = .returned (.tuple #[.agg #[.int .i64 3, .int .i64 0, .string ⟨#[97]⟩, .bool tn, .slice tA ta tc, .slice tB td te, .slice tX tl tq], .int .i64 0]) ∧ Hid (BP w z w1)) := by
      obtain ⟨⟨dk, dv, ds, dn, dA, da, dc, dB, dd, de, dX, dl, dq, G, c, tr, m, ys, h1, h2, h3, h4⟩, h5, h6, h7, h8⟩ := HP.out
      refine (resolve_any w.heap.size _ w.heap.size G c m tr ys dk dv ds dn dA da dc dB dd de dX dl dq h1 h2 3 0 ⟨#[97]⟩ ⟨false, [], []⟩ [] y9 h5 h4 h3 (by simp [Tm.sm, smL])).mono ?_
      rintro e w1 ⟨⟨tn, tA, ta, tc, tB, td, te, tX, tl, tq, rfl⟩, hb⟩
      exact ⟨tn, tA, ta, tc, tB, td, te, tX, tl, tq, rfl, HP.out.below hb⟩
    have u0 := HP.out.2.2.2.1.cell 0
    have u1 := HP.out.2.2.2.1.cell 1
    have u2 := HP.out.2.2.2.1.cell 2
    have u3 := HP.out.2.2.2.1.cell 3
    have u4 := HP.out.2.2.2.1.cell 4
    have u5 := HP.out.2.2.2.1.cell 5
    have u6 := HP.out.2.2.2.1.cell 6
    simp only [List.getElem?_toArray, List.getElem?_cons_zero, List.getElem?_cons_succ] at u0 u1 u2 u3 u4 u5 u6
    go_wp2_with fail
    refine HRS.out.mono ?_
    rintro e y10 ⟨tn, tA, ta, tc, tB, td, te, tX, tl, tq, rfl, HP2⟩
    clear HRS u0 u1 u2 u3 u4 u5 u6
    go_wp2_with fail
    have HCN : Hid (Calls Tryz.prog 47 #[.pointer (some ⟨(w.heap.size + 1), 0, none⟩)] (y10.alloc (.cells #[.int .i64 3, .int .i64 0, .string ⟨#[97]⟩, .bool tn, .slice tA ta tc, .slice tB td te, .slice tX tl tq] 27)) fun e w1 => e = .returned (.int .i64 2) ∧ Hid (Below w.heap.size w w1)) := by
      obtain ⟨⟨dk, dv, ds, dn, dA, da, dc, dB, dd, de, dX, dl, dq, G, c, tr, m, ys, h1, h2, h3, h4⟩, h5, h6, h7, h8⟩ := HP2.out.below (below_one y10 (.cells #[.int .i64 3, .int .i64 0, .string ⟨#[97]⟩, .bool tn, .slice tA ta tc, .slice tB td te, .slice tX tl tq] 27))
      obtain ⟨At, nt, ct, rfl⟩ : ∃ A n c, tr = .slice A n c := by
        rcases h4.trail.2 with ⟨h, _⟩ | ⟨g, cap, _, h, _⟩
        · exact ⟨_, _, _, h⟩
        · exact ⟨_, _, _, h⟩
      refine (count_any _ _ _ _ _ 2 c nt ct 0 0 _ h5 h4.blk).mono ?_
      rintro e w1 ⟨rfl, rfl⟩
      exact ⟨rfl, h8⟩
    refine HCN.out.mono ?_
    rintro e y11 ⟨rfl, HBW⟩
    clear HCN HP2 HP
    go_wp2_with fail
    go_ret
    exact ⟨rfl, HBW.out⟩
end Go.Proofs.YtkfnpcilanheiaaGreat

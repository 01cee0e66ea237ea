/- (*heap.unifier).again, the first time, at two compounds of variables and atoms. -/
import Derived.Test.YtkfnpcilanheiaaGreatJo38
import Derived.Test.YtkfnpcilanheiaaGreatJo40
set_option linter.unusedVariables false
set_option linter.unusedSimpArgs false
set_option maxRecDepth 100000
namespace Go.Proofs.YtkfnpcilanheiaaGreat
open Go.RowKit NumB
structure GS (B h U : Nat) (st : Value) (p md m1 m2 : Nat) (X Y xarr yarr : Array Value) (xb yb : Nat) (w : World) (n : Nat) (W : World) : Prop where
  ns : NameS W p m1 m2 n
  u : Blk W U 152 #[.pointer (some ⟨h, 0, none⟩), .bool false, .pointer (some ⟨p, 0, none⟩), .map (some md), .slice none 0 0, st]
  x : Blk W w.heap.size 27 X
  y : Blk W (w.heap.size + 1) 27 Y
  xr : Blk W xb 27 xarr
  yr : Blk W yb 27 yarr
  mm : W.heap[md]? = some (.map #[] 0)
  n1 : ¬ KN m1 m2 md
  fr : FrT [some 152, none] w W
  be : Below B w W
theorem GS.below {B h U : Nat} {st : Value} {p md m1 m2 : Nat} {X Y xarr yarr : Array Value} {xb yb : Nat} {w : World} {n : Nat} {W W' : World} (g : GS B h U st p md m1 m2 X Y xarr yarr xb yb w n W) (hB : B ≤ W.heap.size) (hb : Below W.heap.size W W') : GS B h U st p md m1 m2 X Y xarr yarr xb yb w n W' :=
  ⟨g.ns.below hb, g.u.to hb, g.x.to hb, g.y.to hb, g.xr.to hb, g.yr.to hb, (hb.block _ (heap_lt g.mm)).trans g.mm, g.n1, g.fr.trans (FrT.of_below hb), g.be.trans (hb.mono hB)⟩
theorem GS.drew {B h U : Nat} {st : Value} {p md m1 m2 : Nat} {X Y xarr yarr : Array Value} {xb yb : Nat} {w : World} {n : Nat} {W : World} (g : GS B h U st p md m1 m2 X Y xarr yarr xb yb w n W) : GS B h U st p md m1 m2 X Y xarr yarr xb yb w n W.drew :=
  ⟨g.ns.drew, g.u.drew, g.x.drew, g.y.drew, g.xr.drew, g.yr.drew, g.mm, g.n1, g.fr.drew, g.be.drew⟩
theorem GS.name {B h U : Nat} {st : Value} {p md m1 m2 : Nat} {X Y xarr yarr : Array Value} {xb yb : Nat} {w : World} {n n' : Nat} {W W' : World} (g : GS B h U st p md m1 m2 X Y xarr yarr xb yb w n W) (hk : Kept (KN m1 m2) W W') (hn : NameS W' p m1 m2 n') (hm : B ≤ m1 ∧ B ≤ m2) (hB : B ≤ W.heap.size) : GS B h U st p md m1 m2 X Y xarr yarr xb yb w n' W' :=
  have hf : FrT [none] W W' := g.ns.frame hk (by decide)
  ⟨hn, g.u.frT hf (by decide), g.x.frT hf (by decide), g.y.frT hf (by decide), g.xr.frT hf (by decide), g.yr.frT hf (by decide), (hk.block _ (heap_lt g.mm) g.n1).trans g.mm, g.n1, g.fr.trans (hf.mono (by decide)), ⟨hk.os.trans g.be.os, hk.tape.trans g.be.tape, hk.output.trans g.be.output, Nat.le_trans g.be.size hk.size, fun k h => (hk.block k (by omega) (fun e => by rcases e with rfl | rfl <;> omega)).trans (g.be.block k h)⟩⟩
theorem GS.key {B h U : Nat} {st : Value} {p md m1 m2 : Nat} {X Y xarr yarr : Array Value} {xb yb : Nat} {w : World} {n K : Nat} {W : World} {c0 c1 : Value} (g : GS B h U st p md m1 m2 X Y xarr yarr xb yb w n W ∧ B ≤ W.heap.size) (hk : Blk W K 197 #[c0, c1]) (hK : w.heap.size ≤ K) (hB : B ≤ w.heap.size) (v0 v1 : Value) :
    (GS B h U st p md m1 m2 X Y xarr yarr xb yb w n ((W.setCell ⟨K, 0, none⟩ v0).setCell ⟨K, 1, none⟩ v1) ∧ B ≤ ((W.setCell ⟨K, 0, none⟩ v0).setCell ⟨K, 1, none⟩ v1).heap.size) ∧ Blk ((W.setCell ⟨K, 0, none⟩ v0).setCell ⟨K, 1, none⟩ v1) K 197 #[v0, v1] := by
  have hk1 := hk.set_ 0 v0
  have hk2 := hk1.set_ 1 v1
  simp only [List.setIfInBounds_toArray, List.set_cons_succ, List.set_cons_zero] at hk1 hk2
  have hf : FrT [some 197] W ((W.setCell ⟨K, 0, none⟩ v0).setCell ⟨K, 1, none⟩ v1) := ((FrT.refl _ _).setCell (p := ⟨K, 0, none⟩) hk (by decide) _).setCell (p := ⟨K, 1, none⟩) hk1 (by decide) _
  obtain ⟨g, hs⟩ := g
  refine ⟨⟨⟨g.ns.frT hf (by decide) (by decide) (by decide), g.u.frT hf (by decide), g.x.frT hf (by decide), g.y.frT hf (by decide), g.xr.frT hf (by decide), g.yr.frT hf (by decide), hf _ _ g.mm (NotT.map (by decide)), g.n1, ?_, (g.be.setCell (p := ⟨K, 0, none⟩) (Nat.le_trans hB hK) _).setCell (p := ⟨K, 1, none⟩) (Nat.le_trans hB hK) _⟩, by simpa using hs⟩, hk2⟩
  intro k o hk' ho
  have h1 := g.fr k o hk' ho
  have hne : k ≠ K := by have := heap_lt hk'; omega
  exact (Below.heap_setCell _ ⟨K, 1, none⟩ v1 k hne).trans ((Below.heap_setCell _ ⟨K, 0, none⟩ v0 k hne).trans h1)
theorem GS.drewN {B h U : Nat} {st : Value} {p md m1 m2 : Nat} {X Y xarr yarr : Array Value} {xb yb : Nat} {w : World} {n K : Nat} {W : World} {cs : Array Value} (g : (GS B h U st p md m1 m2 X Y xarr yarr xb yb w n W ∧ B ≤ W.heap.size) ∧ Blk W K 197 cs) (q : Nat) : (GS B h U st p md m1 m2 X Y xarr yarr xb yb w n (W.drewN q) ∧ B ≤ (W.drewN q).heap.size) ∧ Blk (W.drewN q) K 197 cs :=
  have hb : Below W.heap.size W (W.drewN q) := below_drewN (Below.refl _ _) q
  ⟨⟨g.1.1.below g.1.2 hb, g.1.2⟩, g.2.to hb⟩
theorem GS.putKey {B h U : Nat} {st : Value} {p md m1 m2 : Nat} {X Y xarr yarr : Array Value} {xb yb : Nat} {w : World} {n K : Nat} {W : World} {cs : Array Value} {i j : Int} (g : (GS B h U st p md m1 m2 X Y xarr yarr xb yb w n W ∧ B ≤ W.heap.size) ∧ Blk W K 197 cs) (hi : i64ok i) (hj : i64ok j) (hB : B ≤ md) :
    ∃ z, (Instr.mapUpdate 150 (.map (some md)) (.agg #[.int .i64 i, .int .i64 j]) (.bool true)).run Tryz.prog W = .ok () z ∧ US z U h (.pointer (some ⟨p, 0, none⟩)) (.map (some md)) st ∧ Blk z K 197 cs ∧ FrT [some 152, none] w z ∧ Below B w z := by
  have hM : MapK TwoK (fun _ => True) W md 0 := ⟨#[], 0, g.1.1.mm, rfl, by simp⟩
  obtain ⟨z, n', hr, _, _, hk⟩ := mapPut_any (et := 4) (keys_two W) (mt := 150) (by kernel_rfl) (key_two hi hj) (v := .bool true) trivial hM
  have hne : ∀ {k : Nat} {c : Array Value} {T : TypeId} {f : Nat × Nat}, W.heap[k]? = some (Obj.cells c T f) → ¬ k = md := fun hc e => by
    subst e
    rw [g.1.1.mm] at hc; cases hc
  have hf : FrT [none] W z := (FrT.refl _ W).kept hk fun k e o ho hno => by
    subst e
    rw [g.1.1.mm] at ho
    exact hno.2 (by decide) _ _ (Option.some.inj ho).symm
  exact ⟨z, hr, hk.blk g.1.1.u (hne g.1.1.u), hk.blk g.2 (hne g.2), g.1.1.fr.trans (hf.mono (by decide)), ⟨hk.os.trans g.1.1.be.os, hk.tape.trans g.1.1.be.tape, hk.output.trans g.1.1.be.output, Nat.le_trans g.1.1.be.size hk.size, fun k h => (hk.block k (by have := g.1.2; omega) (by show ¬ k = md; omega)).trans (g.1.1.be.block k h)⟩⟩
set_option maxHeartbeats 6400000 in
theorem again_any (B h U : Nat) (st : Value) (xv : Int) (xs : ByteArray) (xn : Bool) (xA : Option Addr) (xa xc : Nat) (xB : Option Addr) (xd xe xb xo xl xq : Nat) (xarr : Array Value) (hxl : 0 < xl) (hxl2 : xl ≤ 100) (hxv : i64ok xv) (hxs : xs.size ≤ 1000) (hxr : LeafRow xarr xo xl) (yv : Int) (ys : ByteArray) (yn : Bool) (yA : Option Addr) (ya yc : Nat) (yB : Option Addr) (yd ye yb yo yl yq : Nat) (yarr : Array Value) (hyl : 0 < yl) (hyl2 : yl ≤ 100) (hyv : i64ok yv) (hys : ys.size ≤ 1000) (hyr : LeafRow yarr yo yl) (w : World) (hB : B ≤ U) (hx : Blk w xb 27 xarr) (hy : Blk w yb 27 yarr) (hU : US w U h (.pointer none) (.map none) st) :
    Calls Tryz.prog 182 #[.pointer (some ⟨U, 0, none⟩), .agg #[.int .i64 5, .int .i64 xv, .string xs, .bool xn, .slice xA xa xc, .slice xB xd xe, .slice (some ⟨xb, xo, none⟩) xl xq], .agg #[.int .i64 5, .int .i64 yv, .string ys, .bool yn, .slice yA ya yc, .slice yB yd ye, .slice (some ⟨yb, yo, none⟩) yl yq]] w fun e w' => e = .returned (.bool false) ∧ (∃ N' M', US w' U h N' M' st) ∧ FrT [some 152, none] w w' ∧ Below B w w' := by
  have hmm := @run_makeMap Tryz.prog
  have HX := Lib.hid hx
  have HY := Lib.hid hy
  have HXR := Lib.hid hxr
  have HYR := Lib.hid hyr
  have HB := Lib.hid hB
  have HBU := hU.lt
  have HBA := Lib.hid (below_pair w (.cells #[.int .i64 5, .int .i64 xv, .string xs, .bool xn, .slice xA xa xc, .slice xB xd xe, .slice (some ⟨xb, xo, none⟩) xl xq] 27) (.cells #[.int .i64 5, .int .i64 yv, .string ys, .bool yn, .slice yA ya yc, .slice yB yd ye, .slice (some ⟨yb, yo, none⟩) yl yq] 27))
  have HT4 : Hid (Blk ((w.alloc (.cells #[.int .i64 5, .int .i64 xv, .string xs, .bool xn, .slice xA xa xc, .slice xB xd xe, .slice (some ⟨xb, xo, none⟩) xl xq] 27)).alloc (.cells #[.int .i64 5, .int .i64 yv, .string ys, .bool yn, .slice yA ya yc, .slice yB yd ye, .slice (some ⟨yb, yo, none⟩) yl yq] 27)) w.heap.size 27 #[.int .i64 5, .int .i64 xv, .string xs, .bool xn, .slice xA xa xc, .slice xB xd xe, .slice (some ⟨xb, xo, none⟩) xl xq]) := (Blk.new w _ _).alloc _
  have HT5 : Hid (Blk ((w.alloc (.cells #[.int .i64 5, .int .i64 xv, .string xs, .bool xn, .slice xA xa xc, .slice xB xd xe, .slice (some ⟨xb, xo, none⟩) xl xq] 27)).alloc (.cells #[.int .i64 5, .int .i64 yv, .string ys, .bool yn, .slice yA ya yc, .slice yB yd ye, .slice (some ⟨yb, yo, none⟩) yl yq] 27)) (w.heap.size + 1) 27 #[.int .i64 5, .int .i64 yv, .string ys, .bool yn, .slice yA ya yc, .slice yB yd ye, .slice (some ⟨yb, yo, none⟩) yl yq]) := by
    have := Blk.new (w.alloc (.cells #[.int .i64 5, .int .i64 xv, .string xs, .bool xn, .slice xA xa xc, .slice xB xd xe, .slice (some ⟨xb, xo, none⟩) xl xq] 27)) 27 #[.int .i64 5, .int .i64 yv, .string ys, .bool yn, .slice yA ya yc, .slice yB yd ye, .slice (some ⟨yb, yo, none⟩) yl yq]
    rw [show (w.alloc (.cells #[.int .i64 5, .int .i64 xv, .string xs, .bool xn, .slice xA xa xc, .slice xB xd xe, .slice (some ⟨xb, xo, none⟩) xl xq] 27)).heap.size = w.heap.size + 1 by simp] at this
    exact this
  have HU1 : Hid (Blk ((w.alloc (.cells #[.int .i64 5, .int .i64 xv, .string xs, .bool xn, .slice xA xa xc, .slice xB xd xe, .slice (some ⟨xb, xo, none⟩) xl xq] 27)).alloc (.cells #[.int .i64 5, .int .i64 yv, .string ys, .bool yn, .slice yA ya yc, .slice yB yd ye, .slice (some ⟨yb, yo, none⟩) yl yq] 27)) U 152 #[.pointer (some ⟨h, 0, none⟩), .bool false, .pointer none, .map none, .slice none 0 0, st]) := Blk.to hU HBA.out
  have u2 := HU1.out.cell 2
  have u3 := HU1.out.cell 3
  simp only [List.getElem?_toArray, List.getElem?_cons_zero, List.getElem?_cons_succ] at u2 u3
  clear hx hy hxr hyr hB hU
  go_enter Tryz.func182, Tryz.ntmps182
  go_wp2_with fail
  refine (newInterner_ns _).mono ?_
  rintro e w1 ⟨p, m1, m2, rfl, hn, hb, hmn⟩
  have HN1 := Lib.hid hn
  have HM0 : Hid (U ≤ m1 ∧ U ≤ m2 ∧ m1 < w1.heap.size ∧ m2 < w1.heap.size) := ⟨by have := HBA.out.size; omega, by have := HBA.out.size; omega, hmn.2.1, hmn.2.2.2⟩
  clear hmn
  have HU2 := Lib.hid (HU1.out.to hb)
  have HT4b := Lib.hid (HT4.out.to hb)
  have HT5b := Lib.hid (HT5.out.to hb)
  have HW1 := Lib.hid (HBA.out.trans (hb.mono HBA.out.size))
  clear hn hb u2 u3
  have HBM := Lib.hid (below_one w1 (.map #[] 0))
  have HU3 := Lib.hid (HU2.out.to HBM.out)
  have u2 := HU3.out.cell 2
  have u3 := HU3.out.cell 3
  simp only [List.getElem?_toArray, List.getElem?_cons_zero, List.getElem?_cons_succ] at u2 u3
  have z2 := HU3.out.frozen 2
  have z3 := HU3.out.frozen 3
  go_wp2_with fail
  have HM1 : Hid (B ≤ m1 ∧ B ≤ m2 ∧ m1 < w1.heap.size ∧ m2 < w1.heap.size) := ⟨by have := HM0.out; have := HB.out; omega, by have := HM0.out; have := HB.out; omega, HM0.out.2.2.1, HM0.out.2.2.2⟩
  have HU4 := (HU3.out.set_ 2 (.pointer (some ⟨p, 0, none⟩))).set_ 3 (.map (some w1.heap.size))
  simp only [List.setIfInBounds_toArray, List.set_cons_succ, List.set_cons_zero] at HU4
  have HF4 : FrT [some 152] (w1.alloc (.map #[] 0)) (((w1.alloc (.map #[] 0)).setCell ⟨U, 2, none⟩ (.pointer (some ⟨p, 0, none⟩))).setCell ⟨U, 3, none⟩ (.map (some w1.heap.size))) := ((FrT.refl _ _).setCell (p := ⟨U, 2, none⟩) HU3.out (by decide) _).setCell (p := ⟨U, 3, none⟩) (HU3.out.set_ 2 (.pointer (some ⟨p, 0, none⟩))) (by decide) _
  have HE4 : Below B w (((w1.alloc (.map #[] 0)).setCell ⟨U, 2, none⟩ (.pointer (some ⟨p, 0, none⟩))).setCell ⟨U, 3, none⟩ (.map (some w1.heap.size))) := (((HW1.out.trans (HBM.out.mono HW1.out.size)).mono (by have := HB.out; omega)).setCell (p := ⟨U, 2, none⟩) HB.out _).setCell (p := ⟨U, 3, none⟩) HB.out _
  have HMD : (w1.alloc (.map #[] 0)).heap[w1.heap.size]? = some (.map #[] 0) := heap_alloc_new w1 _
  have HGS : GS B h U st p w1.heap.size m1 m2 #[.int .i64 5, .int .i64 xv, .string xs, .bool xn, .slice xA xa xc, .slice xB xd xe, .slice (some ⟨xb, xo, none⟩) xl xq] #[.int .i64 5, .int .i64 yv, .string ys, .bool yn, .slice yA ya yc, .slice yB yd ye, .slice (some ⟨yb, yo, none⟩) yl yq] xarr yarr xb yb w 0 (((w1.alloc (.map #[] 0)).setCell ⟨U, 2, none⟩ (.pointer (some ⟨p, 0, none⟩))).setCell ⟨U, 3, none⟩ (.map (some w1.heap.size))) :=
    ⟨(HN1.out.below HBM.out).frT HF4 (by decide) (by decide) (by decide), HU4, (HT4b.out.to HBM.out).frT HF4 (by decide), (HT5b.out.to HBM.out).frT HF4 (by decide), (HX.out.to (HW1.out.trans (HBM.out.mono HW1.out.size))).frT HF4 (by decide), (HY.out.to (HW1.out.trans (HBM.out.mono HW1.out.size))).frT HF4 (by decide), HF4 _ _ HMD (NotT.map (by decide)), (fun e => by rcases e with e | e <;> (have := HM0.out; omega)), ((FrT.of_below (HW1.out.trans (HBM.out.mono HW1.out.size))).trans (HF4.mono (by decide))), HE4⟩
  clear HU4 HF4 HE4 HMD u2 u3 z2 z3 HU3 HU2 HT4b HT5b HN1 HBM HU1 HT4 HT5 HBA HX HY
  generalize hy2 : ((w1.alloc (.map #[] 0)).setCell ⟨U, 2, none⟩ (.pointer (some ⟨p, 0, none⟩))).setCell ⟨U, 3, none⟩ (.map (some w1.heap.size)) = y2 at *
  have HG2 : Hid (GS B h U st p w1.heap.size m1 m2 #[.int .i64 5, .int .i64 xv, .string xs, .bool xn, .slice xA xa xc, .slice xB xd xe, .slice (some ⟨xb, xo, none⟩) xl xq] #[.int .i64 5, .int .i64 yv, .string ys, .bool yn, .slice yA ya yc, .slice yB yd ye, .slice (some ⟨yb, yo, none⟩) yl yq] xarr yarr xb yb w 0 y2) := HGS
  have HB2 : Hid (B ≤ y2.heap.size) := Nat.le_trans (by have := HB.out; omega) HG2.out.be.size
  have HMDB : Hid (B ≤ w1.heap.size) := by show _ ≤ _; have := HM1.out; omega
  generalize hmd : w1.heap.size = md at *
  clear hy2 HGS HW1 hmd
  have HS1 : Hid (∀ n W, GS B h U st p md m1 m2 #[.int .i64 5, .int .i64 xv, .string xs, .bool xn, .slice xA xa xc, .slice xB xd xe, .slice (some ⟨xb, xo, none⟩) xl xq] #[.int .i64 5, .int .i64 yv, .string ys, .bool yn, .slice yA ya yc, .slice yB yd ye, .slice (some ⟨yb, yo, none⟩) yl yq] xarr yarr xb yb w n W → (W.cell? ⟨U, 2, none⟩ = some (.pointer (some ⟨p, 0, none⟩)) ∧ W.cell? ⟨w.heap.size, 0, none⟩ = some (.int .i64 5) ∧ W.cell? ⟨w.heap.size, 1, none⟩ = some (.int .i64 xv) ∧ W.cell? ⟨w.heap.size, 2, none⟩ = some (.string xs) ∧ W.cell? ⟨w.heap.size, 3, none⟩ = some (.bool xn) ∧ W.cell? ⟨w.heap.size, 4, none⟩ = some (.slice xA xa xc) ∧ W.cell? ⟨w.heap.size, 5, none⟩ = some (.slice xB xd xe) ∧ W.cell? ⟨w.heap.size, 6, none⟩ = some (.slice (some ⟨xb, xo, none⟩) xl xq) ∧ W.cell? ⟨w.heap.size + 1, 0, none⟩ = some (.int .i64 5) ∧ W.cell? ⟨w.heap.size + 1, 1, none⟩ = some (.int .i64 yv) ∧ W.cell? ⟨w.heap.size + 1, 2, none⟩ = some (.string ys) ∧ W.cell? ⟨w.heap.size + 1, 3, none⟩ = some (.bool yn) ∧ W.cell? ⟨w.heap.size + 1, 4, none⟩ = some (.slice yA ya yc) ∧ W.cell? ⟨w.heap.size + 1, 5, none⟩ = some (.slice yB yd ye) ∧ W.cell? ⟨w.heap.size + 1, 6, none⟩ = some (.slice (some ⟨yb, yo, none⟩) yl yq))) := fun n W g => ⟨g.u.cell 2, g.x.cell 0, g.x.cell 1, g.x.cell 2, g.x.cell 3, g.x.cell 4, g.x.cell 5, g.x.cell 6, g.y.cell 0, g.y.cell 1, g.y.cell 2, g.y.cell 3, g.y.cell 4, g.y.cell 5, g.y.cell 6⟩
  have HCX : Hid (∀ n W, n ≤ 300 → B ≤ W.heap.size → GS B h U st p md m1 m2 #[.int .i64 5, .int .i64 xv, .string xs, .bool xn, .slice xA xa xc, .slice xB xd xe, .slice (some ⟨xb, xo, none⟩) xl xq] #[.int .i64 5, .int .i64 yv, .string ys, .bool yn, .slice yA ya yc, .slice yB yd ye, .slice (some ⟨yb, yo, none⟩) yl yq] xarr yarr xb yb w n W → Calls Tryz.prog 255 #[.pointer (some ⟨p, 0, none⟩), .agg #[.int .i64 5, .int .i64 xv, .string xs, .bool xn, .slice xA xa xc, .slice xB xd xe, .slice (some ⟨xb, xo, none⟩) xl xq]] W fun e w' => ∃ i, e = .returned (.int .i64 i) ∧ Hid (i64ok i) ∧ Hid (GS B h U st p md m1 m2 #[.int .i64 5, .int .i64 xv, .string xs, .bool xn, .slice xA xa xc, .slice xB xd xe, .slice (some ⟨xb, xo, none⟩) xl xq] #[.int .i64 5, .int .i64 yv, .string ys, .bool yn, .slice yA ya yc, .slice yB yd ye, .slice (some ⟨yb, yo, none⟩) yl yq] xarr yarr xb yb w (n + 102) w' ∧ B ≤ w'.heap.size) ∧ Hid (FrT [none] W w') ∧ (w'.cell? ⟨U, 2, none⟩ = some (.pointer (some ⟨p, 0, none⟩)) ∧ w'.cell? ⟨w.heap.size, 0, none⟩ = some (.int .i64 5) ∧ w'.cell? ⟨w.heap.size, 1, none⟩ = some (.int .i64 xv) ∧ w'.cell? ⟨w.heap.size, 2, none⟩ = some (.string xs) ∧ w'.cell? ⟨w.heap.size, 3, none⟩ = some (.bool xn) ∧ w'.cell? ⟨w.heap.size, 4, none⟩ = some (.slice xA xa xc) ∧ w'.cell? ⟨w.heap.size, 5, none⟩ = some (.slice xB xd xe) ∧ w'.cell? ⟨w.heap.size, 6, none⟩ = some (.slice (some ⟨xb, xo, none⟩) xl xq) ∧ w'.cell? ⟨w.heap.size + 1, 0, none⟩ = some (.int .i64 5) ∧ w'.cell? ⟨w.heap.size + 1, 1, none⟩ = some (.int .i64 yv) ∧ w'.cell? ⟨w.heap.size + 1, 2, none⟩ = some (.string ys) ∧ w'.cell? ⟨w.heap.size + 1, 3, none⟩ = some (.bool yn) ∧ w'.cell? ⟨w.heap.size + 1, 4, none⟩ = some (.slice yA ya yc) ∧ w'.cell? ⟨w.heap.size + 1, 5, none⟩ = some (.slice yB yd ye) ∧ w'.cell? ⟨w.heap.size + 1, 6, none⟩ = some (.slice (some ⟨yb, yo, none⟩) yl yq))) := fun n W hn hBW g => by
    refine (name_comp p m1 m2 n xv xs xn xA xa xc xB xd xe xb xo xl xq xarr hxl hxl2 hxv hxs W g.ns (by omega) g.xr HXR.out).mono ?_
    rintro e w' ⟨i, rfl, hi, hns, hk⟩
    have hg := g.name hk (hns.mono (by omega : _ ≤ n + 102)) ⟨HM1.out.1, HM1.out.2.1⟩ hBW
    exact ⟨i, rfl, hi, ⟨hg, Nat.le_trans hBW hk.size⟩, g.ns.frame hk (by decide), HS1.out _ _ hg⟩
  have HCY : Hid (∀ n W, n ≤ 300 → B ≤ W.heap.size → GS B h U st p md m1 m2 #[.int .i64 5, .int .i64 xv, .string xs, .bool xn, .slice xA xa xc, .slice xB xd xe, .slice (some ⟨xb, xo, none⟩) xl xq] #[.int .i64 5, .int .i64 yv, .string ys, .bool yn, .slice yA ya yc, .slice yB yd ye, .slice (some ⟨yb, yo, none⟩) yl yq] xarr yarr xb yb w n W → Calls Tryz.prog 255 #[.pointer (some ⟨p, 0, none⟩), .agg #[.int .i64 5, .int .i64 yv, .string ys, .bool yn, .slice yA ya yc, .slice yB yd ye, .slice (some ⟨yb, yo, none⟩) yl yq]] W fun e w' => ∃ i, e = .returned (.int .i64 i) ∧ Hid (i64ok i) ∧ Hid (GS B h U st p md m1 m2 #[.int .i64 5, .int .i64 xv, .string xs, .bool xn, .slice xA xa xc, .slice xB xd xe, .slice (some ⟨xb, xo, none⟩) xl xq] #[.int .i64 5, .int .i64 yv, .string ys, .bool yn, .slice yA ya yc, .slice yB yd ye, .slice (some ⟨yb, yo, none⟩) yl yq] xarr yarr xb yb w (n + 102) w' ∧ B ≤ w'.heap.size) ∧ Hid (FrT [none] W w') ∧ (w'.cell? ⟨U, 2, none⟩ = some (.pointer (some ⟨p, 0, none⟩)) ∧ w'.cell? ⟨w.heap.size, 0, none⟩ = some (.int .i64 5) ∧ w'.cell? ⟨w.heap.size, 1, none⟩ = some (.int .i64 xv) ∧ w'.cell? ⟨w.heap.size, 2, none⟩ = some (.string xs) ∧ w'.cell? ⟨w.heap.size, 3, none⟩ = some (.bool xn) ∧ w'.cell? ⟨w.heap.size, 4, none⟩ = some (.slice xA xa xc) ∧ w'.cell? ⟨w.heap.size, 5, none⟩ = some (.slice xB xd xe) ∧ w'.cell? ⟨w.heap.size, 6, none⟩ = some (.slice (some ⟨xb, xo, none⟩) xl xq) ∧ w'.cell? ⟨w.heap.size + 1, 0, none⟩ = some (.int .i64 5) ∧ w'.cell? ⟨w.heap.size + 1, 1, none⟩ = some (.int .i64 yv) ∧ w'.cell? ⟨w.heap.size + 1, 2, none⟩ = some (.string ys) ∧ w'.cell? ⟨w.heap.size + 1, 3, none⟩ = some (.bool yn) ∧ w'.cell? ⟨w.heap.size + 1, 4, none⟩ = some (.slice yA ya yc) ∧ w'.cell? ⟨w.heap.size + 1, 5, none⟩ = some (.slice yB yd ye) ∧ w'.cell? ⟨w.heap.size + 1, 6, none⟩ = some (.slice (some ⟨yb, yo, none⟩) yl yq))) := fun n W hn hBW g => by
    refine (name_comp p m1 m2 n yv ys yn yA ya yc yB yd ye yb yo yl yq yarr hyl hyl2 hyv hys W g.ns (by omega) g.yr HYR.out).mono ?_
    rintro e w' ⟨i, rfl, hi, hns, hk⟩
    have hg := g.name hk (hns.mono (by omega : _ ≤ n + 102)) ⟨HM1.out.1, HM1.out.2.1⟩ hBW
    exact ⟨i, rfl, hi, ⟨hg, Nat.le_trans hBW hk.size⟩, g.ns.frame hk (by decide), HS1.out _ _ hg⟩
  have HGD : Hid (GS B h U st p md m1 m2 #[.int .i64 5, .int .i64 xv, .string xs, .bool xn, .slice xA xa xc, .slice xB xd xe, .slice (some ⟨xb, xo, none⟩) xl xq] #[.int .i64 5, .int .i64 yv, .string ys, .bool yn, .slice yA ya yc, .slice yB yd ye, .slice (some ⟨yb, yo, none⟩) yl yq] xarr yarr xb yb w 0 y2.drew ∧ B ≤ y2.drew.heap.size) := ⟨HG2.out.drew, HB2.out⟩
  have HGE : Hid (GS B h U st p md m1 m2 #[.int .i64 5, .int .i64 xv, .string xs, .bool xn, .slice xA xa xc, .slice xB xd xe, .slice (some ⟨xb, xo, none⟩) xl xq] #[.int .i64 5, .int .i64 yv, .string ys, .bool yn, .slice yA ya yc, .slice yB yd ye, .slice (some ⟨yb, yo, none⟩) yl yq] xarr yarr xb yb w 0 (y2.alloc (.cells #[.int .i64 0, .int .i64 0] 197)).drew ∧ B ≤ (y2.alloc (.cells #[.int .i64 0, .int .i64 0] 197)).drew.heap.size) := ⟨(HG2.out.below HB2.out (below_one y2 _)).drew, Nat.le_trans HB2.out (below_one y2 _).drew.size⟩
  have HKE : Hid (Blk (y2.alloc (.cells #[.int .i64 0, .int .i64 0] 197)).drew y2.heap.size 197 #[.int .i64 0, .int .i64 0]) := (Blk.new y2 _ _).drew
  have HB0 : Hid (B ≤ w.heap.size) := Nat.le_trans HB.out (Nat.le_of_lt HBU)
  have hS2 := HS1.out _ _ HGD.out.1
  have hS2e := HS1.out _ _ HGE.out.1
  go_region_held3 (fun w' => w'.cell? ⟨U, 2, none⟩ = some (.pointer (some ⟨p, 0, none⟩)) ∧ w'.cell? ⟨w.heap.size, 0, none⟩ = some (.int .i64 5) ∧ w'.cell? ⟨w.heap.size, 1, none⟩ = some (.int .i64 xv) ∧ w'.cell? ⟨w.heap.size, 2, none⟩ = some (.string xs) ∧ w'.cell? ⟨w.heap.size, 3, none⟩ = some (.bool xn) ∧ w'.cell? ⟨w.heap.size, 4, none⟩ = some (.slice xA xa xc) ∧ w'.cell? ⟨w.heap.size, 5, none⟩ = some (.slice xB xd xe) ∧ w'.cell? ⟨w.heap.size, 6, none⟩ = some (.slice (some ⟨xb, xo, none⟩) xl xq) ∧ w'.cell? ⟨w.heap.size + 1, 0, none⟩ = some (.int .i64 5) ∧ w'.cell? ⟨w.heap.size + 1, 1, none⟩ = some (.int .i64 yv) ∧ w'.cell? ⟨w.heap.size + 1, 2, none⟩ = some (.string ys) ∧ w'.cell? ⟨w.heap.size + 1, 3, none⟩ = some (.bool yn) ∧ w'.cell? ⟨w.heap.size + 1, 4, none⟩ = some (.slice yA ya yc) ∧ w'.cell? ⟨w.heap.size + 1, 5, none⟩ = some (.slice yB yd ye) ∧ w'.cell? ⟨w.heap.size + 1, 6, none⟩ = some (.slice (some ⟨yb, yo, none⟩) yl yq))
    (with_reducible assumption)
    (first
      | (go_at_call 255; (with_reducible refine (HCX.out 0 y2.drew (by omega) HGD.out.2 HGD.out.1).mono ?_); rintro e y3 ⟨i3, rfl, hi3, HG3, HF3, hS3⟩; have HG3e : Hid (GS B h U st p md m1 m2 #[.int .i64 5, .int .i64 xv, .string xs, .bool xn, .slice xA xa xc, .slice xB xd xe, .slice (some ⟨xb, xo, none⟩) xl xq] #[.int .i64 5, .int .i64 yv, .string ys, .bool yn, .slice yA ya yc, .slice yB yd ye, .slice (some ⟨yb, yo, none⟩) yl yq] xarr yarr xb yb w 102 (y3.alloc (.cells #[.int .i64 0, .int .i64 0] 197)) ∧ B ≤ (y3.alloc (.cells #[.int .i64 0, .int .i64 0] 197)).heap.size) := ⟨HG3.out.1.below HG3.out.2 (below_one y3 _), Nat.le_trans HG3.out.2 (below_one y3 _).size⟩; have HK3 : Hid (Blk (y3.alloc (.cells #[.int .i64 0, .int .i64 0] 197)) y3.heap.size 197 #[.int .i64 0, .int .i64 0]) := Blk.new y3 _ _; have hS3e := HS1.out _ _ HG3e.out.1; have HKL : Hid (w.heap.size ≤ y3.heap.size) := HG3.out.1.be.size)
      | (go_at_call 255; (with_reducible refine (HCX.out 0 (y2.alloc (.cells #[.int .i64 0, .int .i64 0] 197)).drew (by omega) HGE.out.2 HGE.out.1).mono ?_); rintro e y3 ⟨i3, rfl, hi3, HG3, HF3, hS3⟩; have HK3 := Lib.hid (HKE.out.frT HF3.out (by decide)); have HKL : Hid (w.heap.size ≤ y2.heap.size) := HG2.out.be.size)
      | (go_at_call 255; (with_reducible refine (HCY.out 102 y3 (by omega) HG3.out.2 HG3.out.1).mono ?_); rintro e y4 ⟨i4, rfl, hi4, HG4, HF4, hS4⟩; have HK4 := Lib.hid (HK3.out.frT HF4.out (by decide)); have HK5 := Lib.hid (GS.key HG4.out HK4.out HKL.out HB0.out (.int .i64 i3) (.int .i64 i4)); have hS5 := HS1.out _ _ HK5.out.1.1; have c0 := HK4.out.cell 0; have c1 := HK4.out.cell 1; simp only [List.getElem?_toArray, List.getElem?_cons_zero, List.getElem?_cons_succ] at c0 c1; have z0 := HK4.out.frozen 0; have z1 := HK4.out.frozen 1)
      | (go_at_call 255; (with_reducible refine (HCY.out 102 y3 (by omega) HG3.out.2 HG3.out.1).mono ?_); rintro e y4 ⟨i4, rfl, hi4, HG4, HF4, hS4⟩; have HG4e : Hid (GS B h U st p md m1 m2 #[.int .i64 5, .int .i64 xv, .string xs, .bool xn, .slice xA xa xc, .slice xB xd xe, .slice (some ⟨xb, xo, none⟩) xl xq] #[.int .i64 5, .int .i64 yv, .string ys, .bool yn, .slice yA ya yc, .slice yB yd ye, .slice (some ⟨yb, yo, none⟩) yl yq] xarr yarr xb yb w 204 (y4.alloc (.cells #[.int .i64 0, .int .i64 0] 197)) ∧ B ≤ (y4.alloc (.cells #[.int .i64 0, .int .i64 0] 197)).heap.size) := ⟨HG4.out.1.below HG4.out.2 (below_one y4 _), Nat.le_trans HG4.out.2 (below_one y4 _).size⟩; have hS4e := HS1.out _ _ HG4e.out.1; have HK5 : Hid ((GS B h U st p md m1 m2 #[.int .i64 5, .int .i64 xv, .string xs, .bool xn, .slice xA xa xc, .slice xB xd xe, .slice (some ⟨xb, xo, none⟩) xl xq] #[.int .i64 5, .int .i64 yv, .string ys, .bool yn, .slice yA ya yc, .slice yB yd ye, .slice (some ⟨yb, yo, none⟩) yl yq] xarr yarr xb yb w 204 (y4.alloc (.cells #[.int .i64 i3, .int .i64 i4] 197)) ∧ B ≤ (y4.alloc (.cells #[.int .i64 i3, .int .i64 i4] 197)).heap.size) ∧ Blk (y4.alloc (.cells #[.int .i64 i3, .int .i64 i4] 197)) y4.heap.size 197 #[.int .i64 i3, .int .i64 i4]) := ⟨⟨HG4.out.1.below HG4.out.2 (below_one y4 _), Nat.le_trans HG4.out.2 (below_one y4 _).size⟩, Blk.new y4 _ _⟩; have hS5 := HS1.out _ _ HK5.out.1.1)
      | (go_at_call 255; (with_reducible refine (HCY.out 102 (y3.alloc (.cells #[.int .i64 0, .int .i64 0] 197)) (by omega) HG3e.out.2 HG3e.out.1).mono ?_); rintro e y4 ⟨i4, rfl, hi4, HG4, HF4, hS4⟩; have HK4 := Lib.hid (HK3.out.frT HF4.out (by decide)); have HK5 := Lib.hid (GS.key HG4.out HK4.out HKL.out HB0.out (.int .i64 i3) (.int .i64 i4)); have hS5 := HS1.out _ _ HK5.out.1.1; have c0 := HK4.out.cell 0; have c1 := HK4.out.cell 1; simp only [List.getElem?_toArray, List.getElem?_cons_zero, List.getElem?_cons_succ] at c0 c1; have z0 := HK4.out.frozen 0; have z1 := HK4.out.frozen 1))
  all_goals
    clear hS2 hS2e
    have u3 := HK5.out.1.1.u.cell 3
    have k0 := HK5.out.2.cell 0
    have k1 := HK5.out.2.cell 1
    have hmd := HK5.out.1.1.mm
    simp only [List.getElem?_toArray, List.getElem?_cons_zero, List.getElem?_cons_succ] at u3 k0 k1
    have hlook : ∀ W : World, W.heap[md]? = some (.map #[] 0) → (Instr.lookup 150 (.map (some md)) (.agg #[.int .i64 i3, .int .i64 i4]) false).run Tryz.prog W = .ok (.bool false) W := fun W hW => look_empty hW (key_two hi3.out hi4.out)
    go_wp2_with fail
    have HK6 := Lib.hid (GS.drewN HK5.out)
    go_quiet (fail)
    clear u3 k0 k1 hmd hlook
    go_wp2_with fail
    generalize hy6 : World.drewN _ _ = y6
    obtain ⟨q6, hq6⟩ : ∃ q, World.drewN _ q = y6 := ⟨_, hy6⟩
    have HK7 := HK6.out q6
    rw [hq6] at HK7
    obtain ⟨z, hr, hzU, hzK, hzF, hzB⟩ := GS.putKey (GS.drewN HK7 1) hi3.out hi4.out HMDB.out
    rw [← World.drew_is_drewN] at hr
    have u3 := HK7.1.1.u.cell 3
    have k0 := HK7.2.cell 0
    have k1 := HK7.2.cell 1
    simp only [List.getElem?_toArray, List.getElem?_cons_zero, List.getElem?_cons_succ] at u3 k0 k1
    have HZ : Hid ((∃ N' M', US z U h N' M' st) ∧ FrT [some 152, none] w z ∧ Below B w z) := ⟨⟨_, _, hzU⟩, hzF, hzB⟩
    clear hy6 hq6 hzU hzF hzB hzK HK6 HK7
    go_region
    all_goals
      go_wp2_with fail
      go_ret
      exact ⟨rfl, HZ.out⟩
end Go.Proofs.YtkfnpcilanheiaaGreat

/- (*heap.unifier).step at two compounds of one name: their arguments' pairs are pushed. -/
import Derived.Deep.AppendLies
import Derived.Test.YtkfnpcilanheiaaGreatJo37
import Derived.Test.YtkfnpcilanheiaaGreatJo41
set_option linter.unusedVariables false
set_option linter.unusedSimpArgs false
set_option maxRecDepth 100000
namespace Go.Proofs.YtkfnpcilanheiaaGreat
open Go.RowKit NumB
structure PS (B h U : Nat) (X Y xarr yarr : Array Value) (xb yb : Nat) (w : World) (N M st : Value) (n : Nat) (zs : List Value) (W : World) : Prop where
  u : US W U h N M st
  x : Blk W w.heap.size 27 X
  y : Blk W (w.heap.size + 1) 27 Y
  xr : Blk W xb 27 xarr
  yr : Blk W yb 27 yarr
  row : W.ownsRow B 147 14 st n zs
  fr : FrT [some 152, some 147, none] w W
  be : Below B w W
  sz : B ≤ W.heap.size
theorem PS.below {B h U : Nat} {X Y xarr yarr : Array Value} {xb yb : Nat} {w : World} {N M st : Value} {n : Nat} {zs : List Value} {W W' : World} (g : PS B h U X Y xarr yarr xb yb w N M st n zs W) (hb : Below W.heap.size W W') : PS B h U X Y xarr yarr xb yb w N M st n zs W' :=
  ⟨Blk.to g.u hb, g.x.to hb, g.y.to hb, g.xr.to hb, g.yr.to hb, row_frT (ts := []) g.row (FrT.of_below hb) (by simp), g.fr.trans (FrT.of_below hb), g.be.trans (hb.mono g.sz), Nat.le_trans g.sz hb.size⟩
theorem PS.drew {B h U : Nat} {X Y xarr yarr : Array Value} {xb yb : Nat} {w : World} {N M st : Value} {n : Nat} {zs : List Value} {W : World} (g : PS B h U X Y xarr yarr xb yb w N M st n zs W) : PS B h U X Y xarr yarr xb yb w N M st n zs W.drew := g.below (Below.refl _ _).drew
theorem PS.push {B h U : Nat} {X Y xarr yarr : Array Value} {xb yb : Nat} {w : World} {N M st st' : Value} {n m : Nat} {zs zs' : List Value} {W W1 : World} (g : PS B h U X Y xarr yarr xb yb w N M st n zs W) (hB : B ≤ U) (hg : W.grownBy W1 st.ownBlock) (ho : W1.ownsRow B 147 14 st' m zs') :
    (Blk W1 U 152 #[.pointer (some ⟨h, 0, none⟩), .bool false, N, M, .slice none 0 0, st] ∧ Blk W1 w.heap.size 27 X ∧ Blk W1 (w.heap.size + 1) 27 Y ∧ Blk W1 xb 27 xarr ∧ Blk W1 yb 27 yarr) ∧ PS B h U X Y xarr yarr xb yb w N M st' m zs' (W1.setCell ⟨U, 5, none⟩ st') := by
  have hf : FrT [some 147] W W1 := (FrT.refl _ _).grown hg fun k hk => by
    obtain ⟨cs, f, hc⟩ := Lib.ownsRow_kind g.row k hk
    exact ⟨cs, _, f, hc, by decide⟩
  have u1 := Blk.frT g.u hf (by decide)
  have u2 := u1.set_ 5 st'
  simp only [List.setIfInBounds_toArray, List.set_cons_succ, List.set_cons_zero] at u2
  have hf2 : FrT [some 152] W1 (W1.setCell ⟨U, 5, none⟩ st') := (FrT.refl _ _).setCell (p := ⟨U, 5, none⟩) u1 (by decide) _
  have x1 := g.x.frT hf (by decide)
  have y1 := g.y.frT hf (by decide)
  have a1 := g.xr.frT hf (by decide)
  have b1 := g.yr.frT hf (by decide)
  exact ⟨⟨u1, x1, y1, a1, b1⟩, ⟨u2, x1.frT hf2 (by decide), y1.frT hf2 (by decide), a1.frT hf2 (by decide), b1.frT hf2 (by decide), row_frT ho hf2 (by decide), (g.fr.trans (hf.mono (by decide))).trans (hf2.mono (by decide)), (g.be.grown hg g.sz (fun k hk => (g.row.lt k hk).1)).setCell (p := ⟨U, 5, none⟩) hB _, Nat.le_trans g.sz (Nat.le_trans hg.size (by simp))⟩⟩
def rp (pr : Nat → List Value) (l g : Nat) : List Value := ((List.range (l - g)).map fun q => pr (l - 1 - q)).flatten
theorem rp_step (pr : Nat → List Value) {l g : Nat} (h : g < l) : rp pr l g = rp pr l (g + 1) ++ pr g := by
  unfold rp
  rw [show l - g = (l - (g + 1)) + 1 by omega, List.range_succ, List.map_append, List.flatten_append]
  simp
  congr 1
  omega
theorem info_pair : (Tryz.prog.info? 147).map (fun i => (i.zero, i.size, i.bytes)) = some (some (.agg (zt ++ zt).toArray), 14, 224) := by kernel_rfl
theorem ptr_ne {w : World} {b1 o1 b2 o2 : Nat} {c1 c2 : Array Value} {t1 t2 : TypeId} (hne : b1 ≠ b2) (k1 : Blk w b1 t1 c1) (k2 : Blk w b2 t2 c2) : (binOp .eql 155 (.pointer (some ⟨b1, o1, none⟩)) (.pointer (some ⟨b2, o2, none⟩))).run Tryz.prog w = .ok (.bool false) w := by
  have hu : Tryz.prog.underlying 155 = some (.pointer 27) := by kernel_rfl
  have hj : (Tryz.prog.info? 27).map (fun i => i.size) = some 7 := by kernel_rfl
  rcases hi : Tryz.prog.info? 27 with _ | j
  · rw [hi] at hj; cases hj
  · rw [hi] at hj
    have hsz : j.size ≠ 0 := by
      have : j.size = 7 := Option.some.inj hj
      omega
    have hne2 : (⟨b1, o1, none⟩ : Addr) ≠ ⟨b2, o2, none⟩ := fun e => hne (congrArg Addr.block e)
    have k1' : w.heap[(⟨b1, o1, none⟩ : Addr).block]? = some (Obj.cells c1 t1 (0, 0)) := k1
    have k2' : w.heap[(⟨b2, o2, none⟩ : Addr).block]? = some (Obj.cells c2 t2 (0, 0)) := k2
    have h : ∀ d : Nat, (Op.equalIn (d + 1) 155 (.pointer (some ⟨b1, o1, none⟩)) (.pointer (some ⟨b2, o2, none⟩))).run Tryz.prog w = .ok false w := fun d => by
      simp [Op.equalIn, run_underlying hu, sizeOf, typeInfo, hi, hsz, run_sameAddr_other w hne2 k1' k2']
    simp only [binOp]
    simp [Op.equal, Op.maxDepth, h 9999]
set_option maxHeartbeats 6400000 in
theorem step_comp (B h U n l : Nat) (st : Value) (zs0 : List Value) (s0 : ByteArray) (hl : 0 < l) (hl2 : l ≤ 100) (hs0 : s0.size ≤ 1000) (xv : Int) (xn : Bool) (xA : Option Addr) (xa xc : Nat) (xB : Option Addr) (xd xe xb xo xq : Nat) (xarr : Array Value) (hxv : i64ok xv) (hxr : LeafRow xarr xo l) (yv : Int) (yn : Bool) (yA : Option Addr) (ya yc : Nat) (yB : Option Addr) (yd ye yb yo yq : Nat) (yarr : Array Value) (hyv : i64ok yv) (hyr : LeafRow yarr yo l) (pr : Nat → List Value) (hpr : ∀ j, j < l → pr j = (List.range 7).map (fun q => xarr.getD (xo + j * 7 + q) undef) ++ (List.range 7).map (fun q => yarr.getD (yo + j * 7 + q) undef)) (hn : n ≤ 1000) (w : World) (hB : B ≤ U) (hx : Blk w xb 27 xarr) (hy : Blk w yb 27 yarr) (hxy : xb ≠ yb) (hU : US w U h (.pointer none) (.map none) st) (hst : w.ownsRow B 147 14 st n zs0) :
    Calls Tryz.prog 113 #[.pointer (some ⟨U, 0, none⟩), .agg #[.int .i64 5, .int .i64 xv, .string s0, .bool xn, .slice xA xa xc, .slice xB xd xe, .slice (some ⟨xb, xo, none⟩) l xq], .agg #[.int .i64 5, .int .i64 yv, .string s0, .bool yn, .slice yA ya yc, .slice yB yd ye, .slice (some ⟨yb, yo, none⟩) l yq]] w fun e w' => e = .returned (.bool true) ∧ (∃ N' M' st', US w' U h N' M' st' ∧ w'.ownsRow B 147 14 st' (n + l) (zs0 ++ rp pr l 0)) ∧ FrT [some 152, some 147, none] w w' ∧ Below B w w' := by
  have HX := Lib.hid hx
  have HY := Lib.hid hy
  have HXR := Lib.hid hxr
  have HYR := Lib.hid hyr
  have HB := Lib.hid hB
  have HPR := Lib.hid hpr
  have HXY := Lib.hid hxy
  have HBA := Lib.hid (below_pair w (.cells #[.int .i64 5, .int .i64 xv, .string s0, .bool xn, .slice xA xa xc, .slice xB xd xe, .slice (some ⟨xb, xo, none⟩) l xq] 27) (.cells #[.int .i64 5, .int .i64 yv, .string s0, .bool yn, .slice yA ya yc, .slice yB yd ye, .slice (some ⟨yb, yo, none⟩) l yq] 27))
  have HT4 : Hid (Blk ((w.alloc (.cells #[.int .i64 5, .int .i64 xv, .string s0, .bool xn, .slice xA xa xc, .slice xB xd xe, .slice (some ⟨xb, xo, none⟩) l xq] 27)).alloc (.cells #[.int .i64 5, .int .i64 yv, .string s0, .bool yn, .slice yA ya yc, .slice yB yd ye, .slice (some ⟨yb, yo, none⟩) l yq] 27)) w.heap.size 27 #[.int .i64 5, .int .i64 xv, .string s0, .bool xn, .slice xA xa xc, .slice xB xd xe, .slice (some ⟨xb, xo, none⟩) l xq]) := (Blk.new w _ _).alloc _
  have HT5 : Hid (Blk ((w.alloc (.cells #[.int .i64 5, .int .i64 xv, .string s0, .bool xn, .slice xA xa xc, .slice xB xd xe, .slice (some ⟨xb, xo, none⟩) l xq] 27)).alloc (.cells #[.int .i64 5, .int .i64 yv, .string s0, .bool yn, .slice yA ya yc, .slice yB yd ye, .slice (some ⟨yb, yo, none⟩) l yq] 27)) (w.heap.size + 1) 27 #[.int .i64 5, .int .i64 yv, .string s0, .bool yn, .slice yA ya yc, .slice yB yd ye, .slice (some ⟨yb, yo, none⟩) l yq]) := by
    have := Blk.new (w.alloc (.cells #[.int .i64 5, .int .i64 xv, .string s0, .bool xn, .slice xA xa xc, .slice xB xd xe, .slice (some ⟨xb, xo, none⟩) l xq] 27)) 27 #[.int .i64 5, .int .i64 yv, .string s0, .bool yn, .slice yA ya yc, .slice yB yd ye, .slice (some ⟨yb, yo, none⟩) l yq]
    rw [show (w.alloc (.cells #[.int .i64 5, .int .i64 xv, .string s0, .bool xn, .slice xA xa xc, .slice xB xd xe, .slice (some ⟨xb, xo, none⟩) l xq] 27)).heap.size = w.heap.size + 1 by simp] at this
    exact this
  have HBW : Hid (B ≤ w.heap.size) := Nat.le_trans hB (Nat.le_of_lt hU.lt)
  have HP0 : Hid (PS B h U #[.int .i64 5, .int .i64 xv, .string s0, .bool xn, .slice xA xa xc, .slice xB xd xe, .slice (some ⟨xb, xo, none⟩) l xq] #[.int .i64 5, .int .i64 yv, .string s0, .bool yn, .slice yA ya yc, .slice yB yd ye, .slice (some ⟨yb, yo, none⟩) l yq] xarr yarr xb yb w (.pointer none) (.map none) st n zs0 ((w.alloc (.cells #[.int .i64 5, .int .i64 xv, .string s0, .bool xn, .slice xA xa xc, .slice xB xd xe, .slice (some ⟨xb, xo, none⟩) l xq] 27)).alloc (.cells #[.int .i64 5, .int .i64 yv, .string s0, .bool yn, .slice yA ya yc, .slice yB yd ye, .slice (some ⟨yb, yo, none⟩) l yq] 27))) := ⟨Blk.to hU HBA.out, HT4.out, HT5.out, HX.out.to HBA.out, HY.out.to HBA.out, row_frT (ts := []) hst (FrT.of_below HBA.out) (by simp), FrT.of_below HBA.out, HBA.out.mono HBW.out, Nat.le_trans HBW.out HBA.out.size⟩
  have HS0 : Hid (∀ N M st n zs W, PS B h U #[.int .i64 5, .int .i64 xv, .string s0, .bool xn, .slice xA xa xc, .slice xB xd xe, .slice (some ⟨xb, xo, none⟩) l xq] #[.int .i64 5, .int .i64 yv, .string s0, .bool yn, .slice yA ya yc, .slice yB yd ye, .slice (some ⟨yb, yo, none⟩) l yq] xarr yarr xb yb w N M st n zs W → (W.heap[xb]? = some (Obj.cells xarr 27 (0, 0)) ∧ W.heap[yb]? = some (Obj.cells yarr 27 (0, 0)) ∧ W.cell? ⟨w.heap.size, 0, none⟩ = some (.int .i64 5) ∧ W.cell? ⟨w.heap.size, 1, none⟩ = some (.int .i64 xv) ∧ W.cell? ⟨w.heap.size, 2, none⟩ = some (.string s0) ∧ W.cell? ⟨w.heap.size, 3, none⟩ = some (.bool xn) ∧ W.cell? ⟨w.heap.size, 4, none⟩ = some (.slice xA xa xc) ∧ W.cell? ⟨w.heap.size, 5, none⟩ = some (.slice xB xd xe) ∧ W.cell? ⟨w.heap.size, 6, none⟩ = some (.slice (some ⟨xb, xo, none⟩) l xq) ∧ W.cell? ⟨(w.heap.size + 1), 0, none⟩ = some (.int .i64 5) ∧ W.cell? ⟨(w.heap.size + 1), 1, none⟩ = some (.int .i64 yv) ∧ W.cell? ⟨(w.heap.size + 1), 2, none⟩ = some (.string s0) ∧ W.cell? ⟨(w.heap.size + 1), 3, none⟩ = some (.bool yn) ∧ W.cell? ⟨(w.heap.size + 1), 4, none⟩ = some (.slice yA ya yc) ∧ W.cell? ⟨(w.heap.size + 1), 5, none⟩ = some (.slice yB yd ye) ∧ W.cell? ⟨(w.heap.size + 1), 6, none⟩ = some (.slice (some ⟨yb, yo, none⟩) l yq))) := fun N M st n zs W g => ⟨g.xr, g.yr, g.x.cell 0, g.x.cell 1, g.x.cell 2, g.x.cell 3, g.x.cell 4, g.x.cell 5, g.x.cell 6, g.y.cell 0, g.y.cell 1, g.y.cell 2, g.y.cell 3, g.y.cell 4, g.y.cell 5, g.y.cell 6⟩
  obtain ⟨_, _, t0, t1, t2, t3, t4, t5, t6, q0, q1, q2, q3, q4, q5, q6⟩ := HS0.out _ _ _ _ _ _ HP0.out
  have hs0d := HS0.out _ _ _ _ _ _ HP0.out.drew
  have hl1 : (0 : Int) < (l : Int) := by omega
  clear hx hy hxr hyr hB hU hst hpr hxy
  obtain ⟨i0, hi0, hz0, hz1, hz2⟩ := info_parts info_pair
  have HI0 := Lib.hid hi0
  have HZ0 := Lib.hid hz0
  have HZ1 := Lib.hid hz1
  have HZ2 := Lib.hid hz2
  clear hi0 hz0 hz1 hz2
  go_enter Tryz.func113, Tryz.ntmps113
  go_wp2_with fail
  have heq : ∀ W : World, W.heap[xb]? = some (Obj.cells xarr 27 (0, 0)) → W.heap[yb]? = some (Obj.cells yarr 27 (0, 0)) → (binOp .eql 155 (.pointer (some ⟨xb, xo, none⟩)) (.pointer (some ⟨yb, yo, none⟩))).run Tryz.prog W = .ok (.bool false) W := fun W h1 h2 => ptr_ne HXY.out h1 h2
  have HPD : Hid (PS B h U #[.int .i64 5, .int .i64 xv, .string s0, .bool xn, .slice xA xa xc, .slice xB xd xe, .slice (some ⟨xb, xo, none⟩) l xq] #[.int .i64 5, .int .i64 yv, .string s0, .bool yn, .slice yA ya yc, .slice yB yd ye, .slice (some ⟨yb, yo, none⟩) l yq] xarr yarr xb yb w (.pointer none) (.map none) st n zs0 ((w.alloc (.cells #[.int .i64 5, .int .i64 xv, .string s0, .bool xn, .slice xA xa xc, .slice xB xd xe, .slice (some ⟨xb, xo, none⟩) l xq] 27)).alloc (.cells #[.int .i64 5, .int .i64 yv, .string s0, .bool yn, .slice yA ya yc, .slice yB yd ye, .slice (some ⟨yb, yo, none⟩) l yq] 27)).drew) := HP0.out.drew
  have HAx : Hid (∀ W, PS B h U #[.int .i64 5, .int .i64 xv, .string s0, .bool xn, .slice xA xa xc, .slice xB xd xe, .slice (some ⟨xb, xo, none⟩) l xq] #[.int .i64 5, .int .i64 yv, .string s0, .bool yn, .slice yA ya yc, .slice yB yd ye, .slice (some ⟨yb, yo, none⟩) l yq] xarr yarr xb yb w (.pointer none) (.map none) st n zs0 W → Calls Tryz.prog 118 #[.agg #[.int .i64 5, .int .i64 xv, .string s0, .bool xn, .slice xA xa xc, .slice xB xd xe, .slice (some ⟨xb, xo, none⟩) l xq]] W fun e w' => e = .returned (.pointer (some ⟨xb, xo, none⟩)) ∧ Hid (PS B h U #[.int .i64 5, .int .i64 xv, .string s0, .bool xn, .slice xA xa xc, .slice xB xd xe, .slice (some ⟨xb, xo, none⟩) l xq] #[.int .i64 5, .int .i64 yv, .string s0, .bool yn, .slice yA ya yc, .slice yB yd ye, .slice (some ⟨yb, yo, none⟩) l yq] xarr yarr xb yb w (.pointer none) (.map none) st n zs0 w') ∧ (w'.heap[xb]? = some (Obj.cells xarr 27 (0, 0)) ∧ w'.heap[yb]? = some (Obj.cells yarr 27 (0, 0)) ∧ w'.cell? ⟨w.heap.size, 0, none⟩ = some (.int .i64 5) ∧ w'.cell? ⟨w.heap.size, 1, none⟩ = some (.int .i64 xv) ∧ w'.cell? ⟨w.heap.size, 2, none⟩ = some (.string s0) ∧ w'.cell? ⟨w.heap.size, 3, none⟩ = some (.bool xn) ∧ w'.cell? ⟨w.heap.size, 4, none⟩ = some (.slice xA xa xc) ∧ w'.cell? ⟨w.heap.size, 5, none⟩ = some (.slice xB xd xe) ∧ w'.cell? ⟨w.heap.size, 6, none⟩ = some (.slice (some ⟨xb, xo, none⟩) l xq) ∧ w'.cell? ⟨(w.heap.size + 1), 0, none⟩ = some (.int .i64 5) ∧ w'.cell? ⟨(w.heap.size + 1), 1, none⟩ = some (.int .i64 yv) ∧ w'.cell? ⟨(w.heap.size + 1), 2, none⟩ = some (.string s0) ∧ w'.cell? ⟨(w.heap.size + 1), 3, none⟩ = some (.bool yn) ∧ w'.cell? ⟨(w.heap.size + 1), 4, none⟩ = some (.slice yA ya yc) ∧ w'.cell? ⟨(w.heap.size + 1), 5, none⟩ = some (.slice yB yd ye) ∧ w'.cell? ⟨(w.heap.size + 1), 6, none⟩ = some (.slice (some ⟨yb, yo, none⟩) l yq))) := fun W g => by
    refine (at_any 5 xv s0 xn xA xa xc xB xd xe xb xo l xq hl W).mono ?_
    rintro e w' ⟨rfl, hb⟩
    exact ⟨rfl, g.below hb, HS0.out _ _ _ _ _ _ (g.below hb)⟩
  have HAy : Hid (∀ W, PS B h U #[.int .i64 5, .int .i64 xv, .string s0, .bool xn, .slice xA xa xc, .slice xB xd xe, .slice (some ⟨xb, xo, none⟩) l xq] #[.int .i64 5, .int .i64 yv, .string s0, .bool yn, .slice yA ya yc, .slice yB yd ye, .slice (some ⟨yb, yo, none⟩) l yq] xarr yarr xb yb w (.pointer none) (.map none) st n zs0 W → Calls Tryz.prog 118 #[.agg #[.int .i64 5, .int .i64 yv, .string s0, .bool yn, .slice yA ya yc, .slice yB yd ye, .slice (some ⟨yb, yo, none⟩) l yq]] W fun e w' => e = .returned (.pointer (some ⟨yb, yo, none⟩)) ∧ Hid (PS B h U #[.int .i64 5, .int .i64 xv, .string s0, .bool xn, .slice xA xa xc, .slice xB xd xe, .slice (some ⟨xb, xo, none⟩) l xq] #[.int .i64 5, .int .i64 yv, .string s0, .bool yn, .slice yA ya yc, .slice yB yd ye, .slice (some ⟨yb, yo, none⟩) l yq] xarr yarr xb yb w (.pointer none) (.map none) st n zs0 w') ∧ (w'.heap[xb]? = some (Obj.cells xarr 27 (0, 0)) ∧ w'.heap[yb]? = some (Obj.cells yarr 27 (0, 0)) ∧ w'.cell? ⟨w.heap.size, 0, none⟩ = some (.int .i64 5) ∧ w'.cell? ⟨w.heap.size, 1, none⟩ = some (.int .i64 xv) ∧ w'.cell? ⟨w.heap.size, 2, none⟩ = some (.string s0) ∧ w'.cell? ⟨w.heap.size, 3, none⟩ = some (.bool xn) ∧ w'.cell? ⟨w.heap.size, 4, none⟩ = some (.slice xA xa xc) ∧ w'.cell? ⟨w.heap.size, 5, none⟩ = some (.slice xB xd xe) ∧ w'.cell? ⟨w.heap.size, 6, none⟩ = some (.slice (some ⟨xb, xo, none⟩) l xq) ∧ w'.cell? ⟨(w.heap.size + 1), 0, none⟩ = some (.int .i64 5) ∧ w'.cell? ⟨(w.heap.size + 1), 1, none⟩ = some (.int .i64 yv) ∧ w'.cell? ⟨(w.heap.size + 1), 2, none⟩ = some (.string s0) ∧ w'.cell? ⟨(w.heap.size + 1), 3, none⟩ = some (.bool yn) ∧ w'.cell? ⟨(w.heap.size + 1), 4, none⟩ = some (.slice yA ya yc) ∧ w'.cell? ⟨(w.heap.size + 1), 5, none⟩ = some (.slice yB yd ye) ∧ w'.cell? ⟨(w.heap.size + 1), 6, none⟩ = some (.slice (some ⟨yb, yo, none⟩) l yq))) := fun W g => by
    refine (at_any 5 yv s0 yn yA ya yc yB yd ye yb yo l yq hl W).mono ?_
    rintro e w' ⟨rfl, hb⟩
    exact ⟨rfl, g.below hb, HS0.out _ _ _ _ _ _ (g.below hb)⟩
  have HAG : Hid (∀ W, PS B h U #[.int .i64 5, .int .i64 xv, .string s0, .bool xn, .slice xA xa xc, .slice xB xd xe, .slice (some ⟨xb, xo, none⟩) l xq] #[.int .i64 5, .int .i64 yv, .string s0, .bool yn, .slice yA ya yc, .slice yB yd ye, .slice (some ⟨yb, yo, none⟩) l yq] xarr yarr xb yb w (.pointer none) (.map none) st n zs0 W → Calls Tryz.prog 182 #[.pointer (some ⟨U, 0, none⟩), .agg #[.int .i64 5, .int .i64 xv, .string s0, .bool xn, .slice xA xa xc, .slice xB xd xe, .slice (some ⟨xb, xo, none⟩) l xq], .agg #[.int .i64 5, .int .i64 yv, .string s0, .bool yn, .slice yA ya yc, .slice yB yd ye, .slice (some ⟨yb, yo, none⟩) l yq]] W fun e w' => e = .returned (.bool false) ∧ Hid (∃ N M, PS B h U #[.int .i64 5, .int .i64 xv, .string s0, .bool xn, .slice xA xa xc, .slice xB xd xe, .slice (some ⟨xb, xo, none⟩) l xq] #[.int .i64 5, .int .i64 yv, .string s0, .bool yn, .slice yA ya yc, .slice yB yd ye, .slice (some ⟨yb, yo, none⟩) l yq] xarr yarr xb yb w N M st n zs0 w') ∧ (w'.heap[xb]? = some (Obj.cells xarr 27 (0, 0)) ∧ w'.heap[yb]? = some (Obj.cells yarr 27 (0, 0)) ∧ w'.cell? ⟨w.heap.size, 0, none⟩ = some (.int .i64 5) ∧ w'.cell? ⟨w.heap.size, 1, none⟩ = some (.int .i64 xv) ∧ w'.cell? ⟨w.heap.size, 2, none⟩ = some (.string s0) ∧ w'.cell? ⟨w.heap.size, 3, none⟩ = some (.bool xn) ∧ w'.cell? ⟨w.heap.size, 4, none⟩ = some (.slice xA xa xc) ∧ w'.cell? ⟨w.heap.size, 5, none⟩ = some (.slice xB xd xe) ∧ w'.cell? ⟨w.heap.size, 6, none⟩ = some (.slice (some ⟨xb, xo, none⟩) l xq) ∧ w'.cell? ⟨(w.heap.size + 1), 0, none⟩ = some (.int .i64 5) ∧ w'.cell? ⟨(w.heap.size + 1), 1, none⟩ = some (.int .i64 yv) ∧ w'.cell? ⟨(w.heap.size + 1), 2, none⟩ = some (.string s0) ∧ w'.cell? ⟨(w.heap.size + 1), 3, none⟩ = some (.bool yn) ∧ w'.cell? ⟨(w.heap.size + 1), 4, none⟩ = some (.slice yA ya yc) ∧ w'.cell? ⟨(w.heap.size + 1), 5, none⟩ = some (.slice yB yd ye) ∧ w'.cell? ⟨(w.heap.size + 1), 6, none⟩ = some (.slice (some ⟨yb, yo, none⟩) l yq))) := fun W g => by
    refine (again_any B h U st xv s0 xn xA xa xc xB xd xe xb xo l xq xarr hl hl2 hxv hs0 HXR.out yv s0 yn yA ya yc yB yd ye yb yo l yq yarr hl hl2 hyv hs0 HYR.out W HB.out g.xr g.yr g.u).mono ?_
    rintro e w' ⟨rfl, ⟨N, M, hu⟩, hf, hb⟩
    have hp : PS B h U #[.int .i64 5, .int .i64 xv, .string s0, .bool xn, .slice xA xa xc, .slice xB xd xe, .slice (some ⟨xb, xo, none⟩) l xq] #[.int .i64 5, .int .i64 yv, .string s0, .bool yn, .slice yA ya yc, .slice yB yd ye, .slice (some ⟨yb, yo, none⟩) l yq] xarr yarr xb yb w N M st n zs0 w' := ⟨hu, g.x.frT hf (by decide), g.y.frT hf (by decide), g.xr.frT hf (by decide), g.yr.frT hf (by decide), row_frT g.row hf (by decide), g.fr.trans (hf.mono (by decide)), g.be.trans hb, Nat.le_trans g.sz hb.size⟩
    exact ⟨rfl, ⟨N, M, hp⟩, HS0.out _ _ _ _ _ _ hp⟩
  clear t0 t1 t2 t3 t4 t5 t6 q0 q1 q2 q3 q4 q5 q6
  go_region_held3 (fun w' => w'.heap[xb]? = some (Obj.cells xarr 27 (0, 0)) ∧ w'.heap[yb]? = some (Obj.cells yarr 27 (0, 0)) ∧ w'.cell? ⟨w.heap.size, 0, none⟩ = some (.int .i64 5) ∧ w'.cell? ⟨w.heap.size, 1, none⟩ = some (.int .i64 xv) ∧ w'.cell? ⟨w.heap.size, 2, none⟩ = some (.string s0) ∧ w'.cell? ⟨w.heap.size, 3, none⟩ = some (.bool xn) ∧ w'.cell? ⟨w.heap.size, 4, none⟩ = some (.slice xA xa xc) ∧ w'.cell? ⟨w.heap.size, 5, none⟩ = some (.slice xB xd xe) ∧ w'.cell? ⟨w.heap.size, 6, none⟩ = some (.slice (some ⟨xb, xo, none⟩) l xq) ∧ w'.cell? ⟨(w.heap.size + 1), 0, none⟩ = some (.int .i64 5) ∧ w'.cell? ⟨(w.heap.size + 1), 1, none⟩ = some (.int .i64 yv) ∧ w'.cell? ⟨(w.heap.size + 1), 2, none⟩ = some (.string s0) ∧ w'.cell? ⟨(w.heap.size + 1), 3, none⟩ = some (.bool yn) ∧ w'.cell? ⟨(w.heap.size + 1), 4, none⟩ = some (.slice yA ya yc) ∧ w'.cell? ⟨(w.heap.size + 1), 5, none⟩ = some (.slice yB yd ye) ∧ w'.cell? ⟨(w.heap.size + 1), 6, none⟩ = some (.slice (some ⟨yb, yo, none⟩) l yq))
    (with_reducible assumption)
    (first
      | (go_at_call 118; (with_reducible refine (HAx.out _ HPD.out).mono ?_); rintro e y1 ⟨rfl, HPy1, hSy1⟩)
      | (go_at_call 118; (with_reducible refine (HAy.out _ HPy1.out).mono ?_); rintro e y2 ⟨rfl, HPy2, hSy2⟩)
      | (go_at_call 118; (with_reducible refine (HAy.out _ HPD.out).mono ?_); rintro e y1 ⟨rfl, HPy1, hSy1⟩)
      | (go_at_call 118; (with_reducible refine (HAx.out _ HPy1.out).mono ?_); rintro e y2 ⟨rfl, HPy2, hSy2⟩)
      | (go_at_call 182; (with_reducible refine (HAG.out _ HPy2.out).mono ?_); rintro e y3 ⟨rfl, HP3, hS3⟩))
  obtain ⟨N1, M1, hp3⟩ := HP3.out
  have HQ3 : Hid (PS B h U #[.int .i64 5, .int .i64 xv, .string s0, .bool xn, .slice xA xa xc, .slice xB xd xe, .slice (some ⟨xb, xo, none⟩) l xq] #[.int .i64 5, .int .i64 yv, .string s0, .bool yn, .slice yA ya yc, .slice yB yd ye, .slice (some ⟨yb, yo, none⟩) l yq] xarr yarr xb yb w N1 M1 st n zs0 y3) := hp3
  clear hp3 HP3 HAG HAx HAy HPD heq hs0d hS3
  have t6 := HQ3.out.x.cell 6
  simp only [List.getElem?_toArray, List.getElem?_cons_zero, List.getElem?_cons_succ] at t6
  go_wp2_with fail
  go_loopg [7] l (fun gk s7 wr => ∃ (st1 : Value) (zs1 : List Value) (z7 : Int), gk ≤ l ∧ s7 = .int .i64 z7 ∧ z7 = (gk : Int) - 1 ∧ Hid (zs1 = zs0 ++ rp pr l gk) ∧ Hid (PS B h U #[.int .i64 5, .int .i64 xv, .string s0, .bool xn, .slice xA xa xc, .slice xB xd xe, .slice (some ⟨xb, xo, none⟩) l xq] #[.int .i64 5, .int .i64 yv, .string s0, .bool yn, .slice yA ya yc, .slice yB yd ye, .slice (some ⟨yb, yo, none⟩) l yq] xarr yarr xb yb w N1 M1 st1 (n + (l - gk)) zs1 wr))
  case atStart => exact ⟨st, zs0, _, Nat.le_refl _, rfl, by go_num, by show _ = _; simp [rp], by rw [Nat.sub_self]; exact HQ3⟩
  case round =>
    clear t6
    obtain ⟨st1, zs1, z7, hgl, rfl, hz7, HZS, HPR1⟩ := hrel
    by_cases hg : 0 < gk
    · obtain ⟨j, rfl⟩ : ∃ g, gk = g + 1 := ⟨gk - 1, by omega⟩
      obtain rfl : z7 = (j : Int) := by omega
      clear hz7
      have hj1 : (0 : Int) ≤ (j : Int) := by omega
      have hj2 : (j : Int) < (l : Int) := by omega
      obtain ⟨fk, fv, fs, fn, fA, fa, fc, fB, fd, fe, fX, fl, fq, _, _, _, a0, a1, a2, a3, a4, a5, a6⟩ := HXR.out j (by omega)
      obtain ⟨mk, mv, ms, mn, mA, ma, mc, mB, md, me, mX, ml, mq, _, _, _, b0, b1, b2, b3, b4, b5, b6⟩ := HYR.out j (by omega)
      have HSS : Hid (∀ W, Blk W w.heap.size 27 #[.int .i64 5, .int .i64 xv, .string s0, .bool xn, .slice xA xa xc, .slice xB xd xe, .slice (some ⟨xb, xo, none⟩) l xq] → Blk W (w.heap.size + 1) 27 #[.int .i64 5, .int .i64 yv, .string s0, .bool yn, .slice yA ya yc, .slice yB yd ye, .slice (some ⟨yb, yo, none⟩) l yq] → Blk W xb 27 xarr → Blk W yb 27 yarr → (W.cell? ⟨w.heap.size, 6, none⟩ = some (.slice (some ⟨xb, xo, none⟩) l xq) ∧ W.cell? ⟨(w.heap.size + 1), 6, none⟩ = some (.slice (some ⟨yb, yo, none⟩) l yq) ∧ W.cell? ⟨xb, xo + j * 7, none⟩ = some (.int .i64 fk) ∧ W.cell? ⟨xb, xo + j * 7 + 1, none⟩ = some (.int .i64 fv) ∧ W.cell? ⟨xb, xo + j * 7 + 2, none⟩ = some (.string fs) ∧ W.cell? ⟨xb, xo + j * 7 + 3, none⟩ = some (.bool fn) ∧ W.cell? ⟨xb, xo + j * 7 + 4, none⟩ = some (.slice fA fa fc) ∧ W.cell? ⟨xb, xo + j * 7 + 5, none⟩ = some (.slice fB fd fe) ∧ W.cell? ⟨xb, xo + j * 7 + 6, none⟩ = some (.slice fX fl fq) ∧ W.cell? ⟨yb, yo + j * 7, none⟩ = some (.int .i64 mk) ∧ W.cell? ⟨yb, yo + j * 7 + 1, none⟩ = some (.int .i64 mv) ∧ W.cell? ⟨yb, yo + j * 7 + 2, none⟩ = some (.string ms) ∧ W.cell? ⟨yb, yo + j * 7 + 3, none⟩ = some (.bool mn) ∧ W.cell? ⟨yb, yo + j * 7 + 4, none⟩ = some (.slice mA ma mc) ∧ W.cell? ⟨yb, yo + j * 7 + 5, none⟩ = some (.slice mB md me) ∧ W.cell? ⟨yb, yo + j * 7 + 6, none⟩ = some (.slice mX ml mq))) := fun W h1 h2 h3 h4 => ⟨h1.cell 6, h2.cell 6, (h3.cell _).trans a0, (h3.cell _).trans a1, (h3.cell _).trans a2, (h3.cell _).trans a3, (h3.cell _).trans a4, (h3.cell _).trans a5, (h3.cell _).trans a6, (h4.cell _).trans b0, (h4.cell _).trans b1, (h4.cell _).trans b2, (h4.cell _).trans b3, (h4.cell _).trans b4, (h4.cell _).trans b5, (h4.cell _).trans b6⟩
      have HPJ : Hid (pr j = [(Value.int .i64 fk), (Value.int .i64 fv), (Value.string fs), (Value.bool fn), (Value.slice fA fa fc), (Value.slice fB fd fe), (Value.slice fX fl fq), (Value.int .i64 mk), (Value.int .i64 mv), (Value.string ms), (Value.bool mn), (Value.slice mA ma mc), (Value.slice mB md me), (Value.slice mX ml mq)]) := by
        show _ = _
        rw [HPR.out j (by omega)]
        simp [List.range_succ, a0, a1, a2, a3, a4, a5, a6, b0, b1, b2, b3, b4, b5, b6]
      clear a0 a1 a2 a3 a4 a5 a6 b0 b1 b2 b3 b4 b5 b6
      have HRD := Lib.hid HPR1.out.drew
      have HRA : Hid (PS B h U #[.int .i64 5, .int .i64 xv, .string s0, .bool xn, .slice xA xa xc, .slice xB xd xe, .slice (some ⟨xb, xo, none⟩) l xq] #[.int .i64 5, .int .i64 yv, .string s0, .bool yn, .slice yA ya yc, .slice yB yd ye, .slice (some ⟨yb, yo, none⟩) l yq] xarr yarr xb yb w N1 M1 st1 (n + (l - (j + 1))) zs1 (wr.alloc (.cells #[(.int .i64 fk), (.int .i64 fv), (.string fs), (.bool fn), (.slice fA fa fc), (.slice fB fd fe), (.slice fX fl fq), (.int .i64 mk), (.int .i64 mv), (.string ms), (.bool mn), (.slice mA ma mc), (.slice mB md me), (.slice mX ml mq)] 147)).drew) := (HPR1.out.below (below_one wr _)).drew
      have hS2 := HSS.out _ HRD.out.x HRD.out.y HRD.out.xr HRD.out.yr
      have hS3 := HSS.out _ HRA.out.x HRA.out.y HRA.out.xr HRA.out.yr
      have u5 := HRD.out.u.cell 5
      have u5a := HRA.out.u.cell 5
      simp only [List.getElem?_toArray, List.getElem?_cons_zero, List.getElem?_cons_succ] at u5 u5a
      have HNEWS : Hid (∀ q u, [(Value.int .i64 fk), (Value.int .i64 fv), (Value.string fs), (Value.bool fn), (Value.slice fA fa fc), (Value.slice fB fd fe), (Value.slice fX fl fq), (Value.int .i64 mk), (Value.int .i64 mv), (Value.string ms), (Value.bool mn), (Value.slice mA ma mc), (Value.slice mB md me), (Value.slice mX ml mq)][q]? = some u → (wr.alloc (.cells #[(.int .i64 fk), (.int .i64 fv), (.string fs), (.bool fn), (.slice fA fa fc), (.slice fB fd fe), (.slice fX fl fq), (.int .i64 mk), (.int .i64 mv), (.string ms), (.bool mn), (.slice mA ma mc), (.slice mB md me), (.slice mX ml mq)] 147)).drew.cell? ((⟨wr.heap.size, 0, none⟩ : Addr).add q) = some u) := fun q u hq => by
        have := (Blk.new wr 147 #[(.int .i64 fk), (.int .i64 fv), (.string fs), (.bool fn), (.slice fA fa fc), (.slice fB fd fe), (.slice fX fl fq), (.int .i64 mk), (.int .i64 mv), (.string ms), (.bool mn), (.slice mA ma mc), (.slice mB md me), (.slice mX ml mq)]).drew.cell q
        rw [Go.WideShapes.add_plain, Nat.zero_add, this]
        simpa using hq
      have HN1 : Hid (∀ u ∈ [(Value.int .i64 fk), (Value.int .i64 fv), (Value.string fs), (Value.bool fn), (Value.slice fA fa fc), (Value.slice fB fd fe), (Value.slice fX fl fq), (Value.int .i64 mk), (Value.int .i64 mv), (Value.string ms), (Value.bool mn), (Value.slice mA ma mc), (Value.slice mB md me), (Value.slice mX ml mq)], u.oneCell' = true) := fun u hu => by
        simp only [List.mem_cons, List.not_mem_nil, or_false] at hu
        rcases hu with rfl | rfl | rfl | rfl | rfl | rfl | rfl | rfl | rfl | rfl | rfl | rfl | rfl | rfl <;> rfl
      have hnn : n + (l - (j + 1)) + 1 ≤ 2000 := by omega
      have HSZ : Hid (B ≤ (wr.alloc (.cells #[(.int .i64 fk), (.int .i64 fv), (.string fs), (.bool fn), (.slice fA fa fc), (.slice fB fd fe), (.slice fX fl fq), (.int .i64 mk), (.int .i64 mv), (.string ms), (.bool mn), (.slice mA ma mc), (.slice mB md me), (.slice mX ml mq)] 147)).drew.heap.size) := HRA.out.sz
      have HNF : Hid (∀ {st2 : Value} W, PS B h U #[.int .i64 5, .int .i64 xv, .string s0, .bool xn, .slice xA xa xc, .slice xB xd xe, .slice (some ⟨xb, xo, none⟩) l xq] #[.int .i64 5, .int .i64 yv, .string s0, .bool yn, .slice yA ya yc, .slice yB yd ye, .slice (some ⟨yb, yo, none⟩) l yq] xarr yarr xb yb w N1 M1 st2 (n + (l - (j + 1)) + 1) (zs1 ++ [(Value.int .i64 fk), (Value.int .i64 fv), (Value.string fs), (Value.bool fn), (Value.slice fA fa fc), (Value.slice fB fd fe), (Value.slice fX fl fq), (Value.int .i64 mk), (Value.int .i64 mv), (Value.string ms), (Value.bool mn), (Value.slice mA ma mc), (Value.slice mB md me), (Value.slice mX ml mq)]) W → PS B h U #[.int .i64 5, .int .i64 xv, .string s0, .bool xn, .slice xA xa xc, .slice xB xd xe, .slice (some ⟨xb, xo, none⟩) l xq] #[.int .i64 5, .int .i64 yv, .string s0, .bool yn, .slice yA ya yc, .slice yB yd ye, .slice (some ⟨yb, yo, none⟩) l yq] xarr yarr xb yb w N1 M1 st2 (n + (l - j)) (zs1 ++ [(Value.int .i64 fk), (Value.int .i64 fv), (Value.string fs), (Value.bool fn), (Value.slice fA fa fc), (Value.slice fB fd fe), (Value.slice fX fl fq), (Value.int .i64 mk), (Value.int .i64 mv), (Value.string ms), (Value.bool mn), (Value.slice mA ma mc), (Value.slice mB md me), (Value.slice mX ml mq)]) W) := fun W g => by
        rw [show n + (l - j) = n + (l - (j + 1)) + 1 by omega]
        exact g
      go_wp2_with fail
      refine wp_region_held_drew (S := fun w' => w'.cell? ⟨w.heap.size, 6, none⟩ = some (.slice (some ⟨xb, xo, none⟩) l xq) ∧ w'.cell? ⟨(w.heap.size + 1), 6, none⟩ = some (.slice (some ⟨yb, yo, none⟩) l yq) ∧ w'.cell? ⟨xb, xo + j * 7, none⟩ = some (.int .i64 fk) ∧ w'.cell? ⟨xb, xo + j * 7 + 1, none⟩ = some (.int .i64 fv) ∧ w'.cell? ⟨xb, xo + j * 7 + 2, none⟩ = some (.string fs) ∧ w'.cell? ⟨xb, xo + j * 7 + 3, none⟩ = some (.bool fn) ∧ w'.cell? ⟨xb, xo + j * 7 + 4, none⟩ = some (.slice fA fa fc) ∧ w'.cell? ⟨xb, xo + j * 7 + 5, none⟩ = some (.slice fB fd fe) ∧ w'.cell? ⟨xb, xo + j * 7 + 6, none⟩ = some (.slice fX fl fq) ∧ w'.cell? ⟨yb, yo + j * 7, none⟩ = some (.int .i64 mk) ∧ w'.cell? ⟨yb, yo + j * 7 + 1, none⟩ = some (.int .i64 mv) ∧ w'.cell? ⟨yb, yo + j * 7 + 2, none⟩ = some (.string ms) ∧ w'.cell? ⟨yb, yo + j * 7 + 3, none⟩ = some (.bool mn) ∧ w'.cell? ⟨yb, yo + j * 7 + 4, none⟩ = some (.slice mA ma mc) ∧ w'.cell? ⟨yb, yo + j * 7 + 5, none⟩ = some (.slice mB md me) ∧ w'.cell? ⟨yb, yo + j * 7 + 6, none⟩ = some (.slice mX ml mq)) (by kernel_rfl) hS2 (fun hHeld => ?_)
      (refine wpAnyH_take (i := 0) (v := ?_) rfl (by kernel_rfl) (by kernel_rfl) (by kernel_rfl) (fun _ _ _ h => h) (Or.inl ⟨by kernel_rfl, ?_⟩) (by assumption) ?_; rotate_left; ((intro w hSw; (try dsimp only at hSw); go_simp) <;> (with_reducible rfl)); (try (simp only [Act.put, List.setIfInBounds_toArray, List.set_cons_succ, List.set_cons_zero, List.getElem_toArray, List.getElem_cons_succ, List.getElem_cons_zero])))
      (refine wpAnyH_take (i := 1) (v := ?_) rfl (by kernel_rfl) (by kernel_rfl) (by kernel_rfl) (fun _ _ _ h => h) (Or.inl ⟨by kernel_rfl, ?_⟩) (by assumption) ?_; rotate_left; ((intro w hSw; (try dsimp only at hSw); go_simp) <;> (with_reducible rfl)); (try (simp only [Act.put, List.setIfInBounds_toArray, List.set_cons_succ, List.set_cons_zero, List.getElem_toArray, List.getElem_cons_succ, List.getElem_cons_zero])))
      (refine wpAnyH_take (i := 2) (v := ?_) rfl (by kernel_rfl) (by kernel_rfl) (by kernel_rfl) (fun _ _ _ h => h) (Or.inl ⟨by kernel_rfl, ?_⟩) (by assumption) ?_; rotate_left; ((intro w hSw; (try dsimp only at hSw); go_simp) <;> (with_reducible rfl)); (try (simp only [Act.put, List.setIfInBounds_toArray, List.set_cons_succ, List.set_cons_zero, List.getElem_toArray, List.getElem_cons_succ, List.getElem_cons_zero])))
      (refine wpAnyH_take (i := 3) (v := ?_) rfl (by kernel_rfl) (by kernel_rfl) (by kernel_rfl) (fun _ _ _ h => h) (Or.inl ⟨by kernel_rfl, ?_⟩) (by assumption) ?_; rotate_left; ((intro w hSw; (try dsimp only at hSw); go_simp) <;> (with_reducible rfl)); (try (simp only [Act.put, List.setIfInBounds_toArray, List.set_cons_succ, List.set_cons_zero, List.getElem_toArray, List.getElem_cons_succ, List.getElem_cons_zero])))
      (refine wpAnyH_take (i := 5) (v := ?_) rfl (by kernel_rfl) (by kernel_rfl) (by kernel_rfl) (fun _ _ _ h => h) (Or.inl ⟨by kernel_rfl, ?_⟩) (by assumption) ?_; rotate_left; ((intro w hSw; (try dsimp only at hSw); go_simp) <;> (with_reducible rfl)); (try (simp only [Act.put, List.setIfInBounds_toArray, List.set_cons_succ, List.set_cons_zero, List.getElem_toArray, List.getElem_cons_succ, List.getElem_cons_zero])))
      (refine wpAnyH_take (i := 6) (v := ?_) rfl (by kernel_rfl) (by kernel_rfl) (by kernel_rfl) (fun _ _ _ h => h) (Or.inl ⟨by kernel_rfl, ?_⟩) (by assumption) ?_; rotate_left; ((intro w hSw; (try dsimp only at hSw); go_simp) <;> (with_reducible rfl)); (try (simp only [Act.put, List.setIfInBounds_toArray, List.set_cons_succ, List.set_cons_zero, List.getElem_toArray, List.getElem_cons_succ, List.getElem_cons_zero])))
      (refine wpAnyH_take (i := 7) (v := ?_) rfl (by kernel_rfl) (by kernel_rfl) (by kernel_rfl) (fun _ _ _ h => h) (Or.inl ⟨by kernel_rfl, ?_⟩) (by assumption) ?_; rotate_left; ((intro w hSw; (try dsimp only at hSw); go_simp) <;> (with_reducible rfl)); (try (simp only [Act.put, List.setIfInBounds_toArray, List.set_cons_succ, List.set_cons_zero, List.getElem_toArray, List.getElem_cons_succ, List.getElem_cons_zero])))
      (refine wpAnyH_take (i := 8) (v := ?_) rfl (by kernel_rfl) (by kernel_rfl) (by kernel_rfl) (fun _ _ _ h => h) (Or.inl ⟨by kernel_rfl, ?_⟩) (by assumption) ?_; rotate_left; ((intro w hSw; (try dsimp only at hSw); go_simp) <;> (with_reducible rfl)); (try (simp only [Act.put, List.setIfInBounds_toArray, List.set_cons_succ, List.set_cons_zero, List.getElem_toArray, List.getElem_cons_succ, List.getElem_cons_zero])))
      (refine wpAnyH_take (i := 9) (v := ?_) rfl (by kernel_rfl) (by kernel_rfl) (by kernel_rfl) (fun _ _ _ h => h) (Or.inl ⟨by kernel_rfl, ?_⟩) (by assumption) ?_; rotate_left; ((intro w hSw; (try dsimp only at hSw); go_simp) <;> (with_reducible rfl)); (try (simp only [Act.put, List.setIfInBounds_toArray, List.set_cons_succ, List.set_cons_zero, List.getElem_toArray, List.getElem_cons_succ, List.getElem_cons_zero])))
      (refine wpAnyH_take (i := 10) (v := ?_) rfl (by kernel_rfl) (by kernel_rfl) (by kernel_rfl) (fun _ _ _ h => h) (Or.inl ⟨by kernel_rfl, ?_⟩) (by assumption) ?_; rotate_left; ((intro w hSw; (try dsimp only at hSw); go_simp) <;> (with_reducible rfl)); (try (simp only [Act.put, List.setIfInBounds_toArray, List.set_cons_succ, List.set_cons_zero, List.getElem_toArray, List.getElem_cons_succ, List.getElem_cons_zero])))
      (refine wpAnyH_take (i := 11) (v := ?_) rfl (by kernel_rfl) (by kernel_rfl) (by kernel_rfl) (fun _ _ _ h => h) (Or.inl ⟨by kernel_rfl, ?_⟩) (by assumption) ?_; rotate_left; ((intro w hSw; (try dsimp only at hSw); go_simp) <;> (with_reducible rfl)); (try (simp only [Act.put, List.setIfInBounds_toArray, List.set_cons_succ, List.set_cons_zero, List.getElem_toArray, List.getElem_cons_succ, List.getElem_cons_zero])))
      (refine wpAnyH_take (i := 12) (v := ?_) rfl (by kernel_rfl) (by kernel_rfl) (by kernel_rfl) (fun _ _ _ h => h) (Or.inl ⟨by kernel_rfl, ?_⟩) (by assumption) ?_; rotate_left; ((intro w hSw; (try dsimp only at hSw); go_simp) <;> (with_reducible rfl)); (try (simp only [Act.put, List.setIfInBounds_toArray, List.set_cons_succ, List.set_cons_zero, List.getElem_toArray, List.getElem_cons_succ, List.getElem_cons_zero])))
      (refine wpAnyH_take (i := 13) (v := ?_) rfl (by kernel_rfl) (by kernel_rfl) (by kernel_rfl) (fun _ _ _ h => h) (Or.inl ⟨by kernel_rfl, ?_⟩) (by assumption) ?_; rotate_left; ((intro w hSw; (try dsimp only at hSw); go_simp) <;> (with_reducible rfl)); (try (simp only [Act.put, List.setIfInBounds_toArray, List.set_cons_succ, List.set_cons_zero, List.getElem_toArray, List.getElem_cons_succ, List.getElem_cons_zero])))
      (refine wpAnyH_take (i := 14) (v := ?_) rfl (by kernel_rfl) (by kernel_rfl) (by kernel_rfl) (fun _ _ _ h => h) (Or.inl ⟨by kernel_rfl, ?_⟩) (by assumption) ?_; rotate_left; ((intro w hSw; (try dsimp only at hSw); go_simp) <;> (with_reducible rfl)); (try (simp only [Act.put, List.setIfInBounds_toArray, List.set_cons_succ, List.set_cons_zero, List.getElem_toArray, List.getElem_cons_succ, List.getElem_cons_zero])))
      (refine wpAnyH_take (i := 15) (v := ?_) rfl (by kernel_rfl) (by kernel_rfl) (by kernel_rfl) (fun _ _ _ h => h) (Or.inl ⟨by kernel_rfl, ?_⟩) (by assumption) ?_; rotate_left; ((intro w hSw; (try dsimp only at hSw); go_simp) <;> (with_reducible rfl)); (try (simp only [Act.put, List.setIfInBounds_toArray, List.set_cons_succ, List.set_cons_zero, List.getElem_toArray, List.getElem_cons_succ, List.getElem_cons_zero])))
      (refine wpAnyH_ready (rs := [4, 16]) (by kernel_rfl) (by simp) ?_; refine AllReadyH.cons rfl (fun K hK => ?_) (AllReadyH.cons rfl (fun K hK => ?_) AllReadyH.nil))
      · go_simp
        refine hK.out _ _ hHeld (fun hHeld => ?_)
        clear hK K
        (try (simp only [Act.put, List.setIfInBounds_toArray, List.set_cons_succ, List.set_cons_zero, List.getElem_toArray, List.getElem_cons_succ, List.getElem_cons_zero]))
        (refine wpAnyH_ready (rs := [16]) (by kernel_rfl) (by simp) ?_; refine AllReadyH.cons rfl (fun K hK => ?_) AllReadyH.nil)
        go_simp
        refine hK.out _ _ hS3 (fun hHeld => ?_)
        clear hK K
        (try (simp only [Act.put, List.setIfInBounds_toArray, List.set_cons_succ, List.set_cons_zero, List.getElem_toArray, List.getElem_cons_succ, List.getElem_cons_zero]))
        (refine wpAnyH_ready (rs := [17]) (by kernel_rfl) (by simp) ?_; refine AllReadyH.cons rfl (fun K hK => ?_) AllReadyH.nil)
        refine step_append_lies _ rfl _ _ 148 rfl B 147 i0 (.agg (zt ++ zt).toArray) 14 224 Tryz.underlying148 HI0.out HZ0.out HZ1.out HZ2.out rfl (by decide) st1 (n + (l - (j + 1))) zs1 rfl HRA.out.row ⟨wr.heap.size, 0, none⟩ 1 1 [(Value.int .i64 fk), (Value.int .i64 fv), (Value.string fs), (Value.bool fn), (Value.slice fA fa fc), (Value.slice fB fd fe), (Value.slice fX fl fq), (Value.int .i64 mk), (Value.int .i64 mv), (Value.string ms), (Value.bool mn), (Value.slice mA ma mc), (Value.slice mB md me), (Value.slice mX ml mq)] rfl rfl HNEWS.out HN1.out (by decide) (by unfold maxLen; omega) (by omega) HSZ.out _ rfl ?_
        intro g cap w1 hown hgrow hat hlt
        obtain ⟨⟨v1, v2, v3, v4, v5⟩, v6⟩ := HRA.out.push HB.out hgrow hown
        have HV := Lib.hid v6
        have hS4 := HSS.out _ v2 v3 v4 v5
        have hS5 := HSS.out _ v6.x v6.y v6.xr v6.yr
        have u5b := v1.cell 5
        simp only [List.getElem?_toArray, List.getElem?_cons_zero, List.getElem?_cons_succ] at u5b
        have z5 := v1.frozen 5
        clear v1 v2 v3 v4 v5 v6 hown hgrow hat hlt
        refine hK.out _ _ hS4 (fun hHeld => ?_)
        clear hK K
        (try (simp only [Act.put, List.setIfInBounds_toArray, List.set_cons_succ, List.set_cons_zero, List.getElem_toArray, List.getElem_cons_succ, List.getElem_cons_zero]))
        (refine wpAnyH_take (i := 18) (v := ?_) rfl (by kernel_rfl) (by kernel_rfl) (by kernel_rfl) (fun _ _ _ h => h) (Or.inl ⟨by kernel_rfl, ?_⟩) (by assumption) ?_; rotate_left; ((intro w hSw; (try dsimp only at hSw); go_simp) <;> (with_reducible rfl)); (try (simp only [Act.put, List.setIfInBounds_toArray, List.set_cons_succ, List.set_cons_zero, List.getElem_toArray, List.getElem_cons_succ, List.getElem_cons_zero])))
        (refine wpAnyH_take (i := 19) (v := ?_) rfl (by kernel_rfl) (by kernel_rfl) (by kernel_rfl) (fun _ _ _ h => h) (Or.inl ⟨by kernel_rfl, ?_⟩) (by assumption) ?_; rotate_left; ((intro w hSw; (try dsimp only at hSw); go_simp) <;> (with_reducible rfl)); (try (simp only [Act.put, List.setIfInBounds_toArray, List.set_cons_succ, List.set_cons_zero, List.getElem_toArray, List.getElem_cons_succ, List.getElem_cons_zero])))
        (refine wpAnyH_ready (rs := [20]) (by kernel_rfl) (by simp) ?_; refine AllReadyH.cons rfl (fun K hK => ?_) AllReadyH.nil)
        go_simp
        refine hK.out _ _ hS5 (fun hHeld => ?_)
        clear hK K
        (try (simp only [Act.put, List.setIfInBounds_toArray, List.set_cons_succ, List.set_cons_zero, List.getElem_toArray, List.getElem_cons_succ, List.getElem_cons_zero]))
        (refine wpAnyH_done (by kernel_rfl) ?_ _)
        go_wp2_with fail
        go_roundg j
        case measure => omega
        case rel =>
          refine ⟨_, _, _, by omega, rfl, by omega, ?_, HNF.out _ HV.out⟩
          show _ = _
          rw [HZS.out, rp_step pr (by omega : j < l), HPJ.out, List.append_assoc]
      · go_simp
        refine hK.out _ _ hS3 (fun hHeld => ?_)
        clear hK K
        (try (simp only [Act.put, List.setIfInBounds_toArray, List.set_cons_succ, List.set_cons_zero, List.getElem_toArray, List.getElem_cons_succ, List.getElem_cons_zero]))
        (refine wpAnyH_ready (rs := [4]) (by kernel_rfl) (by simp) ?_; refine AllReadyH.cons rfl (fun K hK => ?_) AllReadyH.nil)
        go_simp
        refine hK.out _ _ hS3 (fun hHeld => ?_)
        clear hK K
        (try (simp only [Act.put, List.setIfInBounds_toArray, List.set_cons_succ, List.set_cons_zero, List.getElem_toArray, List.getElem_cons_succ, List.getElem_cons_zero]))
        (refine wpAnyH_ready (rs := [17]) (by kernel_rfl) (by simp) ?_; refine AllReadyH.cons rfl (fun K hK => ?_) AllReadyH.nil)
        refine step_append_lies _ rfl _ _ 148 rfl B 147 i0 (.agg (zt ++ zt).toArray) 14 224 Tryz.underlying148 HI0.out HZ0.out HZ1.out HZ2.out rfl (by decide) st1 (n + (l - (j + 1))) zs1 rfl HRA.out.row ⟨wr.heap.size, 0, none⟩ 1 1 [(Value.int .i64 fk), (Value.int .i64 fv), (Value.string fs), (Value.bool fn), (Value.slice fA fa fc), (Value.slice fB fd fe), (Value.slice fX fl fq), (Value.int .i64 mk), (Value.int .i64 mv), (Value.string ms), (Value.bool mn), (Value.slice mA ma mc), (Value.slice mB md me), (Value.slice mX ml mq)] rfl rfl HNEWS.out HN1.out (by decide) (by unfold maxLen; omega) (by omega) HSZ.out _ rfl ?_
        intro g cap w1 hown hgrow hat hlt
        obtain ⟨⟨v1, v2, v3, v4, v5⟩, v6⟩ := HRA.out.push HB.out hgrow hown
        have HV := Lib.hid v6
        have hS4 := HSS.out _ v2 v3 v4 v5
        have hS5 := HSS.out _ v6.x v6.y v6.xr v6.yr
        have u5b := v1.cell 5
        simp only [List.getElem?_toArray, List.getElem?_cons_zero, List.getElem?_cons_succ] at u5b
        have z5 := v1.frozen 5
        clear v1 v2 v3 v4 v5 v6 hown hgrow hat hlt
        refine hK.out _ _ hS4 (fun hHeld => ?_)
        clear hK K
        (try (simp only [Act.put, List.setIfInBounds_toArray, List.set_cons_succ, List.set_cons_zero, List.getElem_toArray, List.getElem_cons_succ, List.getElem_cons_zero]))
        (refine wpAnyH_take (i := 18) (v := ?_) rfl (by kernel_rfl) (by kernel_rfl) (by kernel_rfl) (fun _ _ _ h => h) (Or.inl ⟨by kernel_rfl, ?_⟩) (by assumption) ?_; rotate_left; ((intro w hSw; (try dsimp only at hSw); go_simp) <;> (with_reducible rfl)); (try (simp only [Act.put, List.setIfInBounds_toArray, List.set_cons_succ, List.set_cons_zero, List.getElem_toArray, List.getElem_cons_succ, List.getElem_cons_zero])))
        (refine wpAnyH_take (i := 19) (v := ?_) rfl (by kernel_rfl) (by kernel_rfl) (by kernel_rfl) (fun _ _ _ h => h) (Or.inl ⟨by kernel_rfl, ?_⟩) (by assumption) ?_; rotate_left; ((intro w hSw; (try dsimp only at hSw); go_simp) <;> (with_reducible rfl)); (try (simp only [Act.put, List.setIfInBounds_toArray, List.set_cons_succ, List.set_cons_zero, List.getElem_toArray, List.getElem_cons_succ, List.getElem_cons_zero])))
        (refine wpAnyH_ready (rs := [20]) (by kernel_rfl) (by simp) ?_; refine AllReadyH.cons rfl (fun K hK => ?_) AllReadyH.nil)
        go_simp
        refine hK.out _ _ hS5 (fun hHeld => ?_)
        clear hK K
        (try (simp only [Act.put, List.setIfInBounds_toArray, List.set_cons_succ, List.set_cons_zero, List.getElem_toArray, List.getElem_cons_succ, List.getElem_cons_zero]))
        (refine wpAnyH_done (by kernel_rfl) ?_ _)
        go_wp2_with fail
        go_roundg j
        case measure => omega
        case rel =>
          refine ⟨_, _, _, by omega, rfl, by omega, ?_, HNF.out _ HV.out⟩
          show _ = _
          rw [HZS.out, rp_step pr (by omega : j < l), HPJ.out, List.append_assoc]
    · obtain rfl : gk = 0 := by omega
      go_wp2_with fail
      go_ret
      have hz := HZS.out
      subst hz
      exact ⟨rfl, ⟨N1, M1, st1, HPR1.out.u, by simpa using HPR1.out.row⟩, HPR1.out.fr, HPR1.out.be⟩
end Go.Proofs.YtkfnpcilanheiaaGreat

/- (*term.Store).Unify at the two terms of bound. -/
import Derived.OwnWalk
import Derived.Test.YtkfnpcilanheiaaGreatJo45
import Derived.Test.YtkfnpcilanheiaaGreatJo50
set_option linter.unusedVariables false
set_option linter.unusedSimpArgs false
set_option maxRecDepth 100000
namespace Go.Proofs.YtkfnpcilanheiaaGreat
open Go.RowKit NumB
theorem tcf_two {B : Nat} {w : World} {k v : Int} {s : ByteArray} {n : LN} {t0 t1 : Tm} {cs : List Value} (h : TCF B w (.mk k v s n [t0, t1]) cs) :
    ∃ (cA : Option Addr) (ca cc : Nat) (cB : Option Addr) (cd ce cb co cq : Nat) (arr : Array Value) (c0 c1 : List Value), cs = [Value.int .i64 k, Value.int .i64 v, Value.string s, Value.bool n.neg, Value.slice cA ca cc, Value.slice cB cd ce, Value.slice (some ⟨cb, co, none⟩) 2 cq] ∧ i64ok v ∧ B ≤ cb ∧ Blk w cb 27 arr ∧ TCF B w t0 c0 ∧ TCF B w t1 c1 ∧ (∀ q, q < 7 → arr[co + 0 * 7 + q]? = c0[q]?) ∧ (∀ q, q < 7 → arr[co + 1 * 7 + q]? = c1[q]?) := by
  cases h with
  | mk k v s n args A C Ar cap cs hk hv hs hA hC hn hcap hm hr ha =>
    obtain ⟨A1, n1, c1, rfl⟩ := hA.sl.form
    obtain ⟨A2, n2, c2, rfl⟩ := hC.sl.form
    obtain ⟨b, o, rfl, hb, hlt, ⟨arr, harr⟩, hc⟩ := hr (by simp)
    refine ⟨A1, n1, c1, A2, n2, c2, b, o, cap, arr, cs 0, cs 1, rfl, hv, hb, harr, ha 0 (by simp), ha 1 (by simp), fun q hq => ?_, fun q hq => ?_⟩
    · rw [← hc 0 (by simp) q hq, harr.cell]
    · rw [← hc 1 (by simp) q hq, harr.cell]
theorem leafRow_of {w : World} {B : Nat} {arr : Array Value} {o : Nat} {c0 c1 : List Value} {k0 v0 k1 v1 : Int} {s0 s1 : ByteArray} {n0 n1 : LN} {l0 l1 : List Tm} (h0 : TCF B w (.mk k0 v0 s0 n0 l0) c0) (h1 : TCF B w (.mk k1 v1 s1 n1 l1) c1) (hk0 : k0 = 1 ∨ k0 = 3) (hk1 : k1 = 1 ∨ k1 = 3) (hv0 : i64ok v0) (hv1 : i64ok v1) (hs0 : s0.size ≤ 1000) (hs1 : s1.size ≤ 1000)
    (a0 : ∀ q, q < 7 → arr[o + 0 * 7 + q]? = c0[q]?) (a1 : ∀ q, q < 7 → arr[o + 1 * 7 + q]? = c1[q]?) : LeafRow arr o 2 := fun j hj => by
  obtain ⟨cn, cA, ca, cc, cB, cd, ce, cX, cl, cq, rfl⟩ := h0.tc.seven
  obtain ⟨dn, dA, da, dc, dB, dd, de, dX, dl, dq, rfl⟩ := h1.tc.seven
  have : j = 0 ∨ j = 1 := by omega
  rcases this with rfl | rfl
  · exact ⟨_, _, _, _, _, _, _, _, _, _, _, _, _, hk0, hv0, hs0, a0 0 (by omega), a0 1 (by omega), a0 2 (by omega), a0 3 (by omega), a0 4 (by omega), a0 5 (by omega), a0 6 (by omega)⟩
  · exact ⟨_, _, _, _, _, _, _, _, _, _, _, _, _, hk1, hv1, hs1, a1 0 (by omega), a1 1 (by omega), a1 2 (by omega), a1 3 (by omega), a1 4 (by omega), a1 5 (by omega), a1 6 (by omega)⟩
def CRow (W : World) (Bq b o : Nat) (t0 t1 : Tm) : Prop := Bq ≤ b ∧ ∃ arr c0 c1, Blk W b 27 arr ∧ TCF Bq W t0 c0 ∧ TCF Bq W t1 c1 ∧ (∀ q, q < 7 → arr[o + 0 * 7 + q]? = c0[q]?) ∧ (∀ q, q < 7 → arr[o + 1 * 7 + q]? = c1[q]?)
theorem CRow.to {W W' : World} {Bq b o : Nat} {t0 t1 : Tm} (h : CRow W Bq b o t0 t1) (hb : Below W.heap.size W W') : CRow W' Bq b o t0 t1 := by
  obtain ⟨h1, arr, c0, c1, h2, h3, h4, h5, h6⟩ := h
  exact ⟨h1, arr, c0, c1, h2.to hb, h3.to hb.size (fun b _ h => hb.block b h), h4.to hb.size (fun b _ h => hb.block b h), h5, h6⟩
theorem tc_leaf_any {w w' : World} {k v : Int} {s : ByteArray} {b : Bool} {cs : List Value} (h : TC w (.mk k v s ⟨b, [], []⟩ []) cs) : TC w' (.mk k v s ⟨b, [], []⟩ []) cs := by
  generalize ht : Tm.mk k v s ⟨b, [], []⟩ [] = t at h
  cases h with
  | mk k' v' s' n args A C Ar cap cs hk hv hs hA hB hn hcap hm hr ha =>
    cases ht
    have e : ∀ {V : Value}, Sl .u32 w V [] → Sl .u32 w' V [] := fun hV => by
      obtain ⟨A, c, h1, h2, h3, h4, h5⟩ := hV
      exact ⟨A, c, h1, h2, h3, h4, fun h => absurd h (by simp)⟩
    exact .mk _ _ _ ⟨b, [], []⟩ [] A C Ar cap cs hk hv hs (e hA) (e hB) hn hcap hm (fun h => absurd h (by simp)) (fun i h => absurd h (by simp))
theorem tmA_ok (s0 sa : ByteArray) (hs0 : s0.size ≤ 255) (hsa : sa.size ≤ 255) : (Tm.mk 5 0 s0 ⟨false, [], []⟩ [Tm.v 0, Tm.mk 3 0 sa ⟨false, [], []⟩ []]).check = 0 ∧ (Tm.mk 5 0 s0 ⟨false, [], []⟩ [Tm.v 0, Tm.mk 3 0 sa ⟨false, [], []⟩ []]).lt ((2 : Nat) : Int) = true := by
  have h1 : ¬ 255 < s0.size := by omega
  have h2 : ¬ 255 < sa.size := by omega
  refine ⟨?_, by simp [Tm.v, Tm.lt, ltL]⟩
  have c : (Tm.mk 5 0 s0 ⟨false, [], []⟩ [Tm.v 0, Tm.mk 3 0 sa ⟨false, [], []⟩ []]).count = 3 := by simp [Tm.v, Tm.count, countL]
  have e : (Tm.mk 5 0 s0 ⟨false, [], []⟩ [Tm.v 0, Tm.mk 3 0 sa ⟨false, [], []⟩ []]).err0 = 0 := by simp [Tm.v, Tm.err0, errL, nodeE, zeroB, h1, h2]
  unfold Tm.check
  rw [c, e]; rfl
theorem tmB_ok (s0 : ByteArray) (hs0 : s0.size ≤ 255) : (Tm.mk 5 0 s0 ⟨false, [], []⟩ [Tm.v 1, Tm.v 0]).check = 0 ∧ (Tm.mk 5 0 s0 ⟨false, [], []⟩ [Tm.v 1, Tm.v 0]).lt ((2 : Nat) : Int) = true := by
  have h1 : ¬ 255 < s0.size := by omega
  refine ⟨?_, by simp [Tm.v, Tm.lt, ltL]⟩
  have c : (Tm.mk 5 0 s0 ⟨false, [], []⟩ [Tm.v 1, Tm.v 0]).count = 3 := by simp [Tm.v, Tm.count, countL]
  have e : (Tm.mk 5 0 s0 ⟨false, [], []⟩ [Tm.v 1, Tm.v 0]).err0 = 0 := by simp [Tm.v, Tm.err0, errL, nodeE, zeroB, h1]
  unfold Tm.check
  rw [c, e]; rfl
theorem tmA_sm (s0 sa : ByteArray) : (Tm.mk 5 0 s0 ⟨false, [], []⟩ [Tm.v 0, Tm.mk 3 0 sa ⟨false, [], []⟩ []]).sm := by simp [Tm.v, Tm.sm, smL]
theorem tmB_sm (s0 : ByteArray) : (Tm.mk 5 0 s0 ⟨false, [], []⟩ [Tm.v 1, Tm.v 0]).sm := by simp [Tm.v, Tm.sm, smL]
set_option maxHeartbeats 6400000 in
theorem unifyT_any (B g h G c : Nat) (s0 sa : ByteArray) (hs0 : s0.size ≤ 255) (hsa : sa.size ≤ 255) (xn : Bool) (xA : Option Addr) (xa xc : Nat) (xB : Option Addr) (xd xe : Nat) (xX : Option Addr) (xq : Nat) (yn : Bool) (yA : Option Addr) (ya yc : Nat) (yB : Option Addr) (yd ye : Nat) (yX : Option Addr) (yq : Nat) (w : World) (hB : B ≤ w.heap.size) (hs : Blk w g 115 #[.pointer (some ⟨h, 0, none⟩)]) (hS : HS w B h G c (.slice none 0 0) (zc ++ zc) 0 []) (hx : TC w (Tm.mk 5 0 s0 ⟨false, [], []⟩ [Tm.v 0, Tm.mk 3 0 sa ⟨false, [], []⟩ []]) [(Value.int .i64 5), (Value.int .i64 0), (Value.string s0), (Value.bool xn), (Value.slice xA xa xc), (Value.slice xB xd xe), (Value.slice xX 2 xq)]) (hy : TC w (Tm.mk 5 0 s0 ⟨false, [], []⟩ [Tm.v 1, Tm.v 0]) [(Value.int .i64 5), (Value.int .i64 0), (Value.string s0), (Value.bool yn), (Value.slice yA ya yc), (Value.slice yB yd ye), (Value.slice yX 2 yq)]) :
    Calls Tryz.prog 44 #[.pointer (some ⟨g, 0, none⟩), .agg #[.int .i64 5, .int .i64 0, .string s0, .bool xn, .slice xA xa xc, .slice xB xd xe, .slice xX 2 xq], .agg #[.int .i64 5, .int .i64 0, .string s0, .bool yn, .slice yA ya yc, .slice yB yd ye, .slice yX 2 yq], .bool false] w fun e w' => e = .returned (.tuple #[.slice none 0 0, .bool true, .int .i64 0]) ∧ (∃ (dk dv : Int) (ds : ByteArray) (dn : Bool) (dA : Option Addr) (da dc : Nat) (dB : Option Addr) (dd de : Nat) (dX : Option Addr) (dl dq : Nat) (tr : Value) (m : Nat) (ys : List Value), dk ≠ 1 ∧ dk ≠ 5 ∧ TC w' (Tm.mk 3 0 sa ⟨false, [], []⟩ []) [(Value.int .i64 dk), (Value.int .i64 dv), (Value.string ds), (Value.bool dn), (Value.slice dA da dc), (Value.slice dB dd de), (Value.slice dX dl dq)] ∧ HS w' B h G c tr (xs2 dk dv ds dn (.slice dA da dc) (.slice dB dd de) (.slice dX dl dq)) m ys) ∧ Blk w' g 115 #[.pointer (some ⟨h, 0, none⟩)] ∧ Below B w w' ∧ FrT [some 141, some 144, some 196, some 152, some 147, none] w w' := by
  have HB := Lib.hid hB
  have HS0 := Lib.hid hS
  have HG0 := Lib.hid hs
  have HX0 := Lib.hid hx
  have HY0 := Lib.hid hy
  have hw3 : Below w.heap.size w (((w.alloc (.cells #[.int .i64 5, .int .i64 0, .string s0, .bool xn, .slice xA xa xc, .slice xB xd xe, .slice xX 2 xq] 27)).alloc (.cells #[.int .i64 5, .int .i64 0, .string s0, .bool yn, .slice yA ya yc, .slice yB yd ye, .slice yX 2 yq] 27)).alloc (.cells #[.int .i64 5, .int .i64 0, .string s0, .bool xn, .slice xA xa xc, .slice xB xd xe, .slice xX 2 xq, .int .i64 5, .int .i64 0, .string s0, .bool yn, .slice yA ya yc, .slice yB yd ye, .slice yX 2 yq] 27)) := (below_pair w _ _).alloc (by simp; omega) _
  have hb3 : Blk (((w.alloc (.cells #[.int .i64 5, .int .i64 0, .string s0, .bool xn, .slice xA xa xc, .slice xB xd xe, .slice xX 2 xq] 27)).alloc (.cells #[.int .i64 5, .int .i64 0, .string s0, .bool yn, .slice yA ya yc, .slice yB yd ye, .slice yX 2 yq] 27)).alloc (.cells #[.int .i64 5, .int .i64 0, .string s0, .bool xn, .slice xA xa xc, .slice xB xd xe, .slice xX 2 xq, .int .i64 5, .int .i64 0, .string s0, .bool yn, .slice yA ya yc, .slice yB yd ye, .slice yX 2 yq] 27)) (w.heap.size + 1 + 1) 27 #[.int .i64 5, .int .i64 0, .string s0, .bool xn, .slice xA xa xc, .slice xB xd xe, .slice xX 2 xq, .int .i64 5, .int .i64 0, .string s0, .bool yn, .slice yA ya yc, .slice yB yd ye, .slice yX 2 yq] := by
    have := Blk.new ((w.alloc (.cells #[.int .i64 5, .int .i64 0, .string s0, .bool xn, .slice xA xa xc, .slice xB xd xe, .slice xX 2 xq] 27)).alloc (.cells #[.int .i64 5, .int .i64 0, .string s0, .bool yn, .slice yA ya yc, .slice yB yd ye, .slice yX 2 yq] 27)) 27 #[.int .i64 5, .int .i64 0, .string s0, .bool xn, .slice xA xa xc, .slice xB xd xe, .slice xX 2 xq, .int .i64 5, .int .i64 0, .string s0, .bool yn, .slice yA ya yc, .slice yB yd ye, .slice yX 2 yq]
    rw [show ((w.alloc (.cells #[.int .i64 5, .int .i64 0, .string s0, .bool xn, .slice xA xa xc, .slice xB xd xe, .slice xX 2 xq] 27)).alloc (.cells #[.int .i64 5, .int .i64 0, .string s0, .bool yn, .slice yA ya yc, .slice yB yd ye, .slice yX 2 yq] 27)).heap.size = w.heap.size + 1 + 1 by simp] at this
    exact this
  have hbx : Blk (((w.alloc (.cells #[.int .i64 5, .int .i64 0, .string s0, .bool xn, .slice xA xa xc, .slice xB xd xe, .slice xX 2 xq] 27)).alloc (.cells #[.int .i64 5, .int .i64 0, .string s0, .bool yn, .slice yA ya yc, .slice yB yd ye, .slice yX 2 yq] 27)).alloc (.cells #[.int .i64 5, .int .i64 0, .string s0, .bool xn, .slice xA xa xc, .slice xB xd xe, .slice xX 2 xq, .int .i64 5, .int .i64 0, .string s0, .bool yn, .slice yA ya yc, .slice yB yd ye, .slice yX 2 yq] 27)) w.heap.size 27 #[.int .i64 5, .int .i64 0, .string s0, .bool xn, .slice xA xa xc, .slice xB xd xe, .slice xX 2 xq] := ((Blk.new w _ _).alloc _).alloc _
  have hby : Blk (((w.alloc (.cells #[.int .i64 5, .int .i64 0, .string s0, .bool xn, .slice xA xa xc, .slice xB xd xe, .slice xX 2 xq] 27)).alloc (.cells #[.int .i64 5, .int .i64 0, .string s0, .bool yn, .slice yA ya yc, .slice yB yd ye, .slice yX 2 yq] 27)).alloc (.cells #[.int .i64 5, .int .i64 0, .string s0, .bool xn, .slice xA xa xc, .slice xB xd xe, .slice xX 2 xq, .int .i64 5, .int .i64 0, .string s0, .bool yn, .slice yA ya yc, .slice yB yd ye, .slice yX 2 yq] 27)) (w.heap.size + 1) 27 #[.int .i64 5, .int .i64 0, .string s0, .bool yn, .slice yA ya yc, .slice yB yd ye, .slice yX 2 yq] := by
    have := (Blk.new (w.alloc (.cells #[.int .i64 5, .int .i64 0, .string s0, .bool xn, .slice xA xa xc, .slice xB xd xe, .slice xX 2 xq] 27)) 27 #[.int .i64 5, .int .i64 0, .string s0, .bool yn, .slice yA ya yc, .slice yB yd ye, .slice yX 2 yq]).alloc (.cells #[.int .i64 5, .int .i64 0, .string s0, .bool xn, .slice xA xa xc, .slice xB xd xe, .slice xX 2 xq, .int .i64 5, .int .i64 0, .string s0, .bool yn, .slice yA ya yc, .slice yB yd ye, .slice yX 2 yq] 27)
    rw [show (w.alloc (.cells #[.int .i64 5, .int .i64 0, .string s0, .bool xn, .slice xA xa xc, .slice xB xd xe, .slice xX 2 xq] 27)).heap.size = w.heap.size + 1 by simp] at this
    exact this
  have HX3 := Lib.hid hbx
  have HY3 := Lib.hid hby
  have HW3 := Lib.hid hw3
  have HKN : Hid (Calls Tryz.prog 84 #[.pointer (some ⟨g, 0, none⟩), .slice (some ⟨w.heap.size + 1 + 1, 0, none⟩) 2 2] (((w.alloc (.cells #[.int .i64 5, .int .i64 0, .string s0, .bool xn, .slice xA xa xc, .slice xB xd xe, .slice xX 2 xq] 27)).alloc (.cells #[.int .i64 5, .int .i64 0, .string s0, .bool yn, .slice yA ya yc, .slice yB yd ye, .slice yX 2 yq] 27)).alloc (.cells #[.int .i64 5, .int .i64 0, .string s0, .bool xn, .slice xA xa xc, .slice xB xd xe, .slice xX 2 xq, .int .i64 5, .int .i64 0, .string s0, .bool yn, .slice yA ya yc, .slice yB yd ye, .slice yX 2 yq] 27)) fun e W' => e = .returned (.int .i64 0) ∧ Hid (Below (((w.alloc (.cells #[.int .i64 5, .int .i64 0, .string s0, .bool xn, .slice xA xa xc, .slice xB xd xe, .slice xX 2 xq] 27)).alloc (.cells #[.int .i64 5, .int .i64 0, .string s0, .bool yn, .slice yA ya yc, .slice yB yd ye, .slice yX 2 yq] 27)).alloc (.cells #[.int .i64 5, .int .i64 0, .string s0, .bool xn, .slice xA xa xc, .slice xB xd xe, .slice xX 2 xq, .int .i64 5, .int .i64 0, .string s0, .bool yn, .slice yA ya yc, .slice yB yd ye, .slice yX 2 yq] 27)).heap.size (((w.alloc (.cells #[.int .i64 5, .int .i64 0, .string s0, .bool xn, .slice xA xa xc, .slice xB xd xe, .slice xX 2 xq] 27)).alloc (.cells #[.int .i64 5, .int .i64 0, .string s0, .bool yn, .slice yA ya yc, .slice yB yd ye, .slice yX 2 yq] 27)).alloc (.cells #[.int .i64 5, .int .i64 0, .string s0, .bool xn, .slice xA xa xc, .slice xB xd xe, .slice xX 2 xq, .int .i64 5, .int .i64 0, .string s0, .bool yn, .slice yA ya yc, .slice yB yd ye, .slice yX 2 yq] 27)) W')) := by
    have hSW := hS.below hw3
    refine known_ok g h (some ⟨G, 0, none⟩) 2 c (.slice none 0 0) B (zc ++ zc) (w := (((w.alloc (.cells #[.int .i64 5, .int .i64 0, .string s0, .bool xn, .slice xA xa xc, .slice xB xd xe, .slice xX 2 xq] 27)).alloc (.cells #[.int .i64 5, .int .i64 0, .string s0, .bool yn, .slice yA ya yc, .slice yB yd ye, .slice yX 2 yq] 27)).alloc (.cells #[.int .i64 5, .int .i64 0, .string s0, .bool xn, .slice xA xa xc, .slice xB xd xe, .slice xX 2 xq, .int .i64 5, .int .i64 0, .string s0, .bool yn, .slice yA ya yc, .slice yB yd ye, .slice yX 2 yq] 27))) (args := [(Tm.mk 5 0 s0 ⟨false, [], []⟩ [Tm.v 0, Tm.mk 3 0 sa ⟨false, [], []⟩ []]), (Tm.mk 5 0 s0 ⟨false, [], []⟩ [Tm.v 1, Tm.v 0])]) (Ar := some ⟨w.heap.size + 1 + 1, 0, none⟩) (cs := fun i => if i = 0 then [(Value.int .i64 5), (Value.int .i64 0), (Value.string s0), (Value.bool xn), (Value.slice xA xa xc), (Value.slice xB xd xe), (Value.slice xX 2 xq)] else [(Value.int .i64 5), (Value.int .i64 0), (Value.string s0), (Value.bool yn), (Value.slice yA ya yc), (Value.slice yB yd ye), (Value.slice yX 2 yq)]) (fun _ => ⟨_, 0, rfl, hb3.lt, fun i hi j hj => ?_⟩) (fun i hi => ?_) 2 (Nat.le_refl _) (by decide) (fun i hi => ?_) (((w.alloc (.cells #[.int .i64 5, .int .i64 0, .string s0, .bool xn, .slice xA xa xc, .slice xB xd xe, .slice xX 2 xq] 27)).alloc (.cells #[.int .i64 5, .int .i64 0, .string s0, .bool yn, .slice yA ya yc, .slice yB yd ye, .slice yX 2 yq] 27)).alloc (.cells #[.int .i64 5, .int .i64 0, .string s0, .bool xn, .slice xA xa xc, .slice xB xd xe, .slice xX 2 xq, .int .i64 5, .int .i64 0, .string s0, .bool yn, .slice yA ya yc, .slice yB yd ye, .slice yX 2 yq] 27)) (Below.refl _ _) (hs.to hw3) ⟨hSW.blk, hSW.le, hSW.row⟩
    · have hi : i < 2 := hi
      rw [Nat.zero_add, hb3.cell]
      have : i = 0 ∨ i = 1 := by omega
      rcases this with rfl | rfl
      · have : j = 0 ∨ j = 1 ∨ j = 2 ∨ j = 3 ∨ j = 4 ∨ j = 5 ∨ j = 6 := by omega
        rcases this with rfl | rfl | rfl | rfl | rfl | rfl | rfl <;> rfl
      · have : j = 0 ∨ j = 1 ∨ j = 2 ∨ j = 3 ∨ j = 4 ∨ j = 5 ∨ j = 6 := by omega
        rcases this with rfl | rfl | rfl | rfl | rfl | rfl | rfl <;> rfl
    · have hi : i < 2 := hi
      have : i = 0 ∨ i = 1 := by omega
      rcases this with rfl | rfl
      · exact hx.to hw3
      · exact hy.to hw3
    · have hi : i < 2 := hi
      have : i = 0 ∨ i = 1 := by omega
      rcases this with rfl | rfl
      · exact tmA_ok s0 sa hs0 hsa
      · exact tmB_ok s0 hs0
  have HSZ0 := Lib.hid hs0
  have HSZA := Lib.hid hsa
  clear hB hs hS hx hy hw3 hb3 hbx hby hs0 hsa
  go_enter Tryz.func44, Tryz.ntmps44
  go_wp2_with fail
  refine HKN.out.mono ?_
  rintro e w1 ⟨rfl, hb1⟩
  have HW1 : Hid (Below w.heap.size w w1) := HW3.out.trans (hb1.out.mono HW3.out.size)
  have HX1 := Lib.hid (HX3.out.to hb1.out)
  have HY1 := Lib.hid (HY3.out.to hb1.out)
  clear HKN HW3 HX3 HY3 hb1
  have HSS : Hid (∀ W, Blk W g 115 #[.pointer (some ⟨h, 0, none⟩)] → Blk W w.heap.size 27 #[.int .i64 5, .int .i64 0, .string s0, .bool xn, .slice xA xa xc, .slice xB xd xe, .slice xX 2 xq] → Blk W (w.heap.size + 1) 27 #[.int .i64 5, .int .i64 0, .string s0, .bool yn, .slice yA ya yc, .slice yB yd ye, .slice yX 2 yq] → W.cell? ⟨g, 0, none⟩ = some (.pointer (some ⟨h, 0, none⟩)) ∧ W.cell? ⟨w.heap.size, 0, none⟩ = some (.int .i64 5) ∧ W.cell? ⟨w.heap.size, 1, none⟩ = some (.int .i64 0) ∧ W.cell? ⟨w.heap.size, 2, none⟩ = some (.string s0) ∧ W.cell? ⟨w.heap.size, 3, none⟩ = some (.bool xn) ∧ W.cell? ⟨w.heap.size, 4, none⟩ = some (.slice xA xa xc) ∧ W.cell? ⟨w.heap.size, 5, none⟩ = some (.slice xB xd xe) ∧ W.cell? ⟨w.heap.size, 6, none⟩ = some (.slice xX 2 xq) ∧ W.cell? ⟨w.heap.size + 1, 0, none⟩ = some (.int .i64 5) ∧ W.cell? ⟨w.heap.size + 1, 1, none⟩ = some (.int .i64 0) ∧ W.cell? ⟨w.heap.size + 1, 2, none⟩ = some (.string s0) ∧ W.cell? ⟨w.heap.size + 1, 3, none⟩ = some (.bool yn) ∧ W.cell? ⟨w.heap.size + 1, 4, none⟩ = some (.slice yA ya yc) ∧ W.cell? ⟨w.heap.size + 1, 5, none⟩ = some (.slice yB yd ye) ∧ W.cell? ⟨w.heap.size + 1, 6, none⟩ = some (.slice yX 2 yq)) := fun W h1 h2 h3 => ⟨h1.cell 0, h2.cell 0, h2.cell 1, h2.cell 2, h2.cell 3, h2.cell 4, h2.cell 5, h2.cell 6, h3.cell 0, h3.cell 1, h3.cell 2, h3.cell 3, h3.cell 4, h3.cell 5, h3.cell 6⟩
  have HD1 : Hid (Below w1.heap.size w1 w1.drew) := (Below.refl _ _).drew
  have hS1 := HSS.out _ ((HG0.out.to HW1.out).to HD1.out) (HX1.out.to HD1.out) (HY1.out.to HD1.out)
  have HCA : Hid (Calls Tryz.prog 53 #[.agg #[.int .i64 5, .int .i64 0, .string s0, .bool xn, .slice xA xa xc, .slice xB xd xe, .slice xX 2 xq]] w1.drew fun e w' => ∃ (aA : Option Addr) (aa ac : Nat) (aB : Option Addr) (ad ae ab ao aq : Nat), e = .returned (.agg #[.int .i64 5, .int .i64 0, .string s0, .bool false, .slice aA aa ac, .slice aB ad ae, .slice (some ⟨ab, ao, none⟩) 2 aq]) ∧ Hid (Below w1.heap.size w1 w' ∧ CRow w' w.heap.size ab ao (Tm.v 0) (Tm.mk 3 0 sa ⟨false, [], []⟩ [])) ∧ w'.cell? ⟨g, 0, none⟩ = some (.pointer (some ⟨h, 0, none⟩)) ∧ w'.cell? ⟨w.heap.size, 0, none⟩ = some (.int .i64 5) ∧ w'.cell? ⟨w.heap.size, 1, none⟩ = some (.int .i64 0) ∧ w'.cell? ⟨w.heap.size, 2, none⟩ = some (.string s0) ∧ w'.cell? ⟨w.heap.size, 3, none⟩ = some (.bool xn) ∧ w'.cell? ⟨w.heap.size, 4, none⟩ = some (.slice xA xa xc) ∧ w'.cell? ⟨w.heap.size, 5, none⟩ = some (.slice xB xd xe) ∧ w'.cell? ⟨w.heap.size, 6, none⟩ = some (.slice xX 2 xq) ∧ w'.cell? ⟨w.heap.size + 1, 0, none⟩ = some (.int .i64 5) ∧ w'.cell? ⟨w.heap.size + 1, 1, none⟩ = some (.int .i64 0) ∧ w'.cell? ⟨w.heap.size + 1, 2, none⟩ = some (.string s0) ∧ w'.cell? ⟨w.heap.size + 1, 3, none⟩ = some (.bool yn) ∧ w'.cell? ⟨w.heap.size + 1, 4, none⟩ = some (.slice yA ya yc) ∧ w'.cell? ⟨w.heap.size + 1, 5, none⟩ = some (.slice yB yd ye) ∧ w'.cell? ⟨w.heap.size + 1, 6, none⟩ = some (.slice yX 2 yq)) := by
    refine (clone_tm HX0.out (tmA_sm s0 sa) w1.drew HW1.out.drew).mono ?_
    rintro e w' ⟨cs', rfl, h1, h2⟩
    obtain ⟨aA, aa, ac, aB, ad, ae, ab, ao, aq, arr, c0, c1, rfl, _, hb, harr, t0, t1, r0, r1⟩ := tcf_two h1
    have hb1 : Below w1.heap.size w1 w' := HD1.out.trans h2
    have hsz : w.heap.size ≤ w1.drew.heap.size + 1 := Nat.le_succ_of_le HW1.out.size
    exact ⟨aA, aa, ac, aB, ad, ae, ab, ao, aq, rfl, ⟨hb1, Nat.le_trans hsz hb, arr, c0, c1, harr, t0.mono hsz, t1.mono hsz, r0, r1⟩, HSS.out _ ((HG0.out.to HW1.out).to hb1) (HX1.out.to hb1) (HY1.out.to hb1)⟩
  have HCB : Hid (∀ W (aA : Option Addr) (aa ac : Nat) (aB : Option Addr) (ad ae ab ao aq : Nat), Hid (Below w1.heap.size w1 W ∧ CRow W w.heap.size ab ao (Tm.v 0) (Tm.mk 3 0 sa ⟨false, [], []⟩ [])) → Calls Tryz.prog 53 #[.agg #[.int .i64 5, .int .i64 0, .string s0, .bool yn, .slice yA ya yc, .slice yB yd ye, .slice yX 2 yq]] W fun e w' => ∃ (bA : Option Addr) (ba bc : Nat) (bB : Option Addr) (bd be bb bo bq : Nat), e = .returned (.agg #[.int .i64 5, .int .i64 0, .string s0, .bool false, .slice bA ba bc, .slice bB bd be, .slice (some ⟨bb, bo, none⟩) 2 bq]) ∧ Hid (Below w1.heap.size w1 w' ∧ CRow w' w.heap.size ab ao (Tm.v 0) (Tm.mk 3 0 sa ⟨false, [], []⟩ []) ∧ CRow w' w.heap.size bb bo (Tm.v 1) (Tm.v 0) ∧ ab ≠ bb) ∧ w'.cell? ⟨g, 0, none⟩ = some (.pointer (some ⟨h, 0, none⟩)) ∧ w'.cell? ⟨w.heap.size, 0, none⟩ = some (.int .i64 5) ∧ w'.cell? ⟨w.heap.size, 1, none⟩ = some (.int .i64 0) ∧ w'.cell? ⟨w.heap.size, 2, none⟩ = some (.string s0) ∧ w'.cell? ⟨w.heap.size, 3, none⟩ = some (.bool xn) ∧ w'.cell? ⟨w.heap.size, 4, none⟩ = some (.slice xA xa xc) ∧ w'.cell? ⟨w.heap.size, 5, none⟩ = some (.slice xB xd xe) ∧ w'.cell? ⟨w.heap.size, 6, none⟩ = some (.slice xX 2 xq) ∧ w'.cell? ⟨w.heap.size + 1, 0, none⟩ = some (.int .i64 5) ∧ w'.cell? ⟨w.heap.size + 1, 1, none⟩ = some (.int .i64 0) ∧ w'.cell? ⟨w.heap.size + 1, 2, none⟩ = some (.string s0) ∧ w'.cell? ⟨w.heap.size + 1, 3, none⟩ = some (.bool yn) ∧ w'.cell? ⟨w.heap.size + 1, 4, none⟩ = some (.slice yA ya yc) ∧ w'.cell? ⟨w.heap.size + 1, 5, none⟩ = some (.slice yB yd ye) ∧ w'.cell? ⟨w.heap.size + 1, 6, none⟩ = some (.slice yX 2 yq)) := fun W aA aa ac aB ad ae ab ao aq hA => by
    have hwW : Below w.heap.size w W := HW1.out.trans (hA.out.1.mono HW1.out.size)
    refine (clone_tm HY0.out (tmB_sm s0) W hwW).mono ?_
    rintro e w' ⟨cs', rfl, h1, h2⟩
    obtain ⟨bA, ba, bc, bB, bd, be, bb, bo, bq, arr, c0, c1, rfl, _, hb, harr, t0, t1, r0, r1⟩ := tcf_two h1
    have hb1 : Below w1.heap.size w1 w' := hA.out.1.trans (h2.mono hA.out.1.size)
    have hsz : w.heap.size ≤ W.heap.size + 1 := Nat.le_succ_of_le hwW.size
    have hlt : ab < W.heap.size := by
      obtain ⟨_, arr, c0, c1, h, _⟩ := hA.out.2
      exact h.lt
    exact ⟨bA, ba, bc, bB, bd, be, bb, bo, bq, rfl, ⟨hb1, hA.out.2.to h2, ⟨Nat.le_trans hsz hb, arr, c0, c1, harr, t0.mono hsz, t1.mono hsz, r0, r1⟩, by omega⟩, HSS.out _ ((HG0.out.to HW1.out).to hb1) (HX1.out.to hb1) (HY1.out.to hb1)⟩
  have HUN : Hid (∀ W (aA : Option Addr) (aa ac : Nat) (aB : Option Addr) (ad ae ab ao aq : Nat) (bA : Option Addr) (ba bc : Nat) (bB : Option Addr) (bd be bb bo bq : Nat), Hid (Below w1.heap.size w1 W ∧ CRow W w.heap.size ab ao (Tm.v 0) (Tm.mk 3 0 sa ⟨false, [], []⟩ []) ∧ CRow W w.heap.size bb bo (Tm.v 1) (Tm.v 0) ∧ ab ≠ bb) → Calls Tryz.prog 68 #[.pointer (some ⟨h, 0, none⟩), .agg #[.int .i64 5, .int .i64 0, .string s0, .bool false, .slice aA aa ac, .slice aB ad ae, .slice (some ⟨ab, ao, none⟩) 2 aq], .agg #[.int .i64 5, .int .i64 0, .string s0, .bool false, .slice bA ba bc, .slice bB bd be, .slice (some ⟨bb, bo, none⟩) 2 bq], .bool false] W fun e w' => e = .returned (.tuple #[.slice none 0 0, .bool true]) ∧ Hid ((∃ (dk dv : Int) (ds : ByteArray) (dn : Bool) (dA : Option Addr) (da dc : Nat) (dB : Option Addr) (dd de : Nat) (dX : Option Addr) (dl dq : Nat) (tr : Value) (m : Nat) (ys : List Value), dk ≠ 1 ∧ dk ≠ 5 ∧ TC w' (Tm.mk 3 0 sa ⟨false, [], []⟩ []) [(Value.int .i64 dk), (Value.int .i64 dv), (Value.string ds), (Value.bool dn), (Value.slice dA da dc), (Value.slice dB dd de), (Value.slice dX dl dq)] ∧ HS w' B h G c tr (xs2 dk dv ds dn (.slice dA da dc) (.slice dB dd de) (.slice dX dl dq)) m ys) ∧ Blk w' g 115 #[.pointer (some ⟨h, 0, none⟩)] ∧ Below B w w' ∧ FrT [some 141, some 144, some 196, some 152, some 147, none] w w') ∧ w'.cell? ⟨g, 0, none⟩ = some (.pointer (some ⟨h, 0, none⟩)) ∧ w'.cell? ⟨w.heap.size, 0, none⟩ = some (.int .i64 5) ∧ w'.cell? ⟨w.heap.size, 1, none⟩ = some (.int .i64 0) ∧ w'.cell? ⟨w.heap.size, 2, none⟩ = some (.string s0) ∧ w'.cell? ⟨w.heap.size, 3, none⟩ = some (.bool xn) ∧ w'.cell? ⟨w.heap.size, 4, none⟩ = some (.slice xA xa xc) ∧ w'.cell? ⟨w.heap.size, 5, none⟩ = some (.slice xB xd xe) ∧ w'.cell? ⟨w.heap.size, 6, none⟩ = some (.slice xX 2 xq) ∧ w'.cell? ⟨w.heap.size + 1, 0, none⟩ = some (.int .i64 5) ∧ w'.cell? ⟨w.heap.size + 1, 1, none⟩ = some (.int .i64 0) ∧ w'.cell? ⟨w.heap.size + 1, 2, none⟩ = some (.string s0) ∧ w'.cell? ⟨w.heap.size + 1, 3, none⟩ = some (.bool yn) ∧ w'.cell? ⟨w.heap.size + 1, 4, none⟩ = some (.slice yA ya yc) ∧ w'.cell? ⟨w.heap.size + 1, 5, none⟩ = some (.slice yB yd ye) ∧ w'.cell? ⟨w.heap.size + 1, 6, none⟩ = some (.slice yX 2 yq)) := fun W aA aa ac aB ad ae ab ao aq bA ba bc bB bd be bb bo bq hAB => by
    obtain ⟨hb1, ⟨_, arrA, a0, a1, hA, tA0, tA1, rA0, rA1⟩, ⟨_, arrB, b0, b1, hB', tB0, tB1, rB0, rB1⟩, hne⟩ := hAB.out
    have hwW : Below w.heap.size w W := HW1.out.trans (hb1.mono HW1.out.size)
    have lA := leafRow_of tA0 tA1 (.inl rfl) (.inr rfl) ⟨by decide, by decide⟩ ⟨by decide, by decide⟩ (by decide) (by have := HSZA.out; omega) rA0 rA1
    have lB := leafRow_of tB0 tB1 (.inl rfl) (.inl rfl) ⟨by decide, by decide⟩ ⟨by decide, by decide⟩ (by decide) (by decide) rB0 rB1
    have tcd := tA1.tc
    obtain ⟨un, uA, ua, uc, uB, ud, ue, uX, ul, uq, rfl⟩ := tA0.tc.seven
    obtain ⟨dn, dA, da, dc, dB, dd, de, dX, dl, dq, rfl⟩ := tA1.tc.seven
    obtain ⟨jn, jA, ja, jc, jB, jd, je, jX, jl, jq, rfl⟩ := tB0.tc.seven
    obtain ⟨kn, kA, ka, kc, kB, kd, ke, kX, kl, kq, rfl⟩ := tB1.tc.seven
    refine (unifyH_any B h G c s0 (by have := HSZ0.out; omega) 0 false aA aa ac aB ad ae ab ao aq 0 false bA ba bc bB bd be bb bo bq arrA arrB 3 0 sa dn dA da dc dB dd de dX dl dq _ kn kA ka kc kB kd ke kX kl kq _ un uA ua uc uB ud ue uX ul uq _ jn jA ja jc jB jd je jX jl jq (by decide) ⟨by decide, by decide⟩ ⟨by decide, by decide⟩ lA lB rA0 rA1 rB0 rB1 W (Nat.le_trans HB.out hwW.size) hA hB' hne (HS0.out.below hwW)).mono ?_
    rintro e w' ⟨rfl, ⟨tr, m, ys, h1⟩, h2, h3⟩
    have hg := ((HG0.out.to hwW).frT h2 (by decide))
    exact ⟨rfl, ⟨⟨3, 0, sa, dn, dA, da, dc, dB, dd, de, dX, dl, dq, tr, m, ys, by decide, by decide, tc_leaf_any tcd, h1⟩, hg, (hwW.mono HB.out).trans h3, (FrT.of_below hwW).trans h2⟩, HSS.out _ hg (((HX1.out.to hb1)).frT h2 (by decide)) ((HY1.out.to hb1).frT h2 (by decide))⟩
  clear HB HS0 HG0 HX0 HY0 HSZ0 HSZA HW1 HX1 HY1 HD1 HSS
  go_wp2_with fail
  go_region_held3 (fun w' => w'.cell? ⟨g, 0, none⟩ = some (.pointer (some ⟨h, 0, none⟩)) ∧ w'.cell? ⟨w.heap.size, 0, none⟩ = some (.int .i64 5) ∧ w'.cell? ⟨w.heap.size, 1, none⟩ = some (.int .i64 0) ∧ w'.cell? ⟨w.heap.size, 2, none⟩ = some (.string s0) ∧ w'.cell? ⟨w.heap.size, 3, none⟩ = some (.bool xn) ∧ w'.cell? ⟨w.heap.size, 4, none⟩ = some (.slice xA xa xc) ∧ w'.cell? ⟨w.heap.size, 5, none⟩ = some (.slice xB xd xe) ∧ w'.cell? ⟨w.heap.size, 6, none⟩ = some (.slice xX 2 xq) ∧ w'.cell? ⟨w.heap.size + 1, 0, none⟩ = some (.int .i64 5) ∧ w'.cell? ⟨w.heap.size + 1, 1, none⟩ = some (.int .i64 0) ∧ w'.cell? ⟨w.heap.size + 1, 2, none⟩ = some (.string s0) ∧ w'.cell? ⟨w.heap.size + 1, 3, none⟩ = some (.bool yn) ∧ w'.cell? ⟨w.heap.size + 1, 4, none⟩ = some (.slice yA ya yc) ∧ w'.cell? ⟨w.heap.size + 1, 5, none⟩ = some (.slice yB yd ye) ∧ w'.cell? ⟨w.heap.size + 1, 6, none⟩ = some (.slice yX 2 yq))
    (with_reducible assumption)
    (first
      | (go_at_call 53; (with_reducible refine HCA.out.mono ?_); rintro e y1 ⟨aA, aa, ac, aB, ad, ae, ab, ao, aq, rfl, HA1, hS2⟩)
      | (go_at_call 53; (with_reducible refine (HCB.out _ aA aa ac aB ad ae ab ao aq HA1).mono ?_); rintro e y2 ⟨bA, ba, bc, bB, bd, be, bb, bo, bq, rfl, HA2, hS3⟩)
      | (go_at_call 68; (with_reducible refine (HUN.out _ aA aa ac aB ad ae ab ao aq bA ba bc bB bd be bb bo bq HA2).mono ?_); rintro e y3 ⟨rfl, HA3, hS4⟩))
  go_wp2_with fail
  go_ret3
  exact ⟨rfl, HA3.out⟩
end Go.Proofs.YtkfnpcilanheiaaGreat
